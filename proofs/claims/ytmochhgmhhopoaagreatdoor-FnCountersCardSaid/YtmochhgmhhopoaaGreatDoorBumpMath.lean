/- Counters bumped, in plain Lean. -/
import Derived.Test.YtmochhgmhhopoaaGreatDoorCntMath
namespace Go.Proofs.YtmochhgmhhopoaaGreatDoor
open Go.RowKit

theorem bytes_same {a b : ByteArray} (h : a.toList = b.toList) : a = b := by
  rw [ByteArray.toList_eq, ByteArray.toList_eq] at h
  exact ByteArray.ext (Array.toList_inj.1 h)
def vlAt (xs : List Ct) (k : Nat) : Int := match xs[k]? with
  | none => 0
  | some x => x.vl
theorem vlAt_eq (xs : List Ct) (k : Nat) (h : k < xs.length) : vlAt xs k = xs[k].vl := by rw [vlAt, List.getElem?_eq_getElem h]
/-- a list with a counter bumped -/
def bumpL (xs : List Ct) (s : ByteArray) (n : Int) : List Ct :=
  if hitB xs s.toList = true then xs.take (posN xs s.toList) ++ (⟨s, n + vlAt xs (posN xs s.toList)⟩ : Ct) :: xs.drop (posN xs s.toList + 1)
  else xs.take (posN xs s.toList) ++ (⟨s, n⟩ : Ct) :: xs.drop (posN xs s.toList)
theorem bumpL_hit {xs : List Ct} {s : ByteArray} (n : Int) (h : hitB xs s.toList = true) : bumpL xs s n = xs.take (posN xs s.toList) ++ (⟨s, n + vlAt xs (posN xs s.toList)⟩ : Ct) :: xs.drop (posN xs s.toList + 1) := by rw [bumpL, if_pos h]
theorem bumpL_miss {xs : List Ct} {s : ByteArray} (n : Int) (h : hitB xs s.toList = false) : bumpL xs s n = xs.take (posN xs s.toList) ++ (⟨s, n⟩ : Ct) :: xs.drop (posN xs s.toList) := by rw [bumpL, if_neg (by rw [h]; exact Bool.false_ne_true)]
/-- the one that stands there is set -/
theorem bumpL_set {xs : List Ct} {s : ByteArray} (n : Int) (h : hitB xs s.toList = true) : ∃ hk : posN xs s.toList < xs.length, bumpL xs s n = xs.set (posN xs s.toList) ⟨xs[posN xs s.toList].nm, xs[posN xs s.toList].vl + n⟩ := by
  obtain ⟨hk, he⟩ := hitB_true.1 h
  refine ⟨hk, ?_⟩
  rw [bumpL_hit n h, vlAt_eq xs _ hk, bytes_same he, List.set_eq_take_append_cons_drop, if_pos hk, Int.add_comm]
theorem bumpL_length (xs : List Ct) (s : ByteArray) (n : Int) : (bumpL xs s n).length ≤ xs.length + 1 := by
  have h1 := posN_le xs s.toList
  unfold bumpL
  split <;> simp <;> omega
theorem bumpL_mem {xs : List Ct} {s : ByteArray} {n : Int} {P : Ct → Prop} (h : ∀ x ∈ xs, P x) (h1 : P ⟨s, n + vlAt xs (posN xs s.toList)⟩) (h2 : P ⟨s, n⟩) : ∀ x ∈ bumpL xs s n, P x := by
  intro x hx
  unfold bumpL at hx
  split at hx
  · rcases List.mem_append.1 hx with hx | hx
    · exact h x (List.mem_of_mem_take hx)
    · rcases List.mem_cons.1 hx with rfl | hx
      · exact h1
      · exact h x (List.mem_of_mem_drop hx)
  · rcases List.mem_append.1 hx with hx | hx
    · exact h x (List.mem_of_mem_take hx)
    · rcases List.mem_cons.1 hx with rfl | hx
      · exact h2
      · exact h x (List.mem_of_mem_drop hx)
theorem ups_iff (xs : List Ct) : Ups xs ↔ (xs.map Ct.k).Pairwise (fun a b => Op.bytesLess a b = true) := by
  constructor
  · intro h
    rw [List.pairwise_iff_getElem]
    intro i j hi hj hij
    simp only [List.getElem_map]
    exact h.lt i j hij (by simpa using hj)
  · intro h k hk
    have := List.pairwise_iff_getElem.1 h k (k + 1) (by simp; omega) (by simpa using hk) (by omega)
    simpa only [List.getElem_map] using this
theorem bumpL_ups {xs : List Ct} (h : Ups xs) (s : ByteArray) (n : Int) : Ups (bumpL xs s n) := by
  rw [ups_iff] at h ⊢
  cases hb : hitB xs s.toList with
  | true =>
    obtain ⟨hk, he⟩ := bumpL_set n hb
    rw [he, List.map_set]
    have hs : (xs.map Ct.k).set (posN xs s.toList) (Ct.k ⟨xs[posN xs s.toList].nm, xs[posN xs s.toList].vl + n⟩) = xs.map Ct.k := by
      have h1 : (xs.map Ct.k)[posN xs s.toList]'(by simpa using hk) = Ct.k ⟨xs[posN xs s.toList].nm, xs[posN xs s.toList].vl + n⟩ := by rw [List.getElem_map]
      rw [← h1]; exact List.set_getElem_self _
    rw [hs]; exact h
  | false =>
    have h0 : Ups xs := (ups_iff xs).2 h
    rw [bumpL_miss n hb]
    have hx : xs = xs.take (posN xs s.toList) ++ xs.drop (posN xs s.toList) := (List.take_append_drop _ _).symm
    have ha : ∀ a ∈ (xs.take (posN xs s.toList)).map Ct.k, Op.bytesLess a s.toList = true := by
      intro a ha
      obtain ⟨x, hx, rfl⟩ := List.mem_map.1 ha
      obtain ⟨j, hj, rfl⟩ := List.getElem_of_mem hx
      rw [List.length_take] at hj
      rw [List.getElem_take]
      exact pos_lt xs s.toList j (by omega) (by omega)
    have hc : ∀ a ∈ (xs.drop (posN xs s.toList)).map Ct.k, Op.bytesLess s.toList a = true := by
      intro a ha
      obtain ⟨x, hx, rfl⟩ := List.mem_map.1 ha
      obtain ⟨j, hj, rfl⟩ := List.getElem_of_mem hx
      rw [List.length_drop] at hj
      rw [List.getElem_drop]
      have hp : posN xs s.toList < xs.length := by omega
      have h1 := pos_at xs s.toList hp
      have h2 : Op.bytesLess s.toList xs[posN xs s.toList].k = true := by
        cases hl : Op.bytesLess s.toList xs[posN xs s.toList].k with
        | true => rfl
        | false =>
          have he := bl_total h1 hl
          rw [hitB_true.2 ⟨hp, he⟩] at hb; cases hb
      rcases Nat.eq_zero_or_pos j with rfl | hj0
      · exact h2
      · exact bl_trans h2 (h0.lt _ _ (by omega) (by omega))
    rw [hx, List.map_append, List.pairwise_append] at h
    rw [List.map_append, List.map_cons, List.pairwise_append, List.pairwise_cons]
    refine ⟨h.1, ⟨hc, h.2.1⟩, fun a ha' b hb' => ?_⟩
    rcases List.mem_cons.1 hb' with rfl | hb'
    · exact ha a ha'
    · exact bl_trans (ha a ha') (hc b hb')
end Go.Proofs.YtmochhgmhhopoaaGreatDoor
