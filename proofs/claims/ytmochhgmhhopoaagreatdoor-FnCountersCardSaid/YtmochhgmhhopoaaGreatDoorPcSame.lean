/- The reference's reading of a list of counters and the program's: the same lists. No program's text is walked here. -/
import Derived.Test.YtmochhgmhhopoaaGreatDoorPcMath
namespace Go.Proofs.YtmochhgmhhopoaaGreatDoor
open Go.RowKit

def m7T : ByteArray := ⟨#[49, 48, 48, 48, 48, 48, 48]⟩
/-- the reference's reading of a value, of a word -/
def valS (b : ByteArray) : Option Int := if (b.toList == m7T.toList) = true then some 1000000 else readO b
def rdS (w : ByteArray) : Option Ct := match spl 61 w.data.toList with
  | [a, b] => (valS ⟨b.toArray⟩).map fun v => ⟨⟨a.toArray⟩, v⟩
  | _ => none
/-- what lies before and behind the first byte c -/
def cutA (c : UInt8) (l : List UInt8) : List UInt8 := l.takeWhile (· != c)
def cutB (c : UInt8) (l : List UInt8) : List UInt8 := (l.dropWhile (· != c)).tail
/-- the program's reading of a word -/
def rdI (w : ByteArray) : Option Ct := (atoiO (cutB 61 w.data.toList)).map fun v => ⟨⟨(cutA 61 w.data.toList).toArray⟩, v⟩
theorem cut_miss {c : UInt8} : ∀ {l : List UInt8}, c ∉ l → cutA c l = l ∧ cutB c l = []
  | [], _ => ⟨rfl, rfl⟩
  | x :: l, h => by
    rw [List.mem_cons, not_or] at h
    have hx : (x != c) = true := by rw [bne_iff_ne]; exact fun e => h.1 e.symm
    have ih := cut_miss h.2
    unfold cutA cutB at *
    rw [List.takeWhile_cons, List.dropWhile_cons, hx, if_pos rfl, if_pos rfl, ih.1]
    exact ⟨rfl, ih.2⟩
theorem cut_hit {c : UInt8} {b : List UInt8} : ∀ {a : List UInt8}, c ∉ a → cutA c (a ++ c :: b) = a ∧ cutB c (a ++ c :: b) = b
  | [], _ => by simp [cutA, cutB]
  | x :: l, h => by
    rw [List.mem_cons, not_or] at h
    have hx : (x != c) = true := by rw [bne_iff_ne]; exact fun e => h.1 e.symm
    have ih := cut_hit (b := b) h.2
    unfold cutA cutB at *
    rw [List.cons_append, List.takeWhile_cons, List.dropWhile_cons, hx, if_pos rfl, if_pos rfl, ih.1]
    exact ⟨rfl, ih.2⟩
theorem CutP.eq {c : UInt8} {s a b : ByteArray} (h : CutP c s a b) : a.data.toList = cutA c s.data.toList ∧ b.data.toList = cutB c s.data.toList := by
  rcases h with ⟨rfl, rfl, hn⟩ | ⟨hs, hn⟩
  · rw [(cut_miss hn).1, (cut_miss hn).2]; exact ⟨rfl, rfl⟩
  · rw [hs, (cut_hit hn).1, (cut_hit hn).2]; exact ⟨rfl, rfl⟩
theorem ba_mk (s : ByteArray) : (⟨s.data.toList.toArray⟩ : ByteArray) = s := by rw [Array.toArray_toList]
def okCt (x : Ct) : Prop := nameB x.nm = true ∧ 0 ≤ x.vl ∧ x.vl ≤ 1000000
theorem rdI_one {x : Ct} (h : okCt x) : rdI (oneT x) = some x := by
  obtain ⟨nm, vl⟩ := x
  obtain ⟨h1, h2, h3⟩ := h
  obtain ⟨n, rfl⟩ : ∃ n : Nat, vl = n := Int.eq_ofNat_of_zero_le h2
  simp only at h1 h3
  have hc := cut_hit (b := (numT n).data.toList) (name_no h1 (.inr rfl))
  have hl : (oneT ⟨nm, n⟩).data.toList = nm.data.toList ++ 61 :: (numT n).data.toList := oneT_list _
  rw [rdI, hl, hc.1, hc.2, atoiO_num n (by omega), ba_mk]
  rfl
theorem rdS_one {x : Ct} (h : okCt x) : rdS (oneT x) = some x := by
  obtain ⟨nm, vl⟩ := x
  obtain ⟨h1, h2, h3⟩ := h
  obtain ⟨n, rfl⟩ : ∃ n : Nat, vl = n := Int.eq_ofNat_of_zero_le h2
  simp only at h1 h3
  have hs : spl 61 (oneT ⟨nm, n⟩).data.toList = [nm.data.toList, (numT n).data.toList] := spl_one h1
  have hv : valS (numT n) = some (n : Int) := by
    rw [valS]
    by_cases hn : n = 1000000
    · subst hn
      have : numT 1000000 = m7T := by
        rw [numT_ge (by decide), numT_ge (by decide), numT_ge (by decide), numT_ge (by decide), numT_ge (by decide), numT_ge (by decide), numT_lt (by decide)]; rfl
      rw [this, if_pos (by simp)]
      rfl
    · have hne : ((numT n).toList == m7T.toList) = false := by
        rw [beq_eq_false_iff_ne]
        intro e
        have hl := dec_len 5 n (by omega)
        have := congrArg List.length e
        rw [ByteArray.toList_eq, ByteArray.toList_eq, numT_list] at this
        have h7 : m7T.data.toList.length = 7 := rfl
        omega
      rw [hne, if_neg Bool.false_ne_true]
      exact readO_num n (by omega)
  rw [rdS, hs]
  simp only [ba_mk, hv]
  rfl
def wordsOf (s : ByteArray) : List ByteArray := (spl 32 s.data.toList).map fun l => ⟨l.toArray⟩
/-- reading a text by its words -/
def pcR (f : ByteArray → Option Ct) (s : ByteArray) : Option (List Ct) :=
  if ((wordsOf s).all fun w => (f w).isSome) = true then
    if ctB ((wordsOf s).filterMap f) = true ∧ txN ((wordsOf s).filterMap f) ((wordsOf s).filterMap f).length = s then some ((wordsOf s).filterMap f) else none
  else none
theorem ctB_ok {xs : List Ct} (h : ctB xs = true) : ∀ x ∈ xs, okCt x := by
  intro x hx
  obtain ⟨k, hk, rfl⟩ := List.getElem_of_mem hx
  have h1 := (ctB_true h).2.1 k hk
  rw [goodCt, Bool.and_eq_true, inR_true] at h1
  exact ⟨h1.1, h1.2.1, h1.2.2⟩
theorem words_text {xs : List Ct} (h : ctB xs = true) (h0 : 0 < xs.length) : wordsOf (txN xs xs.length) = xs.map oneT := by
  rw [wordsOf, spl_text (fun x hx => (ctB_ok h x hx).1) xs.length h0 (Nat.le_refl _), List.take_length, List.map_map]
  exact List.map_congr_left fun x _ => ba_mk _
theorem pcR_iff {f : ByteArray → Option Ct} (hf : ∀ x, okCt x → f (oneT x) = some x) {s : ByteArray} (hs : s.size ≠ 0) (xs : List Ct) : pcR f s = some xs ↔ ctB xs = true ∧ txN xs xs.length = s := by
  constructor
  · intro h
    unfold pcR at h
    split at h
    · split at h
      · cases h; assumption
      · cases h
    · cases h
  · rintro ⟨hB, rfl⟩
    have h0 : 0 < xs.length := by
      rcases Nat.eq_zero_or_pos xs.length with h | h
      · rw [h] at hs; exact absurd rfl hs
      · exact h
    have hw := words_text hB h0
    have hm : ∀ ys : List Ct, (∀ x ∈ ys, okCt x) → (ys.map oneT).filterMap f = ys := by
      intro ys hy
      induction ys with
      | nil => rfl
      | cons y ys ih => rw [List.map_cons, List.filterMap_cons, hf y (hy y (List.mem_cons_self ..)), ih fun x hx => hy x (List.mem_cons_of_mem _ hx)]
    have ha : ((xs.map oneT).all fun w => (f w).isSome) = true := by
      rw [List.all_eq_true]
      intro w hw
      obtain ⟨x, hx, rfl⟩ := List.mem_map.1 hw
      rw [hf x (ctB_ok hB x hx)]; rfl
    rw [pcR, hw, if_pos ha, hm xs (ctB_ok hB), if_pos ⟨hB, rfl⟩]
theorem pcR_same {s : ByteArray} (hs : s.size ≠ 0) : pcR rdS s = pcR rdI s := by
  apply Option.ext
  intro xs
  rw [pcR_iff (fun x h => rdS_one h) hs, pcR_iff (fun x h => rdI_one h) hs]
theorem pcR_long {f : ByteArray → Option Ct} (hf : ∀ x, okCt x → f (oneT x) = some x) {s : ByteArray} (h : 360 < s.size) : pcR f s = none := by
  cases hx : pcR f s with
  | none => rfl
  | some xs =>
    obtain ⟨h1, h2⟩ := (pcR_iff hf (by omega) xs).1 hx
    have := txN_short h1
    rw [h2] at this
    omega
end Go.Proofs.YtmochhgmhhopoaaGreatDoor
