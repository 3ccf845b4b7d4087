/- Merging of two traces: the stable order of all their events is one; the reference's way of merging, its steps. Plain laws. -/
import Derived.Test.YtohbkohidpgjpaaGreatDoorEvList
import Derived.Test.YtohbkohidpgjpaaGreatDoorSmMath
namespace Go.Proofs.YtohbkohidpgjpaaGreatDoor
open Go.RowKit

open Classical in
/-- the events, stably sorted by their ticks -/
noncomputable def stbE (L : List Ev) : List Ev := if h : ∃ M, Stb Ev.t L M then h.choose else []
theorem stbE_eq {L M : List Ev} (h : Stb Ev.t L M) : stbE L = M := by
  have he : ∃ M, Stb Ev.t L M := ⟨M, h⟩
  unfold stbE
  rw [dif_pos he]
  exact Stb.uniq he.choose_spec h
noncomputable def mgB (xs ys : List Ev) : Bool := tsB xs && (tsB ys && decide (xs.length + ys.length ≤ 30))
noncomputable def mgL (xs ys : List Ev) : List Ev := if mgB xs ys = true then stbE (xs ++ ys) else []
theorem mgL_no {xs ys : List Ev} (h : mgB xs ys = false) : mgL xs ys = [] := by rw [mgL, h]; rfl
theorem mgL_yes {xs ys M : List Ev} (h : mgB xs ys = true) (hM : Stb Ev.t (xs ++ ys) M) : mgL xs ys = M := by rw [mgL, if_pos h]; exact stbE_eq hM
theorem srt_of_next {α : Type} {key : α → Int} : ∀ {L : List α}, (∀ k (h : k + 1 < L.length), key L[k] ≤ key L[k + 1]) → Srt key L
  | [], _ => List.Pairwise.nil
  | [x], _ => List.pairwise_singleton _ _
  | x :: y :: r, h => by
    have h1 : Srt key (y :: r) := srt_of_next (fun k hk => h (k + 1) (by simp at hk ⊢; omega))
    have h0 : key x ≤ key y := h 0 (by simp)
    refine List.pairwise_cons.2 ⟨fun z hz => ?_, h1⟩
    rcases List.mem_cons.1 hz with rfl | hz
    · exact h0
    · have := (List.pairwise_cons.1 h1).1 z hz
      omega
theorem srt_of_ts {xs : List Ev} (h : tsB xs = true) : Srt Ev.t xs := srt_of_next (tsB_true.1 h).2.2
theorem ts_of_srt {xs : List Ev} (h : Srt Ev.t xs) (hl : xs.length ≤ 30) (he : ∀ x ∈ xs, evB x = true) : tsB xs = true :=
  tsB_true.2 ⟨hl, fun k hk => he _ (List.getElem_mem hk), fun k hk => List.pairwise_iff_getElem.1 h k (k + 1) (by omega) hk (by omega)⟩
theorem ts_mem {xs : List Ev} (h : tsB xs = true) (x : Ev) (hx : x ∈ xs) : evB x = true := by
  obtain ⟨i, hi, rfl⟩ := List.getElem_of_mem hx
  exact (tsB_true.1 h).2.1 i hi
/-- where the reference's merge stands: O holds the first i of xs and the first k of ys -/
def MgI (xs ys : List Ev) (i k : Nat) (O : List Ev) : Prop := Stb Ev.t (xs.take i ++ ys.take k) O ∧ (∀ (y : Ev), ys[k]? = some y → ∀ o ∈ O, o.t ≤ y.t) ∧
  ∀ (x : Ev), xs[i]? = some x → (∀ o ∈ O, o.t ≤ x.t) ∧ ∀ y ∈ ys.take k, y.t < x.t
theorem MgI.zero (xs ys : List Ev) : MgI xs ys 0 0 [] := ⟨Stb.self List.Pairwise.nil, fun _ _ _ h => by simp at h, fun _ _ => ⟨fun _ h => by simp at h, fun _ h => by simp at h⟩⟩
theorem mem_take_le {xs : List Ev} (h : Srt Ev.t xs) {i : Nat} {x y : Ev} (hx : xs[i]? = some x) (hy : xs[i + 1]? = some y) : x.t ≤ y.t := srt_get h (Nat.le_succ i) hx hy
theorem take_snoc {xs : List Ev} {i : Nat} {x : Ev} (h : xs[i]? = some x) : xs.take (i + 1) = xs.take i ++ [x] := by
  obtain ⟨h1, h2⟩ := List.getElem?_eq_some_iff.1 h
  rw [List.take_succ_eq_append_getElem h1, h2]
theorem MgI.right {xs ys O : List Ev} {i k : Nat} {x y : Ev} (hy0 : Srt Ev.t ys) (h : MgI xs ys i k O) (hx : xs[i]? = some x) (hy : ys[k]? = some y) (hlt : y.t < x.t) : MgI xs ys i (k + 1) (O ++ [y]) := by
  obtain ⟨h1, h2, h3⟩ := h
  obtain ⟨h4, h5⟩ := h3 x hx
  refine ⟨⟨List.pairwise_append.2 ⟨h1.1, List.pairwise_singleton _ _, fun o ho z hz => by rw [List.mem_singleton.1 hz]; exact h2 y hy o ho⟩, fun j => ?_⟩, fun z hz o ho => ?_, fun z hz => ⟨fun o ho => ?_, fun o ho => ?_⟩⟩
  · rw [take_snoc hy, ← List.append_assoc, fk_app, h1.2 j, fk_app _ _ [y]]
  · have hle := mem_take_le hy0 hy hz
    rcases List.mem_append.1 ho with ho | ho
    · have := h2 y hy o ho; omega
    · rw [List.mem_singleton.1 ho]; exact hle
  · rw [hx] at hz; cases hz
    rcases List.mem_append.1 ho with ho | ho
    · exact h4 o ho
    · rw [List.mem_singleton.1 ho]; omega
  · rw [hx] at hz; cases hz
    rw [take_snoc hy] at ho
    rcases List.mem_append.1 ho with ho | ho
    · exact h5 o ho
    · rw [List.mem_singleton.1 ho]; exact hlt
theorem MgI.left {xs ys O : List Ev} {i k : Nat} {x : Ev} (hx0 : Srt Ev.t xs) (h : MgI xs ys i k O) (hx : xs[i]? = some x) (hge : ∀ y, ys[k]? = some y → ¬ y.t < x.t) : MgI xs ys (i + 1) k (O ++ [x]) := by
  obtain ⟨h1, h2, h3⟩ := h
  obtain ⟨h4, h5⟩ := h3 x hx
  refine ⟨⟨List.pairwise_append.2 ⟨h1.1, List.pairwise_singleton _ _, fun o ho z hz => by rw [List.mem_singleton.1 hz]; exact h4 o ho⟩, fun j => ?_⟩, fun z hz o ho => ?_, fun z hz => ⟨fun o ho => ?_, fun o ho => ?_⟩⟩
  · rw [take_snoc hx, fk_app, h1.2 j, fk_app, fk_app, fk_app, List.append_assoc, List.append_assoc]
    congr 1
    by_cases he : x.t = j
    · rw [fk_none (L := ys.take k) (fun y hy he2 => by have := h5 y hy; omega), List.nil_append, List.append_nil]
    · rw [show fk Ev.t j [x] = [] from by rw [fk_cons_ne he]; rfl, List.append_nil, List.nil_append]
  · have hge := hge z hz
    rcases List.mem_append.1 ho with ho | ho
    · exact h2 z hz o ho
    · rw [List.mem_singleton.1 ho]; omega
  · have hle := mem_take_le hx0 hx hz
    rcases List.mem_append.1 ho with ho | ho
    · have := h4 o ho; omega
    · rw [List.mem_singleton.1 ho]; exact hle
  · have hle := mem_take_le hx0 hx hz
    have := h5 o ho; omega
theorem MgI.done {xs ys O : List Ev} {k : Nat} (hy0 : Srt Ev.t ys) (h : MgI xs ys xs.length k O) : Stb Ev.t (xs ++ ys) (O ++ ys.drop k) := by
  obtain ⟨h1, h2, _⟩ := h
  rw [List.take_length] at h1
  refine ⟨List.pairwise_append.2 ⟨h1.1, hy0.sublist (List.drop_sublist k ys), fun o ho z hz => ?_⟩, fun j => ?_⟩
  · obtain ⟨m, hm, hz⟩ := of_drop hz
    have hl := (List.getElem?_eq_some_iff.1 hz).1
    have e := List.getElem?_eq_getElem (show k < ys.length by omega)
    have := h2 _ e o ho
    have := srt_get hy0 hm e hz
    omega
  · rw [fk_app, h1.2 j, fk_app, fk_app, List.append_assoc, ← fk_app j (ys.take k), List.take_append_drop]
/-- one event more: the trace with it is a trace just where both are, and there are at most 30 -/
theorem add_ts {xs : List Ev} {e : Ev} {s : Nat} (hx : tsB xs = true) (h1 : ∀ y, 0 < s → xs[s - 1]? = some y → y.t ≤ e.t) (h2 : ∀ y, xs[s]? = some y → e.t < y.t) (hs : s ≤ xs.length) : tsB (slot xs e s) = mgB xs [e] ∧ (mgB xs [e] = true → mgL xs [e] = slot xs e s) := by
  have hst := slot_back (key := Ev.t) (srt_of_ts hx) h1 h2 hs
  have hm : ∀ x, x ∈ slot xs e s ↔ x ∈ xs ∨ x = e := fun x => by rw [hst.mem, List.mem_append, List.mem_singleton]
  refine ⟨?_, fun h => mgL_yes h hst⟩
  cases hb : mgB xs [e] with
  | true =>
    simp only [mgB, Bool.and_eq_true, decide_eq_true_eq] at hb
    obtain ⟨_, h3, h4⟩ := hb
    refine ts_of_srt hst.1 (by rw [slot_len]; simpa using h4) fun x hx2 => ?_
    rcases (hm x).1 hx2 with h | rfl
    · exact ts_mem hx x h
    · exact ts_mem h3 x (List.mem_singleton_self _)
  | false =>
    cases ht : tsB (slot xs e s) with
    | false => rfl
    | true =>
      have h5 := (tsB_true.1 ht).1
      rw [slot_len] at h5
      have h6 : tsB [e] = true := ts_of_srt (List.pairwise_singleton _ _) (by simp) fun x hx2 => by
        rw [List.mem_singleton.1 hx2]
        exact ts_mem ht e ((hm e).2 (.inr rfl))
      rw [mgB, hx, h6, decide_eq_true (by simpa using h5)] at hb
      cases hb
end Go.Proofs.YtohbkohidpgjpaaGreatDoor
