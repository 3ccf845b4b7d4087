/- One element in a list at any place; a cut through two sorted lists that are merged by parts (the library's symMerge); a sorted list with one more element. Plain laws. -/
import Derived.Test.YtohbkohidpgjpaaGreatDoorStbMath
namespace Go.Proofs.YtohbkohidpgjpaaGreatDoor

section
variable {α : Type} {key : α → Int}
/-- x put in ahead of the k-th element -/
def slot (S : List α) (x : α) (k : Nat) : List α := S.take k ++ x :: S.drop k
theorem slot_len (S : List α) (x : α) (k : Nat) : (slot S x k).length = S.length + 1 := by
  rw [slot, List.length_append, List.length_cons, List.length_take, List.length_drop]; omega
theorem slot_zero (S : List α) (x : α) : slot S x 0 = x :: S := rfl
theorem slot_end (S : List α) (x : α) : slot S x S.length = S ++ [x] := by
  rw [slot, List.take_length, List.drop_length]
/-- the array A, S with x at place k, D -/
def arr (A S : List α) (x : α) (k : Nat) (D : List α) : List α := A ++ (slot S x k ++ D)
theorem arr_at {A S : List α} {x : α} {k : Nat} {D : List α} (h : k ≤ S.length) : (arr A S x k D)[A.length + k]? = some x := by
  rw [arr, List.getElem?_append_right (by omega), Nat.add_sub_cancel_left, slot, List.append_assoc, List.getElem?_append_right (by rw [List.length_take]; omega), List.length_take, show k - min k S.length = 0 from by omega]; rfl
theorem arr_lo {A S : List α} {x y : α} {k : Nat} {D : List α} (h : S[k]? = some y) : (arr A S x (k + 1) D)[A.length + k]? = some y := by
  obtain ⟨hk, rfl⟩ := List.getElem?_eq_some_iff.1 h
  rw [arr, List.getElem?_append_right (by omega), Nat.add_sub_cancel_left, slot, List.append_assoc, List.getElem?_append_left (by rw [List.length_take]; omega), List.getElem?_take, if_pos (by omega), h]
theorem arr_hi {A S : List α} {x y : α} {k : Nat} {D : List α} (h : S[k]? = some y) : (arr A S x k D)[A.length + (k + 1)]? = some y := by
  obtain ⟨hk, rfl⟩ := List.getElem?_eq_some_iff.1 h
  rw [arr, List.getElem?_append_right (by omega), Nat.add_sub_cancel_left, slot, List.append_assoc, List.getElem?_append_right (by rw [List.length_take]; omega), List.length_take, show k + 1 - min k S.length = 0 + 1 from by omega, List.cons_append, List.getElem?_cons_succ, List.drop_eq_getElem_cons hk]; rfl
theorem set_two {P : List α} {x y : α} {Q : List α} {i : Nat} (h : P.length = i) : ((P ++ y :: x :: Q).set (i + 1) y).set i x = P ++ x :: y :: Q := by
  subst h
  rw [List.set_append, if_neg (by omega), show P.length + 1 - P.length = 1 from by omega, List.set_append, if_neg (by omega), Nat.sub_self]; rfl
theorem arr_parts {A S : List α} {x y : α} {k : Nat} {D : List α} (h : S[k]? = some y) :
    arr A S x (k + 1) D = (A ++ S.take k) ++ y :: x :: (S.drop (k + 1) ++ D) ∧ arr A S x k D = (A ++ S.take k) ++ x :: y :: (S.drop (k + 1) ++ D) ∧ (A ++ S.take k).length = A.length + k := by
  obtain ⟨hk, rfl⟩ := List.getElem?_eq_some_iff.1 h
  refine ⟨?_, ?_, by rw [List.length_append, List.length_take]; omega⟩
  · rw [arr, slot, List.take_succ_eq_append_getElem hk]; simp only [List.append_assoc, List.cons_append, List.nil_append]
  · rw [arr, slot, List.drop_eq_getElem_cons hk]; simp only [List.append_assoc, List.cons_append]
theorem arr_down {A S : List α} {x y : α} {k : Nat} {D : List α} (h : S[k]? = some y) : ((arr A S x (k + 1) D).set (A.length + (k + 1)) y).set (A.length + k) x = arr A S x k D := by
  obtain ⟨h1, h2, h3⟩ := arr_parts (A := A) (x := x) (D := D) h
  rw [h1, h2]; exact set_two h3
theorem arr_up {A S : List α} {x y : α} {k : Nat} {D : List α} (h : S[k]? = some y) : ((arr A S x k D).set (A.length + k) y).set (A.length + (k + 1)) x = arr A S x (k + 1) D := by
  obtain ⟨h1, h2, h3⟩ := arr_parts (A := A) (x := x) (D := D) h
  rw [h1, h2, List.set_comm _ _ (by omega)]; exact set_two h3
theorem arr_len (A S : List α) (x : α) (k : Nat) (D : List α) : (arr A S x k D).length = A.length + (S.length + 1) + D.length := by
  rw [arr, List.length_append, List.length_append, slot_len]; omega

theorem srt_get {L : List α} (h : Srt key L) {i j : Nat} (hij : i ≤ j) {x y : α} (hx : L[i]? = some x) (hy : L[j]? = some y) : key x ≤ key y := by
  obtain ⟨h1, rfl⟩ := List.getElem?_eq_some_iff.1 hx
  obtain ⟨h2, rfl⟩ := List.getElem?_eq_some_iff.1 hy
  rcases Nat.lt_or_ge i j with h3 | h3
  · exact List.pairwise_iff_getElem.1 h i j h1 h2 h3
  · obtain rfl : i = j := by omega
    exact Int.le_refl _
theorem of_take {L : List α} {s : Nat} {x : α} (h : x ∈ L.take s) : ∃ i, i < s ∧ L[i]? = some x := by
  obtain ⟨i, hi⟩ := List.getElem?_of_mem h
  rw [List.getElem?_take] at hi
  split at hi
  · exact ⟨i, by assumption, hi⟩
  · cases hi
theorem of_drop {L : List α} {s : Nat} {x : α} (h : x ∈ L.drop s) : ∃ i, s ≤ i ∧ L[i]? = some x := by
  obtain ⟨i, hi⟩ := List.getElem?_of_mem h
  rw [List.getElem?_drop] at hi
  exact ⟨s + i, by omega, hi⟩
/-- the search's two halves: what it knows on the left, what on the right -/
def CutL (key : α → Int) (U V : List α) (s t : Nat) : Prop := ∀ x y, 0 < s → U[s - 1]? = some x → V[t]? = some y → key x ≤ key y
def CutR (key : α → Int) (U V : List α) (s t : Nat) : Prop := ∀ x y, 0 < t → V[t - 1]? = some y → U[s]? = some x → key y < key x
theorem cut_merge {U V M1 M2 : List α} {s t : Nat} (hU : Srt key U) (hV : Srt key V) (h1 : CutL key U V s t) (h2 : CutR key U V s t) (hs : s ≤ U.length) (ht : t ≤ V.length)
    (m1 : Stb key (U.take s ++ V.take t) M1) (m2 : Stb key (U.drop s ++ V.drop t) M2) : Stb key (U ++ V) (M1 ++ M2) := by
  have := Stb.split (u1 := U.take s) (u2 := U.drop s) (v1 := V.take t) (v2 := V.drop t) (by rw [List.take_append_drop]; exact hU) (by rw [List.take_append_drop]; exact hV) ?_ ?_ m1 m2
  · rwa [List.take_append_drop, List.take_append_drop] at this
  · intro x hx y hy
    obtain ⟨i, hi, hx⟩ := of_take hx
    obtain ⟨j, hj, hy⟩ := of_drop hy
    have hl1 := (List.getElem?_eq_some_iff.1 hx).1
    have hl2 := (List.getElem?_eq_some_iff.1 hy).1
    have e1 := srt_get hU (show i ≤ s - 1 by omega) hx (List.getElem?_eq_getElem (by omega))
    have e2 := srt_get hV hj (List.getElem?_eq_getElem (by omega)) hy
    have := h1 _ _ (by omega) (List.getElem?_eq_getElem (show s - 1 < U.length by omega)) (List.getElem?_eq_getElem (show t < V.length by omega))
    omega
  · intro y hy x hx
    obtain ⟨i, hi, hy⟩ := of_take hy
    obtain ⟨j, hj, hx⟩ := of_drop hx
    have hl1 := (List.getElem?_eq_some_iff.1 hx).1
    have hl2 := (List.getElem?_eq_some_iff.1 hy).1
    have e1 := srt_get hV (show i ≤ t - 1 by omega) hy (List.getElem?_eq_getElem (by omega))
    have e2 := srt_get hU hj (List.getElem?_eq_getElem (by omega)) hx
    have := h2 _ _ (by omega) (List.getElem?_eq_getElem (show t - 1 < V.length by omega)) (List.getElem?_eq_getElem (show s < U.length by omega))
    omega
/-- one element, ahead of a sorted list, put in its place -/
theorem slot_front {V : List α} {u : α} {s : Nat} (hV : Srt key V) (h1 : ∀ y, 0 < s → V[s - 1]? = some y → key y < key u) (h2 : ∀ y, V[s]? = some y → key u ≤ key y) (hs : s ≤ V.length) : Stb key (u :: V) (slot V u s) := by
  have := Stb.cons (key := key) (A := V.take s) (B := V.drop s) (e := u) (by rw [List.take_append_drop]; exact hV) ?_ ?_
  · rwa [List.take_append_drop] at this
  · intro x hx
    obtain ⟨i, hi, hx⟩ := of_take hx
    have := srt_get hV (show i ≤ s - 1 by omega) hx (List.getElem?_eq_getElem (by omega))
    have := h1 _ (by omega) (List.getElem?_eq_getElem (show s - 1 < V.length by omega))
    omega
  · intro x hx
    obtain ⟨i, hi, hx⟩ := of_drop hx
    have hl := (List.getElem?_eq_some_iff.1 hx).1
    have := srt_get hV hi (List.getElem?_eq_getElem (by omega)) hx
    have := h2 _ (List.getElem?_eq_getElem (show s < V.length by omega))
    omega
/-- one element, behind a sorted list, put in its place -/
theorem slot_back {V : List α} {u : α} {s : Nat} (hV : Srt key V) (h1 : ∀ y, 0 < s → V[s - 1]? = some y → key y ≤ key u) (h2 : ∀ y, V[s]? = some y → key u < key y) (hs : s ≤ V.length) : Stb key (V ++ [u]) (slot V u s) := by
  have := Stb.snoc (key := key) (A := V.take s) (B := V.drop s) (e := u) (by rw [List.take_append_drop]; exact hV) ?_ ?_
  · rwa [List.take_append_drop] at this
  · intro x hx
    obtain ⟨i, hi, hx⟩ := of_take hx
    have := srt_get hV (show i ≤ s - 1 by omega) hx (List.getElem?_eq_getElem (by omega))
    have := h1 _ (by omega) (List.getElem?_eq_getElem (show s - 1 < V.length by omega))
    omega
  · intro x hx
    obtain ⟨i, hi, hx⟩ := of_drop hx
    have hl := (List.getElem?_eq_some_iff.1 hx).1
    have := srt_get hV hi (List.getElem?_eq_getElem (by omega)) hx
    have := h2 _ (List.getElem?_eq_getElem (show s < V.length by omega))
    omega
end
end Go.Proofs.YtohbkohidpgjpaaGreatDoor
