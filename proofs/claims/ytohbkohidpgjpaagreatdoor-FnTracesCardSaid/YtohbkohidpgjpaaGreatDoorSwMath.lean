/- Two parts of equal length changed for each other, element by element; two neighbouring parts turned. Plain laws. -/
import Derived.Test.YtohbkohidpgjpaaGreatDoorSmMath
namespace Go.Proofs.YtohbkohidpgjpaaGreatDoor

section
variable {α : Type}
/-- X p Y q Z, the first i of p and q changed -/
def swr (X p Y q Z : List α) (i : Nat) : List α := X ++ ((q.take i ++ p.drop i) ++ (Y ++ ((p.take i ++ q.drop i) ++ Z)))
theorem swr_zero (X p Y q Z : List α) : swr X p Y q Z 0 = X ++ (p ++ (Y ++ (q ++ Z))) := rfl
theorem swr_full (X p Y q Z : List α) (h : p.length = q.length) : swr X p Y q Z p.length = X ++ (q ++ (Y ++ (p ++ Z))) := by
  rw [swr, List.take_length, List.drop_length, h, List.take_length, List.drop_length, List.append_nil, List.append_nil]
theorem set_far {P C D : List α} {x y : α} {i j : Nat} (hi : P.length = i) (hj : P.length + 1 + C.length = j) : ((P ++ x :: (C ++ y :: D)).set i y).set j x = P ++ y :: (C ++ x :: D) := by
  subst hi; subst hj
  rw [List.set_append, if_neg (by omega), Nat.sub_self, List.set_cons_zero, List.set_append, if_neg (by omega), show P.length + 1 + C.length - P.length = C.length + 1 from by omega, List.set_cons_succ, List.set_append, if_neg (by omega), Nat.sub_self, List.set_cons_zero]
theorem swr_parts {X p Y q Z : List α} {i : Nat} {x y : α} (h : p.length = q.length) (hx : p[i]? = some x) (hy : q[i]? = some y) :
    swr X p Y q Z i = (X ++ q.take i) ++ x :: ((p.drop (i + 1) ++ (Y ++ p.take i)) ++ y :: (q.drop (i + 1) ++ Z)) ∧ swr X p Y q Z (i + 1) = (X ++ q.take i) ++ y :: ((p.drop (i + 1) ++ (Y ++ p.take i)) ++ x :: (q.drop (i + 1) ++ Z)) ∧ (X ++ q.take i).length = X.length + i ∧ (X ++ q.take i).length + 1 + (p.drop (i + 1) ++ (Y ++ p.take i)).length = X.length + p.length + Y.length + i := by
  obtain ⟨h1, rfl⟩ := List.getElem?_eq_some_iff.1 hx
  obtain ⟨h2, rfl⟩ := List.getElem?_eq_some_iff.1 hy
  refine ⟨?_, ?_, by rw [List.length_append, List.length_take]; omega, by simp only [List.length_append, List.length_take, List.length_drop]; omega⟩
  · rw [swr, List.drop_eq_getElem_cons h1, List.drop_eq_getElem_cons h2]; simp only [List.append_assoc, List.cons_append]
  · rw [swr, List.take_succ_eq_append_getElem h1, List.take_succ_eq_append_getElem h2]; simp only [List.append_assoc, List.cons_append, List.nil_append]
theorem get_mid {P D : List α} {x : α} {i : Nat} (h : P.length = i) : (P ++ x :: D)[i]? = some x := by
  subst h
  rw [List.getElem?_append_right (Nat.le_refl _), Nat.sub_self]; rfl
theorem swr_at {X p Y q Z : List α} {i : Nat} {x y : α} (h : p.length = q.length) (hx : p[i]? = some x) (hy : q[i]? = some y) :
    (swr X p Y q Z i)[X.length + i]? = some x ∧ (swr X p Y q Z i)[X.length + p.length + Y.length + i]? = some y ∧ ((swr X p Y q Z i).set (X.length + i) y).set (X.length + p.length + Y.length + i) x = swr X p Y q Z (i + 1) := by
  obtain ⟨e1, e2, e3, e4⟩ := swr_parts (X := X) (Y := Y) (Z := Z) h hx hy
  refine ⟨?_, ?_, ?_⟩
  · rw [e1]; exact get_mid e3
  · rw [e1, ← List.cons_append, ← List.append_assoc]
    exact get_mid (by rw [← e4, List.length_append, List.length_cons]; omega)
  · rw [e1, e2]; exact set_far e3 e4
theorem swr_len {X p Y q Z : List α} {i : Nat} (h : p.length = q.length) (hi : i ≤ p.length) : (swr X p Y q Z i).length = X.length + p.length + Y.length + p.length + Z.length := by
  simp only [swr, List.length_append, List.length_take, List.length_drop]; omega
end
end Go.Proofs.YtohbkohidpgjpaaGreatDoor
