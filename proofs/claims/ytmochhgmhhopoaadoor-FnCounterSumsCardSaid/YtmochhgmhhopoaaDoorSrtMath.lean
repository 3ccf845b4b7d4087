/- Counters sorted by falling value, stable: insertion, one place at a time. No program's text is walked here. -/
import Derived.Test.YtmochhgmhhopoaaDoorCntMath
namespace Go.Proofs.YtmochhgmhhopoaaDoor
open Go.RowKit

/-- where a value belongs among falling values, looked for from place k down -/
def posV (acc : List Ct) (v : Int) : Nat → Nat
  | 0 => 0
  | k + 1 => match acc[k]? with
    | some y => if y.vl < v then posV acc v k else k + 1
    | none => k + 1
def insV (acc : List Ct) (x : Ct) (k : Nat) : List Ct := acc.take k ++ x :: acc.drop k
def srtN (xs : List Ct) : Nat → List Ct
  | 0 => []
  | n + 1 => match xs[n]? with
    | none => srtN xs n
    | some x => insV (srtN xs n) x (posV (srtN xs n) x.vl n)
theorem posV_le (acc : List Ct) (v : Int) (k : Nat) : posV acc v k ≤ k := by
  induction k with
  | zero => exact Nat.le_refl _
  | succ k ih =>
    unfold posV
    split
    · split <;> omega
    · exact Nat.le_refl _
theorem posV_down {acc : List Ct} {v : Int} {k : Nat} (h : k < acc.length) (hlt : acc[k].vl < v) : posV acc v (k + 1) = posV acc v k := by
  rw [posV, List.getElem?_eq_getElem h]; simp [hlt]
theorem posV_stay {acc : List Ct} {v : Int} {k : Nat} (h : k < acc.length) (hlt : ¬ acc[k].vl < v) : posV acc v (k + 1) = k + 1 := by
  rw [posV, List.getElem?_eq_getElem h]; simp [hlt]
theorem srtN_succ (xs : List Ct) (n : Nat) (h : n < xs.length) : srtN xs (n + 1) = insV (srtN xs n) xs[n] (posV (srtN xs n) xs[n].vl n) := by
  rw [srtN, List.getElem?_eq_getElem h]
theorem insV_length (acc : List Ct) (x : Ct) (k : Nat) : (insV acc x k).length = acc.length + 1 := by
  rw [insV, List.length_append, List.length_cons, List.length_take, List.length_drop]; omega
theorem srtN_length (xs : List Ct) (n : Nat) (h : n ≤ xs.length) : (srtN xs n).length = n := by
  induction n with
  | zero => rfl
  | succ n ih => rw [srtN_succ xs n (by omega), insV_length, ih (by omega)]
theorem insV_mem {acc : List Ct} {x y : Ct} {k : Nat} (h : y ∈ insV acc x k) : y = x ∨ y ∈ acc := by
  rcases List.mem_append.1 h with h | h
  · exact .inr (List.mem_of_mem_take h)
  · rcases List.mem_cons.1 h with h | h
    · exact .inl h
    · exact .inr (List.mem_of_mem_drop h)
theorem srtN_mem (xs : List Ct) (n : Nat) : ∀ y ∈ srtN xs n, y ∈ xs := by
  induction n with
  | zero => intro y h; cases h
  | succ n ih =>
    by_cases hn : n < xs.length
    · rw [srtN_succ xs n hn]
      intro y h
      rcases insV_mem h with rfl | h
      · exact List.getElem_mem hn
      · exact ih y h
    · rw [srtN, List.getElem?_eq_none (by omega)]; exact ih
theorem insV_end (acc : List Ct) (x : Ct) (rest : List Ct) : insV acc x acc.length ++ rest = acc ++ x :: rest := by
  rw [insV, List.take_length, List.drop_length, List.append_assoc]; rfl
theorem insV_get (acc : List Ct) (x : Ct) (k : Nat) (h : k ≤ acc.length) (rest : List Ct) : (insV acc x k ++ rest)[k]? = some x := by
  rw [insV, List.append_assoc, List.getElem?_append_right (by rw [List.length_take]; omega), List.length_take, show k - min k acc.length = 0 from by omega]; rfl
theorem insV_low (acc : List Ct) (x : Ct) (k : Nat) (h : k < acc.length) (rest : List Ct) : (insV acc x (k + 1) ++ rest)[k]? = some acc[k] := by
  rw [insV, List.append_assoc, List.getElem?_append_left (by rw [List.length_take]; omega), List.getElem?_take, if_pos (by omega), List.getElem?_eq_getElem h]
theorem insV_swap (acc : List Ct) (x : Ct) (k : Nat) (h : k < acc.length) (rest : List Ct) : ((insV acc x (k + 1) ++ rest).set (k + 1) acc[k]).set k x = insV acc x k ++ rest := by
  have e1 : insV acc x (k + 1) ++ rest = acc.take k ++ acc[k] :: x :: (acc.drop (k + 1) ++ rest) := by
    rw [insV, List.take_succ_eq_append_getElem h]; simp only [List.append_assoc, List.cons_append, List.nil_append]
  have e2 : insV acc x k ++ rest = acc.take k ++ x :: acc[k] :: (acc.drop (k + 1) ++ rest) := by
    rw [insV, List.drop_eq_getElem_cons h]; simp only [List.append_assoc, List.cons_append]
  have hl : (acc.take k).length = k := by rw [List.length_take]; omega
  rw [e1, e2, List.set_append, if_neg (by omega), hl, show k + 1 - k = 1 from by omega, List.set_append, if_neg (by omega), hl, Nat.sub_self]
  rfl
end Go.Proofs.YtmochhgmhhopoaaDoor
