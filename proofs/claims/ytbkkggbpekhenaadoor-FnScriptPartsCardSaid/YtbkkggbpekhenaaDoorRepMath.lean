/- A list repeated: plain laws. -/
import Derived.Test.YtbkkggbpekhenaaDoorMem
namespace Go.Proofs.YtbkkggbpekhenaaDoor

def repL {α : Type} (xs : List α) (t : Nat) : List α := (List.replicate t xs).flatten
theorem repL_length {α : Type} (xs : List α) (t : Nat) : (repL xs t).length = t * xs.length := by
  induction t with
  | zero => simp [repL]
  | succ t ih =>
    have h : repL xs (t + 1) = xs ++ repL xs t := by simp [repL, List.replicate_succ]
    rw [h, List.length_append, ih, Nat.succ_mul, Nat.add_comm]
theorem repL_add {α : Type} (xs : List α) (a b : Nat) : repL xs (a + b) = repL xs a ++ repL xs b := by
  unfold repL
  rw [← List.replicate_append_replicate, List.flatten_append]
theorem repL_one {α : Type} (xs : List α) : repL xs 1 = xs := by simp [repL]
theorem repL_succ {α : Type} (xs : List α) (t : Nat) : repL xs (t + 1) = repL xs t ++ xs := by rw [repL_add, repL_one]
theorem repL_mem {α : Type} {xs : List α} {t : Nat} {P : α → Prop} (h : ∀ x ∈ xs, P x) : ∀ x ∈ repL xs t, P x := by
  intro x hx
  obtain ⟨l, hl, hx⟩ := List.mem_flatten.1 hx
  rw [(List.mem_replicate.1 hl).2] at hx
  exact h x hx
theorem repL_flat {α β : Type} (f : α → List β) (xs : List α) (t : Nat) : (repL xs t).flatMap f = repL (xs.flatMap f) t := by
  induction t with
  | zero => rfl
  | succ t ih => rw [repL_succ, repL_succ, List.flatMap_append, ih]
/-- one round of doubling, on the cells -/
theorem rep_round {β : Type} (c L : List β) (m m' t : Nat) (h0 : m ≤ m') (h1 : m' ≤ 2 * m) (h2 : m' ≤ t) (_hL : L.length = t * c.length) (hT : L.take (m * c.length) = repL c m) :
    (L.take (m * c.length) ++ (L.take ((m' - m) * c.length) ++ L.drop (m * c.length + (m' - m) * c.length))).take (m' * c.length) = repL c m' := by
  have e1 : (m' - m) * c.length ≤ m * c.length := Nat.mul_le_mul_right _ (by omega)
  have e2 : m' * c.length = m * c.length + (m' - m) * c.length := by rw [← Nat.add_mul]; congr 1; omega
  have e3 : m' * c.length ≤ t * c.length := Nat.mul_le_mul_right _ h2
  have hP : L.take ((m' - m) * c.length) = repL c (m' - m) := by
    have h3 : (L.take (m * c.length)).take ((m' - m) * c.length) = L.take ((m' - m) * c.length) := by rw [List.take_take, Nat.min_eq_left e1]
    have h4 : repL c m = repL c (m' - m) ++ repL c (m - (m' - m)) := by rw [← repL_add]; congr 1; omega
    rw [← h3, hT, h4, List.take_append_of_le_length (by rw [repL_length]; exact Nat.le_refl _), List.take_of_length_le (by rw [repL_length]; exact Nat.le_refl _)]
  have l1 : (L.take (m * c.length)).length = m * c.length := by rw [hT, repL_length]
  have l2 : (L.take ((m' - m) * c.length)).length = (m' - m) * c.length := by rw [hP, repL_length]
  rw [← List.append_assoc, List.take_append_of_le_length (by rw [List.length_append, l1, l2]; omega), List.take_of_length_le (by rw [List.length_append, l1, l2]; omega), hT, hP, ← repL_add]
  congr 1; omega
end Go.Proofs.YtbkkggbpekhenaaDoor
