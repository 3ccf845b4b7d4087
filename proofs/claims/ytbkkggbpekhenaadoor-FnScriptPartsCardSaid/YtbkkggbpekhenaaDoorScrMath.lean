/- Repeated scripts have their items as many times: plain laws. -/
import Derived.Test.YtbkkggbpekhenaaDoorScr3
import Derived.Test.YtbkkggbpekhenaaDoorScr5
namespace Go.Proofs.YtbkkggbpekhenaaDoor
open Go.RowKit

theorem selN_pick {α β : Type} (g : α → Option β) (xs : List α) (n : Nat) : selN (fun _ x => g x) xs n = (xs.take n).filterMap g := by
  induction n with
  | zero => rfl
  | succ n ih =>
    rw [selN]
    by_cases h : n < xs.length
    · rw [List.getElem?_eq_getElem h, List.take_succ_eq_append_getElem h, List.filterMap_append, ← ih]
      cases hg : g xs[n] <;> simp [hg]
    · rw [List.getElem?_eq_none (by omega), List.take_of_length_le (by omega), ih, List.take_of_length_le (by omega)]
theorem repL_filterMap {α β : Type} (g : α → Option β) (xs : List α) (t : Nat) : (repL xs t).filterMap g = repL (xs.filterMap g) t := by
  induction t with
  | zero => rfl
  | succ t ih => rw [repL_succ, repL_succ, List.filterMap_append, ih]
theorem repL_get {α : Type} (xs : List α) (t i : Nat) (h : i < t * xs.length) : (repL xs t)[i]? = xs[i % xs.length]? := by
  induction t with
  | zero => omega
  | succ t ih =>
    rw [repL_succ]
    by_cases hi : i < t * xs.length
    · rw [List.getElem?_append_left (by rw [repL_length]; exact hi), ih hi]
    · rw [List.getElem?_append_right (by rw [repL_length]; omega), repL_length]
      have h3 : i - t * xs.length < xs.length := by rw [Nat.succ_mul] at h; omega
      have h4 : i = xs.length * t + (i - t * xs.length) := by rw [Nat.mul_comm]; omega
      have h5 : i % xs.length = i - t * xs.length := (congrArg (· % xs.length) h4).trans (by rw [Nat.mul_add_mod, Nat.mod_eq_of_lt h3])
      rw [h5]
theorem siL_rep {xs : List St} {n : Nat} (hB : scB xs = true) (hm : n * xs.length ≤ 30) : scB (repL xs n) = true ∧ siL (repL xs n) = repL (siL xs) n := by
  have hR : scB (repL xs n) = true := by
    rw [scB, Bool.and_eq_true, decide_eq_true_eq, List.all_eq_true, repL_length] at *
    exact ⟨hm, fun x hx => repL_mem (P := fun x => stB x = true) hB.2 x hx⟩
  refine ⟨hR, ?_⟩
  unfold siL
  rw [if_pos hR, if_pos hB]
  show selN (fun _ (x : St) => if x.kd = 1 then some x.dt else none) _ _ = repL (selN (fun _ (x : St) => if x.kd = 1 then some x.dt else none) _ _) _
  rw [selN_pick, selN_pick, List.take_length, List.take_length, repL_filterMap]
end Go.Proofs.YtbkkggbpekhenaaDoor
