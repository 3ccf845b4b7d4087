/- Plain laws on choosing an index by weights: the first index whose prefix's sum is above a number. No program in sight. -/
import Derived.Test.YtbkkggbpekhenaaNum
namespace Go.Proofs.Ytbkkggbpekhenaa

def sumI : List Int → Int
  | [] => 0
  | x :: r => x + sumI r
def allR (lo hi : Int) : List Int → Bool
  | [] => true
  | x :: r => inR x lo hi && allR lo hi r
theorem sumI_append (a b : List Int) : sumI (a ++ b) = sumI a + sumI b := by
  induction a with
  | nil => simp [sumI]
  | cons x r ih => simp [sumI, ih]; omega
theorem sumI_take_succ (xs : List Int) (k : Nat) (h : k < xs.length) : sumI (xs.take (k + 1)) = sumI (xs.take k) + xs[k] := by
  rw [List.take_succ_eq_append_getElem h, sumI_append]; simp [sumI]
theorem allR_append (lo hi : Int) (a b : List Int) : allR lo hi (a ++ b) = (allR lo hi a && allR lo hi b) := by
  induction a with
  | nil => rfl
  | cons x r ih => simp [allR, ih, Bool.and_assoc]
theorem allR_get {lo hi : Int} {xs : List Int} (h : allR lo hi xs = true) (k : Nat) (hk : k < xs.length) : lo ≤ xs[k] ∧ xs[k] ≤ hi := by
  induction xs generalizing k with
  | nil => simp at hk
  | cons x r ih =>
    rw [allR, Bool.and_eq_true] at h
    cases k with
    | zero => exact inR_true.1 h.1
    | succ k => exact ih h.2 k (by simpa using hk)
theorem allR_of {lo hi : Int} {xs : List Int} (h : ∀ k (hk : k < xs.length), inR xs[k] lo hi = true) : allR lo hi xs = true := by
  induction xs with
  | nil => rfl
  | cons x r ih => rw [allR, Bool.and_eq_true]; exact ⟨h 0 (by simp), ih fun k hk => h (k + 1) (by simpa using hk)⟩
theorem allR_not {lo hi : Int} {xs : List Int} (k : Nat) (hk : k < xs.length) (h : inR xs[k] lo hi = false) : allR lo hi xs = false := by
  cases e : allR lo hi xs
  · rfl
  · rw [inR_true.2 (allR_get e k hk)] at h; cases h
theorem sumI_bound {lo hi : Int} (hl : 0 ≤ lo) (xs : List Int) (h : allR lo hi xs = true) : 0 ≤ sumI xs ∧ sumI xs ≤ hi * xs.length := by
  induction xs with
  | nil => simp [sumI]
  | cons x r ih =>
    rw [allR, Bool.and_eq_true] at h
    have h1 := inR_true.1 h.1
    have h2 := ih h.2
    simp only [sumI, List.length_cons]
    constructor
    · omega
    · rw [Int.natCast_add, Int.mul_add]; omega
theorem allR_take {lo hi : Int} {xs : List Int} (h : allR lo hi xs = true) (k : Nat) : allR lo hi (xs.take k) = true := by
  have := allR_append lo hi (xs.take k) (xs.drop k)
  rw [List.take_append_drop, h] at this
  exact (Bool.and_eq_true_iff.1 this.symm).1
theorem allR_drop {lo hi : Int} {xs : List Int} (h : allR lo hi xs = true) (k : Nat) : allR lo hi (xs.drop k) = true := by
  have := allR_append lo hi (xs.take k) (xs.drop k)
  rw [List.take_append_drop, h] at this
  exact (Bool.and_eq_true_iff.1 this.symm).2

/-- The first index whose prefix's sum, itself included, is above x. -/
def pickI : List Int → Int → Nat
  | [], _ => 0
  | y :: r, x => if x < y then 0 else pickI r (x - y) + 1
theorem pickI_step (xs : List Int) (k : Nat) (x : Int) (hk : k < xs.length) (hx : xs[k] ≤ x) : pickI (xs.drop k) x = pickI (xs.drop (k + 1)) (x - xs[k]) + 1 := by
  rw [List.drop_eq_getElem_cons hk, pickI, if_neg (by omega)]
theorem pickI_stop (xs : List Int) (k : Nat) (x : Int) (hk : k < xs.length) (hx : x < xs[k]) : pickI (xs.drop k) x = 0 := by
  rw [List.drop_eq_getElem_cons hk, pickI, if_pos hx]
theorem sumI_split (xs : List Int) (k : Nat) : sumI xs = sumI (xs.take k) + sumI (xs.drop k) := by
  rw [← sumI_append, List.take_append_drop]
theorem pickI_lt (xs : List Int) (x : Int) (hx : x < sumI xs) (h0 : 0 ≤ x) : ∃ h : pickI xs x < xs.length, xs[pickI xs x] ≠ 0 ∨ True := by
  induction xs generalizing x with
  | nil => simp [sumI] at hx; omega
  | cons y r ih =>
    rw [pickI]
    by_cases h : x < y
    · rw [if_pos h]; exact ⟨by simp, .inr trivial⟩
    · rw [if_neg h]
      simp only [sumI] at hx
      by_cases h0' : 0 ≤ x - y
      · obtain ⟨h1, _⟩ := ih (x - y) (by omega) h0'
        exact ⟨by simpa using h1, .inr trivial⟩
      · omega
end Go.Proofs.Ytbkkggbpekhenaa
