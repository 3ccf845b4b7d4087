/- Contracts on one event: the program's isEvent, the reference's l17One, for all events. -/
import Derived.Test.YtoadjmmfejjcfaaEvS
import Derived.Test.YtoadjmmfejjcfaaMem
import Derived.Test.YtoadjmmfejjcfaaKeep
namespace Go.Proofs.Ytoadjmmfejjcfaa
open Go.RowKit

/-- a valid event -/
def evB (x : Ev) : Bool := inR x.t 0 10000 && inR x.n 0 7 && inR x.k 1 4 && inR x.m 0 65535
theorem evB_iff {x : Ev} : evB x = true ↔ (0 ≤ x.t ∧ x.t ≤ 10000) ∧ (0 ≤ x.n ∧ x.n ≤ 7) ∧ (1 ≤ x.k ∧ x.k ≤ 4) ∧ 0 ≤ x.m ∧ x.m ≤ 65535 := by
  simp only [evB, Bool.and_eq_true, inR_true, and_assoc]
theorem isTick_any (n : Int) (w : World) :
    Calls Try.prog 76 #[.int .i64 n] w fun e w' => e = .returned (.bool (inR n 0 10000)) ∧ w = w' := by
  go_enter Try.func76, Try.ntmps76
  go_wp2_with ((go_at_call 64; refine (within_any _ _ _ _).mono ?_; rintro e w' ⟨rfl, rfl⟩))
  go_ret
  exact ⟨rfl, rfl⟩
theorem l8Tick_any (n : Int) (w : World) :
    Calls Try.prog 85 #[.int .i64 n] w fun e w' => e = .returned (.bool (inR n 0 10000)) ∧ w = w' := by
  go_enter Try.func85, Try.ntmps85
  go_wp2_with ((go_at_call 78; refine (l1In_any _ _ _ _).mono ?_; rintro e w' ⟨rfl, rfl⟩))
  go_ret
  exact ⟨rfl, rfl⟩
theorem isNode_any (n : Int) (w : World) :
    Calls Try.prog 56 #[.int .i64 n] w fun e w' => e = .returned (.bool (inR n 0 7)) ∧ w = w' := by
  go_enter Try.func56, Try.ntmps56
  go_wp2_with ((go_at_call 64; refine (within_any _ _ _ _).mono ?_; rintro e w' ⟨rfl, rfl⟩))
  go_ret
  exact ⟨rfl, rfl⟩
theorem l17Node_any (n : Int) (w : World) :
    Calls Try.prog 53 #[.int .i64 n] w fun e w' => e = .returned (.bool (inR n 0 7)) ∧ w = w' := by
  go_enter Try.func53, Try.ntmps53
  go_wp2_with ((go_at_call 78; refine (l1In_any _ _ _ _).mono ?_; rintro e w' ⟨rfl, rfl⟩))
  go_ret
  exact ⟨rfl, rfl⟩
theorem isSerial_any (n : Int) (w : World) :
    Calls Try.prog 55 #[.int .i64 n] w fun e w' => e = .returned (.bool (inR n 0 65535)) ∧ w = w' := by
  go_enter Try.func55, Try.ntmps55
  go_wp2_with ((go_at_call 64; refine (within_any _ _ _ _).mono ?_; rintro e w' ⟨rfl, rfl⟩))
  go_ret
  exact ⟨rfl, rfl⟩
theorem l2Good_any (n : Int) (w : World) :
    Calls Try.prog 52 #[.int .i64 n] w fun e w' => e = .returned (.bool (inR n 0 65535)) ∧ w = w' := by
  go_enter Try.func52, Try.ntmps52
  go_wp2_with ((go_at_call 78; refine (l1In_any _ _ _ _).mono ?_; rintro e w' ⟨rfl, rfl⟩))
  go_ret
  exact ⟨rfl, rfl⟩
theorem isEvent_any (x : Ev) (w : World) :
    Calls Try.prog 47 #[x.v] w fun e w' => e = .returned (.bool (evB x)) ∧ Below w.heap.size w w' := by
  obtain ⟨t, n, k, m⟩ := x
  cases h1 : inR t 0 10000
  · go_enter Try.func47, Try.ntmps47
    go_wp2_with (first | (go_at_call 64; refine (within_any _ _ _ _).mono ?_; rintro e w' ⟨rfl, rfl⟩) | (go_at_call 76; refine (isTick_any _ _).mono ?_; rintro e w' ⟨rfl, rfl⟩) | (go_at_call 56; refine (isNode_any _ _).mono ?_; rintro e w' ⟨rfl, rfl⟩) | (go_at_call 55; refine (isSerial_any _ _).mono ?_; rintro e w' ⟨rfl, rfl⟩))
    go_ret
    exact ⟨by simp [evB, h1], by go_grown⟩
  · cases h2 : inR n 0 7
    · go_enter Try.func47, Try.ntmps47
      go_wp2_with (first | (go_at_call 64; refine (within_any _ _ _ _).mono ?_; rintro e w' ⟨rfl, rfl⟩) | (go_at_call 76; refine (isTick_any _ _).mono ?_; rintro e w' ⟨rfl, rfl⟩) | (go_at_call 56; refine (isNode_any _ _).mono ?_; rintro e w' ⟨rfl, rfl⟩) | (go_at_call 55; refine (isSerial_any _ _).mono ?_; rintro e w' ⟨rfl, rfl⟩))
      go_ret
      exact ⟨by simp [evB, h2], by go_grown⟩
    · cases h3 : inR k 1 4
      · go_enter Try.func47, Try.ntmps47
        go_wp2_with (first | (go_at_call 64; refine (within_any _ _ _ _).mono ?_; rintro e w' ⟨rfl, rfl⟩) | (go_at_call 76; refine (isTick_any _ _).mono ?_; rintro e w' ⟨rfl, rfl⟩) | (go_at_call 56; refine (isNode_any _ _).mono ?_; rintro e w' ⟨rfl, rfl⟩) | (go_at_call 55; refine (isSerial_any _ _).mono ?_; rintro e w' ⟨rfl, rfl⟩))
        go_ret
        exact ⟨by simp [evB, h3], by go_grown⟩
      · go_enter Try.func47, Try.ntmps47
        go_wp2_with (first | (go_at_call 64; refine (within_any _ _ _ _).mono ?_; rintro e w' ⟨rfl, rfl⟩) | (go_at_call 76; refine (isTick_any _ _).mono ?_; rintro e w' ⟨rfl, rfl⟩) | (go_at_call 56; refine (isNode_any _ _).mono ?_; rintro e w' ⟨rfl, rfl⟩) | (go_at_call 55; refine (isSerial_any _ _).mono ?_; rintro e w' ⟨rfl, rfl⟩))
        go_ret
        exact ⟨by simp [evB, h1, h2, h3], by go_grown⟩
theorem l17One_any (x : Ev) (w : World) :
    Calls Try.prog 75 #[x.v] w fun e w' => e = .returned (.bool (evB x)) ∧ Below w.heap.size w w' := by
  obtain ⟨t, n, k, m⟩ := x
  cases h1 : inR t 0 10000
  · go_enter Try.func75, Try.ntmps75
    go_wp2_with (first | (go_at_call 78; refine (l1In_any _ _ _ _).mono ?_; rintro e w' ⟨rfl, rfl⟩) | (go_at_call 85; refine (l8Tick_any _ _).mono ?_; rintro e w' ⟨rfl, rfl⟩) | (go_at_call 53; refine (l17Node_any _ _).mono ?_; rintro e w' ⟨rfl, rfl⟩) | (go_at_call 52; refine (l2Good_any _ _).mono ?_; rintro e w' ⟨rfl, rfl⟩))
    go_ret
    exact ⟨by simp [evB, h1], by go_grown⟩
  · cases h2 : inR n 0 7
    · go_enter Try.func75, Try.ntmps75
      go_wp2_with (first | (go_at_call 78; refine (l1In_any _ _ _ _).mono ?_; rintro e w' ⟨rfl, rfl⟩) | (go_at_call 85; refine (l8Tick_any _ _).mono ?_; rintro e w' ⟨rfl, rfl⟩) | (go_at_call 53; refine (l17Node_any _ _).mono ?_; rintro e w' ⟨rfl, rfl⟩) | (go_at_call 52; refine (l2Good_any _ _).mono ?_; rintro e w' ⟨rfl, rfl⟩))
      go_ret
      exact ⟨by simp [evB, h2], by go_grown⟩
    · cases h3 : inR k 1 4
      · go_enter Try.func75, Try.ntmps75
        go_wp2_with (first | (go_at_call 78; refine (l1In_any _ _ _ _).mono ?_; rintro e w' ⟨rfl, rfl⟩) | (go_at_call 85; refine (l8Tick_any _ _).mono ?_; rintro e w' ⟨rfl, rfl⟩) | (go_at_call 53; refine (l17Node_any _ _).mono ?_; rintro e w' ⟨rfl, rfl⟩) | (go_at_call 52; refine (l2Good_any _ _).mono ?_; rintro e w' ⟨rfl, rfl⟩))
        go_ret
        exact ⟨by simp [evB, h3], by go_grown⟩
      · go_enter Try.func75, Try.ntmps75
        go_wp2_with (first | (go_at_call 78; refine (l1In_any _ _ _ _).mono ?_; rintro e w' ⟨rfl, rfl⟩) | (go_at_call 85; refine (l8Tick_any _ _).mono ?_; rintro e w' ⟨rfl, rfl⟩) | (go_at_call 53; refine (l17Node_any _ _).mono ?_; rintro e w' ⟨rfl, rfl⟩) | (go_at_call 52; refine (l2Good_any _ _).mono ?_; rintro e w' ⟨rfl, rfl⟩))
        go_ret
        exact ⟨by simp [evB, h1, h2, h3], by go_grown⟩
end Go.Proofs.Ytoadjmmfejjcfaa
