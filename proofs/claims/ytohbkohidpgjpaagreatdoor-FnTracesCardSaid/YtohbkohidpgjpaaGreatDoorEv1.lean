/- Contracts on one event: the program's isEvent, the reference's l17One, for all events. -/
import Derived.Test.YtohbkohidpgjpaaGreatDoorEvS
import Derived.Test.YtohbkohidpgjpaaGreatDoorMem
import Derived.Test.YtohbkohidpgjpaaGreatDoorKeep
namespace Go.Proofs.YtohbkohidpgjpaaGreatDoor
open Go.RowKit

/-- a valid event -/
def evB (x : Ev) : Bool := inR x.t 0 10000 && inR x.n 0 7 && inR x.k 1 4 && inR x.m 0 65535
theorem evB_iff {x : Ev} : evB x = true ↔ (0 ≤ x.t ∧ x.t ≤ 10000) ∧ (0 ≤ x.n ∧ x.n ≤ 7) ∧ (1 ≤ x.k ∧ x.k ≤ 4) ∧ 0 ≤ x.m ∧ x.m ≤ 65535 := by
  simp only [evB, Bool.and_eq_true, inR_true, and_assoc]
set_option maxRecDepth 100000 in
theorem isTick_any (n : Int) (w : World) :
    Calls Tryz.prog 52 #[.int .i64 n] w fun e w' => e = .returned (.bool (inR n 0 10000)) ∧ w = w' := by
  go_enter Tryz.func52, Tryz.ntmps52
  go_wp2_with ((go_at_call 53; refine (within_any _ _ _ _).mono ?_; rintro e w' ⟨rfl, rfl⟩))
  go_ret
  exact ⟨rfl, rfl⟩
set_option maxRecDepth 100000 in
theorem l8Tick_any (n : Int) (w : World) :
    Calls Tryz.prog 56 #[.int .i64 n] w fun e w' => e = .returned (.bool (inR n 0 10000)) ∧ w = w' := by
  go_enter Tryz.func56, Tryz.ntmps56
  go_wp2_with ((go_at_call 57; refine (l1In_any _ _ _ _).mono ?_; rintro e w' ⟨rfl, rfl⟩))
  go_ret
  exact ⟨rfl, rfl⟩
set_option maxRecDepth 100000 in
theorem isNode_any (n : Int) (w : World) :
    Calls Tryz.prog 49 #[.int .i64 n] w fun e w' => e = .returned (.bool (inR n 0 7)) ∧ w = w' := by
  go_enter Tryz.func49, Tryz.ntmps49
  go_wp2_with ((go_at_call 53; refine (within_any _ _ _ _).mono ?_; rintro e w' ⟨rfl, rfl⟩))
  go_ret
  exact ⟨rfl, rfl⟩
set_option maxRecDepth 100000 in
theorem l17Node_any (n : Int) (w : World) :
    Calls Tryz.prog 50 #[.int .i64 n] w fun e w' => e = .returned (.bool (inR n 0 7)) ∧ w = w' := by
  go_enter Tryz.func50, Tryz.ntmps50
  go_wp2_with ((go_at_call 57; refine (l1In_any _ _ _ _).mono ?_; rintro e w' ⟨rfl, rfl⟩))
  go_ret
  exact ⟨rfl, rfl⟩
set_option maxRecDepth 100000 in
theorem isSerial_any (n : Int) (w : World) :
    Calls Tryz.prog 54 #[.int .i64 n] w fun e w' => e = .returned (.bool (inR n 0 65535)) ∧ w = w' := by
  go_enter Tryz.func54, Tryz.ntmps54
  go_wp2_with ((go_at_call 53; refine (within_any _ _ _ _).mono ?_; rintro e w' ⟨rfl, rfl⟩))
  go_ret
  exact ⟨rfl, rfl⟩
set_option maxRecDepth 100000 in
theorem l2Good_any (n : Int) (w : World) :
    Calls Tryz.prog 58 #[.int .i64 n] w fun e w' => e = .returned (.bool (inR n 0 65535)) ∧ w = w' := by
  go_enter Tryz.func58, Tryz.ntmps58
  go_wp2_with ((go_at_call 57; refine (l1In_any _ _ _ _).mono ?_; rintro e w' ⟨rfl, rfl⟩))
  go_ret
  exact ⟨rfl, rfl⟩
set_option maxRecDepth 100000 in
theorem isEvent_any (x : Ev) (w : World) :
    Calls Tryz.prog 25 #[x.v] w fun e w' => e = .returned (.bool (evB x)) ∧ Below w.heap.size w w' := by
  obtain ⟨t, n, k, m⟩ := x
  cases h1 : inR t 0 10000
  · go_enter Tryz.func25, Tryz.ntmps25
    go_wp2_with (first | (go_at_call 53; refine (within_any _ _ _ _).mono ?_; rintro e w' ⟨rfl, rfl⟩) | (go_at_call 52; refine (isTick_any _ _).mono ?_; rintro e w' ⟨rfl, rfl⟩) | (go_at_call 49; refine (isNode_any _ _).mono ?_; rintro e w' ⟨rfl, rfl⟩) | (go_at_call 54; refine (isSerial_any _ _).mono ?_; rintro e w' ⟨rfl, rfl⟩))
    go_ret
    exact ⟨by simp [evB, h1], by go_grown⟩
  · cases h2 : inR n 0 7
    · go_enter Tryz.func25, Tryz.ntmps25
      go_wp2_with (first | (go_at_call 53; refine (within_any _ _ _ _).mono ?_; rintro e w' ⟨rfl, rfl⟩) | (go_at_call 52; refine (isTick_any _ _).mono ?_; rintro e w' ⟨rfl, rfl⟩) | (go_at_call 49; refine (isNode_any _ _).mono ?_; rintro e w' ⟨rfl, rfl⟩) | (go_at_call 54; refine (isSerial_any _ _).mono ?_; rintro e w' ⟨rfl, rfl⟩))
      go_ret
      exact ⟨by simp [evB, h2], by go_grown⟩
    · cases h3 : inR k 1 4
      · go_enter Tryz.func25, Tryz.ntmps25
        go_wp2_with (first | (go_at_call 53; refine (within_any _ _ _ _).mono ?_; rintro e w' ⟨rfl, rfl⟩) | (go_at_call 52; refine (isTick_any _ _).mono ?_; rintro e w' ⟨rfl, rfl⟩) | (go_at_call 49; refine (isNode_any _ _).mono ?_; rintro e w' ⟨rfl, rfl⟩) | (go_at_call 54; refine (isSerial_any _ _).mono ?_; rintro e w' ⟨rfl, rfl⟩))
        go_ret
        exact ⟨by simp [evB, h3], by go_grown⟩
      · go_enter Tryz.func25, Tryz.ntmps25
        go_wp2_with (first | (go_at_call 53; refine (within_any _ _ _ _).mono ?_; rintro e w' ⟨rfl, rfl⟩) | (go_at_call 52; refine (isTick_any _ _).mono ?_; rintro e w' ⟨rfl, rfl⟩) | (go_at_call 49; refine (isNode_any _ _).mono ?_; rintro e w' ⟨rfl, rfl⟩) | (go_at_call 54; refine (isSerial_any _ _).mono ?_; rintro e w' ⟨rfl, rfl⟩))
        go_ret
        exact ⟨by simp [evB, h1, h2, h3], by go_grown⟩
set_option maxRecDepth 100000 in
theorem l17One_any (x : Ev) (w : World) :
    Calls Tryz.prog 27 #[x.v] w fun e w' => e = .returned (.bool (evB x)) ∧ Below w.heap.size w w' := by
  obtain ⟨t, n, k, m⟩ := x
  cases h1 : inR t 0 10000
  · go_enter Tryz.func27, Tryz.ntmps27
    go_wp2_with (first | (go_at_call 57; refine (l1In_any _ _ _ _).mono ?_; rintro e w' ⟨rfl, rfl⟩) | (go_at_call 56; refine (l8Tick_any _ _).mono ?_; rintro e w' ⟨rfl, rfl⟩) | (go_at_call 50; refine (l17Node_any _ _).mono ?_; rintro e w' ⟨rfl, rfl⟩) | (go_at_call 58; refine (l2Good_any _ _).mono ?_; rintro e w' ⟨rfl, rfl⟩))
    go_ret
    exact ⟨by simp [evB, h1], by go_grown⟩
  · cases h2 : inR n 0 7
    · go_enter Tryz.func27, Tryz.ntmps27
      go_wp2_with (first | (go_at_call 57; refine (l1In_any _ _ _ _).mono ?_; rintro e w' ⟨rfl, rfl⟩) | (go_at_call 56; refine (l8Tick_any _ _).mono ?_; rintro e w' ⟨rfl, rfl⟩) | (go_at_call 50; refine (l17Node_any _ _).mono ?_; rintro e w' ⟨rfl, rfl⟩) | (go_at_call 58; refine (l2Good_any _ _).mono ?_; rintro e w' ⟨rfl, rfl⟩))
      go_ret
      exact ⟨by simp [evB, h2], by go_grown⟩
    · cases h3 : inR k 1 4
      · go_enter Tryz.func27, Tryz.ntmps27
        go_wp2_with (first | (go_at_call 57; refine (l1In_any _ _ _ _).mono ?_; rintro e w' ⟨rfl, rfl⟩) | (go_at_call 56; refine (l8Tick_any _ _).mono ?_; rintro e w' ⟨rfl, rfl⟩) | (go_at_call 50; refine (l17Node_any _ _).mono ?_; rintro e w' ⟨rfl, rfl⟩) | (go_at_call 58; refine (l2Good_any _ _).mono ?_; rintro e w' ⟨rfl, rfl⟩))
        go_ret
        exact ⟨by simp [evB, h3], by go_grown⟩
      · go_enter Tryz.func27, Tryz.ntmps27
        go_wp2_with (first | (go_at_call 57; refine (l1In_any _ _ _ _).mono ?_; rintro e w' ⟨rfl, rfl⟩) | (go_at_call 56; refine (l8Tick_any _ _).mono ?_; rintro e w' ⟨rfl, rfl⟩) | (go_at_call 50; refine (l17Node_any _ _).mono ?_; rintro e w' ⟨rfl, rfl⟩) | (go_at_call 58; refine (l2Good_any _ _).mono ?_; rintro e w' ⟨rfl, rfl⟩))
        go_ret
        exact ⟨by simp [evB, h1, h2, h3], by go_grown⟩
end Go.Proofs.YtohbkohidpgjpaaGreatDoor
