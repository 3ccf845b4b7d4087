/- Contracts of the generator's public functions that return numbers alone, program and reference alike: for every argument. -/
import Derived.Test.YtfljdhccacbhbaaDraw1
namespace Go.Proofs.Ytfljdhccacbhbaa
open Go.RowKit

def skipB (s n : Int) : Bool := inR s 1 2147483646 && inR n 0 1000000000000
def skipV (s n : Int) : Int := if skipB s n = true then DM.mp s 16807 n.toNat else 0

theorem skipB_in (s n : Int) (hn : inR n 0 1000000000000 = true) : skipB s n = inR s 1 2147483646 := by simp [skipB, hn]
theorem skipV_ok {s n : Int} (h : inR s 1 2147483646 = true) (hn : inR n 0 1000000000000 = true) : skipV s n = DM.mp s 16807 n.toNat := by simp [skipV, skipB, h, hn]
theorem implSkip_any (s n : Int) (w : World) :
    Calls Try.prog 19 #[.int .i64 s, .int .i64 n] w fun e w' => e = .returned (.tuple #[.int .i64 (skipV s n), .bool (skipB s n)]) ∧ w = w' := by
  cases h1 : inR s 1 2147483646
  · go_enter Try.func19, Try.ntmps19
    go_wp2_with (first | (go_at_call 50; refine (isState_any _ _).mono ?_; rintro e w' ⟨rfl, rfl⟩) | (go_at_call 55; refine (within_any _ _ _ _).mono ?_; rintro e w' ⟨rfl, rfl⟩))
    go_ret2
    exact ⟨by simp [skipV, skipB, h1], rfl⟩
  · cases h2 : inR n 0 1000000000000
    · go_enter Try.func19, Try.ntmps19
      go_wp2_with (first | (go_at_call 50; refine (isState_any _ _).mono ?_; rintro e w' ⟨rfl, rfl⟩) | (go_at_call 55; refine (within_any _ _ _ _).mono ?_; rintro e w' ⟨rfl, rfl⟩))
      go_ret2
      exact ⟨by simp [skipV, skipB, h1, h2], rfl⟩
    · obtain ⟨a1, a2⟩ := inR_true.1 h1
      obtain ⟨b1, b2⟩ := inR_true.1 h2
      go_enter Try.func19, Try.ntmps19
      go_wp2_with (first | (go_at_call 50; refine (isState_any _ _).mono ?_; rintro e w' ⟨rfl, rfl⟩) | (go_at_call 55; refine (within_any _ _ _ _).mono ?_; rintro e w' ⟨rfl, rfl⟩) | (go_at_call 56; refine (timesPower_any _ _ _ _ (by omega) (by omega) (by omega) (by omega) (by omega) (by omega)).mono ?_; rintro e w' ⟨rfl, rfl⟩))
      go_ret2
      exact ⟨by simp [skipV, skipB, h1, h2], rfl⟩

theorem specSkip_any (s n : Int) (w : World) :
    Calls Try.prog 18 #[.int .i64 s, .int .i64 n] w fun e w' => e = .returned (.tuple #[.int .i64 (skipV s n), .bool (skipB s n)]) ∧ w = w' := by
  cases h1 : inR s 1 2147483646
  · go_enter Try.func18, Try.ntmps18
    go_wp2_with (first | (go_at_call 46; refine (l20State_any _ _).mono ?_; rintro e w' ⟨rfl, rfl⟩) | (go_at_call 53; refine (l1In_any _ _ _ _).mono ?_; rintro e w' ⟨rfl, rfl⟩))
    go_ret2
    exact ⟨by simp [skipV, skipB, h1], rfl⟩
  · cases h2 : inR n 0 1000000000000
    · go_enter Try.func18, Try.ntmps18
      go_wp2_with (first | (go_at_call 46; refine (l20State_any _ _).mono ?_; rintro e w' ⟨rfl, rfl⟩) | (go_at_call 53; refine (l1In_any _ _ _ _).mono ?_; rintro e w' ⟨rfl, rfl⟩))
      go_ret2
      exact ⟨by simp [skipV, skipB, h1, h2], rfl⟩
    · obtain ⟨a1, a2⟩ := inR_true.1 h1
      obtain ⟨b1, b2⟩ := inR_true.1 h2
      obtain ⟨c1, c2⟩ := DM.mp_range 1 16807 n.toNat
      obtain ⟨d1, d2⟩ := DM.mul_bound s (DM.mp 1 16807 n.toNat) (by omega) (by omega) c1 c2
      go_enter Try.func18, Try.ntmps18
      go_wp2_with (first | (go_at_call 46; refine (l20State_any _ _).mono ?_; rintro e w' ⟨rfl, rfl⟩) | (go_at_call 53; refine (l1In_any _ _ _ _).mono ?_; rintro e w' ⟨rfl, rfl⟩) | (go_at_call 54; refine (l20Power_any _ _ _ (by omega) (by omega) (by omega) (by omega)).mono ?_; rintro e w' ⟨rfl, rfl⟩))
      go_ret2
      exact ⟨by simp [skipV, skipB, h1, h2, DM.mp_mul], rfl⟩

theorem implNext_any (s : Int) (w : World) :
    Calls Try.prog 15 #[.int .i64 s] w fun e w' => e = .returned (.tuple #[.int .i64 (skipV s 1), .bool (skipB s 1)]) ∧ w = w' := by
  go_enter Try.func15, Try.ntmps15
  go_wp2_with ((go_at_call 19; refine (implSkip_any _ _ _).mono ?_; rintro e w' ⟨rfl, rfl⟩))
  go_ret2
  exact ⟨rfl, rfl⟩
theorem implLast_any (s : Int) (w : World) :
    Calls Try.prog 21 #[.int .i64 s] w fun e w' => e = .returned (.tuple #[.int .i64 (skipV s 2147483645), .bool (skipB s 2147483645)]) ∧ w = w' := by
  go_enter Try.func21, Try.ntmps21
  go_wp2_with ((go_at_call 19; refine (implSkip_any _ _ _).mono ?_; rintro e w' ⟨rfl, rfl⟩))
  go_ret2
  exact ⟨rfl, rfl⟩
/-- the three calls of the law on states, told by the state's range alone -/
theorem implNext_in (s : Int) (w : World) :
    Calls Try.prog 15 #[.int .i64 s] w fun e w' => e = .returned (.tuple #[.int .i64 (skipV s 1), .bool (inR s 1 2147483646)]) ∧ w = w' :=
  (implNext_any s w).mono fun _ _ ⟨he, hw⟩ => ⟨by rw [he, skipB_in s 1 (by decide)], hw⟩
theorem implLast_in (s : Int) (w : World) :
    Calls Try.prog 21 #[.int .i64 s] w fun e w' => e = .returned (.tuple #[.int .i64 (skipV s 2147483645), .bool (inR s 1 2147483646)]) ∧ w = w' :=
  (implLast_any s w).mono fun _ _ ⟨he, hw⟩ => ⟨by rw [he, skipB_in s _ (by decide)], hw⟩
/-- one step -/
def nextV (s : Int) : Int := s * 16807 % 2147483647
theorem nextV_range (s : Int) : 0 ≤ nextV s ∧ nextV s < 2147483647 := by unfold nextV; omega
theorem nextV_mp (s : Int) : nextV s = DM.mp s 16807 1 := rfl
theorem l20Next_any (s : Int) (w : World) (h1 : 0 ≤ s) (h2 : s < 2147483647) :
    Calls Try.prog 47 #[.int .i64 s] w fun e w' => e = .returned (.int .i64 (nextV s)) ∧ w = w' := by
  go_enter Try.func47, Try.ntmps47
  go_wp2
  go_ret
  exact ⟨rfl, rfl⟩
theorem specNext_any (s : Int) (w : World) :
    Calls Try.prog 14 #[.int .i64 s] w fun e w' => e = .returned (.tuple #[.int .i64 (skipV s 1), .bool (skipB s 1)]) ∧ w = w' := by
  have hk : inR 1 0 1000000000000 = true := by decide
  have HK := Lib.hid hk; clear hk
  cases h1 : inR s 1 2147483646
  · go_enter Try.func14, Try.ntmps14
    go_wp2_with ((go_at_call 46; refine (l20State_any _ _).mono ?_; rintro e w' ⟨rfl, rfl⟩))
    go_ret2
    exact ⟨by simp [skipV, skipB, h1], rfl⟩
  · obtain ⟨a1, a2⟩ := inR_true.1 h1
    go_enter Try.func14, Try.ntmps14
    go_wp2_with (first | (go_at_call 46; refine (l20State_any _ _).mono ?_; rintro e w' ⟨rfl, rfl⟩) | (go_at_call 47; refine (l20Next_any _ _ (by omega) (by omega)).mono ?_; rintro e w' ⟨rfl, rfl⟩))
    go_ret2
    exact ⟨by simp [skipV, skipB, h1, HK.out, nextV_mp], rfl⟩
theorem specLast_any (s : Int) (w : World) :
    Calls Try.prog 20 #[.int .i64 s] w fun e w' => e = .returned (.tuple #[.int .i64 (skipV s 2147483645), .bool (skipB s 2147483645)]) ∧ w = w' := by
  have hk : inR 2147483645 0 1000000000000 = true := by decide
  have HK := Lib.hid hk; clear hk
  cases h1 : inR s 1 2147483646
  · go_enter Try.func20, Try.ntmps20
    go_wp2_with ((go_at_call 46; refine (l20State_any _ _).mono ?_; rintro e w' ⟨rfl, rfl⟩))
    go_ret2
    exact ⟨by simp [skipV, skipB, h1], rfl⟩
  · obtain ⟨a1, a2⟩ := inR_true.1 h1
    obtain ⟨c1, c2⟩ := DM.mp_range 1 16807 2147483645
    obtain ⟨d1, d2⟩ := DM.mul_bound s (DM.mp 1 16807 2147483645) (by omega) (by omega) c1 c2
    go_enter Try.func20, Try.ntmps20
    go_wp2_with (first | (go_at_call 46; refine (l20State_any _ _).mono ?_; rintro e w' ⟨rfl, rfl⟩) | (go_at_call 54; refine (l20Power_any _ _ _ (by omega) (by omega) (by omega) (by omega)).mono ?_; rintro e w' ⟨rfl, rfl⟩))
    go_ret2
    exact ⟨by simp [skipV, skipB, h1, HK.out, DM.mp_mul], rfl⟩

theorem specNext_in (s : Int) (w : World) :
    Calls Try.prog 14 #[.int .i64 s] w fun e w' => e = .returned (.tuple #[.int .i64 (skipV s 1), .bool (inR s 1 2147483646)]) ∧ w = w' :=
  (specNext_any s w).mono fun _ _ ⟨he, hw⟩ => ⟨by rw [he, skipB_in s 1 (by decide)], hw⟩
theorem specLast_in (s : Int) (w : World) :
    Calls Try.prog 20 #[.int .i64 s] w fun e w' => e = .returned (.tuple #[.int .i64 (skipV s 2147483645), .bool (inR s 1 2147483646)]) ∧ w = w' :=
  (specLast_any s w).mono fun _ _ ⟨he, hw⟩ => ⟨by rw [he, skipB_in s _ (by decide)], hw⟩
/-- one draw below n -/
def drawV (s n : Int) : Int := nextV s * n / 2147483647
theorem next_bound (s n : Int) (h0 : 0 ≤ n) (hn : n ≤ 1000000) : 0 ≤ nextV s * n ∧ nextV s * n ≤ 4611686014132420609 :=
  let ⟨a, b⟩ := nextV_range s; DM.mul_bound (nextV s) n a b h0 (by omega)
theorem drawV_range (s n : Int) (h0 : 1 ≤ n) (hn : n ≤ 1000000) : 0 ≤ drawV s n ∧ drawV s n < n := by
  obtain ⟨a, b⟩ := nextV_range s
  obtain ⟨c, d⟩ := next_bound s n (by omega) hn
  have e : nextV s * n ≤ 2147483646 * n := Int.mul_le_mul_of_nonneg_right (by omega) (by omega)
  unfold drawV; omega
theorem draw_any (s n : Int) (w : World) (h1 : 0 ≤ s) (h2 : s < 2147483647) (h0 : 0 ≤ n) (hn : n ≤ 1000000) :
    Calls Try.prog 52 #[.int .i64 s, .int .i64 n] w fun e w' => e = .returned (.tuple #[.int .i64 (nextV s), .int .i64 (drawV s n)]) ∧ w = w' := by
  have hb := next_bound s n h0 hn
  unfold nextV at hb
  obtain ⟨b1, b2⟩ := hb
  go_enter Try.func52, Try.ntmps52
  go_wp2
  go_ret2
  exact ⟨rfl, rfl⟩
theorem l20Draw_any (s n : Int) (w : World) (h1 : 0 ≤ s) (h2 : s < 2147483647) (h0 : 0 ≤ n) (hn : n ≤ 1000000) :
    Calls Try.prog 49 #[.int .i64 s, .int .i64 n] w fun e w' => e = .returned (.tuple #[.int .i64 (nextV s), .int .i64 (drawV s n)]) ∧ w = w' := by
  have hb := next_bound s n h0 hn
  obtain ⟨b1, b2⟩ := hb
  go_enter Try.func49, Try.ntmps49
  go_wp2_with (go_at_call 47; refine (l20Next_any _ _ (by omega) (by omega)).mono ?_; rintro e w' ⟨rfl, rfl⟩)
  go_ret2
  exact ⟨rfl, rfl⟩

def rollB (s n : Int) : Bool := inR s 1 2147483646 && inR n 1 1000000
def rollS (s n : Int) : Int := if rollB s n = true then nextV s else 0
def rollV (s n : Int) : Int := if rollB s n = true then drawV s n else 0
theorem implRoll_any (s n : Int) (w : World) :
    Calls Try.prog 17 #[.int .i64 s, .int .i64 n] w fun e w' => e = .returned (.tuple #[.int .i64 (rollS s n), .int .i64 (rollV s n), .bool (rollB s n)]) ∧ w = w' := by
  cases h1 : inR s 1 2147483646
  · go_enter Try.func17, Try.ntmps17
    go_wp2_with (first | (go_at_call 50; refine (isState_any _ _).mono ?_; rintro e w' ⟨rfl, rfl⟩) | (go_at_call 51; refine (isBound_any _ _).mono ?_; rintro e w' ⟨rfl, rfl⟩))
    go_ret3
    exact ⟨by simp [rollS, rollV, rollB, h1], rfl⟩
  · cases h2 : inR n 1 1000000
    · go_enter Try.func17, Try.ntmps17
      go_wp2_with (first | (go_at_call 50; refine (isState_any _ _).mono ?_; rintro e w' ⟨rfl, rfl⟩) | (go_at_call 51; refine (isBound_any _ _).mono ?_; rintro e w' ⟨rfl, rfl⟩))
      go_ret3
      exact ⟨by simp [rollS, rollV, rollB, h1, h2], rfl⟩
    · obtain ⟨a1, a2⟩ := inR_true.1 h1
      obtain ⟨b1, b2⟩ := inR_true.1 h2
      go_enter Try.func17, Try.ntmps17
      go_wp2_with (first | (go_at_call 50; refine (isState_any _ _).mono ?_; rintro e w' ⟨rfl, rfl⟩) | (go_at_call 51; refine (isBound_any _ _).mono ?_; rintro e w' ⟨rfl, rfl⟩) | (go_at_call 52; refine (draw_any _ _ _ (by omega) (by omega) (by omega) (by omega)).mono ?_; rintro e w' ⟨rfl, rfl⟩))
      go_ret3
      exact ⟨by simp [rollS, rollV, rollB, h1, h2], rfl⟩
theorem specRoll_any (s n : Int) (w : World) :
    Calls Try.prog 16 #[.int .i64 s, .int .i64 n] w fun e w' => e = .returned (.tuple #[.int .i64 (rollS s n), .int .i64 (rollV s n), .bool (rollB s n)]) ∧ w = w' := by
  cases h1 : inR s 1 2147483646
  · go_enter Try.func16, Try.ntmps16
    go_wp2_with (first | (go_at_call 46; refine (l20State_any _ _).mono ?_; rintro e w' ⟨rfl, rfl⟩) | (go_at_call 48; refine (l20Below_any _ _).mono ?_; rintro e w' ⟨rfl, rfl⟩))
    go_ret3
    exact ⟨by simp [rollS, rollV, rollB, h1], rfl⟩
  · cases h2 : inR n 1 1000000
    · go_enter Try.func16, Try.ntmps16
      go_wp2_with (first | (go_at_call 46; refine (l20State_any _ _).mono ?_; rintro e w' ⟨rfl, rfl⟩) | (go_at_call 48; refine (l20Below_any _ _).mono ?_; rintro e w' ⟨rfl, rfl⟩))
      go_ret3
      exact ⟨by simp [rollS, rollV, rollB, h1, h2], rfl⟩
    · obtain ⟨a1, a2⟩ := inR_true.1 h1
      obtain ⟨b1, b2⟩ := inR_true.1 h2
      go_enter Try.func16, Try.ntmps16
      go_wp2_with (first | (go_at_call 46; refine (l20State_any _ _).mono ?_; rintro e w' ⟨rfl, rfl⟩) | (go_at_call 48; refine (l20Below_any _ _).mono ?_; rintro e w' ⟨rfl, rfl⟩) | (go_at_call 49; refine (l20Draw_any _ _ _ (by omega) (by omega) (by omega) (by omega)).mono ?_; rintro e w' ⟨rfl, rfl⟩))
      go_ret3
      exact ⟨by simp [rollS, rollV, rollB, h1, h2], rfl⟩
end Go.Proofs.Ytfljdhccacbhbaa
