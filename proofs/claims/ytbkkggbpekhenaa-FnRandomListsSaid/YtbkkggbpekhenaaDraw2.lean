/- Contracts of the generator's public functions that return numbers alone, program and reference alike: for every argument. -/
import Derived.Test.YtbkkggbpekhenaaDraw1
namespace Go.Proofs.Ytbkkggbpekhenaa
open Go.RowKit

def skipB (s n : Int) : Bool := inR s 1 2147483646 && inR n 0 1000000000000
def skipV (s n : Int) : Int := if skipB s n = true then DM.mp s 16807 n.toNat else 0

theorem skipB_in (s n : Int) (hn : inR n 0 1000000000000 = true) : skipB s n = inR s 1 2147483646 := by simp [skipB, hn]
theorem skipV_ok {s n : Int} (h : inR s 1 2147483646 = true) (hn : inR n 0 1000000000000 = true) : skipV s n = DM.mp s 16807 n.toNat := by simp [skipV, skipB, h, hn]
theorem implSkip_any (s n : Int) (w : World) :
    Calls Try.prog 18 #[.int .i64 s, .int .i64 n] w fun e w' => e = .returned (.tuple #[.int .i64 (skipV s n), .bool (skipB s n)]) ∧ w = w' := by
  cases h1 : inR s 1 2147483646
  · go_enter Try.func18, Try.ntmps18
    go_wp2_with (first | (go_at_call 35; refine (isState_any _ _).mono ?_; rintro e w' ⟨rfl, rfl⟩) | (go_at_call 29; refine (within_any _ _ _ _).mono ?_; rintro e w' ⟨rfl, rfl⟩))
    go_ret2
    exact ⟨by simp [skipV, skipB, h1], rfl⟩
  · cases h2 : inR n 0 1000000000000
    · go_enter Try.func18, Try.ntmps18
      go_wp2_with (first | (go_at_call 35; refine (isState_any _ _).mono ?_; rintro e w' ⟨rfl, rfl⟩) | (go_at_call 29; refine (within_any _ _ _ _).mono ?_; rintro e w' ⟨rfl, rfl⟩))
      go_ret2
      exact ⟨by simp [skipV, skipB, h1, h2], rfl⟩
    · obtain ⟨a1, a2⟩ := inR_true.1 h1
      obtain ⟨b1, b2⟩ := inR_true.1 h2
      go_enter Try.func18, Try.ntmps18
      go_wp2_with (first | (go_at_call 35; refine (isState_any _ _).mono ?_; rintro e w' ⟨rfl, rfl⟩) | (go_at_call 29; refine (within_any _ _ _ _).mono ?_; rintro e w' ⟨rfl, rfl⟩) | (go_at_call 43; refine (timesPower_any _ _ _ _ (by omega) (by omega) (by omega) (by omega) (by omega) (by omega)).mono ?_; rintro e w' ⟨rfl, rfl⟩))
      go_ret2
      exact ⟨by simp [skipV, skipB, h1, h2], rfl⟩


/-- one step -/
def nextV (s : Int) : Int := s * 16807 % 2147483647
theorem nextV_range (s : Int) : 0 ≤ nextV s ∧ nextV s < 2147483647 := by unfold nextV; omega
theorem nextV_mp (s : Int) : nextV s = DM.mp s 16807 1 := rfl
theorem l20Next_any (s : Int) (w : World) (h1 : 0 ≤ s) (h2 : s < 2147483647) :
    Calls Try.prog 47 #[.int .i64 s] w fun e w' => e = .returned (.int .i64 (nextV s)) ∧ w = w' := by
  go_enter Try.func47, Try.ntmps47
  go_wp2
  go_ret
  exact ⟨rfl, rfl⟩

/-- one draw below n -/
def drawV (s n : Int) : Int := nextV s * n / 2147483647
theorem next_bound (s n : Int) (h0 : 0 ≤ n) (hn : n ≤ 1000000) : 0 ≤ nextV s * n ∧ nextV s * n ≤ 4611686014132420609 :=
  let ⟨a, b⟩ := nextV_range s; DM.mul_bound (nextV s) n a b h0 (by omega)
theorem drawV_range (s n : Int) (h0 : 1 ≤ n) (hn : n ≤ 1000000) : 0 ≤ drawV s n ∧ drawV s n < n := by
  obtain ⟨a, b⟩ := nextV_range s
  obtain ⟨c, d⟩ := next_bound s n (by omega) hn
  have e : nextV s * n ≤ 2147483646 * n := Int.mul_le_mul_of_nonneg_right (by omega) (by omega)
  unfold drawV; omega
theorem draw_any (s n : Int) (w : World) (h1 : 0 ≤ s) (h2 : s < 2147483647) (h0 : 0 ≤ n) (hn : n ≤ 1000000) :
    Calls Try.prog 37 #[.int .i64 s, .int .i64 n] w fun e w' => e = .returned (.tuple #[.int .i64 (nextV s), .int .i64 (drawV s n)]) ∧ w = w' := by
  have hb := next_bound s n h0 hn
  unfold nextV at hb
  obtain ⟨b1, b2⟩ := hb
  go_enter Try.func37, Try.ntmps37
  go_wp2
  go_ret2
  exact ⟨rfl, rfl⟩
theorem l20Draw_any (s n : Int) (w : World) (h1 : 0 ≤ s) (h2 : s < 2147483647) (h0 : 0 ≤ n) (hn : n ≤ 1000000) :
    Calls Try.prog 39 #[.int .i64 s, .int .i64 n] w fun e w' => e = .returned (.tuple #[.int .i64 (nextV s), .int .i64 (drawV s n)]) ∧ w = w' := by
  have hb := next_bound s n h0 hn
  obtain ⟨b1, b2⟩ := hb
  go_enter Try.func39, Try.ntmps39
  go_wp2_with (go_at_call 47; refine (l20Next_any _ _ (by omega) (by omega)).mono ?_; rintro e w' ⟨rfl, rfl⟩)
  go_ret2
  exact ⟨rfl, rfl⟩

def rollB (s n : Int) : Bool := inR s 1 2147483646 && inR n 1 1000000
def rollS (s n : Int) : Int := if rollB s n = true then nextV s else 0
def rollV (s n : Int) : Int := if rollB s n = true then drawV s n else 0
end Go.Proofs.Ytbkkggbpekhenaa
