/- Contracts of the generator's functions: states, powers, one draw. Conditions: the ranges that the callers have tested. -/
import Derived.Test.YtbkkggbpekhenaaNum
import Derived.Test.YtbkkggbpekhenaaDrawMath
namespace Go.Proofs.Ytbkkggbpekhenaa
open Go.RowKit

theorem isState_any (s : Int) (w : World) :
    Calls Try.prog 35 #[.int .i64 s] w fun e w' => e = .returned (.bool (inR s 1 2147483646)) ∧ w = w' := by
  go_enter Try.func35, Try.ntmps35
  go_wp2_with (go_at_call 29; refine (within_any _ _ _ _).mono ?_; rintro e w' ⟨rfl, rfl⟩)
  go_ret
  exact ⟨rfl, rfl⟩
theorem l20State_any (s : Int) (w : World) :
    Calls Try.prog 26 #[.int .i64 s] w fun e w' => e = .returned (.bool (inR s 1 2147483646)) ∧ w = w' := by
  go_enter Try.func26, Try.ntmps26
  go_wp2_with (go_at_call 27; refine (l1In_any _ _ _ _).mono ?_; rintro e w' ⟨rfl, rfl⟩)
  go_ret
  exact ⟨rfl, rfl⟩
theorem isBound_any (n : Int) (w : World) :
    Calls Try.prog 41 #[.int .i64 n] w fun e w' => e = .returned (.bool (inR n 1 1000000)) ∧ w = w' := by
  go_enter Try.func41, Try.ntmps41
  go_wp2_with (go_at_call 29; refine (within_any _ _ _ _).mono ?_; rintro e w' ⟨rfl, rfl⟩)
  go_ret
  exact ⟨rfl, rfl⟩
theorem l20Below_any (n : Int) (w : World) :
    Calls Try.prog 42 #[.int .i64 n] w fun e w' => e = .returned (.bool (inR n 1 1000000)) ∧ w = w' := by
  go_enter Try.func42, Try.ntmps42
  go_wp2_with (go_at_call 27; refine (l1In_any _ _ _ _).mono ?_; rintro e w' ⟨rfl, rfl⟩)
  go_ret
  exact ⟨rfl, rfl⟩

theorem timesPower_nat (s f : Int) (n : Nat) (w : World) (hs0 : 0 ≤ s) (hs : s < 2147483647) (hf0 : 0 ≤ f) (hf : f < 2147483647) (hn : n ≤ 1000000000000) :
    Calls Try.prog 43 #[.int .i64 s, .int .i64 f, .int .i64 n] w fun e w' => e = .returned (.int .i64 (DM.mp s f n)) ∧ w = w' := by
  go_enter Try.func43, Try.ntmps43
  go_wp2
  go_loop [0, 1, 2] (fun a b c => ∃ (x y : Int) (k : Nat), 0 ≤ x ∧ x < 2147483647 ∧ 0 ≤ y ∧ y < 2147483647 ∧ k ≤ n ∧ a = .int .i64 x ∧ b = .int .i64 y ∧ c = .int .i64 k ∧ Hid (DM.mp x y k = DM.mp s f n)) (fun _ _ c => (intOf c).toNat)
  case atStart => exact ⟨s, f, n, hs0, hs, hf0, hf, Nat.le_refl _, rfl, rfl, rfl, Lib.hid rfl⟩
  case round =>
    obtain ⟨x, y, k, hx0, hx, hy0, hy, hk, rfl, rfl, rfl, HM⟩ := hrel
    have hxy := DM.mul_bound x y hx0 hx hy0 hy
    have hyy := DM.mul_bound y y hy0 hy hy0 hy
    obtain ⟨hxy0, hxy1⟩ := hxy
    obtain ⟨hyy0, hyy1⟩ := hyy
    by_cases hk0 : k = 0
    · subst hk0
      go_wp2
      go_ret
      exact ⟨ret_int (by rw [← HM.out, DM.mp_zero x y hx0 hx]), rfl⟩
    · by_cases ho : k % 2 = 1
      · have ho' : ((k : Int) % 2 == 1) = true := by rw [beq_iff_eq]; omega
        have HO := Lib.hid ho; clear ho
        go_wp2
        go_round
        case rel => exact ⟨x * y % 2147483647, y * y % 2147483647, k / 2, by omega, by omega, by omega, by omega, by omega, rfl, rfl, by go_num, Lib.hid (by rw [DM.mp_odd x y k HO.out, HM.out])⟩
        case measure => simp [intOf]; omega
      · have ho' : ((k : Int) % 2 == 1) = false := by rw [beq_eq_false_iff_ne]; omega
        have HO := Lib.hid ho; clear ho
        go_wp2
        go_round
        case rel => exact ⟨x, y * y % 2147483647, k / 2, by omega, by omega, by omega, by omega, by omega, rfl, rfl, by go_num, Lib.hid (by rw [DM.mp_even x y k (by have := HO.out; omega), HM.out])⟩
        case measure => simp [intOf]; omega

theorem timesPower_any (s f n : Int) (w : World) (hs0 : 0 ≤ s) (hs : s < 2147483647) (hf0 : 0 ≤ f) (hf : f < 2147483647) (h0 : 0 ≤ n) (hn : n ≤ 1000000000000) :
    Calls Try.prog 43 #[.int .i64 s, .int .i64 f, .int .i64 n] w fun e w' => e = .returned (.int .i64 (DM.mp s f n.toNat)) ∧ w = w' := by
  obtain ⟨m, rfl⟩ := Int.eq_ofNat_of_zero_le h0
  exact timesPower_nat s f m w hs0 hs hf0 hf (by omega)

end Go.Proofs.Ytbkkggbpekhenaa
