/- Plain laws on the generator's numbers: powers modulo the prime. No program in sight. -/
import Derived.WalkKit
namespace Go.Proofs.Ytfljdhccacbhbaa.DM

def P : Int := 2147483647
/-- s times f to the n, modulo the prime. -/
def mp (s f : Int) (n : Nat) : Int := s * f ^ n % 2147483647

theorem pow_mod (a : Int) (n : Nat) : (a % 2147483647) ^ n % 2147483647 = a ^ n % 2147483647 := by
  induction n with
  | zero => simp
  | succ n ih => rw [Int.pow_succ, Int.pow_succ, Int.mul_emod, ih, Int.emod_emod, ← Int.mul_emod]
theorem mp_mod_l (s f : Int) (n : Nat) : mp (s % 2147483647) f n = mp s f n := by
  unfold mp; rw [Int.mul_emod, Int.emod_emod, ← Int.mul_emod]
theorem mp_mod_r (s f : Int) (n : Nat) : mp s (f % 2147483647) n = mp s f n := by
  unfold mp; rw [Int.mul_emod, pow_mod, ← Int.mul_emod]
theorem mp_zero (s f : Int) (h0 : 0 ≤ s) (h : s < 2147483647) : mp s f 0 = s := by
  unfold mp; rw [Int.pow_zero, Int.mul_one]; omega
theorem sq_pow (f : Int) (k : Nat) : (f * f) ^ k = f ^ (2 * k) := by
  induction k with
  | zero => simp
  | succ k ih => rw [Int.pow_succ, ih, show 2 * (k + 1) = 2 * k + 1 + 1 from by omega, Int.pow_succ, Int.pow_succ, Int.mul_assoc]
theorem mp_odd (s f : Int) (n : Nat) (h : n % 2 = 1) : mp (s * f % 2147483647) (f * f % 2147483647) (n / 2) = mp s f n := by
  rw [mp_mod_l, mp_mod_r]; unfold mp
  rw [sq_pow, show s * f * f ^ (2 * (n / 2)) = s * f ^ n from ?_]
  conv => rhs; rw [show n = 2 * (n / 2) + 1 from by omega, Int.pow_succ]
  rw [Int.mul_assoc, Int.mul_comm f]
theorem mp_even (s f : Int) (n : Nat) (h : n % 2 = 0) : mp s (f * f % 2147483647) (n / 2) = mp s f n := by
  rw [mp_mod_r]; unfold mp
  rw [sq_pow, show 2 * (n / 2) = n from by omega]
theorem mp_range (s f : Int) (n : Nat) : 0 ≤ mp s f n ∧ mp s f n < 2147483647 := by unfold mp; omega
/-- The reference multiplies by the power, the program steps on: one number. -/
theorem mp_mul (s f : Int) (n : Nat) : s * mp 1 f n % 2147483647 = mp s f n := by
  unfold mp; rw [Int.one_mul, Int.mul_emod, Int.emod_emod, ← Int.mul_emod]
theorem mul_bound (a b : Int) (ha : 0 ≤ a) (ha' : a < 2147483647) (hb : 0 ≤ b) (hb' : b < 2147483647) : 0 ≤ a * b ∧ a * b ≤ 4611686014132420609 := by
  refine ⟨Int.mul_nonneg ha hb, ?_⟩
  exact Int.le_trans (Int.mul_le_mul (c := 2147483647) (d := 2147483647) (by omega) (by omega) hb (by omega)) (by omega)
end Go.Proofs.Ytfljdhccacbhbaa.DM
