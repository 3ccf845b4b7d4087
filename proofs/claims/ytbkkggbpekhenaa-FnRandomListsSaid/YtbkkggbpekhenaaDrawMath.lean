/- Plain laws on the generator's numbers: powers modulo the prime. No program in sight. -/
import Derived.WalkKit
namespace Go.Proofs.Ytbkkggbpekhenaa.DM

def P : Int := 2147483647
/-- s times f to the n, modulo the prime. -/
def mp (s f : Int) (n : Nat) : Int := s * f ^ n % 2147483647

theorem pow_mod (a : Int) (n : Nat) : (a % 2147483647) ^ n % 2147483647 = a ^ n % 2147483647 := by
  induction n with
  | zero => simp
  | succ n ih => rw [Int.pow_succ, Int.pow_succ, Int.mul_emod, ih, Int.emod_emod, ← Int.mul_emod]
theorem mp_mod_l (s f : Int) (n : Nat) : mp (s % 2147483647) f n = mp s f n := by
  unfold mp; rw [Int.mul_emod, Int.emod_emod, ← Int.mul_emod]
theorem mp_mod_r (s f : Int) (n : Nat) : mp s (f % 2147483647) n = mp s f n := by
  unfold mp; rw [Int.mul_emod, pow_mod, ← Int.mul_emod]
theorem mp_zero (s f : Int) (h0 : 0 ≤ s) (h : s < 2147483647) : mp s f 0 = s := by
  unfold mp; rw [Int.pow_zero, Int.mul_one]; omega
theorem sq_pow (f : Int) (k : Nat) : (f * f) ^ k = f ^ (2 * k) := by
  induction k with
  | zero => simp
  | succ k ih => rw [Int.pow_succ, ih, show 2 * (k + 1) = 2 * k + 1 + 1 from by omega, Int.pow_succ, Int.pow_succ, Int.mul_assoc]
theorem mp_odd (s f : Int) (n : Nat) (h : n % 2 = 1) : mp (s * f % 2147483647) (f * f % 2147483647) (n / 2) = mp s f n := by
  rw [mp_mod_l, mp_mod_r]; unfold mp
  rw [sq_pow, show s * f * f ^ (2 * (n / 2)) = s * f ^ n from ?_]
  conv => rhs; rw [show n = 2 * (n / 2) + 1 from by omega, Int.pow_succ]
  rw [Int.mul_assoc, Int.mul_comm f]
theorem mp_even (s f : Int) (n : Nat) (h : n % 2 = 0) : mp s (f * f % 2147483647) (n / 2) = mp s f n := by
  rw [mp_mod_r]; unfold mp
  rw [sq_pow, show 2 * (n / 2) = n from by omega]
theorem mp_range (s f : Int) (n : Nat) : 0 ≤ mp s f n ∧ mp s f n < 2147483647 := by unfold mp; omega
/-- The reference multiplies by the power, the program steps on: one number. -/
theorem mp_mul (s f : Int) (n : Nat) : s * mp 1 f n % 2147483647 = mp s f n := by
  unfold mp; rw [Int.one_mul, Int.mul_emod, Int.emod_emod, ← Int.mul_emod]
theorem mp_mp (s f : Int) (a b : Nat) : mp (mp s f a) f b = mp s f (a + b) := by
  show mp (s * f ^ a % 2147483647) f b = _
  rw [mp_mod_l]; unfold mp
  rw [Int.mul_assoc, ← Int.pow_add]
/-- powers by squaring, for the kernel -/
def fastP : Nat → Int → Int → Nat → Int
  | 0, s, _, _ => s
  | k + 1, s, f, n => if n = 0 then s else if n % 2 = 1 then fastP k (s * f % 2147483647) (f * f % 2147483647) (n / 2) else fastP k s (f * f % 2147483647) (n / 2)
theorem fastP_eq (k : Nat) (s f : Int) (n : Nat) (hk : n < 2 ^ k) (h0 : 0 ≤ s) (h1 : s < 2147483647) : fastP k s f n = mp s f n := by
  induction k generalizing s f n with
  | zero => have : n = 0 := by simp at hk; exact hk
            subst this; rw [mp_zero s f h0 h1]; rfl
  | succ k ih =>
    have hk' : n / 2 < 2 ^ k := by rw [Nat.pow_succ] at hk; omega
    rw [fastP]
    by_cases hn : n = 0
    · subst hn; rw [if_pos rfl, mp_zero s f h0 h1]
    · rw [if_neg hn]
      by_cases ho : n % 2 = 1
      · rw [if_pos ho, ih _ _ _ hk' (by omega) (by omega), mp_odd s f n ho]
      · rw [if_neg ho, ih _ _ _ hk' h0 h1, mp_even s f n (by omega)]
theorem fermat1 : mp 1 16807 2147483646 = 1 := by
  rw [← fastP_eq 31 1 16807 2147483646 (by decide) (by decide) (by decide)]
  decide +kernel
/-- The prime's order: a whole round of steps leads back. -/
theorem fermat (s : Int) (h0 : 0 ≤ s) (h1 : s < 2147483647) : mp s 16807 2147483646 = s := by
  rw [← mp_mul, fermat1, Int.mul_one]; omega
theorem mp_pos (s : Int) (k : Nat) (h0 : 1 ≤ s) (h1 : s < 2147483647) (hk : k ≤ 2147483646) : 1 ≤ mp s 16807 k := by
  have hr := mp_range s 16807 k
  by_cases hz : mp s 16807 k = 0
  · have h := mp_mp s 16807 k (2147483646 - k)
    rw [hz, show k + (2147483646 - k) = 2147483646 from by omega, fermat s (by omega) h1] at h
    simp [mp] at h
    omega
  · omega
theorem mul_bound (a b : Int) (ha : 0 ≤ a) (ha' : a < 2147483647) (hb : 0 ≤ b) (hb' : b < 2147483647) : 0 ≤ a * b ∧ a * b ≤ 4611686014132420609 := by
  refine ⟨Int.mul_nonneg ha hb, ?_⟩
  exact Int.le_trans (Int.mul_le_mul (c := 2147483647) (d := 2147483647) (by omega) (by omega) hb (by omega)) (by omega)
end Go.Proofs.Ytbkkggbpekhenaa.DM
