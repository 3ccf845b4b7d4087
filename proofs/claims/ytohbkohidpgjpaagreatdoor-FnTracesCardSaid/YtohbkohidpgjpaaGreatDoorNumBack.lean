/- A number is recovered from its decimal text, by the reference's reader and by the library's. No program's text is walked here. -/
import Derived.Test.YtohbkohidpgjpaaGreatDoorReadT
import Derived.Test.YtohbkohidpgjpaaGreatDoorAtoiT
import Derived.Lib.AtoiTie
namespace Go.Proofs.YtohbkohidpgjpaaGreatDoor
open Go.RowKit

theorem decFrom_snoc : ∀ (l : List UInt8) (acc n d : Nat) (b : UInt8), Lib.decFrom acc l = some n → Lib.digitVal b = some d → Lib.decFrom acc (l ++ [b]) = some (n * 10 + d)
  | [], acc, n, d, b, h, hb => by
    obtain rfl : acc = n := Option.some.inj h
    simp only [List.nil_append, Lib.decFrom, hb]
  | a :: l, acc, n, d, b, h, hb => by
    simp only [List.cons_append, Lib.decFrom] at h ⊢
    cases ha : Lib.digitVal a with
    | none => rw [ha] at h; cases h
    | some x =>
      rw [ha] at h
      exact decFrom_snoc l _ n d b h hb
theorem digit_of {k : Nat} (h : k < 10) : (UInt8.ofNat (48 + k)).toNat = 48 + k := by
  rw [UInt8.toNat_ofNat']; omega
theorem digitVal_of {k : Nat} (h : k < 10) : Lib.digitVal (UInt8.ofNat (48 + k)) = some k := by
  rw [Lib.digitVal, digit_of h, if_pos (by omega), show 48 + k - 48 = k from by omega]
theorem dec_lt {n : Nat} (h : n < 10) : Lib.decDigits n = [UInt8.ofNat (48 + n)] := by rw [Lib.decDigits.eq_1, dif_pos h]
theorem dec_ge {n : Nat} (h : ¬ n < 10) : Lib.decDigits n = Lib.decDigits (n / 10) ++ [UInt8.ofNat (48 + n % 10)] := by rw [Lib.decDigits.eq_1, dif_neg h]
theorem dec_back (n : Nat) : Lib.decFrom 0 (Lib.decDigits n) = some n := by
  induction n using Nat.strongRecOn with
  | _ n ih =>
    by_cases h : n < 10
    · rw [dec_lt h]
      simp only [Lib.decFrom, digitVal_of h]
      simp
    · rw [dec_ge h, decFrom_snoc _ 0 (n / 10) (n % 10) _ (ih _ (by omega)) (digitVal_of (by omega)), show n / 10 * 10 + n % 10 = n from by omega]
theorem dec_digits (n : Nat) : ∀ b ∈ Lib.decDigits n, 48 ≤ b.toNat ∧ b.toNat ≤ 57 := by
  induction n using Nat.strongRecOn with
  | _ n ih =>
    intro b hb
    by_cases h : n < 10
    · rw [dec_lt h, List.mem_singleton] at hb
      rw [hb, digit_of h]; omega
    · rw [dec_ge h] at hb
      rcases List.mem_append.1 hb with hb | hb
      · exact ih _ (by omega) b hb
      · rw [List.mem_singleton] at hb
        rw [hb, digit_of (by omega)]; omega
theorem dec_ne (n : Nat) : Lib.decDigits n ≠ [] := by
  by_cases h : n < 10
  · rw [dec_lt h]; simp
  · rw [dec_ge h]; simp
theorem dec_len : ∀ (k n : Nat), n < 10 ^ (k + 1) → (Lib.decDigits n).length ≤ k + 1
  | 0, n, h => by rw [dec_lt (by simpa using h)]; simp
  | k + 1, n, h => by
    by_cases h10 : n < 10
    · rw [dec_lt h10]; simp
    · rw [dec_ge h10, List.length_append]
      have := dec_len k (n / 10) (by rw [Nat.pow_succ] at h; omega)
      simp only [List.length_singleton]
      omega
theorem numT_list (n : Nat) : (numT n).data.toList = Lib.decDigits n := rfl
theorem atoiO_num (n : Nat) (h : n ≤ 1000000) : atoiO (numT n).data.toList = some (n : Int) := by
  have hl := dec_len 6 n (by omega)
  unfold atoiO
  rw [numT_list, Lib.atoiAll_short _ (by omega)]
  have hb := dec_back n
  have hd := dec_digits n
  have hne := dec_ne n
  cases hx : Lib.decDigits n with
  | nil => exact absurd hx hne
  | cons b r =>
    rw [hx] at hb hd
    have h1 := hd b (List.mem_cons_self ..)
    have e1 : (b == 45) = false := by rw [beq_eq_false_iff_ne]; rintro rfl; exact absurd h1.1 (by decide)
    have e2 : (b == 43) = false := by rw [beq_eq_false_iff_ne]; rintro rfl; exact absurd h1.1 (by decide)
    simp only [Lib.atoi, e1, e2, Lib.decNat, List.isEmpty_cons, hb]
    rfl
theorem readO_num (n : Nat) (h : n < 1000000) : readO (numT n) = some (n : Int) := by
  have hl := dec_len 5 n (by omega)
  have hd := dec_digits n
  have hne := dec_ne n
  have hng : negL (numT n).data.toList = false := by
    rw [numT_list]
    cases hx : Lib.decDigits n with
    | nil => exact absurd hx hne
    | cons b r =>
      rw [hx] at hd
      have h1 := hd b (List.mem_cons_self ..)
      have e1 : (some b == some (45 : UInt8)) = false := by
        rw [beq_eq_false_iff_ne]; intro e; cases e; exact absurd h1.1 (by decide)
      rw [negL, List.head?_cons, e1, Bool.and_false]
  have hm : magL (numT n).data.toList = Lib.decDigits n := by rw [magL, hng]; rfl
  have hlen : 1 ≤ (Lib.decDigits n).length := by
    cases hx : Lib.decDigits n with
    | nil => exact absurd hx hne
    | cons b r => simp
  rw [readO, hm, dec_back, if_pos (inR_true.2 ⟨by omega, by omega⟩), hng]
  have e1 : numI (sgn false n) = numT n := by rw [show sgn false n = (n : Int) from rfl, numI, if_neg (by omega)]; rfl
  simp only [e1, beq_self_eq_true, if_true]
  rfl
end Go.Proofs.YtohbkohidpgjpaaGreatDoor
