/- The order of texts, as Go compares them, and strings.Compare. Plain laws. -/
import Derived.Test.YtpgonlfaeejakaaDoorLet
import Derived.Lib.Bytealg
namespace Go.Proofs.YtpgonlfaeejakaaDoor
open Go.RowKit

theorem bl_cons {a b : UInt8} {x y : List UInt8} : Op.bytesLess (a :: x) (b :: y) = true ↔ a < b ∨ (a = b ∧ Op.bytesLess x y = true) := by
  simp [Op.bytesLess]
theorem bl_irrefl : ∀ a : List UInt8, Op.bytesLess a a = false
  | [] => rfl
  | x :: a => by
    cases h : Op.bytesLess (x :: a) (x :: a) with
    | false => rfl
    | true =>
      rcases bl_cons.1 h with h | ⟨_, h⟩
      · exact absurd h (by rw [UInt8.lt_iff_toNat_lt]; omega)
      · rw [bl_irrefl a] at h; cases h
theorem bl_trans : ∀ {a b c : List UInt8}, Op.bytesLess a b = true → Op.bytesLess b c = true → Op.bytesLess a c = true
  | [], [], _, h, _ => by simp [Op.bytesLess] at h
  | [], _ :: _, [], _, h => by simp [Op.bytesLess] at h
  | [], _ :: _, _ :: _, _, _ => rfl
  | _ :: _, [], _, h, _ => by simp [Op.bytesLess] at h
  | _ :: _, _ :: _, [], _, h => by simp [Op.bytesLess] at h
  | x :: a, y :: b, z :: c, h1, h2 => by
    rw [bl_cons] at h1 h2 ⊢
    rcases h1 with h1 | ⟨rfl, h1⟩
    · rcases h2 with h2 | ⟨rfl, h2⟩
      · exact .inl (by rw [UInt8.lt_iff_toNat_lt] at *; omega)
      · exact .inl h1
    · rcases h2 with h2 | ⟨rfl, h2⟩
      · exact .inl h2
      · exact .inr ⟨rfl, bl_trans h1 h2⟩
theorem bl_total : ∀ {a b : List UInt8}, Op.bytesLess a b = false → Op.bytesLess b a = false → a = b
  | [], [], _, _ => rfl
  | [], _ :: _, h, _ => by simp [Op.bytesLess] at h
  | _ :: _, [], _, h => by simp [Op.bytesLess] at h
  | x :: a, y :: b, h1, h2 => by
    have e1 : ¬ (x < y ∨ (x = y ∧ Op.bytesLess a b = true)) := fun h => by rw [bl_cons.2 h] at h1; cases h1
    have e2 : ¬ (y < x ∨ (y = x ∧ Op.bytesLess b a = true)) := fun h => by rw [bl_cons.2 h] at h2; cases h2
    rw [not_or, UInt8.lt_iff_toNat_lt] at e1 e2
    have hxy : x = y := UInt8.toNat_inj.1 (by omega)
    subst hxy
    rw [bl_total (a := a) (b := b) (by cases h : Op.bytesLess a b with
      | false => rfl
      | true => exact absurd ⟨rfl, h⟩ e1.2) (by cases h : Op.bytesLess b a with
      | false => rfl
      | true => exact absurd ⟨rfl, h⟩ e2.2)]
theorem bl_asymm {a b : List UInt8} (h : Op.bytesLess a b = true) : Op.bytesLess b a = false := by
  cases h2 : Op.bytesLess b a with
  | false => rfl
  | true => have := bl_trans h h2; rw [bl_irrefl] at this; cases this
/-- not less, then less: less -/
theorem bl_le_lt {a b c : List UInt8} (h1 : Op.bytesLess b a = false) (h2 : Op.bytesLess b c = true) : Op.bytesLess a c = true := by
  cases h : Op.bytesLess a b with
  | true => exact bl_trans h h2
  | false => rw [bl_total h h1]; exact h2
theorem cmp_cases (a b : List UInt8) : (Lib.compareBytes a b = -1 ∧ Op.bytesLess a b = true) ∨ (Lib.compareBytes a b = 0 ∧ a = b) ∨ (Lib.compareBytes a b = 1 ∧ Op.bytesLess b a = true) := by
  induction a generalizing b with
  | nil =>
    cases b with
    | nil => exact .inr (.inl ⟨rfl, rfl⟩)
    | cons y b => exact .inl ⟨rfl, rfl⟩
  | cons x a ih =>
    cases b with
    | nil => exact .inr (.inr ⟨rfl, rfl⟩)
    | cons y b =>
      unfold Lib.compareBytes
      by_cases h1 : x < y
      · exact .inl ⟨by rw [if_pos h1], bl_cons.2 (.inl h1)⟩
      · by_cases h2 : y < x
        · exact .inr (.inr ⟨by rw [if_neg h1, if_pos h2], bl_cons.2 (.inl h2)⟩)
        · rw [UInt8.lt_iff_toNat_lt] at h1 h2
          have hxy : x = y := UInt8.toNat_inj.1 (by omega)
          subst hxy
          rw [if_neg (by rw [UInt8.lt_iff_toNat_lt]; omega), if_neg (by rw [UInt8.lt_iff_toNat_lt]; omega)]
          rcases ih b with ⟨h, g⟩ | ⟨h, g⟩ | ⟨h, g⟩
          · exact .inl ⟨h, bl_cons.2 (.inr ⟨rfl, g⟩)⟩
          · exact .inr (.inl ⟨h, by rw [g]⟩)
          · exact .inr (.inr ⟨h, bl_cons.2 (.inr ⟨rfl, g⟩)⟩)
theorem cmp_neg (a b : List UInt8) : decide (Lib.compareBytes a b < 0) = Op.bytesLess a b := by
  rcases cmp_cases a b with ⟨h, g⟩ | ⟨h, rfl⟩ | ⟨h, g⟩
  · rw [h, g]; rfl
  · rw [h, bl_irrefl]; rfl
  · rw [h, bl_asymm g]; rfl
theorem cmp_zero (a b : List UInt8) : decide (Lib.compareBytes a b = 0) = (a == b) := by
  rcases cmp_cases a b with ⟨h, g⟩ | ⟨h, rfl⟩ | ⟨h, g⟩
  · rw [h]; symm; rw [decide_eq_false (by decide), beq_eq_false_iff_ne]; rintro rfl; rw [bl_irrefl] at g; cases g
  · rw [h]; simp
  · rw [h]; symm; rw [decide_eq_false (by decide), beq_eq_false_iff_ne]; rintro rfl; rw [bl_irrefl] at g; cases g
theorem cmp_range (a b : List UInt8) : -1 ≤ Lib.compareBytes a b ∧ Lib.compareBytes a b ≤ 1 := by
  rcases cmp_cases a b with ⟨h, _⟩ | ⟨h, _⟩ | ⟨h, _⟩ <;> omega
end Go.Proofs.YtpgonlfaeejakaaDoor
