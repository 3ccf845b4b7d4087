/- Plain laws of the laws on buckets: one tick earlier it does not fit, what fits need not wait, filling in two steps is filling in one. No program in sight. -/
import Derived.Test.YtgiigcpodinpoaaRate6
namespace Go.Proofs.Ytgiigcpodinpoaa

theorem ask_parts {k : Bk} {x : Ld} (h : askB k x = true) : canFill k x.t = true ∧ ldB x = true := by
  simpa only [askB, Bool.and_eq_true] using h
theorem wait_nonneg {k : Bk} {x : Ld} (h : canFill k x.t = true) : 0 ≤ k.waitT x := by
  simp only [canFill, Bool.and_eq_true, bkB_iff] at h
  exact ceil_nonneg _ _ h.1.1.1 (by omega)
/-- A load that is delayed as told fits, and the bucket is valid behind it. -/
theorem told_fits {k : Bk} {x : Ld} (h : canFill k x.t = true) (hx : ldB x = true) (hw : k.waitB x = true) :
    ttB k ⟨x.t + k.waitT x, x.s⟩ = true ∧ bkB (ttK k ⟨x.t + k.waitT x, x.s⟩) = true := by
  obtain ⟨h1, h2⟩ := wait_fits h hx hw
  have h3 := ldB_iff.1 hx
  have h4 := h1
  simp only [canFill, Bool.and_eq_true, bkB_iff, inR_true] at h4
  have hl : ldB ⟨x.t + k.waitT x, x.s⟩ = true := ldB_iff.2 ⟨by show 0 ≤ x.t + k.waitT x ∧ x.t + k.waitT x ≤ 10000; omega, h3.2⟩
  have ht : ttB k ⟨x.t + k.waitT x, x.s⟩ = true := by simp only [ttB, askB, h1, hl, h2, Bool.and_true]
  exact ⟨ht, by rw [ttK, if_pos ht]; exact take_valid h1 h3.2.1 h2⟩
/-- One tick earlier it does not fit. -/
theorem early_not {k : Bk} {x : Ld} (h : canFill k x.t = true) (_hx : ldB x = true) (hw : k.waitB x = true) (h0 : 0 < k.waitT x) :
    ttB k ⟨x.t + k.waitT x - 1, x.s⟩ = false := by
  have hsub : k.fits (x.t + k.waitT x - 1) x.s = false := by
    have h' := h
    simp only [canFill, Bool.and_eq_true, bkB_iff, inR_true] at h
    simp only [Bk.waitB, Bool.and_eq_true, decide_eq_true_eq] at hw
    obtain ⟨⟨⟨a1, a2⟩, ⟨b1, b2⟩, ⟨c1, c2⟩, ⟨d1, d2⟩, e1, e2⟩, f1, f2⟩ := h
    have hc := ceil_lt (max 0 (x.s * k.d - (k.fill x.t).l)) k.n a1
    have hc' : (k.waitT x - 1) * k.n < max 0 (x.s * k.d - min (k.l + (x.t - k.t) * k.n) (k.b * k.d)) ∨ max 0 (x.s * k.d - min (k.l + (x.t - k.t) * k.n) (k.b * k.d)) = 0 := hc
    have hz : max 0 (x.s * k.d - min (k.l + (x.t - k.t) * k.n) (k.b * k.d)) = 0 → k.waitT x = 0 := by
      intro e
      have : k.waitT x = (max 0 (x.s * k.d - min (k.l + (x.t - k.t) * k.n) (k.b * k.d)) + k.n - 1) / k.n := rfl
      rw [this, e]
      exact Int.ediv_eq_zero_of_lt (by omega) (by omega)
    have hsd : x.s * k.d ≤ k.b * k.d := Int.mul_le_mul_of_nonneg_right hw.1 (by omega)
    have hd : (x.t + k.waitT x - 1 - k.t) * k.n = (x.t - k.t) * k.n + (k.waitT x - 1) * k.n := by rw [← Int.add_mul]; congr 1; omega
    unfold Bk.fits
    apply decide_eq_false
    show ¬ x.s * k.d ≤ min (k.l + (x.t + k.waitT x - 1 - k.t) * k.n) (k.b * k.d)
    rw [hd]
    rcases hc' with hc' | hc'
    · omega
    · have := hz hc'; omega
  rw [ttB]
  show (askB k ⟨x.t + k.waitT x - 1, x.s⟩ && k.fits (x.t + k.waitT x - 1) x.s) = false
  rw [hsub, Bool.and_false]
/-- What fits need not wait. -/
theorem fits_now {k : Bk} {x : Ld} (h : ttB k x = true) : k.waitB x = true ∧ k.waitT x = 0 := by
  simp only [ttB, askB, Bool.and_eq_true] at h
  obtain ⟨⟨h1, hx⟩, hf⟩ := h
  simp only [canFill, Bool.and_eq_true, bkB_iff, inR_true] at h1
  rw [ldB_iff] at hx
  obtain ⟨⟨⟨a1, a2⟩, ⟨b1, b2⟩, ⟨c1, c2⟩, ⟨d1, d2⟩, e1, e2⟩, f1, f2⟩ := h1
  have hf' : x.s * k.d ≤ min (k.l + (x.t - k.t) * k.n) (k.b * k.d) := of_decide_eq_true hf
  have hw : k.waitT x = 0 := by
    have : k.waitT x = (max 0 (x.s * k.d - min (k.l + (x.t - k.t) * k.n) (k.b * k.d)) + k.n - 1) / k.n := rfl
    rw [this, show max 0 (x.s * k.d - min (k.l + (x.t - k.t) * k.n) (k.b * k.d)) = 0 by omega]
    exact Int.ediv_eq_zero_of_lt (by omega) (by omega)
  refine ⟨?_, hw⟩
  simp only [Bk.waitB, Bool.and_eq_true, decide_eq_true_eq]
  refine ⟨?_, by omega⟩
  have : x.s * k.d ≤ k.b * k.d := by omega
  exact Int.le_of_mul_le_mul_right this (by omega)
/-- Filling in two steps is filling in one. -/
theorem fill_fill {k : Bk} {m now : Int} (h : canFill k m = true) (hm : m ≤ now) : (k.fill m).fill now = k.fill now := by
  simp only [canFill, Bool.and_eq_true, bkB_iff, inR_true] at h
  obtain ⟨⟨⟨a1, a2⟩, _⟩, _⟩ := h
  have h1 : 0 ≤ (now - m) * k.n := Int.mul_nonneg (by omega) (by omega)
  have h2 : (now - k.t) * k.n = (m - k.t) * k.n + (now - m) * k.n := by rw [← Int.add_mul]; congr 1; omega
  simp only [Bk.fill, Bk.mk.injEq, true_and, and_true]
  rw [h2]
  omega
theorem half_can {k : Bk} {now : Int} (h : canFill k now = true) : (k.t + now).tdiv 2 = (k.t + now) / 2 ∧ canFill k ((k.t + now) / 2) = true ∧ (k.t + now) / 2 ≤ now ∧ 0 ≤ k.t + now ∧ k.t + now ≤ 20000 ∧ canFill (k.fill ((k.t + now) / 2)) now = true := by
  have h' := h
  simp only [canFill, Bool.and_eq_true, bkB_iff, inR_true] at h
  have hc : canFill k ((k.t + now) / 2) = true := by simp only [canFill, Bool.and_eq_true, bkB_iff, inR_true]; omega
  have hv := fill_valid hc
  refine ⟨Int.tdiv_eq_ediv_of_nonneg (by omega), hc, by omega, by omega, by omega, ?_⟩
  simp only [canFill, hv, Bool.true_and, inR_true]
  show (k.t + now) / 2 ≤ now ∧ now ≤ 10000
  omega
/-- The tokens that are told, as a fraction, are the bucket's level. -/
theorem tokens_level {k : Bk} {now : Int} (h : canFill k now = true) : taN k now * k.d = (fiK k now).l * taD k now ∧ 0 ≤ taN k now * k.d ∧ taN k now * k.d ≤ 10000000 := by
  have hb := fill_bound h
  have h' := h
  simp only [canFill, Bool.and_eq_true, bkB_iff, inR_true] at h'
  obtain ⟨⟨⟨a1, a2⟩, ⟨b1, b2⟩, _⟩, _⟩ := h'
  rw [taN, if_pos h, taD, if_pos h, fiK, if_pos h]
  unfold taG
  obtain ⟨l, hl⟩ := Int.eq_ofNat_of_zero_le hb.1
  obtain ⟨d, hd⟩ := Int.eq_ofNat_of_zero_le (show 0 ≤ k.d by omega)
  rw [hl, hd]
  simp only [Int.toNat_natCast]
  have h1 : l / Nat.gcd l d * d = l * (d / Nat.gcd l d) := by
    obtain ⟨a, ha⟩ := Nat.gcd_dvd_left l d
    obtain ⟨b, hb⟩ := Nat.gcd_dvd_right l d
    have hp : 0 < Nat.gcd l d := Nat.gcd_pos_of_pos_right l (by omega)
    generalize Nat.gcd l d = g at ha hb hp ⊢
    subst ha; subst hb
    rw [Nat.mul_div_cancel_left _ hp, Nat.mul_div_cancel_left _ hp]
    rw [Nat.mul_comm g b, ← Nat.mul_assoc, Nat.mul_comm, Nat.mul_comm g a, Nat.mul_right_comm]
    rw [Nat.mul_comm]
  have h2 : l / Nat.gcd l d * d ≤ 100000 * 100 := Nat.mul_le_mul (Nat.le_trans (Nat.div_le_self _ _) (by omega)) (by omega)
  have e : (((l / Nat.gcd l d : Nat) : Int)) * (d : Int) = ((l / Nat.gcd l d * d : Nat) : Int) := (Int.natCast_mul _ _).symm
  refine ⟨by exact_mod_cast h1, by rw [e]; exact Int.natCast_nonneg _, ?_⟩
  rw [e]
  generalize l / Nat.gcd l d * d = q at h2 ⊢
  omega
end Go.Proofs.Ytgiigcpodinpoaa
