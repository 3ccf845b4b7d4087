/- Contracts of TokensAt, program and reference alike: for all arguments; a fraction in lowest terms. -/
import Derived.Test.YtgiigcpodinpoaaRate4
namespace Go.Proofs.Ytgiigcpodinpoaa
open Go.RowKit

theorem gcd_any (a b : Nat) (w : World) (ha : a ≤ 1152921504606846976) (hb : b ≤ 1152921504606846976) :
    Calls Try.prog 77 #[.int .i64 a, .int .i64 b] w fun e w' => e = .returned (.int .i64 (Nat.gcd a b)) ∧ ∃ n, w' = w.drewN n := by
  go_enter Try.func77, Try.ntmps77
  go_wp2
  go_loopw [0, 1] (fun p q wr => ∃ (x y n : Nat), p = .int .i64 x ∧ q = .int .i64 y ∧ x ≤ 1152921504606846976 ∧ y ≤ 1152921504606846976 ∧ Hid (Nat.gcd x y = Nat.gcd a b) ∧ wr = w.drewN n) (fun _ q _ => (intOf q).toNat)
  case atStart => exact ⟨a, b, 0, rfl, rfl, ha, hb, Lib.hid rfl, rfl⟩
  case round =>
    obtain ⟨x, y, n, rfl, rfl, hx, hy, HG, rfl⟩ := hrel
    by_cases h0 : y = 0
    · subst h0
      go_wp2
      go_ret
      exact ⟨ret_int (by rw [← HG.out]; simp), n, rfl⟩
    · have hne : ((y : Int) != 0) = true := by rw [bne_iff_ne]; omega
      have hne2 : ((y : Int) == 0) = false := by rw [beq_eq_false_iff_ne]; omega
      have H0 := Lib.hid h0; clear h0
      have hpos : 1 ≤ y := by have := H0.out; omega
      go_wp2
      go_quiet (fail)
      go_wp2
      go_roundw
      case rel => exact ⟨y, x % y, n + nq, rfl, by go_num, hy, by have := Nat.mod_lt x hpos; omega, Lib.hid (by rw [← HG.out, Nat.gcd_comm y, ← Nat.gcd_rec, Nat.gcd_comm]), by simp⟩
      case measure => have := Nat.mod_lt x hpos; simp [intOf]; omega
theorem gcd_pos {a b : Nat} (hb : 1 ≤ b) : 1 ≤ Nat.gcd a b := Nat.gcd_pos_of_pos_right a hb
theorem gcd_le {a b : Nat} (hb : 1 ≤ b) : Nat.gcd a b ≤ b := Nat.gcd_le_right a hb
theorem wrap_div (a g : Nat) (ha : a ≤ 1152921504606846976) : wrap64 ((a : Int) / (g : Int)) = ((a / g : Nat) : Int) := by
  have h := Nat.div_le_self a g
  rw [show (a : Int) / (g : Int) = ((a / g : Nat) : Int) from (Int.natCast_ediv a g).symm]
  generalize a / g = q at *
  exact IntWalk.wrap64_in _ (by omega)
theorem reduced_any (a b : Nat) (w : World) (ha : a ≤ 1152921504606846976) (h1 : 1 ≤ b) (hb : b ≤ 1152921504606846976) :
    Calls Try.prog 58 #[.int .i64 a, .int .i64 b] w fun e w' => e = .returned (.tuple #[.int .i64 (a / Nat.gcd a b : Nat), .int .i64 (b / Nat.gcd a b : Nat)]) ∧ ∃ n, w' = w.drewN n := by
  have hp := gcd_pos (a := a) h1
  have hl := gcd_le (a := a) h1
  have HG := Lib.hid (gcd_any a b)
  generalize Nat.gcd a b = g at *
  have hne2 : ((g : Int) == 0) = false := by rw [beq_eq_false_iff_ne]; omega
  go_enter Try.func58, Try.ntmps58
  go_wp2_with fail
  refine (HG.out _ ha hb).mono ?_
  rintro e w1 ⟨rfl, n, rfl⟩
  go_wp2
  go_quiet (fail)
  go_wp2
  go_ret2
  exact ⟨by simp only [wrap_div a g ha, wrap_div b g hb]; rfl, n + nq, by simp⟩
theorem l19Reduce_any (a b : Nat) (w : World) (ha : a ≤ 1152921504606846976) (h1 : 1 ≤ b) (hb : b ≤ 1152921504606846976) :
    Calls Try.prog 57 #[.int .i64 a, .int .i64 b] w fun e w' => e = .returned (.tuple #[.int .i64 (a / Nat.gcd a b : Nat), .int .i64 (b / Nat.gcd a b : Nat)]) ∧ ∃ n, w' = w.drewN n := by
  have hp := gcd_pos (a := a) h1
  have hl := gcd_le (a := a) h1
  go_enter Try.func57, Try.ntmps57
  go_wp2
  go_loop [6, 7, 8] (fun p q _ => ∃ (x y : Nat), p = .int .i64 x ∧ q = .int .i64 y ∧ x ≤ 1152921504606846976 ∧ y ≤ 1152921504606846976 ∧ Hid (Nat.gcd x y = Nat.gcd a b)) (fun _ q _ => (intOf q).toNat)
  case atStart => exact ⟨a, b, rfl, rfl, ha, hb, Lib.hid rfl⟩
  case round =>
    obtain ⟨x, y, rfl, rfl, hx, hy, HG⟩ := hrel
    by_cases h0 : y = 0
    · subst h0
      have hxg : x = Nat.gcd a b := by rw [← HG.out]; simp
      subst hxg
      have hne2 : ((Nat.gcd a b : Int) == 0) = false := by rw [beq_eq_false_iff_ne]; omega
      go_wp2
      go_quiet (fail)
      go_wp2
      go_ret2
      exact ⟨by simp only [wrap_div a _ ha, wrap_div b _ hb]; rfl, nq, by simp⟩
    · have hne : ((y : Int) != 0) = true := by rw [bne_iff_ne]; omega
      have hne2 : ((y : Int) == 0) = false := by rw [beq_eq_false_iff_ne]; omega
      have H0 := Lib.hid h0; clear h0
      have hpos : 1 ≤ y := by have := H0.out; omega
      go_wp2
      go_round
      case rel => exact ⟨y, x % y, rfl, by go_num, hy, by have := Nat.mod_lt x hpos; omega, Lib.hid (by rw [← HG.out, Nat.gcd_comm y, ← Nat.gcd_rec, Nat.gcd_comm])⟩
      case measure => have := Nat.mod_lt x hpos; simp [intOf]; omega

def taG (k : Bk) (now : Int) : Nat := Nat.gcd (k.fill now).l.toNat k.d.toNat
def taN (k : Bk) (now : Int) : Int := if canFill k now = true then (((k.fill now).l.toNat / taG k now : Nat) : Int) else 0
def taD (k : Bk) (now : Int) : Int := if canFill k now = true then ((k.d.toNat / taG k now : Nat) : Int) else 0

set_option maxRecDepth 100000 in
set_option maxHeartbeats 4000000 in
theorem implTokens_any (k : Bk) (now : Int) (w : World) :
    Calls Try.prog 23 #[k.v, .int .i64 now] w fun e w' => e = .returned (.tuple #[.int .i64 (taN k now), .int .i64 (taD k now), .bool (canFill k now)]) ∧ Below w.heap.size w w' := by
  have HC := Lib.hid (canFill_any k now)
  cases h : canFill k now
  · have hz : taN k now = 0 ∧ taD k now = 0 := by simp [taN, taD, h]
    have HZ := Lib.hid hz; clear hz
    have H := Lib.hid h; clear h
    obtain ⟨n, d, b, l, t⟩ := k
    go_enter Try.func23, Try.ntmps23
    go_wp2_with fail
    refine (HC.out _).mono ?_
    rintro e w1 ⟨rfl, hb⟩
    rw [H.out]
    have HBel := Lib.hid hb; clear hb
    go_wp2
    go_ret3
    exact ⟨by rw [HZ.out.1, HZ.out.2]; rfl, Below.trans (by go_grown) (HBel.out.mono (by simp <;> omega))⟩
  · have hb := fill_bound h
    have h' := h
    simp only [canFill, Bool.and_eq_true, bkB_iff, inR_true] at h'
    have hz : taN k now = (((k.fill now).l.toNat / taG k now : Nat) : Int) ∧ taD k now = ((k.d.toNat / taG k now : Nat) : Int) := by simp [taN, taD, h]
    have HZ := Lib.hid hz; clear hz
    have HF := Lib.hid (fun w => filled_ex k now w h)
    have HR := Lib.hid (fun w => reduced_any (k.fill now).l.toNat k.d.toNat w (by omega) (by omega) (by omega))
    have e1 : (((k.fill now).l.toNat : Nat) : Int) = (k.fill now).l := Int.toNat_of_nonneg (by omega)
    have e2 : ((k.d.toNat : Nat) : Int) = k.d := Int.toNat_of_nonneg (by omega)
    have hR := HR.out
    rw [e1, e2] at hR
    clear HR
    have HR := Lib.hid hR; clear hR
    clear e1 e2 h' hb
    have H := Lib.hid h; clear h
    obtain ⟨n, d, b, l, t⟩ := k
    have hfd := field_level
    go_enter Try.func23, Try.ntmps23
    go_wp2_with fail
    refine (HC.out _).mono ?_
    rintro e w1 ⟨rfl, hb⟩
    rw [H.out]
    have kh := ((hb.block w.heap.size (by simp <;> omega)).trans (heap_alloc_new _ _)); have k0 := cell_of_row w1 (w.heap.size) 0 _ _ _ kh; simp at k0; have kf0 := frozen_of_row w1 (w.heap.size) 0 _ _ kh; have k1 := cell_of_row w1 (w.heap.size) 1 _ _ _ kh; simp at k1; have kf1 := frozen_of_row w1 (w.heap.size) 1 _ _ kh; have k2 := cell_of_row w1 (w.heap.size) 2 _ _ _ kh; simp at k2; have kf2 := frozen_of_row w1 (w.heap.size) 2 _ _ kh; have k3 := cell_of_row w1 (w.heap.size) 3 _ _ _ kh; simp at k3; have kf3 := frozen_of_row w1 (w.heap.size) 3 _ _ kh; have k4 := cell_of_row w1 (w.heap.size) 4 _ _ _ kh; simp at k4; have kf4 := frozen_of_row w1 (w.heap.size) 4 _ _ kh; clear kh
    have hs1 := hb.size
    simp at hs1
    have HBel := Lib.hid hb; clear hb
    have hlt : w.heap.size < w1.heap.size := by omega
    have hne : w.heap.size ≠ w1.heap.size := by omega
    clear kf0 kf1 kf2 kf3 kf4
    go_wp2_with fail
    go_region_held3 (fun w' => w'.cell? ⟨w.heap.size, 0, none⟩ = some (.int .i64 n) ∧ w'.cell? ⟨w.heap.size, 1, none⟩ = some (.int .i64 d) ∧ w'.cell? ⟨w.heap.size, 2, none⟩ = some (.int .i64 b) ∧ w'.cell? ⟨w.heap.size, 3, none⟩ = some (.int .i64 l) ∧ w'.cell? ⟨w.heap.size, 4, none⟩ = some (.int .i64 t)) (go_keep)
      (first | (go_at_call 56; refine (HF.out _).mono ?_; rintro e w' ⟨rfl, rfl⟩) | (go_at_call 58; refine (HR.out _).mono ?_; rintro e w' ⟨rfl, nr, rfl⟩))
    go_wp2
    go_ret3
    have hB : Below w.heap.size w w1 := Below.trans (by go_grown) (HBel.out.mono (by simp <;> omega))
    exact ⟨by rw [HZ.out.1, HZ.out.2]; simp [taG], by first | exact below_drewN (by go_grown) _ | go_grown⟩

set_option maxRecDepth 100000 in
set_option maxHeartbeats 4000000 in
theorem specTokens_any (k : Bk) (now : Int) (w : World) :
    Calls Try.prog 22 #[k.v, .int .i64 now] w fun e w' => e = .returned (.tuple #[.int .i64 (taN k now), .int .i64 (taD k now), .bool (canFill k now)]) ∧ Below w.heap.size w w' := by
  have HC := Lib.hid (l19Asked_any k now)
  cases h : canFill k now
  · have hz : taN k now = 0 ∧ taD k now = 0 := by simp [taN, taD, h]
    have HZ := Lib.hid hz; clear hz
    have H := Lib.hid h; clear h
    obtain ⟨n, d, b, l, t⟩ := k
    go_enter Try.func22, Try.ntmps22
    go_wp2_with fail
    refine (HC.out _).mono ?_
    rintro e w1 ⟨rfl, hb⟩
    rw [H.out]
    have HBel := Lib.hid hb; clear hb
    go_wp2
    go_ret3
    exact ⟨by rw [HZ.out.1, HZ.out.2]; rfl, Below.trans (by go_grown) (HBel.out.mono (by simp <;> omega))⟩
  · have hb := fill_bound h
    have h' := h
    simp only [canFill, Bool.and_eq_true, bkB_iff, inR_true] at h'
    have hz : taN k now = (((k.fill now).l.toNat / taG k now : Nat) : Int) ∧ taD k now = ((k.d.toNat / taG k now : Nat) : Int) := by simp [taN, taD, h]
    have HZ := Lib.hid hz; clear hz
    have HF := Lib.hid (fun w => l19Fill_ex k now w h)
    have HR := Lib.hid (fun w => l19Reduce_any (k.fill now).l.toNat k.d.toNat w (by omega) (by omega) (by omega))
    have e1 : (((k.fill now).l.toNat : Nat) : Int) = (k.fill now).l := Int.toNat_of_nonneg (by omega)
    have e2 : ((k.d.toNat : Nat) : Int) = k.d := Int.toNat_of_nonneg (by omega)
    have hR := HR.out
    rw [e1, e2] at hR
    clear HR
    have HR := Lib.hid hR; clear hR
    clear e1 e2 h' hb
    have H := Lib.hid h; clear h
    obtain ⟨n, d, b, l, t⟩ := k
    have hfd := field_level
    go_enter Try.func22, Try.ntmps22
    go_wp2_with fail
    refine (HC.out _).mono ?_
    rintro e w1 ⟨rfl, hb⟩
    rw [H.out]
    have kh := ((hb.block w.heap.size (by simp <;> omega)).trans (heap_alloc_new _ _)); have k0 := cell_of_row w1 (w.heap.size) 0 _ _ _ kh; simp at k0; have kf0 := frozen_of_row w1 (w.heap.size) 0 _ _ kh; have k1 := cell_of_row w1 (w.heap.size) 1 _ _ _ kh; simp at k1; have kf1 := frozen_of_row w1 (w.heap.size) 1 _ _ kh; have k2 := cell_of_row w1 (w.heap.size) 2 _ _ _ kh; simp at k2; have kf2 := frozen_of_row w1 (w.heap.size) 2 _ _ kh; have k3 := cell_of_row w1 (w.heap.size) 3 _ _ _ kh; simp at k3; have kf3 := frozen_of_row w1 (w.heap.size) 3 _ _ kh; have k4 := cell_of_row w1 (w.heap.size) 4 _ _ _ kh; simp at k4; have kf4 := frozen_of_row w1 (w.heap.size) 4 _ _ kh; clear kh
    have hs1 := hb.size
    simp at hs1
    have HBel := Lib.hid hb; clear hb
    have hlt : w.heap.size < w1.heap.size := by omega
    have hne : w.heap.size ≠ w1.heap.size := by omega
    clear kf0 kf1 kf2 kf3 kf4
    go_wp2_with fail
    go_region_held3 (fun w' => w'.cell? ⟨w.heap.size, 0, none⟩ = some (.int .i64 n) ∧ w'.cell? ⟨w.heap.size, 1, none⟩ = some (.int .i64 d) ∧ w'.cell? ⟨w.heap.size, 2, none⟩ = some (.int .i64 b) ∧ w'.cell? ⟨w.heap.size, 3, none⟩ = some (.int .i64 l) ∧ w'.cell? ⟨w.heap.size, 4, none⟩ = some (.int .i64 t)) (go_keep)
      (first | (go_at_call 54; refine (HF.out _).mono ?_; rintro e w' ⟨rfl, rfl⟩) | (go_at_call 57; refine (HR.out _).mono ?_; rintro e w' ⟨rfl, nr, rfl⟩))
    go_wp2
    go_ret3
    have hB : Below w.heap.size w w1 := Below.trans (by go_grown) (HBel.out.mono (by simp <;> omega))
    exact ⟨by rw [HZ.out.1, HZ.out.2]; simp [taG], by first | exact below_drewN (by go_grown) _ | go_grown⟩
end Go.Proofs.Ytgiigcpodinpoaa
