/- The law FnExactAddEvent: the program's AddEvent is the reference's, for all arguments; the arguments are left as they were, the result is new memory. No condition. -/
import Derived.Test.YtohbkohidpgjpaaEvAddS
import Derived.Test.YtohbkohidpgjpaaEvLw
import Derived.Test.YtohbkohidpgjpaaKeep
import Derived.Test.YtohbkohidpgjpaaLawKit
namespace Go.Proofs.Ytohbkohidpgjpaa.FnExactAddEvent
open Go.ChangeShapes Go.WideShapes Go.ChangeAt Go.RowKit

set_option maxHeartbeats 2000000 in
theorem walk (v0 : Value) (v1 : Value) (w : World) (x0 : ArgEv w v0) (x1 : ArgEv1 w v1) :
    Calls Try.prog 4 #[v0, v1] w fun e w' => e = .returned (.bool true) ∧ Below w.heap.size w w' := by
  obtain ⟨xs0, x0⟩ := x0
  obtain ⟨xs1, x1⟩ := x1; subst x1
  by_cases hbig0 : szEv xs0 (1048576) < 0
  · skip
    go_enter Try.func4, Try.ntmps4
    go_wp2_with fail
    refine (szEv_any _ _ (1048576) _ (x0.below (by go_grown)) (by omega) (by omega)).mono ?_
    rintro e w' ⟨rfl, rfl⟩
    go_wp2_with fail
    go_ret
    exact ⟨rfl, by go_grown⟩
  have hz0 := szEv_ge xs0 (1048576) (by omega)
  have r0_0 := x0.rd (by omega)
  go_enter Try.func4, Try.ntmps4
  go_wp2_with fail
  refine (szEv_any _ _ (1048576) _ (x0.below (by go_grown)) (by omega) (by omega)).mono ?_
  rintro e w' ⟨rfl, rfl⟩
  go_wp2_with fail
  refine wp_region_held_drew (S := (fun w' => w'.cell? ⟨w.heap.size, 0, none⟩ = some (.int .i64 xs1.t) ∧ w'.cell? ⟨w.heap.size, 1, none⟩ = some (.int .i64 xs1.n) ∧ w'.cell? ⟨w.heap.size, 2, none⟩ = some (.int .i64 xs1.k) ∧ w'.cell? ⟨w.heap.size, 3, none⟩ = some (.int .i64 xs1.m))) (by kernel_rfl) ?rx1s (fun hHeld => ?rx10)
  case rx1s => ((try dsimp only); exact ⟨by simp, by simp, by simp, by simp⟩)
  try simp only [Act.put, List.setIfInBounds_toArray, List.set_cons_zero, List.set_cons_succ]
  refine take_at 0 (some 22) (v := ?vx1_1) rfl rfl (by kernel_rfl) (by kernel_rfl) (by kernel_rfl) (fun _ _ _ h => h) (Or.inl ⟨by kernel_rfl, ?yx1_1⟩) hHeld ?zx1_1
  case yx1_1 => (intro wS hSw; (try dsimp only at hSw); go_simp; (try with_reducible rfl))
  try simp only [Act.put, List.setIfInBounds_toArray, List.set_cons_zero, List.set_cons_succ]
  refine take_at 2 (some 24) (v := ?vx1_2) rfl rfl (by kernel_rfl) (by kernel_rfl) (by kernel_rfl) (fun _ _ _ h => h) (Or.inl ⟨by kernel_rfl, ?yx1_2⟩) hHeld ?zx1_2
  case yx1_2 => (intro wS hSw; (try dsimp only at hSw); go_simp; (try with_reducible rfl))
  try simp only [Act.put, List.setIfInBounds_toArray, List.set_cons_zero, List.set_cons_succ]
  refine wpAnyH_ready (rs := [1]) (by kernel_rfl) (by simp) ?_
  refine cons_at (some 23) rfl rfl (by kernel_rfl) (fun K hK => ?kx1_4) AllReadyH.nil
  go_simp
  (go_at_call 7; refine (toEv_any _ _ _ (r0_0.below (by go_grown))).mono ?_; rintro e w1 ⟨t0_, rfl, ot0_, b10⟩; have b1 : Below (w.alloc (.cells #[.int .i64 xs1.t, .int .i64 xs1.n, .int .i64 xs1.k, .int .i64 xs1.m] 32)).heap.size (w.alloc (.cells #[.int .i64 xs1.t, .int .i64 xs1.n, .int .i64 xs1.k, .int .i64 xs1.m] 32)) w1 := Below.trans (Below.drew (Below.refl _ _)) (b10.mono (Nat.le_refl _)); have b1_ : Below w.heap.size w w1 := Below.trans (by go_grown) (b1.mono (by simp <;> omega)); have hB1 : Below w.heap.size w w1 := b1_; have z1 : w.heap.size + 1 ≤ w1.heap.size := (by have := b1.size; simp at this; omega); have r0_1 := r0_0.below b1_; have Hp1_1 := Lib.hid ((b1.block (w.heap.size) (by simp <;> omega)).trans (heap_alloc_new _ _)); have p1h := Hp1_1.out; have p10 := cell_of_row w1 (w.heap.size) 0 _ _ _ p1h; simp at p10; have p1f0 := frozen_of_row w1 (w.heap.size) 0 _ _ p1h; have p11 := cell_of_row w1 (w.heap.size) 1 _ _ _ p1h; simp at p11; have p1f1 := frozen_of_row w1 (w.heap.size) 1 _ _ p1h; have p12 := cell_of_row w1 (w.heap.size) 2 _ _ _ p1h; simp at p12; have p1f2 := frozen_of_row w1 (w.heap.size) 2 _ _ p1h; have p13 := cell_of_row w1 (w.heap.size) 3 _ _ _ p1h; simp at p13; have p1f3 := frozen_of_row w1 (w.heap.size) 3 _ _ p1h; clear p1h; have ltp1 : w.heap.size < w1.heap.size := (by omega); have nep1 : w.heap.size ≠ w1.heap.size := (by omega); have t0_o_1 := ot0_)
  try go_wp2_with fail
  refine hK.out _ _ ?sx1_4 (fun hHeld => ?_)
  case sx1_4 => ((try dsimp only); first | exact ⟨p10, p11, p12, p13⟩ | assumption)
  clear hK K
  try simp only [Act.put, List.setIfInBounds_toArray, List.set_cons_zero, List.set_cons_succ]
  refine wpAnyH_ready (rs := [3]) (by kernel_rfl) (by simp) ?_
  refine cons_at (some 25) rfl rfl (by kernel_rfl) (fun K hK => ?kx1_6) AllReadyH.nil
  go_simp
  (go_at_call 13; refine (toEv1_any xs1 _).mono ?_; rintro e w2 ⟨rfl, b2⟩; have hB2 : Below w.heap.size w w2 := hB1.trans (b2.mono hB1.size); have z2 : w1.heap.size ≤ w2.heap.size := b2.size; have r0_2 := r0_1.below b2; have t0_o_2 := t0_o_1.below b2; clear p10 p1f0 p11 p1f1 p12 p1f2 p13 p1f3 ltp1 nep1; have Hp1_2 := Lib.hid ((b2.block (w.heap.size) (by omega)).trans Hp1_1.out); have p1h := Hp1_2.out; have p10 := cell_of_row w2 (w.heap.size) 0 _ _ _ p1h; simp at p10; have p1f0 := frozen_of_row w2 (w.heap.size) 0 _ _ p1h; have p11 := cell_of_row w2 (w.heap.size) 1 _ _ _ p1h; simp at p11; have p1f1 := frozen_of_row w2 (w.heap.size) 1 _ _ p1h; have p12 := cell_of_row w2 (w.heap.size) 2 _ _ _ p1h; simp at p12; have p1f2 := frozen_of_row w2 (w.heap.size) 2 _ _ p1h; have p13 := cell_of_row w2 (w.heap.size) 3 _ _ _ p1h; simp at p13; have p1f3 := frozen_of_row w2 (w.heap.size) 3 _ _ p1h; clear p1h; have ltp1 : w.heap.size < w2.heap.size := (by omega); have nep1 : w.heap.size ≠ w2.heap.size := (by omega))
  try go_wp2_with fail
  refine hK.out _ _ ?sx1_6 (fun hHeld => ?_)
  case sx1_6 => ((try dsimp only); first | exact ⟨p10, p11, p12, p13⟩ | assumption)
  clear hK K
  try simp only [Act.put, List.setIfInBounds_toArray, List.set_cons_zero, List.set_cons_succ]
  refine wpAnyH_ready (rs := [4]) (by kernel_rfl) (by simp) ?_
  refine cons_at (some 26) rfl rfl (by kernel_rfl) (fun K hK => ?kx1_8) AllReadyH.nil
  go_simp
  (go_at_call 12; refine (specAdd_any _ _ _ _ t0_o_2.rd).mono ?_; rintro e w3 ⟨s0, rfl, os0, b3⟩; have hB3 : Below w.heap.size w w3 := hB2.trans (b3.mono hB2.size); have z3 : w2.heap.size ≤ w3.heap.size := b3.size; have r0_3 := r0_2.below b3; have t0_o_3 := t0_o_2.below b3; clear p10 p1f0 p11 p1f1 p12 p1f2 p13 p1f3 ltp1 nep1; have Hp1_3 := Lib.hid ((b3.block (w.heap.size) (by omega)).trans Hp1_2.out); have p1h := Hp1_3.out; have p10 := cell_of_row w3 (w.heap.size) 0 _ _ _ p1h; simp at p10; have p1f0 := frozen_of_row w3 (w.heap.size) 0 _ _ p1h; have p11 := cell_of_row w3 (w.heap.size) 1 _ _ _ p1h; simp at p11; have p1f1 := frozen_of_row w3 (w.heap.size) 1 _ _ p1h; have p12 := cell_of_row w3 (w.heap.size) 2 _ _ _ p1h; simp at p12; have p1f2 := frozen_of_row w3 (w.heap.size) 2 _ _ p1h; have p13 := cell_of_row w3 (w.heap.size) 3 _ _ _ p1h; simp at p13; have p1f3 := frozen_of_row w3 (w.heap.size) 3 _ _ p1h; clear p1h; have ltp1 : w.heap.size < w3.heap.size := (by omega); have nep1 : w.heap.size ≠ w3.heap.size := (by omega); have s0o_3 := os0)
  try go_wp2_with fail
  refine hK.out _ _ ?sx1_8 (fun hHeld => ?_)
  case sx1_8 => ((try dsimp only); first | exact ⟨p10, p11, p12, p13⟩ | assumption)
  clear hK K
  try simp only [Act.put, List.setIfInBounds_toArray, List.set_cons_zero, List.set_cons_succ]
  refine take_at 5 (some 21) (v := ?vx1_9) rfl rfl (by kernel_rfl) (by kernel_rfl) (by kernel_rfl) (fun _ _ _ h => h) (Or.inl ⟨by kernel_rfl, ?yx1_9⟩) hHeld ?zx1_9
  case yx1_9 => (intro wS hSw; (try dsimp only at hSw); go_simp; (try with_reducible rfl))
  try simp only [Act.put, List.setIfInBounds_toArray, List.set_cons_zero, List.set_cons_succ]
  refine take_at 6 (some 27) (v := ?vx1_10) rfl rfl (by kernel_rfl) (by kernel_rfl) (by kernel_rfl) (fun _ _ _ h => h) (Or.inl ⟨by kernel_rfl, ?yx1_10⟩) hHeld ?zx1_10
  case yx1_10 => (intro wS hSw; (try dsimp only at hSw); go_simp; (try with_reducible rfl))
  try simp only [Act.put, List.setIfInBounds_toArray, List.set_cons_zero, List.set_cons_succ]
  refine take_at 7 (some 28) (v := ?vx1_11) rfl rfl (by kernel_rfl) (by kernel_rfl) (by kernel_rfl) (fun _ _ _ h => h) (Or.inl ⟨by kernel_rfl, ?yx1_11⟩) hHeld ?zx1_11
  case yx1_11 => (intro wS hSw; (try dsimp only at hSw); go_simp; (try with_reducible rfl))
  try simp only [Act.put, List.setIfInBounds_toArray, List.set_cons_zero, List.set_cons_succ]
  refine take_at 8 (some 6) (v := ?vx1_12) rfl rfl (by kernel_rfl) (by kernel_rfl) (by kernel_rfl) (fun _ _ _ h => h) (Or.inl ⟨by kernel_rfl, ?yx1_12⟩) hHeld ?zx1_12
  case yx1_12 => (intro wS hSw; (try dsimp only at hSw); go_simp; (try with_reducible rfl))
  try simp only [Act.put, List.setIfInBounds_toArray, List.set_cons_zero, List.set_cons_succ]
  refine take_at 9 (some 7) (v := ?vx1_13) rfl rfl (by kernel_rfl) (by kernel_rfl) (by kernel_rfl) (fun _ _ _ h => h) (Or.inl ⟨by kernel_rfl, ?yx1_13⟩) hHeld ?zx1_13
  case yx1_13 => (intro wS hSw; (try dsimp only at hSw); go_simp; (try with_reducible rfl))
  try simp only [Act.put, List.setIfInBounds_toArray, List.set_cons_zero, List.set_cons_succ]
  refine wpAnyH_done (by kernel_rfl) ?_ _
  go_wp2_with fail
  refine (toEv_any _ _ _ r0_3).mono ?_
  rintro e w4 ⟨x0_, rfl, ox0_, b4⟩
  have hB4 : Below w.heap.size w w4 := hB3.trans (b4.mono hB3.size)
  have z4 : w3.heap.size ≤ w4.heap.size := b4.size
  have r0_4 := r0_3.below b4
  have s0o_4 := s0o_3.below b4
  clear p10 p1f0 p11 p1f1 p12 p1f2 p13 p1f3 ltp1 nep1
  have Hp1_4 := Lib.hid ((b4.block (w.heap.size) (by omega)).trans Hp1_3.out)
  have p1h := Hp1_4.out; have p10 := cell_of_row w4 (w.heap.size) 0 _ _ _ p1h; simp at p10; have p1f0 := frozen_of_row w4 (w.heap.size) 0 _ _ p1h; have p11 := cell_of_row w4 (w.heap.size) 1 _ _ _ p1h; simp at p11; have p1f1 := frozen_of_row w4 (w.heap.size) 1 _ _ p1h; have p12 := cell_of_row w4 (w.heap.size) 2 _ _ _ p1h; simp at p12; have p1f2 := frozen_of_row w4 (w.heap.size) 2 _ _ p1h; have p13 := cell_of_row w4 (w.heap.size) 3 _ _ _ p1h; simp at p13; have p1f3 := frozen_of_row w4 (w.heap.size) 3 _ _ p1h; clear p1h
  have ltp1 : w.heap.size < w4.heap.size := by omega
  have nep1 : w.heap.size ≠ w4.heap.size := by omega
  have x0_o_4 := ox0_
  go_wp2_with fail
  refine (toEv1_any xs1 _).mono ?_
  rintro e w5 ⟨rfl, b5⟩
  have hB5 : Below w.heap.size w w5 := hB4.trans (b5.mono hB4.size)
  have z5 : w4.heap.size ≤ w5.heap.size := b5.size
  have r0_5 := r0_4.below b5
  have s0o_5 := s0o_4.below b5
  have x0_o_5 := x0_o_4.below b5
  clear p10 p1f0 p11 p1f1 p12 p1f2 p13 p1f3 ltp1 nep1
  have Hp1_5 := Lib.hid ((b5.block (w.heap.size) (by omega)).trans Hp1_4.out)
  have p1h := Hp1_5.out; have p10 := cell_of_row w5 (w.heap.size) 0 _ _ _ p1h; simp at p10; have p1f0 := frozen_of_row w5 (w.heap.size) 0 _ _ p1h; have p11 := cell_of_row w5 (w.heap.size) 1 _ _ _ p1h; simp at p11; have p1f1 := frozen_of_row w5 (w.heap.size) 1 _ _ p1h; have p12 := cell_of_row w5 (w.heap.size) 2 _ _ _ p1h; simp at p12; have p1f2 := frozen_of_row w5 (w.heap.size) 2 _ _ p1h; have p13 := cell_of_row w5 (w.heap.size) 3 _ _ _ p1h; simp at p13; have p1f3 := frozen_of_row w5 (w.heap.size) 3 _ _ p1h; clear p1h
  have ltp1 : w.heap.size < w5.heap.size := by omega
  have nep1 : w.heap.size ≠ w5.heap.size := by omega
  go_wp2_with fail
  refine (implAdd_any _ _ _ _ x0_o_5.rd).mono ?_
  rintro e w6 ⟨g0, rfl, og0, b6⟩
  have hB6 : Below w.heap.size w w6 := hB5.trans (b6.mono hB5.size)
  have z6 : w5.heap.size ≤ w6.heap.size := b6.size
  have r0_6 := r0_5.below b6
  have s0o_6 := s0o_5.below b6
  have x0_o_6 := x0_o_5.below b6
  clear p10 p1f0 p11 p1f1 p12 p1f2 p13 p1f3 ltp1 nep1
  have Hp1_6 := Lib.hid ((b6.block (w.heap.size) (by omega)).trans Hp1_5.out)
  have p1h := Hp1_6.out; have p10 := cell_of_row w6 (w.heap.size) 0 _ _ _ p1h; simp at p10; have p1f0 := frozen_of_row w6 (w.heap.size) 0 _ _ p1h; have p11 := cell_of_row w6 (w.heap.size) 1 _ _ _ p1h; simp at p11; have p1f1 := frozen_of_row w6 (w.heap.size) 1 _ _ p1h; have p12 := cell_of_row w6 (w.heap.size) 2 _ _ _ p1h; simp at p12; have p1f2 := frozen_of_row w6 (w.heap.size) 2 _ _ p1h; have p13 := cell_of_row w6 (w.heap.size) 3 _ _ _ p1h; simp at p13; have p1f3 := frozen_of_row w6 (w.heap.size) 3 _ _ p1h; clear p1h
  have ltp1 : w.heap.size < w6.heap.size := by omega
  have nep1 : w.heap.size ≠ w6.heap.size := by omega
  have g0o_6 := og0
  go_wp2_with fail
  refine (eqEv_below _ _ _ _ (g0o_6.rd) (s0o_6.rd)).mono ?_
  rintro e w7 ⟨rfl, b7⟩
  have hB7 : Below w.heap.size w w7 := hB6.trans (b7.mono hB6.size)
  have z7 : w6.heap.size ≤ w7.heap.size := b7.size
  have r0_7 := r0_6.below b7
  have s0o_7 := s0o_6.below b7
  have x0_o_7 := x0_o_6.below b7
  have g0o_7 := g0o_6.below b7
  clear p10 p1f0 p11 p1f1 p12 p1f2 p13 p1f3 ltp1 nep1
  have Hp1_7 := Lib.hid ((b7.block (w.heap.size) (by omega)).trans Hp1_6.out)
  have p1h := Hp1_7.out; have p10 := cell_of_row w7 (w.heap.size) 0 _ _ _ p1h; simp at p10; have p1f0 := frozen_of_row w7 (w.heap.size) 0 _ _ p1h; have p11 := cell_of_row w7 (w.heap.size) 1 _ _ _ p1h; simp at p11; have p1f1 := frozen_of_row w7 (w.heap.size) 1 _ _ p1h; have p12 := cell_of_row w7 (w.heap.size) 2 _ _ _ p1h; simp at p12; have p1f2 := frozen_of_row w7 (w.heap.size) 2 _ _ p1h; have p13 := cell_of_row w7 (w.heap.size) 3 _ _ _ p1h; simp at p13; have p1f3 := frozen_of_row w7 (w.heap.size) 3 _ _ p1h; clear p1h
  have ltp1 : w.heap.size < w7.heap.size := by omega
  have nep1 : w.heap.size ≠ w7.heap.size := by omega
  go_wp2_with fail
  refine (toEv_any _ _ _ r0_7).mono ?_
  rintro e w8 ⟨y0_, rfl, oy0_, b8⟩
  have hB8 : Below w.heap.size w w8 := hB7.trans (b8.mono hB7.size)
  have z8 : w7.heap.size ≤ w8.heap.size := b8.size
  have r0_8 := r0_7.below b8
  have s0o_8 := s0o_7.below b8
  have x0_o_8 := x0_o_7.below b8
  have g0o_8 := g0o_7.below b8
  clear p10 p1f0 p11 p1f1 p12 p1f2 p13 p1f3 ltp1 nep1
  have Hp1_8 := Lib.hid ((b8.block (w.heap.size) (by omega)).trans Hp1_7.out)
  have p1h := Hp1_8.out; have p10 := cell_of_row w8 (w.heap.size) 0 _ _ _ p1h; simp at p10; have p1f0 := frozen_of_row w8 (w.heap.size) 0 _ _ p1h; have p11 := cell_of_row w8 (w.heap.size) 1 _ _ _ p1h; simp at p11; have p1f1 := frozen_of_row w8 (w.heap.size) 1 _ _ p1h; have p12 := cell_of_row w8 (w.heap.size) 2 _ _ _ p1h; simp at p12; have p1f2 := frozen_of_row w8 (w.heap.size) 2 _ _ p1h; have p13 := cell_of_row w8 (w.heap.size) 3 _ _ _ p1h; simp at p13; have p1f3 := frozen_of_row w8 (w.heap.size) 3 _ _ p1h; clear p1h
  have ltp1 : w.heap.size < w8.heap.size := by omega
  have nep1 : w.heap.size ≠ w8.heap.size := by omega
  have y0_o_8 := oy0_
  go_wp2_with fail
  refine (eqEv_below _ _ _ _ (x0_o_8.rd) (y0_o_8.rd)).mono ?_
  rintro e w9 ⟨rfl, b9⟩
  have hB9 : Below w.heap.size w w9 := hB8.trans (b9.mono hB8.size)
  have z9 : w8.heap.size ≤ w9.heap.size := b9.size
  have r0_9 := r0_8.below b9
  have s0o_9 := s0o_8.below b9
  have x0_o_9 := x0_o_8.below b9
  have g0o_9 := g0o_8.below b9
  have y0_o_9 := y0_o_8.below b9
  clear p10 p1f0 p11 p1f1 p12 p1f2 p13 p1f3 ltp1 nep1
  have Hp1_9 := Lib.hid ((b9.block (w.heap.size) (by omega)).trans Hp1_8.out)
  have p1h := Hp1_9.out; have p10 := cell_of_row w9 (w.heap.size) 0 _ _ _ p1h; simp at p10; have p1f0 := frozen_of_row w9 (w.heap.size) 0 _ _ p1h; have p11 := cell_of_row w9 (w.heap.size) 1 _ _ _ p1h; simp at p11; have p1f1 := frozen_of_row w9 (w.heap.size) 1 _ _ p1h; have p12 := cell_of_row w9 (w.heap.size) 2 _ _ _ p1h; simp at p12; have p1f2 := frozen_of_row w9 (w.heap.size) 2 _ _ p1h; have p13 := cell_of_row w9 (w.heap.size) 3 _ _ _ p1h; simp at p13; have p1f3 := frozen_of_row w9 (w.heap.size) 3 _ _ p1h; clear p1h
  have ltp1 : w.heap.size < w9.heap.size := by omega
  have nep1 : w.heap.size ≠ w9.heap.size := by omega
  go_wp2_with fail
  refine (markEv_any _ _ (1) _ _ x0_o_9 (by omega) (by omega)).mono ?_
  rintro e w10 ⟨rfl, x0_o_10, g10⟩
  have hB10 : Below w.heap.size w w10 := hB9.grown g10 hB9.size (fun k hk => by have := (x0_o_4.lt k hk).1; have := hB3.size; omega)
  have z10 : w9.heap.size ≤ w10.heap.size := g10.size
  clear p10 p1f0 p11 p1f1 p12 p1f2 p13 p1f3 ltp1 nep1
  have Hp1_10 := Lib.hid ((g10.block (w.heap.size) (by omega) (fun e => by have := (x0_o_4.lt _ e.symm).1; omega)).trans Hp1_9.out)
  have p1h := Hp1_10.out; have p10 := cell_of_row w10 (w.heap.size) 0 _ _ _ p1h; simp at p10; have p1f0 := frozen_of_row w10 (w.heap.size) 0 _ _ p1h; have p11 := cell_of_row w10 (w.heap.size) 1 _ _ _ p1h; simp at p11; have p1f1 := frozen_of_row w10 (w.heap.size) 1 _ _ p1h; have p12 := cell_of_row w10 (w.heap.size) 2 _ _ _ p1h; simp at p12; have p1f2 := frozen_of_row w10 (w.heap.size) 2 _ _ p1h; have p13 := cell_of_row w10 (w.heap.size) 3 _ _ _ p1h; simp at p13; have p1f3 := frozen_of_row w10 (w.heap.size) 3 _ _ p1h; clear p1h
  have ltp1 : w.heap.size < w10.heap.size := by omega
  have nep1 : w.heap.size ≠ w10.heap.size := by omega
  have r0_10 := r0_0.below hB10
  have s0o_10 := s0o_9.grown g10 (own_apart (B := w3.heap.size) (fun k hk => by have := (s0o_3.lt k hk).2; omega) (fun k hk => (x0_o_4.lt k hk).1))
  have g0o_10 := g0o_9.grown g10 (own_apart' (B := w5.heap.size) (fun k hk => (g0o_6.lt k hk).1) (fun k hk => by have := (x0_o_4.lt k hk).2; omega))
  go_wp2_with fail
  refine (eqEv_below _ _ _ _ (g0o_10.rd) (s0o_10.rd)).mono ?_
  rintro e w11 ⟨rfl, b11⟩
  have hB11 : Below w.heap.size w w11 := hB10.trans (b11.mono hB10.size)
  have z11 : w10.heap.size ≤ w11.heap.size := b11.size
  have r0_11 := r0_10.below b11
  have s0o_11 := s0o_10.below b11
  have g0o_11 := g0o_10.below b11
  clear p10 p1f0 p11 p1f1 p12 p1f2 p13 p1f3 ltp1 nep1
  have Hp1_11 := Lib.hid ((b11.block (w.heap.size) (by omega)).trans Hp1_10.out)
  have p1h := Hp1_11.out; have p10 := cell_of_row w11 (w.heap.size) 0 _ _ _ p1h; simp at p10; have p1f0 := frozen_of_row w11 (w.heap.size) 0 _ _ p1h; have p11 := cell_of_row w11 (w.heap.size) 1 _ _ _ p1h; simp at p11; have p1f1 := frozen_of_row w11 (w.heap.size) 1 _ _ p1h; have p12 := cell_of_row w11 (w.heap.size) 2 _ _ _ p1h; simp at p12; have p1f2 := frozen_of_row w11 (w.heap.size) 2 _ _ p1h; have p13 := cell_of_row w11 (w.heap.size) 3 _ _ _ p1h; simp at p13; have p1f3 := frozen_of_row w11 (w.heap.size) 3 _ _ p1h; clear p1h
  have ltp1 : w.heap.size < w11.heap.size := by omega
  have nep1 : w.heap.size ≠ w11.heap.size := by omega
  go_wp2_with fail
  refine (markEv_any _ _ (1) _ _ g0o_11 (by omega) (by omega)).mono ?_
  rintro e w12 ⟨rfl, g0o_12, g12⟩
  have hB12 : Below w.heap.size w w12 := hB11.grown g12 hB11.size (fun k hk => by have := (g0o_6.lt k hk).1; have := hB5.size; omega)
  have z12 : w11.heap.size ≤ w12.heap.size := g12.size
  clear p10 p1f0 p11 p1f1 p12 p1f2 p13 p1f3 ltp1 nep1
  have Hp1_12 := Lib.hid ((g12.block (w.heap.size) (by omega) (fun e => by have := (g0o_6.lt _ e.symm).1; omega)).trans Hp1_11.out)
  have p1h := Hp1_12.out; have p10 := cell_of_row w12 (w.heap.size) 0 _ _ _ p1h; simp at p10; have p1f0 := frozen_of_row w12 (w.heap.size) 0 _ _ p1h; have p11 := cell_of_row w12 (w.heap.size) 1 _ _ _ p1h; simp at p11; have p1f1 := frozen_of_row w12 (w.heap.size) 1 _ _ p1h; have p12 := cell_of_row w12 (w.heap.size) 2 _ _ _ p1h; simp at p12; have p1f2 := frozen_of_row w12 (w.heap.size) 2 _ _ p1h; have p13 := cell_of_row w12 (w.heap.size) 3 _ _ _ p1h; simp at p13; have p1f3 := frozen_of_row w12 (w.heap.size) 3 _ _ p1h; clear p1h
  have ltp1 : w.heap.size < w12.heap.size := by omega
  have nep1 : w.heap.size ≠ w12.heap.size := by omega
  have r0_12 := r0_0.below hB12
  have s0o_12 := s0o_11.grown g12 (own_apart (B := w5.heap.size) (fun k hk => by have := (s0o_3.lt k hk).2; omega) (fun k hk => (g0o_6.lt k hk).1))
  go_wp2_with fail
  refine (heldEv_any _ _ (1) _ (g0o_12.rd) (by omega) (by omega)).mono ?_
  rintro e w13 ⟨rfl, b13⟩
  have hB13 : Below w.heap.size w w13 := hB12.trans (b13.mono hB12.size)
  have z13 : w12.heap.size ≤ w13.heap.size := b13.size
  have r0_13 := r0_12.below b13
  have s0o_13 := s0o_12.below b13
  have g0o_13 := g0o_12.below b13
  clear p10 p1f0 p11 p1f1 p12 p1f2 p13 p1f3 ltp1 nep1
  have Hp1_13 := Lib.hid ((b13.block (w.heap.size) (by omega)).trans Hp1_12.out)
  have p1h := Hp1_13.out; have p10 := cell_of_row w13 (w.heap.size) 0 _ _ _ p1h; simp at p10; have p1f0 := frozen_of_row w13 (w.heap.size) 0 _ _ p1h; have p11 := cell_of_row w13 (w.heap.size) 1 _ _ _ p1h; simp at p11; have p1f1 := frozen_of_row w13 (w.heap.size) 1 _ _ p1h; have p12 := cell_of_row w13 (w.heap.size) 2 _ _ _ p1h; simp at p12; have p1f2 := frozen_of_row w13 (w.heap.size) 2 _ _ p1h; have p13 := cell_of_row w13 (w.heap.size) 3 _ _ _ p1h; simp at p13; have p1f3 := frozen_of_row w13 (w.heap.size) 3 _ _ p1h; clear p1h
  have ltp1 : w.heap.size < w13.heap.size := by omega
  have nep1 : w.heap.size ≠ w13.heap.size := by omega
  go_wp2_with fail
  refine wp_region_held_drew (S := (fun w' => w'.cell? ⟨w.heap.size, 0, none⟩ = some (.int .i64 xs1.t) ∧ w'.cell? ⟨w.heap.size, 1, none⟩ = some (.int .i64 xs1.n) ∧ w'.cell? ⟨w.heap.size, 2, none⟩ = some (.int .i64 xs1.k) ∧ w'.cell? ⟨w.heap.size, 3, none⟩ = some (.int .i64 xs1.m))) (by kernel_rfl) ?rx2s (fun hHeld => ?rx20)
  case rx2s => ((try dsimp only); exact ⟨p10, p11, p12, p13⟩)
  try simp only [Act.put, List.setIfInBounds_toArray, List.set_cons_zero, List.set_cons_succ]
  refine take_at 0 (some 80) (v := ?vx2_1) rfl rfl (by kernel_rfl) (by kernel_rfl) (by kernel_rfl) (fun _ _ _ h => h) (Or.inl ⟨by kernel_rfl, ?yx2_1⟩) hHeld ?zx2_1
  case yx2_1 => (intro wS hSw; (try dsimp only at hSw); go_simp; (try with_reducible rfl))
  try simp only [Act.put, List.setIfInBounds_toArray, List.set_cons_zero, List.set_cons_succ]
  refine take_at 2 (some 82) (v := ?vx2_2) rfl rfl (by kernel_rfl) (by kernel_rfl) (by kernel_rfl) (fun _ _ _ h => h) (Or.inl ⟨by kernel_rfl, ?yx2_2⟩) hHeld ?zx2_2
  case yx2_2 => (intro wS hSw; (try dsimp only at hSw); go_simp; (try with_reducible rfl))
  try simp only [Act.put, List.setIfInBounds_toArray, List.set_cons_zero, List.set_cons_succ]
  refine wpAnyH_ready (rs := [1]) (by kernel_rfl) (by simp) ?_
  refine cons_at (some 81) rfl rfl (by kernel_rfl) (fun K hK => ?kx2_4) AllReadyH.nil
  go_simp
  (go_at_call 7; refine (toEv_any _ _ _ (r0_13.below (by go_grown))).mono ?_; rintro e w14 ⟨z0_, rfl, oz0_, b140⟩; have b14 : Below w13.heap.size w13 w14 := Below.trans (by go_grown) (b140.mono (Nat.le_refl _)); have hB14 : Below w.heap.size w w14 := hB13.trans (b14.mono hB13.size); have z14 : w13.heap.size ≤ w14.heap.size := b14.size; have r0_14 := r0_13.below b14; have s0o_14 := s0o_13.below b14; have g0o_14 := g0o_13.below b14; clear p10 p1f0 p11 p1f1 p12 p1f2 p13 p1f3 ltp1 nep1; have Hp1_14 := Lib.hid ((b14.block (w.heap.size) (by omega)).trans Hp1_13.out); have p1h := Hp1_14.out; have p10 := cell_of_row w14 (w.heap.size) 0 _ _ _ p1h; simp at p10; have p1f0 := frozen_of_row w14 (w.heap.size) 0 _ _ p1h; have p11 := cell_of_row w14 (w.heap.size) 1 _ _ _ p1h; simp at p11; have p1f1 := frozen_of_row w14 (w.heap.size) 1 _ _ p1h; have p12 := cell_of_row w14 (w.heap.size) 2 _ _ _ p1h; simp at p12; have p1f2 := frozen_of_row w14 (w.heap.size) 2 _ _ p1h; have p13 := cell_of_row w14 (w.heap.size) 3 _ _ _ p1h; simp at p13; have p1f3 := frozen_of_row w14 (w.heap.size) 3 _ _ p1h; clear p1h; have ltp1 : w.heap.size < w14.heap.size := (by omega); have nep1 : w.heap.size ≠ w14.heap.size := (by omega); have z0_o_14 := oz0_)
  try go_wp2_with fail
  refine hK.out _ _ ?sx2_4 (fun hHeld => ?_)
  case sx2_4 => ((try dsimp only); first | exact ⟨p10, p11, p12, p13⟩ | assumption)
  clear hK K
  try simp only [Act.put, List.setIfInBounds_toArray, List.set_cons_zero, List.set_cons_succ]
  refine wpAnyH_ready (rs := [3]) (by kernel_rfl) (by simp) ?_
  refine cons_at (some 83) rfl rfl (by kernel_rfl) (fun K hK => ?kx2_6) AllReadyH.nil
  go_simp
  (go_at_call 13; refine (toEv1_any xs1 _).mono ?_; rintro e w15 ⟨rfl, b15⟩; have hB15 : Below w.heap.size w w15 := hB14.trans (b15.mono hB14.size); have z15 : w14.heap.size ≤ w15.heap.size := b15.size; have r0_15 := r0_14.below b15; have s0o_15 := s0o_14.below b15; have g0o_15 := g0o_14.below b15; have z0_o_15 := z0_o_14.below b15; clear p10 p1f0 p11 p1f1 p12 p1f2 p13 p1f3 ltp1 nep1; have Hp1_15 := Lib.hid ((b15.block (w.heap.size) (by omega)).trans Hp1_14.out); have p1h := Hp1_15.out; have p10 := cell_of_row w15 (w.heap.size) 0 _ _ _ p1h; simp at p10; have p1f0 := frozen_of_row w15 (w.heap.size) 0 _ _ p1h; have p11 := cell_of_row w15 (w.heap.size) 1 _ _ _ p1h; simp at p11; have p1f1 := frozen_of_row w15 (w.heap.size) 1 _ _ p1h; have p12 := cell_of_row w15 (w.heap.size) 2 _ _ _ p1h; simp at p12; have p1f2 := frozen_of_row w15 (w.heap.size) 2 _ _ p1h; have p13 := cell_of_row w15 (w.heap.size) 3 _ _ _ p1h; simp at p13; have p1f3 := frozen_of_row w15 (w.heap.size) 3 _ _ p1h; clear p1h; have ltp1 : w.heap.size < w15.heap.size := (by omega); have nep1 : w.heap.size ≠ w15.heap.size := (by omega))
  try go_wp2_with fail
  refine hK.out _ _ ?sx2_6 (fun hHeld => ?_)
  case sx2_6 => ((try dsimp only); first | exact ⟨p10, p11, p12, p13⟩ | assumption)
  clear hK K
  try simp only [Act.put, List.setIfInBounds_toArray, List.set_cons_zero, List.set_cons_succ]
  refine wpAnyH_ready (rs := [4]) (by kernel_rfl) (by simp) ?_
  refine cons_at (some 84) rfl rfl (by kernel_rfl) (fun K hK => ?kx2_8) AllReadyH.nil
  go_simp
  (go_at_call 14; refine (implAdd_any _ _ _ _ z0_o_15.rd).mono ?_; rintro e w16 ⟨h0, rfl, oh0, b16⟩; have hB16 : Below w.heap.size w w16 := hB15.trans (b16.mono hB15.size); have z16 : w15.heap.size ≤ w16.heap.size := b16.size; have r0_16 := r0_15.below b16; have s0o_16 := s0o_15.below b16; have g0o_16 := g0o_15.below b16; have z0_o_16 := z0_o_15.below b16; clear p10 p1f0 p11 p1f1 p12 p1f2 p13 p1f3 ltp1 nep1; have Hp1_16 := Lib.hid ((b16.block (w.heap.size) (by omega)).trans Hp1_15.out); have p1h := Hp1_16.out; have p10 := cell_of_row w16 (w.heap.size) 0 _ _ _ p1h; simp at p10; have p1f0 := frozen_of_row w16 (w.heap.size) 0 _ _ p1h; have p11 := cell_of_row w16 (w.heap.size) 1 _ _ _ p1h; simp at p11; have p1f1 := frozen_of_row w16 (w.heap.size) 1 _ _ p1h; have p12 := cell_of_row w16 (w.heap.size) 2 _ _ _ p1h; simp at p12; have p1f2 := frozen_of_row w16 (w.heap.size) 2 _ _ p1h; have p13 := cell_of_row w16 (w.heap.size) 3 _ _ _ p1h; simp at p13; have p1f3 := frozen_of_row w16 (w.heap.size) 3 _ _ p1h; clear p1h; have ltp1 : w.heap.size < w16.heap.size := (by omega); have nep1 : w.heap.size ≠ w16.heap.size := (by omega); have h0o_16 := oh0)
  try go_wp2_with fail
  refine hK.out _ _ ?sx2_8 (fun hHeld => ?_)
  case sx2_8 => ((try dsimp only); first | exact ⟨p10, p11, p12, p13⟩ | assumption)
  clear hK K
  try simp only [Act.put, List.setIfInBounds_toArray, List.set_cons_zero, List.set_cons_succ]
  refine take_at 5 (some 79) (v := ?vx2_9) rfl rfl (by kernel_rfl) (by kernel_rfl) (by kernel_rfl) (fun _ _ _ h => h) (Or.inl ⟨by kernel_rfl, ?yx2_9⟩) hHeld ?zx2_9
  case yx2_9 => (intro wS hSw; (try dsimp only at hSw); go_simp; (try with_reducible rfl))
  try simp only [Act.put, List.setIfInBounds_toArray, List.set_cons_zero, List.set_cons_succ]
  refine take_at 6 (some 85) (v := ?vx2_10) rfl rfl (by kernel_rfl) (by kernel_rfl) (by kernel_rfl) (fun _ _ _ h => h) (Or.inl ⟨by kernel_rfl, ?yx2_10⟩) hHeld ?zx2_10
  case yx2_10 => (intro wS hSw; (try dsimp only at hSw); go_simp; (try with_reducible rfl))
  try simp only [Act.put, List.setIfInBounds_toArray, List.set_cons_zero, List.set_cons_succ]
  refine take_at 7 (some 86) (v := ?vx2_11) rfl rfl (by kernel_rfl) (by kernel_rfl) (by kernel_rfl) (fun _ _ _ h => h) (Or.inl ⟨by kernel_rfl, ?yx2_11⟩) hHeld ?zx2_11
  case yx2_11 => (intro wS hSw; (try dsimp only at hSw); go_simp; (try with_reducible rfl))
  try simp only [Act.put, List.setIfInBounds_toArray, List.set_cons_zero, List.set_cons_succ]
  refine take_at 8 (some 14) (v := ?vx2_12) rfl rfl (by kernel_rfl) (by kernel_rfl) (by kernel_rfl) (fun _ _ _ h => h) (Or.inl ⟨by kernel_rfl, ?yx2_12⟩) hHeld ?zx2_12
  case yx2_12 => (intro wS hSw; (try dsimp only at hSw); go_simp; (try with_reducible rfl))
  try simp only [Act.put, List.setIfInBounds_toArray, List.set_cons_zero, List.set_cons_succ]
  refine take_at 9 (some 15) (v := ?vx2_13) rfl rfl (by kernel_rfl) (by kernel_rfl) (by kernel_rfl) (fun _ _ _ h => h) (Or.inl ⟨by kernel_rfl, ?yx2_13⟩) hHeld ?zx2_13
  case yx2_13 => (intro wS hSw; (try dsimp only at hSw); go_simp; (try with_reducible rfl))
  try simp only [Act.put, List.setIfInBounds_toArray, List.set_cons_zero, List.set_cons_succ]
  refine wpAnyH_done (by kernel_rfl) ?_ _
  go_wp2_with fail
  refine (eqEv_below _ _ _ _ (h0o_16.rd) (s0o_16.rd)).mono ?_
  rintro e w17 ⟨rfl, b17⟩
  have hB17 : Below w.heap.size w w17 := hB16.trans (b17.mono hB16.size)
  have z17 : w16.heap.size ≤ w17.heap.size := b17.size
  have r0_17 := r0_16.below b17
  have s0o_17 := s0o_16.below b17
  have g0o_17 := g0o_16.below b17
  have z0_o_17 := z0_o_16.below b17
  have h0o_17 := h0o_16.below b17
  clear p10 p1f0 p11 p1f1 p12 p1f2 p13 p1f3 ltp1 nep1
  have Hp1_17 := Lib.hid ((b17.block (w.heap.size) (by omega)).trans Hp1_16.out)
  have p1h := Hp1_17.out; have p10 := cell_of_row w17 (w.heap.size) 0 _ _ _ p1h; simp at p10; have p1f0 := frozen_of_row w17 (w.heap.size) 0 _ _ p1h; have p11 := cell_of_row w17 (w.heap.size) 1 _ _ _ p1h; simp at p11; have p1f1 := frozen_of_row w17 (w.heap.size) 1 _ _ p1h; have p12 := cell_of_row w17 (w.heap.size) 2 _ _ _ p1h; simp at p12; have p1f2 := frozen_of_row w17 (w.heap.size) 2 _ _ p1h; have p13 := cell_of_row w17 (w.heap.size) 3 _ _ _ p1h; simp at p13; have p1f3 := frozen_of_row w17 (w.heap.size) 3 _ _ p1h; clear p1h
  have ltp1 : w.heap.size < w17.heap.size := by omega
  have nep1 : w.heap.size ≠ w17.heap.size := by omega
  go_wp2_with fail
  refine (heldEv_any _ _ (1) _ (g0o_17.rd) (by omega) (by omega)).mono ?_
  rintro e w18 ⟨rfl, b18⟩
  have hB18 : Below w.heap.size w w18 := hB17.trans (b18.mono hB17.size)
  have z18 : w17.heap.size ≤ w18.heap.size := b18.size
  have r0_18 := r0_17.below b18
  have s0o_18 := s0o_17.below b18
  have g0o_18 := g0o_17.below b18
  have z0_o_18 := z0_o_17.below b18
  have h0o_18 := h0o_17.below b18
  clear p10 p1f0 p11 p1f1 p12 p1f2 p13 p1f3 ltp1 nep1
  have Hp1_18 := Lib.hid ((b18.block (w.heap.size) (by omega)).trans Hp1_17.out)
  have p1h := Hp1_18.out; have p10 := cell_of_row w18 (w.heap.size) 0 _ _ _ p1h; simp at p10; have p1f0 := frozen_of_row w18 (w.heap.size) 0 _ _ p1h; have p11 := cell_of_row w18 (w.heap.size) 1 _ _ _ p1h; simp at p11; have p1f1 := frozen_of_row w18 (w.heap.size) 1 _ _ p1h; have p12 := cell_of_row w18 (w.heap.size) 2 _ _ _ p1h; simp at p12; have p1f2 := frozen_of_row w18 (w.heap.size) 2 _ _ p1h; have p13 := cell_of_row w18 (w.heap.size) 3 _ _ _ p1h; simp at p13; have p1f3 := frozen_of_row w18 (w.heap.size) 3 _ _ p1h; clear p1h
  have ltp1 : w.heap.size < w18.heap.size := by omega
  have nep1 : w.heap.size ≠ w18.heap.size := by omega
  go_wp2_with fail
  go_ret
  exact ⟨rfl, hB18⟩

set_option maxRecDepth 100000 in
theorem lifted (os : Os) (started : os.Started) (H : Type) (enc : TypeId × Value → H) :
    ReturnsInHanded {} Try.checked os 4 .any (Rows.fnExactAddEventSpec.pre6 enc Try.prog Try.f4 Rows.fnExactAddEventRow.domain false) (Rows.fnExactAddEventSpec.post enc Try.prog Try.f4 false true false false) := by
  refine returnsInHanded_of_change_sized (C := Try.checked) lk_own started (by kernel_rfl) Try.func4
    (ChangeSpec.witness6 (enc := enc) (C := Try.checked) false ⟨#[], #[.slice none 0 0, .agg #[.int .i64 0, .int .i64 0, .int .i64 0, .int .i64 0]], []⟩ 8 (by kernel_rfl) (by kernel_rfl) (by kernel_rfl) (by kernel_rfl)) ?_
  intro W base args ds gs before hval0 hW _ _ _
  have hval : ∀ (j : Nat) t v, Try.f4.params[j]? = some t → args[j]? = some v → Value.okWide Try.prog W .any base t v := hval0
  have hW' := hW
  obtain ⟨p, q, hA0, hV, rfl, _, _⟩ := hW
  have hA : DataW.TrodAll enc Try.prog W 0 (fun _ => true) true Try.f4.params.toList args.toList ds p := hA0
  rw [Try.params4] at hA hval
  obtain ⟨v0, vs0, d0, ds0, p0, q0, hargs, rfl, rfl, h0, r0⟩ := trodAll_cons hA
  obtain ⟨v1, vs1, d1, ds1, p1, q1, rfl, rfl, rfl, h1, r1⟩ := trodAll_cons r0
  obtain ⟨rfl, rfl, rfl⟩ := trodAll_nil r1
  obtain rfl : args = #[v0, v1] := by cases args; simp_all
  obtain ⟨rfl, rfl⟩ := trodVars_none hV
  clear hA0 hval0
  have x0 := open_argEv (hval 0 22 v0 rfl rfl) h0
  have x1 := open_argEv1 (hval 1 32 v1 rfl rfl) h1
  simp only [List.append_nil] at hW'
  refine (walk v0 v1 W x0 x1).mono fun e W' ⟨he, hb⟩ => ?_
  subst he
  exact ⟨_, rfl, post_law hW' rfl rfl (by kernel_rfl) rfl rfl rfl hb⟩

theorem over : Rows.fnExactAddEventRow.holds Try.pinned (OpenSpec.ofChange Rows.fnExactAddEventSpec) :=
  OpenClaim.holds_of_wide 4 Try.f4 rfl rfl rfl rfl rfl rfl rfl ⟨rfl, rfl, rfl, rfl, rfl⟩ rfl rfl rfl rfl rfl (by kernel_rfl) Try.func4 (by kernel_rfl)
    (of_decide_eq_true (by kernel_rfl)) (by unfold Func.isWrapper; first | (rw [if_pos (by decide +kernel)]; kernel_rfl) | (rw [if_neg (by decide +kernel)]; exact ⟨rfl, rfl⟩))
    (fun os started H enc _ => lifted os started H enc)

theorem proved : Rows.FnExactAddEventSaid := over
#print axioms proved
end Go.Proofs.Ytohbkohidpgjpaa.FnExactAddEvent
