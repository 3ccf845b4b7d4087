/- The law FnExactShapeLoads: the program's ShapeLoads is the reference's, for all arguments; the argument is left as it was, the result is new memory. No condition. -/
import Derived.Test.YtgiigcpodinpoaaRate11
import Derived.Test.YtgiigcpodinpoaaOpenRate
import Derived.Test.YtgiigcpodinpoaaLoadA
import Derived.Test.YtgiigcpodinpoaaLawKit
namespace Go.Proofs.Ytgiigcpodinpoaa.FnExactShapeLoads
open Go.ChangeShapes Go.WideShapes Go.ChangeAt Go.RowKit

set_option maxHeartbeats 2000000 in
theorem walk (v0 : Value) (v1 : Value) (w : World) (x0 : ArgBk w v0) (x1 : ArgLdS w v1) :
    Calls Try.prog 12 #[v0, v1] w fun e w' => e = .returned (.bool true) ∧ Below w.heap.size w w' := by
  obtain ⟨xs0, x0⟩ := x0; subst x0
  obtain ⟨xs1, x1⟩ := x1
  by_cases hbig0 : szLdS xs1 (1048576) < 0
  · skip
    go_enter Try.func12, Try.ntmps12
    go_wp2_with fail
    refine (szLdS_any _ _ (1048576) _ (x1.below (by go_grown)) (by omega) (by omega)).mono ?_
    rintro e w' ⟨rfl, rfl⟩
    go_wp2_with fail
    go_ret
    exact ⟨rfl, by go_grown⟩
  have hz0 := szLdS_ge xs1 (1048576) (by omega)
  have r1_0 := x1.rd (by omega)
  go_enter Try.func12, Try.ntmps12
  go_wp2_with fail
  refine (szLdS_any _ _ (1048576) _ (x1.below (by go_grown)) (by omega) (by omega)).mono ?_
  rintro e w' ⟨rfl, rfl⟩
  go_wp2_with fail
  refine (toBk_any xs0 _).mono ?_
  rintro e w1 ⟨rfl, b1⟩
  have b1_ : Below w.heap.size w w1 := Below.trans (by go_grown) (b1.mono (by simp <;> omega))
  have hB1 : Below w.heap.size w w1 := b1_
  have z1 : w.heap.size + 1 ≤ w1.heap.size := by have := b1.size; simp at this; omega
  have r1_1 := r1_0.below b1_
  have Hp0_1 := Lib.hid ((b1.block (w.heap.size) (by simp <;> omega)).trans (heap_alloc_new _ _))
  have p0h := Hp0_1.out; have p00 := cell_of_row w1 (w.heap.size) 0 _ _ _ p0h; simp at p00; have p0f0 := frozen_of_row w1 (w.heap.size) 0 _ _ p0h; have p01 := cell_of_row w1 (w.heap.size) 1 _ _ _ p0h; simp at p01; have p0f1 := frozen_of_row w1 (w.heap.size) 1 _ _ p0h; have p02 := cell_of_row w1 (w.heap.size) 2 _ _ _ p0h; simp at p02; have p0f2 := frozen_of_row w1 (w.heap.size) 2 _ _ p0h; have p03 := cell_of_row w1 (w.heap.size) 3 _ _ _ p0h; simp at p03; have p0f3 := frozen_of_row w1 (w.heap.size) 3 _ _ p0h; have p04 := cell_of_row w1 (w.heap.size) 4 _ _ _ p0h; simp at p04; have p0f4 := frozen_of_row w1 (w.heap.size) 4 _ _ p0h; clear p0h
  have ltp0 : w.heap.size < w1.heap.size := by omega
  have nep0 : w.heap.size ≠ w1.heap.size := by omega
  go_wp2_with fail
  refine (toLdS_any _ _ _ r1_1).mono ?_
  rintro e w2 ⟨t1_, rfl, ot1_, b2⟩
  have hB2 : Below w.heap.size w w2 := hB1.trans (b2.mono hB1.size)
  have z2 : w1.heap.size ≤ w2.heap.size := b2.size
  have r1_2 := r1_1.below b2
  clear p00 p0f0 p01 p0f1 p02 p0f2 p03 p0f3 p04 p0f4 ltp0 nep0
  have Hp0_2 := Lib.hid ((b2.block (w.heap.size) (by omega)).trans Hp0_1.out)
  have p0h := Hp0_2.out; have p00 := cell_of_row w2 (w.heap.size) 0 _ _ _ p0h; simp at p00; have p0f0 := frozen_of_row w2 (w.heap.size) 0 _ _ p0h; have p01 := cell_of_row w2 (w.heap.size) 1 _ _ _ p0h; simp at p01; have p0f1 := frozen_of_row w2 (w.heap.size) 1 _ _ p0h; have p02 := cell_of_row w2 (w.heap.size) 2 _ _ _ p0h; simp at p02; have p0f2 := frozen_of_row w2 (w.heap.size) 2 _ _ p0h; have p03 := cell_of_row w2 (w.heap.size) 3 _ _ _ p0h; simp at p03; have p0f3 := frozen_of_row w2 (w.heap.size) 3 _ _ p0h; have p04 := cell_of_row w2 (w.heap.size) 4 _ _ _ p0h; simp at p04; have p0f4 := frozen_of_row w2 (w.heap.size) 4 _ _ p0h; clear p0h
  have ltp0 : w.heap.size < w2.heap.size := by omega
  have nep0 : w.heap.size ≠ w2.heap.size := by omega
  have t1_o_2 := ot1_
  go_wp2_with fail
  refine (specShape_any _ _ _ _ t1_o_2.rd).mono ?_
  rintro e w3 ⟨s0, rfl, os0, b3⟩
  have hB3 : Below w.heap.size w w3 := hB2.trans (b3.mono hB2.size)
  have z3 : w2.heap.size ≤ w3.heap.size := b3.size
  have r1_3 := r1_2.below b3
  have t1_o_3 := t1_o_2.below b3
  clear p00 p0f0 p01 p0f1 p02 p0f2 p03 p0f3 p04 p0f4 ltp0 nep0
  have Hp0_3 := Lib.hid ((b3.block (w.heap.size) (by omega)).trans Hp0_2.out)
  have p0h := Hp0_3.out; have p00 := cell_of_row w3 (w.heap.size) 0 _ _ _ p0h; simp at p00; have p0f0 := frozen_of_row w3 (w.heap.size) 0 _ _ p0h; have p01 := cell_of_row w3 (w.heap.size) 1 _ _ _ p0h; simp at p01; have p0f1 := frozen_of_row w3 (w.heap.size) 1 _ _ p0h; have p02 := cell_of_row w3 (w.heap.size) 2 _ _ _ p0h; simp at p02; have p0f2 := frozen_of_row w3 (w.heap.size) 2 _ _ p0h; have p03 := cell_of_row w3 (w.heap.size) 3 _ _ _ p0h; simp at p03; have p0f3 := frozen_of_row w3 (w.heap.size) 3 _ _ p0h; have p04 := cell_of_row w3 (w.heap.size) 4 _ _ _ p0h; simp at p04; have p0f4 := frozen_of_row w3 (w.heap.size) 4 _ _ p0h; clear p0h
  have ltp0 : w.heap.size < w3.heap.size := by omega
  have nep0 : w.heap.size ≠ w3.heap.size := by omega
  have s0o_3 := os0
  go_wp2_with fail
  refine (toLdS_any _ _ _ r1_3).mono ?_
  rintro e w4 ⟨x1_, rfl, ox1_, b4⟩
  have hB4 : Below w.heap.size w w4 := hB3.trans (b4.mono hB3.size)
  have z4 : w3.heap.size ≤ w4.heap.size := b4.size
  have r1_4 := r1_3.below b4
  have s0o_4 := s0o_3.below b4
  clear p00 p0f0 p01 p0f1 p02 p0f2 p03 p0f3 p04 p0f4 ltp0 nep0
  have Hp0_4 := Lib.hid ((b4.block (w.heap.size) (by omega)).trans Hp0_3.out)
  have p0h := Hp0_4.out; have p00 := cell_of_row w4 (w.heap.size) 0 _ _ _ p0h; simp at p00; have p0f0 := frozen_of_row w4 (w.heap.size) 0 _ _ p0h; have p01 := cell_of_row w4 (w.heap.size) 1 _ _ _ p0h; simp at p01; have p0f1 := frozen_of_row w4 (w.heap.size) 1 _ _ p0h; have p02 := cell_of_row w4 (w.heap.size) 2 _ _ _ p0h; simp at p02; have p0f2 := frozen_of_row w4 (w.heap.size) 2 _ _ p0h; have p03 := cell_of_row w4 (w.heap.size) 3 _ _ _ p0h; simp at p03; have p0f3 := frozen_of_row w4 (w.heap.size) 3 _ _ p0h; have p04 := cell_of_row w4 (w.heap.size) 4 _ _ _ p0h; simp at p04; have p0f4 := frozen_of_row w4 (w.heap.size) 4 _ _ p0h; clear p0h
  have ltp0 : w.heap.size < w4.heap.size := by omega
  have nep0 : w.heap.size ≠ w4.heap.size := by omega
  have x1_o_4 := ox1_
  go_wp2_with fail
  refine (toBk_any xs0 _).mono ?_
  rintro e w5 ⟨rfl, b5⟩
  have hB5 : Below w.heap.size w w5 := hB4.trans (b5.mono hB4.size)
  have z5 : w4.heap.size ≤ w5.heap.size := b5.size
  have r1_5 := r1_4.below b5
  have s0o_5 := s0o_4.below b5
  have x1_o_5 := x1_o_4.below b5
  clear p00 p0f0 p01 p0f1 p02 p0f2 p03 p0f3 p04 p0f4 ltp0 nep0
  have Hp0_5 := Lib.hid ((b5.block (w.heap.size) (by omega)).trans Hp0_4.out)
  have p0h := Hp0_5.out; have p00 := cell_of_row w5 (w.heap.size) 0 _ _ _ p0h; simp at p00; have p0f0 := frozen_of_row w5 (w.heap.size) 0 _ _ p0h; have p01 := cell_of_row w5 (w.heap.size) 1 _ _ _ p0h; simp at p01; have p0f1 := frozen_of_row w5 (w.heap.size) 1 _ _ p0h; have p02 := cell_of_row w5 (w.heap.size) 2 _ _ _ p0h; simp at p02; have p0f2 := frozen_of_row w5 (w.heap.size) 2 _ _ p0h; have p03 := cell_of_row w5 (w.heap.size) 3 _ _ _ p0h; simp at p03; have p0f3 := frozen_of_row w5 (w.heap.size) 3 _ _ p0h; have p04 := cell_of_row w5 (w.heap.size) 4 _ _ _ p0h; simp at p04; have p0f4 := frozen_of_row w5 (w.heap.size) 4 _ _ p0h; clear p0h
  have ltp0 : w.heap.size < w5.heap.size := by omega
  have nep0 : w.heap.size ≠ w5.heap.size := by omega
  go_wp2_with fail
  refine (implShape_any _ _ _ _ x1_o_5.rd).mono ?_
  rintro e w6 ⟨g0, rfl, og0, b6⟩
  have hB6 : Below w.heap.size w w6 := hB5.trans (b6.mono hB5.size)
  have z6 : w5.heap.size ≤ w6.heap.size := b6.size
  have r1_6 := r1_5.below b6
  have s0o_6 := s0o_5.below b6
  have x1_o_6 := x1_o_5.below b6
  clear p00 p0f0 p01 p0f1 p02 p0f2 p03 p0f3 p04 p0f4 ltp0 nep0
  have Hp0_6 := Lib.hid ((b6.block (w.heap.size) (by omega)).trans Hp0_5.out)
  have p0h := Hp0_6.out; have p00 := cell_of_row w6 (w.heap.size) 0 _ _ _ p0h; simp at p00; have p0f0 := frozen_of_row w6 (w.heap.size) 0 _ _ p0h; have p01 := cell_of_row w6 (w.heap.size) 1 _ _ _ p0h; simp at p01; have p0f1 := frozen_of_row w6 (w.heap.size) 1 _ _ p0h; have p02 := cell_of_row w6 (w.heap.size) 2 _ _ _ p0h; simp at p02; have p0f2 := frozen_of_row w6 (w.heap.size) 2 _ _ p0h; have p03 := cell_of_row w6 (w.heap.size) 3 _ _ _ p0h; simp at p03; have p0f3 := frozen_of_row w6 (w.heap.size) 3 _ _ p0h; have p04 := cell_of_row w6 (w.heap.size) 4 _ _ _ p0h; simp at p04; have p0f4 := frozen_of_row w6 (w.heap.size) 4 _ _ p0h; clear p0h
  have ltp0 : w.heap.size < w6.heap.size := by omega
  have nep0 : w.heap.size ≠ w6.heap.size := by omega
  have g0o_6 := og0
  go_wp2_with fail
  refine (eqI_below _ _ _ _ (g0o_6.rd) (s0o_6.rd)).mono ?_
  rintro e w7 ⟨rfl, b7⟩
  have hB7 : Below w.heap.size w w7 := hB6.trans (b7.mono hB6.size)
  have z7 : w6.heap.size ≤ w7.heap.size := b7.size
  have r1_7 := r1_6.below b7
  have s0o_7 := s0o_6.below b7
  have x1_o_7 := x1_o_6.below b7
  have g0o_7 := g0o_6.below b7
  clear p00 p0f0 p01 p0f1 p02 p0f2 p03 p0f3 p04 p0f4 ltp0 nep0
  have Hp0_7 := Lib.hid ((b7.block (w.heap.size) (by omega)).trans Hp0_6.out)
  have p0h := Hp0_7.out; have p00 := cell_of_row w7 (w.heap.size) 0 _ _ _ p0h; simp at p00; have p0f0 := frozen_of_row w7 (w.heap.size) 0 _ _ p0h; have p01 := cell_of_row w7 (w.heap.size) 1 _ _ _ p0h; simp at p01; have p0f1 := frozen_of_row w7 (w.heap.size) 1 _ _ p0h; have p02 := cell_of_row w7 (w.heap.size) 2 _ _ _ p0h; simp at p02; have p0f2 := frozen_of_row w7 (w.heap.size) 2 _ _ p0h; have p03 := cell_of_row w7 (w.heap.size) 3 _ _ _ p0h; simp at p03; have p0f3 := frozen_of_row w7 (w.heap.size) 3 _ _ p0h; have p04 := cell_of_row w7 (w.heap.size) 4 _ _ _ p0h; simp at p04; have p0f4 := frozen_of_row w7 (w.heap.size) 4 _ _ p0h; clear p0h
  have ltp0 : w.heap.size < w7.heap.size := by omega
  have nep0 : w.heap.size ≠ w7.heap.size := by omega
  go_wp2_with fail
  refine (toLdS_any _ _ _ r1_7).mono ?_
  rintro e w8 ⟨y1_, rfl, oy1_, b8⟩
  have hB8 : Below w.heap.size w w8 := hB7.trans (b8.mono hB7.size)
  have z8 : w7.heap.size ≤ w8.heap.size := b8.size
  have r1_8 := r1_7.below b8
  have s0o_8 := s0o_7.below b8
  have x1_o_8 := x1_o_7.below b8
  have g0o_8 := g0o_7.below b8
  clear p00 p0f0 p01 p0f1 p02 p0f2 p03 p0f3 p04 p0f4 ltp0 nep0
  have Hp0_8 := Lib.hid ((b8.block (w.heap.size) (by omega)).trans Hp0_7.out)
  have p0h := Hp0_8.out; have p00 := cell_of_row w8 (w.heap.size) 0 _ _ _ p0h; simp at p00; have p0f0 := frozen_of_row w8 (w.heap.size) 0 _ _ p0h; have p01 := cell_of_row w8 (w.heap.size) 1 _ _ _ p0h; simp at p01; have p0f1 := frozen_of_row w8 (w.heap.size) 1 _ _ p0h; have p02 := cell_of_row w8 (w.heap.size) 2 _ _ _ p0h; simp at p02; have p0f2 := frozen_of_row w8 (w.heap.size) 2 _ _ p0h; have p03 := cell_of_row w8 (w.heap.size) 3 _ _ _ p0h; simp at p03; have p0f3 := frozen_of_row w8 (w.heap.size) 3 _ _ p0h; have p04 := cell_of_row w8 (w.heap.size) 4 _ _ _ p0h; simp at p04; have p0f4 := frozen_of_row w8 (w.heap.size) 4 _ _ p0h; clear p0h
  have ltp0 : w.heap.size < w8.heap.size := by omega
  have nep0 : w.heap.size ≠ w8.heap.size := by omega
  have y1_o_8 := oy1_
  go_wp2_with fail
  refine (eqLdS_below _ _ _ _ (x1_o_8.rd) (y1_o_8.rd)).mono ?_
  rintro e w9 ⟨rfl, b9⟩
  have hB9 : Below w.heap.size w w9 := hB8.trans (b9.mono hB8.size)
  have z9 : w8.heap.size ≤ w9.heap.size := b9.size
  have r1_9 := r1_8.below b9
  have s0o_9 := s0o_8.below b9
  have x1_o_9 := x1_o_8.below b9
  have g0o_9 := g0o_8.below b9
  have y1_o_9 := y1_o_8.below b9
  clear p00 p0f0 p01 p0f1 p02 p0f2 p03 p0f3 p04 p0f4 ltp0 nep0
  have Hp0_9 := Lib.hid ((b9.block (w.heap.size) (by omega)).trans Hp0_8.out)
  have p0h := Hp0_9.out; have p00 := cell_of_row w9 (w.heap.size) 0 _ _ _ p0h; simp at p00; have p0f0 := frozen_of_row w9 (w.heap.size) 0 _ _ p0h; have p01 := cell_of_row w9 (w.heap.size) 1 _ _ _ p0h; simp at p01; have p0f1 := frozen_of_row w9 (w.heap.size) 1 _ _ p0h; have p02 := cell_of_row w9 (w.heap.size) 2 _ _ _ p0h; simp at p02; have p0f2 := frozen_of_row w9 (w.heap.size) 2 _ _ p0h; have p03 := cell_of_row w9 (w.heap.size) 3 _ _ _ p0h; simp at p03; have p0f3 := frozen_of_row w9 (w.heap.size) 3 _ _ p0h; have p04 := cell_of_row w9 (w.heap.size) 4 _ _ _ p0h; simp at p04; have p0f4 := frozen_of_row w9 (w.heap.size) 4 _ _ p0h; clear p0h
  have ltp0 : w.heap.size < w9.heap.size := by omega
  have nep0 : w.heap.size ≠ w9.heap.size := by omega
  go_wp2_with fail
  refine (markLdS_any _ _ (1) _ _ x1_o_9 (by omega) (by omega)).mono ?_
  rintro e w10 ⟨rfl, x1_o_10, g10⟩
  have hB10 : Below w.heap.size w w10 := hB9.grown g10 hB9.size (fun k hk => by have := (x1_o_4.lt k hk).1; have := hB3.size; omega)
  have z10 : w9.heap.size ≤ w10.heap.size := g10.size
  clear p00 p0f0 p01 p0f1 p02 p0f2 p03 p0f3 p04 p0f4 ltp0 nep0
  have Hp0_10 := Lib.hid ((g10.block (w.heap.size) (by omega) (fun e => by have := (x1_o_4.lt _ e.symm).1; omega)).trans Hp0_9.out)
  have p0h := Hp0_10.out; have p00 := cell_of_row w10 (w.heap.size) 0 _ _ _ p0h; simp at p00; have p0f0 := frozen_of_row w10 (w.heap.size) 0 _ _ p0h; have p01 := cell_of_row w10 (w.heap.size) 1 _ _ _ p0h; simp at p01; have p0f1 := frozen_of_row w10 (w.heap.size) 1 _ _ p0h; have p02 := cell_of_row w10 (w.heap.size) 2 _ _ _ p0h; simp at p02; have p0f2 := frozen_of_row w10 (w.heap.size) 2 _ _ p0h; have p03 := cell_of_row w10 (w.heap.size) 3 _ _ _ p0h; simp at p03; have p0f3 := frozen_of_row w10 (w.heap.size) 3 _ _ p0h; have p04 := cell_of_row w10 (w.heap.size) 4 _ _ _ p0h; simp at p04; have p0f4 := frozen_of_row w10 (w.heap.size) 4 _ _ p0h; clear p0h
  have ltp0 : w.heap.size < w10.heap.size := by omega
  have nep0 : w.heap.size ≠ w10.heap.size := by omega
  have r1_10 := r1_0.below hB10
  have s0o_10 := s0o_9.grown g10 (own_apart (B := w3.heap.size) (fun k hk => by have := (s0o_3.lt k hk).2; omega) (fun k hk => (x1_o_4.lt k hk).1))
  have g0o_10 := g0o_9.grown g10 (own_apart' (B := w5.heap.size) (fun k hk => (g0o_6.lt k hk).1) (fun k hk => by have := (x1_o_4.lt k hk).2; omega))
  go_wp2_with fail
  refine (eqI_below _ _ _ _ (g0o_10.rd) (s0o_10.rd)).mono ?_
  rintro e w11 ⟨rfl, b11⟩
  have hB11 : Below w.heap.size w w11 := hB10.trans (b11.mono hB10.size)
  have z11 : w10.heap.size ≤ w11.heap.size := b11.size
  have r1_11 := r1_10.below b11
  have s0o_11 := s0o_10.below b11
  have g0o_11 := g0o_10.below b11
  clear p00 p0f0 p01 p0f1 p02 p0f2 p03 p0f3 p04 p0f4 ltp0 nep0
  have Hp0_11 := Lib.hid ((b11.block (w.heap.size) (by omega)).trans Hp0_10.out)
  have p0h := Hp0_11.out; have p00 := cell_of_row w11 (w.heap.size) 0 _ _ _ p0h; simp at p00; have p0f0 := frozen_of_row w11 (w.heap.size) 0 _ _ p0h; have p01 := cell_of_row w11 (w.heap.size) 1 _ _ _ p0h; simp at p01; have p0f1 := frozen_of_row w11 (w.heap.size) 1 _ _ p0h; have p02 := cell_of_row w11 (w.heap.size) 2 _ _ _ p0h; simp at p02; have p0f2 := frozen_of_row w11 (w.heap.size) 2 _ _ p0h; have p03 := cell_of_row w11 (w.heap.size) 3 _ _ _ p0h; simp at p03; have p0f3 := frozen_of_row w11 (w.heap.size) 3 _ _ p0h; have p04 := cell_of_row w11 (w.heap.size) 4 _ _ _ p0h; simp at p04; have p0f4 := frozen_of_row w11 (w.heap.size) 4 _ _ p0h; clear p0h
  have ltp0 : w.heap.size < w11.heap.size := by omega
  have nep0 : w.heap.size ≠ w11.heap.size := by omega
  go_wp2_with fail
  refine (markI_any _ _ (1) _ _ g0o_11 (by omega) (by omega)).mono ?_
  rintro e w12 ⟨rfl, g0o_12, g12⟩
  have hB12 : Below w.heap.size w w12 := hB11.grown g12 hB11.size (fun k hk => by have := (g0o_6.lt k hk).1; have := hB5.size; omega)
  have z12 : w11.heap.size ≤ w12.heap.size := g12.size
  clear p00 p0f0 p01 p0f1 p02 p0f2 p03 p0f3 p04 p0f4 ltp0 nep0
  have Hp0_12 := Lib.hid ((g12.block (w.heap.size) (by omega) (fun e => by have := (g0o_6.lt _ e.symm).1; omega)).trans Hp0_11.out)
  have p0h := Hp0_12.out; have p00 := cell_of_row w12 (w.heap.size) 0 _ _ _ p0h; simp at p00; have p0f0 := frozen_of_row w12 (w.heap.size) 0 _ _ p0h; have p01 := cell_of_row w12 (w.heap.size) 1 _ _ _ p0h; simp at p01; have p0f1 := frozen_of_row w12 (w.heap.size) 1 _ _ p0h; have p02 := cell_of_row w12 (w.heap.size) 2 _ _ _ p0h; simp at p02; have p0f2 := frozen_of_row w12 (w.heap.size) 2 _ _ p0h; have p03 := cell_of_row w12 (w.heap.size) 3 _ _ _ p0h; simp at p03; have p0f3 := frozen_of_row w12 (w.heap.size) 3 _ _ p0h; have p04 := cell_of_row w12 (w.heap.size) 4 _ _ _ p0h; simp at p04; have p0f4 := frozen_of_row w12 (w.heap.size) 4 _ _ p0h; clear p0h
  have ltp0 : w.heap.size < w12.heap.size := by omega
  have nep0 : w.heap.size ≠ w12.heap.size := by omega
  have r1_12 := r1_0.below hB12
  have s0o_12 := s0o_11.grown g12 (own_apart (B := w5.heap.size) (fun k hk => by have := (s0o_3.lt k hk).2; omega) (fun k hk => (g0o_6.lt k hk).1))
  go_wp2_with fail
  refine (heldI_any _ _ (1) _ (g0o_12.rd) (by omega) (by omega)).mono ?_
  rintro e w13 ⟨rfl, b13⟩
  have hB13 : Below w.heap.size w w13 := hB12.trans (b13.mono hB12.size)
  have z13 : w12.heap.size ≤ w13.heap.size := b13.size
  have r1_13 := r1_12.below b13
  have s0o_13 := s0o_12.below b13
  have g0o_13 := g0o_12.below b13
  clear p00 p0f0 p01 p0f1 p02 p0f2 p03 p0f3 p04 p0f4 ltp0 nep0
  have Hp0_13 := Lib.hid ((b13.block (w.heap.size) (by omega)).trans Hp0_12.out)
  have p0h := Hp0_13.out; have p00 := cell_of_row w13 (w.heap.size) 0 _ _ _ p0h; simp at p00; have p0f0 := frozen_of_row w13 (w.heap.size) 0 _ _ p0h; have p01 := cell_of_row w13 (w.heap.size) 1 _ _ _ p0h; simp at p01; have p0f1 := frozen_of_row w13 (w.heap.size) 1 _ _ p0h; have p02 := cell_of_row w13 (w.heap.size) 2 _ _ _ p0h; simp at p02; have p0f2 := frozen_of_row w13 (w.heap.size) 2 _ _ p0h; have p03 := cell_of_row w13 (w.heap.size) 3 _ _ _ p0h; simp at p03; have p0f3 := frozen_of_row w13 (w.heap.size) 3 _ _ p0h; have p04 := cell_of_row w13 (w.heap.size) 4 _ _ _ p0h; simp at p04; have p0f4 := frozen_of_row w13 (w.heap.size) 4 _ _ p0h; clear p0h
  have ltp0 : w.heap.size < w13.heap.size := by omega
  have nep0 : w.heap.size ≠ w13.heap.size := by omega
  go_wp2_with fail
  refine (toBk_any xs0 _).mono ?_
  rintro e w14 ⟨rfl, b14⟩
  have hB14 : Below w.heap.size w w14 := hB13.trans (b14.mono hB13.size)
  have z14 : w13.heap.size ≤ w14.heap.size := b14.size
  have r1_14 := r1_13.below b14
  have s0o_14 := s0o_13.below b14
  have g0o_14 := g0o_13.below b14
  clear p00 p0f0 p01 p0f1 p02 p0f2 p03 p0f3 p04 p0f4 ltp0 nep0
  have Hp0_14 := Lib.hid ((b14.block (w.heap.size) (by omega)).trans Hp0_13.out)
  have p0h := Hp0_14.out; have p00 := cell_of_row w14 (w.heap.size) 0 _ _ _ p0h; simp at p00; have p0f0 := frozen_of_row w14 (w.heap.size) 0 _ _ p0h; have p01 := cell_of_row w14 (w.heap.size) 1 _ _ _ p0h; simp at p01; have p0f1 := frozen_of_row w14 (w.heap.size) 1 _ _ p0h; have p02 := cell_of_row w14 (w.heap.size) 2 _ _ _ p0h; simp at p02; have p0f2 := frozen_of_row w14 (w.heap.size) 2 _ _ p0h; have p03 := cell_of_row w14 (w.heap.size) 3 _ _ _ p0h; simp at p03; have p0f3 := frozen_of_row w14 (w.heap.size) 3 _ _ p0h; have p04 := cell_of_row w14 (w.heap.size) 4 _ _ _ p0h; simp at p04; have p0f4 := frozen_of_row w14 (w.heap.size) 4 _ _ p0h; clear p0h
  have ltp0 : w.heap.size < w14.heap.size := by omega
  have nep0 : w.heap.size ≠ w14.heap.size := by omega
  go_wp2_with fail
  refine (toLdS_any _ _ _ r1_14).mono ?_
  rintro e w15 ⟨z1_, rfl, oz1_, b15⟩
  have hB15 : Below w.heap.size w w15 := hB14.trans (b15.mono hB14.size)
  have z15 : w14.heap.size ≤ w15.heap.size := b15.size
  have r1_15 := r1_14.below b15
  have s0o_15 := s0o_14.below b15
  have g0o_15 := g0o_14.below b15
  clear p00 p0f0 p01 p0f1 p02 p0f2 p03 p0f3 p04 p0f4 ltp0 nep0
  have Hp0_15 := Lib.hid ((b15.block (w.heap.size) (by omega)).trans Hp0_14.out)
  have p0h := Hp0_15.out; have p00 := cell_of_row w15 (w.heap.size) 0 _ _ _ p0h; simp at p00; have p0f0 := frozen_of_row w15 (w.heap.size) 0 _ _ p0h; have p01 := cell_of_row w15 (w.heap.size) 1 _ _ _ p0h; simp at p01; have p0f1 := frozen_of_row w15 (w.heap.size) 1 _ _ p0h; have p02 := cell_of_row w15 (w.heap.size) 2 _ _ _ p0h; simp at p02; have p0f2 := frozen_of_row w15 (w.heap.size) 2 _ _ p0h; have p03 := cell_of_row w15 (w.heap.size) 3 _ _ _ p0h; simp at p03; have p0f3 := frozen_of_row w15 (w.heap.size) 3 _ _ p0h; have p04 := cell_of_row w15 (w.heap.size) 4 _ _ _ p0h; simp at p04; have p0f4 := frozen_of_row w15 (w.heap.size) 4 _ _ p0h; clear p0h
  have ltp0 : w.heap.size < w15.heap.size := by omega
  have nep0 : w.heap.size ≠ w15.heap.size := by omega
  have z1_o_15 := oz1_
  go_wp2_with fail
  refine (implShape_any _ _ _ _ z1_o_15.rd).mono ?_
  rintro e w16 ⟨h0, rfl, oh0, b16⟩
  have hB16 : Below w.heap.size w w16 := hB15.trans (b16.mono hB15.size)
  have z16 : w15.heap.size ≤ w16.heap.size := b16.size
  have r1_16 := r1_15.below b16
  have s0o_16 := s0o_15.below b16
  have g0o_16 := g0o_15.below b16
  have z1_o_16 := z1_o_15.below b16
  clear p00 p0f0 p01 p0f1 p02 p0f2 p03 p0f3 p04 p0f4 ltp0 nep0
  have Hp0_16 := Lib.hid ((b16.block (w.heap.size) (by omega)).trans Hp0_15.out)
  have p0h := Hp0_16.out; have p00 := cell_of_row w16 (w.heap.size) 0 _ _ _ p0h; simp at p00; have p0f0 := frozen_of_row w16 (w.heap.size) 0 _ _ p0h; have p01 := cell_of_row w16 (w.heap.size) 1 _ _ _ p0h; simp at p01; have p0f1 := frozen_of_row w16 (w.heap.size) 1 _ _ p0h; have p02 := cell_of_row w16 (w.heap.size) 2 _ _ _ p0h; simp at p02; have p0f2 := frozen_of_row w16 (w.heap.size) 2 _ _ p0h; have p03 := cell_of_row w16 (w.heap.size) 3 _ _ _ p0h; simp at p03; have p0f3 := frozen_of_row w16 (w.heap.size) 3 _ _ p0h; have p04 := cell_of_row w16 (w.heap.size) 4 _ _ _ p0h; simp at p04; have p0f4 := frozen_of_row w16 (w.heap.size) 4 _ _ p0h; clear p0h
  have ltp0 : w.heap.size < w16.heap.size := by omega
  have nep0 : w.heap.size ≠ w16.heap.size := by omega
  have h0o_16 := oh0
  go_wp2_with fail
  refine (eqI_below _ _ _ _ (h0o_16.rd) (s0o_16.rd)).mono ?_
  rintro e w17 ⟨rfl, b17⟩
  have hB17 : Below w.heap.size w w17 := hB16.trans (b17.mono hB16.size)
  have z17 : w16.heap.size ≤ w17.heap.size := b17.size
  have r1_17 := r1_16.below b17
  have s0o_17 := s0o_16.below b17
  have g0o_17 := g0o_16.below b17
  have z1_o_17 := z1_o_16.below b17
  have h0o_17 := h0o_16.below b17
  clear p00 p0f0 p01 p0f1 p02 p0f2 p03 p0f3 p04 p0f4 ltp0 nep0
  have Hp0_17 := Lib.hid ((b17.block (w.heap.size) (by omega)).trans Hp0_16.out)
  have p0h := Hp0_17.out; have p00 := cell_of_row w17 (w.heap.size) 0 _ _ _ p0h; simp at p00; have p0f0 := frozen_of_row w17 (w.heap.size) 0 _ _ p0h; have p01 := cell_of_row w17 (w.heap.size) 1 _ _ _ p0h; simp at p01; have p0f1 := frozen_of_row w17 (w.heap.size) 1 _ _ p0h; have p02 := cell_of_row w17 (w.heap.size) 2 _ _ _ p0h; simp at p02; have p0f2 := frozen_of_row w17 (w.heap.size) 2 _ _ p0h; have p03 := cell_of_row w17 (w.heap.size) 3 _ _ _ p0h; simp at p03; have p0f3 := frozen_of_row w17 (w.heap.size) 3 _ _ p0h; have p04 := cell_of_row w17 (w.heap.size) 4 _ _ _ p0h; simp at p04; have p0f4 := frozen_of_row w17 (w.heap.size) 4 _ _ p0h; clear p0h
  have ltp0 : w.heap.size < w17.heap.size := by omega
  have nep0 : w.heap.size ≠ w17.heap.size := by omega
  go_wp2_with fail
  refine (heldI_any _ _ (1) _ (g0o_17.rd) (by omega) (by omega)).mono ?_
  rintro e w18 ⟨rfl, b18⟩
  have hB18 : Below w.heap.size w w18 := hB17.trans (b18.mono hB17.size)
  have z18 : w17.heap.size ≤ w18.heap.size := b18.size
  have r1_18 := r1_17.below b18
  have s0o_18 := s0o_17.below b18
  have g0o_18 := g0o_17.below b18
  have z1_o_18 := z1_o_17.below b18
  have h0o_18 := h0o_17.below b18
  clear p00 p0f0 p01 p0f1 p02 p0f2 p03 p0f3 p04 p0f4 ltp0 nep0
  have Hp0_18 := Lib.hid ((b18.block (w.heap.size) (by omega)).trans Hp0_17.out)
  have p0h := Hp0_18.out; have p00 := cell_of_row w18 (w.heap.size) 0 _ _ _ p0h; simp at p00; have p0f0 := frozen_of_row w18 (w.heap.size) 0 _ _ p0h; have p01 := cell_of_row w18 (w.heap.size) 1 _ _ _ p0h; simp at p01; have p0f1 := frozen_of_row w18 (w.heap.size) 1 _ _ p0h; have p02 := cell_of_row w18 (w.heap.size) 2 _ _ _ p0h; simp at p02; have p0f2 := frozen_of_row w18 (w.heap.size) 2 _ _ p0h; have p03 := cell_of_row w18 (w.heap.size) 3 _ _ _ p0h; simp at p03; have p0f3 := frozen_of_row w18 (w.heap.size) 3 _ _ p0h; have p04 := cell_of_row w18 (w.heap.size) 4 _ _ _ p0h; simp at p04; have p0f4 := frozen_of_row w18 (w.heap.size) 4 _ _ p0h; clear p0h
  have ltp0 : w.heap.size < w18.heap.size := by omega
  have nep0 : w.heap.size ≠ w18.heap.size := by omega
  go_wp2_with fail
  go_ret
  exact ⟨rfl, hB18⟩

set_option maxRecDepth 100000 in
theorem lifted (os : Os) (started : os.Started) (H : Type) (enc : TypeId × Value → H) :
    ReturnsInHanded {} Try.checked os 12 .any (Rows.fnExactShapeLoadsSpec.pre6 enc Try.prog Try.f12 Rows.fnExactShapeLoadsRow.domain false) (Rows.fnExactShapeLoadsSpec.post enc Try.prog Try.f12 false true false false) := by
  refine returnsInHanded_of_change_sized (C := Try.checked) lk_own started (by kernel_rfl) Try.func12
    (ChangeSpec.witness6 (enc := enc) (C := Try.checked) false ⟨#[], #[.agg #[.int .i64 0, .int .i64 0, .int .i64 0, .int .i64 0, .int .i64 0], .slice none 0 0], []⟩ 8 (by kernel_rfl) (by kernel_rfl) (by kernel_rfl) (by kernel_rfl)) ?_
  intro W base args ds gs before hval0 hW _ _ _
  have hval : ∀ (j : Nat) t v, Try.f12.params[j]? = some t → args[j]? = some v → Value.okWide Try.prog W .any base t v := hval0
  have hW' := hW
  obtain ⟨p, q, hA0, hV, rfl, _, _⟩ := hW
  have hA : DataW.TrodAll enc Try.prog W 0 (fun _ => true) true Try.f12.params.toList args.toList ds p := hA0
  rw [Try.params12] at hA hval
  obtain ⟨v0, vs0, d0, ds0, p0, q0, hargs, rfl, rfl, h0, r0⟩ := trodAll_cons hA
  obtain ⟨v1, vs1, d1, ds1, p1, q1, rfl, rfl, rfl, h1, r1⟩ := trodAll_cons r0
  obtain ⟨rfl, rfl, rfl⟩ := trodAll_nil r1
  obtain rfl : args = #[v0, v1] := by cases args; simp_all
  obtain ⟨rfl, rfl⟩ := trodVars_none hV
  clear hA0 hval0
  have x0 := open_argBk (hval 0 23 v0 rfl rfl) h0
  have x1 := open_argLdS (hval 1 44 v1 rfl rfl) h1
  simp only [List.append_nil] at hW'
  refine (walk v0 v1 W x0 x1).mono fun e W' ⟨he, hb⟩ => ?_
  subst he
  exact ⟨_, rfl, post_law hW' rfl rfl (by kernel_rfl) rfl rfl rfl hb⟩

theorem over : Rows.fnExactShapeLoadsRow.holds Try.pinned (OpenSpec.ofChange Rows.fnExactShapeLoadsSpec) :=
  OpenClaim.holds_of_wide 12 Try.f12 rfl rfl rfl rfl rfl rfl rfl ⟨rfl, rfl, rfl, rfl, rfl⟩ rfl rfl rfl rfl rfl (by kernel_rfl) Try.func12 (by kernel_rfl)
    (of_decide_eq_true (by kernel_rfl)) (by unfold Func.isWrapper; first | (rw [if_pos (by decide +kernel)]; kernel_rfl) | (rw [if_neg (by decide +kernel)]; exact ⟨rfl, rfl⟩))
    (fun os started H enc _ => lifted os started H enc)

theorem proved : Rows.FnExactShapeLoadsSaid := over
#print axioms proved
end Go.Proofs.Ytgiigcpodinpoaa.FnExactShapeLoads
