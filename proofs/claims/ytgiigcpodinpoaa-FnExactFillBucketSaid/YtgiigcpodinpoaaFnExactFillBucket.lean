/- The law FnExactFillBucket: the program's FillBucket is the reference's, for all arguments. No condition. -/
import Derived.Test.YtgiigcpodinpoaaRate3
import Derived.Test.YtgiigcpodinpoaaOpenRate
import Derived.Test.YtgiigcpodinpoaaLawKit
namespace Go.Proofs.Ytgiigcpodinpoaa.FnExactFillBucket
open Go.ChangeShapes Go.WideShapes Go.ChangeAt Go.RowKit

set_option maxHeartbeats 2000000 in
theorem walk (v0 : Value) (a1 : Int) (_w1 : (Lit.int .i64 a1).wf = true) (w : World) (x0 : ArgBk w v0) :
    Calls Try.prog 5 #[v0, .int .i64 a1] w fun e w' => e = .returned (.bool true) ∧ Below w.heap.size w w' := by
  obtain ⟨xs0, x0⟩ := x0; subst x0
  go_enter Try.func5, Try.ntmps5
  go_wp2_with fail
  refine (toBk_any xs0 _).mono ?_
  rintro e w1 ⟨rfl, b1⟩
  have b1_ : Below w.heap.size w w1 := Below.trans (by go_grown) (b1.mono (by simp <;> omega))
  have hB1 : Below w.heap.size w w1 := b1_
  have z1 : w.heap.size + 1 ≤ w1.heap.size := by have := b1.size; simp at this; omega
  have Hp0_1 := Lib.hid ((b1.block (w.heap.size) (by simp <;> omega)).trans (heap_alloc_new _ _))
  have p0h := Hp0_1.out; have p00 := cell_of_row w1 (w.heap.size) 0 _ _ _ p0h; simp at p00; have p0f0 := frozen_of_row w1 (w.heap.size) 0 _ _ p0h; have p01 := cell_of_row w1 (w.heap.size) 1 _ _ _ p0h; simp at p01; have p0f1 := frozen_of_row w1 (w.heap.size) 1 _ _ p0h; have p02 := cell_of_row w1 (w.heap.size) 2 _ _ _ p0h; simp at p02; have p0f2 := frozen_of_row w1 (w.heap.size) 2 _ _ p0h; have p03 := cell_of_row w1 (w.heap.size) 3 _ _ _ p0h; simp at p03; have p0f3 := frozen_of_row w1 (w.heap.size) 3 _ _ p0h; have p04 := cell_of_row w1 (w.heap.size) 4 _ _ _ p0h; simp at p04; have p0f4 := frozen_of_row w1 (w.heap.size) 4 _ _ p0h; clear p0h
  have ltp0 : w.heap.size < w1.heap.size := by omega
  have nep0 : w.heap.size ≠ w1.heap.size := by omega
  go_wp2_with fail
  refine (specFill_any _ _ _ ).mono ?_
  rintro e w2 ⟨rfl, b2⟩
  have hB2 : Below w.heap.size w w2 := hB1.trans (b2.mono hB1.size)
  have z2 : w1.heap.size ≤ w2.heap.size := b2.size
  clear p00 p0f0 p01 p0f1 p02 p0f2 p03 p0f3 p04 p0f4 ltp0 nep0
  have Hp0_2 := Lib.hid ((b2.block (w.heap.size) (by omega)).trans Hp0_1.out)
  have p0h := Hp0_2.out; have p00 := cell_of_row w2 (w.heap.size) 0 _ _ _ p0h; simp at p00; have p0f0 := frozen_of_row w2 (w.heap.size) 0 _ _ p0h; have p01 := cell_of_row w2 (w.heap.size) 1 _ _ _ p0h; simp at p01; have p0f1 := frozen_of_row w2 (w.heap.size) 1 _ _ p0h; have p02 := cell_of_row w2 (w.heap.size) 2 _ _ _ p0h; simp at p02; have p0f2 := frozen_of_row w2 (w.heap.size) 2 _ _ p0h; have p03 := cell_of_row w2 (w.heap.size) 3 _ _ _ p0h; simp at p03; have p0f3 := frozen_of_row w2 (w.heap.size) 3 _ _ p0h; have p04 := cell_of_row w2 (w.heap.size) 4 _ _ _ p0h; simp at p04; have p0f4 := frozen_of_row w2 (w.heap.size) 4 _ _ p0h; clear p0h
  have ltp0 : w.heap.size < w2.heap.size := by omega
  have nep0 : w.heap.size ≠ w2.heap.size := by omega
  go_wp2_with fail
  refine (toBk_any xs0 _).mono ?_
  rintro e w3 ⟨rfl, b3⟩
  have b3_ : Below w2.heap.size w2 w3 := Below.trans (by go_grown) (b3.mono (by simp <;> omega))
  have hB3 : Below w.heap.size w w3 := hB2.trans (b3_.mono hB2.size)
  have z3 : w2.heap.size + 1 ≤ w3.heap.size := by have := b3.size; simp at this; omega
  clear p00 p0f0 p01 p0f1 p02 p0f2 p03 p0f3 p04 p0f4 ltp0 nep0
  have Hp0_3 := Lib.hid ((b3_.block (w.heap.size) (by omega)).trans Hp0_2.out)
  have p0h := Hp0_3.out; have p00 := cell_of_row w3 (w.heap.size) 0 _ _ _ p0h; simp at p00; have p0f0 := frozen_of_row w3 (w.heap.size) 0 _ _ p0h; have p01 := cell_of_row w3 (w.heap.size) 1 _ _ _ p0h; simp at p01; have p0f1 := frozen_of_row w3 (w.heap.size) 1 _ _ p0h; have p02 := cell_of_row w3 (w.heap.size) 2 _ _ _ p0h; simp at p02; have p0f2 := frozen_of_row w3 (w.heap.size) 2 _ _ p0h; have p03 := cell_of_row w3 (w.heap.size) 3 _ _ _ p0h; simp at p03; have p0f3 := frozen_of_row w3 (w.heap.size) 3 _ _ p0h; have p04 := cell_of_row w3 (w.heap.size) 4 _ _ _ p0h; simp at p04; have p0f4 := frozen_of_row w3 (w.heap.size) 4 _ _ p0h; clear p0h
  have ltp0 : w.heap.size < w3.heap.size := by omega
  have nep0 : w.heap.size ≠ w3.heap.size := by omega
  have Hsb0_3 := Lib.hid ((b3.block (w2.heap.size) (by simp <;> omega)).trans (heap_alloc_new _ _))
  have sb0h := Hsb0_3.out; have sb00 := cell_of_row w3 (w2.heap.size) 0 _ _ _ sb0h; simp at sb00; have sb0f0 := frozen_of_row w3 (w2.heap.size) 0 _ _ sb0h; have sb01 := cell_of_row w3 (w2.heap.size) 1 _ _ _ sb0h; simp at sb01; have sb0f1 := frozen_of_row w3 (w2.heap.size) 1 _ _ sb0h; have sb02 := cell_of_row w3 (w2.heap.size) 2 _ _ _ sb0h; simp at sb02; have sb0f2 := frozen_of_row w3 (w2.heap.size) 2 _ _ sb0h; have sb03 := cell_of_row w3 (w2.heap.size) 3 _ _ _ sb0h; simp at sb03; have sb0f3 := frozen_of_row w3 (w2.heap.size) 3 _ _ sb0h; have sb04 := cell_of_row w3 (w2.heap.size) 4 _ _ _ sb0h; simp at sb04; have sb0f4 := frozen_of_row w3 (w2.heap.size) 4 _ _ sb0h; clear sb0h
  have ltsb0 : w2.heap.size < w3.heap.size := by omega
  have nesb0 : w2.heap.size ≠ w3.heap.size := by omega
  go_wp2_with fail
  refine (implFill_any _ _ _ ).mono ?_
  rintro e w4 ⟨rfl, b4⟩
  have hB4 : Below w.heap.size w w4 := hB3.trans (b4.mono hB3.size)
  have z4 : w3.heap.size ≤ w4.heap.size := b4.size
  clear p00 p0f0 p01 p0f1 p02 p0f2 p03 p0f3 p04 p0f4 ltp0 nep0
  have Hp0_4 := Lib.hid ((b4.block (w.heap.size) (by omega)).trans Hp0_3.out)
  have p0h := Hp0_4.out; have p00 := cell_of_row w4 (w.heap.size) 0 _ _ _ p0h; simp at p00; have p0f0 := frozen_of_row w4 (w.heap.size) 0 _ _ p0h; have p01 := cell_of_row w4 (w.heap.size) 1 _ _ _ p0h; simp at p01; have p0f1 := frozen_of_row w4 (w.heap.size) 1 _ _ p0h; have p02 := cell_of_row w4 (w.heap.size) 2 _ _ _ p0h; simp at p02; have p0f2 := frozen_of_row w4 (w.heap.size) 2 _ _ p0h; have p03 := cell_of_row w4 (w.heap.size) 3 _ _ _ p0h; simp at p03; have p0f3 := frozen_of_row w4 (w.heap.size) 3 _ _ p0h; have p04 := cell_of_row w4 (w.heap.size) 4 _ _ _ p0h; simp at p04; have p0f4 := frozen_of_row w4 (w.heap.size) 4 _ _ p0h; clear p0h
  have ltp0 : w.heap.size < w4.heap.size := by omega
  have nep0 : w.heap.size ≠ w4.heap.size := by omega
  clear sb00 sb0f0 sb01 sb0f1 sb02 sb0f2 sb03 sb0f3 sb04 sb0f4 ltsb0 nesb0
  have Hsb0_4 := Lib.hid ((b4.block (w2.heap.size) (by omega)).trans Hsb0_3.out)
  have sb0h := Hsb0_4.out; have sb00 := cell_of_row w4 (w2.heap.size) 0 _ _ _ sb0h; simp at sb00; have sb0f0 := frozen_of_row w4 (w2.heap.size) 0 _ _ sb0h; have sb01 := cell_of_row w4 (w2.heap.size) 1 _ _ _ sb0h; simp at sb01; have sb0f1 := frozen_of_row w4 (w2.heap.size) 1 _ _ sb0h; have sb02 := cell_of_row w4 (w2.heap.size) 2 _ _ _ sb0h; simp at sb02; have sb0f2 := frozen_of_row w4 (w2.heap.size) 2 _ _ sb0h; have sb03 := cell_of_row w4 (w2.heap.size) 3 _ _ _ sb0h; simp at sb03; have sb0f3 := frozen_of_row w4 (w2.heap.size) 3 _ _ sb0h; have sb04 := cell_of_row w4 (w2.heap.size) 4 _ _ _ sb0h; simp at sb04; have sb0f4 := frozen_of_row w4 (w2.heap.size) 4 _ _ sb0h; clear sb0h
  have ltsb0 : w2.heap.size < w4.heap.size := by omega
  have nesb0 : w2.heap.size ≠ w4.heap.size := by omega
  go_wp2_with fail
  refine (eqBucket_same _ _).mono ?_
  rintro e w5 ⟨rfl, b5⟩
  have b5_ : Below w4.heap.size w4 w5 := Below.trans (by go_grown) (b5.mono (by simp <;> omega))
  have hB5 : Below w.heap.size w w5 := hB4.trans (b5_.mono hB4.size)
  have z5 : w4.heap.size + 1 ≤ w5.heap.size := by have := b5.size; simp at this; omega
  clear p00 p0f0 p01 p0f1 p02 p0f2 p03 p0f3 p04 p0f4 ltp0 nep0
  have Hp0_5 := Lib.hid ((b5_.block (w.heap.size) (by omega)).trans Hp0_4.out)
  have p0h := Hp0_5.out; have p00 := cell_of_row w5 (w.heap.size) 0 _ _ _ p0h; simp at p00; have p0f0 := frozen_of_row w5 (w.heap.size) 0 _ _ p0h; have p01 := cell_of_row w5 (w.heap.size) 1 _ _ _ p0h; simp at p01; have p0f1 := frozen_of_row w5 (w.heap.size) 1 _ _ p0h; have p02 := cell_of_row w5 (w.heap.size) 2 _ _ _ p0h; simp at p02; have p0f2 := frozen_of_row w5 (w.heap.size) 2 _ _ p0h; have p03 := cell_of_row w5 (w.heap.size) 3 _ _ _ p0h; simp at p03; have p0f3 := frozen_of_row w5 (w.heap.size) 3 _ _ p0h; have p04 := cell_of_row w5 (w.heap.size) 4 _ _ _ p0h; simp at p04; have p0f4 := frozen_of_row w5 (w.heap.size) 4 _ _ p0h; clear p0h
  have ltp0 : w.heap.size < w5.heap.size := by omega
  have nep0 : w.heap.size ≠ w5.heap.size := by omega
  clear sb00 sb0f0 sb01 sb0f1 sb02 sb0f2 sb03 sb0f3 sb04 sb0f4 ltsb0 nesb0
  have Hsb0_5 := Lib.hid ((b5_.block (w2.heap.size) (by omega)).trans Hsb0_4.out)
  have sb0h := Hsb0_5.out; have sb00 := cell_of_row w5 (w2.heap.size) 0 _ _ _ sb0h; simp at sb00; have sb0f0 := frozen_of_row w5 (w2.heap.size) 0 _ _ sb0h; have sb01 := cell_of_row w5 (w2.heap.size) 1 _ _ _ sb0h; simp at sb01; have sb0f1 := frozen_of_row w5 (w2.heap.size) 1 _ _ sb0h; have sb02 := cell_of_row w5 (w2.heap.size) 2 _ _ _ sb0h; simp at sb02; have sb0f2 := frozen_of_row w5 (w2.heap.size) 2 _ _ sb0h; have sb03 := cell_of_row w5 (w2.heap.size) 3 _ _ _ sb0h; simp at sb03; have sb0f3 := frozen_of_row w5 (w2.heap.size) 3 _ _ sb0h; have sb04 := cell_of_row w5 (w2.heap.size) 4 _ _ _ sb0h; simp at sb04; have sb0f4 := frozen_of_row w5 (w2.heap.size) 4 _ _ sb0h; clear sb0h
  have ltsb0 : w2.heap.size < w5.heap.size := by omega
  have nesb0 : w2.heap.size ≠ w5.heap.size := by omega
  have Hgb0_5 := Lib.hid ((b5.block (w4.heap.size) (by simp <;> omega)).trans (heap_alloc_new _ _))
  have gb0h := Hgb0_5.out; have gb00 := cell_of_row w5 (w4.heap.size) 0 _ _ _ gb0h; simp at gb00; have gb0f0 := frozen_of_row w5 (w4.heap.size) 0 _ _ gb0h; have gb01 := cell_of_row w5 (w4.heap.size) 1 _ _ _ gb0h; simp at gb01; have gb0f1 := frozen_of_row w5 (w4.heap.size) 1 _ _ gb0h; have gb02 := cell_of_row w5 (w4.heap.size) 2 _ _ _ gb0h; simp at gb02; have gb0f2 := frozen_of_row w5 (w4.heap.size) 2 _ _ gb0h; have gb03 := cell_of_row w5 (w4.heap.size) 3 _ _ _ gb0h; simp at gb03; have gb0f3 := frozen_of_row w5 (w4.heap.size) 3 _ _ gb0h; have gb04 := cell_of_row w5 (w4.heap.size) 4 _ _ _ gb0h; simp at gb04; have gb0f4 := frozen_of_row w5 (w4.heap.size) 4 _ _ gb0h; clear gb0h
  have ltgb0 : w4.heap.size < w5.heap.size := by omega
  have negb0 : w4.heap.size ≠ w5.heap.size := by omega
  go_wp2_with fail
  go_ret
  exact ⟨rfl, hB5⟩

set_option maxRecDepth 100000 in
theorem lifted (os : Os) (started : os.Started) (H : Type) (enc : TypeId × Value → H) :
    ReturnsInHanded {} Try.checked os 5 .any (Rows.fnExactFillBucketSpec.pre6 enc Try.prog Try.f5 Rows.fnExactFillBucketRow.domain false) (Rows.fnExactFillBucketSpec.post enc Try.prog Try.f5 false true false false) := by
  refine returnsInHanded_of_change_sized (C := Try.checked) lk_own started (by kernel_rfl) Try.func5
    (ChangeSpec.witness6 (enc := enc) (C := Try.checked) false ⟨#[], #[.agg #[.int .i64 0, .int .i64 0, .int .i64 0, .int .i64 0, .int .i64 0], .int .i64 0], []⟩ 8 (by kernel_rfl) (by kernel_rfl) (by kernel_rfl) (by kernel_rfl)) ?_
  intro W base args ds gs before hval0 hW _ _ _
  have hval : ∀ (j : Nat) t v, Try.f5.params[j]? = some t → args[j]? = some v → Value.okWide Try.prog W .any base t v := hval0
  have hW' := hW
  obtain ⟨p, q, hA0, hV, rfl, _, _⟩ := hW
  have hA : DataW.TrodAll enc Try.prog W 0 (fun _ => true) true Try.f5.params.toList args.toList ds p := hA0
  rw [Try.params5] at hA hval
  obtain ⟨v0, vs0, d0, ds0, p0, q0, hargs, rfl, rfl, h0, r0⟩ := trodAll_cons hA
  obtain ⟨v1, vs1, d1, ds1, p1, q1, rfl, rfl, rfl, h1, r1⟩ := trodAll_cons r0
  obtain ⟨rfl, rfl, rfl⟩ := trodAll_nil r1
  obtain rfl : args = #[v0, v1] := by cases args; simp_all
  obtain ⟨rfl, rfl⟩ := trodVars_none hV
  clear hA0 hval0
  have x0 := open_argBk (hval 0 23 v0 rfl rfl) h0
  obtain ⟨a1, rfl, rfl, _, w1⟩ := open_int Try.underlying3 (hval 1 3 v1 rfl rfl) h1
  simp only [List.append_nil] at hW'
  refine (walk v0 a1 w1 W x0).mono fun e W' ⟨he, hb⟩ => ?_
  subst he
  exact ⟨_, rfl, post_law hW' rfl rfl (by kernel_rfl) rfl rfl rfl hb⟩

theorem over : Rows.fnExactFillBucketRow.holds Try.pinned (OpenSpec.ofChange Rows.fnExactFillBucketSpec) :=
  OpenClaim.holds_of_wide 5 Try.f5 rfl rfl rfl rfl rfl rfl rfl ⟨rfl, rfl, rfl, rfl, rfl⟩ rfl rfl rfl rfl rfl (by kernel_rfl) Try.func5 (by kernel_rfl)
    (of_decide_eq_true (by kernel_rfl)) (by unfold Func.isWrapper; first | (rw [if_pos (by decide +kernel)]; kernel_rfl) | (rw [if_neg (by decide +kernel)]; exact ⟨rfl, rfl⟩))
    (fun os started H enc _ => lifted os started H enc)

theorem proved : Rows.FnExactFillBucketSaid := over
#print axioms proved
end Go.Proofs.Ytgiigcpodinpoaa.FnExactFillBucket
