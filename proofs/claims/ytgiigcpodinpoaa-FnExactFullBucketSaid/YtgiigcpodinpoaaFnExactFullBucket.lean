/- The law FnExactFullBucket: the program's FullBucket is the reference's, for all arguments. No condition. -/
import Derived.Test.YtgiigcpodinpoaaRate2
import Derived.Test.YtgiigcpodinpoaaOpenRate
import Derived.Test.YtgiigcpodinpoaaLawKit
namespace Go.Proofs.Ytgiigcpodinpoaa.FnExactFullBucket
open Go.ChangeShapes Go.WideShapes Go.ChangeAt Go.RowKit

set_option maxHeartbeats 2000000 in
theorem walk (a0 : Int) (_w0 : (Lit.int .i64 a0).wf = true) (a1 : Int) (_w1 : (Lit.int .i64 a1).wf = true) (a2 : Int) (_w2 : (Lit.int .i64 a2).wf = true) (w : World)  :
    Calls Try.prog 4 #[.int .i64 a0, .int .i64 a1, .int .i64 a2] w fun e w' => e = .returned (.bool true) ∧ Below w.heap.size w w' := by
  go_enter Try.func4, Try.ntmps4
  go_wp2_with fail
  refine (specFull_any _ _ _ _ ).mono ?_
  rintro e w1 ⟨rfl, b1⟩
  have hB1 : Below w.heap.size w w1 := b1
  have z1 : w.heap.size ≤ w1.heap.size := b1.size
  go_wp2_with fail
  refine (implFull_any _ _ _ _ ).mono ?_
  rintro e w2 ⟨rfl, b2⟩
  have b2_ : Below w1.heap.size w1 w2 := Below.trans (by go_grown) (b2.mono (by simp <;> omega))
  have hB2 : Below w.heap.size w w2 := hB1.trans (b2_.mono hB1.size)
  have z2 : w1.heap.size + 1 ≤ w2.heap.size := by have := b2.size; simp at this; omega
  have Hsb0_2 := Lib.hid ((b2.block (w1.heap.size) (by simp <;> omega)).trans (heap_alloc_new _ _))
  have sb0h := Hsb0_2.out; have sb00 := cell_of_row w2 (w1.heap.size) 0 _ _ _ sb0h; simp at sb00; have sb0f0 := frozen_of_row w2 (w1.heap.size) 0 _ _ sb0h; have sb01 := cell_of_row w2 (w1.heap.size) 1 _ _ _ sb0h; simp at sb01; have sb0f1 := frozen_of_row w2 (w1.heap.size) 1 _ _ sb0h; have sb02 := cell_of_row w2 (w1.heap.size) 2 _ _ _ sb0h; simp at sb02; have sb0f2 := frozen_of_row w2 (w1.heap.size) 2 _ _ sb0h; have sb03 := cell_of_row w2 (w1.heap.size) 3 _ _ _ sb0h; simp at sb03; have sb0f3 := frozen_of_row w2 (w1.heap.size) 3 _ _ sb0h; have sb04 := cell_of_row w2 (w1.heap.size) 4 _ _ _ sb0h; simp at sb04; have sb0f4 := frozen_of_row w2 (w1.heap.size) 4 _ _ sb0h; clear sb0h
  have ltsb0 : w1.heap.size < w2.heap.size := by omega
  have nesb0 : w1.heap.size ≠ w2.heap.size := by omega
  go_wp2_with fail
  refine (eqBucket_same _ _).mono ?_
  rintro e w3 ⟨rfl, b3⟩
  have b3_ : Below w2.heap.size w2 w3 := Below.trans (by go_grown) (b3.mono (by simp <;> omega))
  have hB3 : Below w.heap.size w w3 := hB2.trans (b3_.mono hB2.size)
  have z3 : w2.heap.size + 1 ≤ w3.heap.size := by have := b3.size; simp at this; omega
  clear sb00 sb0f0 sb01 sb0f1 sb02 sb0f2 sb03 sb0f3 sb04 sb0f4 ltsb0 nesb0
  have Hsb0_3 := Lib.hid ((b3_.block (w1.heap.size) (by omega)).trans Hsb0_2.out)
  have sb0h := Hsb0_3.out; have sb00 := cell_of_row w3 (w1.heap.size) 0 _ _ _ sb0h; simp at sb00; have sb0f0 := frozen_of_row w3 (w1.heap.size) 0 _ _ sb0h; have sb01 := cell_of_row w3 (w1.heap.size) 1 _ _ _ sb0h; simp at sb01; have sb0f1 := frozen_of_row w3 (w1.heap.size) 1 _ _ sb0h; have sb02 := cell_of_row w3 (w1.heap.size) 2 _ _ _ sb0h; simp at sb02; have sb0f2 := frozen_of_row w3 (w1.heap.size) 2 _ _ sb0h; have sb03 := cell_of_row w3 (w1.heap.size) 3 _ _ _ sb0h; simp at sb03; have sb0f3 := frozen_of_row w3 (w1.heap.size) 3 _ _ sb0h; have sb04 := cell_of_row w3 (w1.heap.size) 4 _ _ _ sb0h; simp at sb04; have sb0f4 := frozen_of_row w3 (w1.heap.size) 4 _ _ sb0h; clear sb0h
  have ltsb0 : w1.heap.size < w3.heap.size := by omega
  have nesb0 : w1.heap.size ≠ w3.heap.size := by omega
  have Hgb0_3 := Lib.hid ((b3.block (w2.heap.size) (by simp <;> omega)).trans (heap_alloc_new _ _))
  have gb0h := Hgb0_3.out; have gb00 := cell_of_row w3 (w2.heap.size) 0 _ _ _ gb0h; simp at gb00; have gb0f0 := frozen_of_row w3 (w2.heap.size) 0 _ _ gb0h; have gb01 := cell_of_row w3 (w2.heap.size) 1 _ _ _ gb0h; simp at gb01; have gb0f1 := frozen_of_row w3 (w2.heap.size) 1 _ _ gb0h; have gb02 := cell_of_row w3 (w2.heap.size) 2 _ _ _ gb0h; simp at gb02; have gb0f2 := frozen_of_row w3 (w2.heap.size) 2 _ _ gb0h; have gb03 := cell_of_row w3 (w2.heap.size) 3 _ _ _ gb0h; simp at gb03; have gb0f3 := frozen_of_row w3 (w2.heap.size) 3 _ _ gb0h; have gb04 := cell_of_row w3 (w2.heap.size) 4 _ _ _ gb0h; simp at gb04; have gb0f4 := frozen_of_row w3 (w2.heap.size) 4 _ _ gb0h; clear gb0h
  have ltgb0 : w2.heap.size < w3.heap.size := by omega
  have negb0 : w2.heap.size ≠ w3.heap.size := by omega
  go_wp2_with fail
  go_ret
  exact ⟨rfl, hB3⟩

set_option maxRecDepth 100000 in
theorem lifted (os : Os) (started : os.Started) (H : Type) (enc : TypeId × Value → H) :
    ReturnsInHanded {} Try.checked os 4 .any (Rows.fnExactFullBucketSpec.pre6 enc Try.prog Try.f4 Rows.fnExactFullBucketRow.domain false) (Rows.fnExactFullBucketSpec.post enc Try.prog Try.f4 false true false false) := by
  refine returnsInHanded_of_change_sized (C := Try.checked) lk_own started (by kernel_rfl) Try.func4
    (ChangeSpec.witness6 (enc := enc) (C := Try.checked) false ⟨#[], #[.int .i64 0, .int .i64 0, .int .i64 0], []⟩ 8 (by kernel_rfl) (by kernel_rfl) (by kernel_rfl) (by kernel_rfl)) ?_
  intro W base args ds gs before hval0 hW _ _ _
  have hval : ∀ (j : Nat) t v, Try.f4.params[j]? = some t → args[j]? = some v → Value.okWide Try.prog W .any base t v := hval0
  have hW' := hW
  obtain ⟨p, q, hA0, hV, rfl, _, _⟩ := hW
  have hA : DataW.TrodAll enc Try.prog W 0 (fun _ => true) true Try.f4.params.toList args.toList ds p := hA0
  rw [Try.params4] at hA hval
  obtain ⟨v0, vs0, d0, ds0, p0, q0, hargs, rfl, rfl, h0, r0⟩ := trodAll_cons hA
  obtain ⟨v1, vs1, d1, ds1, p1, q1, rfl, rfl, rfl, h1, r1⟩ := trodAll_cons r0
  obtain ⟨v2, vs2, d2, ds2, p2, q2, rfl, rfl, rfl, h2, r2⟩ := trodAll_cons r1
  obtain ⟨rfl, rfl, rfl⟩ := trodAll_nil r2
  obtain rfl : args = #[v0, v1, v2] := by cases args; simp_all
  obtain ⟨rfl, rfl⟩ := trodVars_none hV
  clear hA0 hval0
  obtain ⟨a0, rfl, rfl, _, w0⟩ := open_int Try.underlying3 (hval 0 3 v0 rfl rfl) h0
  obtain ⟨a1, rfl, rfl, _, w1⟩ := open_int Try.underlying3 (hval 1 3 v1 rfl rfl) h1
  obtain ⟨a2, rfl, rfl, _, w2⟩ := open_int Try.underlying3 (hval 2 3 v2 rfl rfl) h2
  simp only [List.append_nil] at hW'
  refine (walk a0 w0 a1 w1 a2 w2 W ).mono fun e W' ⟨he, hb⟩ => ?_
  subst he
  exact ⟨_, rfl, post_law hW' rfl rfl (by kernel_rfl) rfl rfl rfl hb⟩

theorem over : Rows.fnExactFullBucketRow.holds Try.pinned (OpenSpec.ofChange Rows.fnExactFullBucketSpec) :=
  OpenClaim.holds_of_wide 4 Try.f4 rfl rfl rfl rfl rfl rfl rfl ⟨rfl, rfl, rfl, rfl, rfl⟩ rfl rfl rfl rfl rfl (by kernel_rfl) Try.func4 (by kernel_rfl)
    (of_decide_eq_true (by kernel_rfl)) (by unfold Func.isWrapper; first | (rw [if_pos (by decide +kernel)]; kernel_rfl) | (rw [if_neg (by decide +kernel)]; exact ⟨rfl, rfl⟩))
    (fun os started H enc _ => lifted os started H enc)

theorem proved : Rows.FnExactFullBucketSaid := over
#print axioms proved
end Go.Proofs.Ytgiigcpodinpoaa.FnExactFullBucket
