/- The law FnExactTokensAt: the program's TokensAt is the reference's, for all arguments. No condition. -/
import Derived.Test.YtgiigcpodinpoaaRate2
import Derived.Test.YtgiigcpodinpoaaRate6
import Derived.Test.YtgiigcpodinpoaaOpenRate
import Derived.Test.YtgiigcpodinpoaaLawKit
namespace Go.Proofs.Ytgiigcpodinpoaa.FnExactTokensAt
open Go.ChangeShapes Go.WideShapes Go.ChangeAt Go.RowKit

set_option maxHeartbeats 2000000 in
theorem walk (v0 : Value) (a1 : Int) (_w1 : (Lit.int .i64 a1).wf = true) (w : World) (x0 : ArgBk w v0) :
    Calls Try.prog 6 #[v0, .int .i64 a1] w fun e w' => e = .returned (.bool true) ∧ Below w.heap.size w w' := by
  obtain ⟨xs0, x0⟩ := x0; subst x0
  go_enter Try.func6, Try.ntmps6
  go_wp2_with fail
  refine (toBk_any xs0 _).mono ?_
  rintro e w1 ⟨rfl, b1⟩
  have b1_ : Below w.heap.size w w1 := Below.trans (by go_grown) (b1.mono (by simp <;> omega))
  have hB1 : Below w.heap.size w w1 := b1_
  have z1 : w.heap.size + 1 ≤ w1.heap.size := by have := b1.size; simp at this; omega
  have Hp0_1 := Lib.hid ((b1.block (w.heap.size) (by simp <;> omega)).trans (heap_alloc_new _ _))
  have p0h := Hp0_1.out; have p00 := cell_of_row w1 (w.heap.size) 0 _ _ _ p0h; simp at p00; have p0f0 := frozen_of_row w1 (w.heap.size) 0 _ _ p0h; have p01 := cell_of_row w1 (w.heap.size) 1 _ _ _ p0h; simp at p01; have p0f1 := frozen_of_row w1 (w.heap.size) 1 _ _ p0h; have p02 := cell_of_row w1 (w.heap.size) 2 _ _ _ p0h; simp at p02; have p0f2 := frozen_of_row w1 (w.heap.size) 2 _ _ p0h; have p03 := cell_of_row w1 (w.heap.size) 3 _ _ _ p0h; simp at p03; have p0f3 := frozen_of_row w1 (w.heap.size) 3 _ _ p0h; have p04 := cell_of_row w1 (w.heap.size) 4 _ _ _ p0h; simp at p04; have p0f4 := frozen_of_row w1 (w.heap.size) 4 _ _ p0h; clear p0h
  have ltp0 : w.heap.size < w1.heap.size := by omega
  have nep0 : w.heap.size ≠ w1.heap.size := by omega
  go_wp2_with fail
  refine (specTokens_any _ _ _ ).mono ?_
  rintro e w2 ⟨rfl, b2⟩
  have hB2 : Below w.heap.size w w2 := hB1.trans (b2.mono hB1.size)
  have z2 : w1.heap.size ≤ w2.heap.size := b2.size
  clear p00 p0f0 p01 p0f1 p02 p0f2 p03 p0f3 p04 p0f4 ltp0 nep0
  have Hp0_2 := Lib.hid ((b2.block (w.heap.size) (by omega)).trans Hp0_1.out)
  have p0h := Hp0_2.out; have p00 := cell_of_row w2 (w.heap.size) 0 _ _ _ p0h; simp at p00; have p0f0 := frozen_of_row w2 (w.heap.size) 0 _ _ p0h; have p01 := cell_of_row w2 (w.heap.size) 1 _ _ _ p0h; simp at p01; have p0f1 := frozen_of_row w2 (w.heap.size) 1 _ _ p0h; have p02 := cell_of_row w2 (w.heap.size) 2 _ _ _ p0h; simp at p02; have p0f2 := frozen_of_row w2 (w.heap.size) 2 _ _ p0h; have p03 := cell_of_row w2 (w.heap.size) 3 _ _ _ p0h; simp at p03; have p0f3 := frozen_of_row w2 (w.heap.size) 3 _ _ p0h; have p04 := cell_of_row w2 (w.heap.size) 4 _ _ _ p0h; simp at p04; have p0f4 := frozen_of_row w2 (w.heap.size) 4 _ _ p0h; clear p0h
  have ltp0 : w.heap.size < w2.heap.size := by omega
  have nep0 : w.heap.size ≠ w2.heap.size := by omega
  go_wp2_with fail
  refine (toBk_any xs0 _).mono ?_
  rintro e w3 ⟨rfl, b3⟩
  have hB3 : Below w.heap.size w w3 := hB2.trans (b3.mono hB2.size)
  have z3 : w2.heap.size ≤ w3.heap.size := b3.size
  clear p00 p0f0 p01 p0f1 p02 p0f2 p03 p0f3 p04 p0f4 ltp0 nep0
  have Hp0_3 := Lib.hid ((b3.block (w.heap.size) (by omega)).trans Hp0_2.out)
  have p0h := Hp0_3.out; have p00 := cell_of_row w3 (w.heap.size) 0 _ _ _ p0h; simp at p00; have p0f0 := frozen_of_row w3 (w.heap.size) 0 _ _ p0h; have p01 := cell_of_row w3 (w.heap.size) 1 _ _ _ p0h; simp at p01; have p0f1 := frozen_of_row w3 (w.heap.size) 1 _ _ p0h; have p02 := cell_of_row w3 (w.heap.size) 2 _ _ _ p0h; simp at p02; have p0f2 := frozen_of_row w3 (w.heap.size) 2 _ _ p0h; have p03 := cell_of_row w3 (w.heap.size) 3 _ _ _ p0h; simp at p03; have p0f3 := frozen_of_row w3 (w.heap.size) 3 _ _ p0h; have p04 := cell_of_row w3 (w.heap.size) 4 _ _ _ p0h; simp at p04; have p0f4 := frozen_of_row w3 (w.heap.size) 4 _ _ p0h; clear p0h
  have ltp0 : w.heap.size < w3.heap.size := by omega
  have nep0 : w.heap.size ≠ w3.heap.size := by omega
  go_wp2_with fail
  refine (implTokens_any _ _ _ ).mono ?_
  rintro e w4 ⟨rfl, b4⟩
  have hB4 : Below w.heap.size w w4 := hB3.trans (b4.mono hB3.size)
  have z4 : w3.heap.size ≤ w4.heap.size := b4.size
  clear p00 p0f0 p01 p0f1 p02 p0f2 p03 p0f3 p04 p0f4 ltp0 nep0
  have Hp0_4 := Lib.hid ((b4.block (w.heap.size) (by omega)).trans Hp0_3.out)
  have p0h := Hp0_4.out; have p00 := cell_of_row w4 (w.heap.size) 0 _ _ _ p0h; simp at p00; have p0f0 := frozen_of_row w4 (w.heap.size) 0 _ _ p0h; have p01 := cell_of_row w4 (w.heap.size) 1 _ _ _ p0h; simp at p01; have p0f1 := frozen_of_row w4 (w.heap.size) 1 _ _ p0h; have p02 := cell_of_row w4 (w.heap.size) 2 _ _ _ p0h; simp at p02; have p0f2 := frozen_of_row w4 (w.heap.size) 2 _ _ p0h; have p03 := cell_of_row w4 (w.heap.size) 3 _ _ _ p0h; simp at p03; have p0f3 := frozen_of_row w4 (w.heap.size) 3 _ _ p0h; have p04 := cell_of_row w4 (w.heap.size) 4 _ _ _ p0h; simp at p04; have p0f4 := frozen_of_row w4 (w.heap.size) 4 _ _ p0h; clear p0h
  have ltp0 : w.heap.size < w4.heap.size := by omega
  have nep0 : w.heap.size ≠ w4.heap.size := by omega
  go_wp2_with fail
  go_ret
  exact ⟨rfl, hB4⟩

set_option maxRecDepth 100000 in
theorem lifted (os : Os) (started : os.Started) (H : Type) (enc : TypeId × Value → H) :
    ReturnsInHanded {} Try.checked os 6 .any (Rows.fnExactTokensAtSpec.pre6 enc Try.prog Try.f6 Rows.fnExactTokensAtRow.domain false) (Rows.fnExactTokensAtSpec.post enc Try.prog Try.f6 false true false false) := by
  refine returnsInHanded_of_change_sized (C := Try.checked) lk_own started (by kernel_rfl) Try.func6
    (ChangeSpec.witness6 (enc := enc) (C := Try.checked) false ⟨#[], #[.agg #[.int .i64 0, .int .i64 0, .int .i64 0, .int .i64 0, .int .i64 0], .int .i64 0], []⟩ 8 (by kernel_rfl) (by kernel_rfl) (by kernel_rfl) (by kernel_rfl)) ?_
  intro W base args ds gs before hval0 hW _ _ _
  have hval : ∀ (j : Nat) t v, Try.f6.params[j]? = some t → args[j]? = some v → Value.okWide Try.prog W .any base t v := hval0
  have hW' := hW
  obtain ⟨p, q, hA0, hV, rfl, _, _⟩ := hW
  have hA : DataW.TrodAll enc Try.prog W 0 (fun _ => true) true Try.f6.params.toList args.toList ds p := hA0
  rw [Try.params6] at hA hval
  obtain ⟨v0, vs0, d0, ds0, p0, q0, hargs, rfl, rfl, h0, r0⟩ := trodAll_cons hA
  obtain ⟨v1, vs1, d1, ds1, p1, q1, rfl, rfl, rfl, h1, r1⟩ := trodAll_cons r0
  obtain ⟨rfl, rfl, rfl⟩ := trodAll_nil r1
  obtain rfl : args = #[v0, v1] := by cases args; simp_all
  obtain ⟨rfl, rfl⟩ := trodVars_none hV
  clear hA0 hval0
  have x0 := open_argBk (hval 0 23 v0 rfl rfl) h0
  obtain ⟨a1, rfl, rfl, _, w1⟩ := open_int Try.underlying3 (hval 1 3 v1 rfl rfl) h1
  simp only [List.append_nil] at hW'
  refine (walk v0 a1 w1 W x0).mono fun e W' ⟨he, hb⟩ => ?_
  subst he
  exact ⟨_, rfl, post_law hW' rfl rfl (by kernel_rfl) rfl rfl rfl hb⟩

theorem over : Rows.fnExactTokensAtRow.holds Try.pinned (OpenSpec.ofChange Rows.fnExactTokensAtSpec) :=
  OpenClaim.holds_of_wide 6 Try.f6 rfl rfl rfl rfl rfl rfl rfl ⟨rfl, rfl, rfl, rfl, rfl⟩ rfl rfl rfl rfl rfl (by kernel_rfl) Try.func6 (by kernel_rfl)
    (of_decide_eq_true (by kernel_rfl)) (by unfold Func.isWrapper; first | (rw [if_pos (by decide +kernel)]; kernel_rfl) | (rw [if_neg (by decide +kernel)]; exact ⟨rfl, rfl⟩))
    (fun os started H enc _ => lifted os started H enc)

theorem proved : Rows.FnExactTokensAtSaid := over
#print axioms proved
end Go.Proofs.Ytgiigcpodinpoaa.FnExactTokensAt
