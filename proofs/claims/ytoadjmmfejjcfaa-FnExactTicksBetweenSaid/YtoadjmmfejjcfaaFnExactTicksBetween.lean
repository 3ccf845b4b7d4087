/- The law FnExactTicksBetween: the program's TicksBetween is the reference's, for all arguments. No condition. -/
import Derived.Test.YtoadjmmfejjcfaaEvTicks
import Derived.Test.YtoadjmmfejjcfaaLawKit
namespace Go.Proofs.Ytoadjmmfejjcfaa.FnExactTicksBetween
open Go.ChangeShapes Go.WideShapes Go.ChangeAt Go.RowKit

set_option maxHeartbeats 2000000 in
theorem walk (v0 : Value) (a1 : Int) (_w1 : (Lit.int .i64 a1).wf = true) (a2 : Int) (_w2 : (Lit.int .i64 a2).wf = true) (a3 : Int) (_w3 : (Lit.int .i64 a3).wf = true) (w : World) (x0 : ArgEv w v0) :
    Calls Try.prog 4 #[v0, .int .i64 a1, .int .i64 a2, .int .i64 a3] w fun e w' => e = .returned (.bool true) ∧ Below w.heap.size w w' := by
  obtain ⟨xs0, x0⟩ := x0
  by_cases hbig0 : szEv xs0 (1048576) < 0
  · skip
    go_enter Try.func4, Try.ntmps4
    go_wp2_with fail
    refine (szEv_any _ _ (1048576) _ x0 (by omega) (by omega)).mono ?_
    rintro e w' ⟨rfl, rfl⟩
    go_wp2_with fail
    go_ret
    exact ⟨rfl, Below.refl _ _⟩
  have hz0 := szEv_ge xs0 (1048576) (by omega)
  have r0_0 := x0.rd (by omega)
  go_enter Try.func4, Try.ntmps4
  go_wp2_with fail
  refine (szEv_any _ _ (1048576) _ x0 (by omega) (by omega)).mono ?_
  rintro e w' ⟨rfl, rfl⟩
  go_wp2_with fail
  refine (toEv_any _ _ _ r0_0).mono ?_
  rintro e w1 ⟨t0_, rfl, ot0_, b1⟩
  have hB1 : Below w.heap.size w w1 := b1
  have z1 : w.heap.size ≤ w1.heap.size := b1.size
  have r0_1 := r0_0.below b1
  have t0_o_1 := ot0_
  go_wp2_with fail
  refine (specTicks_any _ _ _ _ _ _ t0_o_1.rd).mono ?_
  rintro e w2 ⟨rfl, b2⟩
  have hB2 : Below w.heap.size w w2 := hB1.trans (b2.mono hB1.size)
  have z2 : w1.heap.size ≤ w2.heap.size := b2.size
  have r0_2 := r0_1.below b2
  have t0_o_2 := t0_o_1.below b2
  go_wp2_with fail
  refine (toEv_any _ _ _ r0_2).mono ?_
  rintro e w3 ⟨x0_, rfl, ox0_, b3⟩
  have hB3 : Below w.heap.size w w3 := hB2.trans (b3.mono hB2.size)
  have z3 : w2.heap.size ≤ w3.heap.size := b3.size
  have r0_3 := r0_2.below b3
  have x0_o_3 := ox0_
  go_wp2_with fail
  refine (implTicks_any _ _ _ _ _ _ x0_o_3.rd).mono ?_
  rintro e w4 ⟨rfl, b4⟩
  have hB4 : Below w.heap.size w w4 := hB3.trans (b4.mono hB3.size)
  have z4 : w3.heap.size ≤ w4.heap.size := b4.size
  have r0_4 := r0_3.below b4
  have x0_o_4 := x0_o_3.below b4
  go_wp2_with fail
  refine (toEv_any _ _ _ r0_4).mono ?_
  rintro e w5 ⟨y0_, rfl, oy0_, b5⟩
  have hB5 : Below w.heap.size w w5 := hB4.trans (b5.mono hB4.size)
  have z5 : w4.heap.size ≤ w5.heap.size := b5.size
  have r0_5 := r0_4.below b5
  have x0_o_5 := x0_o_4.below b5
  have y0_o_5 := oy0_
  go_wp2_with fail
  refine (eqEv_below _ _ _ _ (x0_o_5.rd) (y0_o_5.rd)).mono ?_
  rintro e w6 ⟨rfl, b6⟩
  have hB6 : Below w.heap.size w w6 := hB5.trans (b6.mono hB5.size)
  have z6 : w5.heap.size ≤ w6.heap.size := b6.size
  have r0_6 := r0_5.below b6
  have x0_o_6 := x0_o_5.below b6
  have y0_o_6 := y0_o_5.below b6
  go_wp2_with fail
  go_ret
  exact ⟨rfl, hB6⟩

set_option maxRecDepth 100000 in
theorem lifted (os : Os) (started : os.Started) (H : Type) (enc : TypeId × Value → H) :
    ReturnsInHanded {} Try.checked os 4 .any (Rows.fnExactTicksBetweenSpec.pre6 enc Try.prog Try.f4 Rows.fnExactTicksBetweenRow.domain false) (Rows.fnExactTicksBetweenSpec.post enc Try.prog Try.f4 false true false false) := by
  refine returnsInHanded_of_change_sized (C := Try.checked) lk_own started (by kernel_rfl) Try.func4
    (ChangeSpec.witness6 (enc := enc) (C := Try.checked) false ⟨#[], #[.slice none 0 0, .int .i64 0, .int .i64 0, .int .i64 0], []⟩ 8 (by kernel_rfl) (by kernel_rfl) (by kernel_rfl) (by kernel_rfl)) ?_
  intro W base args ds gs before hval0 hW _ _ _
  have hval : ∀ (j : Nat) t v, Try.f4.params[j]? = some t → args[j]? = some v → Value.okWide Try.prog W .any base t v := hval0
  have hW' := hW
  obtain ⟨p, q, hA0, hV, rfl, _, _⟩ := hW
  have hA : DataW.TrodAll enc Try.prog W 0 (fun _ => true) true Try.f4.params.toList args.toList ds p := hA0
  rw [Try.params4] at hA hval
  obtain ⟨v0, vs0, d0, ds0, p0, q0, hargs, rfl, rfl, h0, r0⟩ := trodAll_cons hA
  obtain ⟨v1, vs1, d1, ds1, p1, q1, rfl, rfl, rfl, h1, r1⟩ := trodAll_cons r0
  obtain ⟨v2, vs2, d2, ds2, p2, q2, rfl, rfl, rfl, h2, r2⟩ := trodAll_cons r1
  obtain ⟨v3, vs3, d3, ds3, p3, q3, rfl, rfl, rfl, h3, r3⟩ := trodAll_cons r2
  obtain ⟨rfl, rfl, rfl⟩ := trodAll_nil r3
  obtain rfl : args = #[v0, v1, v2, v3] := by cases args; simp_all
  obtain ⟨rfl, rfl⟩ := trodVars_none hV
  clear hA0 hval0
  have x0 := open_argEv (hval 0 22 v0 rfl rfl) h0
  obtain ⟨a1, rfl, rfl, _, w1⟩ := open_int Try.underlying3 (hval 1 3 v1 rfl rfl) h1
  obtain ⟨a2, rfl, rfl, _, w2⟩ := open_int Try.underlying3 (hval 2 3 v2 rfl rfl) h2
  obtain ⟨a3, rfl, rfl, _, w3⟩ := open_int Try.underlying3 (hval 3 3 v3 rfl rfl) h3
  simp only [List.append_nil] at hW'
  refine (walk v0 a1 w1 a2 w2 a3 w3 W x0).mono fun e W' ⟨he, hb⟩ => ?_
  subst he
  exact ⟨_, rfl, post_law hW' rfl rfl (by kernel_rfl) rfl rfl rfl hb⟩

theorem over : Rows.fnExactTicksBetweenRow.holds Try.pinned (OpenSpec.ofChange Rows.fnExactTicksBetweenSpec) :=
  OpenClaim.holds_of_wide 4 Try.f4 rfl rfl rfl rfl rfl rfl rfl ⟨rfl, rfl, rfl, rfl, rfl⟩ rfl rfl rfl rfl rfl (by kernel_rfl) Try.func4 (by kernel_rfl)
    (of_decide_eq_true (by kernel_rfl)) (by unfold Func.isWrapper; first | (rw [if_pos (by decide +kernel)]; kernel_rfl) | (rw [if_neg (by decide +kernel)]; exact ⟨rfl, rfl⟩))
    (fun os started H enc _ => lifted os started H enc)

theorem proved : Rows.FnExactTicksBetweenSaid := over
#print axioms proved
end Go.Proofs.Ytoadjmmfejjcfaa.FnExactTicksBetween
