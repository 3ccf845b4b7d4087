/- The law FnExactSpreadTicks: the program's SpreadTicks is the reference's, for all arguments; the result is new memory. No condition. -/
import Derived.Test.YtbkkggbpekhenaaSp2
import Derived.Test.YtbkkggbpekhenaaLawKit
namespace Go.Proofs.Ytbkkggbpekhenaa.FnExactSpreadTicks
open Go.ChangeShapes Go.WideShapes Go.ChangeAt Go.RowKit

set_option maxHeartbeats 2000000 in
theorem walk (a0 : Int) (_w0 : (Lit.int .i64 a0).wf = true) (a1 : Int) (_w1 : (Lit.int .i64 a1).wf = true) (a2 : Int) (_w2 : (Lit.int .i64 a2).wf = true) (a3 : Int) (_w3 : (Lit.int .i64 a3).wf = true) (w : World)  :
    Calls Try.prog 3 #[.int .i64 a0, .int .i64 a1, .int .i64 a2, .int .i64 a3] w fun e w' => e = .returned (.bool true) ∧ Below w.heap.size w w' := by
  go_enter Try.func3, Try.ntmps3
  go_wp2_with fail
  refine (specSpread_any _ _ _ _ _ ).mono ?_
  rintro e w1 ⟨s0, rfl, os0, b1⟩
  have hB1 : Below w.heap.size w w1 := b1
  have z1 : w.heap.size ≤ w1.heap.size := b1.size
  have s0o_1 := os0
  go_wp2_with fail
  refine (implSpread_any _ _ _ _ _ ).mono ?_
  rintro e w2 ⟨g0, rfl, og0, b2⟩
  have hB2 : Below w.heap.size w w2 := hB1.trans (b2.mono hB1.size)
  have z2 : w1.heap.size ≤ w2.heap.size := b2.size
  have s0o_2 := s0o_1.below b2
  have g0o_2 := og0
  go_wp2_with fail
  refine (eqI_below _ _ _ _ (g0o_2.rd) (s0o_2.rd)).mono ?_
  rintro e w3 ⟨rfl, b3⟩
  have hB3 : Below w.heap.size w w3 := hB2.trans (b3.mono hB2.size)
  have z3 : w2.heap.size ≤ w3.heap.size := b3.size
  have s0o_3 := s0o_2.below b3
  have g0o_3 := g0o_2.below b3
  go_wp2_with fail
  refine (markI_any _ _ (1) _ _ g0o_3 (by omega) (by omega)).mono ?_
  rintro e w4 ⟨rfl, g0o_4, g4⟩
  have hB4 : Below w.heap.size w w4 := hB3.grown g4 hB3.size (fun k hk => by have := (g0o_2.lt k hk).1; have := hB1.size; omega)
  have z4 : w3.heap.size ≤ w4.heap.size := g4.size
  have s0o_4 := s0o_3.grown g4 (own_apart (B := w1.heap.size) (fun k hk => by have := (s0o_1.lt k hk).2; omega) (fun k hk => (g0o_2.lt k hk).1))
  go_wp2_with fail
  refine (heldI_any _ _ (1) _ (g0o_4.rd) (by omega) (by omega)).mono ?_
  rintro e w5 ⟨rfl, b5⟩
  have hB5 : Below w.heap.size w w5 := hB4.trans (b5.mono hB4.size)
  have z5 : w4.heap.size ≤ w5.heap.size := b5.size
  have s0o_5 := s0o_4.below b5
  have g0o_5 := g0o_4.below b5
  go_wp2_with fail
  refine (implSpread_any _ _ _ _ _ ).mono ?_
  rintro e w6 ⟨h0, rfl, oh0, b6⟩
  have hB6 : Below w.heap.size w w6 := hB5.trans (b6.mono hB5.size)
  have z6 : w5.heap.size ≤ w6.heap.size := b6.size
  have s0o_6 := s0o_5.below b6
  have g0o_6 := g0o_5.below b6
  have h0o_6 := oh0
  go_wp2_with fail
  refine (eqI_below _ _ _ _ (h0o_6.rd) (s0o_6.rd)).mono ?_
  rintro e w7 ⟨rfl, b7⟩
  have hB7 : Below w.heap.size w w7 := hB6.trans (b7.mono hB6.size)
  have z7 : w6.heap.size ≤ w7.heap.size := b7.size
  have s0o_7 := s0o_6.below b7
  have g0o_7 := g0o_6.below b7
  have h0o_7 := h0o_6.below b7
  go_wp2_with fail
  refine (heldI_any _ _ (1) _ (g0o_7.rd) (by omega) (by omega)).mono ?_
  rintro e w8 ⟨rfl, b8⟩
  have hB8 : Below w.heap.size w w8 := hB7.trans (b8.mono hB7.size)
  have z8 : w7.heap.size ≤ w8.heap.size := b8.size
  have s0o_8 := s0o_7.below b8
  have g0o_8 := g0o_7.below b8
  have h0o_8 := h0o_7.below b8
  go_wp2_with fail
  go_ret
  exact ⟨rfl, hB8⟩

set_option maxRecDepth 100000 in
theorem lifted (os : Os) (started : os.Started) (H : Type) (enc : TypeId × Value → H) :
    ReturnsInHanded {} Try.checked os 3 .any (Rows.fnExactSpreadTicksSpec.pre6 enc Try.prog Try.f3 Rows.fnExactSpreadTicksRow.domain false) (Rows.fnExactSpreadTicksSpec.post enc Try.prog Try.f3 false true false false) := by
  refine returnsInHanded_of_change_sized (C := Try.checked) lk_own started (by kernel_rfl) Try.func3
    (ChangeSpec.witness6 (enc := enc) (C := Try.checked) false ⟨#[], #[.int .i64 0, .int .i64 0, .int .i64 0, .int .i64 0], []⟩ 8 (by kernel_rfl) (by kernel_rfl) (by kernel_rfl) (by kernel_rfl)) ?_
  intro W base args ds gs before hval0 hW _ _ _
  have hval : ∀ (j : Nat) t v, Try.f3.params[j]? = some t → args[j]? = some v → Value.okWide Try.prog W .any base t v := hval0
  have hW' := hW
  obtain ⟨p, q, hA0, hV, rfl, _, _⟩ := hW
  have hA : DataW.TrodAll enc Try.prog W 0 (fun _ => true) true Try.f3.params.toList args.toList ds p := hA0
  rw [Try.params3] at hA hval
  obtain ⟨v0, vs0, d0, ds0, p0, q0, hargs, rfl, rfl, h0, r0⟩ := trodAll_cons hA
  obtain ⟨v1, vs1, d1, ds1, p1, q1, rfl, rfl, rfl, h1, r1⟩ := trodAll_cons r0
  obtain ⟨v2, vs2, d2, ds2, p2, q2, rfl, rfl, rfl, h2, r2⟩ := trodAll_cons r1
  obtain ⟨v3, vs3, d3, ds3, p3, q3, rfl, rfl, rfl, h3, r3⟩ := trodAll_cons r2
  obtain ⟨rfl, rfl, rfl⟩ := trodAll_nil r3
  obtain rfl : args = #[v0, v1, v2, v3] := by cases args; simp_all
  obtain ⟨rfl, rfl⟩ := trodVars_none hV
  clear hA0 hval0
  obtain ⟨a0, rfl, rfl, _, w0⟩ := open_int Try.underlying3 (hval 0 3 v0 rfl rfl) h0
  obtain ⟨a1, rfl, rfl, _, w1⟩ := open_int Try.underlying3 (hval 1 3 v1 rfl rfl) h1
  obtain ⟨a2, rfl, rfl, _, w2⟩ := open_int Try.underlying3 (hval 2 3 v2 rfl rfl) h2
  obtain ⟨a3, rfl, rfl, _, w3⟩ := open_int Try.underlying3 (hval 3 3 v3 rfl rfl) h3
  simp only [List.append_nil] at hW'
  refine (walk a0 w0 a1 w1 a2 w2 a3 w3 W ).mono fun e W' ⟨he, hb⟩ => ?_
  subst he
  exact ⟨_, rfl, post_law hW' rfl rfl (by kernel_rfl) rfl rfl rfl hb⟩

theorem over : Rows.fnExactSpreadTicksRow.holds Try.pinned (OpenSpec.ofChange Rows.fnExactSpreadTicksSpec) :=
  OpenClaim.holds_of_wide 3 Try.f3 rfl rfl rfl rfl rfl rfl rfl ⟨rfl, rfl, rfl, rfl, rfl⟩ rfl rfl rfl rfl rfl (by kernel_rfl) Try.func3 (by kernel_rfl)
    (of_decide_eq_true (by kernel_rfl)) (by unfold Func.isWrapper; first | (rw [if_pos (by decide +kernel)]; kernel_rfl) | (rw [if_neg (by decide +kernel)]; exact ⟨rfl, rfl⟩))
    (fun os started H enc _ => lifted os started H enc)

theorem proved : Rows.FnExactSpreadTicksSaid := over
#print axioms proved
end Go.Proofs.Ytbkkggbpekhenaa.FnExactSpreadTicks
