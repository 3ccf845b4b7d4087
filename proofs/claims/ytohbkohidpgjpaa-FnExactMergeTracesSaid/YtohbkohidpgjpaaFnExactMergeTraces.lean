/- The law FnExactMergeTraces: the program's MergeTraces is the reference's, for all traces; the arguments are left as they were, the result is new memory. No condition. -/
import Derived.Test.YtohbkohidpgjpaaEvMgS
import Derived.Test.YtohbkohidpgjpaaLawKit
namespace Go.Proofs.Ytohbkohidpgjpaa.FnExactMergeTraces
open Go.ChangeShapes Go.WideShapes Go.ChangeAt Go.RowKit

set_option maxHeartbeats 2000000 in
theorem walk (v0 : Value) (v1 : Value) (w : World) (x0 : ArgEv w v0) (x1 : ArgEv w v1) :
    Calls Try.prog 3 #[v0, v1] w fun e w' => e = .returned (.bool true) ∧ Below w.heap.size w w' := by
  obtain ⟨xs0, x0⟩ := x0
  obtain ⟨xs1, x1⟩ := x1
  by_cases hbig0 : szEv xs0 (1048576) < 0
  · skip
    go_enter Try.func3, Try.ntmps3
    go_wp2_with fail
    refine (szEv_any _ _ (1048576) _ x0 (by omega) (by omega)).mono ?_
    rintro e w' ⟨rfl, rfl⟩
    go_wp2_with fail
    go_ret
    exact ⟨rfl, Below.refl _ _⟩
  have hz0 := szEv_ge xs0 (1048576) (by omega)
  by_cases hbig1 : szEv xs1 (1048576 - (xs0.length : Int)) < 0
  · skip
    go_enter Try.func3, Try.ntmps3
    go_wp2_with fail
    refine (szEv_any _ _ (1048576) _ x0 (by omega) (by omega)).mono ?_
    rintro e w' ⟨rfl, rfl⟩
    go_wp2_with fail
    refine (szEv_any _ _ (1048576 - (xs0.length : Int)) _ x1 (by omega) (by omega)).mono ?_
    rintro e w' ⟨rfl, rfl⟩
    go_wp2_with fail
    go_ret
    exact ⟨rfl, Below.refl _ _⟩
  have hz1 := szEv_ge xs1 (1048576 - (xs0.length : Int)) (by omega)
  have r0_0 := x0.rd (by omega)
  have r1_0 := x1.rd (by omega)
  go_enter Try.func3, Try.ntmps3
  go_wp2_with fail
  refine (szEv_any _ _ (1048576) _ x0 (by omega) (by omega)).mono ?_
  rintro e w' ⟨rfl, rfl⟩
  go_wp2_with fail
  refine (szEv_any _ _ (1048576 - (xs0.length : Int)) _ x1 (by omega) (by omega)).mono ?_
  rintro e w' ⟨rfl, rfl⟩
  go_wp2_with fail
  refine (toEv_any _ _ _ r0_0).mono ?_
  rintro e w1 ⟨t0_, rfl, ot0_, b1⟩
  have hB1 : Below w.heap.size w w1 := b1
  have z1 : w.heap.size ≤ w1.heap.size := b1.size
  have r0_1 := r0_0.below b1
  have r1_1 := r1_0.below b1
  have t0_o_1 := ot0_
  go_wp2_with fail
  refine (toEv_any _ _ _ r1_1).mono ?_
  rintro e w2 ⟨t1_, rfl, ot1_, b2⟩
  have hB2 : Below w.heap.size w w2 := hB1.trans (b2.mono hB1.size)
  have z2 : w1.heap.size ≤ w2.heap.size := b2.size
  have r0_2 := r0_1.below b2
  have r1_2 := r1_1.below b2
  have t0_o_2 := t0_o_1.below b2
  have t1_o_2 := ot1_
  go_wp2_with fail
  refine (specMerge_any _ _ _ _ _ t0_o_2.rd t1_o_2.rd).mono ?_
  rintro e w3 ⟨s0, rfl, os0, b3⟩
  have hB3 : Below w.heap.size w w3 := hB2.trans (b3.mono hB2.size)
  have z3 : w2.heap.size ≤ w3.heap.size := b3.size
  have r0_3 := r0_2.below b3
  have r1_3 := r1_2.below b3
  have t0_o_3 := t0_o_2.below b3
  have t1_o_3 := t1_o_2.below b3
  have s0o_3 := os0
  go_wp2_with fail
  refine (toEv_any _ _ _ r0_3).mono ?_
  rintro e w4 ⟨x0_, rfl, ox0_, b4⟩
  have hB4 : Below w.heap.size w w4 := hB3.trans (b4.mono hB3.size)
  have z4 : w3.heap.size ≤ w4.heap.size := b4.size
  have r0_4 := r0_3.below b4
  have r1_4 := r1_3.below b4
  have s0o_4 := s0o_3.below b4
  have x0_o_4 := ox0_
  go_wp2_with fail
  refine (toEv_any _ _ _ r1_4).mono ?_
  rintro e w5 ⟨x1_, rfl, ox1_, b5⟩
  have hB5 : Below w.heap.size w w5 := hB4.trans (b5.mono hB4.size)
  have z5 : w4.heap.size ≤ w5.heap.size := b5.size
  have r0_5 := r0_4.below b5
  have r1_5 := r1_4.below b5
  have s0o_5 := s0o_4.below b5
  have x0_o_5 := x0_o_4.below b5
  have x1_o_5 := ox1_
  go_wp2_with fail
  refine (implMerge_any _ _ _ _ _ x0_o_5.rd x1_o_5.rd).mono ?_
  rintro e w6 ⟨g0, rfl, og0, b6⟩
  have hB6 : Below w.heap.size w w6 := hB5.trans (b6.mono hB5.size)
  have z6 : w5.heap.size ≤ w6.heap.size := b6.size
  have r0_6 := r0_5.below b6
  have r1_6 := r1_5.below b6
  have s0o_6 := s0o_5.below b6
  have x0_o_6 := x0_o_5.below b6
  have x1_o_6 := x1_o_5.below b6
  have g0o_6 := og0
  go_wp2_with fail
  refine (eqEv_below _ _ _ _ (g0o_6.rd) (s0o_6.rd)).mono ?_
  rintro e w7 ⟨rfl, b7⟩
  have hB7 : Below w.heap.size w w7 := hB6.trans (b7.mono hB6.size)
  have z7 : w6.heap.size ≤ w7.heap.size := b7.size
  have r0_7 := r0_6.below b7
  have r1_7 := r1_6.below b7
  have s0o_7 := s0o_6.below b7
  have x0_o_7 := x0_o_6.below b7
  have x1_o_7 := x1_o_6.below b7
  have g0o_7 := g0o_6.below b7
  go_wp2_with fail
  refine (toEv_any _ _ _ r0_7).mono ?_
  rintro e w8 ⟨y0_, rfl, oy0_, b8⟩
  have hB8 : Below w.heap.size w w8 := hB7.trans (b8.mono hB7.size)
  have z8 : w7.heap.size ≤ w8.heap.size := b8.size
  have r0_8 := r0_7.below b8
  have r1_8 := r1_7.below b8
  have s0o_8 := s0o_7.below b8
  have x0_o_8 := x0_o_7.below b8
  have x1_o_8 := x1_o_7.below b8
  have g0o_8 := g0o_7.below b8
  have y0_o_8 := oy0_
  go_wp2_with fail
  refine (eqEv_below _ _ _ _ (x0_o_8.rd) (y0_o_8.rd)).mono ?_
  rintro e w9 ⟨rfl, b9⟩
  have hB9 : Below w.heap.size w w9 := hB8.trans (b9.mono hB8.size)
  have z9 : w8.heap.size ≤ w9.heap.size := b9.size
  have r0_9 := r0_8.below b9
  have r1_9 := r1_8.below b9
  have s0o_9 := s0o_8.below b9
  have x0_o_9 := x0_o_8.below b9
  have x1_o_9 := x1_o_8.below b9
  have g0o_9 := g0o_8.below b9
  have y0_o_9 := y0_o_8.below b9
  go_wp2_with fail
  refine (toEv_any _ _ _ r1_9).mono ?_
  rintro e w10 ⟨y1_, rfl, oy1_, b10⟩
  have hB10 : Below w.heap.size w w10 := hB9.trans (b10.mono hB9.size)
  have z10 : w9.heap.size ≤ w10.heap.size := b10.size
  have r0_10 := r0_9.below b10
  have r1_10 := r1_9.below b10
  have s0o_10 := s0o_9.below b10
  have x0_o_10 := x0_o_9.below b10
  have x1_o_10 := x1_o_9.below b10
  have g0o_10 := g0o_9.below b10
  have y1_o_10 := oy1_
  go_wp2_with fail
  refine (eqEv_below _ _ _ _ (x1_o_10.rd) (y1_o_10.rd)).mono ?_
  rintro e w11 ⟨rfl, b11⟩
  have hB11 : Below w.heap.size w w11 := hB10.trans (b11.mono hB10.size)
  have z11 : w10.heap.size ≤ w11.heap.size := b11.size
  have r0_11 := r0_10.below b11
  have r1_11 := r1_10.below b11
  have s0o_11 := s0o_10.below b11
  have x0_o_11 := x0_o_10.below b11
  have x1_o_11 := x1_o_10.below b11
  have g0o_11 := g0o_10.below b11
  have y1_o_11 := y1_o_10.below b11
  go_wp2_with fail
  refine (markEv_any _ _ (1) _ _ x0_o_11 (by omega) (by omega)).mono ?_
  rintro e w12 ⟨rfl, x0_o_12, g12⟩
  have hB12 : Below w.heap.size w w12 := hB11.grown g12 hB11.size (fun k hk => by have := (x0_o_4.lt k hk).1; have := hB3.size; omega)
  have z12 : w11.heap.size ≤ w12.heap.size := g12.size
  have r0_12 := r0_0.below hB12
  have r1_12 := r1_0.below hB12
  have s0o_12 := s0o_11.grown g12 (own_apart (B := w3.heap.size) (fun k hk => by have := (s0o_3.lt k hk).2; omega) (fun k hk => (x0_o_4.lt k hk).1))
  have x1_o_12 := x1_o_11.grown g12 (own_apart' (B := w4.heap.size) (fun k hk => (x1_o_5.lt k hk).1) (fun k hk => by have := (x0_o_4.lt k hk).2; omega))
  have g0o_12 := g0o_11.grown g12 (own_apart' (B := w5.heap.size) (fun k hk => (g0o_6.lt k hk).1) (fun k hk => by have := (x0_o_4.lt k hk).2; omega))
  go_wp2_with fail
  refine (markEv_any _ _ (1 + 4 * xs0.length) _ _ x1_o_12 (by omega) (by omega)).mono ?_
  rintro e w13 ⟨rfl, x1_o_13, g13⟩
  have hB13 : Below w.heap.size w w13 := hB12.grown g13 hB12.size (fun k hk => by have := (x1_o_5.lt k hk).1; have := hB4.size; omega)
  have z13 : w12.heap.size ≤ w13.heap.size := g13.size
  have r0_13 := r0_0.below hB13
  have r1_13 := r1_0.below hB13
  have s0o_13 := s0o_12.grown g13 (own_apart (B := w4.heap.size) (fun k hk => by have := (s0o_3.lt k hk).2; omega) (fun k hk => (x1_o_5.lt k hk).1))
  have g0o_13 := g0o_12.grown g13 (own_apart' (B := w5.heap.size) (fun k hk => (g0o_6.lt k hk).1) (fun k hk => by have := (x1_o_5.lt k hk).2; omega))
  go_wp2_with fail
  refine (eqEv_below _ _ _ _ (g0o_13.rd) (s0o_13.rd)).mono ?_
  rintro e w14 ⟨rfl, b14⟩
  have hB14 : Below w.heap.size w w14 := hB13.trans (b14.mono hB13.size)
  have z14 : w13.heap.size ≤ w14.heap.size := b14.size
  have r0_14 := r0_13.below b14
  have r1_14 := r1_13.below b14
  have s0o_14 := s0o_13.below b14
  have g0o_14 := g0o_13.below b14
  go_wp2_with fail
  refine (markEv_any _ _ (1) _ _ g0o_14 (by omega) (by omega)).mono ?_
  rintro e w15 ⟨rfl, g0o_15, g15⟩
  have hB15 : Below w.heap.size w w15 := hB14.grown g15 hB14.size (fun k hk => by have := (g0o_6.lt k hk).1; have := hB5.size; omega)
  have z15 : w14.heap.size ≤ w15.heap.size := g15.size
  have r0_15 := r0_0.below hB15
  have r1_15 := r1_0.below hB15
  have s0o_15 := s0o_14.grown g15 (own_apart (B := w5.heap.size) (fun k hk => by have := (s0o_3.lt k hk).2; omega) (fun k hk => (g0o_6.lt k hk).1))
  go_wp2_with fail
  refine (heldEv_any _ _ (1) _ (g0o_15.rd) (by omega) (by omega)).mono ?_
  rintro e w16 ⟨rfl, b16⟩
  have hB16 : Below w.heap.size w w16 := hB15.trans (b16.mono hB15.size)
  have z16 : w15.heap.size ≤ w16.heap.size := b16.size
  have r0_16 := r0_15.below b16
  have r1_16 := r1_15.below b16
  have s0o_16 := s0o_15.below b16
  have g0o_16 := g0o_15.below b16
  go_wp2_with fail
  refine (toEv_any _ _ _ r0_16).mono ?_
  rintro e w17 ⟨z0_, rfl, oz0_, b17⟩
  have hB17 : Below w.heap.size w w17 := hB16.trans (b17.mono hB16.size)
  have z17 : w16.heap.size ≤ w17.heap.size := b17.size
  have r0_17 := r0_16.below b17
  have r1_17 := r1_16.below b17
  have s0o_17 := s0o_16.below b17
  have g0o_17 := g0o_16.below b17
  have z0_o_17 := oz0_
  go_wp2_with fail
  refine (toEv_any _ _ _ r1_17).mono ?_
  rintro e w18 ⟨z1_, rfl, oz1_, b18⟩
  have hB18 : Below w.heap.size w w18 := hB17.trans (b18.mono hB17.size)
  have z18 : w17.heap.size ≤ w18.heap.size := b18.size
  have r0_18 := r0_17.below b18
  have r1_18 := r1_17.below b18
  have s0o_18 := s0o_17.below b18
  have g0o_18 := g0o_17.below b18
  have z0_o_18 := z0_o_17.below b18
  have z1_o_18 := oz1_
  go_wp2_with fail
  refine (implMerge_any _ _ _ _ _ z0_o_18.rd z1_o_18.rd).mono ?_
  rintro e w19 ⟨h0, rfl, oh0, b19⟩
  have hB19 : Below w.heap.size w w19 := hB18.trans (b19.mono hB18.size)
  have z19 : w18.heap.size ≤ w19.heap.size := b19.size
  have r0_19 := r0_18.below b19
  have r1_19 := r1_18.below b19
  have s0o_19 := s0o_18.below b19
  have g0o_19 := g0o_18.below b19
  have z0_o_19 := z0_o_18.below b19
  have z1_o_19 := z1_o_18.below b19
  have h0o_19 := oh0
  go_wp2_with fail
  refine (eqEv_below _ _ _ _ (h0o_19.rd) (s0o_19.rd)).mono ?_
  rintro e w20 ⟨rfl, b20⟩
  have hB20 : Below w.heap.size w w20 := hB19.trans (b20.mono hB19.size)
  have z20 : w19.heap.size ≤ w20.heap.size := b20.size
  have r0_20 := r0_19.below b20
  have r1_20 := r1_19.below b20
  have s0o_20 := s0o_19.below b20
  have g0o_20 := g0o_19.below b20
  have z0_o_20 := z0_o_19.below b20
  have z1_o_20 := z1_o_19.below b20
  have h0o_20 := h0o_19.below b20
  go_wp2_with fail
  refine (heldEv_any _ _ (1) _ (g0o_20.rd) (by omega) (by omega)).mono ?_
  rintro e w21 ⟨rfl, b21⟩
  have hB21 : Below w.heap.size w w21 := hB20.trans (b21.mono hB20.size)
  have z21 : w20.heap.size ≤ w21.heap.size := b21.size
  have r0_21 := r0_20.below b21
  have r1_21 := r1_20.below b21
  have s0o_21 := s0o_20.below b21
  have g0o_21 := g0o_20.below b21
  have z0_o_21 := z0_o_20.below b21
  have z1_o_21 := z1_o_20.below b21
  have h0o_21 := h0o_20.below b21
  go_wp2_with fail
  go_ret
  exact ⟨rfl, hB21⟩

set_option maxRecDepth 100000 in
theorem lifted (os : Os) (started : os.Started) (H : Type) (enc : TypeId × Value → H) :
    ReturnsInHanded {} Try.checked os 3 .any (Rows.fnExactMergeTracesSpec.pre6 enc Try.prog Try.f3 Rows.fnExactMergeTracesRow.domain false) (Rows.fnExactMergeTracesSpec.post enc Try.prog Try.f3 false true false false) := by
  refine returnsInHanded_of_change_sized (C := Try.checked) lk_own started (by kernel_rfl) Try.func3
    (ChangeSpec.witness6 (enc := enc) (C := Try.checked) false ⟨#[], #[.slice none 0 0, .slice none 0 0], []⟩ 8 (by kernel_rfl) (by kernel_rfl) (by kernel_rfl) (by kernel_rfl)) ?_
  intro W base args ds gs before hval0 hW _ _ _
  have hval : ∀ (j : Nat) t v, Try.f3.params[j]? = some t → args[j]? = some v → Value.okWide Try.prog W .any base t v := hval0
  have hW' := hW
  obtain ⟨p, q, hA0, hV, rfl, _, _⟩ := hW
  have hA : DataW.TrodAll enc Try.prog W 0 (fun _ => true) true Try.f3.params.toList args.toList ds p := hA0
  rw [Try.params3] at hA hval
  obtain ⟨v0, vs0, d0, ds0, p0, q0, hargs, rfl, rfl, h0, r0⟩ := trodAll_cons hA
  obtain ⟨v1, vs1, d1, ds1, p1, q1, rfl, rfl, rfl, h1, r1⟩ := trodAll_cons r0
  obtain ⟨rfl, rfl, rfl⟩ := trodAll_nil r1
  obtain rfl : args = #[v0, v1] := by cases args; simp_all
  obtain ⟨rfl, rfl⟩ := trodVars_none hV
  clear hA0 hval0
  have x0 := open_argEv (hval 0 22 v0 rfl rfl) h0
  have x1 := open_argEv (hval 1 22 v1 rfl rfl) h1
  simp only [List.append_nil] at hW'
  refine (walk v0 v1 W x0 x1).mono fun e W' ⟨he, hb⟩ => ?_
  subst he
  exact ⟨_, rfl, post_law hW' rfl rfl (by kernel_rfl) rfl rfl rfl hb⟩

theorem over : Rows.fnExactMergeTracesRow.holds Try.pinned (OpenSpec.ofChange Rows.fnExactMergeTracesSpec) :=
  OpenClaim.holds_of_wide 3 Try.f3 rfl rfl rfl rfl rfl rfl rfl ⟨rfl, rfl, rfl, rfl, rfl⟩ rfl rfl rfl rfl rfl (by kernel_rfl) Try.func3 (by kernel_rfl)
    (of_decide_eq_true (by kernel_rfl)) (by unfold Func.isWrapper; first | (rw [if_pos (by decide +kernel)]; kernel_rfl) | (rw [if_neg (by decide +kernel)]; exact ⟨rfl, rfl⟩))
    (fun os started H enc _ => lifted os started H enc)

theorem proved : Rows.FnExactMergeTracesSaid := over
#print axioms proved
end Go.Proofs.Ytohbkohidpgjpaa.FnExactMergeTraces
