/- The law FnExactShuffleList: the program's ShuffleList is the reference's, for all arguments; the argument is left as it was, the result is new memory. No condition. -/
import Derived.Test.YtfljdhccacbhbaaDraw7
import Derived.Test.YtfljdhccacbhbaaOpenInts
import Derived.Test.YtfljdhccacbhbaaLawKit
namespace Go.Proofs.Ytfljdhccacbhbaa.FnExactShuffleList
open Go.ChangeShapes Go.WideShapes Go.ChangeAt Go.RowKit

set_option maxHeartbeats 2000000 in
theorem walk (a0 : Int) (_w0 : (Lit.int .i64 a0).wf = true) (v1 : Value) (w : World) (x1 : ArgI w v1) :
    Calls Try.prog 10 #[.int .i64 a0, v1] w fun e w' => e = .returned (.bool true) ∧ Below w.heap.size w w' := by
  obtain ⟨xs1, x1⟩ := x1
  by_cases hbig0 : 1048576 < xs1.length
  · obtain ⟨p, cap, hval⟩ := x1.shape; subst hval
    go_enter Try.func10, Try.ntmps10
    go_wp2_with fail
    go_ret
    exact ⟨rfl, Below.refl _ _⟩
  have r1_0 := x1.rd (by omega)
  obtain ⟨p1, cap1, hval1⟩ := x1.shape
  subst hval1
  go_enter Try.func10, Try.ntmps10
  go_wp2_with fail
  refine (toI_any _ _ _ r1_0).mono ?_
  rintro e w1 ⟨t1_, rfl, ot1_, b1⟩
  have hB1 : Below w.heap.size w w1 := b1
  have z1 : w.heap.size ≤ w1.heap.size := b1.size
  have r1_1 := r1_0.below b1
  have t1_o_1 := ot1_
  go_wp2_with fail
  refine (specShuffle_any _ _ _ _ t1_o_1.rd).mono ?_
  rintro e w2 ⟨s0, rfl, os0, b2⟩
  have hB2 : Below w.heap.size w w2 := hB1.trans (b2.mono hB1.size)
  have z2 : w1.heap.size ≤ w2.heap.size := b2.size
  have r1_2 := r1_1.below b2
  have t1_o_2 := t1_o_1.below b2
  have s0o_2 := os0
  go_wp2_with fail
  refine (toI_any _ _ _ r1_2).mono ?_
  rintro e w3 ⟨x1_, rfl, ox1_, b3⟩
  have hB3 : Below w.heap.size w w3 := hB2.trans (b3.mono hB2.size)
  have z3 : w2.heap.size ≤ w3.heap.size := b3.size
  have r1_3 := r1_2.below b3
  have s0o_3 := s0o_2.below b3
  have x1_o_3 := ox1_
  go_wp2_with fail
  refine (implShuffle_any _ _ _ _ x1_o_3.rd).mono ?_
  rintro e w4 ⟨g0, rfl, og0, b4⟩
  have hB4 : Below w.heap.size w w4 := hB3.trans (b4.mono hB3.size)
  have z4 : w3.heap.size ≤ w4.heap.size := b4.size
  have r1_4 := r1_3.below b4
  have s0o_4 := s0o_3.below b4
  have x1_o_4 := x1_o_3.below b4
  have g0o_4 := og0
  go_wp2_with fail
  refine (eqI_below _ _ _ _ (g0o_4.rd) (s0o_4.rd)).mono ?_
  rintro e w5 ⟨rfl, b5⟩
  have hB5 : Below w.heap.size w w5 := hB4.trans (b5.mono hB4.size)
  have z5 : w4.heap.size ≤ w5.heap.size := b5.size
  have r1_5 := r1_4.below b5
  have s0o_5 := s0o_4.below b5
  have x1_o_5 := x1_o_4.below b5
  have g0o_5 := g0o_4.below b5
  go_wp2_with fail
  refine (toI_any _ _ _ r1_5).mono ?_
  rintro e w6 ⟨y1_, rfl, oy1_, b6⟩
  have hB6 : Below w.heap.size w w6 := hB5.trans (b6.mono hB5.size)
  have z6 : w5.heap.size ≤ w6.heap.size := b6.size
  have r1_6 := r1_5.below b6
  have s0o_6 := s0o_5.below b6
  have x1_o_6 := x1_o_5.below b6
  have g0o_6 := g0o_5.below b6
  have y1_o_6 := oy1_
  go_wp2_with fail
  refine (eqI_below _ _ _ _ (x1_o_6.rd) (y1_o_6.rd)).mono ?_
  rintro e w7 ⟨rfl, b7⟩
  have hB7 : Below w.heap.size w w7 := hB6.trans (b7.mono hB6.size)
  have z7 : w6.heap.size ≤ w7.heap.size := b7.size
  have r1_7 := r1_6.below b7
  have s0o_7 := s0o_6.below b7
  have x1_o_7 := x1_o_6.below b7
  have g0o_7 := g0o_6.below b7
  have y1_o_7 := y1_o_6.below b7
  go_wp2_with fail
  refine (markI_any _ _ (1) _ _ x1_o_7 (by omega) (by omega)).mono ?_
  rintro e w8 ⟨rfl, x1_o_8, g8⟩
  have hB8 : Below w.heap.size w w8 := hB7.grown g8 hB7.size (fun k hk => by have := (x1_o_3.lt k hk).1; have := hB2.size; omega)
  have z8 : w7.heap.size ≤ w8.heap.size := g8.size
  have r1_8 := r1_0.below hB8
  have s0o_8 := s0o_7.grown g8 (own_apart (B := w2.heap.size) (fun k hk => by have := (s0o_2.lt k hk).2; omega) (fun k hk => (x1_o_3.lt k hk).1))
  have g0o_8 := g0o_7.grown g8 (own_apart' (B := w3.heap.size) (fun k hk => (g0o_4.lt k hk).1) (fun k hk => by have := (x1_o_3.lt k hk).2; omega))
  go_wp2_with fail
  refine (eqI_below _ _ _ _ (g0o_8.rd) (s0o_8.rd)).mono ?_
  rintro e w9 ⟨rfl, b9⟩
  have hB9 : Below w.heap.size w w9 := hB8.trans (b9.mono hB8.size)
  have z9 : w8.heap.size ≤ w9.heap.size := b9.size
  have r1_9 := r1_8.below b9
  have s0o_9 := s0o_8.below b9
  have g0o_9 := g0o_8.below b9
  go_wp2_with fail
  refine (markI_any _ _ (1) _ _ g0o_9 (by omega) (by omega)).mono ?_
  rintro e w10 ⟨rfl, g0o_10, g10⟩
  have hB10 : Below w.heap.size w w10 := hB9.grown g10 hB9.size (fun k hk => by have := (g0o_4.lt k hk).1; have := hB3.size; omega)
  have z10 : w9.heap.size ≤ w10.heap.size := g10.size
  have r1_10 := r1_0.below hB10
  have s0o_10 := s0o_9.grown g10 (own_apart (B := w3.heap.size) (fun k hk => by have := (s0o_2.lt k hk).2; omega) (fun k hk => (g0o_4.lt k hk).1))
  go_wp2_with fail
  refine (heldI_any _ _ (1) _ (g0o_10.rd) (by omega) (by omega)).mono ?_
  rintro e w11 ⟨rfl, b11⟩
  have hB11 : Below w.heap.size w w11 := hB10.trans (b11.mono hB10.size)
  have z11 : w10.heap.size ≤ w11.heap.size := b11.size
  have r1_11 := r1_10.below b11
  have s0o_11 := s0o_10.below b11
  have g0o_11 := g0o_10.below b11
  go_wp2_with fail
  refine (toI_any _ _ _ r1_11).mono ?_
  rintro e w12 ⟨z1_, rfl, oz1_, b12⟩
  have hB12 : Below w.heap.size w w12 := hB11.trans (b12.mono hB11.size)
  have z12 : w11.heap.size ≤ w12.heap.size := b12.size
  have r1_12 := r1_11.below b12
  have s0o_12 := s0o_11.below b12
  have g0o_12 := g0o_11.below b12
  have z1_o_12 := oz1_
  go_wp2_with fail
  refine (implShuffle_any _ _ _ _ z1_o_12.rd).mono ?_
  rintro e w13 ⟨h0, rfl, oh0, b13⟩
  have hB13 : Below w.heap.size w w13 := hB12.trans (b13.mono hB12.size)
  have z13 : w12.heap.size ≤ w13.heap.size := b13.size
  have r1_13 := r1_12.below b13
  have s0o_13 := s0o_12.below b13
  have g0o_13 := g0o_12.below b13
  have z1_o_13 := z1_o_12.below b13
  have h0o_13 := oh0
  go_wp2_with fail
  refine (eqI_below _ _ _ _ (h0o_13.rd) (s0o_13.rd)).mono ?_
  rintro e w14 ⟨rfl, b14⟩
  have hB14 : Below w.heap.size w w14 := hB13.trans (b14.mono hB13.size)
  have z14 : w13.heap.size ≤ w14.heap.size := b14.size
  have r1_14 := r1_13.below b14
  have s0o_14 := s0o_13.below b14
  have g0o_14 := g0o_13.below b14
  have z1_o_14 := z1_o_13.below b14
  have h0o_14 := h0o_13.below b14
  go_wp2_with fail
  refine (heldI_any _ _ (1) _ (g0o_14.rd) (by omega) (by omega)).mono ?_
  rintro e w15 ⟨rfl, b15⟩
  have hB15 : Below w.heap.size w w15 := hB14.trans (b15.mono hB14.size)
  have z15 : w14.heap.size ≤ w15.heap.size := b15.size
  have r1_15 := r1_14.below b15
  have s0o_15 := s0o_14.below b15
  have g0o_15 := g0o_14.below b15
  have z1_o_15 := z1_o_14.below b15
  have h0o_15 := h0o_14.below b15
  go_wp2_with fail
  go_ret
  exact ⟨rfl, hB15⟩

set_option maxRecDepth 100000 in
theorem lifted (os : Os) (started : os.Started) (H : Type) (enc : TypeId × Value → H) :
    ReturnsInHanded {} Try.checked os 10 .any (Rows.fnExactShuffleListSpec.pre6 enc Try.prog Try.f10 Rows.fnExactShuffleListRow.domain false) (Rows.fnExactShuffleListSpec.post enc Try.prog Try.f10 false true false false) := by
  refine returnsInHanded_of_change_sized (C := Try.checked) lk_own started (by kernel_rfl) Try.func10
    (ChangeSpec.witness6 (enc := enc) (C := Try.checked) false ⟨#[], #[.int .i64 0, .slice none 0 0], []⟩ 8 (by kernel_rfl) (by kernel_rfl) (by kernel_rfl) (by kernel_rfl)) ?_
  intro W base args ds gs before hval0 hW _ _ _
  have hval : ∀ (j : Nat) t v, Try.f10.params[j]? = some t → args[j]? = some v → Value.okWide Try.prog W .any base t v := hval0
  have hW' := hW
  obtain ⟨p, q, hA0, hV, rfl, _, _⟩ := hW
  have hA : DataW.TrodAll enc Try.prog W 0 (fun _ => true) true Try.f10.params.toList args.toList ds p := hA0
  rw [Try.params10] at hA hval
  obtain ⟨v0, vs0, d0, ds0, p0, q0, hargs, rfl, rfl, h0, r0⟩ := trodAll_cons hA
  obtain ⟨v1, vs1, d1, ds1, p1, q1, rfl, rfl, rfl, h1, r1⟩ := trodAll_cons r0
  obtain ⟨rfl, rfl, rfl⟩ := trodAll_nil r1
  obtain rfl : args = #[v0, v1] := by cases args; simp_all
  obtain ⟨rfl, rfl⟩ := trodVars_none hV
  clear hA0 hval0
  obtain ⟨a0, rfl, rfl, _, w0⟩ := open_int Try.underlying3 (hval 0 3 v0 rfl rfl) h0
  have x1 := open_argI (hval 1 32 v1 rfl rfl) h1
  simp only [List.append_nil] at hW'
  refine (walk a0 w0 v1 W x1).mono fun e W' ⟨he, hb⟩ => ?_
  subst he
  exact ⟨_, rfl, post_law hW' rfl rfl (by kernel_rfl) rfl rfl rfl hb⟩

theorem over : Rows.fnExactShuffleListRow.holds Try.pinned (OpenSpec.ofChange Rows.fnExactShuffleListSpec) :=
  OpenClaim.holds_of_wide 10 Try.f10 rfl rfl rfl rfl rfl rfl rfl ⟨rfl, rfl, rfl, rfl, rfl⟩ rfl rfl rfl rfl rfl (by kernel_rfl) Try.func10 (by kernel_rfl)
    (of_decide_eq_true (by kernel_rfl)) (by unfold Func.isWrapper; first | (rw [if_pos (by decide +kernel)]; kernel_rfl) | (rw [if_neg (by decide +kernel)]; exact ⟨rfl, rfl⟩))
    (fun os started H enc _ => lifted os started H enc)

theorem proved : Rows.FnExactShuffleListSaid := over
#print axioms proved
end Go.Proofs.Ytfljdhccacbhbaa.FnExactShuffleList
