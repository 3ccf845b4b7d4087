/- The law FnExactFirstDifference: the program's FirstDifference is the reference's, for all arguments; the arguments are left as they were. No condition. -/
import Derived.Test.YtfkbehoelbhdoaaDoorScr6
import Derived.Test.YtfkbehoelbhdoaaDoorLawKit
namespace Go.Proofs.YtfkbehoelbhdoaaDoor.FnExactFirstDifference
open Go.ChangeShapes Go.WideShapes Go.ChangeAt Go.RowKit

set_option maxHeartbeats 2000000 in
theorem walk (v0 : Value) (v1 : Value) (w : World) (x0 : ArgSt w v0) (x1 : ArgSt w v1) :
    Calls Tryd.prog 4 #[v0, v1] w fun e w' => e = .returned (.bool true) ∧ Below w.heap.size w w' := by
  obtain ⟨xs0, x0⟩ := x0
  obtain ⟨xs1, x1⟩ := x1
  by_cases hbig0 : szSt xs0 (1048576) < 0
  · skip
    go_enter Tryd.func4, Tryd.ntmps4
    go_wp2_with fail
    refine (szSt_any _ _ (1048576) _ x0 (by omega) (by omega)).mono ?_
    rintro e ws1 ⟨rfl, bs1⟩
    have hBs1 : Below w.heap.size w ws1 := bs1
    have x0 := x0.below bs1
    have x1 := x1.below bs1
    go_wp2_with fail
    go_ret
    exact ⟨rfl, hBs1⟩
  have hz0 := szSt_ge xs0 (1048576) (by omega)
  by_cases hbig1 : szSt xs1 (szSt xs0 (1048576)) < 0
  · skip
    go_enter Tryd.func4, Tryd.ntmps4
    go_wp2_with fail
    refine (szSt_any _ _ (1048576) _ x0 (by omega) (by omega)).mono ?_
    rintro e ws1 ⟨rfl, bs1⟩
    have hBs1 : Below w.heap.size w ws1 := bs1
    have x0 := x0.below bs1
    have x1 := x1.below bs1
    go_wp2_with fail
    refine (szSt_any _ _ (szSt xs0 (1048576)) _ x1 (by omega) (by omega)).mono ?_
    rintro e ws2 ⟨rfl, bs2⟩
    have hBs2 : Below w.heap.size w ws2 := hBs1.trans (bs2.mono hBs1.size)
    have x0 := x0.below bs2
    have x1 := x1.below bs2
    go_wp2_with fail
    go_ret
    exact ⟨rfl, hBs2⟩
  have hz1 := szSt_ge xs1 (szSt xs0 (1048576)) (by omega)
  have r0_0 := x0.rd (by omega)
  have r1_0 := x1.rd (by omega)
  go_enter Tryd.func4, Tryd.ntmps4
  go_wp2_with fail
  refine (szSt_any _ _ (1048576) _ x0 (by omega) (by omega)).mono ?_
  rintro e w1 ⟨rfl, b1⟩
  have hB1 : Below w.heap.size w w1 := b1
  have z1 : w.heap.size ≤ w1.heap.size := b1.size
  have r0_1 := r0_0.below b1
  have r1_1 := r1_0.below b1
  have x0 := x0.below b1
  have x1 := x1.below b1
  go_wp2_with fail
  refine (szSt_any _ _ (szSt xs0 (1048576)) _ x1 (by omega) (by omega)).mono ?_
  rintro e w2 ⟨rfl, b2⟩
  have hB2 : Below w.heap.size w w2 := hB1.trans (b2.mono hB1.size)
  have z2 : w1.heap.size ≤ w2.heap.size := b2.size
  have r0_2 := r0_1.below b2
  have r1_2 := r1_1.below b2
  have x0 := x0.below b2
  have x1 := x1.below b2
  go_wp2_with fail
  refine (toSt_any _ _ _ r0_2).mono ?_
  rintro e w3 ⟨t0_, rfl, ot0_, b3⟩
  have hB3 : Below w.heap.size w w3 := hB2.trans (b3.mono hB2.size)
  have z3 : w2.heap.size ≤ w3.heap.size := b3.size
  have r0_3 := r0_2.below b3
  have r1_3 := r1_2.below b3
  have t0_o_3 := ot0_
  go_wp2_with fail
  refine (toSt_any _ _ _ r1_3).mono ?_
  rintro e w4 ⟨t1_, rfl, ot1_, b4⟩
  have hB4 : Below w.heap.size w w4 := hB3.trans (b4.mono hB3.size)
  have z4 : w3.heap.size ≤ w4.heap.size := b4.size
  have r0_4 := r0_3.below b4
  have r1_4 := r1_3.below b4
  have t0_o_4 := t0_o_3.below b4
  have t1_o_4 := ot1_
  go_wp2_with fail
  refine (specDiff_any _ _ _ _ _ t0_o_4.rd t1_o_4.rd).mono ?_
  rintro e w5 ⟨rfl, b5⟩
  have hB5 : Below w.heap.size w w5 := hB4.trans (b5.mono hB4.size)
  have z5 : w4.heap.size ≤ w5.heap.size := b5.size
  have r0_5 := r0_4.below b5
  have r1_5 := r1_4.below b5
  have t0_o_5 := t0_o_4.below b5
  have t1_o_5 := t1_o_4.below b5
  go_wp2_with fail
  refine (toSt_any _ _ _ r0_5).mono ?_
  rintro e w6 ⟨x0_, rfl, ox0_, b6⟩
  have hB6 : Below w.heap.size w w6 := hB5.trans (b6.mono hB5.size)
  have z6 : w5.heap.size ≤ w6.heap.size := b6.size
  have r0_6 := r0_5.below b6
  have r1_6 := r1_5.below b6
  have x0_o_6 := ox0_
  go_wp2_with fail
  refine (toSt_any _ _ _ r1_6).mono ?_
  rintro e w7 ⟨x1_, rfl, ox1_, b7⟩
  have hB7 : Below w.heap.size w w7 := hB6.trans (b7.mono hB6.size)
  have z7 : w6.heap.size ≤ w7.heap.size := b7.size
  have r0_7 := r0_6.below b7
  have r1_7 := r1_6.below b7
  have x0_o_7 := x0_o_6.below b7
  have x1_o_7 := ox1_
  go_wp2_with fail
  refine (implDiff_any _ _ _ _ _ x0_o_7.rd x1_o_7.rd).mono ?_
  rintro e w8 ⟨rfl, b8⟩
  have hB8 : Below w.heap.size w w8 := hB7.trans (b8.mono hB7.size)
  have z8 : w7.heap.size ≤ w8.heap.size := b8.size
  have r0_8 := r0_7.below b8
  have r1_8 := r1_7.below b8
  have x0_o_8 := x0_o_7.below b8
  have x1_o_8 := x1_o_7.below b8
  go_wp2_with fail
  refine (toSt_any _ _ _ r0_8).mono ?_
  rintro e w9 ⟨y0_, rfl, oy0_, b9⟩
  have hB9 : Below w.heap.size w w9 := hB8.trans (b9.mono hB8.size)
  have z9 : w8.heap.size ≤ w9.heap.size := b9.size
  have r0_9 := r0_8.below b9
  have r1_9 := r1_8.below b9
  have x0_o_9 := x0_o_8.below b9
  have x1_o_9 := x1_o_8.below b9
  have y0_o_9 := oy0_
  go_wp2_with fail
  refine (eqSt_below _ _ _ _ (x0_o_9.rd) (y0_o_9.rd)).mono ?_
  rintro e w10 ⟨rfl, b10⟩
  have hB10 : Below w.heap.size w w10 := hB9.trans (b10.mono hB9.size)
  have z10 : w9.heap.size ≤ w10.heap.size := b10.size
  have r0_10 := r0_9.below b10
  have r1_10 := r1_9.below b10
  have x0_o_10 := x0_o_9.below b10
  have x1_o_10 := x1_o_9.below b10
  have y0_o_10 := y0_o_9.below b10
  go_wp2_with fail
  refine (toSt_any _ _ _ r1_10).mono ?_
  rintro e w11 ⟨y1_, rfl, oy1_, b11⟩
  have hB11 : Below w.heap.size w w11 := hB10.trans (b11.mono hB10.size)
  have z11 : w10.heap.size ≤ w11.heap.size := b11.size
  have r0_11 := r0_10.below b11
  have r1_11 := r1_10.below b11
  have x0_o_11 := x0_o_10.below b11
  have x1_o_11 := x1_o_10.below b11
  have y1_o_11 := oy1_
  go_wp2_with fail
  refine (eqSt_below _ _ _ _ (x1_o_11.rd) (y1_o_11.rd)).mono ?_
  rintro e w12 ⟨rfl, b12⟩
  have hB12 : Below w.heap.size w w12 := hB11.trans (b12.mono hB11.size)
  have z12 : w11.heap.size ≤ w12.heap.size := b12.size
  have r0_12 := r0_11.below b12
  have r1_12 := r1_11.below b12
  have x0_o_12 := x0_o_11.below b12
  have x1_o_12 := x1_o_11.below b12
  have y1_o_12 := y1_o_11.below b12
  go_wp2_with fail
  go_ret
  exact ⟨rfl, hB12⟩

set_option maxRecDepth 100000 in
theorem lifted (os : Os) (started : os.Started) (H : Type) (enc : TypeId × Value → H) :
    ReturnsInHanded {} Tryd.checked os 4 .any (fun w args => (Rows.fnExactFirstDifferenceSpec.pre enc Tryd.prog Tryd.f4 Rows.fnExactFirstDifferenceRow.domain false w args ∧ laidMetH Tryd.prog Rows.fnExactFirstDifferenceRow.laid w) ∧ sizedMet enc Tryd.prog Tryd.f4 (OpenSpec.ofChange Rows.fnExactFirstDifferenceSpec) false w args) (Rows.fnExactFirstDifferenceSpec.post enc Tryd.prog Tryd.f4 false true false false) := by
  refine returnsInHanded_of_change_and (C := Tryd.checked) (X := fun w _ => laidMetH Tryd.prog Rows.fnExactFirstDifferenceRow.laid w) (fun _ _ _ hh h => h.of_heap hh) lk_own started (by kernel_rfl) Tryd.func4
    (ChangeSpec.witness_shaped (enc := enc) (C := Tryd.checked) (os := os) (X := fun w _ => laidMetH Tryd.prog Rows.fnExactFirstDifferenceRow.laid w) false (World.laidAll Tryd.prog os Rows.fnExactFirstDifferenceRow.laid) #[.slice none 0 0, .slice none 0 0] 8 (World.laidAll_os _ _ _)
      (World.shaped_of_ZipB (by kernel_rfl) (by kernel_rfl)) (by kernel_rfl) (by kernel_rfl) (by kernel_rfl)
      (by rw [MakeChecks.laidMetH_plain _ _ _ (by kernel_rfl)]; exact laidMet_laidAll _ (by kernel_rfl) (by kernel_rfl))) ?_
  intro W base args ds gs before hval0 hW _ _ hL _
  have hval : ∀ (j : Nat) t v, Tryd.f4.params[j]? = some t → args[j]? = some v → Value.okWide Tryd.prog W .any base t v := hval0
  have hW' := hW
  obtain ⟨p, q, hA0, hV, rfl, _, _⟩ := hW
  have hA : DataW.TrodAll enc Tryd.prog W 0 (fun _ => true) true Tryd.f4.params.toList args.toList ds p := hA0
  rw [Tryd.params4] at hA hval
  obtain ⟨v0, vs0, d0, ds0, p0, q0, hargs, rfl, rfl, h0, r0⟩ := trodAll_cons hA
  obtain ⟨v1, vs1, d1, ds1, p1, q1, rfl, rfl, rfl, h1, r1⟩ := trodAll_cons r0
  obtain ⟨rfl, rfl, rfl⟩ := trodAll_nil r1
  obtain rfl : args = #[v0, v1] := by cases args; simp_all
  obtain ⟨rfl, rfl⟩ := trodVars_none hV
  clear hA0 hval0
  have x0 := open_argSt (hval 0 22 v0 rfl rfl) h0
  have x1 := open_argSt (hval 1 22 v1 rfl rfl) h1
  clear hL
  simp only [List.append_nil] at hW'
  refine (walk v0 v1 W x0 x1).mono fun e W' ⟨he, hb⟩ => ?_
  subst he
  exact ⟨_, rfl, post_law hW' rfl rfl (by kernel_rfl) rfl rfl rfl hb⟩

theorem over : Rows.fnExactFirstDifferenceRow.holds Tryd.pinned (OpenSpec.ofChange Rows.fnExactFirstDifferenceSpec) :=
  OpenClaim.holds_of_wide 4 Tryd.f4 rfl rfl rfl rfl rfl rfl rfl ⟨rfl, rfl, rfl, rfl, rfl⟩ rfl rfl rfl rfl rfl (by kernel_rfl) Tryd.func4 (by kernel_rfl)
    (of_decide_eq_true (by kernel_rfl)) (by unfold Func.isWrapper; first | (rw [if_pos (by decide +kernel)]; kernel_rfl) | (rw [if_neg (by decide +kernel)]; exact ⟨rfl, rfl⟩))
    (fun os started H enc _ => lifted os started H enc)

theorem proved : Rows.FnExactFirstDifferenceCardSaid :=
  Claim7.holds_tied_plain_at .later [] [.data, .pinned] true (true, "c52078fd10a3efe492465174bb63ef865915d4a6f960f43f7fa802d80d030b5a") true over (fun _ h => by cases h) (by kernel_rfl) (fun _ h => by cases h) fnExactFirstDifference_row_tie rfl ⟨rfl, rfl⟩ (by kernel_rfl) rfl
    (fun f fn hf hfn => by
      obtain rfl : f = 4 := Option.some.inj ((show Tryd.prog.funcNamed Rows.fnExactFirstDifferenceRow.func = some 4 by kernel_rfl).symm.trans hf) |>.symm
      obtain rfl : fn = Tryd.f4 := (Option.some.inj (Tryd.func4.symm.trans hfn)).symm
      exact ⟨by kernel_rfl, fun j t ht => by
        rw [Tryd.params4] at ht
        have hm : t ∈ [22, 22] := by simpa using Array.mem_of_getElem? ht
        have hall : ([22, 22].all fun u => !Tryd.prog.wantsStandIn u) = true := by kernel_rfl
        exact (show Tryd.prog.wantsStandIn t = false by simpa using List.all_eq_true.1 hall t hm)⟩)
    (by kernel_rfl)
#print axioms proved
end Go.Proofs.YtfkbehoelbhdoaaDoor.FnExactFirstDifference
