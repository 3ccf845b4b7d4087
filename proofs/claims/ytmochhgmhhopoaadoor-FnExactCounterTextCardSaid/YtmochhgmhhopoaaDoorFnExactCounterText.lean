/- The law FnExactCounterText: the program's CounterText is the reference's, for every list, where the library's table of powers holds what the library's text lays; the argument is left as it was. -/
import Derived.Test.YtmochhgmhhopoaaDoorCnt16
import Derived.Test.YtmochhgmhhopoaaDoorSzCt
import Derived.Test.YtmochhgmhhopoaaDoorPowLaid
import Derived.Test.YtmochhgmhhopoaaDoorLawKit
namespace Go.Proofs.YtmochhgmhhopoaaDoor.FnExactCounterText
open Go.ChangeShapes Go.WideShapes Go.ChangeAt Go.RowKit

set_option maxHeartbeats 2000000 in
theorem walk (v0 : Value) (w : World) (x0 : ArgCt w v0) (hpow10 : PowAt w) :
    Calls Tryd.prog 11 #[v0] w fun e w' => e = .returned (.bool true) ∧ Below w.heap.size w w' := by
  obtain ⟨xs0, x0⟩ := x0
  by_cases hbig0 : szCt xs0 (1048576) < 0
  · skip
    go_enter Tryd.func11, Tryd.ntmps11
    go_wp2_with fail
    refine (szCt_any _ _ (1048576) _ x0 (by omega) (by omega)).mono ?_
    rintro e ws1 ⟨rfl, bs1⟩
    have hBs1 : Below w.heap.size w ws1 := bs1
    have x0 := x0.below bs1
    go_wp2_with fail
    go_ret
    exact ⟨rfl, hBs1⟩
  have hz0 := szCt_ge xs0 (1048576) (by omega)
  have r0_0 := x0.rd (by omega)
  go_enter Tryd.func11, Tryd.ntmps11
  go_wp2_with fail
  refine (szCt_any _ _ (1048576) _ x0 (by omega) (by omega)).mono ?_
  rintro e w1 ⟨rfl, b1⟩
  have hB1 : Below w.heap.size w w1 := b1
  have z1 : w.heap.size ≤ w1.heap.size := b1.size
  have r0_1 := r0_0.below b1
  have x0 := x0.below b1
  go_wp2_with fail
  refine (toCt_any _ _ _ r0_1).mono ?_
  rintro e w2 ⟨t0_, rfl, ot0_, b2⟩
  have hB2 : Below w.heap.size w w2 := hB1.trans (b2.mono hB1.size)
  have z2 : w1.heap.size ≤ w2.heap.size := b2.size
  have r0_2 := r0_1.below b2
  have t0_o_2 := ot0_
  go_wp2_with fail
  refine (specText_any (hS := szCt_all (by omega)) _ _ _ t0_o_2.rd).mono ?_
  rintro e w3 ⟨rfl, b3⟩
  have hB3 : Below w.heap.size w w3 := hB2.trans (b3.mono hB2.size)
  have z3 : w2.heap.size ≤ w3.heap.size := b3.size
  have r0_3 := r0_2.below b3
  have t0_o_3 := t0_o_2.below b3
  go_wp2_with fail
  refine (toCt_any _ _ _ r0_3).mono ?_
  rintro e w4 ⟨x0_, rfl, ox0_, b4⟩
  have hB4 : Below w.heap.size w w4 := hB3.trans (b4.mono hB3.size)
  have z4 : w3.heap.size ≤ w4.heap.size := b4.size
  have r0_4 := r0_3.below b4
  have x0_o_4 := ox0_
  go_wp2_with fail
  refine (implText_any (hS := szCt_all (by omega)) (hP := hpow10.below hB4) _ _ _ x0_o_4.rd).mono ?_
  rintro e w5 ⟨rfl, b5⟩
  have hB5 : Below w.heap.size w w5 := hB4.trans (b5.mono hB4.size)
  have z5 : w4.heap.size ≤ w5.heap.size := b5.size
  have r0_5 := r0_4.below b5
  have x0_o_5 := x0_o_4.below b5
  go_wp2_with fail
  refine (toCt_any _ _ _ r0_5).mono ?_
  rintro e w6 ⟨y0_, rfl, oy0_, b6⟩
  have hB6 : Below w.heap.size w w6 := hB5.trans (b6.mono hB5.size)
  have z6 : w5.heap.size ≤ w6.heap.size := b6.size
  have r0_6 := r0_5.below b6
  have x0_o_6 := x0_o_5.below b6
  have y0_o_6 := oy0_
  go_wp2_with fail
  refine (eqCt_below _ _ _ _ (x0_o_6.rd) (y0_o_6.rd)).mono ?_
  rintro e w7 ⟨rfl, b7⟩
  have hB7 : Below w.heap.size w w7 := hB6.trans (b7.mono hB6.size)
  have z7 : w6.heap.size ≤ w7.heap.size := b7.size
  have r0_7 := r0_6.below b7
  have x0_o_7 := x0_o_6.below b7
  have y0_o_7 := y0_o_6.below b7
  go_wp2_with fail
  go_ret
  exact ⟨rfl, hB7⟩

set_option maxRecDepth 100000 in
theorem lifted (os : Os) (started : os.Started) (H : Type) (enc : TypeId × Value → H) :
    ReturnsInHanded {} Tryd.checked os 11 .any (fun w args => (Rows.fnExactCounterTextSpec.pre enc Tryd.prog Tryd.f11 Rows.fnExactCounterTextRow.domain false w args ∧ laidMetH Tryd.prog Rows.fnExactCounterTextRow.laid w) ∧ sizedMet enc Tryd.prog Tryd.f11 (OpenSpec.ofChange Rows.fnExactCounterTextSpec) false w args) (Rows.fnExactCounterTextSpec.post enc Tryd.prog Tryd.f11 false true false false) := by
  refine returnsInHanded_of_change_and (C := Tryd.checked) (X := fun w _ => laidMetH Tryd.prog Rows.fnExactCounterTextRow.laid w) (fun _ _ _ hh h => h.of_heap hh) lk_own started (by kernel_rfl) Tryd.func11
    (ChangeSpec.witness_shaped (enc := enc) (C := Tryd.checked) (os := os) (X := fun w _ => laidMetH Tryd.prog Rows.fnExactCounterTextRow.laid w) false (World.laidAll Tryd.prog os Rows.fnExactCounterTextRow.laid) #[.slice none 0 0] 8 (World.laidAll_os _ _ _)
      (World.shaped_of_ZipB (by kernel_rfl) (by kernel_rfl)) (by kernel_rfl) (by kernel_rfl) (by kernel_rfl)
      (by rw [MakeChecks.laidMetH_plain _ _ _ (by kernel_rfl)]; exact laidMet_laidAll _ (by kernel_rfl) (by kernel_rfl))) ?_
  intro W base args ds gs before hval0 hW _ _ hL _
  have hval : ∀ (j : Nat) t v, Tryd.f11.params[j]? = some t → args[j]? = some v → Value.okWide Tryd.prog W .any base t v := hval0
  have hW' := hW
  obtain ⟨p, q, hA0, hV, rfl, _, _⟩ := hW
  have hA : DataW.TrodAll enc Tryd.prog W 0 (fun _ => true) true Tryd.f11.params.toList args.toList ds p := hA0
  rw [Tryd.params11] at hA hval
  obtain ⟨v0, vs0, d0, ds0, p0, q0, hargs, rfl, rfl, h0, r0⟩ := trodAll_cons hA
  obtain ⟨rfl, rfl, rfl⟩ := trodAll_nil r0
  obtain rfl : args = #[v0] := by cases args; simp_all
  obtain ⟨rfl, rfl⟩ := trodVars_none hV
  clear hA0 hval0
  have x0 := open_argCt (hval 0 22 v0 rfl rfl) h0
  simp only [List.append_nil] at hW'
  have hL0 := hL
  rw [MakeChecks.laidMetH_plain _ _ _ (by kernel_rfl)] at hL0
  clear hL
  refine (walk (hpow10 := pow10_of hL0 (by unfold Rows.fnExactCounterTextRow; repeat (first | exact List.Mem.head _ | refine List.Mem.tail _ ?_))) v0 W x0).mono fun e W' ⟨he, hb⟩ => ?_
  subst he
  exact ⟨_, rfl, post_law hW' rfl rfl (by kernel_rfl) rfl rfl rfl hb⟩

theorem over : Rows.fnExactCounterTextRow.holds Tryd.pinned (OpenSpec.ofChange Rows.fnExactCounterTextSpec) :=
  OpenClaim.holds_of_wide 11 Tryd.f11 rfl rfl rfl rfl rfl rfl rfl ⟨rfl, rfl, rfl, rfl, rfl⟩ rfl rfl rfl rfl rfl (by kernel_rfl) Tryd.func11 (by kernel_rfl)
    (of_decide_eq_true (by kernel_rfl)) (by unfold Func.isWrapper; first | (rw [if_pos (by decide +kernel)]; kernel_rfl) | (rw [if_neg (by decide +kernel)]; exact ⟨rfl, rfl⟩))
    (fun os started H enc _ => lifted os started H enc)

theorem proved : Rows.FnExactCounterTextCardSaid :=
  Claim7.holds_tied_plain_at .later [] [.data, .data, .data, .data, .pinned] true (true, "ca4dcec4baead5c8d52aca805bf5c1b69473118e7bc7fb787bf66938e9406061") true over (fun _ h => by cases h) (by kernel_rfl) (fun _ h => by cases h) fnExactCounterText_row_tie rfl ⟨rfl, rfl⟩ (by kernel_rfl) rfl
    (fun f fn hf hfn => by
      obtain rfl : f = 11 := Option.some.inj ((show Tryd.prog.funcNamed Rows.fnExactCounterTextRow.func = some 11 by kernel_rfl).symm.trans hf) |>.symm
      obtain rfl : fn = Tryd.f11 := (Option.some.inj (Tryd.func11.symm.trans hfn)).symm
      exact ⟨by kernel_rfl, fun j t ht => by
        rw [Tryd.params11] at ht
        have hm : t ∈ [22] := by simpa using Array.mem_of_getElem? ht
        have hall : ([22].all fun u => !Tryd.prog.wantsStandIn u) = true := by kernel_rfl
        exact (show Tryd.prog.wantsStandIn t = false by simpa using List.all_eq_true.1 hall t hm)⟩)
    (by kernel_rfl)
#print axioms proved
end Go.Proofs.YtmochhgmhhopoaaDoor.FnExactCounterText
