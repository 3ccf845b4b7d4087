/- The law FnExactIsGroupList: the program's IsGroupList is the reference's, for every list of groups; the argument is left as it was. -/
import Derived.Test.YtpgonlfaeejakaaDoorGr5
import Derived.Test.YtpgonlfaeejakaaDoorLawKit
namespace Go.Proofs.YtpgonlfaeejakaaDoor.FnExactIsGroupList
open Go.ChangeShapes Go.WideShapes Go.ChangeAt Go.RowKit

set_option maxRecDepth 100000 in
set_option maxHeartbeats 2000000 in
theorem walk (v0 : Value) (w : World) (hx : ArgGr w v0) :
    Calls Tryd.prog 3 #[v0] w fun e w' => e = .returned (.bool true) ∧ Below w.heap.size w w' := by
  obtain ⟨ps, hps⟩ := hx
  have H0 := Lib.hid hps
  go_enter Tryd.func3, Tryd.ntmps3
  go_wp2_with fail
  refine (szGroupS_any v0 ps 1048576 w hps (by omega) (by omega)).mono ?_
  rintro e w1 ⟨r, rfl, hr, b1⟩
  have H1 := Lib.hid (H0.out.below b1)
  clear hps H0
  by_cases hr0 : r < 0
  · go_wp2_with fail
    go_ret
    exact ⟨rfl, b1⟩
  have G1 := Lib.hid (H1.out.at (hr.resolve_left hr0).2)
  have B1 := Lib.hid b1
  have hr1 := (hr.resolve_left hr0).1
  clear hr b1 H1
  go_wp2_with fail
  refine (toGroupS_any v0 ps _ G1.out).mono ?_
  rintro e w2 ⟨u1, q1, rfl, o2, m2, b2⟩
  have B2 := Lib.hid (B1.out.trans (b2.mono B1.out.size))
  have G2 := Lib.hid (G1.out.below b2)
  have Q2 := Lib.hid o2
  have M1 := Lib.hid (gsB_congr m2)
  clear b2 o2 m2 B1 G1
  go_wp2_with fail
  refine (specIsGroupList_any u1 q1 _ Q2.out).mono ?_
  rintro e w3 ⟨rfl, b3⟩
  have B3 := Lib.hid (B2.out.trans (b3.mono B2.out.size))
  have G3 := Lib.hid (G2.out.below b3)
  rw [M1.out]
  clear b3 B2 G2 Q2 M1
  go_wp2_with fail
  refine (toGroupS_any v0 ps _ G3.out).mono ?_
  rintro e w4 ⟨u2, q2, rfl, o4, m4, b4⟩
  have B4 := Lib.hid (B3.out.trans (b4.mono B3.out.size))
  have G4 := Lib.hid (G3.out.below b4)
  have Q4 := Lib.hid o4
  have M4 := Lib.hid m4
  clear b4 o4 m4 B3 G3
  have HI := Lib.hid (fun w h => isGroupList_any u2 q2 w h)
  rw [gsB_congr M4.out] at HI
  go_wp2_with fail
  refine (HI.out _ Q4.out).mono ?_
  rintro e w5 ⟨rfl, b5⟩
  have B5 := Lib.hid (B4.out.trans (b5.mono B4.out.size))
  have G5 := Lib.hid (G4.out.below b5)
  have Q5 := Lib.hid (Q4.out.below b5)
  clear b5 B4 G4 Q4 HI
  go_wp2_with fail
  refine (toGroupS_any v0 ps _ G5.out).mono ?_
  rintro e w6 ⟨u3, q3, rfl, o6, m6, b6⟩
  have B6 := Lib.hid (B5.out.trans (b6.mono B5.out.size))
  have Q6 := Lib.hid (Q5.out.below b6)
  have R6 := Lib.hid o6
  have M6 := Lib.hid m6
  clear b6 o6 m6 B5 G5 Q5
  go_wp2_with fail
  refine (eqGroupS_any u2 u3 q2 q3 _ Q6.out R6.out (M6.out.trans M4.out.symm)).mono ?_
  rintro e w7 ⟨rfl, b7⟩
  have B7 := Lib.hid (B6.out.trans (b7.mono B6.out.size))
  clear b7 B6 Q6 R6
  go_wp2_with fail
  go_ret
  exact ⟨rfl, B7.out⟩

set_option maxRecDepth 100000 in
theorem lifted (os : Os) (started : os.Started) (H : Type) (enc : TypeId × Value → H) :
    ReturnsInHanded {} Tryd.checked os 3 .any (fun w args => (Rows.fnExactIsGroupListSpec.pre enc Tryd.prog Tryd.f3 Rows.fnExactIsGroupListRow.domain false w args ∧ laidMetH Tryd.prog Rows.fnExactIsGroupListRow.laid w) ∧ sizedMet enc Tryd.prog Tryd.f3 (OpenSpec.ofChange Rows.fnExactIsGroupListSpec) false w args) (Rows.fnExactIsGroupListSpec.post enc Tryd.prog Tryd.f3 false true false false) := by
  refine returnsInHanded_of_change_and (C := Tryd.checked) (X := fun w _ => laidMetH Tryd.prog Rows.fnExactIsGroupListRow.laid w) (fun _ _ _ hh h => h.of_heap hh) lk_own started (by kernel_rfl) Tryd.func3
    (ChangeSpec.witness_shaped (enc := enc) (C := Tryd.checked) (os := os) (X := fun w _ => laidMetH Tryd.prog Rows.fnExactIsGroupListRow.laid w) false (World.laidAll Tryd.prog os Rows.fnExactIsGroupListRow.laid) #[.slice none 0 0] 8 (World.laidAll_os _ _ _)
      (World.shaped_of_ZipB (by kernel_rfl) (by kernel_rfl)) (by kernel_rfl) (by kernel_rfl) (by kernel_rfl)
      (by rw [MakeChecks.laidMetH_plain _ _ _ (by kernel_rfl)]; exact laidMet_laidAll _ (by kernel_rfl) (by kernel_rfl))) ?_
  intro W base args ds gs before hval0 hW _ _ hL _
  have hval : ∀ (j : Nat) t v, Tryd.f3.params[j]? = some t → args[j]? = some v → Value.okWide Tryd.prog W .any base t v := hval0
  have hW' := hW
  obtain ⟨p, q, hA0, hV, rfl, _, _⟩ := hW
  have hA : DataW.TrodAll enc Tryd.prog W 0 (fun _ => true) true Tryd.f3.params.toList args.toList ds p := hA0
  rw [Tryd.params3] at hA hval
  obtain ⟨v0, vs0, d0, ds0, p0, q0, hargs, rfl, rfl, h0, r0⟩ := trodAll_cons hA
  obtain ⟨rfl, rfl, rfl⟩ := trodAll_nil r0
  obtain rfl : args = #[v0] := by cases args; simp_all
  obtain ⟨rfl, rfl⟩ := trodVars_none hV
  clear hA0 hval0
  have x0 := open_argGr (hval 0 22 v0 rfl rfl) h0
  clear hL
  simp only [List.append_nil] at hW'
  refine (walk v0 W x0).mono fun e W' ⟨he, hb⟩ => ?_
  subst he
  exact ⟨_, rfl, post_law hW' rfl rfl (by kernel_rfl) rfl rfl rfl hb⟩

theorem over : Rows.fnExactIsGroupListRow.holds Tryd.pinned (OpenSpec.ofChange Rows.fnExactIsGroupListSpec) :=
  OpenClaim.holds_of_wide 3 Tryd.f3 rfl rfl rfl rfl rfl rfl rfl ⟨rfl, rfl, rfl, rfl, rfl⟩ rfl rfl rfl rfl rfl (by kernel_rfl) Tryd.func3 (by kernel_rfl)
    (of_decide_eq_true (by kernel_rfl)) (by unfold Func.isWrapper; first | (rw [if_pos (by decide +kernel)]; kernel_rfl) | (rw [if_neg (by decide +kernel)]; exact ⟨rfl, rfl⟩))
    (fun os started H enc _ => lifted os started H enc)

theorem proved : Rows.FnExactIsGroupListCardSaid :=
  Claim7.holds_tied_plain_at .later [] [.data, .pinned] true (true, "b2e278ea30f74ce604f22276bfbd046353fa084e12326d4878d4f3e9c6e9a6a2") false over (fun _ h => by cases h) (by kernel_rfl) (fun _ h => by cases h) fnExactIsGroupList_row_tie rfl ⟨rfl, rfl⟩ (by kernel_rfl) rfl
    (fun f fn hf hfn => by
      obtain rfl : f = 3 := Option.some.inj ((show Tryd.prog.funcNamed Rows.fnExactIsGroupListRow.func = some 3 by kernel_rfl).symm.trans hf) |>.symm
      obtain rfl : fn = Tryd.f3 := (Option.some.inj (Tryd.func3.symm.trans hfn)).symm
      exact ⟨by kernel_rfl, fun j t ht => by
        rw [Tryd.params3] at ht
        have hm : t ∈ [22] := by simpa using Array.mem_of_getElem? ht
        have hall : ([22].all fun u => !Tryd.prog.wantsStandIn u) = true := by kernel_rfl
        exact (show Tryd.prog.wantsStandIn t = false by simpa using List.all_eq_true.1 hall t hm)⟩)
    (by kernel_rfl)
#print axioms proved
end Go.Proofs.YtpgonlfaeejakaaDoor.FnExactIsGroupList
