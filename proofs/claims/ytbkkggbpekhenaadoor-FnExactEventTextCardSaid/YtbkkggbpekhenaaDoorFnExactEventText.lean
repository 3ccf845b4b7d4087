/- The law FnExactEventText: the program's EventText is the reference's, for every event, where the table of words and the library's table of powers hold what is laid. -/
import Derived.Test.YtbkkggbpekhenaaDoorEvTx2
import Derived.Test.YtbkkggbpekhenaaDoorWords17
import Derived.Test.YtbkkggbpekhenaaDoorPowLaid
import Derived.Test.YtbkkggbpekhenaaDoorLawKit
namespace Go.Proofs.YtbkkggbpekhenaaDoor.FnExactEventText
open Go.ChangeShapes Go.WideShapes Go.ChangeAt Go.RowKit

set_option maxHeartbeats 2000000 in
theorem walk (v0 : Value) (w : World) (x0 : ArgEv1 w v0) (htrwords : TrAt w) (hpow10 : PowAt w) :
    Calls Tryd.prog 3 #[v0] w fun e w' => e = .returned (.bool true) ∧ Below w.heap.size w w' := by
  obtain ⟨x, rfl⟩ := x0
  have HT := Lib.hid (fun w => toEv1_any x w)
  have HS := Lib.hid (fun w => specText17_any x w)
  have HI := Lib.hid (fun w hW hP => implText17_any x w hW hP)
  have HW := Lib.hid htrwords; clear htrwords
  have HP := Lib.hid hpow10; clear hpow10
  obtain ⟨t, n, k, m⟩ := x
  generalize evtV ⟨t, n, k, m⟩ = s at HS HI
  generalize evB ⟨t, n, k, m⟩ = b at HS HI
  go_enter Tryd.func3, Tryd.ntmps3
  go_wp2_with fail
  refine (HT.out _).mono ?_
  rintro e w2 ⟨rfl, hb2⟩
  have HX2 : Hid (w2.heap[w.heap.size]? = some (.cells #[.int .i64 t, .int .i64 n, .int .i64 k, .int .i64 m] 23 (0, 0))) := Lib.hid ((hb2.block w.heap.size (by simp)).trans (heap_alloc_new _ _))
  have HB2 := Lib.hid (Below.trans (by go_grown) (hb2.mono (by simp)) : Below w.heap.size w w2); clear hb2
  have hlt2 : w.heap.size < w2.heap.size := (Array.getElem?_eq_some_iff.1 HX2.out).1
  have uh := HX2.out; have u0 := cell_of_row w2 (w.heap.size) 0 _ _ _ uh; simp at u0; have uf0 := frozen_of_row w2 (w.heap.size) 0 _ _ uh; have u1 := cell_of_row w2 (w.heap.size) 1 _ _ _ uh; simp at u1; have uf1 := frozen_of_row w2 (w.heap.size) 1 _ _ uh; have u2 := cell_of_row w2 (w.heap.size) 2 _ _ _ uh; simp at u2; have uf2 := frozen_of_row w2 (w.heap.size) 2 _ _ uh; have u3 := cell_of_row w2 (w.heap.size) 3 _ _ _ uh; simp at u3; have uf3 := frozen_of_row w2 (w.heap.size) 3 _ _ uh; clear uh
  go_wp2_with fail
  refine (HS.out _).mono ?_
  rintro e w3 ⟨rfl, hb3⟩
  have HB3 := Lib.hid (HB2.out.trans (hb3.mono HB2.out.size))
  have HX3 := Lib.hid ((hb3.block w.heap.size (Array.getElem?_eq_some_iff.1 HX2.out).1).trans HX2.out); clear hb3
  clear u0 u1 u2 u3 uf0 uf1 uf2 uf3
  have uh := HX3.out; have u0 := cell_of_row w3 (w.heap.size) 0 _ _ _ uh; simp at u0; have uf0 := frozen_of_row w3 (w.heap.size) 0 _ _ uh; have u1 := cell_of_row w3 (w.heap.size) 1 _ _ _ uh; simp at u1; have uf1 := frozen_of_row w3 (w.heap.size) 1 _ _ uh; have u2 := cell_of_row w3 (w.heap.size) 2 _ _ _ uh; simp at u2; have uf2 := frozen_of_row w3 (w.heap.size) 2 _ _ uh; have u3 := cell_of_row w3 (w.heap.size) 3 _ _ _ uh; simp at u3; have uf3 := frozen_of_row w3 (w.heap.size) 3 _ _ uh; clear uh
  go_wp2_with fail
  refine (HT.out _).mono ?_
  rintro e w4 ⟨rfl, hb4⟩
  have HB4 := Lib.hid (HB3.out.trans (hb4.mono HB3.out.size)); clear hb4
  go_wp2_with fail
  refine (HI.out _ (HW.out.below HB4.out) (HP.out.below HB4.out)).mono ?_
  rintro e w5 ⟨rfl, hb5⟩
  have HB5 := Lib.hid (HB4.out.trans (hb5.mono HB4.out.size)); clear hb5
  go_wp2
  go_ret
  exact ⟨rfl, HB5.out⟩

set_option maxRecDepth 100000 in
theorem lifted (os : Os) (started : os.Started) (H : Type) (enc : TypeId × Value → H) :
    ReturnsInHanded {} Tryd.checked os 3 .any (fun w args => (Rows.fnExactEventTextSpec.pre enc Tryd.prog Tryd.f3 Rows.fnExactEventTextRow.domain false w args ∧ laidMetH Tryd.prog Rows.fnExactEventTextRow.laid w) ∧ sizedMet enc Tryd.prog Tryd.f3 (OpenSpec.ofChange Rows.fnExactEventTextSpec) false w args) (Rows.fnExactEventTextSpec.post enc Tryd.prog Tryd.f3 false true false false) := by
  refine returnsInHanded_of_change_and (C := Tryd.checked) (X := fun w _ => laidMetH Tryd.prog Rows.fnExactEventTextRow.laid w) (fun _ _ _ hh h => h.of_heap hh) lk_own started (by kernel_rfl) Tryd.func3
    (ChangeSpec.witness_shaped (enc := enc) (C := Tryd.checked) (os := os) (X := fun w _ => laidMetH Tryd.prog Rows.fnExactEventTextRow.laid w) false (World.laidAll Tryd.prog os Rows.fnExactEventTextRow.laid) #[.agg #[.int .i64 0, .int .i64 0, .int .i64 0, .int .i64 0]] 8 (World.laidAll_os _ _ _)
      (World.shaped_of_ZipB (by kernel_rfl) (by kernel_rfl)) (by kernel_rfl) (by kernel_rfl) (by kernel_rfl)
      (by rw [MakeChecks.laidMetH_plain _ _ _ (by kernel_rfl)]; exact laidMet_laidAll _ (by kernel_rfl) (by kernel_rfl))) ?_
  intro W base args ds gs before hval0 hW _ _ hL _
  have hval : ∀ (j : Nat) t v, Tryd.f3.params[j]? = some t → args[j]? = some v → Value.okWide Tryd.prog W .any base t v := hval0
  have hW' := hW
  obtain ⟨p, q, hA0, hV, rfl, _, _⟩ := hW
  have hA : DataW.TrodAll enc Tryd.prog W 0 (fun _ => true) true Tryd.f3.params.toList args.toList ds p := hA0
  rw [Tryd.params3] at hA hval
  obtain ⟨v0, vs0, d0, ds0, p0, q0, hargs, rfl, rfl, h0, r0⟩ := trodAll_cons hA
  obtain ⟨rfl, rfl, rfl⟩ := trodAll_nil r0
  obtain rfl : args = #[v0] := by cases args; simp_all
  obtain ⟨_, _, _, _, dv, _, rfl, _⟩ := trodVars_one hV
  clear hA0 hval0
  have x0 := open_argEv1 (hval 0 23 v0 rfl rfl) h0
  have hL0 := hL
  rw [MakeChecks.laidMetH_plain _ _ _ (by kernel_rfl)] at hL0
  clear hL
  refine (walk (htrwords := trwords_of hL0 (by unfold Rows.fnExactEventTextRow; repeat (first | exact List.Mem.head _ | refine List.Mem.tail _ ?_))) (hpow10 := pow10_of hL0 (by unfold Rows.fnExactEventTextRow; repeat (first | exact List.Mem.head _ | refine List.Mem.tail _ ?_))) v0 W x0).mono fun e W' ⟨he, hb⟩ => ?_
  subst he
  exact ⟨_, rfl, post_lawV hW' rfl (by kernel_rfl) (by kernel_rfl) rfl rfl rfl hb⟩

theorem over : Rows.fnExactEventTextRow.holds Tryd.pinned (OpenSpec.ofChange Rows.fnExactEventTextSpec) :=
  OpenClaim.holds_of_wide 3 Tryd.f3 rfl rfl rfl rfl rfl rfl rfl ⟨rfl, rfl, rfl, rfl, rfl⟩ rfl rfl rfl rfl rfl (by kernel_rfl) Tryd.func3 (by kernel_rfl)
    (of_decide_eq_true (by kernel_rfl)) (by unfold Func.isWrapper; first | (rw [if_pos (by decide +kernel)]; kernel_rfl) | (rw [if_neg (by decide +kernel)]; exact ⟨rfl, rfl⟩))
    (fun os started H enc _ => lifted os started H enc)

theorem proved : Rows.FnExactEventTextCardSaid :=
  Claim7.holds_tied_plain_at .later [] [.data, .data, .data, .widerDeep] true (true, "fc821be837974ec5f1ca662dac0467716622c091e50e31810e4da288e54fd127") true over (fun _ h => by cases h) (by kernel_rfl) (fun _ h => by cases h) fnExactEventText_row_tie rfl ⟨rfl, rfl⟩ (by kernel_rfl) rfl
    (fun f fn hf hfn => by
      obtain rfl : f = 3 := Option.some.inj ((show Tryd.prog.funcNamed Rows.fnExactEventTextRow.func = some 3 by kernel_rfl).symm.trans hf) |>.symm
      obtain rfl : fn = Tryd.f3 := (Option.some.inj (Tryd.func3.symm.trans hfn)).symm
      exact ⟨by kernel_rfl, fun j t ht => by
        rw [Tryd.params3] at ht
        have hm : t ∈ [23] := by simpa using Array.mem_of_getElem? ht
        have hall : ([23].all fun u => !Tryd.prog.wantsStandIn u) = true := by kernel_rfl
        exact (show Tryd.prog.wantsStandIn t = false by simpa using List.all_eq_true.1 hall t hm)⟩)
    (by kernel_rfl)
#print axioms proved
end Go.Proofs.YtbkkggbpekhenaaDoor.FnExactEventText
