/- The law FnExactStepText: the program's StepText is the reference's, for every step, where the table of words holds what the program's text lays. -/
import Derived.Test.YtfkbehoelbhdoaaDoorScr8
import Derived.Test.YtfkbehoelbhdoaaDoorWords
import Derived.Test.YtfkbehoelbhdoaaDoorLawKit
namespace Go.Proofs.YtfkbehoelbhdoaaDoor.FnExactStepText
open Go.ChangeShapes Go.WideShapes Go.ChangeAt Go.RowKit

set_option maxHeartbeats 2000000 in
theorem walk (v0 : Value) (w : World) (x0 : ArgSt1 w v0) (hwords : WordsAt w) :
    Calls Tryd.prog 9 #[v0] w fun e w' => e = .returned (.bool true) ∧ Below w.heap.size w w' := by
  obtain ⟨x, rfl, hok⟩ := x0
  have HZ := Lib.hid (fun w => szSt1_any x 1048576 w hok (by omega) (by omega))
  have HT := Lib.hid (fun w => toSt1_any x w)
  have HS := Lib.hid (fun w => specStepText_any x w hok)
  have HI := Lib.hid (fun w hW => implStepText_any x w hok hW)
  have HW := Lib.hid hwords; clear hwords hok
  obtain ⟨k, n, d⟩ := x
  generalize szSt1 ⟨k, n, d⟩ 1048576 = z at HZ
  generalize sttV ⟨k, n, d⟩ = t at HS HI
  generalize stB ⟨k, n, d⟩ = b at HS HI
  go_enter Tryd.func9, Tryd.ntmps9
  go_wp2_with fail
  refine (HZ.out _).mono ?_
  rintro e w1 ⟨rfl, hb1⟩
  have HX1 : Hid (w1.heap[w.heap.size]? = some (.cells #[.int .i64 k, .int .i64 n, .string d] 48 (0, 0))) := Lib.hid ((hb1.block w.heap.size (by simp)).trans (heap_alloc_new _ _))
  have HB1 := Lib.hid (Below.trans (by go_grown) (hb1.mono (by simp)) : Below w.heap.size w w1); clear hb1
  have hlt1 : w.heap.size < w1.heap.size := (Array.getElem?_eq_some_iff.1 HX1.out).1
  by_cases hz : z < 0
  · go_wp2
    go_ret
    exact ⟨rfl, HB1.out⟩
  have uh := HX1.out; have u0 := cell_of_row w1 (w.heap.size) 0 _ _ _ uh; simp at u0; have uf0 := frozen_of_row w1 (w.heap.size) 0 _ _ uh; have u1 := cell_of_row w1 (w.heap.size) 1 _ _ _ uh; simp at u1; have uf1 := frozen_of_row w1 (w.heap.size) 1 _ _ uh; have u2 := cell_of_row w1 (w.heap.size) 2 _ _ _ uh; simp at u2; have uf2 := frozen_of_row w1 (w.heap.size) 2 _ _ uh; clear uh
  go_wp2_with fail
  refine (HT.out _).mono ?_
  rintro e w2 ⟨rfl, hb2⟩
  have HB2 := Lib.hid (HB1.out.trans (hb2.mono HB1.out.size))
  have HX2 := Lib.hid ((hb2.block w.heap.size hlt1).trans HX1.out); clear hb2
  go_wp2_with fail
  refine (HS.out _).mono ?_
  rintro e w3 ⟨rfl, hb3⟩
  have HB3 := Lib.hid (HB2.out.trans (hb3.mono HB2.out.size))
  have HX3 := Lib.hid ((hb3.block w.heap.size (Array.getElem?_eq_some_iff.1 HX2.out).1).trans HX2.out); clear hb3
  clear u0 u1 u2 uf0 uf1 uf2
  have uh := HX3.out; have u0 := cell_of_row w3 (w.heap.size) 0 _ _ _ uh; simp at u0; have uf0 := frozen_of_row w3 (w.heap.size) 0 _ _ uh; have u1 := cell_of_row w3 (w.heap.size) 1 _ _ _ uh; simp at u1; have uf1 := frozen_of_row w3 (w.heap.size) 1 _ _ uh; have u2 := cell_of_row w3 (w.heap.size) 2 _ _ _ uh; simp at u2; have uf2 := frozen_of_row w3 (w.heap.size) 2 _ _ uh; clear uh
  go_wp2_with fail
  refine (HT.out _).mono ?_
  rintro e w4 ⟨rfl, hb4⟩
  have HB4 := Lib.hid (HB3.out.trans (hb4.mono HB3.out.size)); clear hb4
  go_wp2_with fail
  refine (HI.out _ (HW.out.below HB4.out)).mono ?_
  rintro e w5 ⟨rfl, hb5⟩
  have HB5 := Lib.hid (HB4.out.trans (hb5.mono HB4.out.size)); clear hb5
  go_wp2
  go_ret
  exact ⟨rfl, HB5.out⟩

set_option maxRecDepth 100000 in
theorem lifted (os : Os) (started : os.Started) (H : Type) (enc : TypeId × Value → H) :
    ReturnsInHanded {} Tryd.checked os 9 .any (fun w args => (Rows.fnExactStepTextSpec.pre enc Tryd.prog Tryd.f9 Rows.fnExactStepTextRow.domain false w args ∧ laidMetH Tryd.prog Rows.fnExactStepTextRow.laid w) ∧ sizedMet enc Tryd.prog Tryd.f9 (OpenSpec.ofChange Rows.fnExactStepTextSpec) false w args) (Rows.fnExactStepTextSpec.post enc Tryd.prog Tryd.f9 false true false false) := by
  refine returnsInHanded_of_change_and (C := Tryd.checked) (X := fun w _ => laidMetH Tryd.prog Rows.fnExactStepTextRow.laid w) (fun _ _ _ hh h => h.of_heap hh) lk_own started (by kernel_rfl) Tryd.func9
    (ChangeSpec.witness_shaped (enc := enc) (C := Tryd.checked) (os := os) (X := fun w _ => laidMetH Tryd.prog Rows.fnExactStepTextRow.laid w) false (World.laidAll Tryd.prog os Rows.fnExactStepTextRow.laid) #[.agg #[.int .i64 0, .int .i64 0, .string ⟨#[]⟩]] 8 (World.laidAll_os _ _ _)
      (World.shaped_of_ZipB (by kernel_rfl) (by kernel_rfl)) (by kernel_rfl) (by kernel_rfl) (by kernel_rfl)
      (by rw [MakeChecks.laidMetH_plain _ _ _ (by kernel_rfl)]; exact laidMet_laidAll _ (by kernel_rfl) (by kernel_rfl))) ?_
  intro W base args ds gs before hval0 hW _ _ hL _
  have hval : ∀ (j : Nat) t v, Tryd.f9.params[j]? = some t → args[j]? = some v → Value.okWide Tryd.prog W .any base t v := hval0
  have hW' := hW
  obtain ⟨p, q, hA0, hV, rfl, _, _⟩ := hW
  have hA : DataW.TrodAll enc Tryd.prog W 0 (fun _ => true) true Tryd.f9.params.toList args.toList ds p := hA0
  rw [Tryd.params9] at hA hval
  obtain ⟨v0, vs0, d0, ds0, p0, q0, hargs, rfl, rfl, h0, r0⟩ := trodAll_cons hA
  obtain ⟨rfl, rfl, rfl⟩ := trodAll_nil r0
  obtain rfl : args = #[v0] := by cases args; simp_all
  obtain ⟨_, _, _, _, dv, _, rfl, _⟩ := trodVars_one hV
  clear hA0 hval0
  have x0 := open_argSt1 (hval 0 48 v0 rfl rfl) h0
  have hL0 := hL
  rw [MakeChecks.laidMetH_plain _ _ _ (by kernel_rfl)] at hL0
  clear hL
  refine (walk (hwords := words_of hL0 (by unfold Rows.fnExactStepTextRow; repeat (first | exact List.Mem.head _ | refine List.Mem.tail _ ?_))) v0 W x0).mono fun e W' ⟨he, hb⟩ => ?_
  subst he
  exact ⟨_, rfl, post_lawV hW' rfl (by kernel_rfl) (by kernel_rfl) rfl rfl rfl hb⟩

theorem over : Rows.fnExactStepTextRow.holds Tryd.pinned (OpenSpec.ofChange Rows.fnExactStepTextSpec) :=
  OpenClaim.holds_of_wide 9 Tryd.f9 rfl rfl rfl rfl rfl rfl rfl ⟨rfl, rfl, rfl, rfl, rfl⟩ rfl rfl rfl rfl rfl (by kernel_rfl) Tryd.func9 (by kernel_rfl)
    (of_decide_eq_true (by kernel_rfl)) (by unfold Func.isWrapper; first | (rw [if_pos (by decide +kernel)]; kernel_rfl) | (rw [if_neg (by decide +kernel)]; exact ⟨rfl, rfl⟩))
    (fun os started H enc _ => lifted os started H enc)

theorem proved : Rows.FnExactStepTextCardSaid :=
  Claim7.holds_tied_plain_at .later [] [.data, .data, .data, .data, .data, .pinned] true (true, "c52078fd10a3efe492465174bb63ef865915d4a6f960f43f7fa802d80d030b5a") true over (fun _ h => by cases h) (by kernel_rfl) (fun _ h => by cases h) fnExactStepText_row_tie rfl ⟨rfl, rfl⟩ (by kernel_rfl) rfl
    (fun f fn hf hfn => by
      obtain rfl : f = 9 := Option.some.inj ((show Tryd.prog.funcNamed Rows.fnExactStepTextRow.func = some 9 by kernel_rfl).symm.trans hf) |>.symm
      obtain rfl : fn = Tryd.f9 := (Option.some.inj (Tryd.func9.symm.trans hfn)).symm
      exact ⟨by kernel_rfl, fun j t ht => by
        rw [Tryd.params9] at ht
        have hm : t ∈ [48] := by simpa using Array.mem_of_getElem? ht
        have hall : ([48].all fun u => !Tryd.prog.wantsStandIn u) = true := by kernel_rfl
        exact (show Tryd.prog.wantsStandIn t = false by simpa using List.all_eq_true.1 hall t hm)⟩)
    (by kernel_rfl)
#print axioms proved
end Go.Proofs.YtfkbehoelbhdoaaDoor.FnExactStepText
