/- The law FnExactParseEvent: the program's ParseEvent is the reference's, for every text, where the table of words, the library's table of powers and its two errors hold what is laid. -/
import Derived.Test.YtgmccafmopgjaaaDoorPeSpec
import Derived.Test.YtgmccafmopgjaaaDoorWords17
import Derived.Test.YtgmccafmopgjaaaDoorPowLaid
import Derived.Test.YtgmccafmopgjaaaDoorErrLaid
import Derived.Test.YtgmccafmopgjaaaDoorLawKit
import Derived.ChangeMaps5
namespace Go.Proofs.YtgmccafmopgjaaaDoor.FnExactParseEvent
open Go.ChangeShapes Go.WideShapes Go.ChangeAt Go.RowKit

set_option maxRecDepth 100000 in
set_option maxHeartbeats 2000000 in
theorem walk (s0 : ByteArray) (_w0 : s0.size ≤ maxLen) (w : World) (htrwords : TrAt w) (hpow10 : PowAt w) (herrs : ErrAt w) :
    Calls Tryd.prog 3 #[.string s0] w fun e w' => e = .returned (.bool true) ∧ Below w.heap.size w w' := by
  by_cases hbig0 : 1048576 < s0.size
  · skip
    go_enter Tryd.func3, Tryd.ntmps3
    go_wp2_with fail
    go_ret
    exact ⟨rfl, Below.refl _ _⟩
  have HS := Lib.hid (fun w => specParseEvent_any s0 w (by omega))
  have HI := Lib.hid (fun w a b c => implParseEvent_any s0 w (by omega) a b c)
  go_enter Tryd.func3, Tryd.ntmps3
  go_wp2_with fail
  refine (HS.out _).mono ?_
  rintro e w1 ⟨o, he, ho, hb⟩
  have HB := Lib.hid hb; clear hb
  have HO := Lib.hid ho; clear ho
  have HPe := Lib.hid (peEnd_eq o)
  rw [peEnd_eq] at he
  subst he
  generalize hx : o.getD ⟨0, 0, 0, 0⟩ = x at *
  generalize hf : o.isSome = f at *
  have HX := Lib.hid hx; clear hx
  have HF := Lib.hid hf; clear hf
  obtain ⟨a, b, c, d⟩ := x
  have HB1 : Hid (Below w.heap.size w (w1.alloc (.cells #[.int .i64 a, .int .i64 b, .int .i64 c, .int .i64 d] 23))) := Lib.hid (HB.out.trans (Below.mono (by go_grown) HB.out.size))
  go_wp2_with fail
  refine (HI.out _ (htrwords.below HB1.out) (hpow10.below HB1.out) (herrs.below HB1.out)).mono ?_
  rintro e w2 ⟨o2, he2, ho2, hb2⟩
  obtain rfl := PeIs.uniq ho2 HO.out
  rw [HPe.out] at he2
  subst he2
  have H3 : Hid (w2.heap[w1.heap.size]? = some (.cells #[.int .i64 a, .int .i64 b, .int .i64 c, .int .i64 d] 23 (0, 0))) := Lib.hid ((hb2.block w1.heap.size (by simp)).trans (heap_alloc_new _ _))
  have HB2 : Hid (Below w.heap.size w w2) := Lib.hid (HB1.out.trans (hb2.mono HB1.out.size))
  clear hb2 ho2
  have yh := H3.out; have y0 := cell_of_row w2 (w1.heap.size) 0 _ _ _ yh; simp at y0; have yf0 := frozen_of_row w2 (w1.heap.size) 0 _ _ yh; have y1 := cell_of_row w2 (w1.heap.size) 1 _ _ _ yh; simp at y1; have yf1 := frozen_of_row w2 (w1.heap.size) 1 _ _ yh; have y2 := cell_of_row w2 (w1.heap.size) 2 _ _ _ yh; simp at y2; have yf2 := frozen_of_row w2 (w1.heap.size) 2 _ _ yh; have y3 := cell_of_row w2 (w1.heap.size) 3 _ _ _ yh; simp at y3; have yf3 := frozen_of_row w2 (w1.heap.size) 3 _ _ yh; clear yh
  have hyl : w1.heap.size < w2.heap.size := (Array.getElem?_eq_some_iff.1 H3.out).1
  go_wp2_with fail
  refine (eqEv1_ex ⟨a, b, c, d⟩ _).mono ?_
  rintro e w3 ⟨rfl, rfl⟩
  go_wp2_with fail
  go_ret
  exact ⟨rfl, HB2.out.trans (Below.mono (by go_grown) HB2.out.size)⟩

set_option maxRecDepth 100000 in
theorem lifted (os : Os) (started : os.Started) (H : Type) (enc : TypeId × Value → H) :
    ReturnsInHanded {} Tryd.checked os 3 .any (fun w args => (Rows.fnExactParseEventSpec.pre enc Tryd.prog Tryd.f3 Rows.fnExactParseEventRow.domain false w args ∧ laidMetH Tryd.prog Rows.fnExactParseEventRow.laid w) ∧ sizedMet enc Tryd.prog Tryd.f3 (OpenSpec.ofChange Rows.fnExactParseEventSpec) false w args) (Rows.fnExactParseEventSpec.post enc Tryd.prog Tryd.f3 false true false false) := by
  refine returnsInHanded_of_change_and (C := Tryd.checked) (X := fun w _ => laidMetH Tryd.prog Rows.fnExactParseEventRow.laid w) (fun _ _ _ hh h => h.of_heap hh) lk_own started (by kernel_rfl) Tryd.func3
    (ChangeSpec.witness_shaped (enc := enc) (C := Tryd.checked) (os := os) (X := fun w _ => laidMetH Tryd.prog Rows.fnExactParseEventRow.laid w) false (World.laidAll Tryd.prog os Rows.fnExactParseEventRow.laid) #[.string ⟨#[]⟩] 8 (World.laidAll_os _ _ _)
      (World.shaped_of_ZipB (by kernel_rfl) (by kernel_rfl)) (by kernel_rfl) (by kernel_rfl) (by kernel_rfl)
      (by rw [MakeChecks.laidMetH_plain _ _ _ (by kernel_rfl)]; exact laidMet_laidAll _ (by kernel_rfl) (by kernel_rfl))) ?_
  intro W base args ds gs before hval0 hW _ _ hL _
  have hval : ∀ (j : Nat) t v, Tryd.f3.params[j]? = some t → args[j]? = some v → Value.okWide Tryd.prog W .any base t v := hval0
  have hW' := hW
  obtain ⟨p, q, hA0, hV, rfl, _, _⟩ := hW
  have hA : DataW.TrodAll enc Tryd.prog W 0 (fun _ => true) true Tryd.f3.params.toList args.toList ds p := hA0
  rw [Tryd.params3] at hA hval
  obtain ⟨v0, vs0, d0, ds0, p0, q0, hargs, rfl, rfl, h0, r0⟩ := trodAll_cons hA
  obtain ⟨rfl, rfl, rfl⟩ := trodAll_nil r0
  obtain rfl : args = #[v0] := by cases args; simp_all
  obtain ⟨_, _, _, _, dv, _, rfl, _⟩ := trodVars_one hV
  clear hA0 hval0
  obtain ⟨a0, rfl, rfl, _, w0⟩ := Go.ChangeMaps.open_string Tryd.underlying9 (hval 0 9 v0 rfl rfl) h0
  have hL0 := hL
  rw [MakeChecks.laidMetH_plain _ _ _ (by kernel_rfl)] at hL0
  clear hL
  refine (walk (herrs := errs_of hL0 (by unfold Rows.fnExactParseEventRow; refine ⟨?_, ?_⟩ <;> repeat (first | exact List.Mem.head _ | refine List.Mem.tail _ ?_))) (hpow10 := pow10_of hL0 (by unfold Rows.fnExactParseEventRow; repeat (first | exact List.Mem.head _ | refine List.Mem.tail _ ?_))) (htrwords := trwords_of hL0 (by unfold Rows.fnExactParseEventRow; repeat (first | exact List.Mem.head _ | refine List.Mem.tail _ ?_))) a0 w0 W ).mono fun e W' ⟨he, hb⟩ => ?_
  subst he
  exact ⟨_, rfl, post_lawV hW' rfl (by kernel_rfl) (by kernel_rfl) rfl rfl rfl hb⟩

theorem over : Rows.fnExactParseEventRow.holds Tryd.pinned (OpenSpec.ofChange Rows.fnExactParseEventSpec) :=
  OpenClaim.holds_of_wide 3 Tryd.f3 rfl rfl rfl rfl rfl rfl rfl ⟨rfl, rfl, rfl, rfl, rfl⟩ rfl rfl rfl rfl rfl (by kernel_rfl) Tryd.func3 (by kernel_rfl)
    (of_decide_eq_true (by kernel_rfl)) (by unfold Func.isWrapper; first | (rw [if_pos (by decide +kernel)]; kernel_rfl) | (rw [if_neg (by decide +kernel)]; exact ⟨rfl, rfl⟩))
    (fun os started H enc _ => lifted os started H enc)

theorem proved : Rows.FnExactParseEventCardSaid :=
  Claim7.holds_tied_plain_at .later [] [.data, .data, .data, .data, .sentinel, .sentinel, .widerDeep, .pinned] true (true, "87a154386769f934143c53cf9509b511810da2dd5da0a6020c0f00a2ea4048b6") true over (fun _ h => by cases h) (by kernel_rfl) (fun _ h => by cases h) fnExactParseEvent_row_tie rfl ⟨rfl, rfl⟩ (by kernel_rfl) rfl
    (fun f fn hf hfn => by
      obtain rfl : f = 3 := Option.some.inj ((show Tryd.prog.funcNamed Rows.fnExactParseEventRow.func = some 3 by kernel_rfl).symm.trans hf) |>.symm
      obtain rfl : fn = Tryd.f3 := (Option.some.inj (Tryd.func3.symm.trans hfn)).symm
      exact ⟨by kernel_rfl, fun j t ht => by
        rw [Tryd.params3] at ht
        have hm : t ∈ [9] := by simpa using Array.mem_of_getElem? ht
        have hall : ([9].all fun u => !Tryd.prog.wantsStandIn u) = true := by kernel_rfl
        exact (show Tryd.prog.wantsStandIn t = false by simpa using List.all_eq_true.1 hall t hm)⟩)
    (by kernel_rfl)
#print axioms proved
end Go.Proofs.YtgmccafmopgjaaaDoor.FnExactParseEvent
