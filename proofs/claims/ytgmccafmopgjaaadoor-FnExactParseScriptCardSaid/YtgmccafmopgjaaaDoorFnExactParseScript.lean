/- The law FnExactParseScript: the program's ParseScript is the reference's, for every text, where the table of words, the library's table of powers and its two errors hold what is laid; the result is new memory. -/
import Derived.Test.YtgmccafmopgjaaaDoorPsScr
import Derived.Test.YtgmccafmopgjaaaDoorPiScr
import Derived.Test.YtgmccafmopgjaaaDoorWords
import Derived.Test.YtgmccafmopgjaaaDoorPowLaid
import Derived.Test.YtgmccafmopgjaaaDoorErrLaid
import Derived.Test.YtgmccafmopgjaaaDoorLawKit
import Derived.ChangeMaps5
namespace Go.Proofs.YtgmccafmopgjaaaDoor.FnExactParseScript
open Go.ChangeShapes Go.WideShapes Go.ChangeAt Go.RowKit

set_option maxHeartbeats 2000000 in
theorem walk (s0 : ByteArray) (_w0 : s0.size ≤ maxLen) (w : World) (hwords : WordsAt w) (hpow10 : PowAt w) (herrs : ErrAt w) :
    Calls Tryd.prog 4 #[.string s0] w fun e w' => e = .returned (.bool true) ∧ Below w.heap.size w w' := by
  by_cases hbig0 : 1048576 < s0.size
  · skip
    go_enter Tryd.func4, Tryd.ntmps4
    go_wp2_with fail
    go_ret
    exact ⟨rfl, Below.refl _ _⟩
  go_enter Tryd.func4, Tryd.ntmps4
  go_wp2_with fail
  refine (specParseScript_any s0 _ (by omega)).mono ?_
  rintro e w1 ⟨v0, o, rfl, ho, os0, b1⟩
  have HO := Lib.hid ho; clear ho
  have hB1 : Below w.heap.size w w1 := b1
  have z1 : w.heap.size ≤ w1.heap.size := b1.size
  have s0o_1 := os0
  go_wp2_with fail
  refine (implParseScript_any s0 _ (by omega) (hwords.below hB1) (hpow10.below hB1) (herrs.below hB1)).mono ?_
  rintro e w2 ⟨g0, o2, rfl, ho2, og0, b2⟩
  obtain rfl := ScIs.uniq ho2 HO.out
  clear ho2
  have hB2 : Below w.heap.size w w2 := hB1.trans (b2.mono hB1.size)
  have z2 : w1.heap.size ≤ w2.heap.size := b2.size
  have s0o_2 := s0o_1.below b2
  have g0o_2 := og0
  go_wp2_with fail
  refine (eqSt_below _ _ _ _ (g0o_2.rd) (s0o_2.rd)).mono ?_
  rintro e w3 ⟨rfl, b3⟩
  have hB3 : Below w.heap.size w w3 := hB2.trans (b3.mono hB2.size)
  have z3 : w2.heap.size ≤ w3.heap.size := b3.size
  have s0o_3 := s0o_2.below b3
  have g0o_3 := g0o_2.below b3
  go_wp2_with fail
  refine (markSt_any _ _ (1) _ _ g0o_3 (by omega) (by omega)).mono ?_
  rintro e w4 ⟨rfl, g0o_4, g4⟩
  have hB4 : Below w.heap.size w w4 := hB3.grown g4 hB3.size (fun k hk => by have := (g0o_2.lt k hk).1; have := hB1.size; omega)
  have z4 : w3.heap.size ≤ w4.heap.size := g4.size
  have s0o_4 := s0o_3.grown g4 (own_apart (B := w1.heap.size) (fun k hk => by have := (s0o_1.lt k hk).2; omega) (fun k hk => (g0o_2.lt k hk).1))
  go_wp2_with fail
  refine (heldSt_any _ _ (1) _ (g0o_4.rd) (by omega) (by omega)).mono ?_
  rintro e w5 ⟨rfl, b5⟩
  have hB5 : Below w.heap.size w w5 := hB4.trans (b5.mono hB4.size)
  have z5 : w4.heap.size ≤ w5.heap.size := b5.size
  have s0o_5 := s0o_4.below b5
  have g0o_5 := g0o_4.below b5
  go_wp2_with fail
  refine (implParseScript_any s0 _ (by omega) (hwords.below hB5) (hpow10.below hB5) (herrs.below hB5)).mono ?_
  rintro e w6 ⟨h0, o2, rfl, ho2, oh0, b6⟩
  obtain rfl := ScIs.uniq ho2 HO.out
  clear ho2
  have hB6 : Below w.heap.size w w6 := hB5.trans (b6.mono hB5.size)
  have z6 : w5.heap.size ≤ w6.heap.size := b6.size
  have s0o_6 := s0o_5.below b6
  have g0o_6 := g0o_5.below b6
  have h0o_6 := oh0
  go_wp2_with fail
  refine (eqSt_below _ _ _ _ (h0o_6.rd) (s0o_6.rd)).mono ?_
  rintro e w7 ⟨rfl, b7⟩
  have hB7 : Below w.heap.size w w7 := hB6.trans (b7.mono hB6.size)
  have z7 : w6.heap.size ≤ w7.heap.size := b7.size
  have s0o_7 := s0o_6.below b7
  have g0o_7 := g0o_6.below b7
  have h0o_7 := h0o_6.below b7
  go_wp2_with fail
  refine (heldSt_any _ _ (1) _ (g0o_7.rd) (by omega) (by omega)).mono ?_
  rintro e w8 ⟨rfl, b8⟩
  have hB8 : Below w.heap.size w w8 := hB7.trans (b8.mono hB7.size)
  have z8 : w7.heap.size ≤ w8.heap.size := b8.size
  have s0o_8 := s0o_7.below b8
  have g0o_8 := g0o_7.below b8
  have h0o_8 := h0o_7.below b8
  go_wp2_with fail
  go_ret
  exact ⟨rfl, hB8⟩

set_option maxRecDepth 100000 in
theorem lifted (os : Os) (started : os.Started) (H : Type) (enc : TypeId × Value → H) :
    ReturnsInHanded {} Tryd.checked os 4 .any (fun w args => (Rows.fnExactParseScriptSpec.pre enc Tryd.prog Tryd.f4 Rows.fnExactParseScriptRow.domain false w args ∧ laidMetH Tryd.prog Rows.fnExactParseScriptRow.laid w) ∧ sizedMet enc Tryd.prog Tryd.f4 (OpenSpec.ofChange Rows.fnExactParseScriptSpec) false w args) (Rows.fnExactParseScriptSpec.post enc Tryd.prog Tryd.f4 false true false false) := by
  refine returnsInHanded_of_change_and (C := Tryd.checked) (X := fun w _ => laidMetH Tryd.prog Rows.fnExactParseScriptRow.laid w) (fun _ _ _ hh h => h.of_heap hh) lk_own started (by kernel_rfl) Tryd.func4
    (ChangeSpec.witness_shaped (enc := enc) (C := Tryd.checked) (os := os) (X := fun w _ => laidMetH Tryd.prog Rows.fnExactParseScriptRow.laid w) false (World.laidAll Tryd.prog os Rows.fnExactParseScriptRow.laid) #[.string ⟨#[]⟩] 8 (World.laidAll_os _ _ _)
      (World.shaped_of_ZipB (by kernel_rfl) (by kernel_rfl)) (by kernel_rfl) (by kernel_rfl) (by kernel_rfl)
      (by rw [MakeChecks.laidMetH_plain _ _ _ (by kernel_rfl)]; exact laidMet_laidAll _ (by kernel_rfl) (by kernel_rfl))) ?_
  intro W base args ds gs before hval0 hW _ _ hL _
  have hval : ∀ (j : Nat) t v, Tryd.f4.params[j]? = some t → args[j]? = some v → Value.okWide Tryd.prog W .any base t v := hval0
  have hW' := hW
  obtain ⟨p, q, hA0, hV, rfl, _, _⟩ := hW
  have hA : DataW.TrodAll enc Tryd.prog W 0 (fun _ => true) true Tryd.f4.params.toList args.toList ds p := hA0
  rw [Tryd.params4] at hA hval
  obtain ⟨v0, vs0, d0, ds0, p0, q0, hargs, rfl, rfl, h0, r0⟩ := trodAll_cons hA
  obtain ⟨rfl, rfl, rfl⟩ := trodAll_nil r0
  obtain rfl : args = #[v0] := by cases args; simp_all
  obtain ⟨_, _, _, _, dv, _, rfl, _⟩ := trodVars_one hV
  clear hA0 hval0
  obtain ⟨a0, rfl, rfl, _, w0⟩ := Go.ChangeMaps.open_string Tryd.underlying9 (hval 0 9 v0 rfl rfl) h0
  have hL0 := hL
  rw [MakeChecks.laidMetH_plain _ _ _ (by kernel_rfl)] at hL0
  clear hL
  refine (walk (hwords := words_of hL0 (by unfold Rows.fnExactParseScriptRow; repeat (first | exact List.Mem.head _ | refine List.Mem.tail _ ?_))) (herrs := errs_of hL0 (by unfold Rows.fnExactParseScriptRow; refine ⟨?_, ?_⟩ <;> repeat (first | exact List.Mem.head _ | refine List.Mem.tail _ ?_))) (hpow10 := pow10_of hL0 (by unfold Rows.fnExactParseScriptRow; repeat (first | exact List.Mem.head _ | refine List.Mem.tail _ ?_))) a0 w0 W ).mono fun e W' ⟨he, hb⟩ => ?_
  subst he
  exact ⟨_, rfl, post_lawV hW' rfl (by kernel_rfl) (by kernel_rfl) rfl rfl rfl hb⟩

theorem over : Rows.fnExactParseScriptRow.holds Tryd.pinned (OpenSpec.ofChange Rows.fnExactParseScriptSpec) :=
  OpenClaim.holds_of_wide 4 Tryd.f4 rfl rfl rfl rfl rfl rfl rfl ⟨rfl, rfl, rfl, rfl, rfl⟩ rfl rfl rfl rfl rfl (by kernel_rfl) Tryd.func4 (by kernel_rfl)
    (of_decide_eq_true (by kernel_rfl)) (by unfold Func.isWrapper; first | (rw [if_pos (by decide +kernel)]; kernel_rfl) | (rw [if_neg (by decide +kernel)]; exact ⟨rfl, rfl⟩))
    (fun os started H enc _ => lifted os started H enc)

theorem proved : Rows.FnExactParseScriptCardSaid :=
  Claim7.holds_tied_plain_at .later [] [.data, .data, .data, .data, .sentinel, .sentinel, .data, .pinned] true (true, "87a154386769f934143c53cf9509b511810da2dd5da0a6020c0f00a2ea4048b6") true over (fun _ h => by cases h) (by kernel_rfl) (fun _ h => by cases h) fnExactParseScript_row_tie rfl ⟨rfl, rfl⟩ (by kernel_rfl) rfl
    (fun f fn hf hfn => by
      obtain rfl : f = 4 := Option.some.inj ((show Tryd.prog.funcNamed Rows.fnExactParseScriptRow.func = some 4 by kernel_rfl).symm.trans hf) |>.symm
      obtain rfl : fn = Tryd.f4 := (Option.some.inj (Tryd.func4.symm.trans hfn)).symm
      exact ⟨by kernel_rfl, fun j t ht => by
        rw [Tryd.params4] at ht
        have hm : t ∈ [9] := by simpa using Array.mem_of_getElem? ht
        have hall : ([9].all fun u => !Tryd.prog.wantsStandIn u) = true := by kernel_rfl
        exact (show Tryd.prog.wantsStandIn t = false by simpa using List.all_eq_true.1 hall t hm)⟩)
    (by kernel_rfl)
#print axioms proved
end Go.Proofs.YtgmccafmopgjaaaDoor.FnExactParseScript
