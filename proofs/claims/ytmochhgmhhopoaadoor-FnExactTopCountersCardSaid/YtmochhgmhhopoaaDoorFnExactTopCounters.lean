/- The law FnExactTopCounters: the program's TopCounters is the reference's, for all arguments; the list is left as it was, the result is new memory. No condition. -/
import Derived.Test.YtmochhgmhhopoaaDoorCnt14
import Derived.Test.YtmochhgmhhopoaaDoorSzCt
import Derived.Test.YtmochhgmhhopoaaDoorLawKit
namespace Go.Proofs.YtmochhgmhhopoaaDoor.FnExactTopCounters
open Go.ChangeShapes Go.WideShapes Go.ChangeAt Go.RowKit

set_option maxHeartbeats 2000000 in
theorem walk (v0 : Value) (a1 : Int) (_w1 : (Lit.int .i64 a1).wf = true) (w : World) (x0 : ArgCt w v0) :
    Calls Tryd.prog 10 #[v0, .int .i64 a1] w fun e w' => e = .returned (.bool true) ∧ Below w.heap.size w w' := by
  obtain ⟨xs0, x0⟩ := x0
  by_cases hbig0 : szCt xs0 (1048576) < 0
  · skip
    go_enter Tryd.func10, Tryd.ntmps10
    go_wp2_with fail
    refine (szCt_any _ _ (1048576) _ x0 (by omega) (by omega)).mono ?_
    rintro e ws1 ⟨rfl, bs1⟩
    have hBs1 : Below w.heap.size w ws1 := bs1
    have x0 := x0.below bs1
    go_wp2_with fail
    go_ret
    exact ⟨rfl, hBs1⟩
  have hz0 := szCt_ge xs0 (1048576) (by omega)
  have r0_0 := x0.rd (by omega)
  go_enter Tryd.func10, Tryd.ntmps10
  go_wp2_with fail
  refine (szCt_any _ _ (1048576) _ x0 (by omega) (by omega)).mono ?_
  rintro e w1 ⟨rfl, b1⟩
  have hB1 : Below w.heap.size w w1 := b1
  have z1 : w.heap.size ≤ w1.heap.size := b1.size
  have r0_1 := r0_0.below b1
  have x0 := x0.below b1
  go_wp2_with fail
  refine (toCt_any _ _ _ r0_1).mono ?_
  rintro e w2 ⟨t0_, rfl, ot0_, b2⟩
  have hB2 : Below w.heap.size w w2 := hB1.trans (b2.mono hB1.size)
  have z2 : w1.heap.size ≤ w2.heap.size := b2.size
  have r0_2 := r0_1.below b2
  have t0_o_2 := ot0_
  go_wp2_with fail
  refine (specTop_any (hS := szCt_all (by omega)) _ _ _ _ t0_o_2.rd).mono ?_
  rintro e w3 ⟨s0, rfl, os0, b3⟩
  have hB3 : Below w.heap.size w w3 := hB2.trans (b3.mono hB2.size)
  have z3 : w2.heap.size ≤ w3.heap.size := b3.size
  have r0_3 := r0_2.below b3
  have t0_o_3 := t0_o_2.below b3
  have s0o_3 := os0
  go_wp2_with fail
  refine (toCt_any _ _ _ r0_3).mono ?_
  rintro e w4 ⟨x0_, rfl, ox0_, b4⟩
  have hB4 : Below w.heap.size w w4 := hB3.trans (b4.mono hB3.size)
  have z4 : w3.heap.size ≤ w4.heap.size := b4.size
  have r0_4 := r0_3.below b4
  have s0o_4 := s0o_3.below b4
  have x0_o_4 := ox0_
  go_wp2_with fail
  refine (implTop_any (hS := szCt_all (by omega)) _ _ _ _ x0_o_4.rd).mono ?_
  rintro e w5 ⟨g0, rfl, og0, b5⟩
  have hB5 : Below w.heap.size w w5 := hB4.trans (b5.mono hB4.size)
  have z5 : w4.heap.size ≤ w5.heap.size := b5.size
  have r0_5 := r0_4.below b5
  have s0o_5 := s0o_4.below b5
  have x0_o_5 := x0_o_4.below b5
  have g0o_5 := og0
  go_wp2_with fail
  refine (eqS_below _ _ _ _ (g0o_5.rd) (s0o_5.rd)).mono ?_
  rintro e w6 ⟨rfl, b6⟩
  have hB6 : Below w.heap.size w w6 := hB5.trans (b6.mono hB5.size)
  have z6 : w5.heap.size ≤ w6.heap.size := b6.size
  have r0_6 := r0_5.below b6
  have s0o_6 := s0o_5.below b6
  have x0_o_6 := x0_o_5.below b6
  have g0o_6 := g0o_5.below b6
  go_wp2_with fail
  refine (toCt_any _ _ _ r0_6).mono ?_
  rintro e w7 ⟨y0_, rfl, oy0_, b7⟩
  have hB7 : Below w.heap.size w w7 := hB6.trans (b7.mono hB6.size)
  have z7 : w6.heap.size ≤ w7.heap.size := b7.size
  have r0_7 := r0_6.below b7
  have s0o_7 := s0o_6.below b7
  have x0_o_7 := x0_o_6.below b7
  have g0o_7 := g0o_6.below b7
  have y0_o_7 := oy0_
  go_wp2_with fail
  refine (eqCt_below _ _ _ _ (x0_o_7.rd) (y0_o_7.rd)).mono ?_
  rintro e w8 ⟨rfl, b8⟩
  have hB8 : Below w.heap.size w w8 := hB7.trans (b8.mono hB7.size)
  have z8 : w7.heap.size ≤ w8.heap.size := b8.size
  have r0_8 := r0_7.below b8
  have s0o_8 := s0o_7.below b8
  have x0_o_8 := x0_o_7.below b8
  have g0o_8 := g0o_7.below b8
  have y0_o_8 := y0_o_7.below b8
  go_wp2_with fail
  refine (markCt_any _ _ (1) _ _ x0_o_8 (by omega) (by omega)).mono ?_
  rintro e w9 ⟨rfl, x0_o_9, g9⟩
  have hB9 : Below w.heap.size w w9 := hB8.grown g9 hB8.size (fun k hk => by have := (x0_o_4.lt k hk).1; have := hB3.size; omega)
  have z9 : w8.heap.size ≤ w9.heap.size := g9.size
  have r0_9 := r0_0.below hB9
  have s0o_9 := s0o_8.grown g9 (own_apart (B := w3.heap.size) (fun k hk => by have := (s0o_3.lt k hk).2; omega) (fun k hk => (x0_o_4.lt k hk).1))
  have g0o_9 := g0o_8.grown g9 (own_apart' (B := w4.heap.size) (fun k hk => (g0o_5.lt k hk).1) (fun k hk => by have := (x0_o_4.lt k hk).2; omega))
  go_wp2_with fail
  refine (eqS_below _ _ _ _ (g0o_9.rd) (s0o_9.rd)).mono ?_
  rintro e w10 ⟨rfl, b10⟩
  have hB10 : Below w.heap.size w w10 := hB9.trans (b10.mono hB9.size)
  have z10 : w9.heap.size ≤ w10.heap.size := b10.size
  have r0_10 := r0_9.below b10
  have s0o_10 := s0o_9.below b10
  have g0o_10 := g0o_9.below b10
  go_wp2_with fail
  refine (markS_any _ _ (1) _ _ g0o_10 (by omega) (by omega)).mono ?_
  rintro e w11 ⟨rfl, g0o_11, g11⟩
  have hB11 : Below w.heap.size w w11 := hB10.grown g11 hB10.size (fun k hk => by have := (g0o_5.lt k hk).1; have := hB4.size; omega)
  have z11 : w10.heap.size ≤ w11.heap.size := g11.size
  have r0_11 := r0_0.below hB11
  have s0o_11 := s0o_10.grown g11 (own_apart (B := w4.heap.size) (fun k hk => by have := (s0o_3.lt k hk).2; omega) (fun k hk => (g0o_5.lt k hk).1))
  go_wp2_with fail
  refine (heldS_any _ _ (1) _ (g0o_11.rd) (by omega) (by omega)).mono ?_
  rintro e w12 ⟨rfl, b12⟩
  have hB12 : Below w.heap.size w w12 := hB11.trans (b12.mono hB11.size)
  have z12 : w11.heap.size ≤ w12.heap.size := b12.size
  have r0_12 := r0_11.below b12
  have s0o_12 := s0o_11.below b12
  have g0o_12 := g0o_11.below b12
  go_wp2_with fail
  refine (toCt_any _ _ _ r0_12).mono ?_
  rintro e w13 ⟨z0_, rfl, oz0_, b13⟩
  have hB13 : Below w.heap.size w w13 := hB12.trans (b13.mono hB12.size)
  have z13 : w12.heap.size ≤ w13.heap.size := b13.size
  have r0_13 := r0_12.below b13
  have s0o_13 := s0o_12.below b13
  have g0o_13 := g0o_12.below b13
  have z0_o_13 := oz0_
  go_wp2_with fail
  refine (implTop_any (hS := szCt_all (by omega)) _ _ _ _ z0_o_13.rd).mono ?_
  rintro e w14 ⟨h0, rfl, oh0, b14⟩
  have hB14 : Below w.heap.size w w14 := hB13.trans (b14.mono hB13.size)
  have z14 : w13.heap.size ≤ w14.heap.size := b14.size
  have r0_14 := r0_13.below b14
  have s0o_14 := s0o_13.below b14
  have g0o_14 := g0o_13.below b14
  have z0_o_14 := z0_o_13.below b14
  have h0o_14 := oh0
  go_wp2_with fail
  refine (eqS_below _ _ _ _ (h0o_14.rd) (s0o_14.rd)).mono ?_
  rintro e w15 ⟨rfl, b15⟩
  have hB15 : Below w.heap.size w w15 := hB14.trans (b15.mono hB14.size)
  have z15 : w14.heap.size ≤ w15.heap.size := b15.size
  have r0_15 := r0_14.below b15
  have s0o_15 := s0o_14.below b15
  have g0o_15 := g0o_14.below b15
  have z0_o_15 := z0_o_14.below b15
  have h0o_15 := h0o_14.below b15
  go_wp2_with fail
  refine (heldS_any _ _ (1) _ (g0o_15.rd) (by omega) (by omega)).mono ?_
  rintro e w16 ⟨rfl, b16⟩
  have hB16 : Below w.heap.size w w16 := hB15.trans (b16.mono hB15.size)
  have z16 : w15.heap.size ≤ w16.heap.size := b16.size
  have r0_16 := r0_15.below b16
  have s0o_16 := s0o_15.below b16
  have g0o_16 := g0o_15.below b16
  have z0_o_16 := z0_o_15.below b16
  have h0o_16 := h0o_15.below b16
  go_wp2_with fail
  go_ret
  exact ⟨rfl, hB16⟩

set_option maxRecDepth 100000 in
theorem lifted (os : Os) (started : os.Started) (H : Type) (enc : TypeId × Value → H) :
    ReturnsInHanded {} Tryd.checked os 10 .any (fun w args => (Rows.fnExactTopCountersSpec.pre enc Tryd.prog Tryd.f10 Rows.fnExactTopCountersRow.domain false w args ∧ laidMetH Tryd.prog Rows.fnExactTopCountersRow.laid w) ∧ sizedMet enc Tryd.prog Tryd.f10 (OpenSpec.ofChange Rows.fnExactTopCountersSpec) false w args) (Rows.fnExactTopCountersSpec.post enc Tryd.prog Tryd.f10 false true false false) := by
  refine returnsInHanded_of_change_and (C := Tryd.checked) (X := fun w _ => laidMetH Tryd.prog Rows.fnExactTopCountersRow.laid w) (fun _ _ _ hh h => h.of_heap hh) lk_own started (by kernel_rfl) Tryd.func10
    (ChangeSpec.witness_shaped (enc := enc) (C := Tryd.checked) (os := os) (X := fun w _ => laidMetH Tryd.prog Rows.fnExactTopCountersRow.laid w) false (World.laidAll Tryd.prog os Rows.fnExactTopCountersRow.laid) #[.slice none 0 0, .int .i64 0] 8 (World.laidAll_os _ _ _)
      (World.shaped_of_ZipB (by kernel_rfl) (by kernel_rfl)) (by kernel_rfl) (by kernel_rfl) (by kernel_rfl)
      (by rw [MakeChecks.laidMetH_plain _ _ _ (by kernel_rfl)]; exact laidMet_laidAll _ (by kernel_rfl) (by kernel_rfl))) ?_
  intro W base args ds gs before hval0 hW _ _ hL _
  have hval : ∀ (j : Nat) t v, Tryd.f10.params[j]? = some t → args[j]? = some v → Value.okWide Tryd.prog W .any base t v := hval0
  have hW' := hW
  obtain ⟨p, q, hA0, hV, rfl, _, _⟩ := hW
  have hA : DataW.TrodAll enc Tryd.prog W 0 (fun _ => true) true Tryd.f10.params.toList args.toList ds p := hA0
  rw [Tryd.params10] at hA hval
  obtain ⟨v0, vs0, d0, ds0, p0, q0, hargs, rfl, rfl, h0, r0⟩ := trodAll_cons hA
  obtain ⟨v1, vs1, d1, ds1, p1, q1, rfl, rfl, rfl, h1, r1⟩ := trodAll_cons r0
  obtain ⟨rfl, rfl, rfl⟩ := trodAll_nil r1
  obtain rfl : args = #[v0, v1] := by cases args; simp_all
  obtain ⟨rfl, rfl⟩ := trodVars_none hV
  clear hA0 hval0
  have x0 := open_argCt (hval 0 22 v0 rfl rfl) h0
  obtain ⟨a1, rfl, rfl, _, w1⟩ := open_int Tryd.underlying3 (hval 1 3 v1 rfl rfl) h1
  clear hL
  simp only [List.append_nil] at hW'
  refine (walk v0 a1 w1 W x0).mono fun e W' ⟨he, hb⟩ => ?_
  subst he
  exact ⟨_, rfl, post_law hW' rfl rfl (by kernel_rfl) rfl rfl rfl hb⟩

theorem over : Rows.fnExactTopCountersRow.holds Tryd.pinned (OpenSpec.ofChange Rows.fnExactTopCountersSpec) :=
  OpenClaim.holds_of_wide 10 Tryd.f10 rfl rfl rfl rfl rfl rfl rfl ⟨rfl, rfl, rfl, rfl, rfl⟩ rfl rfl rfl rfl rfl (by kernel_rfl) Tryd.func10 (by kernel_rfl)
    (of_decide_eq_true (by kernel_rfl)) (by unfold Func.isWrapper; first | (rw [if_pos (by decide +kernel)]; kernel_rfl) | (rw [if_neg (by decide +kernel)]; exact ⟨rfl, rfl⟩))
    (fun os started H enc _ => lifted os started H enc)

theorem proved : Rows.FnExactTopCountersCardSaid :=
  Claim7.holds_tied_plain_at .later [] [.data, .pinned] true (true, "ca4dcec4baead5c8d52aca805bf5c1b69473118e7bc7fb787bf66938e9406061") true over (fun _ h => by cases h) (by kernel_rfl) (fun _ h => by cases h) fnExactTopCounters_row_tie rfl ⟨rfl, rfl⟩ (by kernel_rfl) rfl
    (fun f fn hf hfn => by
      obtain rfl : f = 10 := Option.some.inj ((show Tryd.prog.funcNamed Rows.fnExactTopCountersRow.func = some 10 by kernel_rfl).symm.trans hf) |>.symm
      obtain rfl : fn = Tryd.f10 := (Option.some.inj (Tryd.func10.symm.trans hfn)).symm
      exact ⟨by kernel_rfl, fun j t ht => by
        rw [Tryd.params10] at ht
        have hm : t ∈ [22, 3] := by simpa using Array.mem_of_getElem? ht
        have hall : ([22, 3].all fun u => !Tryd.prog.wantsStandIn u) = true := by kernel_rfl
        exact (show Tryd.prog.wantsStandIn t = false by simpa using List.all_eq_true.1 hall t hm)⟩)
    (by kernel_rfl)
#print axioms proved
end Go.Proofs.YtmochhgmhhopoaaDoor.FnExactTopCounters
