/- The law FnExactGroupsOf: the program's GroupsOf is the reference's, for every list of groups and node; the argument is left as it was, the result is new memory. -/
import Derived.Test.YtpgonlfaeejakaaDoorGr5
import Derived.Test.YtpgonlfaeejakaaDoorGo2
import Derived.Test.YtpgonlfaeejakaaDoorGo3
import Derived.Test.YtpgonlfaeejakaaDoorLawKit
namespace Go.Proofs.YtpgonlfaeejakaaDoor.FnExactGroupsOf
open Go.ChangeShapes Go.WideShapes Go.ChangeAt Go.RowKit

theorem selN_fst (n : Int) (ps : List (Gr × Value)) (m : Nat) : selN (goF n) ps m = selN (fun _ (g : Gr) => if hasB g.ms n = true then some g.nm else none) (ps.map Prod.fst) m := by
  induction m with
  | zero => rfl
  | succ m ih =>
    rw [selN, selN, ih, List.getElem?_map]
    cases ps[m]? <;> rfl
theorem goB_congr {ps qs : List (Gr × Value)} (n : Int) (h : qs.map Prod.fst = ps.map Prod.fst) : goB qs n = goB ps n := by rw [goB, goB, gsB_congr h]
theorem goL_congr {ps qs : List (Gr × Value)} (n : Int) (h : qs.map Prod.fst = ps.map Prod.fst) : goL qs n = goL ps n := by
  have hl : qs.length = ps.length := by have := congrArg List.length h; simpa using this
  rw [goL, goL, goB_congr n h, selN_fst, selN_fst, h, hl]
theorem own_sameg {w w' : World} {base : Nat} {e : TypeId} {sz : Nat} {v : Value} {n : Nat} {cs : List Value} (h : w.ownsRow base e sz v n cs) (hs : ∀ g, v.ownBlock = some g → w'.heap[g]? = w.heap[g]?) : w'.ownsRow base e sz v n cs := by
  refine ⟨h.1, ?_⟩
  rcases h.2 with h0 | ⟨g, cap, cur, hv, h1, h2, h3⟩
  · exact .inl h0
  · exact .inr ⟨g, cap, cur, hv, h1, by rw [hs g (by rw [hv]; rfl)]; exact h2, h3⟩
theorem owS_out {B B' N : Nat} {w w' : World} {v : Value} {xs : List ByteArray} (h : OwS B' w v xs) (ho : Out B N w w') (hb : ∀ g, v.ownBlock = some g → g < B ∨ N ≤ g) : OwS B' w' v xs :=
  ⟨own_sameg h.1 (fun g e => ho.same g (h.lt g e).2 (hb g e)), h.2⟩
set_option maxRecDepth 100000 in
set_option maxHeartbeats 4000000 in
theorem walk (v0 : Value) (a1 : Int) (_w1 : (Lit.int .i64 a1).wf = true) (w : World) (hx : ArgGr w v0) :
    Calls Tryd.prog 4 #[v0, .int .i64 a1] w fun e w' => e = .returned (.bool true) ∧ Below w.heap.size w w' := by
  obtain ⟨ps, hps⟩ := hx
  have H0 := Lib.hid hps
  go_enter Tryd.func4, Tryd.ntmps4
  go_wp2_with fail
  refine (szGroupS_any v0 ps 1048576 w hps (by omega) (by omega)).mono ?_
  rintro e w1 ⟨r, rfl, hr, b1⟩
  have H1 := Lib.hid (H0.out.below b1)
  clear hps H0
  by_cases hr0 : r < 0
  · go_wp2_with fail
    go_ret
    exact ⟨rfl, b1⟩
  have hsm := (hr.resolve_left hr0).2
  have G1 := Lib.hid (H1.out.at hsm)
  have HSm := Lib.hid hsm
  have B1 := Lib.hid b1
  have hr1 := (hr.resolve_left hr0).1
  clear hr b1 H1 hsm
  have C1 := Lib.hid (Below.refl w1.heap.size w1)
  go_wp2_with fail
  refine (toGroupS_any v0 ps _ G1.out).mono ?_
  rintro e w2 ⟨u1, q1, rfl, o2, m2, b2⟩
  have C2 := Lib.hid (C1.out.trans b2)
  have Q2 := Lib.hid o2
  have HS := Lib.hid (fun w h => specGroupsOf_any u1 q1 a1 w h)
  rw [goB_congr a1 m2, goL_congr a1 m2] at HS
  clear b2 o2 m2
  go_wp2_with fail
  refine (HS.out _ Q2.out).mono ?_
  rintro e w3 ⟨sv, rfl, o3, b3⟩
  have C3 := Lib.hid (C2.out.trans (b3.mono C2.out.size))
  have S3 := Lib.hid o3
  clear b3 o3 HS Q2
  go_wp2_with fail
  refine (toGroupS_own v0 ps _ (G1.out.below C3.out)).mono ?_
  rintro e w4 ⟨u2, q2, rfl, o4, m4, b4, x4⟩
  have C4 := Lib.hid (C3.out.trans (b4.mono C3.out.size))
  have S4 := Lib.hid (S3.out.below b4)
  have Q4 := Lib.hid o4
  have X4 := Lib.hid x4
  have M4 := Lib.hid m4
  have z34 := b4.size
  clear b4 o4 m4 x4
  have HI := Lib.hid (fun w h => implGroupsOf_any u2 q2 a1 w h)
  rw [goB_congr a1 M4.out, goL_congr a1 M4.out] at HI
  go_wp2_with fail
  refine (HI.out _ Q4.out).mono ?_
  rintro e w5 ⟨gv, rfl, o5, b5⟩
  have C5 := Lib.hid (C4.out.trans (b5.mono C4.out.size))
  have S5 := Lib.hid (S4.out.below b5)
  have Q5 := Lib.hid (Q4.out.below b5)
  have X5 := Lib.hid (X4.out.below b5)
  have V5 := Lib.hid o5
  clear b5 o5 HI S4 Q4
  have HCL : Hid (∀ qs : List (Gr × Value), qs.map Prod.fst = ps.map Prod.fst → goL qs a1 = goL ps a1) := Lib.hid (fun qs h => goL_congr a1 h)
  have HCB : Hid (∀ qs : List (Gr × Value), qs.map Prod.fst = ps.map Prod.fst → goB qs a1 = goB ps a1) := Lib.hid (fun qs h => goB_congr a1 h)
  generalize goL ps a1 = L at *
  generalize goB ps a1 = fb at *
  go_wp2_with fail
  refine (eqS_below gv sv L _ V5.out.rd S5.out.rd).mono ?_
  rintro e w6 ⟨rfl, b6⟩
  have C6 := Lib.hid (C5.out.trans (b6.mono C5.out.size))
  have S6 := Lib.hid (S5.out.below b6)
  have Q6 := Lib.hid (Q5.out.below b6)
  have X6 := Lib.hid (X5.out.below b6)
  have V6 := Lib.hid (V5.out.below b6)
  clear b6 S5 Q5 X5
  go_wp2_with fail
  refine (toGroupS_any v0 ps _ (G1.out.below C6.out)).mono ?_
  rintro e w7 ⟨u3, q3, rfl, o7, m7, b7⟩
  have C7 := Lib.hid (C6.out.trans (b7.mono C6.out.size))
  have S7 := Lib.hid (S6.out.below b7)
  have Q7 := Lib.hid (Q6.out.below b7)
  have X7 := Lib.hid (X6.out.below b7)
  have V7 := Lib.hid (V6.out.below b7)
  have R7 := Lib.hid o7
  have M7 := Lib.hid m7
  clear b7 o7 m7 S6 Q6 X6 V6
  go_wp2_with fail
  refine (eqGroupS_any u2 u3 q2 q3 _ Q7.out R7.out (M7.out.trans M4.out.symm)).mono ?_
  rintro e w8 ⟨rfl, b8⟩
  have C8 := Lib.hid (C7.out.trans (b8.mono C7.out.size))
  have S8 := Lib.hid (S7.out.below b8)
  have X8 := Lib.hid (X7.out.below b8)
  have V8 := Lib.hid (V7.out.below b8)
  clear b8 S7 Q7 X7 V7 R7 M7
  have hq2 : q2.length ≤ 1048576 ∧ ∀ q ∈ q2, q.1.ms.length ≤ 1048576 := by
    have hm := M4.out
    have hl : q2.length = ps.length := by have := congrArg List.length hm; simpa using this
    refine ⟨by rw [hl]; exact HSm.out.1, fun q hq => ?_⟩
    have h1 : q.1 ∈ ps.map Prod.fst := by rw [← hm]; exact List.mem_map_of_mem hq
    obtain ⟨p, hp, e⟩ := List.mem_map.1 h1
    rw [← e]; exact (HSm.out.2 p hp).2
  have HMk := Lib.hid (markGroupS_any u2 q2 w3.heap.size w4.heap.size w8 X8.out hq2 (fun q hq g e => ((X4.out.inn q hq).lt g e).2) (X4.out.own.lt _ rfl).2)
  clear hq2
  go_wp2_with fail
  refine HMk.out.mono ?_
  rintro e w9 ⟨rk, rfl, hrk, ho⟩
  have hrk0 : ¬ rk < 0 := by omega
  have C9 : Hid (Below w1.heap.size w1 w9) := Lib.hid (C8.out.trans ((ho.below (by have := C8.out.size; have := X8.out.own.lt _ rfl; omega)).mono C3.out.size))
  have S9 : Hid (OwS w2.heap.size w9 sv L) := Lib.hid (owS_out S8.out ho (fun g e => .inl (S3.out.lt g e).2))
  have V9 : Hid (OwS w4.heap.size w9 gv L) := Lib.hid (owS_out V8.out ho (fun g e => .inr (V5.out.lt g e).1))
  clear ho HMk X4 X8 S8 V8 M4 C8 hrk
  go_wp2_with fail
  refine (eqS_below gv sv L _ V9.out.rd S9.out.rd).mono ?_
  rintro e w10 ⟨rfl, b10⟩
  have C10 := Lib.hid (C9.out.trans (b10.mono C9.out.size))
  have S10 := Lib.hid (S9.out.below b10)
  have V10 := Lib.hid (V9.out.below b10)
  clear b10 S9 V9 C9
  go_wp2_with fail
  refine (markS_any gv L 1 w4.heap.size _ V10.out (by omega) (by omega)).mono ?_
  rintro e w11 ⟨rfl, o11, g11⟩
  have C11 : Hid (Below w1.heap.size w1 w11) := Lib.hid (C10.out.grown g11 C10.out.size (fun k hk => by have := (V5.out.lt k hk).1; have := C4.out.size; omega))
  have S11 : Hid (OwS w2.heap.size w11 sv L) := Lib.hid (S10.out.grown g11 (own_apart (B := w4.heap.size) (fun k hk => by have := (S3.out.lt k hk).2; omega) (fun k hk => (V5.out.lt k hk).1)))
  have V11 := Lib.hid o11
  clear o11 g11 S10 V10 C10
  go_wp2_with fail
  refine (heldS_any gv L.length 1 _ V11.out.rd (by omega) (by omega)).mono ?_
  rintro e w12 ⟨rfl, b12⟩
  have C12 := Lib.hid (C11.out.trans (b12.mono C11.out.size))
  have S12 := Lib.hid (S11.out.below b12)
  have V12 := Lib.hid (V11.out.below b12)
  clear b12 S11 V11 C11
  go_wp2_with fail
  refine (toGroupS_any v0 ps _ (G1.out.below C12.out)).mono ?_
  rintro e w13 ⟨u4, q4, rfl, o13, m13, b13⟩
  have C13 := Lib.hid (C12.out.trans (b13.mono C12.out.size))
  have S13 := Lib.hid (S12.out.below b13)
  have V13 := Lib.hid (V12.out.below b13)
  have Q13 := Lib.hid o13
  have HJ := Lib.hid (fun w h => implGroupsOf_any u4 q4 a1 w h)
  rw [HCB.out q4 m13, HCL.out q4 m13] at HJ
  clear b13 o13 m13 S12 V12 C12
  go_wp2_with fail
  refine (HJ.out _ Q13.out).mono ?_
  rintro e w14 ⟨hv, rfl, o14, b14⟩
  have C14 := Lib.hid (C13.out.trans (b14.mono C13.out.size))
  have S14 := Lib.hid (S13.out.below b14)
  have V14 := Lib.hid (V13.out.below b14)
  have J14 := Lib.hid o14
  clear b14 o14 S13 V13 Q13 C13 HJ
  go_wp2_with fail
  refine (eqS_below hv sv L _ J14.out.rd S14.out.rd).mono ?_
  rintro e w15 ⟨rfl, b15⟩
  have C15 := Lib.hid (C14.out.trans (b15.mono C14.out.size))
  have V15 := Lib.hid (V14.out.below b15)
  clear b15 S14 V14 J14 C14
  go_wp2_with fail
  refine (heldS_any gv L.length 1 _ V15.out.rd (by omega) (by omega)).mono ?_
  rintro e w16 ⟨rfl, b16⟩
  have C16 := Lib.hid (C15.out.trans (b16.mono C15.out.size))
  clear b16 V15 C15
  go_wp2_with fail
  go_ret
  exact ⟨rfl, B1.out.trans (C16.out.mono B1.out.size)⟩

set_option maxRecDepth 100000 in
theorem lifted (os : Os) (started : os.Started) (H : Type) (enc : TypeId × Value → H) :
    ReturnsInHanded {} Tryd.checked os 4 .any (fun w args => (Rows.fnExactGroupsOfSpec.pre enc Tryd.prog Tryd.f4 Rows.fnExactGroupsOfRow.domain false w args ∧ laidMetH Tryd.prog Rows.fnExactGroupsOfRow.laid w) ∧ sizedMet enc Tryd.prog Tryd.f4 (OpenSpec.ofChange Rows.fnExactGroupsOfSpec) false w args) (Rows.fnExactGroupsOfSpec.post enc Tryd.prog Tryd.f4 false true false false) := by
  refine returnsInHanded_of_change_and (C := Tryd.checked) (X := fun w _ => laidMetH Tryd.prog Rows.fnExactGroupsOfRow.laid w) (fun _ _ _ hh h => h.of_heap hh) lk_own started (by kernel_rfl) Tryd.func4
    (ChangeSpec.witness_shaped (enc := enc) (C := Tryd.checked) (os := os) (X := fun w _ => laidMetH Tryd.prog Rows.fnExactGroupsOfRow.laid w) false (World.laidAll Tryd.prog os Rows.fnExactGroupsOfRow.laid) #[.slice none 0 0, .int .i64 0] 8 (World.laidAll_os _ _ _)
      (World.shaped_of_ZipB (by kernel_rfl) (by kernel_rfl)) (by kernel_rfl) (by kernel_rfl) (by kernel_rfl)
      (by rw [MakeChecks.laidMetH_plain _ _ _ (by kernel_rfl)]; exact laidMet_laidAll _ (by kernel_rfl) (by kernel_rfl))) ?_
  intro W base args ds gs before hval0 hW _ _ hL _
  have hval : ∀ (j : Nat) t v, Tryd.f4.params[j]? = some t → args[j]? = some v → Value.okWide Tryd.prog W .any base t v := hval0
  have hW' := hW
  obtain ⟨p, q, hA0, hV, rfl, _, _⟩ := hW
  have hA : DataW.TrodAll enc Tryd.prog W 0 (fun _ => true) true Tryd.f4.params.toList args.toList ds p := hA0
  rw [Tryd.params4] at hA hval
  obtain ⟨v0, vs0, d0, ds0, p0, q0, hargs, rfl, rfl, h0, r0⟩ := trodAll_cons hA
  obtain ⟨v1, vs1, d1, ds1, p1, q1, rfl, rfl, rfl, h1, r1⟩ := trodAll_cons r0
  obtain ⟨rfl, rfl, rfl⟩ := trodAll_nil r1
  obtain rfl : args = #[v0, v1] := by cases args; simp_all
  obtain ⟨rfl, rfl⟩ := trodVars_none hV
  clear hA0 hval0
  have x0 := open_argGr (hval 0 22 v0 rfl rfl) h0
  obtain ⟨a1, rfl, rfl, _, w1⟩ := open_int Tryd.underlying3 (hval 1 3 v1 rfl rfl) h1
  clear hL
  simp only [List.append_nil] at hW'
  refine (walk v0 a1 w1 W x0).mono fun e W' ⟨he, hb⟩ => ?_
  subst he
  exact ⟨_, rfl, post_law hW' rfl rfl (by kernel_rfl) rfl rfl rfl hb⟩

theorem over : Rows.fnExactGroupsOfRow.holds Tryd.pinned (OpenSpec.ofChange Rows.fnExactGroupsOfSpec) :=
  OpenClaim.holds_of_wide 4 Tryd.f4 rfl rfl rfl rfl rfl rfl rfl ⟨rfl, rfl, rfl, rfl, rfl⟩ rfl rfl rfl rfl rfl (by kernel_rfl) Tryd.func4 (by kernel_rfl)
    (of_decide_eq_true (by kernel_rfl)) (by unfold Func.isWrapper; first | (rw [if_pos (by decide +kernel)]; kernel_rfl) | (rw [if_neg (by decide +kernel)]; exact ⟨rfl, rfl⟩))
    (fun os started H enc _ => lifted os started H enc)

theorem proved : Rows.FnExactGroupsOfCardSaid :=
  Claim7.holds_tied_plain_at .later [] [.data, .pinned] true (true, "b2e278ea30f74ce604f22276bfbd046353fa084e12326d4878d4f3e9c6e9a6a2") false over (fun _ h => by cases h) (by kernel_rfl) (fun _ h => by cases h) fnExactGroupsOf_row_tie rfl ⟨rfl, rfl⟩ (by kernel_rfl) rfl
    (fun f fn hf hfn => by
      obtain rfl : f = 4 := Option.some.inj ((show Tryd.prog.funcNamed Rows.fnExactGroupsOfRow.func = some 4 by kernel_rfl).symm.trans hf) |>.symm
      obtain rfl : fn = Tryd.f4 := (Option.some.inj (Tryd.func4.symm.trans hfn)).symm
      exact ⟨by kernel_rfl, fun j t ht => by
        rw [Tryd.params4] at ht
        have hm : t ∈ [22, 3] := by simpa using Array.mem_of_getElem? ht
        have hall : ([22, 3].all fun u => !Tryd.prog.wantsStandIn u) = true := by kernel_rfl
        exact (show Tryd.prog.wantsStandIn t = false by simpa using List.all_eq_true.1 hall t hm)⟩)
    (by kernel_rfl)
#print axioms proved
end Go.Proofs.YtpgonlfaeejakaaDoor.FnExactGroupsOf
