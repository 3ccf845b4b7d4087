/- The law FnScriptParts: a repeated script has its items as many times, and scripts are equal up to their first difference. No condition. -/
import Derived.Test.YtbkkggbpekhenaaDoorSDraws
import Derived.Test.YtbkkggbpekhenaaDoorScrMath2
import Derived.Test.YtbkkggbpekhenaaDoorScr2
import Derived.Test.YtbkkggbpekhenaaDoorRsKit
import Derived.Test.YtbkkggbpekhenaaDoorRandKit
import Derived.Test.YtbkkggbpekhenaaDoorOpenY
import Derived.Test.YtbkkggbpekhenaaDoorLawKit
import Derived.Deep.CutBlock
import Derived.Deep.DeepCutAuto
namespace Go.Proofs.YtbkkggbpekhenaaDoor.FnScriptParts
open Go.ChangeShapes Go.WideShapes Go.ChangeAt Go.RowKit

set_option maxRecDepth 100000 in
set_option maxHeartbeats 16000000 in
theorem walk (v : Value) (w : World) (hx : ArgY w v) :
    Calls Tryd.prog 7 #[v] w fun e w' => e = .returned (.bool true) ∧ Below w.heap.size w w' := by
  obtain ⟨bs, hbs⟩ := hx
  by_cases hbig : 65536 < bs.length
  · go_enter Tryd.func7, Tryd.ntmps7
    go_wp2_with fail
    refine (rBig_any v bs w hbs).mono ?_
    rintro e w' ⟨rfl, rfl⟩
    go_wp2_with fail
    go_ret
    exact ⟨rfl, Below.refl _ _⟩
  have R0 := Lib.hid (hbs.1 (by omega))
  go_enter Tryd.func7, Tryd.ntmps7
  go_wp2_with fail
  refine (rBig_any v bs w hbs).mono ?_
  rintro e w' ⟨rfl, rfl⟩
  have B0 := Lib.hid (Below.refl w.heap.size w)
  go_wp2_with fail
  refine (drawRepeat_any v bs w R0.out).mono ?_
  rintro e w2 ⟨va, xs, t, rfl, oa, na, sa, b2⟩
  have R_2 := Lib.hid (R0.out.below b2)
  have B_2 := Lib.hid (B0.out.trans (b2.mono B0.out.size))
  have OA_2 := Lib.hid oa
  clear R0 B0 oa b2
  clear hbs hbig sa
  go_wp2_with fail
  refine (implRepeat_any va xs t _ OA_2.out.rd).mono ?_
  rintro e w3 ⟨u1, rfl, o1, b3⟩
  have R_3 := Lib.hid (R_2.out.below b3)
  have OA_3 := Lib.hid (OA_2.out.below b3)
  have B_3 := Lib.hid (B_2.out.trans (b3.mono B_2.out.size))
  have O1_3 := Lib.hid o1
  clear R_2 OA_2 B_2 o1 b3
  go_wp2_with fail
  refine (specRepeat_any va xs t _ OA_3.out.rd).mono ?_
  rintro e w4 ⟨u2, rfl, o2, b4⟩
  have R_4 := Lib.hid (R_3.out.below b4)
  have OA_4 := Lib.hid (OA_3.out.below b4)
  have O1_4 := Lib.hid (O1_3.out.below b4)
  have B_4 := Lib.hid (B_3.out.trans (b4.mono B_3.out.size))
  have O2_4 := Lib.hid o2
  clear R_3 OA_3 O1_3 B_3 o2 b4
  go_wp2_with fail
  refine (rSteps_same u1 u2 (repV xs t) _ O1_4.out.rd O2_4.out.rd).mono ?_
  rintro e w5 ⟨rfl, b5⟩
  have R_5 := Lib.hid (R_4.out.below b5)
  have OA_5 := Lib.hid (OA_4.out.below b5)
  have O1_5 := Lib.hid (O1_4.out.below b5)
  have O2_5 := Lib.hid (O2_4.out.below b5)
  have B_5 := Lib.hid (B_4.out.trans (b5.mono B_4.out.size))
  clear R_4 OA_4 O1_4 O2_4 B_4 b5
  clear O2_5
  have HF := Lib.hid (fun h => rep_facts (xs := xs) (t := t) h)
  have HS1 := Lib.hid (fun w h => implSent_any va xs w h)
  have HS2 := Lib.hid (fun w h => implSent_any u1 (repV xs t) w h)
  obtain ⟨pa, capa, ba, offa, rfl, hcapa, -, -⟩ := OA_5.out.rd.parts
  obtain ⟨p1, cap1, b1', off1, rfl, hcap1, -, -⟩ := O1_5.out.rd.parts
  generalize repB xs t = rb at *
  generalize repV xs t = ys at *
  go_upto_if 60 with (fail)
  go_cut [] (fun wx => Hid (Below w5.heap.size w5 wx))
  case first =>
    as_aux_lemma =>
    have BB := Lib.hid (Below.refl w5.heap.size w5)
    cases rb
    · go_wp2_with fail
      go_meet
      exact BB
    · obtain ⟨n, rfl, hn, hxl, f1, f2, f3, f4, f5, f6⟩ := HF.out rfl
      rw [f1] at HS1
      rw [f2] at HS2
      have F6 := Lib.hid f6
      clear HF f1 f2 f6
      generalize siL xs = L at *
      generalize siL ys = M at *
      have hml : n * L.length ≤ 900 := Nat.mul_le_mul hn f5
      have hyx : n * xs.length ≤ 900 := Nat.mul_le_mul hn hxl
      have e1 : IntKind.i64.wrap ((n : Int) * (L.length : Int)) = ((n * L.length : Nat) : Int) := by rw [← Int.natCast_mul, IntKind.wrap_i64]; omega
      have e2 : IntKind.i64.wrap ((n : Int) * (xs.length : Int)) = ((n * xs.length : Nat) : Int) := by rw [← Int.natCast_mul, IntKind.wrap_i64]; omega
      have q1 : (((M.length : Nat) : Int) != ((n * L.length : Nat) : Int)) = false := by rw [f4]; exact bne_self_eq_false _
      have q2 : (((ys.length : Nat) : Int) != ((n * xs.length : Nat) : Int)) = false := by rw [f3]; exact bne_self_eq_false _
      have q1' : (((M.length : Nat) : Int) != (n : Int) * (L.length : Int)) = false := by rw [f4, Int.natCast_mul]; exact bne_self_eq_false _
      have q2' : (((ys.length : Nat) : Int) != (n : Int) * (xs.length : Int)) = false := by rw [f3, Int.natCast_mul]; exact bne_self_eq_false _
      have F4 := Lib.hid f4
      have hM : M.length ≤ 900 := by rw [f4]; exact hml
      clear f3 f4
      go_wp2_with fail
      refine (HS1.out _ OA_5.out.rd).mono ?_
      rintro e m1 ⟨s1, rfl, o3, b3⟩
      have ON := Lib.hid (O1_5.out.below b3)
      have S1 := Lib.hid o3
      have BM1 := Lib.hid b3; clear o3 b3
      go_wp2_with fail
      refine (HS2.out _ ON.out.rd).mono ?_
      rintro e m2 ⟨s2, rfl, o4, b4⟩
      have S12 := Lib.hid (S1.out.below b4)
      have S2 := Lib.hid o4
      have BM2 := Lib.hid (BM1.out.trans (b4.mono BM1.out.size))
      clear o4 b4 S1 BM1 ON HS1 HS2 BB
      obtain ⟨r1, kap1, c1, of1, rfl, hkap1, hr1, hc1⟩ := S12.out.rd.parts
      obtain ⟨r2, kap2, c2, of2, rfl, hkap2, hr2, hc2⟩ := S2.out.rd.parts
      have HR1 := Lib.hid hr1; have HC1 := Lib.hid hc1; clear hr1 hc1
      have HR2 := Lib.hid hr2; have HC2 := Lib.hid hc2; clear hr2 hc2
      go_wp2_with fail
      go_loopw [13] (fun i wr => ∃ j k : Nat, j ≤ M.length ∧ i = .int .i64 j ∧ wr = m2.drewN k) (fun i _ => M.length - (intOf i).toNat)
      case atStart => exact ⟨0, 0, Nat.zero_le _, rfl, rfl⟩
      case round =>
        obtain ⟨j, k, hj, rfl, rfl⟩ := hrel
        by_cases hlt : j < M.length
        · obtain ⟨h2, h3⟩ := F6.out j hlt
          obtain rfl := HR1.out (by omega)
          obtain rfl := HR2.out (by omega)
          have d1 := HC1.out _ h2
          have d2 := HC2.out j hlt
          rw [h3] at d2
          generalize hr : j % L.length = r at *
          generalize L[r] = tx at *
          have t1 : Int.tmod (j : Int) (L.length : Int) = (r : Int) := by rw [← hr]; rfl
          have t2 : ¬ (L.length : Int) = 0 := by omega
          have t3 : IntKind.i64.wrap (r : Int) = (r : Int) := by rw [IntKind.wrap_i64]; omega
          have t4 : ((L.length : Int) == 0) = false := by rw [beq_eq_false_iff_ne]; exact t2
          clear hr h3
          go_wp2_with fail
          go_quiet (fail)
          go_wp2_with fail
          go_roundw
          case rel => exact ⟨j + 1, k + nq, by omega, by go_num, by simp⟩
          case measure => simp [intOf]; omega
        · go_wp2_with fail
          go_meet
          exact Lib.hid (BM2.out.trans ((below_eq ⟨k, rfl⟩).mono BM2.out.size))
  case rest =>
    as_aux_lemma =>
    have RC1 := Lib.hid (R_5.out.below hcut.out)
    have BC1 := Lib.hid (B_5.out.trans (hcut.out.mono B_5.out.size))
    clear hcut R_5 OA_5 O1_5 B_5 HF HS1 HS2
    generalize wc = wd1 at *
    go_wp2_with fail
    refine (drawDiff_any v bs _ RC1.out).mono ?_
    rintro e w6 ⟨va, vb, xs, ys, rfl, oa, ob, na, nb, sa, sb, b6⟩
    have R_6 := Lib.hid (RC1.out.below b6)
    have B_6 := Lib.hid (BC1.out.trans (b6.mono BC1.out.size))
    have OA_6 := Lib.hid oa
    have OB_6 := Lib.hid ob
    clear RC1 BC1 oa ob b6
    clear sa sb
    go_wp2_with fail
    refine (implDiff_any va vb xs ys _ OA_6.out.rd OB_6.out.rd).mono ?_
    rintro e w7 ⟨rfl, b7⟩
    have R_7 := Lib.hid (R_6.out.below b7)
    have OA_7 := Lib.hid (OA_6.out.below b7)
    have OB_7 := Lib.hid (OB_6.out.below b7)
    have B_7 := Lib.hid (B_6.out.trans (b7.mono B_6.out.size))
    clear R_6 OA_6 OB_6 B_6 b7
    have HQ := Lib.hid (fun w h h' => implDiff_any vb va ys xs w h h')
    rw [fdV_sym xs ys, fdB_sym xs ys] at HQ
    go_wp2_with fail
    refine (HQ.out _ OB_7.out.rd OA_7.out.rd).mono ?_
    rintro e w8 ⟨rfl, b8⟩
    have R_8 := Lib.hid (R_7.out.below b8)
    have OA_8 := Lib.hid (OA_7.out.below b8)
    have OB_8 := Lib.hid (OB_7.out.below b8)
    have B_8 := Lib.hid (B_7.out.trans (b8.mono B_7.out.size))
    clear R_7 OA_7 OB_7 B_7 b8
    clear HQ
    go_wp2_with fail
    refine (specDiff_any va vb xs ys _ OA_8.out.rd OB_8.out.rd).mono ?_
    rintro e w9 ⟨rfl, b9⟩
    have R_9 := Lib.hid (R_8.out.below b9)
    have OA_9 := Lib.hid (OA_8.out.below b9)
    have OB_9 := Lib.hid (OB_8.out.below b9)
    have B_9 := Lib.hid (B_8.out.trans (b9.mono B_8.out.size))
    clear R_8 OA_8 OB_8 B_8 b9
    have HF := Lib.hid (fun h => fd_facts (xs := xs) (ys := ys) h)
    obtain ⟨pa, capa, ba, offa, rfl, hcapa, hpa, hca⟩ := OA_9.out.rd.parts
    obtain ⟨pb, capb, bb, offb, rfl, hcapb, hpb, hcb⟩ := OB_9.out.rd.parts
    have HPa := Lib.hid hpa; have HCa := Lib.hid hca; clear hpa hca
    have HPb := Lib.hid hpb; have HCb := Lib.hid hcb; clear hpb hcb
    generalize fdB xs ys = fb at *
    generalize fdV xs ys = fv at *
    go_upto_region 24 with (fail)
    go_cut [187] (fun c wx => c = .bool false ∧ Hid (Below w9.heap.size w9 wx))
    case first =>
      as_aux_lemma =>
      cases fb
      · go_wp2_with fail
        go_quiet (fail)
        go_wp2_with fail
        go_meet
        exact ⟨rfl, Lib.hid (below_eq ⟨_, rfl⟩)⟩
      · obtain ⟨k, rfl, h1, h2, h3, h4⟩ := HF.out rfl
        clear HF
        have RA := Lib.hid (OA_9.out.rd.take k h1)
        have RB : Hid (RdSt w9 (.slice pb k capb) (xs.take k)) := Lib.hid (by rw [h3]; exact OB_9.out.rd.take k h2)
        have HR := Lib.hid (fun n => rSteps_q (.slice pa k capa) (.slice pb k capb) (xs.take k) (w9.drewN n) (RA.out.below (below_eq ⟨n, rfl⟩)) (RB.out.below (below_eq ⟨n, rfl⟩)))
        have HR2 := Lib.hid (fun n => (HR.out n).mono (fun e w' h => (⟨h.1, h.2.elim fun m hm => ⟨n + m, by rw [hm]; simp⟩⟩ : e = .returned (.bool true) ∧ ∃ m, w' = w9.drewN m)))
        clear HR RA RB h3
        by_cases ha : k < xs.length
        · by_cases hb : k < ys.length
          · have hne := h4 ha hb
            obtain rfl := HPa.out (by omega)
            obtain rfl := HPb.out (by omega)
            obtain ⟨c1, c2, c3⟩ := HCa.out k ha
            obtain ⟨d1, d2, d3⟩ := HCb.out k hb
            clear h4
            generalize xs[k] = x at *
            generalize ys[k] = y at *
            obtain ⟨a1, a2, a3⟩ := x
            obtain ⟨b1, b2, b3⟩ := y
            have HNe := Lib.hid hne; clear hne
            simp only at c1 c2 c3 d1 d2 d3
            have l1 : decide ((k : Int) < (xs.length : Int)) = true := decide_eq_true (by omega)
            have l2 : decide ((k : Int) < (ys.length : Int)) = true := decide_eq_true (by omega)
            by_cases q1 : a1 = b1
            · subst q1
              by_cases q2 : a2 = b2
              · subst q2
                have q3 : (a3.toList == b3.toList) = false := by
                  rw [beq_eq_false_iff_ne]
                  intro h
                  exact HNe.out (by rw [bytes_eq h])
                go_wp2_with fail
                go_quiet ((go_at_call 26; exact HR2.out _))
                go_wp2_with fail
                go_meet
                exact ⟨rfl, Lib.hid (below_eq ⟨_, rfl⟩)⟩
              · have q3 : (a2 == b2) = false := by rw [beq_eq_false_iff_ne]; exact q2
                go_wp2_with fail
                go_quiet ((go_at_call 26; exact HR2.out _))
                go_wp2_with fail
                go_meet
                exact ⟨rfl, Lib.hid (below_eq ⟨_, rfl⟩)⟩
            · have q3 : (a1 == b1) = false := by rw [beq_eq_false_iff_ne]; exact q1
              go_wp2_with fail
              go_quiet ((go_at_call 26; exact HR2.out _))
              go_wp2_with fail
              go_meet
              exact ⟨rfl, Lib.hid (below_eq ⟨_, rfl⟩)⟩
          · have l1 : decide ((k : Int) < (xs.length : Int)) = true := decide_eq_true (by omega)
            have l2 : decide ((k : Int) < (ys.length : Int)) = false := decide_eq_false (by omega)
            clear h4
            go_wp2_with fail
            go_quiet ((go_at_call 26; exact HR2.out _))
            go_wp2_with fail
            go_meet
            exact ⟨rfl, Lib.hid (below_eq ⟨_, rfl⟩)⟩
        · have l1 : decide ((k : Int) < (xs.length : Int)) = false := decide_eq_false (by omega)
          clear h4
          go_wp2_with fail
          go_quiet ((go_at_call 26; exact HR2.out _))
          go_wp2_with fail
          go_meet
          exact ⟨rfl, Lib.hid (below_eq ⟨_, rfl⟩)⟩
    case rest =>
      as_aux_lemma =>
      obtain ⟨rfl, hcut⟩ := hcut
      have RC2 := Lib.hid (R_9.out.below hcut.out)
      have BC2 := Lib.hid (B_9.out.trans (hcut.out.mono B_9.out.size))
      clear hcut R_9 OA_9 OB_9 B_9 HF HPa HCa HPb HCb
      generalize wc = wd2 at *
      go_wp2_with fail
      refine (drawCountSteps_any v bs _ RC2.out).mono ?_
      rintro e w10 ⟨vc, cs, rfl, oc, nc, sc, b10⟩
      have R_10 := Lib.hid (RC2.out.below b10)
      have B_10 := Lib.hid (BC2.out.trans (b10.mono BC2.out.size))
      have OC_10 := Lib.hid oc
      clear RC2 BC2 oc b10
      clear sc
      go_wp2_with fail
      refine (implCount_any vc cs _ OC_10.out.rd).mono ?_
      rintro e w11 ⟨u1, rfl, o1, b11⟩
      have R_11 := Lib.hid (R_10.out.below b11)
      have OC_11 := Lib.hid (OC_10.out.below b11)
      have B_11 := Lib.hid (B_10.out.trans (b11.mono B_10.out.size))
      have O1_11 := Lib.hid o1
      clear R_10 OC_10 B_10 o1 b11
      go_wp2_with fail
      refine (specCount_any vc cs _ OC_11.out.rd).mono ?_
      rintro e w12 ⟨u2, rfl, o2, b12⟩
      have R_12 := Lib.hid (R_11.out.below b12)
      have OC_12 := Lib.hid (OC_11.out.below b12)
      have O1_12 := Lib.hid (O1_11.out.below b12)
      have B_12 := Lib.hid (B_11.out.trans (b12.mono B_11.out.size))
      have O2_12 := Lib.hid o2
      clear R_11 OC_11 O1_11 B_11 o2 b12
      go_wp2_with fail
      refine (rInts_same u1 u2 (ccL cs) _ O1_12.out.rd O2_12.out.rd).mono ?_
      rintro e w13 ⟨rfl, b13⟩
      have R_13 := Lib.hid (R_12.out.below b13)
      have OC_13 := Lib.hid (OC_12.out.below b13)
      have O1_13 := Lib.hid (O1_12.out.below b13)
      have O2_13 := Lib.hid (O2_12.out.below b13)
      have B_13 := Lib.hid (B_12.out.trans (b13.mono B_12.out.size))
      clear R_12 OC_12 O1_12 O2_12 B_12 b13
      clear O1_13 O2_13 OC_13
      go_wp2_with fail
      refine (drawSentItems_any v bs _ R_13.out).mono ?_
      rintro e w14 ⟨vd, ds, rfl, od, nd, sd, b14⟩
      have R_14 := Lib.hid (R_13.out.below b14)
      have B_14 := Lib.hid (B_13.out.trans (b14.mono B_13.out.size))
      have OD_14 := Lib.hid od
      clear R_13 B_13 od b14
      clear sd
      go_wp2_with fail
      refine (implSent_any vd ds _ OD_14.out.rd).mono ?_
      rintro e w15 ⟨u3, rfl, o3, b15⟩
      have R_15 := Lib.hid (R_14.out.below b15)
      have OD_15 := Lib.hid (OD_14.out.below b15)
      have B_15 := Lib.hid (B_14.out.trans (b15.mono B_14.out.size))
      have O3_15 := Lib.hid o3
      clear R_14 OD_14 B_14 o3 b15
      go_wp2_with fail
      refine (specSent_any vd ds _ OD_15.out.rd).mono ?_
      rintro e w16 ⟨u4, rfl, o4, b16⟩
      have R_16 := Lib.hid (R_15.out.below b16)
      have OD_16 := Lib.hid (OD_15.out.below b16)
      have O3_16 := Lib.hid (O3_15.out.below b16)
      have B_16 := Lib.hid (B_15.out.trans (b16.mono B_15.out.size))
      have O4_16 := Lib.hid o4
      clear R_15 OD_15 O3_15 B_15 o4 b16
      go_wp2_with fail
      refine (rTexts_same u3 u4 (siL ds) _ O3_16.out.rd O4_16.out.rd).mono ?_
      rintro e w17 ⟨rfl, b17⟩
      have R_17 := Lib.hid (R_16.out.below b17)
      have OD_17 := Lib.hid (OD_16.out.below b17)
      have O3_17 := Lib.hid (O3_16.out.below b17)
      have O4_17 := Lib.hid (O4_16.out.below b17)
      have B_17 := Lib.hid (B_16.out.trans (b17.mono B_16.out.size))
      clear R_16 OD_16 O3_16 O4_16 B_16 b17
      go_wp2_with fail
      go_ret
      exact ⟨by simp, B_17.out⟩

set_option maxRecDepth 100000 in
theorem lifted (os : Os) (started : os.Started) (H : Type) (enc : TypeId × Value → H) :
    ReturnsInHanded {} Tryd.checked os 7 .any (fun w args => (Rows.fnScriptPartsSpec.pre enc Tryd.prog Tryd.f7 Rows.fnScriptPartsRow.domain false w args ∧ laidMetH Tryd.prog Rows.fnScriptPartsRow.laid w) ∧ sizedMet enc Tryd.prog Tryd.f7 (OpenSpec.ofChange Rows.fnScriptPartsSpec) false w args) (Rows.fnScriptPartsSpec.post enc Tryd.prog Tryd.f7 false true false false) := by
  refine returnsInHanded_of_change_and (C := Tryd.checked) (X := fun w _ => laidMetH Tryd.prog Rows.fnScriptPartsRow.laid w) (fun _ _ _ hh h => h.of_heap hh) lk_own started (by kernel_rfl) Tryd.func7
    (ChangeSpec.witness_shaped (enc := enc) (C := Tryd.checked) (os := os) (X := fun w _ => laidMetH Tryd.prog Rows.fnScriptPartsRow.laid w) false (World.laidAll Tryd.prog os Rows.fnScriptPartsRow.laid) #[.slice none 0 0] 8 (World.laidAll_os _ _ _)
      (World.shaped_of_ZipB (by kernel_rfl) (by kernel_rfl)) (by kernel_rfl) (by kernel_rfl) (by kernel_rfl)
      (by rw [MakeChecks.laidMetH_plain _ _ _ (by kernel_rfl)]; exact laidMet_laidAll _ (by kernel_rfl) (by kernel_rfl))) ?_
  intro W base args ds gs before hval0 hW _ _ hL _
  have hval : ∀ (j : Nat) t v, Tryd.f7.params[j]? = some t → args[j]? = some v → Value.okWide Tryd.prog W .any base t v := hval0
  have hW' := hW
  obtain ⟨p, q, hA0, hV, rfl, _, _⟩ := hW
  have hA : DataW.TrodAll enc Tryd.prog W 0 (fun _ => true) true Tryd.f7.params.toList args.toList ds p := hA0
  rw [Tryd.params7] at hA hval
  obtain ⟨v0, vs0, d0, ds0, p0, q0, hargs, rfl, rfl, h0, r0⟩ := trodAll_cons hA
  obtain ⟨rfl, rfl, rfl⟩ := trodAll_nil r0
  obtain rfl : args = #[v0] := by cases args; simp_all
  obtain ⟨rfl, rfl⟩ := trodVars_none hV
  clear hA0 hval0
  have x0 := open_argY (hval 0 43 v0 rfl rfl) h0
  clear hL
  simp only [List.append_nil] at hW'
  refine (walk v0 W x0).mono fun e W' ⟨he, hb⟩ => ?_
  subst he
  exact ⟨_, rfl, post_law hW' rfl rfl (by kernel_rfl) rfl rfl rfl hb⟩

theorem over : Rows.fnScriptPartsRow.holds Tryd.pinned (OpenSpec.ofChange Rows.fnScriptPartsSpec) :=
  OpenClaim.holds_of_wide 7 Tryd.f7 rfl rfl rfl rfl rfl rfl rfl ⟨rfl, rfl, rfl, rfl, rfl⟩ rfl rfl rfl rfl rfl (by kernel_rfl) Tryd.func7 (by kernel_rfl)
    (of_decide_eq_true (by kernel_rfl)) (by unfold Func.isWrapper; first | (rw [if_pos (by decide +kernel)]; kernel_rfl) | (rw [if_neg (by decide +kernel)]; exact ⟨rfl, rfl⟩))
    (fun os started H enc _ => lifted os started H enc)

theorem proved : Rows.FnScriptPartsCardSaid :=
  Claim7.holds_tied_plain_at .later [] [.data, .pinned] true (true, "fc821be837974ec5f1ca662dac0467716622c091e50e31810e4da288e54fd127") true over (fun _ h => by cases h) (by kernel_rfl) (fun _ h => by cases h) fnScriptParts_row_tie rfl ⟨rfl, rfl⟩ (by kernel_rfl) rfl
    (fun f fn hf hfn => by
      obtain rfl : f = 7 := Option.some.inj ((show Tryd.prog.funcNamed Rows.fnScriptPartsRow.func = some 7 by kernel_rfl).symm.trans hf) |>.symm
      obtain rfl : fn = Tryd.f7 := (Option.some.inj (Tryd.func7.symm.trans hfn)).symm
      exact ⟨by kernel_rfl, fun j t ht => by
        rw [Tryd.params7] at ht
        have hm : t ∈ [43] := by simpa using Array.mem_of_getElem? ht
        have hall : ([43].all fun u => !Tryd.prog.wantsStandIn u) = true := by kernel_rfl
        exact (show Tryd.prog.wantsStandIn t = false by simpa using List.all_eq_true.1 hall t hm)⟩)
    (by kernel_rfl)
#print axioms proved
end Go.Proofs.YtbkkggbpekhenaaDoor.FnScriptParts
