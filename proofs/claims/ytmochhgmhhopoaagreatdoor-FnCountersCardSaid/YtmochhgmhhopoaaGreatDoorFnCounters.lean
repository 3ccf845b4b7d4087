/- The law FnCounters: a bumped counter grows by just this, what is below a prefix and what is left add up to all, and counters are recovered from their texts; where the library's table of powers and its two errors hold what the library's text lays. -/
import Derived.Test.YtmochhgmhhopoaaGreatDoorKitC
import Derived.Test.YtmochhgmhhopoaaGreatDoorCnt18
import Derived.Test.YtmochhgmhhopoaaGreatDoorLawKit
import Derived.Deep.DeepCutAuto
namespace Go.Proofs.YtmochhgmhhopoaaGreatDoor.FnCounters
open Go.ChangeShapes Go.WideShapes Go.ChangeAt Go.RowKit

theorem text_back {xs : List Ct} (h : ctB xs = true) : pcI (ctxV xs) = some xs := by
  have e : ctxV xs = txN xs xs.length := by rw [ctxV, if_pos h]
  rw [e, pcI]
  split
  · rename_i h0
    match xs, h0 with
    | [], _ => rfl
    | x :: r, h0 =>
      exfalso
      have hl : ∀ n, n ≤ (x :: r).length → 0 < n → 0 < (txN (x :: r) n).size := by
        intro n hn hp
        have hx : ∀ y : Ct, 0 < (oneT y).size := fun y => by
          rw [oneT, ByteArray.size_append, ByteArray.size_append]
          have : (⟨#[61]⟩ : ByteArray).size = 1 := rfl
          omega
        obtain ⟨m, rfl⟩ : ∃ m, n = m + 1 := ⟨n - 1, by omega⟩
        rcases Nat.eq_zero_or_pos m with rfl | hm
        · rw [txN_one _ (by omega)]; exact hx _
        · rw [txN_succ _ m (by omega) hm, ByteArray.size_append]
          have := hx (x :: r)[m]
          omega
      have := hl (x :: r).length (Nat.le_refl _) (by simp)
      omega
  · rename_i h0
    exact (pcR_iff (fun x hx => rdI_one hx) h0 xs).2 ⟨h, rfl⟩
set_option maxRecDepth 100000 in
set_option maxHeartbeats 16000000 in
theorem walk (v : Value) (w : World) (hpow10 : PowAt w) (herrs : ErrAt w) (hx : ArgY w v) :
    Calls Tryz.prog 3 #[v] w fun e w' => e = .returned (.bool true) ∧ Below w.heap.size w w' := by
  obtain ⟨bs, hbs⟩ := hx
  by_cases hbig : 65536 < bs.length
  · go_enter Tryz.func3, Tryz.ntmps3
    go_wp2_with fail
    refine (rBig_any v bs w hbs).mono ?_
    rintro e w' ⟨rfl, rfl⟩
    go_wp2_with fail
    go_ret
    exact ⟨rfl, Below.refl _ _⟩
  have R0 := Lib.hid (hbs.1 (by omega))
  have HPw := Lib.hid hpow10; clear hpow10
  have HEr := Lib.hid herrs; clear herrs
  go_enter Tryz.func3, Tryz.ntmps3
  go_wp2_with fail
  refine (rBig_any v bs w hbs).mono ?_
  rintro e w' ⟨rfl, rfl⟩
  have B0 := Lib.hid (Below.refl w.heap.size w)
  go_wp2_with fail
  refine (drawBump_any v bs w R0.out).mono ?_
  rintro e w2 ⟨va, xs, nm, n, rfl, oa, na, hnm, b2⟩
  have R_2 := Lib.hid (R0.out.below b2)
  have B_2 := Lib.hid (B0.out.trans (b2.mono B0.out.size))
  have OA_2 := Lib.hid oa
  clear R0 B0 oa b2
  clear hbs hbig
  have NA := Lib.hid na; clear na
  go_wp2_with fail
  refine (implBump_any va xs nm n _ OA_2.out.rd NA.out.big (by omega)).mono ?_
  rintro e w3 ⟨u1, rfl, o1, b3⟩
  have R_3 := Lib.hid (R_2.out.below b3)
  have OA_3 := Lib.hid (OA_2.out.below b3)
  have B_3 := Lib.hid (B_2.out.trans (b3.mono B_2.out.size))
  have O1_3 := Lib.hid o1
  clear R_2 OA_2 B_2 o1 b3
  go_wp2_with fail
  refine (specBump_any va xs nm n _ OA_3.out.rd NA.out.big (by omega)).mono ?_
  rintro e w4 ⟨u2, rfl, o2, b4⟩
  have R_4 := Lib.hid (R_3.out.below b4)
  have OA_4 := Lib.hid (OA_3.out.below b4)
  have O1_4 := Lib.hid (O1_3.out.below b4)
  have B_4 := Lib.hid (B_3.out.trans (b4.mono B_3.out.size))
  have O2_4 := Lib.hid o2
  clear R_3 OA_3 O1_3 B_3 o2 b4
  go_wp2_with fail
  refine (rCounters_same u1 u2 (bcL xs nm n) _ O1_4.out.rd O2_4.out.rd).mono ?_
  rintro e w5 ⟨rfl, b5⟩
  have R_5 := Lib.hid (R_4.out.below b5)
  have OA_5 := Lib.hid (OA_4.out.below b5)
  have O1_5 := Lib.hid (O1_4.out.below b5)
  have O2_5 := Lib.hid (O2_4.out.below b5)
  have B_5 := Lib.hid (B_4.out.trans (b5.mono B_4.out.size))
  clear R_4 OA_4 O1_4 O2_4 B_4 b5
  clear O2_5
  have HF := Lib.hid (bump_facts (xs := xs) (s := nm) (n := n))
  have HNL := Lib.hid (NA.out.bc hnm n)
  generalize bcB xs nm n = ab at *
  go_upto_if 77 with (fail)
  go_cut [] (fun wx => Hid (Below w5.heap.size w5 wx))
  case first =>
    as_aux_lemma =>
    have BB := Lib.hid (Below.refl w5.heap.size w5)
    cases ab
    · go_wp2_with fail
      go_meet
      exact Lib.hid (Below.refl _ _)
    · skip
      obtain ⟨e, f2, f3, f4, f5, f6, f7, f8, ⟨r1, r2⟩, ⟨r3, r4⟩, ⟨r5, r6⟩, r7, r8⟩ := HF.out rfl
      clear HF
      rw [← e] at f2 f4 f5 f7 f8 r3 r4 r7 r8
      clear e
      generalize bcL xs nm n = L at *
      have H1 := Lib.hid (fun w h => implOf_any va xs nm w h NA.out.big (by omega))
      have H2 := Lib.hid (fun w h => implOf_any u1 L nm w h HNL.out.big (by omega))
      have H3 := Lib.hid (fun w h => implTot_any va xs ⟨#[]⟩ w h NA.out.big (by decide))
      have H4 := Lib.hid (fun w h => implTot_any u1 L ⟨#[]⟩ w h HNL.out.big (by decide))
      have H5 := Lib.hid (fun w h => implIs_any u1 L w h HNL.out.big)
      rw [f3] at H1
      rw [f4] at H2
      rw [f6] at H3
      rw [f7] at H4
      rw [f2] at H5
      generalize coV xs nm = x1 at *
      generalize coV L nm = x2 at *
      generalize toV xs ⟨#[]⟩ = y1 at *
      generalize toV L ⟨#[]⟩ = y2 at *
      clear f2 f3 f4 f6 f7
      subst f5
      go_wp2_with fail
      refine (H1.out _ OA_5.out.rd).mono ?_
      rintro e cw6 ⟨rfl, bc6⟩
      have R_c6 := Lib.hid (R_5.out.below bc6)
      have OA_c6 := Lib.hid (OA_5.out.below bc6)
      have O1_c6 := Lib.hid (O1_5.out.below bc6)
      have B_c6 := Lib.hid (BB.out.trans (bc6.mono BB.out.size))
      clear R_5 OA_5 O1_5 BB bc6
      go_wp2_with fail
      refine (H2.out _ O1_c6.out.rd).mono ?_
      rintro e cw7 ⟨rfl, bc7⟩
      have R_c7 := Lib.hid (R_c6.out.below bc7)
      have OA_c7 := Lib.hid (OA_c6.out.below bc7)
      have O1_c7 := Lib.hid (O1_c6.out.below bc7)
      have B_c7 := Lib.hid (B_c6.out.trans (bc7.mono B_c6.out.size))
      clear R_c6 OA_c6 O1_c6 B_c6 bc7
      go_wp2_with fail
      refine (H3.out _ OA_c7.out.rd).mono ?_
      rintro e cw8 ⟨rfl, bc8⟩
      have R_c8 := Lib.hid (R_c7.out.below bc8)
      have OA_c8 := Lib.hid (OA_c7.out.below bc8)
      have O1_c8 := Lib.hid (O1_c7.out.below bc8)
      have B_c8 := Lib.hid (B_c7.out.trans (bc8.mono B_c7.out.size))
      clear R_c7 OA_c7 O1_c7 B_c7 bc8
      go_wp2_with fail
      refine (H4.out _ O1_c8.out.rd).mono ?_
      rintro e cw9 ⟨rfl, bc9⟩
      have R_c9 := Lib.hid (R_c8.out.below bc9)
      have OA_c9 := Lib.hid (OA_c8.out.below bc9)
      have O1_c9 := Lib.hid (O1_c8.out.below bc9)
      have B_c9 := Lib.hid (B_c8.out.trans (bc9.mono B_c8.out.size))
      clear R_c8 OA_c8 O1_c8 B_c8 bc9
      clear H1 H2 H3 H4
      go_wp2_with fail
      refine (H5.out _ O1_c9.out.rd).mono ?_
      rintro e cw10 ⟨rfl, bc10⟩
      have R_c10 := Lib.hid (R_c9.out.below bc10)
      have OA_c10 := Lib.hid (OA_c9.out.below bc10)
      have O1_c10 := Lib.hid (O1_c9.out.below bc10)
      have B_c10 := Lib.hid (B_c9.out.trans (bc10.mono B_c9.out.size))
      clear R_c9 OA_c9 O1_c9 B_c9 bc10
      go_wp2_with fail
      go_meet
      exact B_c10
  case rest =>
    have RC := Lib.hid (R_5.out.below hcut.out)
    have BC := Lib.hid (B_5.out.trans (hcut.out.mono B_5.out.size))
    clear HF HNL hcut NA R_5 OA_5 O1_5 B_5
    go_wp2_with fail
    refine (drawDrop_any v bs _ RC.out).mono ?_
    rintro e w6 ⟨vl, ls, pr, rfl, ol, nl, hpr, b6⟩
    have R_6 := Lib.hid (RC.out.below b6)
    have B_6 := Lib.hid (BC.out.trans (b6.mono BC.out.size))
    have OL_6 := Lib.hid ol
    clear RC BC ol b6
    have NL := Lib.hid nl; clear nl
    go_wp2_with fail
    refine (implDrop_any vl ls pr _ OL_6.out.rd NL.out.big (by omega)).mono ?_
    rintro e w7 ⟨s1, rfl, q1, b7⟩
    have R_7 := Lib.hid (R_6.out.below b7)
    have OL_7 := Lib.hid (OL_6.out.below b7)
    have B_7 := Lib.hid (B_6.out.trans (b7.mono B_6.out.size))
    have S1_7 := Lib.hid q1
    clear R_6 OL_6 B_6 q1 b7
    go_wp2_with fail
    refine (specDrop_any vl ls pr _ OL_7.out.rd NL.out.big (by omega)).mono ?_
    rintro e w8 ⟨s2, rfl, q2, b8⟩
    have R_8 := Lib.hid (R_7.out.below b8)
    have OL_8 := Lib.hid (OL_7.out.below b8)
    have S1_8 := Lib.hid (S1_7.out.below b8)
    have B_8 := Lib.hid (B_7.out.trans (b8.mono B_7.out.size))
    have S2_8 := Lib.hid q2
    clear R_7 OL_7 S1_7 B_7 q2 b8
    go_wp2_with fail
    refine (rCounters_same s1 s2 (drL ls pr) _ S1_8.out.rd S2_8.out.rd).mono ?_
    rintro e w9 ⟨rfl, b9⟩
    have R_9 := Lib.hid (R_8.out.below b9)
    have OL_9 := Lib.hid (OL_8.out.below b9)
    have S1_9 := Lib.hid (S1_8.out.below b9)
    have S2_9 := Lib.hid (S2_8.out.below b9)
    have B_9 := Lib.hid (B_8.out.trans (b9.mono B_8.out.size))
    clear R_8 OL_8 S1_8 S2_8 B_8 b9
    clear S2_9
    have HF := Lib.hid (drop_facts (xs := ls) (s := pr))
    have HT1 := Lib.hid (fun w h => implTot_any vl ls pr w h NL.out.big (by omega))
    have HT2 := Lib.hid (fun w h => specTot_any vl ls pr w h NL.out.big (by omega))
    rw [show toB ls pr = drB ls pr from rfl] at HT1 HT2
    have HNL : Hid (Nms (drL ls pr)) := Lib.hid (fun x hx => by unfold drL at hx; split at hx; exact NL.out x (List.mem_filter.1 hx).1; cases hx)
    generalize drB ls pr = ab at *
    go_wp2_with fail
    refine (HT1.out _ OL_9.out.rd).mono ?_
    rintro e w10 ⟨rfl, b10⟩
    have R_10 := Lib.hid (R_9.out.below b10)
    have OL_10 := Lib.hid (OL_9.out.below b10)
    have S1_10 := Lib.hid (S1_9.out.below b10)
    have B_10 := Lib.hid (B_9.out.trans (b10.mono B_9.out.size))
    clear R_9 OL_9 S1_9 B_9 b10
    go_wp2_with fail
    refine (HT2.out _ OL_10.out.rd).mono ?_
    rintro e w11 ⟨rfl, b11⟩
    have R_11 := Lib.hid (R_10.out.below b11)
    have OL_11 := Lib.hid (OL_10.out.below b11)
    have S1_11 := Lib.hid (S1_10.out.below b11)
    have B_11 := Lib.hid (B_10.out.trans (b11.mono B_10.out.size))
    clear R_10 OL_10 S1_10 B_10 b11
    clear HT1 HT2
    go_upto_if 184 with (fail)
    go_cut [] (fun wx => Hid (Below w11.heap.size w11 wx))
    case first =>
      as_aux_lemma =>
      have BB := Lib.hid (Below.refl w11.heap.size w11)
      cases ab
      · go_wp2_with fail
        go_meet
        exact Lib.hid (Below.refl _ _)
      · skip
        obtain ⟨e, f2, f3, f4, f5, f6, ⟨r1, r2⟩, ⟨r3, r4⟩, r5, r6⟩ := HF.out rfl
        clear HF
        rw [← e] at f3 f4 f5 f6 r5 r6
        clear e
        generalize drL ls pr = L at *
        have H1 := Lib.hid (fun w h => implTot_any vl ls ⟨#[]⟩ w h NL.out.big (by decide))
        have H2 := Lib.hid (fun w h => implTot_any s1 L ⟨#[]⟩ w h HNL.out.big (by decide))
        have H3 := Lib.hid (fun w h => implTot_any s1 L pr w h HNL.out.big (by omega))
        rw [f2] at H1
        rw [f3] at H2
        rw [f4, f6] at H3
        generalize toV ls ⟨#[]⟩ = y1 at *
        generalize toV L ⟨#[]⟩ = y2 at *
        generalize toV ls pr = y3 at *
        clear f2 f3 f4 f6
        subst f5
        go_wp2_with fail
        refine (H1.out _ OL_11.out.rd).mono ?_
        rintro e dw12 ⟨rfl, bd12⟩
        have R_d12 := Lib.hid (R_11.out.below bd12)
        have OL_d12 := Lib.hid (OL_11.out.below bd12)
        have S1_d12 := Lib.hid (S1_11.out.below bd12)
        have B_d12 := Lib.hid (BB.out.trans (bd12.mono BB.out.size))
        clear R_11 OL_11 S1_11 BB bd12
        go_wp2_with fail
        refine (H2.out _ S1_d12.out.rd).mono ?_
        rintro e dw13 ⟨rfl, bd13⟩
        have R_d13 := Lib.hid (R_d12.out.below bd13)
        have OL_d13 := Lib.hid (OL_d12.out.below bd13)
        have S1_d13 := Lib.hid (S1_d12.out.below bd13)
        have B_d13 := Lib.hid (B_d12.out.trans (bd13.mono B_d12.out.size))
        clear R_d12 OL_d12 S1_d12 B_d12 bd13
        go_wp2_with fail
        refine (H3.out _ S1_d13.out.rd).mono ?_
        rintro e dw14 ⟨rfl, bd14⟩
        have R_d14 := Lib.hid (R_d13.out.below bd14)
        have OL_d14 := Lib.hid (OL_d13.out.below bd14)
        have S1_d14 := Lib.hid (S1_d13.out.below bd14)
        have B_d14 := Lib.hid (B_d13.out.trans (bd14.mono B_d13.out.size))
        clear R_d13 OL_d13 S1_d13 B_d13 bd14
        clear H1 H2 H3
        go_wp2_with fail
        go_meet
        exact B_d14
    case rest =>
      have RC := Lib.hid (R_11.out.below hcut.out)
      have BC := Lib.hid (B_11.out.trans (hcut.out.mono B_11.out.size))
      clear HF HNL hcut NL R_11 OL_11 S1_11 B_11
      go_wp2_with fail
      refine (drawText_any v bs _ RC.out).mono ?_
      rintro e w12 ⟨vt, ts, rfl, ot, nt, b12⟩
      have R_12 := Lib.hid (RC.out.below b12)
      have B_12 := Lib.hid (BC.out.trans (b12.mono BC.out.size))
      have OT_12 := Lib.hid ot
      clear RC BC ot b12
      have NT := Lib.hid nt; clear nt
      have hsz := ctxV_short ts
      have HI := Lib.hid (fun w h h2 => implText_any vt ts w h NT.out.big h2)
      have HS := Lib.hid (fun w h => specText_any vt ts w h NT.out.big)
      have HP := Lib.hid (fun w h1 h2 => implParse_any (ctxV ts) w (by omega) h1 h2)
      have HK := Lib.hid (text_back (xs := ts))
      generalize ctxV ts = t at *
      go_wp2_with fail
      refine (HI.out _ OT_12.out.rd (HPw.out.below B_12.out)).mono ?_
      rintro e w13 ⟨rfl, b13⟩
      have R_13 := Lib.hid (R_12.out.below b13)
      have OT_13 := Lib.hid (OT_12.out.below b13)
      have B_13 := Lib.hid (B_12.out.trans (b13.mono B_12.out.size))
      clear R_12 OT_12 B_12 b13
      go_wp2_with fail
      refine (HS.out _ OT_13.out.rd).mono ?_
      rintro e w14 ⟨rfl, b14⟩
      have R_14 := Lib.hid (R_13.out.below b14)
      have OT_14 := Lib.hid (OT_13.out.below b14)
      have B_14 := Lib.hid (B_13.out.trans (b14.mono B_13.out.size))
      clear R_13 OT_13 B_13 b14
      go_wp2_with fail
      refine (HP.out _ (HPw.out.below B_14.out) (HEr.out.below B_14.out)).mono ?_
      rintro e w15 ⟨u5, rfl, q5, b15⟩
      have R_15 := Lib.hid (R_14.out.below b15)
      have OT_15 := Lib.hid (OT_14.out.below b15)
      have B_15 := Lib.hid (B_14.out.trans (b15.mono B_14.out.size))
      have Q5_15 := Lib.hid q5
      clear R_14 OT_14 B_14 q5 b15
      clear HI HS HP NT
      generalize ctB ts = kb at *
      cases kb
      · skip
        clear OT_15 Q5_15
        clear HK
        go_wp2_with fail
        refine (drawParse_any v bs _ R_15.out).mono ?_
        rintro e ew16 ⟨pt, rfl, hpt, be16⟩
        have R_e16 := Lib.hid (R_15.out.below be16)
        have B_e16 := Lib.hid (B_15.out.trans (be16.mono B_15.out.size))
        clear R_15 B_15 be16
        have HP := Lib.hid (fun w h1 h2 => implParse_any pt w (by omega) h1 h2)
        have HS := Lib.hid (fun w => specParse_any pt w (by omega))
        generalize pcI pt = po at *
        go_wp2_with fail
        refine (HP.out _ (HPw.out.below B_e16.out) (HEr.out.below B_e16.out)).mono ?_
        rintro e ew17 ⟨u6, rfl, q6, be17⟩
        have R_e17 := Lib.hid (R_e16.out.below be17)
        have B_e17 := Lib.hid (B_e16.out.trans (be17.mono B_e16.out.size))
        have Q6_e17 := Lib.hid q6
        clear R_e16 B_e16 q6 be17
        go_wp2_with fail
        refine (HS.out _).mono ?_
        rintro e ew18 ⟨u7, rfl, q7, be18⟩
        have R_e18 := Lib.hid (R_e17.out.below be18)
        have Q6_e18 := Lib.hid (Q6_e17.out.below be18)
        have B_e18 := Lib.hid (B_e17.out.trans (be18.mono B_e17.out.size))
        have Q7_e18 := Lib.hid q7
        clear R_e17 Q6_e17 B_e17 q7 be18
        go_wp2_with fail
        refine (rCounters_same u6 u7 (po.getD []) _ Q6_e18.out.rd Q7_e18.out.rd).mono ?_
        rintro e ew19 ⟨rfl, be19⟩
        have R_e19 := Lib.hid (R_e18.out.below be19)
        have Q6_e19 := Lib.hid (Q6_e18.out.below be19)
        have Q7_e19 := Lib.hid (Q7_e18.out.below be19)
        have B_e19 := Lib.hid (B_e18.out.trans (be19.mono B_e18.out.size))
        clear R_e18 Q6_e18 Q7_e18 B_e18 be19
        go_wp2_with fail
        go_ret
        exact ⟨by simp, B_e19.out⟩
      · skip
        rw [HK.out rfl] at Q5_15
        rw [HK.out rfl]
        clear HK
        go_wp2_with fail
        refine (rCounters_same u5 vt ts _ Q5_15.out.rd OT_15.out.rd).mono ?_
        rintro e fw16 ⟨rfl, bf16⟩
        have R_f16 := Lib.hid (R_15.out.below bf16)
        have OT_f16 := Lib.hid (OT_15.out.below bf16)
        have Q5_f16 := Lib.hid (Q5_15.out.below bf16)
        have B_f16 := Lib.hid (B_15.out.trans (bf16.mono B_15.out.size))
        clear R_15 OT_15 Q5_15 B_15 bf16
        clear OT_f16 Q5_f16
        go_wp2_with fail
        refine (drawParse_any v bs _ R_f16.out).mono ?_
        rintro e fw17 ⟨pt, rfl, hpt, bf17⟩
        have R_f17 := Lib.hid (R_f16.out.below bf17)
        have B_f17 := Lib.hid (B_f16.out.trans (bf17.mono B_f16.out.size))
        clear R_f16 B_f16 bf17
        have HP := Lib.hid (fun w h1 h2 => implParse_any pt w (by omega) h1 h2)
        have HS := Lib.hid (fun w => specParse_any pt w (by omega))
        generalize pcI pt = po at *
        go_wp2_with fail
        refine (HP.out _ (HPw.out.below B_f17.out) (HEr.out.below B_f17.out)).mono ?_
        rintro e fw18 ⟨u6, rfl, q6, bf18⟩
        have R_f18 := Lib.hid (R_f17.out.below bf18)
        have B_f18 := Lib.hid (B_f17.out.trans (bf18.mono B_f17.out.size))
        have Q6_f18 := Lib.hid q6
        clear R_f17 B_f17 q6 bf18
        go_wp2_with fail
        refine (HS.out _).mono ?_
        rintro e fw19 ⟨u7, rfl, q7, bf19⟩
        have R_f19 := Lib.hid (R_f18.out.below bf19)
        have Q6_f19 := Lib.hid (Q6_f18.out.below bf19)
        have B_f19 := Lib.hid (B_f18.out.trans (bf19.mono B_f18.out.size))
        have Q7_f19 := Lib.hid q7
        clear R_f18 Q6_f18 B_f18 q7 bf19
        go_wp2_with fail
        refine (rCounters_same u6 u7 (po.getD []) _ Q6_f19.out.rd Q7_f19.out.rd).mono ?_
        rintro e fw20 ⟨rfl, bf20⟩
        have R_f20 := Lib.hid (R_f19.out.below bf20)
        have Q6_f20 := Lib.hid (Q6_f19.out.below bf20)
        have Q7_f20 := Lib.hid (Q7_f19.out.below bf20)
        have B_f20 := Lib.hid (B_f19.out.trans (bf20.mono B_f19.out.size))
        clear R_f19 Q6_f19 Q7_f19 B_f19 bf20
        go_wp2_with fail
        go_ret
        exact ⟨by simp, B_f20.out⟩

set_option maxRecDepth 100000 in
theorem lifted (os : Os) (started : os.Started) (H : Type) (enc : TypeId × Value → H) :
    ReturnsInHanded {} Tryz.checked os 3 .any (fun w args => (Rows.fnCountersSpec.pre enc Tryz.prog Tryz.f3 Rows.fnCountersRow.domain false w args ∧ laidMetH Tryz.prog Rows.fnCountersRow.laid w) ∧ sizedMet enc Tryz.prog Tryz.f3 (OpenSpec.ofChange Rows.fnCountersSpec) false w args) (Rows.fnCountersSpec.post enc Tryz.prog Tryz.f3 false true false false) := by
  refine returnsInHanded_of_change_and (C := Tryz.checked) (X := fun w _ => laidMetH Tryz.prog Rows.fnCountersRow.laid w) (fun _ _ _ hh h => h.of_heap hh) lk_own started (by kernel_rfl) Tryz.func3
    (ChangeSpec.witness_shaped (enc := enc) (C := Tryz.checked) (os := os) (X := fun w _ => laidMetH Tryz.prog Rows.fnCountersRow.laid w) false (World.laidAll Tryz.prog os Rows.fnCountersRow.laid) #[.slice none 0 0] 8 (World.laidAll_os _ _ _)
      (World.shaped_of_ZipB (by kernel_rfl) (by kernel_rfl)) (by kernel_rfl) (by kernel_rfl) (by kernel_rfl)
      (by rw [MakeChecks.laidMetH_plain _ _ _ (by kernel_rfl)]; exact laidMet_laidAll _ (by kernel_rfl) (by kernel_rfl))) ?_
  intro W base args ds gs before hval0 hW _ _ hL _
  have hval : ∀ (j : Nat) t v, Tryz.f3.params[j]? = some t → args[j]? = some v → Value.okWide Tryz.prog W .any base t v := hval0
  have hW' := hW
  obtain ⟨p, q, hA0, hV, rfl, _, _⟩ := hW
  have hA : DataW.TrodAll enc Tryz.prog W 0 (fun _ => true) true Tryz.f3.params.toList args.toList ds p := hA0
  rw [Tryz.params3] at hA hval
  obtain ⟨v0, vs0, d0, ds0, p0, q0, hargs, rfl, rfl, h0, r0⟩ := trodAll_cons hA
  obtain ⟨rfl, rfl, rfl⟩ := trodAll_nil r0
  obtain rfl : args = #[v0] := by cases args; simp_all
  obtain ⟨rfl, rfl⟩ := trodVars_none hV
  clear hA0 hval0
  have x0 := open_argY (hval 0 22 v0 rfl rfl) h0
  simp only [List.append_nil] at hW'
  have hL0 := hL
  rw [MakeChecks.laidMetH_plain _ _ _ (by kernel_rfl)] at hL0
  clear hL
  refine (walk (herrs := errs_of hL0 (by unfold Rows.fnCountersRow; refine ⟨?_, ?_⟩ <;> repeat (first | exact List.Mem.head _ | refine List.Mem.tail _ ?_))) (hpow10 := pow10_of hL0 (by unfold Rows.fnCountersRow; repeat (first | exact List.Mem.head _ | refine List.Mem.tail _ ?_))) v0 W x0).mono fun e W' ⟨he, hb⟩ => ?_
  subst he
  exact ⟨_, rfl, post_law hW' rfl rfl (by kernel_rfl) rfl rfl rfl hb⟩

theorem over : Rows.fnCountersRow.holds Tryz.pinned (OpenSpec.ofChange Rows.fnCountersSpec) :=
  OpenClaim.holds_of_wide 3 Tryz.f3 rfl rfl rfl rfl rfl rfl rfl ⟨rfl, rfl, rfl, rfl, rfl⟩ rfl rfl rfl rfl rfl (by kernel_rfl) Tryz.func3 (by kernel_rfl)
    (of_decide_eq_true (by kernel_rfl)) (by unfold Func.isWrapper; first | (rw [if_pos (by decide +kernel)]; kernel_rfl) | (rw [if_neg (by decide +kernel)]; exact ⟨rfl, rfl⟩))
    (fun os started H enc _ => lifted os started H enc)

theorem proved : Rows.FnCountersCardSaid :=
  Claim7.holds_tied_plain_at .later [] [.data, .data, .data, .data, .sentinel, .sentinel, .pinned] true (true, "f46d454e5e209856a572b808e42b1e20274b45a47db512cd16de9f6ab779f813") true over (fun _ h => by cases h) (by kernel_rfl) (fun _ h => by cases h) fnCounters_row_tie rfl ⟨rfl, rfl⟩ (by kernel_rfl) rfl
    (fun f fn hf hfn => by
      obtain rfl : f = 3 := Option.some.inj ((show Tryz.prog.funcNamed Rows.fnCountersRow.func = some 3 by kernel_rfl).symm.trans hf) |>.symm
      obtain rfl : fn = Tryz.f3 := (Option.some.inj (Tryz.func3.symm.trans hfn)).symm
      exact ⟨by kernel_rfl, fun j t ht => by
        rw [Tryz.params3] at ht
        have hm : t ∈ [22] := by simpa using Array.mem_of_getElem? ht
        have hall : ([22].all fun u => !Tryz.prog.wantsStandIn u) = true := by kernel_rfl
        exact (show Tryz.prog.wantsStandIn t = false by simpa using List.all_eq_true.1 hall t hm)⟩)
    (by kernel_rfl)
#print axioms proved
end Go.Proofs.YtmochhgmhhopoaaGreatDoor.FnCounters
