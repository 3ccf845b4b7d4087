/- The law FnCounterSums: counters that are added have the sums of their values, changes are those that grew, and the top counters are the greatest ones. No condition. -/
import Derived.Test.YtmochhgmhhopoaaDoorCtDraws
import Derived.Test.YtmochhgmhhopoaaDoorSumMath
import Derived.Test.YtmochhgmhhopoaaDoorRtKit
import Derived.Test.YtmochhgmhhopoaaDoorCnt14
import Derived.Test.YtmochhgmhhopoaaDoorOpenY
import Derived.Test.YtmochhgmhhopoaaDoorLawKit
import Derived.Deep.DeepCutAuto
namespace Go.Proofs.YtmochhgmhhopoaaDoor.FnCounterSums
open Go.ChangeShapes Go.WideShapes Go.ChangeAt Go.RowKit

/-- the bound of the value at a place of the top ones -/
def lastV (xs : List Ct) : Nat → Int
  | 0 => 1000000
  | k + 1 => tvl xs k
theorem owCt_lit0 (B : Nat) (w : World) (h : B ≤ w.heap.size) : OwCt B (w.alloc (.cells #[] 55)) (.slice (some ⟨w.heap.size, 0, none⟩) 0 0) [] := ⟨World.ownsRow_lit w #[] 0 h (Nat.zero_le _) rfl, by simp, by simp⟩
set_option maxRecDepth 100000 in
set_option maxHeartbeats 16000000 in
theorem walk (v : Value) (w : World) (hx : ArgY w v) :
    Calls Tryd.prog 13 #[v] w fun e w' => e = .returned (.bool true) ∧ Below w.heap.size w w' := by
  obtain ⟨bs, hbs⟩ := hx
  by_cases hbig : 65536 < bs.length
  · go_enter Tryd.func13, Tryd.ntmps13
    go_wp2_with fail
    refine (rBig_any v bs w hbs).mono ?_
    rintro e w' ⟨rfl, rfl⟩
    go_wp2_with fail
    go_ret
    exact ⟨rfl, Below.refl _ _⟩
  have R0 := Lib.hid (hbs.1 (by omega))
  go_enter Tryd.func13, Tryd.ntmps13
  go_wp2_with fail
  refine (rBig_any v bs w hbs).mono ?_
  rintro e w' ⟨rfl, rfl⟩
  have B0 := Lib.hid (Below.refl w.heap.size w)
  go_wp2_with fail
  refine (drawAdd_any v bs w R0.out).mono ?_
  rintro e w2 ⟨va, vb, xs, ys, rfl, oa, ob, na, nb, b2⟩
  have R_2 := Lib.hid (R0.out.below b2)
  have B_2 := Lib.hid (B0.out.trans (b2.mono B0.out.size))
  have OA_2 := Lib.hid oa
  have OB_2 := Lib.hid ob
  clear R0 B0 oa ob b2
  clear hbs hbig
  have NA := Lib.hid na; have NB := Lib.hid nb; clear na nb
  go_wp2_with fail
  refine (implAdd_any va vb xs ys _ OA_2.out.rd OB_2.out.rd NA.out.big NB.out.big).mono ?_
  rintro e w3 ⟨u1, rfl, o1, b3⟩
  have R_3 := Lib.hid (R_2.out.below b3)
  have OA_3 := Lib.hid (OA_2.out.below b3)
  have OB_3 := Lib.hid (OB_2.out.below b3)
  have B_3 := Lib.hid (B_2.out.trans (b3.mono B_2.out.size))
  have O1_3 := Lib.hid o1
  clear R_2 OA_2 OB_2 B_2 o1 b3
  go_wp2_with fail
  refine (specAdd_any va vb xs ys _ OA_3.out.rd OB_3.out.rd NA.out.big NB.out.big).mono ?_
  rintro e w4 ⟨u2, rfl, o2, b4⟩
  have R_4 := Lib.hid (R_3.out.below b4)
  have OA_4 := Lib.hid (OA_3.out.below b4)
  have OB_4 := Lib.hid (OB_3.out.below b4)
  have O1_4 := Lib.hid (O1_3.out.below b4)
  have B_4 := Lib.hid (B_3.out.trans (b4.mono B_3.out.size))
  have O2_4 := Lib.hid o2
  clear R_3 OA_3 OB_3 O1_3 B_3 o2 b4
  go_wp2_with fail
  refine (rCounters_same u1 u2 (adL xs ys) _ O1_4.out.rd O2_4.out.rd).mono ?_
  rintro e w5 ⟨rfl, b5⟩
  have R_5 := Lib.hid (R_4.out.below b5)
  have OA_5 := Lib.hid (OA_4.out.below b5)
  have OB_5 := Lib.hid (OB_4.out.below b5)
  have O1_5 := Lib.hid (O1_4.out.below b5)
  have O2_5 := Lib.hid (O2_4.out.below b5)
  have B_5 := Lib.hid (B_4.out.trans (b5.mono B_4.out.size))
  clear R_4 OA_4 OB_4 O1_4 O2_4 B_4 b5
  clear O2_5
  have HF := Lib.hid (add_facts (xs := xs) (ys := ys))
  generalize adB xs ys = ab at *
  go_upto_if 68 with (fail)
  go_cut [] (fun wx => Hid (Below w5.heap.size w5 wx))
  case first =>
    as_aux_lemma =>
    have BB := Lib.hid (Below.refl w5.heap.size w5)
    have hNL : ab = true → Nms (adL xs ys) := fun h x hx => by have := (nameB_size (ctB_nms (HF.out h).2.2.1 hx)); omega
    have HNL := Lib.hid hNL; clear hNL
    cases ab
    · go_wp2_with fail
      go_meet
      exact Lib.hid (Below.refl _ _)
    · skip
      obtain ⟨fA, fB, fC, fD, fE⟩ := HF.out rfl
      have hNL := HNL.out rfl
      have FD := Lib.hid fD
      have FE := Lib.hid fE
      have NL := Lib.hid hNL
      clear HF HNL hNL fC fD fE
      generalize adL xs ys = L at *
      have hLl := O1_5.out.2.1
      obtain ⟨p1, cap1, g1, off1, rfl, hcap1, hp1, hc1⟩ := O1_5.out.rd.parts
      have HP := Lib.hid hp1; have HC := Lib.hid hc1; clear hp1 hc1
      go_wp2
      go_loopw [9, 10, 11, 12, 13] (fun i _ _ _ _ wr => ∃ k : Nat, k ≤ L.length ∧ i = .int .i64 k ∧ Hid (Below w5.heap.size w5 wr)) (fun i _ _ _ _ _ => L.length - (intOf i).toNat)
      case atStart => exact ⟨0, Nat.zero_le _, rfl, BB⟩
      case round =>
        obtain ⟨k, hk, rfl, HB⟩ := hrel
        clear BB
        by_cases hlt : k < L.length
        · obtain rfl := HP.out (by omega)
          obtain ⟨c1, c2⟩ := HC.out k hlt
          have c1 := cell_on HB.out c1
          have c2 := cell_on HB.out c2
          obtain ⟨d1, d2, d3, d4, d5, d6, d7⟩ := FD.out k hlt
          have hnm := NL.out _ (List.getElem_mem hlt)
          have HA := Lib.hid (fun w h => implOf_any va xs L[k].nm w h NA.out.big (by omega))
          have HB2 := Lib.hid (fun w h => implOf_any vb ys L[k].nm w h NB.out.big (by omega))
          rw [d1] at HA
          rw [d2] at HB2
          rw [← d3] at c2
          generalize coV xs L[k].nm = x1 at *
          generalize coV ys L[k].nm = y1 at *
          generalize L[k].nm = nm at *
          clear d1 d2 d3
          have OAr := Lib.hid (OA_5.out.below HB.out)
          have OBr := Lib.hid (OB_5.out.below HB.out)
          go_wp2_with fail
          refine (HA.out _ OAr.out.rd).mono ?_
          rintro e dw1 ⟨rfl, bd1⟩
          have c1 := cell_on bd1 c1
          have c2 := cell_on bd1 c2
          have OA_d1 := Lib.hid (OAr.out.below bd1)
          have OB_d1 := Lib.hid (OBr.out.below bd1)
          have B_d1 := Lib.hid (HB.out.trans (bd1.mono HB.out.size))
          clear OAr OBr HB bd1
          go_wp2_with fail
          refine (HB2.out _ OB_d1.out.rd).mono ?_
          rintro e dw2 ⟨rfl, bd2⟩
          have c1 := cell_on bd2 c1
          have c2 := cell_on bd2 c2
          have OA_d2 := Lib.hid (OA_d1.out.below bd2)
          have OB_d2 := Lib.hid (OB_d1.out.below bd2)
          have B_d2 := Lib.hid (B_d1.out.trans (bd2.mono B_d1.out.size))
          clear OA_d1 OB_d1 B_d1 bd2
          go_wp2
          go_roundw
          case rel => exact ⟨k + 1, by omega, by go_num, B_d2⟩
          case measure => simp [intOf]; omega
        · skip
          clear HP HC FD
          have OAr := Lib.hid (OA_5.out.below HB.out)
          have OBr := Lib.hid (OB_5.out.below HB.out)
          have O1r := Lib.hid (O1_5.out.below HB.out)
          have HQ := Lib.hid (fun w h h' => implChg_any va (.slice p1 L.length cap1) xs L w h h' NA.out.big NL.out.big)
          have HQ2 := Lib.hid (fun w v h h' => implChg_any v vb [] ys w h h' (by simp) NB.out.big)
          rw [fA, FE.out] at HQ
          rw [fB] at HQ2
          have hok := NB.out.big
          generalize chL [] ys = cs at *
          go_wp2_with fail
          refine (HQ.out _ OAr.out.rd O1r.out.rd).mono ?_
          rintro e fw1 ⟨s1, rfl, q1, bf1⟩
          have OA_f1 := Lib.hid (OAr.out.below bf1)
          have OB_f1 := Lib.hid (OBr.out.below bf1)
          have O1_f1 := Lib.hid (O1r.out.below bf1)
          have B_f1 := Lib.hid (HB.out.trans (bf1.mono HB.out.size))
          have S1_f1 := Lib.hid q1
          clear OAr OBr O1r HB q1 bf1
          have HE := Lib.hid (owCt_lit0 0 fw1 (Nat.zero_le _))
          go_wp2_with fail
          refine (HQ2.out _ _ HE.out.rd (OB_f1.out.below (below_alloc1 _ _)).rd).mono ?_
          rintro e fw2 ⟨s2, rfl, q2, bf2⟩
          have bf2a : Below fw1.heap.size fw1 fw2 := Below.trans (by go_grown) (bf2.mono (by simp <;> omega))
          have OA_f2 := Lib.hid (OA_f1.out.below bf2a)
          have OB_f2 := Lib.hid (OB_f1.out.below bf2a)
          have O1_f2 := Lib.hid (O1_f1.out.below bf2a)
          have S1_f2 := Lib.hid (S1_f1.out.below bf2a)
          have B_f2 := Lib.hid (B_f1.out.trans (bf2a.mono B_f1.out.size))
          have S2_f2 := Lib.hid q2
          clear OA_f1 OB_f1 O1_f1 S1_f1 B_f1 q2 bf2 bf2a
          go_wp2_with fail
          refine (rTexts_same s1 s2 cs _ S1_f2.out.rd S2_f2.out.rd).mono ?_
          rintro e fw3 ⟨rfl, bf3⟩
          have OA_f3 := Lib.hid (OA_f2.out.below bf3)
          have OB_f3 := Lib.hid (OB_f2.out.below bf3)
          have O1_f3 := Lib.hid (O1_f2.out.below bf3)
          have S1_f3 := Lib.hid (S1_f2.out.below bf3)
          have S2_f3 := Lib.hid (S2_f2.out.below bf3)
          have B_f3 := Lib.hid (B_f2.out.trans (bf3.mono B_f2.out.size))
          clear OA_f2 OB_f2 O1_f2 S1_f2 S2_f2 B_f2 bf3
          go_wp2_with fail
          go_meet
          exact B_f3
  case rest =>
    have RC := Lib.hid (R_5.out.below hcut.out)
    have BC := Lib.hid (B_5.out.trans (hcut.out.mono B_5.out.size))
    clear HF hcut NA NB R_5 OA_5 OB_5 O1_5 B_5
    go_wp2_with fail
    refine (drawChg_any v bs _ RC.out).mono ?_
    rintro e w6 ⟨vx, vy, fs, gs, rfl, ox, oy, nx, ny, b6⟩
    have R_6 := Lib.hid (RC.out.below b6)
    have B_6 := Lib.hid (BC.out.trans (b6.mono BC.out.size))
    have OX_6 := Lib.hid ox
    have OY_6 := Lib.hid oy
    clear RC BC ox oy b6
    have NX := Lib.hid nx; have NY := Lib.hid ny; clear nx ny
    go_wp2_with fail
    refine (implChg_any vx vy fs gs _ OX_6.out.rd OY_6.out.rd NX.out.big NY.out.big).mono ?_
    rintro e w7 ⟨s1, rfl, q1, b7⟩
    have R_7 := Lib.hid (R_6.out.below b7)
    have OX_7 := Lib.hid (OX_6.out.below b7)
    have OY_7 := Lib.hid (OY_6.out.below b7)
    have B_7 := Lib.hid (B_6.out.trans (b7.mono B_6.out.size))
    have S1_7 := Lib.hid q1
    clear R_6 OX_6 OY_6 B_6 q1 b7
    go_wp2_with fail
    refine (specChg_any vx vy fs gs _ OX_7.out.rd OY_7.out.rd NX.out.big NY.out.big).mono ?_
    rintro e w8 ⟨s2, rfl, q2, b8⟩
    have R_8 := Lib.hid (R_7.out.below b8)
    have OX_8 := Lib.hid (OX_7.out.below b8)
    have OY_8 := Lib.hid (OY_7.out.below b8)
    have S1_8 := Lib.hid (S1_7.out.below b8)
    have B_8 := Lib.hid (B_7.out.trans (b8.mono B_7.out.size))
    have S2_8 := Lib.hid q2
    clear R_7 OX_7 OY_7 S1_7 B_7 q2 b8
    go_wp2_with fail
    refine (rTexts_same s1 s2 (chL fs gs) _ S1_8.out.rd S2_8.out.rd).mono ?_
    rintro e w9 ⟨rfl, b9⟩
    have R_9 := Lib.hid (R_8.out.below b9)
    have OX_9 := Lib.hid (OX_8.out.below b9)
    have OY_9 := Lib.hid (OY_8.out.below b9)
    have S1_9 := Lib.hid (S1_8.out.below b9)
    have S2_9 := Lib.hid (S2_8.out.below b9)
    have B_9 := Lib.hid (B_8.out.trans (b9.mono B_8.out.size))
    clear R_8 OX_8 OY_8 S1_8 S2_8 B_8 b9
    clear S1_9 S2_9 OX_9 OY_9
    clear NX NY
    go_wp2_with fail
    refine (drawTop_any v bs _ R_9.out).mono ?_
    rintro e w10 ⟨vl, ls, n, rfl, ol, nl, b10⟩
    have R_10 := Lib.hid (R_9.out.below b10)
    have B_10 := Lib.hid (B_9.out.trans (b10.mono B_9.out.size))
    have OL_10 := Lib.hid ol
    clear R_9 B_9 ol b10
    have NL := Lib.hid nl; clear nl
    go_wp2_with fail
    refine (implTop_any vl ls n _ OL_10.out.rd NL.out.big).mono ?_
    rintro e w11 ⟨t1, rfl, q1, b11⟩
    have R_11 := Lib.hid (R_10.out.below b11)
    have OL_11 := Lib.hid (OL_10.out.below b11)
    have B_11 := Lib.hid (B_10.out.trans (b11.mono B_10.out.size))
    have T1_11 := Lib.hid q1
    clear R_10 OL_10 B_10 q1 b11
    go_wp2_with fail
    refine (specTop_any vl ls n _ OL_11.out.rd NL.out.big).mono ?_
    rintro e w12 ⟨t2, rfl, q2, b12⟩
    have R_12 := Lib.hid (R_11.out.below b12)
    have OL_12 := Lib.hid (OL_11.out.below b12)
    have T1_12 := Lib.hid (T1_11.out.below b12)
    have B_12 := Lib.hid (B_11.out.trans (b12.mono B_11.out.size))
    have T2_12 := Lib.hid q2
    clear R_11 OL_11 T1_11 B_11 q2 b12
    go_wp2_with fail
    refine (rTexts_same t1 t2 (topL ls n) _ T1_12.out.rd T2_12.out.rd).mono ?_
    rintro e w13 ⟨rfl, b13⟩
    have R_13 := Lib.hid (R_12.out.below b13)
    have OL_13 := Lib.hid (OL_12.out.below b13)
    have T1_13 := Lib.hid (T1_12.out.below b13)
    have T2_13 := Lib.hid (T2_12.out.below b13)
    have B_13 := Lib.hid (B_12.out.trans (b13.mono B_12.out.size))
    clear R_12 OL_12 T1_12 T2_12 B_12 b13
    clear T2_13
    have HF := Lib.hid (top_facts (xs := ls) (n := n))
    generalize topB ls n = tb at *
    go_upto_if 188 with (fail)
    go_cut [] (fun wx => Hid (Below w13.heap.size w13 wx))
    case first =>
      as_aux_lemma =>
      have BB := Lib.hid (Below.refl w13.heap.size w13)
      cases tb
      · go_wp2_with fail
        go_meet
        exact Lib.hid (Below.refl _ _)
      · skip
        obtain ⟨f1, f2, f3, f4⟩ := HF.out rfl
        have F4 := Lib.hid f4
        clear HF f4
        have hTL : ∀ x ∈ topL ls n, x.size ≤ 1048576 := fun x hx => by obtain ⟨i, hi, rfl⟩ := List.getElem_of_mem hx; have h1 := (F4.out i hi).1; rw [coB, Bool.and_eq_true] at h1; have := nameB_size h1.2; omega
        have HTL := Lib.hid hTL; clear hTL
        generalize topL ls n = L at *
        have hLl := T1_13.out.2.1
        obtain ⟨p1, cap1, g1, off1, rfl, hcap1, hp1, hc1⟩ := T1_13.out.rd.parts
        obtain ⟨p2, cap2, g2, off2, rfl, hcap2, _, _⟩ := OL_13.out.rd.parts
        have HP := Lib.hid hp1; have HC := Lib.hid hc1; clear hp1 hc1
        go_wp2
        go_loopw [30, 31, 32, 33] (fun l i _ _ wr => ∃ k : Nat, k ≤ L.length ∧ i = .int .i64 k ∧ l = .int .i64 (lastV ls k) ∧ Hid (Below w13.heap.size w13 wr)) (fun _ i _ _ _ => L.length - (intOf i).toNat)
        case atStart => exact ⟨0, Nat.zero_le _, rfl, rfl, BB⟩
        case round =>
          obtain ⟨k, hk, rfl, rfl, HB⟩ := hrel
          clear BB
          by_cases hlt : k < L.length
          · obtain rfl := HP.out (by omega)
            have c1 := HC.out k hlt
            have c1 := cell_on HB.out c1
            obtain ⟨d1, d2, d3, d4⟩ := F4.out k hlt
            have hnm := HTL.out _ (List.getElem_mem hlt)
            have hle : tvl ls k ≤ lastV ls k := by
              cases k with
              | zero => exact d3
              | succ j => exact d4 j rfl
            have HN : Hid (lastV ls (k + 1) = tvl ls k) := Lib.hid rfl
            have HA := Lib.hid (fun w h => implOf_any (.slice p2 ls.length cap2) ls L[k] w h NL.out.big (by omega))
            rw [d1, d2] at HA
            generalize L[k] = nm at *
            generalize tvl ls k = tv at *
            generalize lastV ls k = lv at *
            clear d1 d2 d3 d4
            have OLr := Lib.hid (OL_13.out.below HB.out)
            go_wp2_with fail
            refine (HA.out _ OLr.out.rd).mono ?_
            rintro e dw1 ⟨rfl, bd1⟩
            have HB1 := Lib.hid (HB.out.trans (bd1.mono HB.out.size))
            clear bd1 OLr
            go_wp2
            go_roundw
            case rel => exact ⟨k + 1, by omega, by go_num, by rw [HN.out], HB1⟩
            case measure => simp [intOf]; omega
          · clear HP HC F4 HTL
            by_cases hn : (L.length : Int) < n
            · have hq1 : (((L.length : Nat) : Int) != ((ls.length : Nat) : Int)) = false := by rw [f2 hn]; exact bne_self_eq_false _
              clear f2
              go_wp2_with fail
              all_goals first | (go_meet; exact HB) | (exfalso; rename_i hh; rw [hq1] at hh; first | omega | (rcases hh with hh | hh <;> first | omega | cases hh))
            · clear f2
              go_wp2_with fail
              go_meet
              exact HB
    case rest =>
      have RC := Lib.hid (R_13.out.below hcut.out)
      have BC := Lib.hid (B_13.out.trans (hcut.out.mono B_13.out.size))
      clear HF hcut NL R_13 OL_13 T1_13 B_13
      go_wp2_with fail
      refine (drawOf_any v bs _ RC.out).mono ?_
      rintro e w14 ⟨vu, us, nm, rfl, ou, nu, hnm, b14⟩
      have R_14 := Lib.hid (RC.out.below b14)
      have B_14 := Lib.hid (BC.out.trans (b14.mono BC.out.size))
      have OU_14 := Lib.hid ou
      clear RC BC ou b14
      have NU := Lib.hid nu; clear nu
      go_wp2_with fail
      refine (implOf_any vu us nm _ OU_14.out.rd NU.out.big (by omega)).mono ?_
      rintro e w15 ⟨rfl, b15⟩
      have R_15 := Lib.hid (R_14.out.below b15)
      have OU_15 := Lib.hid (OU_14.out.below b15)
      have B_15 := Lib.hid (B_14.out.trans (b15.mono B_14.out.size))
      clear R_14 OU_14 B_14 b15
      go_wp2_with fail
      refine (specOf_any vu us nm _ OU_15.out.rd NU.out.big (by omega)).mono ?_
      rintro e w16 ⟨rfl, b16⟩
      have R_16 := Lib.hid (R_15.out.below b16)
      have OU_16 := Lib.hid (OU_15.out.below b16)
      have B_16 := Lib.hid (B_15.out.trans (b16.mono B_15.out.size))
      clear R_15 OU_15 B_15 b16
      go_wp2_with fail
      go_ret
      exact ⟨by simp, B_16.out⟩

set_option maxRecDepth 100000 in
theorem lifted (os : Os) (started : os.Started) (H : Type) (enc : TypeId × Value → H) :
    ReturnsInHanded {} Tryd.checked os 13 .any (fun w args => (Rows.fnCounterSumsSpec.pre enc Tryd.prog Tryd.f13 Rows.fnCounterSumsRow.domain false w args ∧ laidMetH Tryd.prog Rows.fnCounterSumsRow.laid w) ∧ sizedMet enc Tryd.prog Tryd.f13 (OpenSpec.ofChange Rows.fnCounterSumsSpec) false w args) (Rows.fnCounterSumsSpec.post enc Tryd.prog Tryd.f13 false true false false) := by
  refine returnsInHanded_of_change_and (C := Tryd.checked) (X := fun w _ => laidMetH Tryd.prog Rows.fnCounterSumsRow.laid w) (fun _ _ _ hh h => h.of_heap hh) lk_own started (by kernel_rfl) Tryd.func13
    (ChangeSpec.witness_shaped (enc := enc) (C := Tryd.checked) (os := os) (X := fun w _ => laidMetH Tryd.prog Rows.fnCounterSumsRow.laid w) false (World.laidAll Tryd.prog os Rows.fnCounterSumsRow.laid) #[.slice none 0 0] 8 (World.laidAll_os _ _ _)
      (World.shaped_of_ZipB (by kernel_rfl) (by kernel_rfl)) (by kernel_rfl) (by kernel_rfl) (by kernel_rfl)
      (by rw [MakeChecks.laidMetH_plain _ _ _ (by kernel_rfl)]; exact laidMet_laidAll _ (by kernel_rfl) (by kernel_rfl))) ?_
  intro W base args ds gs before hval0 hW _ _ hL _
  have hval : ∀ (j : Nat) t v, Tryd.f13.params[j]? = some t → args[j]? = some v → Value.okWide Tryd.prog W .any base t v := hval0
  have hW' := hW
  obtain ⟨p, q, hA0, hV, rfl, _, _⟩ := hW
  have hA : DataW.TrodAll enc Tryd.prog W 0 (fun _ => true) true Tryd.f13.params.toList args.toList ds p := hA0
  rw [Tryd.params13] at hA hval
  obtain ⟨v0, vs0, d0, ds0, p0, q0, hargs, rfl, rfl, h0, r0⟩ := trodAll_cons hA
  obtain ⟨rfl, rfl, rfl⟩ := trodAll_nil r0
  obtain rfl : args = #[v0] := by cases args; simp_all
  obtain ⟨rfl, rfl⟩ := trodVars_none hV
  clear hA0 hval0
  have x0 := open_argY (hval 0 50 v0 rfl rfl) h0
  clear hL
  simp only [List.append_nil] at hW'
  refine (walk v0 W x0).mono fun e W' ⟨he, hb⟩ => ?_
  subst he
  exact ⟨_, rfl, post_law hW' rfl rfl (by kernel_rfl) rfl rfl rfl hb⟩

theorem over : Rows.fnCounterSumsRow.holds Tryd.pinned (OpenSpec.ofChange Rows.fnCounterSumsSpec) :=
  OpenClaim.holds_of_wide 13 Tryd.f13 rfl rfl rfl rfl rfl rfl rfl ⟨rfl, rfl, rfl, rfl, rfl⟩ rfl rfl rfl rfl rfl (by kernel_rfl) Tryd.func13 (by kernel_rfl)
    (of_decide_eq_true (by kernel_rfl)) (by unfold Func.isWrapper; first | (rw [if_pos (by decide +kernel)]; kernel_rfl) | (rw [if_neg (by decide +kernel)]; exact ⟨rfl, rfl⟩))
    (fun os started H enc _ => lifted os started H enc)

theorem proved : Rows.FnCounterSumsCardSaid :=
  Claim7.holds_tied_plain_at .later [] [.data, .pinned] true (true, "ca4dcec4baead5c8d52aca805bf5c1b69473118e7bc7fb787bf66938e9406061") true over (fun _ h => by cases h) (by kernel_rfl) (fun _ h => by cases h) fnCounterSums_row_tie rfl ⟨rfl, rfl⟩ (by kernel_rfl) rfl
    (fun f fn hf hfn => by
      obtain rfl : f = 13 := Option.some.inj ((show Tryd.prog.funcNamed Rows.fnCounterSumsRow.func = some 13 by kernel_rfl).symm.trans hf) |>.symm
      obtain rfl : fn = Tryd.f13 := (Option.some.inj (Tryd.func13.symm.trans hfn)).symm
      exact ⟨by kernel_rfl, fun j t ht => by
        rw [Tryd.params13] at ht
        have hm : t ∈ [50] := by simpa using Array.mem_of_getElem? ht
        have hall : ([50].all fun u => !Tryd.prog.wantsStandIn u) = true := by kernel_rfl
        exact (show Tryd.prog.wantsStandIn t = false by simpa using List.all_eq_true.1 hall t hm)⟩)
    (by kernel_rfl)
#print axioms proved
end Go.Proofs.YtmochhgmhhopoaaDoor.FnCounterSums
