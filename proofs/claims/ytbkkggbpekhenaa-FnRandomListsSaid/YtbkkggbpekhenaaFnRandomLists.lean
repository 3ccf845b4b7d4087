/- The law FnRandomLists: a shuffled list has the same numbers, draws are below their limit, and ticks are in order and within their span. No condition. -/
import Derived.Test.YtbkkggbpekhenaaRandDraw
import Derived.Test.YtbkkggbpekhenaaRandMath2
import Derived.Test.YtbkkggbpekhenaaRandKit
import Derived.Test.YtbkkggbpekhenaaOpenY
import Derived.Test.YtbkkggbpekhenaaLawKit
import Derived.Deep.CutBlock
import Derived.Deep.DeepCutAuto
namespace Go.Proofs.Ytbkkggbpekhenaa.FnRandomLists
open Go.ChangeShapes Go.WideShapes Go.ChangeAt Go.RowKit

set_option maxRecDepth 100000 in
set_option maxHeartbeats 16000000 in
theorem walk (v : Value) (w : World) (hx : ArgY w v) :
    Calls Try.prog 4 #[v] w fun e w' => e = .returned (.bool true) ∧ Below w.heap.size w w' := by
  obtain ⟨bs, hbs⟩ := hx
  by_cases hbig : 65536 < bs.length
  · go_enter Try.func4, Try.ntmps4
    go_wp2_with fail
    refine (rBig_any v bs w hbs).mono ?_
    rintro e w' ⟨rfl, rfl⟩
    go_wp2_with fail
    go_ret
    exact ⟨rfl, Below.refl _ _⟩
  have R0 := Lib.hid (hbs.1 (by omega))
  go_enter Try.func4, Try.ntmps4
  go_wp2_with fail
  refine (rBig_any v bs w hbs).mono ?_
  rintro e w' ⟨rfl, rfl⟩
  have B0 := Lib.hid (Below.refl w.heap.size w)
  go_wp2_with fail
  refine (drawShuffle_any v bs w R0.out).mono ?_
  rintro e w2 ⟨x, va, xs, rfl, oa, na, b2⟩
  have R_2 := Lib.hid (R0.out.below b2)
  have B_2 := Lib.hid (B0.out.trans (b2.mono B0.out.size))
  have OA_2 := Lib.hid oa
  clear R0 B0 oa b2
  clear hbs hbig
  go_wp2_with fail
  refine (implShuffle_any x va xs _ OA_2.out.rd).mono ?_
  rintro e w3 ⟨u1, rfl, o1, b3⟩
  have R_3 := Lib.hid (R_2.out.below b3)
  have OA_3 := Lib.hid (OA_2.out.below b3)
  have B_3 := Lib.hid (B_2.out.trans (b3.mono B_2.out.size))
  have O1_3 := Lib.hid o1
  clear R_2 OA_2 B_2 o1 b3
  go_wp2_with fail
  refine (specShuffle_any x va xs _ OA_3.out.rd).mono ?_
  rintro e w4 ⟨u2, rfl, o2, b4⟩
  have R_4 := Lib.hid (R_3.out.below b4)
  have OA_4 := Lib.hid (OA_3.out.below b4)
  have O1_4 := Lib.hid (O1_3.out.below b4)
  have B_4 := Lib.hid (B_3.out.trans (b4.mono B_3.out.size))
  have O2_4 := Lib.hid o2
  clear R_3 OA_3 O1_3 B_3 o2 b4
  go_wp2_with fail
  refine (rInts_same u1 u2 (shL x xs) _ O1_4.out.rd O2_4.out.rd).mono ?_
  rintro e w5 ⟨rfl, b5⟩
  have R_5 := Lib.hid (R_4.out.below b5)
  have OA_5 := Lib.hid (OA_4.out.below b5)
  have O1_5 := Lib.hid (O1_4.out.below b5)
  have O2_5 := Lib.hid (O2_4.out.below b5)
  have B_5 := Lib.hid (B_4.out.trans (b5.mono B_4.out.size))
  clear R_4 OA_4 O1_4 O2_4 B_4 b5
  clear O2_5
  have HE := Lib.hid (fun h y => cntI_end (s := x) (xs := xs) h y)
  have HL := Lib.hid (fun h => shL_len (s := x) (xs := xs) h)
  generalize shB x xs = sb at *
  go_upto_block 0 with (fail)
  go_cut [] (fun wx => Hid (Below w5.heap.size w5 wx))
  case first =>
    as_aux_lemma =>
    have BB := Lib.hid (Below.refl w5.heap.size w5)
    obtain ⟨p1, cap1, g1, off1, rfl, hcap1, hp1, hc1⟩ := OA_5.out.rd.parts
    obtain ⟨p2, cap2, g2, off2, rfl, hcap2, hp2, hc2⟩ := O1_5.out.rd.parts
    have HP1 := Lib.hid hp1; have HC1 := Lib.hid hc1; clear hp1 hc1
    have HP2 := Lib.hid hp2; have HC2 := Lib.hid hc2; clear hp2 hc2
    generalize shL x xs = L at *
    clear R_5 OA_5 O1_5 B_5
    go_wp2_with fail
    go_loopw [11, 12, 13, 14] (fun i _ _ _ wr => ∃ j : Nat, j ≤ xs.length ∧ i = .int .i64 j ∧ Hid (Below w5.heap.size w5 wr)) (fun i _ _ _ _ => xs.length - (intOf i).toNat)
    case atStart => exact ⟨0, Nat.zero_le _, rfl, BB⟩
    case round =>
      clear BB
      obtain ⟨j, hj, rfl, HB⟩ := hrel
      by_cases hlt : j < xs.length
      · cases sb
        · go_wp2_with fail
          go_meet
          exact HB
        · have hE := HE.out rfl
          have HLe := Lib.hid (HL.out rfl)
          clear HE HL
          have HE := Lib.hid hE; clear hE
          obtain rfl := HP1.out (by omega)
          obtain rfl := HP2.out (by rw [HLe.out]; omega)
          have ci := cell_on HB.out (HC1.out j hlt)
          generalize xs[j] = y at *
          generalize hwo : wr = wo at *
          clear hwo
          go_wp2_with fail
          go_loopw [12, 13, 14] (fun a b k wr => ∃ m : Nat, m ≤ xs.length ∧ k = .int .i64 m ∧ a = .int .i64 (cntI xs y m : Nat) ∧ b = .int .i64 (cntI L y m : Nat) ∧ Hid (Below wo.heap.size wo wr)) (fun _ _ k _ => xs.length - (intOf k).toNat)
          case atStart => exact ⟨0, Nat.zero_le _, rfl, rfl, rfl, Lib.hid (Below.refl _ _)⟩
          case round =>
            obtain ⟨m, hm, rfl, rfl, rfl, HBi⟩ := hrel
            by_cases hlm : m < xs.length
            · have hlm2 : m < L.length := by rw [HLe.out]; exact hlm
              have c0 := cell_on HBi.out ci
              have c1 := cell_on HBi.out (cell_on HB.out (HC1.out m hlm))
              have c2 := cell_on HBi.out (cell_on HB.out (HC2.out m (by rw [HLe.out]; exact hlm)))
              have S1 := Lib.hid (cntI_succ xs y m hlm)
              have S2 := Lib.hid (cntI_succ L y m (by rw [HLe.out]; exact hlm))
              have l1 := cntI_le xs y m
              have l2 := cntI_le L y m
              generalize xs[m] = q1 at *
              generalize L[m]'(by rw [HLe.out]; exact hlm) = q2 at *
              generalize cntI xs y m = k1 at *
              generalize cntI L y m = k2 at *
              by_cases e1 : q1 = y <;> by_cases e2 : q2 = y
              · subst e1; subst e2
                go_wp2_with fail
                go_quiet (fail)
                go_wp2_with fail
                go_quiet (fail)
                go_wp2_with fail
                go_roundw
                case rel => exact ⟨m + 1, by omega, by go_num, by rw [S1.out, if_pos trivial]; go_num, by rw [S2.out, if_pos trivial]; go_num, Lib.hid (by first | exact HBi.out | exact HBi.out.trans (below_eq ⟨_, rfl⟩))⟩
                case measure => simp [intOf]; omega
              · subst e1
                go_wp2_with fail
                go_quiet (fail)
                go_wp2_with fail
                go_quiet (fail)
                go_wp2_with fail
                go_roundw
                case rel => exact ⟨m + 1, by omega, by go_num, by rw [S1.out, if_pos trivial]; go_num, by rw [S2.out, if_neg e2]; go_num, Lib.hid (by first | exact HBi.out | exact HBi.out.trans (below_eq ⟨_, rfl⟩))⟩
                case measure => simp [intOf]; omega
              · subst e2
                go_wp2_with fail
                go_quiet (fail)
                go_wp2_with fail
                go_quiet (fail)
                go_wp2_with fail
                go_roundw
                case rel => exact ⟨m + 1, by omega, by go_num, by rw [S1.out, if_neg e1]; go_num, by rw [S2.out, if_pos trivial]; go_num, Lib.hid (by first | exact HBi.out | exact HBi.out.trans (below_eq ⟨_, rfl⟩))⟩
                case measure => simp [intOf]; omega
              · skip
                go_wp2_with fail
                go_quiet (fail)
                go_wp2_with fail
                go_quiet (fail)
                go_wp2_with fail
                go_roundw
                case rel => exact ⟨m + 1, by omega, by go_num, by rw [S1.out, if_neg e1]; go_num, by rw [S2.out, if_neg e2]; go_num, Lib.hid (by first | exact HBi.out | exact HBi.out.trans (below_eq ⟨_, rfl⟩))⟩
                case measure => simp [intOf]; omega
            · obtain rfl : m = xs.length := by omega
              rw [HE.out y]
              have HB2 := Lib.hid (HB.out.trans (HBi.out.mono HB.out.size))
              generalize cntI xs y xs.length = k1 at *
              go_wp2_with fail
              go_roundw
              case rel => exact ⟨j + 1, by omega, by go_num, HB2⟩
              case measure => simp [intOf]; omega
      · go_wp2_with fail
        go_meet
        exact HB
  case rest =>
    as_aux_lemma =>
    have RC1 := Lib.hid (R_5.out.below hcut.out)
    have BC1 := Lib.hid (B_5.out.trans (hcut.out.mono B_5.out.size))
    clear hcut R_5 OA_5 O1_5 B_5 HE HL
    generalize wc = wd1 at *
    go_wp2_with fail
    refine (drawRolls_any v bs _ RC1.out).mono ?_
    rintro e w6 ⟨y, n, c, rfl, b6⟩
    have R_6 := Lib.hid (RC1.out.below b6)
    have B_6 := Lib.hid (BC1.out.trans (b6.mono BC1.out.size))
    clear RC1 BC1 b6
    go_wp2_with fail
    refine (implRolls_any y n c _).mono ?_
    rintro e w7 ⟨v1, rfl, o1, b7⟩
    have R_7 := Lib.hid (R_6.out.below b7)
    have B_7 := Lib.hid (B_6.out.trans (b7.mono B_6.out.size))
    have O1_7 := Lib.hid o1
    clear R_6 B_6 o1 b7
    go_wp2_with fail
    refine (specRolls_any y n c _).mono ?_
    rintro e w8 ⟨v2, rfl, o2, b8⟩
    have R_8 := Lib.hid (R_7.out.below b8)
    have O1_8 := Lib.hid (O1_7.out.below b8)
    have B_8 := Lib.hid (B_7.out.trans (b8.mono B_7.out.size))
    have O2_8 := Lib.hid o2
    clear R_7 O1_7 B_7 o2 b8
    go_wp2_with fail
    refine (rInts_same v1 v2 (rbL y n c) _ O1_8.out.rd O2_8.out.rd).mono ?_
    rintro e w9 ⟨rfl, b9⟩
    have R_9 := Lib.hid (R_8.out.below b9)
    have O1_9 := Lib.hid (O1_8.out.below b9)
    have O2_9 := Lib.hid (O2_8.out.below b9)
    have B_9 := Lib.hid (B_8.out.trans (b9.mono B_8.out.size))
    clear R_8 O1_8 O2_8 B_8 b9
    clear O2_9
    have HF := Lib.hid (fun h => rb_skip (s := y) (n := n) (c := c) h)
    have HG := Lib.hid (fun h => rb_range (s := y) (n := n) (c := c) h)
    generalize rbB y n c = rb at *
    generalize rbS y n c = s2 at *
    generalize rbL y n c = L at *
    go_upto_if 167 with (fail)
    go_cut [] (fun wx => Hid (Below w9.heap.size w9 wx))
    case first =>
      as_aux_lemma =>
      have BB := Lib.hid (Below.refl w9.heap.size w9)
      have HSk := Lib.hid (fun w => implSkip_any y c w)
      cases rb
      · go_wp2_with fail
        go_meet
        exact BB
      · obtain ⟨f1, f2, f3, f4, f5, f6, f7⟩ := HF.out rfl
        have hG := HG.out rfl
        clear HF HG
        rw [f1, f2] at HSk
        have hlc : (L.length : Int) = c := by omega
        clear f1 f2 f5
        have HG := Lib.hid hG; clear hG
        obtain ⟨p1, cap1, g1, off1, rfl, hcap1, hp1, hc1⟩ := O1_9.out.rd.parts
        have HP1 := Lib.hid hp1; have HC1 := Lib.hid hc1; clear hp1 hc1
        clear R_9 O1_9 B_9
        subst hlc
        go_wp2_with fail
        refine (HSk.out _).mono ?_
        rintro e ws ⟨rfl, rfl⟩
        go_wp2_with fail
        go_loopw [26] (fun i wr => ∃ j : Nat, j ≤ L.length ∧ i = .int .i64 j ∧ Hid (Below w9.heap.size w9 wr)) (fun i _ => L.length - (intOf i).toNat)
        case atStart => exact ⟨0, Nat.zero_le _, rfl, BB⟩
        case round =>
          clear BB
          obtain ⟨j, hj, rfl, HB⟩ := hrel
          by_cases hlt : j < L.length
          · obtain rfl := HP1.out (by omega)
            have c1 := cell_on HB.out (HC1.out j hlt)
            obtain ⟨q1, q2⟩ := HG.out j hlt
            generalize L[j] = q at *
            have q3 : ¬ q < 0 := by omega
            have q4 : ¬ n ≤ q := by omega
            go_wp2_with fail
            go_roundw
            case rel => exact ⟨j + 1, by omega, by go_num, HB⟩
            case measure => simp [intOf]; omega
          · go_wp2_with fail
            go_meet
            exact HB
    case rest =>
      as_aux_lemma =>
      have RC2 := Lib.hid (R_9.out.below hcut.out)
      have BC2 := Lib.hid (B_9.out.trans (hcut.out.mono B_9.out.size))
      clear hcut R_9 O1_9 B_9 HF HG
      generalize wc = wd2 at *
      go_wp2_with fail
      refine (drawSpread_any v bs _ RC2.out).mono ?_
      rintro e w10 ⟨z, f, m, s, rfl, b10⟩
      have R_10 := Lib.hid (RC2.out.below b10)
      have B_10 := Lib.hid (BC2.out.trans (b10.mono BC2.out.size))
      clear RC2 BC2 b10
      go_wp2_with fail
      refine (implSpread_any z f m s _).mono ?_
      rintro e w11 ⟨t1, rfl, o1, b11⟩
      have R_11 := Lib.hid (R_10.out.below b11)
      have B_11 := Lib.hid (B_10.out.trans (b11.mono B_10.out.size))
      have O1_11 := Lib.hid o1
      clear R_10 B_10 o1 b11
      go_wp2_with fail
      refine (specSpread_any z f m s _).mono ?_
      rintro e w12 ⟨t2, rfl, o2, b12⟩
      have R_12 := Lib.hid (R_11.out.below b12)
      have O1_12 := Lib.hid (O1_11.out.below b12)
      have B_12 := Lib.hid (B_11.out.trans (b12.mono B_11.out.size))
      have O2_12 := Lib.hid o2
      clear R_11 O1_11 B_11 o2 b12
      have HF := Lib.hid (fun h => sp_facts (s := z) (f := f) (c := m) (n := s) h)
      have hLb := O1_12.out.2
      have HA := Lib.hid (fun i hi => sp_at (s := z) (f := f) (c := m) (n := s) i hi)
      obtain ⟨p1, cap1, g1, off1, rfl, hcap1, hp1, hc1⟩ := O1_12.out.rd.parts
      have HP1 := Lib.hid hp1; have HC1 := Lib.hid hc1; clear hp1 hc1
      have HS := Lib.hid (fun w h h' => rInts_same (.slice p1 (spT z f m s).length cap1) t2 (spT z f m s) w h h')
      generalize spB z f m s = sb at *
      generalize spS z f m s = ss at *
      generalize spT z f m s = L at *
      go_upto_region 38 with (fail)
      go_cut [253] (fun c wx => c = .bool false ∧ Hid (Below w12.heap.size w12 wx))
      case first =>
        as_aux_lemma =>
        cases sb
        · go_wp2_with fail
          refine (HS.out _ O1_12.out.rd O2_12.out.rd).mono ?_
          rintro e wk ⟨rfl, bk⟩
          have BK := Lib.hid bk; clear bk
          go_wp2_with fail
          go_meet
          exact ⟨rfl, BK⟩
        · obtain ⟨h1, h2⟩ := HF.out rfl
          clear HF
          subst h1
          go_wp2_with fail
          refine (HS.out _ O1_12.out.rd O2_12.out.rd).mono ?_
          rintro e wk ⟨rfl, bk⟩
          have BK := Lib.hid bk; clear bk
          go_wp2_with fail
          go_meet
          exact ⟨rfl, BK⟩
      case rest =>
        as_aux_lemma =>
        obtain ⟨rfl, hcut⟩ := hcut
        have HC3 := Lib.hid (fun k (h : k < L.length) => cell_on hcut.out (HC1.out k h))
        have RC3 := Lib.hid (R_12.out.below hcut.out)
        have BC3 := Lib.hid (B_12.out.trans (hcut.out.mono B_12.out.size))
        clear hcut HF HS HC1 R_12 O1_12 O2_12 B_12
        generalize wc = wk3 at *
        go_upto_block 6 with (fail)
        go_cut [] (fun wx => Hid (Below wk3.heap.size wk3 wx))
        case first =>
          as_aux_lemma =>
          have BB := Lib.hid (Below.refl wk3.heap.size wk3)
          go_wp2_with fail
          go_loopw [37] (fun i wr => ∃ j : Nat, j ≤ L.length ∧ i = .int .i64 j ∧ Hid (Below wk3.heap.size wk3 wr)) (fun i _ => L.length - (intOf i).toNat)
          case atStart => exact ⟨0, Nat.zero_le _, rfl, BB⟩
          case round =>
            clear BB
            obtain ⟨j, hj, rfl, HB⟩ := hrel
            by_cases hlt : j < L.length
            · obtain rfl := HP1.out (by omega)
              have c1 := cell_on HB.out (HC3.out j hlt)
              obtain ⟨q1, q2, q3, q4, q5, q6, q7⟩ := HA.out j hlt
              have hw : IntKind.i64.wrap (f + s) = f + s := by rw [IntKind.wrap_i64]; omega
              by_cases h0 : j = 0
              · subst h0
                clear q7
                generalize L[0] = q at *
                simp only [Nat.add_zero] at c1
                have d0 : decide ((0 : Int) < ((0 : Nat) : Int)) = false := rfl
                have d1 : decide (q < f) = false := decide_eq_false (by omega)
                have d2 : decide (f + s ≤ q) = false := decide_eq_false (by omega)
                go_wp2_with fail
                go_quiet (fail)
                go_wp2_with fail
                go_roundw
                case rel => exact ⟨0 + 1, by omega, by go_num, Lib.hid (by first | exact HB.out | exact HB.out.trans (below_eq ⟨_, rfl⟩))⟩
                case measure => simp [intOf]; omega
              · obtain ⟨hi, q8⟩ := q7 (j - 1) (by omega)
                have c2 := cell_on HB.out (HC3.out (j - 1) hi)
                clear q7
                generalize L[j] = q at *
                generalize L[j - 1] = r at *
                have d1 : decide (q < f) = false := decide_eq_false (by omega)
                have d2 : decide (f + s ≤ q) = false := decide_eq_false (by omega)
                have d3 : decide (q < r) = false := decide_eq_false (by omega)
                have d4 : decide ((0 : Int) < (j : Int)) = true := decide_eq_true (by omega)
                have d5 : decide (0 < j) = true := decide_eq_true (by omega)
                have d6 : 0 < j := by omega
                have d7 : (0 : Int) < (j : Int) := by omega
                have e1 : (0 : Int) ≤ (j : Int) - 1 := by omega
                have e2 : (j : Int) - 1 < (L.length : Int) := by omega
                have e3 : ((j : Int) - 1).toNat = j - 1 := by omega
                have e4 : IntKind.i64.wrap ((j : Int) - 1) = (j : Int) - 1 := by rw [IntKind.wrap_i64]; omega
                go_wp2_with fail
                go_quiet (fail)
                go_wp2_with fail
                go_roundw
                case rel => exact ⟨j + 1, by omega, by go_num, Lib.hid (by first | exact HB.out | exact HB.out.trans (below_eq ⟨_, rfl⟩))⟩
                case measure => simp [intOf]; omega
            · go_wp2_with fail
              go_meet
              exact HB
        case rest =>
          as_aux_lemma =>
          have RC4 := Lib.hid (RC3.out.below hcut.out)
          have BC4 := Lib.hid (BC3.out.trans (hcut.out.mono BC3.out.size))
          clear hcut RC3 BC3 HA HP1 HC3
          generalize wc = wd4 at *
          go_wp2_with fail
          refine (drawPick_any v bs _ RC4.out).mono ?_
          rintro e w13 ⟨u, vw, ws, rfl, ow, nw, b13⟩
          have R_13 := Lib.hid (RC4.out.below b13)
          have B_13 := Lib.hid (BC4.out.trans (b13.mono BC4.out.size))
          have OW_13 := Lib.hid ow
          clear RC4 BC4 ow b13
          go_wp2_with fail
          refine (implPick_any u vw ws _ OW_13.out.rd).mono ?_
          rintro e w' ⟨rfl, rfl⟩
          go_wp2_with fail
          refine (specPick_any u vw ws _ OW_13.out.rd).mono ?_
          rintro e w' ⟨rfl, rfl⟩
          have HF := Lib.hid (fun h => pw_weight (s := u) (xs := ws) h)
          obtain ⟨p1, cap1, g1, off1, rfl, hcap1, hp1, hc1⟩ := OW_13.out.rd.parts
          have HP1 := Lib.hid hp1; have HC1 := Lib.hid hc1; clear hp1 hc1
          generalize pwB u ws = pb at *
          generalize pwS u ws = ps at *
          generalize pwI u ws = pi at *
          go_upto_region 48 with (fail)
          go_cut [333] (fun c wx => c = .bool false ∧ Hid (Below w13.heap.size w13 wx))
          case first =>
            as_aux_lemma =>
            cases pb
            · go_wp2_with fail
              go_meet
              exact ⟨rfl, Lib.hid (Below.refl _ _)⟩
            · obtain ⟨k, hk, rfl, hpos⟩ := HF.out rfl
              obtain rfl := HP1.out (by omega)
              have c1 := HC1.out k hk
              clear HF
              generalize ws[k] = q at *
              have hq : (q == 0) = false := by rw [beq_eq_false_iff_ne]; omega
              go_wp2_with fail
              go_meet
              exact ⟨rfl, Lib.hid (Below.refl _ _)⟩
          case rest =>
            as_aux_lemma =>
            obtain ⟨rfl, hcut⟩ := hcut
            clear HF HP1 HC1
            have RC5 := Lib.hid (R_13.out.below hcut.out)
            have BC5 := Lib.hid (B_13.out.trans (hcut.out.mono B_13.out.size))
            clear hcut R_13 OW_13 B_13
            generalize wc = wk5 at *
            go_wp2_with fail
            refine (drawFates_any v bs _ RC5.out).mono ?_
            rintro e w14 ⟨fx, fl, fp, rfl, b14⟩
            have R_14 := Lib.hid (RC5.out.below b14)
            have B_14 := Lib.hid (BC5.out.trans (b14.mono BC5.out.size))
            clear RC5 BC5 b14
            go_wp2_with fail
            refine (implFates_any fx fl fp _).mono ?_
            rintro e w' ⟨rfl, rfl⟩
            go_wp2_with fail
            refine (specFates_any fx fl fp _).mono ?_
            rintro e w15 ⟨rfl, b15⟩
            have R_15 := Lib.hid (R_14.out.below b15)
            have B_15 := Lib.hid (B_14.out.trans (b15.mono B_14.out.size))
            clear R_14 B_14 b15
            have HK := Lib.hid (fun i hi => (rf_letters (s := fx) (n := fl) (p := fp)).2 i hi)
            have hlen : (rfL fx fl fp).length ≤ 40 := by
              by_cases h : rfB fx fl fp = true
              · exact (rf_letters (s := fx) (n := fl) (p := fp)).1 h
              · rw [rfL, if_neg h]; exact Nat.zero_le _
            generalize rfL fx fl fp = L at *
            generalize rfB fx fl fp = fb at *
            generalize rfS fx fl fp = fs at *
            clear R_15
            go_wp2_with fail
            go_loopw [55] (fun i wr => ∃ j : Nat, j ≤ L.length ∧ i = .int .i64 j ∧ wr = w15) (fun i _ => L.length - (intOf i).toNat)
            case atStart => exact ⟨0, Nat.zero_le _, rfl, rfl⟩
            case round =>
              obtain ⟨j, hj, rfl, rfl⟩ := hrel
              by_cases hlt : j < L.length
              · obtain ⟨q1, q2⟩ := HK.out j hlt
                by_cases p0 : fp = 0
                · subst p0
                  have hb : ((⟨L.toArray⟩ : ByteArray)[j]'(by show j < L.toArray.size; simpa using hlt)) = 107 := by show L.toArray[j] = 107; simpa using q1 rfl
                  clear q1 q2 HK
                  go_wp2_with fail
                  go_roundw
                  case rel => exact ⟨j + 1, by omega, by go_num, by first | trivial | rfl⟩
                  case measure => simp [intOf]; omega
                · by_cases p1 : fp = 100
                  · subst p1
                    have hb : ((⟨L.toArray⟩ : ByteArray)[j]'(by show j < L.toArray.size; simpa using hlt)) = 108 := by show L.toArray[j] = 108; simpa using q2 rfl
                    clear q1 q2 HK
                    go_wp2_with fail
                    go_roundw
                    case rel => exact ⟨j + 1, by omega, by go_num, by first | trivial | rfl⟩
                    case measure => simp [intOf]; omega
                  · clear q1 q2
                    go_wp2_with fail
                    go_roundw
                    case rel => exact ⟨j + 1, by omega, by go_num, by first | trivial | rfl⟩
                    case measure => simp [intOf]; omega
              · go_wp2_with fail
                go_ret
                exact ⟨by simp, B_15.out⟩

set_option maxRecDepth 100000 in
theorem lifted (os : Os) (started : os.Started) (H : Type) (enc : TypeId × Value → H) :
    ReturnsInHanded {} Try.checked os 4 .any (Rows.fnRandomListsSpec.pre6 enc Try.prog Try.f4 Rows.fnRandomListsRow.domain false) (Rows.fnRandomListsSpec.post enc Try.prog Try.f4 false true false false) := by
  refine returnsInHanded_of_change_sized (C := Try.checked) lk_own started (by kernel_rfl) Try.func4
    (ChangeSpec.witness6 (enc := enc) (C := Try.checked) false ⟨#[], #[.slice none 0 0], []⟩ 8 (by kernel_rfl) (by kernel_rfl) (by kernel_rfl) (by kernel_rfl)) ?_
  intro W base args ds gs before hval0 hW _ _ _
  have hval : ∀ (j : Nat) t v, Try.f4.params[j]? = some t → args[j]? = some v → Value.okWide Try.prog W .any base t v := hval0
  have hW' := hW
  obtain ⟨p, q, hA0, hV, rfl, _, _⟩ := hW
  have hA : DataW.TrodAll enc Try.prog W 0 (fun _ => true) true Try.f4.params.toList args.toList ds p := hA0
  rw [Try.params4] at hA hval
  obtain ⟨v0, vs0, d0, ds0, p0, q0, hargs, rfl, rfl, h0, r0⟩ := trodAll_cons hA
  obtain ⟨rfl, rfl, rfl⟩ := trodAll_nil r0
  obtain rfl : args = #[v0] := by cases args; simp_all
  obtain ⟨rfl, rfl⟩ := trodVars_none hV
  clear hA0 hval0
  have x0 := open_argY (hval 0 28 v0 rfl rfl) h0
  simp only [List.append_nil] at hW'
  refine (walk v0 W x0).mono fun e W' ⟨he, hb⟩ => ?_
  subst he
  exact ⟨_, rfl, post_law hW' rfl rfl (by kernel_rfl) rfl rfl rfl hb⟩

theorem over : Rows.fnRandomListsRow.holds Try.pinned (OpenSpec.ofChange Rows.fnRandomListsSpec) :=
  OpenClaim.holds_of_wide 4 Try.f4 rfl rfl rfl rfl rfl rfl rfl ⟨rfl, rfl, rfl, rfl, rfl⟩ rfl rfl rfl rfl rfl (by kernel_rfl) Try.func4 (by kernel_rfl)
    (of_decide_eq_true (by kernel_rfl)) (by unfold Func.isWrapper; first | (rw [if_pos (by decide +kernel)]; kernel_rfl) | (rw [if_neg (by decide +kernel)]; exact ⟨rfl, rfl⟩))
    (fun os started H enc _ => lifted os started H enc)

theorem proved : Rows.FnRandomListsSaid := over
#print axioms proved
end Go.Proofs.Ytbkkggbpekhenaa.FnRandomLists
