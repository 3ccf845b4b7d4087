/- The law FnScripts: steps and scripts are recovered from their texts, and a calm script has no losses and as many steps; where the table of words, the library's table of powers and its two errors hold what is laid. -/
import Derived.Test.YtgmccafmopgjaaaGreatDoorSDraws2
import Derived.Test.YtgmccafmopgjaaaGreatDoorCalmMath
import Derived.Test.YtgmccafmopgjaaaGreatDoorPsScr
import Derived.Test.YtgmccafmopgjaaaGreatDoorPiScr
import Derived.Test.YtgmccafmopgjaaaGreatDoorRsKit
import Derived.Test.YtgmccafmopgjaaaGreatDoorWords
import Derived.Test.YtgmccafmopgjaaaGreatDoorPowLaid
import Derived.Test.YtgmccafmopgjaaaGreatDoorErrLaid
import Derived.Test.YtgmccafmopgjaaaGreatDoorOpenY
import Derived.Test.YtgmccafmopgjaaaGreatDoorLawKit
import Derived.Deep.CutBlock
import Derived.Deep.DeepCutAuto
namespace Go.Proofs.YtgmccafmopgjaaaGreatDoor.FnScripts
open Go.ChangeShapes Go.WideShapes Go.ChangeAt Go.RowKit

theorem ps_back {x : St} {o : Option St} (h : PsIs (sttV x) o) (hB : stB x = true) : o = some x := by
  rw [sttV, if_pos hB] at h
  exact h.uniq (psIs_text hB)
theorem sc_back {xs : List St} {o : Option (List St)} (h : ScIs (sctV xs) o) (hB : scB xs = true) : o = some xs := by
  rw [sctV, if_pos hB] at h
  exact h.uniq (show ScIs _ (some xs) from ⟨hB, rfl⟩)
set_option maxRecDepth 100000 in
set_option maxHeartbeats 16000000 in
theorem walk (v : Value) (w : World) (hwords : WordsAt w) (hpow10 : PowAt w) (herrs : ErrAt w) (hx : ArgY w v) :
    Calls Tryz.prog 3 #[v] w fun e w' => e = .returned (.bool true) ∧ Below w.heap.size w w' := by
  obtain ⟨bs, hbs⟩ := hx
  by_cases hbig : 65536 < bs.length
  · go_enter Tryz.func3, Tryz.ntmps3
    go_wp2_with fail
    refine (rBig_any v bs w hbs).mono ?_
    rintro e w' ⟨rfl, rfl⟩
    go_wp2_with fail
    go_ret
    exact ⟨rfl, Below.refl _ _⟩
  have R0 := Lib.hid (hbs.1 (by omega))
  have HW := Lib.hid hwords; clear hwords
  have HP := Lib.hid hpow10; clear hpow10
  have HE := Lib.hid herrs; clear herrs
  go_enter Tryz.func3, Tryz.ntmps3
  go_wp2_with fail
  refine (rBig_any v bs w hbs).mono ?_
  rintro e w' ⟨rfl, rfl⟩
  go_wp2_with fail
  refine (drawStepText_any v bs w R0.out).mono ?_
  rintro e w1 ⟨⟨xa, xn, xd⟩, he, hx, b1⟩
  clear hbs hbig
  have he : e = .returned (.agg #[.int .i64 xa, .int .i64 xn, .string xd]) := he
  subst he
  have B1 : Hid (Below w.heap.size w (w1.alloc (.cells #[.int .i64 xa, .int .i64 xn, .string xd] 25))) := Lib.hid (b1.alloc b1.size _)
  have hok := small_ok hx
  have HI := Lib.hid (fun w h => implStepText_any ⟨xa, xn, xd⟩ w hok h)
  have HS := Lib.hid (fun w => specStepText_any ⟨xa, xn, xd⟩ w hok)
  have HV := Lib.hid (fun w => valid_any ⟨xa, xn, xd⟩ w hok)
  have hsz := sttV_short ⟨xa, xn, xd⟩
  have HQ : Hid (∀ o, PsIs (sttV ⟨xa, xn, xd⟩) o → stB ⟨xa, xn, xd⟩ = true → o = some ⟨xa, xn, xd⟩) := Lib.hid (fun o h => ps_back h)
  clear hx hok b1
  generalize sttV ⟨xa, xn, xd⟩ = tx at *
  generalize stB ⟨xa, xn, xd⟩ = tb at *
  go_wp2_with fail
  refine (HI.out _ (HW.out.below B1.out)).mono ?_
  rintro e w2 ⟨rfl, b2⟩
  have X2 : Hid (w2.heap[w1.heap.size]? = some (.cells #[.int .i64 xa, .int .i64 xn, .string xd] 25 (0, 0))) := Lib.hid ((b2.block w1.heap.size (by simp)).trans (heap_alloc_new _ _))
  have B2 := Lib.hid (B1.out.trans (b2.mono B1.out.size))
  clear b2 B1 HI
  have xh := X2.out; have x0 := cell_of_row w2 (w1.heap.size) 0 _ _ _ xh; simp at x0; have xf0 := frozen_of_row w2 (w1.heap.size) 0 _ _ xh; have x1 := cell_of_row w2 (w1.heap.size) 1 _ _ _ xh; simp at x1; have xf1 := frozen_of_row w2 (w1.heap.size) 1 _ _ xh; have x2 := cell_of_row w2 (w1.heap.size) 2 _ _ _ xh; simp at x2; have xf2 := frozen_of_row w2 (w1.heap.size) 2 _ _ xh; clear xh
  have xl : w1.heap.size < w2.heap.size := (Array.getElem?_eq_some_iff.1 X2.out).1
  go_wp2_with fail
  refine (HS.out _).mono ?_
  rintro e w3 ⟨rfl, b3⟩
  have X3 : Hid (w3.heap[w1.heap.size]? = some (.cells #[.int .i64 xa, .int .i64 xn, .string xd] 25 (0, 0))) := Lib.hid ((b3.block w1.heap.size xl).trans X2.out)
  have B3 := Lib.hid (B2.out.trans (b3.mono B2.out.size))
  clear b3 B2 X2 HS x0 x1 x2 xf0 xf1 xf2 xl
  have xh := X3.out; have x0 := cell_of_row w3 (w1.heap.size) 0 _ _ _ xh; simp at x0; have xf0 := frozen_of_row w3 (w1.heap.size) 0 _ _ xh; have x1 := cell_of_row w3 (w1.heap.size) 1 _ _ _ xh; simp at x1; have xf1 := frozen_of_row w3 (w1.heap.size) 1 _ _ xh; have x2 := cell_of_row w3 (w1.heap.size) 2 _ _ _ xh; simp at x2; have xf2 := frozen_of_row w3 (w1.heap.size) 2 _ _ xh; clear xh
  have xl : w1.heap.size < w3.heap.size := (Array.getElem?_eq_some_iff.1 X3.out).1
  go_wp2_with fail
  refine (HV.out _).mono ?_
  rintro e w4 ⟨rfl, b4⟩
  have X4 : Hid (w4.heap[w1.heap.size]? = some (.cells #[.int .i64 xa, .int .i64 xn, .string xd] 25 (0, 0))) := Lib.hid ((b4.block w1.heap.size xl).trans X3.out)
  have B4 := Lib.hid (B3.out.trans (b4.mono B3.out.size))
  clear b4 B3 X3 HV x0 x1 x2 xf0 xf1 xf2 xl
  go_wp2_with fail
  refine (implParseStep_any tx _ (by omega) (HW.out.below B4.out) (HP.out.below B4.out) (HE.out.below B4.out)).mono ?_
  rintro e w5 ⟨o, he, ho, b5⟩
  have X5 : Hid (w5.heap[w1.heap.size]? = some (.cells #[.int .i64 xa, .int .i64 xn, .string xd] 25 (0, 0))) := Lib.hid ((b5.block w1.heap.size (Array.getElem?_eq_some_iff.1 X4.out).1).trans X4.out)
  have B5 := Lib.hid (B4.out.trans (b5.mono B4.out.size))
  rw [psEnd_eq] at he
  subst he
  have HR := Lib.hid (HQ.out o ho)
  clear b5 B4 X4 HQ ho
  have HY : Hid (tb = true → o.getD ⟨0, 0, ⟨#[]⟩⟩ = ⟨xa, xn, xd⟩ ∧ o.isSome = true) := Lib.hid (fun h => by rw [HR.out h]; exact ⟨rfl, rfl⟩)
  clear HR
  generalize o.getD ⟨0, 0, ⟨#[]⟩⟩ = y at *
  generalize o.isSome = f at *
  obtain ⟨ya, yn, yd⟩ := y
  have xh := X5.out; have x0 := cell_of_row w5 (w1.heap.size) 0 _ _ _ xh; simp at x0; have xf0 := frozen_of_row w5 (w1.heap.size) 0 _ _ xh; have x1 := cell_of_row w5 (w1.heap.size) 1 _ _ _ xh; simp at x1; have xf1 := frozen_of_row w5 (w1.heap.size) 1 _ _ xh; have x2 := cell_of_row w5 (w1.heap.size) 2 _ _ _ xh; simp at x2; have xf2 := frozen_of_row w5 (w1.heap.size) 2 _ _ xh; clear xh
  have xl : w1.heap.size < w5.heap.size := (Array.getElem?_eq_some_iff.1 X5.out).1
  go_upto_region 9 with (fail)
  go_cut [78] (fun c wx => c = .bool false ∧ Hid (Below w.heap.size w wx))
  case first =>
    as_aux_lemma =>
    have BB := B5.out.alloc B5.out.size (.cells #[.int .i64 ya, .int .i64 yn, .string yd] 25)
    cases tb
    · go_wp2_with fail
      go_meet
      exact ⟨rfl, Lib.hid BB⟩
    · obtain ⟨h1, rfl⟩ := HY.out rfl
      cases h1
      go_wp2_with fail
      go_meet
      exact ⟨rfl, Lib.hid BB⟩
  case rest =>
    as_aux_lemma =>
    obtain ⟨rfl, hcut⟩ := hcut
    clear B5 X5 HY x0 x1 x2 xf0 xf1 xf2 xl
    generalize wc = u0 at *
    go_wp2_with fail
    refine (drawParseStep_any v bs _ (R0.out.below hcut.out)).mono ?_
    rintro e w1 ⟨t, rfl, ht, b1⟩
    have B1 := Lib.hid (hcut.out.trans (b1.mono hcut.out.size))
    clear b1 hcut
    go_wp2_with fail
    refine (implParseStep_any t _ (by omega) (HW.out.below B1.out) (HP.out.below B1.out) (HE.out.below B1.out)).mono ?_
    rintro e w2 ⟨o, he, ho, b2⟩
    have B2 := Lib.hid (B1.out.trans (b2.mono B1.out.size))
    have HO := Lib.hid ho
    have HPe := Lib.hid (psEnd_eq o)
    rw [psEnd_eq] at he
    subst he
    clear b2 B1 ho
    generalize hy : o.getD ⟨0, 0, ⟨#[]⟩⟩ = y at *
    generalize hf : o.isSome = f at *
    obtain ⟨ya, yn, yd⟩ := y
    have BA : Hid (Below w.heap.size w (w2.alloc (.cells #[.int .i64 ya, .int .i64 yn, .string yd] 25))) := Lib.hid (B2.out.alloc B2.out.size _)
    clear hy hf B2
    go_wp2_with fail
    refine (specParseStep_any t _ (by omega)).mono ?_
    rintro e w3 ⟨o', he, ho', b3⟩
    obtain rfl := PsIs.uniq ho' HO.out
    have he : e = .returned (.tuple #[.agg #[.int .i64 ya, .int .i64 yn, .string yd], .bool f]) := he.trans HPe.out
    subst he
    have Y3 : Hid (w3.heap[w2.heap.size]? = some (.cells #[.int .i64 ya, .int .i64 yn, .string yd] 25 (0, 0))) := Lib.hid ((b3.block w2.heap.size (by simp)).trans (heap_alloc_new _ _))
    have B3 := Lib.hid (BA.out.trans (b3.mono BA.out.size))
    clear b3 BA HO HPe ho' ht
    have yh := Y3.out; have y0 := cell_of_row w3 (w2.heap.size) 0 _ _ _ yh; simp at y0; have yf0 := frozen_of_row w3 (w2.heap.size) 0 _ _ yh; have y1 := cell_of_row w3 (w2.heap.size) 1 _ _ _ yh; simp at y1; have yf1 := frozen_of_row w3 (w2.heap.size) 1 _ _ yh; have y2 := cell_of_row w3 (w2.heap.size) 2 _ _ _ yh; simp at y2; have yf2 := frozen_of_row w3 (w2.heap.size) 2 _ _ yh; clear yh
    have yl : w2.heap.size < w3.heap.size := (Array.getElem?_eq_some_iff.1 Y3.out).1
    go_upto_region 14 with (fail)
    go_cut [98] (fun c wx => c = .bool false ∧ Hid (Below w.heap.size w wx))
    case first =>
      as_aux_lemma =>
      have BB := B3.out.alloc B3.out.size (.cells #[.int .i64 ya, .int .i64 yn, .string yd] 25)
      go_wp2_with fail
      go_meet
      exact ⟨rfl, Lib.hid BB⟩
    case rest =>
      as_aux_lemma =>
      obtain ⟨rfl, hcut⟩ := hcut
      clear B3 Y3 y0 y1 y2 yf0 yf1 yf2 yl
      generalize wc = u1 at *
      go_wp2_with fail
      refine (drawScriptText_any v bs _ (R0.out.below hcut.out)).mono ?_
      rintro e w1 ⟨vl, xs, rfl, ol, hl, sl, b1⟩
      have B1 := Lib.hid (hcut.out.trans (b1.mono hcut.out.size))
      have L1 := Lib.hid ol
      clear b1 hcut ol sl
      have HI := Lib.hid (fun w h h2 => implScriptText_any vl xs w h h2)
      have HS := Lib.hid (fun w h => specScriptText_any vl xs w h)
      have HT := Lib.hid (fun w h => implIsScript_any vl xs w h)
      have hsz := sctV_short xs
      have HQ : Hid (∀ o, ScIs (sctV xs) o → scB xs = true → o = some xs) := Lib.hid (fun o h => sc_back h)
      generalize sctV xs = tx at *
      generalize scB xs = tb at *
      go_wp2_with fail
      refine (HI.out _ L1.out.rd (HW.out.below B1.out)).mono ?_
      rintro e w2 ⟨rfl, b2⟩
      have B2 := Lib.hid (B1.out.trans (b2.mono B1.out.size))
      have L2 := Lib.hid (L1.out.below b2)
      clear b2 B1 L1 HI
      go_wp2_with fail
      refine (HS.out _ L2.out.rd).mono ?_
      rintro e w3 ⟨rfl, b3⟩
      have B3 := Lib.hid (B2.out.trans (b3.mono B2.out.size))
      have L3 := Lib.hid (L2.out.below b3)
      clear b3 B2 L2 HS
      go_wp2_with fail
      refine (HT.out _ L3.out.rd).mono ?_
      rintro e w4 ⟨rfl, b4⟩
      have B4 := Lib.hid (B3.out.trans (b4.mono B3.out.size))
      have L4 := Lib.hid (L3.out.below b4)
      clear b4 B3 L3 HT
      go_wp2_with fail
      refine (implParseScript_any tx _ (by omega) (HW.out.below B4.out) (HP.out.below B4.out) (HE.out.below B4.out)).mono ?_
      rintro e w5 ⟨u, o, rfl, ho, ou, b5⟩
      have B5 := Lib.hid (B4.out.trans (b5.mono B4.out.size))
      have L5 := Lib.hid (L4.out.below b5)
      have U5 := Lib.hid ou
      have HR := Lib.hid (HQ.out o ho)
      clear b5 B4 L4 HQ ho ou
      go_upto_region 22 with (fail)
      go_cut [140] (fun c wx => c = .bool false ∧ Hid (Below w.heap.size w wx))
      case first =>
        as_aux_lemma =>
        cases tb
        · go_wp2_with fail
          go_meet
          exact ⟨rfl, B5⟩
        · obtain rfl := HR.out rfl
          go_wp2_with fail
          refine (rSteps_same u vl xs _ U5.out.rd L5.out.rd).mono ?_
          rintro e w6 ⟨rfl, b6⟩
          go_wp2_with fail
          go_meet
          exact ⟨rfl, Lib.hid (B5.out.trans (b6.mono B5.out.size))⟩
      case rest =>
        as_aux_lemma =>
        obtain ⟨rfl, hcut⟩ := hcut
        clear B5 L5 U5 HR
        generalize wc = u2 at *
        go_wp2_with fail
        refine (drawParseScript_any v bs _ (R0.out.below hcut.out)).mono ?_
        rintro e w1 ⟨t, rfl, ht, b1⟩
        have B1 := Lib.hid (hcut.out.trans (b1.mono hcut.out.size))
        clear b1 hcut
        go_wp2_with fail
        refine (implParseScript_any t _ (by omega) (HW.out.below B1.out) (HP.out.below B1.out) (HE.out.below B1.out)).mono ?_
        rintro e w2 ⟨p, o, rfl, ho, op, b2⟩
        have B2 := Lib.hid (B1.out.trans (b2.mono B1.out.size))
        have HO := Lib.hid ho
        have P2 := Lib.hid op
        clear b2 B1 ho op
        go_wp2_with fail
        refine (specParseScript_any t _ (by omega)).mono ?_
        rintro e w3 ⟨q, o', rfl, ho', oq, b3⟩
        obtain rfl := ScIs.uniq ho' HO.out
        have B3 := Lib.hid (B2.out.trans (b3.mono B2.out.size))
        have P3 := Lib.hid (P2.out.below b3)
        have Q3 := Lib.hid oq
        clear b3 B2 P2 HO ho' oq
        go_wp2_with fail
        refine (rSteps_same p q (o'.getD []) _ P3.out.rd Q3.out.rd).mono ?_
        rintro e w4 ⟨rfl, b4⟩
        have B4 := Lib.hid (B3.out.trans (b4.mono B3.out.size))
        clear b4 B3 P3 Q3
        go_wp2_with fail
        refine (drawCalmScript_any v bs _ (R0.out.below B4.out)).mono ?_
        rintro e w5 ⟨vc, xs, rfl, oc, hl, sc, b5⟩
        have B5 := Lib.hid (B4.out.trans (b5.mono B4.out.size))
        have L5 := Lib.hid oc
        clear b5 B4 oc sc ht
        have HF := Lib.hid (fun h => calm_facts (xs := xs) h)
        have HI := Lib.hid (fun w h => implCalm_any vc xs w h)
        have HS := Lib.hid (fun w h => specCalm_any vc xs w h)
        have HC := Lib.hid (fun w h => implCount_any vc xs w h)
        go_wp2_with fail
        refine (HI.out _ L5.out.rd).mono ?_
        rintro e w6 ⟨u, rfl, ou, b6⟩
        have B6 := Lib.hid (B5.out.trans (b6.mono B5.out.size))
        have L6 := Lib.hid (L5.out.below b6)
        have U6 := Lib.hid ou
        clear b6 B5 L5 ou HI
        go_wp2_with fail
        refine (HS.out _ L6.out.rd).mono ?_
        rintro e w7 ⟨z, rfl, oz, b7⟩
        have B7 := Lib.hid (B6.out.trans (b7.mono B6.out.size))
        have L7 := Lib.hid (L6.out.below b7)
        have U7 := Lib.hid (U6.out.below b7)
        have Z7 := Lib.hid oz
        clear b7 B6 L6 U6 oz HS
        go_wp2_with fail
        refine (rSteps_same u z (calmL xs) _ U7.out.rd Z7.out.rd).mono ?_
        rintro e w8 ⟨rfl, b8⟩
        have B8 := Lib.hid (B7.out.trans (b8.mono B7.out.size))
        have L8 := Lib.hid (L7.out.below b8)
        have U8 := Lib.hid (U7.out.below b8)
        clear b8 B7 L7 U7 Z7
        have HC2 := Lib.hid (fun w h => implCount_any u (calmL xs) w h)
        generalize calmL xs = ys at *
        obtain ⟨pc, capc, bc, ofc, rfl, _, _, _⟩ := L8.out.rd.parts
        obtain ⟨pu, capu, bu, ofu, rfl, _, _, _⟩ := U8.out.rd.parts
        cases hB : scB xs
        · rw [hB] at HC
          go_wp2_with fail
          go_ret
          exact ⟨rfl, B8.out⟩
        · obtain ⟨f1, f2, f3, c0, c1, c2, c3, c4, c5, d0, d1, d3, d4, e1, e2, s1, s2, s3⟩ := HF.out hB
          rw [hB, e1] at HC
          rw [f1, e2] at HC2
          clear HF hB f1 e1 e2 f2
          have S1 := Lib.hid s1; have S2 := Lib.hid s2; have S3 := Lib.hid s3; have F3 := Lib.hid f3
          clear s1 s2 s3 f3
          go_wp2_with fail
          refine (HC.out _ L8.out.rd).mono ?_
          rintro e w9 ⟨k1, rfl, ok1, b9⟩
          have B9 := Lib.hid (B8.out.trans (b9.mono B8.out.size))
          have U9 := Lib.hid (U8.out.below b9)
          have K9 := Lib.hid ok1
          clear b9 B8 L8 U8 ok1 HC
          go_wp2_with fail
          refine (HC2.out _ U9.out.rd).mono ?_
          rintro e w10 ⟨k2, rfl, ok2, b10⟩
          have B10 := Lib.hid (B9.out.trans (b10.mono B9.out.size))
          have K10 := Lib.hid (K9.out.below b10)
          have M10 := Lib.hid ok2
          clear b10 B9 U9 ok2 K9 HC2
          obtain ⟨cap1, g1, o1, hv1, hc1, r1, r2, r4, r5⟩ := six_cells K10.out.rd
          subst hv1
          obtain ⟨cap2, g2, o2, hv2, hc2, q1, q2, q4, q5⟩ := six_cells M10.out.rd
          subst hv2
          have HSw := Lib.hid (fun n => (rsum6 _ d0 d1 d3 d4 xs.length (w10.drewN n) (M10.out.rd.below (below_eq ⟨n, rfl⟩)) S1.out F3.out).mono (fun e w' h => (⟨h.1, ⟨n, h.2.symm⟩⟩ : e = .returned (.int .i64 (xs.length : Int)) ∧ ∃ m, w' = w10.drewN m)))
          have s1 := S1.out
          have f3 := F3.out
          have s2 := S2.out
          have s3 := S3.out
          have a1 : IntKind.i64.wrap ((c1 : Int) + (c2 : Int)) = (d1 : Int) := by rw [IntKind.wrap_i64]; omega
          have a4 : IntKind.i64.wrap ((c4 : Int) + (c5 : Int)) = (d4 : Int) := by rw [IntKind.wrap_i64]; omega
          clear s1 f3 s2 s3 K10 M10 S1 S2 S3 F3
          go_wp2_with fail
          go_quiet ((go_at_call 24; exact HSw.out _))
          go_wp2_with fail
          go_ret
          exact ⟨rfl, B10.out.trans ((below_eq ⟨_, rfl⟩).mono B10.out.size)⟩

set_option maxRecDepth 100000 in
theorem lifted (os : Os) (started : os.Started) (H : Type) (enc : TypeId × Value → H) :
    ReturnsInHanded {} Tryz.checked os 3 .any (fun w args => (Rows.fnScriptsSpec.pre enc Tryz.prog Tryz.f3 Rows.fnScriptsRow.domain false w args ∧ laidMetH Tryz.prog Rows.fnScriptsRow.laid w) ∧ sizedMet enc Tryz.prog Tryz.f3 (OpenSpec.ofChange Rows.fnScriptsSpec) false w args) (Rows.fnScriptsSpec.post enc Tryz.prog Tryz.f3 false true false false) := by
  refine returnsInHanded_of_change_and (C := Tryz.checked) (X := fun w _ => laidMetH Tryz.prog Rows.fnScriptsRow.laid w) (fun _ _ _ hh h => h.of_heap hh) lk_own started (by kernel_rfl) Tryz.func3
    (ChangeSpec.witness_shaped (enc := enc) (C := Tryz.checked) (os := os) (X := fun w _ => laidMetH Tryz.prog Rows.fnScriptsRow.laid w) false (World.laidAll Tryz.prog os Rows.fnScriptsRow.laid) #[.slice none 0 0] 8 (World.laidAll_os _ _ _)
      (World.shaped_of_ZipB (by kernel_rfl) (by kernel_rfl)) (by kernel_rfl) (by kernel_rfl) (by kernel_rfl)
      (by rw [MakeChecks.laidMetH_plain _ _ _ (by kernel_rfl)]; exact laidMet_laidAll _ (by kernel_rfl) (by kernel_rfl))) ?_
  intro W base args ds gs before hval0 hW _ _ hL _
  have hval : ∀ (j : Nat) t v, Tryz.f3.params[j]? = some t → args[j]? = some v → Value.okWide Tryz.prog W .any base t v := hval0
  have hW' := hW
  obtain ⟨p, q, hA0, hV, rfl, _, _⟩ := hW
  have hA : DataW.TrodAll enc Tryz.prog W 0 (fun _ => true) true Tryz.f3.params.toList args.toList ds p := hA0
  rw [Tryz.params3] at hA hval
  obtain ⟨v0, vs0, d0, ds0, p0, q0, hargs, rfl, rfl, h0, r0⟩ := trodAll_cons hA
  obtain ⟨rfl, rfl, rfl⟩ := trodAll_nil r0
  obtain rfl : args = #[v0] := by cases args; simp_all
  obtain ⟨_, _, _, _, dv, _, rfl, _⟩ := trodVars_one hV
  clear hA0 hval0
  have x0 := open_argY (hval 0 22 v0 rfl rfl) h0
  have hL0 := hL
  rw [MakeChecks.laidMetH_plain _ _ _ (by kernel_rfl)] at hL0
  clear hL
  refine (walk (hpow10 := pow10_of hL0 (by unfold Rows.fnScriptsRow; repeat (first | exact List.Mem.head _ | refine List.Mem.tail _ ?_))) (herrs := errs_of hL0 (by unfold Rows.fnScriptsRow; refine ⟨?_, ?_⟩ <;> repeat (first | exact List.Mem.head _ | refine List.Mem.tail _ ?_))) (hwords := words_of hL0 (by unfold Rows.fnScriptsRow; repeat (first | exact List.Mem.head _ | refine List.Mem.tail _ ?_))) v0 W x0).mono fun e W' ⟨he, hb⟩ => ?_
  subst he
  exact ⟨_, rfl, post_lawV hW' rfl (by kernel_rfl) (by kernel_rfl) rfl rfl rfl hb⟩

theorem over : Rows.fnScriptsRow.holds Tryz.pinned (OpenSpec.ofChange Rows.fnScriptsSpec) :=
  OpenClaim.holds_of_wide 3 Tryz.f3 rfl rfl rfl rfl rfl rfl rfl ⟨rfl, rfl, rfl, rfl, rfl⟩ rfl rfl rfl rfl rfl (by kernel_rfl) Tryz.func3 (by kernel_rfl)
    (of_decide_eq_true (by kernel_rfl)) (by unfold Func.isWrapper; first | (rw [if_pos (by decide +kernel)]; kernel_rfl) | (rw [if_neg (by decide +kernel)]; exact ⟨rfl, rfl⟩))
    (fun os started H enc _ => lifted os started H enc)

theorem proved : Rows.FnScriptsCardSaid :=
  Claim7.holds_tied_plain_at .later [] [.data, .data, .data, .data, .sentinel, .sentinel, .data, .pinned] true (true, "73c83c2cd376dc5a700f8139e136a736de30a106f47cae8196cf392dd9f29cf2") true over (fun _ h => by cases h) (by kernel_rfl) (fun _ h => by cases h) fnScripts_row_tie rfl ⟨rfl, rfl⟩ (by kernel_rfl) rfl
    (fun f fn hf hfn => by
      obtain rfl : f = 3 := Option.some.inj ((show Tryz.prog.funcNamed Rows.fnScriptsRow.func = some 3 by kernel_rfl).symm.trans hf) |>.symm
      obtain rfl : fn = Tryz.f3 := (Option.some.inj (Tryz.func3.symm.trans hfn)).symm
      exact ⟨by kernel_rfl, fun j t ht => by
        rw [Tryz.params3] at ht
        have hm : t ∈ [22] := by simpa using Array.mem_of_getElem? ht
        have hall : ([22].all fun u => !Tryz.prog.wantsStandIn u) = true := by kernel_rfl
        exact (show Tryz.prog.wantsStandIn t = false by simpa using List.all_eq_true.1 hall t hm)⟩)
    (by kernel_rfl)
#print axioms proved
end Go.Proofs.YtgmccafmopgjaaaGreatDoor.FnScripts
