/- The law FnTraces: events are recovered from their texts, and an added event stands behind all of its tick; where the table of words, the library's table of powers and its two errors hold what is laid. -/
import Derived.Test.YtohbkohidpgjpaaGreatDoorTrAll
import Derived.Test.YtohbkohidpgjpaaGreatDoorEvAddS
import Derived.Test.YtohbkohidpgjpaaGreatDoorLawKit
import Derived.Deep.CutBlock
import Derived.Deep.DeepCutAuto
namespace Go.Proofs.YtohbkohidpgjpaaGreatDoor.FnTraces
open Go.ChangeShapes Go.WideShapes Go.ChangeAt Go.RowKit

theorem pe_back {x : Ev} {o : Option Ev} (h : PeIs (evtV x) o) (hB : evB x = true) : o = some x := by
  rw [evtV, if_pos hB] at h
  exact h.uniq (show PeIs _ (some x) from ⟨hB, rfl⟩)
set_option maxRecDepth 100000 in
set_option maxHeartbeats 16000000 in
theorem walk (v : Value) (w : World) (htrwords : TrAt w) (hpow10 : PowAt w) (herrs : ErrAt w) (hx : ArgY w v) :
    Calls Tryz.prog 3 #[v] w fun e w' => e = .returned (.bool true) ∧ Below w.heap.size w w' := by
  obtain ⟨bs, hbs⟩ := hx
  by_cases hbig : 65536 < bs.length
  · go_enter Tryz.func3, Tryz.ntmps3
    go_wp2_with fail
    refine (rBig_any v bs w hbs).mono ?_
    rintro e w' ⟨rfl, rfl⟩
    go_wp2_with fail
    go_ret
    exact ⟨rfl, Below.refl _ _⟩
  have R0 := Lib.hid (hbs.1 (by omega))
  have HW := Lib.hid htrwords; clear htrwords
  have HP := Lib.hid hpow10; clear hpow10
  have HE := Lib.hid herrs; clear herrs
  go_enter Tryz.func3, Tryz.ntmps3
  go_wp2_with fail
  refine (rBig_any v bs w hbs).mono ?_
  rintro e w' ⟨rfl, rfl⟩
  go_wp2_with fail
  refine (drawEvText_any v bs w R0.out).mono ?_
  rintro e w1 ⟨x, rfl, b1⟩
  have B1 := Lib.hid b1; clear b1 hbs hbig
  have HT := Lib.hid (fun W a b => implText17_any x W a b)
  have HS := Lib.hid (fun W => specText17_any x W)
  have HBk := Lib.hid (fun o h hB => pe_back (x := x) (o := o) h hB)
  have hsz := evtV_size x
  obtain ⟨xt, xn, xk, xm⟩ := x
  generalize evtV ⟨xt, xn, xk, xm⟩ = tx at *
  generalize evB ⟨xt, xn, xk, xm⟩ = bx at *
  have L1 : Hid (Below w.heap.size w (w1.alloc (.cells #[.int .i64 xt, .int .i64 xn, .int .i64 xk, .int .i64 xm] 25))) := Lib.hid (B1.out.trans (Below.mono (by go_grown) B1.out.size))
  go_wp2_with fail
  refine (HT.out _ (HW.out.below L1.out) (HP.out.below L1.out)).mono ?_
  rintro e w2 ⟨rfl, b2⟩
  have B2 := Lib.hid (L1.out.trans (b2.mono L1.out.size))
  have X2 : Hid (w2.heap[w1.heap.size]? = some (.cells #[.int .i64 xt, .int .i64 xn, .int .i64 xk, .int .i64 xm] 25 (0, 0))) := Lib.hid ((b2.block w1.heap.size (by simp)).trans (heap_alloc_new _ _))
  clear b2
  obtain ⟨y0, y1, y2, y3⟩ := boxEv X2.out
  have yl : w1.heap.size < w2.heap.size := (Array.getElem?_eq_some_iff.1 X2.out).1
  go_wp2_with fail
  refine (HS.out _).mono ?_
  rintro e w3 ⟨rfl, b3⟩
  have B3 := Lib.hid (B2.out.trans (b3.mono B2.out.size))
  have X3 := Lib.hid ((b3.block w1.heap.size yl).trans X2.out)
  clear b3 y0 y1 y2 y3 HT HS X2
  go_wp2_with fail
  refine (implParseEvent_any tx w3 (by omega) (HW.out.below B3.out) (HP.out.below B3.out) (HE.out.below B3.out)).mono ?_
  rintro e w4 ⟨o, he, ho, b4⟩
  have B4 := Lib.hid (B3.out.trans (b4.mono B3.out.size))
  have yl3 : w1.heap.size < w3.heap.size := (Array.getElem?_eq_some_iff.1 X3.out).1
  have X4 := Lib.hid ((b4.block w1.heap.size yl3).trans X3.out)
  clear b4 X3 yl yl3
  have HO : Hid (bx = true → o = some ⟨xt, xn, xk, xm⟩) := Lib.hid (fun h => HBk.out o ho h)
  rw [peEnd_eq] at he
  subst he
  clear ho HBk
  have yl4 : w1.heap.size < w4.heap.size := (Array.getElem?_eq_some_iff.1 X4.out).1
  have hY : ∀ a : Ev, o.getD ⟨0, 0, 0, 0⟩ = a → True := fun _ _ => trivial
  clear hY
  obtain ⟨a, ha⟩ : ∃ a, o.getD ⟨0, 0, 0, 0⟩ = a := ⟨_, rfl⟩
  obtain ⟨f, hf⟩ : ∃ f, o.isSome = f := ⟨_, rfl⟩
  have HO2 : Hid (bx = true → a = ⟨xt, xn, xk, xm⟩ ∧ f = true) := Lib.hid (fun h => by rw [HO.out h] at ha hf; exact ⟨ha.symm, hf.symm⟩)
  rw [ha, hf]
  clear ha hf HO
  obtain ⟨at', an, ak, am⟩ := a
  have L4 : Hid (Below w.heap.size w (w4.alloc (.cells #[.int .i64 at', .int .i64 an, .int .i64 ak, .int .i64 am] 25))) := Lib.hid (B4.out.trans (Below.mono (by go_grown) B4.out.size))
  go_upto_region 9 with (fail)
  go_cut [71] (fun x wx => x = .bool false ∧ Hid (Below w.heap.size w wx) ∧ wx = w4.alloc (.cells #[.int .i64 at', .int .i64 an, .int .i64 ak, .int .i64 am] 25))
  case first =>
    as_aux_lemma =>
    have X5 : Hid ((w4.alloc (.cells #[.int .i64 at', .int .i64 an, .int .i64 ak, .int .i64 am] 25)).heap[w1.heap.size]? = some (.cells #[.int .i64 xt, .int .i64 xn, .int .i64 xk, .int .i64 xm] 25 (0, 0))) := Lib.hid ((Below.heap_alloc _ _ _ yl4).trans X4.out)
    obtain ⟨y0, y1, y2, y3⟩ := boxEv X5.out
    cases bx
    · go_wp2_with fail
      go_meet
      exact ⟨rfl, L4, rfl⟩
    · obtain ⟨hh, rfl⟩ := HO2.out rfl
      cases hh
      go_wp2_with fail
      go_meet
      exact ⟨rfl, L4, rfl⟩
  case rest =>
    obtain ⟨rfl, B5, hw5⟩ := hcut
    rename World => w5
    clear hw5 L4 X4 yl4 HO2 B4 B3 B2 L1 B1
    go_wp2_with fail
    refine (drawParse_any v bs _ (R0.out.below B5.out)).mono ?_
    rintro e w6 ⟨s, rfl, hs, b6⟩
    have B6 := Lib.hid (B5.out.trans (b6.mono B5.out.size)); clear b6 B5
    go_wp2_with fail
    refine (implParseEvent_any s w6 hs (HW.out.below B6.out) (HP.out.below B6.out) (HE.out.below B6.out)).mono ?_
    rintro e w7 ⟨o1, he, ho, b7⟩
    have B7 := Lib.hid (B6.out.trans (b7.mono B6.out.size)); clear b7 B6
    have HO := Lib.hid ho; clear ho
    have HPe := Lib.hid (peEnd_eq o1)
    rw [peEnd_eq] at he
    subst he
    generalize hx : o1.getD ⟨0, 0, 0, 0⟩ = x at *
    generalize hf : o1.isSome = f1 at *
    have HX := Lib.hid hx; clear hx
    have HF := Lib.hid hf; clear hf
    obtain ⟨ct, cn, ck, cm⟩ := x
    have L7 : Hid (Below w.heap.size w (w7.alloc (.cells #[.int .i64 ct, .int .i64 cn, .int .i64 ck, .int .i64 cm] 25))) := Lib.hid (B7.out.trans (Below.mono (by go_grown) B7.out.size))
    go_wp2_with fail
    refine (specParseEvent_any s _ hs).mono ?_
    rintro e w8 ⟨o2, he2, ho2, b8⟩
    obtain rfl := PeIs.uniq ho2 HO.out
    rw [HPe.out] at he2
    subst he2
    have X8 : Hid (w8.heap[w7.heap.size]? = some (.cells #[.int .i64 ct, .int .i64 cn, .int .i64 ck, .int .i64 cm] 25 (0, 0))) := Lib.hid ((b8.block w7.heap.size (by simp)).trans (heap_alloc_new _ _))
    have B8 : Hid (Below w.heap.size w w8) := Lib.hid (L7.out.trans (b8.mono L7.out.size))
    clear b8 ho2 L7 B7
    have yl8 : w7.heap.size < w8.heap.size := (Array.getElem?_eq_some_iff.1 X8.out).1
    have X9 := Lib.hid ((Below.heap_alloc w8 (.cells #[.int .i64 ct, .int .i64 cn, .int .i64 ck, .int .i64 cm] 25) _ yl8).trans X8.out)
    obtain ⟨y0, y1, y2, y3⟩ := boxEv X9.out
    have L8 : Hid (Below w.heap.size w (w8.alloc (.cells #[.int .i64 ct, .int .i64 cn, .int .i64 ck, .int .i64 cm] 25))) := Lib.hid (B8.out.trans (Below.mono (by go_grown) B8.out.size))
    go_wp2_with fail
    refine (drawAdd_any v bs _ (R0.out.below L8.out)).mono ?_
    clear y0 y1 y2 y3 X9 X8 yl8 B8
    rintro e w9 ⟨ul, xs, x, rfl, o9, l9, b9⟩
    have O9 := Lib.hid o9; clear o9
    have B9 := Lib.hid (L8.out.trans (b9.mono L8.out.size)); clear b9 L8
    have HA := Lib.hid (fun W h => implAdd_any ul xs x W h)
    have HS := Lib.hid (fun W h => specAdd_any ul xs x W h)
    have HM := Lib.hid (fun u2 W h h2 => implMerge_any ul u2 xs [x] W h h2)
    have HMB := Lib.hid (fun h => mg_facts (xs := xs) (ys := [x]) h)
    obtain ⟨dt, dn, dk, dm⟩ := x
    generalize hmb : mgB xs [⟨dt, dn, dk, dm⟩] = mb at *
    have HMl := Lib.hid hmb; clear hmb
    generalize mgL xs [⟨dt, dn, dk, dm⟩] = ml at *
    obtain ⟨p9, cap9, g9, rfl, _, _⟩ := own_shape O9.out.1
    have L9 : Hid (Below w.heap.size w (w9.alloc (.cells #[.int .i64 dt, .int .i64 dn, .int .i64 dk, .int .i64 dm] 25))) := Lib.hid (B9.out.trans (Below.mono (by go_grown) B9.out.size))
    have OL9 := Lib.hid (O9.out.below (below_alloc1 w9 (.cells #[.int .i64 dt, .int .i64 dn, .int .i64 dk, .int .i64 dm] 25)))
    go_wp2_with fail
    refine (HA.out _ OL9.out.rd).mono ?_
    rintro e w10 ⟨ug, rfl, o10, b10⟩
    have B10 := Lib.hid (L9.out.trans (b10.mono L9.out.size))
    have O10 := Lib.hid (OL9.out.below b10)
    have G10 := Lib.hid o10; clear o10
    have X10 : Hid (w10.heap[w9.heap.size]? = some (.cells #[.int .i64 dt, .int .i64 dn, .int .i64 dk, .int .i64 dm] 25 (0, 0))) := Lib.hid ((b10.block w9.heap.size (by simp)).trans (heap_alloc_new _ _))
    clear b10 L9 OL9
    obtain ⟨y0, y1, y2, y3⟩ := boxEv X10.out
    have yl : w9.heap.size < w10.heap.size := (Array.getElem?_eq_some_iff.1 X10.out).1
    go_wp2_with fail
    refine (HS.out _ O10.out.rd).mono ?_
    rintro e w11 ⟨us, rfl, o11, b11⟩
    have B11 := Lib.hid (B10.out.trans (b11.mono B10.out.size))
    have O11 := Lib.hid (O10.out.below b11)
    have G11 := Lib.hid (G10.out.below b11)
    have S11 := Lib.hid o11; clear o11
    have X11 := Lib.hid ((b11.block w9.heap.size yl).trans X10.out)
    clear b11 y0 y1 y2 y3 yl X10 B10 O10 G10 HA HS
    go_wp2_with fail
    refine (rEvents_same _ _ ml _ G11.out.rd S11.out.rd).mono ?_
    rintro e w12 ⟨rfl, b12⟩
    have B12 := Lib.hid (B11.out.trans (b12.mono B11.out.size))
    have O12 := Lib.hid (O11.out.below b12)
    have G12 := Lib.hid (G11.out.below b12)
    have yl : w9.heap.size < w11.heap.size := (Array.getElem?_eq_some_iff.1 X11.out).1
    have X12 := Lib.hid ((b12.block w9.heap.size yl).trans X11.out)
    clear b12 yl X11 B11 O11 G11 S11
    go_upto_if 118 with (fail)
    go_cut [] (fun wx => Hid (Below w.heap.size w wx))
    case first =>
      as_aux_lemma =>
      cases mb
      · go_wp2_with fail
        go_meet
        exact B12
      · have HTm := Lib.hid (HMB.out rfl).1
        obtain ⟨y0, y1, y2, y3⟩ := boxEv X12.out
        have yl : w9.heap.size < w12.heap.size := (Array.getElem?_eq_some_iff.1 X12.out).1
        have L12 : Hid (Below w.heap.size w (w12.alloc (.cells #[.int .i64 dt, .int .i64 dn, .int .i64 dk, .int .i64 dm] 25))) := Lib.hid (B12.out.trans (Below.mono (by go_grown) B12.out.size))
        have HLit : Hid (RdEv (w12.alloc (.cells #[.int .i64 dt, .int .i64 dn, .int .i64 dk, .int .i64 dm] 25)) (.slice (some ⟨w12.heap.size, 0, none⟩) 1 1) [⟨dt, dn, dk, dm⟩]) := Lib.hid ⟨rd_of_own (World.ownsRow_lit (base := w12.heap.size) (e := 25) (size := 4) w12 #[.int .i64 dt, .int .i64 dn, .int .i64 dk, .int .i64 dm] 1 (Nat.le_refl _) (by unfold maxLen; omega) rfl), by simp⟩
        have OL := Lib.hid (O12.out.below (below_alloc1 w12 (.cells #[.int .i64 dt, .int .i64 dn, .int .i64 dk, .int .i64 dm] 25)))
        have GL := Lib.hid (G12.out.below (below_alloc1 w12 (.cells #[.int .i64 dt, .int .i64 dn, .int .i64 dk, .int .i64 dm] 25)))
        go_wp2_with fail
        refine (HM.out _ _ OL.out.rd HLit.out).mono ?_
        rintro e w13 ⟨uj, rfl, o13, b13⟩
        have B13 := Lib.hid (L12.out.trans (b13.mono L12.out.size))
        have G13 := Lib.hid (GL.out.below b13)
        have J13 := Lib.hid o13; clear o13 b13
        have HT := Lib.hid (isTrace_any ug ml w13 G13.out.rd)
        rw [HTm.out] at HT
        go_wp2_with fail
        refine HT.out.mono ?_
        rintro e w14 ⟨rfl, b14⟩
        have B14 := Lib.hid (B13.out.trans (b14.mono B13.out.size))
        have G14 := Lib.hid (G13.out.below b14)
        have J14 := Lib.hid (J13.out.below b14); clear b14
        go_wp2_with fail
        refine (rEvents_same _ _ ml _ J14.out.rd G14.out.rd).mono ?_
        rintro e w15 ⟨rfl, b15⟩
        have B15 := Lib.hid (B14.out.trans (b15.mono B14.out.size)); clear b15
        go_wp2_with fail
        go_meet
        exact B15
    case rest =>
      clear B12 O12 G12 X12 HM HMB HMl
      rename World => w16
      have B16 := hcut; clear hcut
      go_wp2_with fail
      refine (drawMerge_any v bs _ (R0.out.below B16.out)).mono ?_
      rintro e w17 ⟨ua, ub, ys, zs, rfl, oa, ob, la, lb, b17⟩
      have B17 := Lib.hid (B16.out.trans (b17.mono B16.out.size)); clear b17 B16
      have A17 := Lib.hid oa; clear oa
      have Z17 := Lib.hid ob; clear ob
      have HA := Lib.hid (fun W h h2 => implMerge_any ua ub ys zs W h h2)
      have HS := Lib.hid (fun W h h2 => specMerge_any ua ub ys zs W h h2)
      have HMB := Lib.hid (fun h => mg_facts (xs := ys) (ys := zs) h)
      generalize mgB ys zs = mc at *
      generalize mgL ys zs = mm at *
      obtain ⟨pa, capa, ga, rfl, _, _⟩ := own_shape A17.out.1
      obtain ⟨pb, capb, gb, rfl, _, _⟩ := own_shape Z17.out.1
      go_wp2_with fail
      refine (HA.out _ A17.out.rd Z17.out.rd).mono ?_
      rintro e w18 ⟨ug, rfl, o18, b18⟩
      have B18 := Lib.hid (B17.out.trans (b18.mono B17.out.size))
      have A18 := Lib.hid (A17.out.below b18)
      have Z18 := Lib.hid (Z17.out.below b18)
      have G18 := Lib.hid o18; clear o18 b18
      go_wp2_with fail
      refine (HS.out _ A18.out.rd Z18.out.rd).mono ?_
      rintro e w19 ⟨us, rfl, o19, b19⟩
      have B19 := Lib.hid (B18.out.trans (b19.mono B18.out.size))
      have G19 := Lib.hid (G18.out.below b19)
      have S19 := Lib.hid o19; clear o19 b19 HA HS A18 Z18 A17 Z17 G18 B18 B17
      obtain ⟨pg, capg, gg, rfl, _, _⟩ := own_shape G19.out.1
      go_upto_region 28 with (fail)
      go_cut [182] (fun x wx => x = .bool false ∧ Hid (Below w.heap.size w wx))
      case first =>
        as_aux_lemma =>
        cases mc
        · go_wp2_with fail
          refine (rEvents_same _ _ mm _ G19.out.rd S19.out.rd).mono ?_
          rintro e w20 ⟨rfl, b20⟩
          have B20 := Lib.hid (B19.out.trans (b20.mono B19.out.size)); clear b20
          go_wp2_with fail
          go_meet
          exact ⟨rfl, B20⟩
        · have hlm : (mm.length : Int) = ys.length + zs.length := by have := (HMB.out rfl).2; omega
          have HTm := (HMB.out rfl).1
          go_wp2_with fail
          refine (rEvents_same _ _ mm _ G19.out.rd S19.out.rd).mono ?_
          rintro e w20 ⟨rfl, b20⟩
          have B20 := Lib.hid (B19.out.trans (b20.mono B19.out.size))
          have G20 := Lib.hid (G19.out.below b20); clear b20
          have HT := Lib.hid (isTrace_any _ mm w20 G20.out.rd)
          rw [HTm] at HT
          clear HTm
          go_wp2_with fail
          refine HT.out.mono ?_
          rintro e w21 ⟨rfl, b21⟩
          have B21 := Lib.hid (B20.out.trans (b21.mono B20.out.size)); clear b21
          go_wp2_with fail
          go_meet
          exact ⟨rfl, B21⟩
      case rest =>
        obtain ⟨rfl, B22⟩ := hcut
        rename World => w22
        clear B19 G19 S19 HMB
        go_wp2_with fail
        refine (drawEvents_any v bs _ (R0.out.below B22.out)).mono ?_
        rintro e w23 ⟨ul, ls, nd, rfl, o23, l23, b23⟩
        have B23 := Lib.hid (B22.out.trans (b23.mono B22.out.size)); clear b23 B22
        have O23 := Lib.hid o23; clear o23
        have HA := Lib.hid (fun W h => implEvents_any nd ul ls W h)
        have HS := Lib.hid (fun W h => specEvents_any nd ul ls W h)
        generalize eaB ls nd = eb at *
        generalize eaL ls nd = el at *
        go_wp2_with fail
        refine (HA.out _ O23.out.rd).mono ?_
        rintro e w24 ⟨u1, rfl, o24, b24⟩
        have B24 := Lib.hid (B23.out.trans (b24.mono B23.out.size))
        have O24 := Lib.hid (O23.out.below b24)
        have I24 := Lib.hid o24; clear o24 b24
        go_wp2_with fail
        refine (HS.out _ O24.out.rd).mono ?_
        rintro e w25 ⟨u2, rfl, o25, b25⟩
        have B25 := Lib.hid (B24.out.trans (b25.mono B24.out.size))
        have I25 := Lib.hid (I24.out.below b25)
        have K25 := Lib.hid o25; clear o25 b25
        go_wp2_with fail
        refine (rInts_same _ _ el _ I25.out.rd K25.out.rd).mono ?_
        rintro e w26 ⟨rfl, b26⟩
        have B26 := Lib.hid (B25.out.trans (b26.mono B25.out.size)); clear b26
        go_wp2_with fail
        go_ret
        exact ⟨rfl, B26.out⟩
set_option maxRecDepth 100000 in
theorem lifted (os : Os) (started : os.Started) (H : Type) (enc : TypeId × Value → H) :
    ReturnsInHanded {} Tryz.checked os 3 .any (fun w args => (Rows.fnTracesSpec.pre enc Tryz.prog Tryz.f3 Rows.fnTracesRow.domain false w args ∧ laidMetH Tryz.prog Rows.fnTracesRow.laid w) ∧ sizedMet enc Tryz.prog Tryz.f3 (OpenSpec.ofChange Rows.fnTracesSpec) false w args) (Rows.fnTracesSpec.post enc Tryz.prog Tryz.f3 false true false false) := by
  refine returnsInHanded_of_change_and (C := Tryz.checked) (X := fun w _ => laidMetH Tryz.prog Rows.fnTracesRow.laid w) (fun _ _ _ hh h => h.of_heap hh) lk_own started (by kernel_rfl) Tryz.func3
    (ChangeSpec.witness_shaped (enc := enc) (C := Tryz.checked) (os := os) (X := fun w _ => laidMetH Tryz.prog Rows.fnTracesRow.laid w) false (World.laidAll Tryz.prog os Rows.fnTracesRow.laid) #[.slice none 0 0] 8 (World.laidAll_os _ _ _)
      (World.shaped_of_ZipB (by kernel_rfl) (by kernel_rfl)) (by kernel_rfl) (by kernel_rfl) (by kernel_rfl)
      (by rw [MakeChecks.laidMetH_plain _ _ _ (by kernel_rfl)]; exact laidMet_laidAll _ (by kernel_rfl) (by kernel_rfl))) ?_
  intro W base args ds gs before hval0 hW _ _ hL _
  have hval : ∀ (j : Nat) t v, Tryz.f3.params[j]? = some t → args[j]? = some v → Value.okWide Tryz.prog W .any base t v := hval0
  have hW' := hW
  obtain ⟨p, q, hA0, hV, rfl, _, _⟩ := hW
  have hA : DataW.TrodAll enc Tryz.prog W 0 (fun _ => true) true Tryz.f3.params.toList args.toList ds p := hA0
  rw [Tryz.params3] at hA hval
  obtain ⟨v0, vs0, d0, ds0, p0, q0, hargs, rfl, rfl, h0, r0⟩ := trodAll_cons hA
  obtain ⟨rfl, rfl, rfl⟩ := trodAll_nil r0
  obtain rfl : args = #[v0] := by cases args; simp_all
  obtain ⟨_, _, _, _, dv, _, rfl, _⟩ := trodVars_one hV
  clear hA0 hval0
  have x0 := open_argY (hval 0 22 v0 rfl rfl) h0
  have hL0 := hL
  rw [MakeChecks.laidMetH_plain _ _ _ (by kernel_rfl)] at hL0
  clear hL
  refine (walk (herrs := errs_of hL0 (by unfold Rows.fnTracesRow; refine ⟨?_, ?_⟩ <;> repeat (first | exact List.Mem.head _ | refine List.Mem.tail _ ?_))) (htrwords := trwords_of hL0 (by unfold Rows.fnTracesRow; repeat (first | exact List.Mem.head _ | refine List.Mem.tail _ ?_))) (hpow10 := pow10_of hL0 (by unfold Rows.fnTracesRow; repeat (first | exact List.Mem.head _ | refine List.Mem.tail _ ?_))) v0 W x0).mono fun e W' ⟨he, hb⟩ => ?_
  subst he
  exact ⟨_, rfl, post_lawV hW' rfl (by kernel_rfl) (by kernel_rfl) rfl rfl rfl hb⟩

theorem over : Rows.fnTracesRow.holds Tryz.pinned (OpenSpec.ofChange Rows.fnTracesSpec) :=
  OpenClaim.holds_of_wide 3 Tryz.f3 rfl rfl rfl rfl rfl rfl rfl ⟨rfl, rfl, rfl, rfl, rfl⟩ rfl rfl rfl rfl rfl (by kernel_rfl) Tryz.func3 (by kernel_rfl)
    (of_decide_eq_true (by kernel_rfl)) (by unfold Func.isWrapper; first | (rw [if_pos (by decide +kernel)]; kernel_rfl) | (rw [if_neg (by decide +kernel)]; exact ⟨rfl, rfl⟩))
    (fun os started H enc _ => lifted os started H enc)

theorem proved : Rows.FnTracesCardSaid :=
  Claim7.holds_tied_plain_at .later [] [.data, .data, .data, .data, .sentinel, .sentinel, .widerDeep, .pinned] true (true, "a1bc2dd33de793495e0255a5adbe050d89addb2cc207bbd79f2a28ae34297739") true over (fun _ h => by cases h) (by kernel_rfl) (fun _ h => by cases h) fnTraces_row_tie rfl ⟨rfl, rfl⟩ (by kernel_rfl) rfl
    (fun f fn hf hfn => by
      obtain rfl : f = 3 := Option.some.inj ((show Tryz.prog.funcNamed Rows.fnTracesRow.func = some 3 by kernel_rfl).symm.trans hf) |>.symm
      obtain rfl : fn = Tryz.f3 := (Option.some.inj (Tryz.func3.symm.trans hfn)).symm
      exact ⟨by kernel_rfl, fun j t ht => by
        rw [Tryz.params3] at ht
        have hm : t ∈ [22] := by simpa using Array.mem_of_getElem? ht
        have hall : ([22].all fun u => !Tryz.prog.wantsStandIn u) = true := by kernel_rfl
        exact (show Tryz.prog.wantsStandIn t = false by simpa using List.all_eq_true.1 hall t hm)⟩)
    (by kernel_rfl)
#print axioms proved
end Go.Proofs.YtohbkohidpgjpaaGreatDoor.FnTraces
