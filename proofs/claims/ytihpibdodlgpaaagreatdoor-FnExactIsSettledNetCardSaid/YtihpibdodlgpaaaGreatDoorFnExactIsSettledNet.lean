/- The law FnExactIsSettledNet: the program's IsSettledNet is the reference's, for every network; the argument is left as it was. No condition. -/
import Derived.Test.YtihpibdodlgpaaaGreatDoorNetT2
import Derived.Test.YtihpibdodlgpaaaGreatDoorNetT2s
import Derived.Test.YtihpibdodlgpaaaGreatDoorNetSz
import Derived.Test.YtihpibdodlgpaaaGreatDoorNetToD
import Derived.Test.YtihpibdodlgpaaaGreatDoorNetEqD
import Derived.Test.YtihpibdodlgpaaaGreatDoorNetO2
import Derived.Test.YtihpibdodlgpaaaGreatDoorKeep
import Derived.Test.YtihpibdodlgpaaaGreatDoorLawKit
namespace Go.Proofs.YtihpibdodlgpaaaGreatDoor.FnExactIsSettledNet
open Go.ChangeShapes Go.WideShapes Go.ChangeAt Go.RowKit

set_option maxRecDepth 100000 in
set_option maxHeartbeats 4000000 in
theorem walk (v : Value) (w : World) (hx : ArgNt w v) :
    Calls Tryz.prog 4 #[v] w fun e w' => e = .returned (.bool true) ∧ Below w.heap.size w w' := by
  obtain ⟨x, cs, rfl, hC, hfb⟩ := hx
  obtain ⟨v0, v1, v2, v3, v4, v5, v6, rfl, h0, h1, h2, h3, h4, h5, h6⟩ := hC
  obtain ⟨⟨pa⟩, ⟨⟨tr, sz, it⟩, ck, qt, hs⟩, el, rc, dn, up⟩ := x
  dsimp only at h0 h1 h2 h3 h4 h5 h6 ⊢
  have H0 := Lib.hid h0
  obtain ⟨pp, pc, _, _, rfl, -, -, -⟩ := h0.parts
  clear h0
  have H1 := Lib.hid h1
  obtain ⟨q0, q1, _, _, rfl, -, -, -⟩ := h1.parts
  clear h1
  have H2 := Lib.hid h2
  obtain ⟨q2, q3, _, _, rfl, -, -, -⟩ := h2.parts
  clear h2
  have H3 := Lib.hid h3
  obtain ⟨pe, ce, _, _, rfl, -, -, -⟩ := h3.parts
  clear h3
  have H4 := Lib.hid h4
  obtain ⟨pr, cr, _, _, rfl, -, -, -⟩ := h4.parts
  clear h4
  have H5 := Lib.hid h5
  obtain ⟨pd, cd, _, _, rfl, -, -, -⟩ := h5.parts
  clear h5
  have H6 := Lib.hid h6
  obtain ⟨pu, cu, _, _, rfl, -, -, -⟩ := h6.parts
  clear h6
  have HSz := Lib.hid (fun W (hb : Below w.heap.size w W) => szNt_any (⟨⟨pa⟩, ⟨⟨tr, sz, it⟩, ck, qt, hs⟩, el, rc, dn, up⟩ : NNet) (.slice pp pa.length pc) (.slice q0 it.length q1) (.slice q2 hs.length q3) (.slice pe el.length ce) (.slice pr rc.length cr) (.slice pd dn.length cd) (.slice pu up.length cu) 1048576 W (H0.out.below hb) (H1.out.below hb) (H2.out.below hb) (H3.out.below hb) (H4.out.below hb) (H5.out.below hb) (H6.out.below hb) hfb (by omega) (by omega))
  have HTo := Lib.hid (fun (hf : fitNt 1048576 (⟨⟨pa⟩, ⟨⟨tr, sz, it⟩, ck, qt, hs⟩, el, rc, dn, up⟩ : NNet)) W (hb : Below w.heap.size w W) => toNt_any (⟨⟨pa⟩, ⟨⟨tr, sz, it⟩, ck, qt, hs⟩, el, rc, dn, up⟩ : NNet) (.slice pp pa.length pc) (.slice q0 it.length q1) (.slice q2 hs.length q3) (.slice pe el.length ce) (.slice pr rc.length cr) (.slice pd dn.length cd) (.slice pu up.length cu) W (H0.out.below hb) (H1.out.below hb) (H2.out.below hb) (H3.out.below hb) (H4.out.below hb) (H5.out.below hb) (H6.out.below hb) hf)
  have HSp := Lib.hid (fun (hf : fitNt 1048576 (⟨⟨pa⟩, ⟨⟨tr, sz, it⟩, ck, qt, hs⟩, el, rc, dn, up⟩ : NNet)) => sSettledNet_any (⟨⟨pa⟩, ⟨⟨tr, sz, it⟩, ck, qt, hs⟩, el, rc, dn, up⟩ : NNet))
  have HIm := Lib.hid (fun (hf : fitNt 1048576 (⟨⟨pa⟩, ⟨⟨tr, sz, it⟩, ck, qt, hs⟩, el, rc, dn, up⟩ : NNet)) => nSettledNet_any (⟨⟨pa⟩, ⟨⟨tr, sz, it⟩, ck, qt, hs⟩, el, rc, dn, up⟩ : NNet))
  have HEq := Lib.hid (fun (hf : fitNt 1048576 (⟨⟨pa⟩, ⟨⟨tr, sz, it⟩, ck, qt, hs⟩, el, rc, dn, up⟩ : NNet)) => eqNt_any (⟨⟨pa⟩, ⟨⟨tr, sz, it⟩, ck, qt, hs⟩, el, rc, dn, up⟩ : NNet))
  dsimp only at HSz HTo HSp HIm HEq
  obtain ⟨X, hX⟩ : ∃ X, (⟨⟨pa⟩, ⟨⟨tr, sz, it⟩, ck, qt, hs⟩, el, rc, dn, up⟩ : NNet) = X := ⟨_, rfl⟩
  rw [hX] at HSz HTo HSp HIm HEq
  clear hX hfb H0 H1 H2 H3 H4 H5 H6
  have hB : Below w.heap.size w (w.alloc (.cells #[.slice pp pa.length pc, .int .i64 tr, .int .i64 sz, .slice q0 it.length q1, .int .i64 ck, .int .i64 qt, .slice q2 hs.length q3, .slice pe el.length ce, .slice pr rc.length cr, .slice pd dn.length cd, .slice pu up.length cu] 35)) := below_alloc1 _ _
  have c0 : (w.alloc (.cells #[.slice pp pa.length pc, .int .i64 tr, .int .i64 sz, .slice q0 it.length q1, .int .i64 ck, .int .i64 qt, .slice q2 hs.length q3, .slice pe el.length ce, .slice pr rc.length cr, .slice pd dn.length cd, .slice pu up.length cu] 35)).cell? ⟨w.heap.size, 0, none⟩ = some (Value.slice pp pa.length pc) := by simp
  have c1 : (w.alloc (.cells #[.slice pp pa.length pc, .int .i64 tr, .int .i64 sz, .slice q0 it.length q1, .int .i64 ck, .int .i64 qt, .slice q2 hs.length q3, .slice pe el.length ce, .slice pr rc.length cr, .slice pd dn.length cd, .slice pu up.length cu] 35)).cell? ⟨w.heap.size, 1, none⟩ = some (Value.int .i64 tr) := by simp
  have c2 : (w.alloc (.cells #[.slice pp pa.length pc, .int .i64 tr, .int .i64 sz, .slice q0 it.length q1, .int .i64 ck, .int .i64 qt, .slice q2 hs.length q3, .slice pe el.length ce, .slice pr rc.length cr, .slice pd dn.length cd, .slice pu up.length cu] 35)).cell? ⟨w.heap.size, 2, none⟩ = some (Value.int .i64 sz) := by simp
  have c3 : (w.alloc (.cells #[.slice pp pa.length pc, .int .i64 tr, .int .i64 sz, .slice q0 it.length q1, .int .i64 ck, .int .i64 qt, .slice q2 hs.length q3, .slice pe el.length ce, .slice pr rc.length cr, .slice pd dn.length cd, .slice pu up.length cu] 35)).cell? ⟨w.heap.size, 3, none⟩ = some (Value.slice q0 it.length q1) := by simp
  have c4 : (w.alloc (.cells #[.slice pp pa.length pc, .int .i64 tr, .int .i64 sz, .slice q0 it.length q1, .int .i64 ck, .int .i64 qt, .slice q2 hs.length q3, .slice pe el.length ce, .slice pr rc.length cr, .slice pd dn.length cd, .slice pu up.length cu] 35)).cell? ⟨w.heap.size, 4, none⟩ = some (Value.int .i64 ck) := by simp
  have c5 : (w.alloc (.cells #[.slice pp pa.length pc, .int .i64 tr, .int .i64 sz, .slice q0 it.length q1, .int .i64 ck, .int .i64 qt, .slice q2 hs.length q3, .slice pe el.length ce, .slice pr rc.length cr, .slice pd dn.length cd, .slice pu up.length cu] 35)).cell? ⟨w.heap.size, 5, none⟩ = some (Value.int .i64 qt) := by simp
  have c6 : (w.alloc (.cells #[.slice pp pa.length pc, .int .i64 tr, .int .i64 sz, .slice q0 it.length q1, .int .i64 ck, .int .i64 qt, .slice q2 hs.length q3, .slice pe el.length ce, .slice pr rc.length cr, .slice pd dn.length cd, .slice pu up.length cu] 35)).cell? ⟨w.heap.size, 6, none⟩ = some (Value.slice q2 hs.length q3) := by simp
  have c7 : (w.alloc (.cells #[.slice pp pa.length pc, .int .i64 tr, .int .i64 sz, .slice q0 it.length q1, .int .i64 ck, .int .i64 qt, .slice q2 hs.length q3, .slice pe el.length ce, .slice pr rc.length cr, .slice pd dn.length cd, .slice pu up.length cu] 35)).cell? ⟨w.heap.size, 7, none⟩ = some (Value.slice pe el.length ce) := by simp
  have c8 : (w.alloc (.cells #[.slice pp pa.length pc, .int .i64 tr, .int .i64 sz, .slice q0 it.length q1, .int .i64 ck, .int .i64 qt, .slice q2 hs.length q3, .slice pe el.length ce, .slice pr rc.length cr, .slice pd dn.length cd, .slice pu up.length cu] 35)).cell? ⟨w.heap.size, 8, none⟩ = some (Value.slice pr rc.length cr) := by simp
  have c9 : (w.alloc (.cells #[.slice pp pa.length pc, .int .i64 tr, .int .i64 sz, .slice q0 it.length q1, .int .i64 ck, .int .i64 qt, .slice q2 hs.length q3, .slice pe el.length ce, .slice pr rc.length cr, .slice pd dn.length cd, .slice pu up.length cu] 35)).cell? ⟨w.heap.size, 9, none⟩ = some (Value.slice pd dn.length cd) := by simp
  have c10 : (w.alloc (.cells #[.slice pp pa.length pc, .int .i64 tr, .int .i64 sz, .slice q0 it.length q1, .int .i64 ck, .int .i64 qt, .slice q2 hs.length q3, .slice pe el.length ce, .slice pr rc.length cr, .slice pd dn.length cd, .slice pu up.length cu] 35)).cell? ⟨w.heap.size, 10, none⟩ = some (Value.slice pu up.length cu) := by simp
  go_enter Tryz.func4, Tryz.ntmps4
  go_wp2_with fail
  refine (HSz.out _ hB).mono ?_
  rintro e w1 ⟨r, rfl, hr, hbel⟩
  replace hB := hB.trans (hbel.mono hB.size)
  replace c0 := cell_on hbel c0
  replace c1 := cell_on hbel c1
  replace c2 := cell_on hbel c2
  replace c3 := cell_on hbel c3
  replace c4 := cell_on hbel c4
  replace c5 := cell_on hbel c5
  replace c6 := cell_on hbel c6
  replace c7 := cell_on hbel c7
  replace c8 := cell_on hbel c8
  replace c9 := cell_on hbel c9
  replace c10 := cell_on hbel c10
  clear hbel HSz
  by_cases hr0 : r < 0
  · go_wp2
    go_ret
    exact ⟨rfl, hB⟩
  have hf := (hr.resolve_left hr0).2.2
  have hr1 : 0 ≤ r := (hr.resolve_left hr0).1
  replace HTo := Lib.hid (HTo.out hf)
  replace HSp := Lib.hid (HSp.out hf)
  replace HIm := Lib.hid (HIm.out hf)
  replace HEq := Lib.hid (HEq.out hf)
  replace hf := Lib.hid hf
  clear hr
  go_wp2_with fail
  refine (HTo.out _ hB).mono ?_
  rintro e w2 ⟨u0, u1, u2, u3, u4, u5, u6, rfl, a0, a1, a2, a3, a4, a5, a6, hbel⟩
  replace hB := hB.trans (hbel.mono hB.size)
  replace c0 := cell_on hbel c0
  replace c1 := cell_on hbel c1
  replace c2 := cell_on hbel c2
  replace c3 := cell_on hbel c3
  replace c4 := cell_on hbel c4
  replace c5 := cell_on hbel c5
  replace c6 := cell_on hbel c6
  replace c7 := cell_on hbel c7
  replace c8 := cell_on hbel c8
  replace c9 := cell_on hbel c9
  replace c10 := cell_on hbel c10
  clear hbel
  obtain ⟨sp0, sc0, _, _, rfl, -, -, -⟩ := a0.parts
  have sA0 := Lib.hid (a0.base (Nat.zero_le _))
  clear a0
  obtain ⟨sp1, sc1, _, _, rfl, -, -, -⟩ := a1.parts
  have sA1 := Lib.hid (a1.base (Nat.zero_le _))
  clear a1
  obtain ⟨sp2, sc2, _, _, rfl, -, -, -⟩ := a2.parts
  have sA2 := Lib.hid (a2.base (Nat.zero_le _))
  clear a2
  obtain ⟨sp3, sc3, _, _, rfl, -, -, -⟩ := a3.parts
  have sA3 := Lib.hid (a3.base (Nat.zero_le _))
  clear a3
  obtain ⟨sp4, sc4, _, _, rfl, -, -, -⟩ := a4.parts
  have sA4 := Lib.hid (a4.base (Nat.zero_le _))
  clear a4
  obtain ⟨sp5, sc5, _, _, rfl, -, -, -⟩ := a5.parts
  have sA5 := Lib.hid (a5.base (Nat.zero_le _))
  clear a5
  obtain ⟨sp6, sc6, _, _, rfl, -, -, -⟩ := a6.parts
  have sA6 := Lib.hid (a6.base (Nat.zero_le _))
  clear a6
  go_wp2_with fail
  refine (HSp.out (.slice sp0 pa.length sc0) (.slice sp1 it.length sc1) (.slice sp2 hs.length sc2) (.slice sp3 el.length sc3) (.slice sp4 rc.length sc4) (.slice sp5 dn.length sc5) (.slice sp6 up.length sc6) _ sA0.out sA1.out sA2.out sA3.out sA4.out sA5.out sA6.out hf.out).mono ?_
  rintro e w3 ⟨rfl, hbel⟩
  replace hB := hB.trans (hbel.mono hB.size)
  replace c0 := cell_on hbel c0
  replace c1 := cell_on hbel c1
  replace c2 := cell_on hbel c2
  replace c3 := cell_on hbel c3
  replace c4 := cell_on hbel c4
  replace c5 := cell_on hbel c5
  replace c6 := cell_on hbel c6
  replace c7 := cell_on hbel c7
  replace c8 := cell_on hbel c8
  replace c9 := cell_on hbel c9
  replace c10 := cell_on hbel c10
  clear hbel HSp sA0 sA1 sA2 sA3 sA4 sA5 sA6
  go_wp2_with fail
  refine (HTo.out _ hB).mono ?_
  rintro e w4 ⟨u0, u1, u2, u3, u4, u5, u6, rfl, a0, a1, a2, a3, a4, a5, a6, hbel⟩
  replace hB := hB.trans (hbel.mono hB.size)
  replace c0 := cell_on hbel c0
  replace c1 := cell_on hbel c1
  replace c2 := cell_on hbel c2
  replace c3 := cell_on hbel c3
  replace c4 := cell_on hbel c4
  replace c5 := cell_on hbel c5
  replace c6 := cell_on hbel c6
  replace c7 := cell_on hbel c7
  replace c8 := cell_on hbel c8
  replace c9 := cell_on hbel c9
  replace c10 := cell_on hbel c10
  clear hbel
  obtain ⟨yp0, yc0, _, _, rfl, -, -, -⟩ := a0.parts
  have yA0 := Lib.hid (a0.base (Nat.zero_le _))
  clear a0
  obtain ⟨yp1, yc1, _, _, rfl, -, -, -⟩ := a1.parts
  have yA1 := Lib.hid (a1.base (Nat.zero_le _))
  clear a1
  obtain ⟨yp2, yc2, _, _, rfl, -, -, -⟩ := a2.parts
  have yA2 := Lib.hid (a2.base (Nat.zero_le _))
  clear a2
  obtain ⟨yp3, yc3, _, _, rfl, -, -, -⟩ := a3.parts
  have yA3 := Lib.hid (a3.base (Nat.zero_le _))
  clear a3
  obtain ⟨yp4, yc4, _, _, rfl, -, -, -⟩ := a4.parts
  have yA4 := Lib.hid (a4.base (Nat.zero_le _))
  clear a4
  obtain ⟨yp5, yc5, _, _, rfl, -, -, -⟩ := a5.parts
  have yA5 := Lib.hid (a5.base (Nat.zero_le _))
  clear a5
  obtain ⟨yp6, yc6, _, _, rfl, -, -, -⟩ := a6.parts
  have yA6 := Lib.hid (a6.base (Nat.zero_le _))
  clear a6
  have hb5 : Below w4.heap.size w4 (w4.alloc (.cells #[.slice yp0 pa.length yc0, .int .i64 tr, .int .i64 sz, .slice yp1 it.length yc1, .int .i64 ck, .int .i64 qt, .slice yp2 hs.length yc2, .slice yp3 el.length yc3, .slice yp4 rc.length yc4, .slice yp5 dn.length yc5, .slice yp6 up.length yc6] 48)) := below_alloc1 _ _
  have z0 : (w4.alloc (.cells #[.slice yp0 pa.length yc0, .int .i64 tr, .int .i64 sz, .slice yp1 it.length yc1, .int .i64 ck, .int .i64 qt, .slice yp2 hs.length yc2, .slice yp3 el.length yc3, .slice yp4 rc.length yc4, .slice yp5 dn.length yc5, .slice yp6 up.length yc6] 48)).cell? ⟨w4.heap.size, 0, none⟩ = some (Value.slice yp0 pa.length yc0) := by simp
  have z1 : (w4.alloc (.cells #[.slice yp0 pa.length yc0, .int .i64 tr, .int .i64 sz, .slice yp1 it.length yc1, .int .i64 ck, .int .i64 qt, .slice yp2 hs.length yc2, .slice yp3 el.length yc3, .slice yp4 rc.length yc4, .slice yp5 dn.length yc5, .slice yp6 up.length yc6] 48)).cell? ⟨w4.heap.size, 1, none⟩ = some (Value.int .i64 tr) := by simp
  have z2 : (w4.alloc (.cells #[.slice yp0 pa.length yc0, .int .i64 tr, .int .i64 sz, .slice yp1 it.length yc1, .int .i64 ck, .int .i64 qt, .slice yp2 hs.length yc2, .slice yp3 el.length yc3, .slice yp4 rc.length yc4, .slice yp5 dn.length yc5, .slice yp6 up.length yc6] 48)).cell? ⟨w4.heap.size, 2, none⟩ = some (Value.int .i64 sz) := by simp
  have z3 : (w4.alloc (.cells #[.slice yp0 pa.length yc0, .int .i64 tr, .int .i64 sz, .slice yp1 it.length yc1, .int .i64 ck, .int .i64 qt, .slice yp2 hs.length yc2, .slice yp3 el.length yc3, .slice yp4 rc.length yc4, .slice yp5 dn.length yc5, .slice yp6 up.length yc6] 48)).cell? ⟨w4.heap.size, 3, none⟩ = some (Value.slice yp1 it.length yc1) := by simp
  have z4 : (w4.alloc (.cells #[.slice yp0 pa.length yc0, .int .i64 tr, .int .i64 sz, .slice yp1 it.length yc1, .int .i64 ck, .int .i64 qt, .slice yp2 hs.length yc2, .slice yp3 el.length yc3, .slice yp4 rc.length yc4, .slice yp5 dn.length yc5, .slice yp6 up.length yc6] 48)).cell? ⟨w4.heap.size, 4, none⟩ = some (Value.int .i64 ck) := by simp
  have z5 : (w4.alloc (.cells #[.slice yp0 pa.length yc0, .int .i64 tr, .int .i64 sz, .slice yp1 it.length yc1, .int .i64 ck, .int .i64 qt, .slice yp2 hs.length yc2, .slice yp3 el.length yc3, .slice yp4 rc.length yc4, .slice yp5 dn.length yc5, .slice yp6 up.length yc6] 48)).cell? ⟨w4.heap.size, 5, none⟩ = some (Value.int .i64 qt) := by simp
  have z6 : (w4.alloc (.cells #[.slice yp0 pa.length yc0, .int .i64 tr, .int .i64 sz, .slice yp1 it.length yc1, .int .i64 ck, .int .i64 qt, .slice yp2 hs.length yc2, .slice yp3 el.length yc3, .slice yp4 rc.length yc4, .slice yp5 dn.length yc5, .slice yp6 up.length yc6] 48)).cell? ⟨w4.heap.size, 6, none⟩ = some (Value.slice yp2 hs.length yc2) := by simp
  have z7 : (w4.alloc (.cells #[.slice yp0 pa.length yc0, .int .i64 tr, .int .i64 sz, .slice yp1 it.length yc1, .int .i64 ck, .int .i64 qt, .slice yp2 hs.length yc2, .slice yp3 el.length yc3, .slice yp4 rc.length yc4, .slice yp5 dn.length yc5, .slice yp6 up.length yc6] 48)).cell? ⟨w4.heap.size, 7, none⟩ = some (Value.slice yp3 el.length yc3) := by simp
  have z8 : (w4.alloc (.cells #[.slice yp0 pa.length yc0, .int .i64 tr, .int .i64 sz, .slice yp1 it.length yc1, .int .i64 ck, .int .i64 qt, .slice yp2 hs.length yc2, .slice yp3 el.length yc3, .slice yp4 rc.length yc4, .slice yp5 dn.length yc5, .slice yp6 up.length yc6] 48)).cell? ⟨w4.heap.size, 8, none⟩ = some (Value.slice yp4 rc.length yc4) := by simp
  have z9 : (w4.alloc (.cells #[.slice yp0 pa.length yc0, .int .i64 tr, .int .i64 sz, .slice yp1 it.length yc1, .int .i64 ck, .int .i64 qt, .slice yp2 hs.length yc2, .slice yp3 el.length yc3, .slice yp4 rc.length yc4, .slice yp5 dn.length yc5, .slice yp6 up.length yc6] 48)).cell? ⟨w4.heap.size, 9, none⟩ = some (Value.slice yp5 dn.length yc5) := by simp
  have z10 : (w4.alloc (.cells #[.slice yp0 pa.length yc0, .int .i64 tr, .int .i64 sz, .slice yp1 it.length yc1, .int .i64 ck, .int .i64 qt, .slice yp2 hs.length yc2, .slice yp3 el.length yc3, .slice yp4 rc.length yc4, .slice yp5 dn.length yc5, .slice yp6 up.length yc6] 48)).cell? ⟨w4.heap.size, 10, none⟩ = some (Value.slice yp6 up.length yc6) := by simp
  have HBy := Lib.hid (hB.trans (hb5.mono hB.size))
  have c0w := cell_on hb5 c0
  have c1w := cell_on hb5 c1
  have c2w := cell_on hb5 c2
  have c3w := cell_on hb5 c3
  have c4w := cell_on hb5 c4
  have c5w := cell_on hb5 c5
  have c6w := cell_on hb5 c6
  have c7w := cell_on hb5 c7
  have c8w := cell_on hb5 c8
  have c9w := cell_on hb5 c9
  have c10w := cell_on hb5 c10
  replace yA0 := Lib.hid (yA0.out.below hb5)
  replace yA1 := Lib.hid (yA1.out.below hb5)
  replace yA2 := Lib.hid (yA2.out.below hb5)
  replace yA3 := Lib.hid (yA3.out.below hb5)
  replace yA4 := Lib.hid (yA4.out.below hb5)
  replace yA5 := Lib.hid (yA5.out.below hb5)
  replace yA6 := Lib.hid (yA6.out.below hb5)
  clear hb5
  have hw4 : w.heap.size < w4.heap.size := World.block_lt_of_cell? w4 _ c0
  go_wp2_with fail
  refine (HIm.out (.slice yp0 pa.length yc0) (.slice yp1 it.length yc1) (.slice yp2 hs.length yc2) (.slice yp3 el.length yc3) (.slice yp4 rc.length yc4) (.slice yp5 dn.length yc5) (.slice yp6 up.length yc6) _ yA0.out yA1.out yA2.out yA3.out yA4.out yA5.out yA6.out hf.out).mono ?_
  rintro e w5 ⟨rfl, hbel⟩
  replace HBy := Lib.hid (HBy.out.trans (hbel.mono HBy.out.size))
  replace z0 := cell_on hbel z0
  replace z1 := cell_on hbel z1
  replace z2 := cell_on hbel z2
  replace z3 := cell_on hbel z3
  replace z4 := cell_on hbel z4
  replace z5 := cell_on hbel z5
  replace z6 := cell_on hbel z6
  replace z7 := cell_on hbel z7
  replace z8 := cell_on hbel z8
  replace z9 := cell_on hbel z9
  replace z10 := cell_on hbel z10
  replace c0w := cell_on hbel c0w
  replace c1w := cell_on hbel c1w
  replace c2w := cell_on hbel c2w
  replace c3w := cell_on hbel c3w
  replace c4w := cell_on hbel c4w
  replace c5w := cell_on hbel c5w
  replace c6w := cell_on hbel c6w
  replace c7w := cell_on hbel c7w
  replace c8w := cell_on hbel c8w
  replace c9w := cell_on hbel c9w
  replace c10w := cell_on hbel c10w
  replace yA0 := Lib.hid (yA0.out.below hbel)
  replace yA1 := Lib.hid (yA1.out.below hbel)
  replace yA2 := Lib.hid (yA2.out.below hbel)
  replace yA3 := Lib.hid (yA3.out.below hbel)
  replace yA4 := Lib.hid (yA4.out.below hbel)
  replace yA5 := Lib.hid (yA5.out.below hbel)
  replace yA6 := Lib.hid (yA6.out.below hbel)
  clear hbel HIm hB c0 c1 c2 c3 c4 c5 c6 c7 c8 c9 c10 hw4
  go_upto_region 10 with fail
  have HZ := Lib.hid (And.intro z0 (And.intro z1 (And.intro z2 (And.intro z3 (And.intro z4 (And.intro z5 (And.intro z6 (And.intro z7 (And.intro z8 (And.intro z9 z10))))))))))
  have HC := Lib.hid (And.intro c0w (And.intro c1w (And.intro c2w (And.intro c3w (And.intro c4w (And.intro c5w (And.intro c6w (And.intro c7w (And.intro c8w (And.intro c9w c10w))))))))))
  clear z0 c0w z1 c1w z2 c2w z3 c3w z4 c4w z5 c5w z6 c6w z7 c7w z8 c8w z9 c9w z10 c10w
  refine wp_region_held_drew (S := (fun w' => Below w5.heap.size w5 w')) (by kernel_rfl) ?rx1s (fun hHeld => ?rx10)
  case rx1s => ((try dsimp only); exact (Below.refl _ _).drew)
  try simp only [Act.put, List.setIfInBounds_toArray, List.set_cons_zero, List.set_cons_succ]
  refine take_at 0 (some 35) (v := ?vx1_1) rfl rfl (by kernel_rfl) (by kernel_rfl) (by kernel_rfl) (fun _ _ _ h => h) (Or.inl ⟨by kernel_rfl, ?yx1_1⟩) hHeld ?zx1_1
  case yx1_1 => (intro wS hSw; have z0 := cell_on hSw HZ.out.1; have c0 := cell_on hSw HC.out.1; have z1 := cell_on hSw HZ.out.2.1; have c1 := cell_on hSw HC.out.2.1; have z2 := cell_on hSw HZ.out.2.2.1; have c2 := cell_on hSw HC.out.2.2.1; have z3 := cell_on hSw HZ.out.2.2.2.1; have c3 := cell_on hSw HC.out.2.2.2.1; have z4 := cell_on hSw HZ.out.2.2.2.2.1; have c4 := cell_on hSw HC.out.2.2.2.2.1; have z5 := cell_on hSw HZ.out.2.2.2.2.2.1; have c5 := cell_on hSw HC.out.2.2.2.2.2.1; have z6 := cell_on hSw HZ.out.2.2.2.2.2.2.1; have c6 := cell_on hSw HC.out.2.2.2.2.2.2.1; have z7 := cell_on hSw HZ.out.2.2.2.2.2.2.2.1; have c7 := cell_on hSw HC.out.2.2.2.2.2.2.2.1; have z8 := cell_on hSw HZ.out.2.2.2.2.2.2.2.2.1; have c8 := cell_on hSw HC.out.2.2.2.2.2.2.2.2.1; have z9 := cell_on hSw HZ.out.2.2.2.2.2.2.2.2.2.1; have c9 := cell_on hSw HC.out.2.2.2.2.2.2.2.2.2.1; have z10 := cell_on hSw HZ.out.2.2.2.2.2.2.2.2.2.2; have c10 := cell_on hSw HC.out.2.2.2.2.2.2.2.2.2.2; (try dsimp only at hSw); go_simp; (try with_reducible rfl))
  try simp only [Act.put, List.setIfInBounds_toArray, List.set_cons_zero, List.set_cons_succ]
  refine take_at 1 (some 36) (v := ?vx1_2) rfl rfl (by kernel_rfl) (by kernel_rfl) (by kernel_rfl) (fun _ _ _ h => h) (Or.inl ⟨by kernel_rfl, ?yx1_2⟩) hHeld ?zx1_2
  case yx1_2 => (intro wS hSw; have z0 := cell_on hSw HZ.out.1; have c0 := cell_on hSw HC.out.1; have z1 := cell_on hSw HZ.out.2.1; have c1 := cell_on hSw HC.out.2.1; have z2 := cell_on hSw HZ.out.2.2.1; have c2 := cell_on hSw HC.out.2.2.1; have z3 := cell_on hSw HZ.out.2.2.2.1; have c3 := cell_on hSw HC.out.2.2.2.1; have z4 := cell_on hSw HZ.out.2.2.2.2.1; have c4 := cell_on hSw HC.out.2.2.2.2.1; have z5 := cell_on hSw HZ.out.2.2.2.2.2.1; have c5 := cell_on hSw HC.out.2.2.2.2.2.1; have z6 := cell_on hSw HZ.out.2.2.2.2.2.2.1; have c6 := cell_on hSw HC.out.2.2.2.2.2.2.1; have z7 := cell_on hSw HZ.out.2.2.2.2.2.2.2.1; have c7 := cell_on hSw HC.out.2.2.2.2.2.2.2.1; have z8 := cell_on hSw HZ.out.2.2.2.2.2.2.2.2.1; have c8 := cell_on hSw HC.out.2.2.2.2.2.2.2.2.1; have z9 := cell_on hSw HZ.out.2.2.2.2.2.2.2.2.2.1; have c9 := cell_on hSw HC.out.2.2.2.2.2.2.2.2.2.1; have z10 := cell_on hSw HZ.out.2.2.2.2.2.2.2.2.2.2; have c10 := cell_on hSw HC.out.2.2.2.2.2.2.2.2.2.2; (try dsimp only at hSw); go_simp; (try with_reducible rfl))
  try simp only [Act.put, List.setIfInBounds_toArray, List.set_cons_zero, List.set_cons_succ]
  refine wpAnyH_ready (rs := [2]) (by kernel_rfl) (by simp) ?_
  refine cons_at (some 37) rfl rfl (by kernel_rfl) (fun K hK => ?kx1_4) AllReadyH.nil
  go_simp
  (go_at_call 7; refine (HTo.out _ (HBy.out.trans (hHeld.mono HBy.out.size))).mono ?_; rintro e w6 ⟨u0, u1, u2, u3, u4, u5, u6, rfl, a0, a1, a2, a3, a4, a5, a6, hbel⟩; obtain ⟨tp0, tc0, _, _, rfl, -, -, -⟩ := a0.parts; have tA0 := Lib.hid (a0.base (Nat.zero_le _)); clear a0; obtain ⟨tp1, tc1, _, _, rfl, -, -, -⟩ := a1.parts; have tA1 := Lib.hid (a1.base (Nat.zero_le _)); clear a1; obtain ⟨tp2, tc2, _, _, rfl, -, -, -⟩ := a2.parts; have tA2 := Lib.hid (a2.base (Nat.zero_le _)); clear a2; obtain ⟨tp3, tc3, _, _, rfl, -, -, -⟩ := a3.parts; have tA3 := Lib.hid (a3.base (Nat.zero_le _)); clear a3; obtain ⟨tp4, tc4, _, _, rfl, -, -, -⟩ := a4.parts; have tA4 := Lib.hid (a4.base (Nat.zero_le _)); clear a4; obtain ⟨tp5, tc5, _, _, rfl, -, -, -⟩ := a5.parts; have tA5 := Lib.hid (a5.base (Nat.zero_le _)); clear a5; obtain ⟨tp6, tc6, _, _, rfl, -, -, -⟩ := a6.parts; have tA6 := Lib.hid (a6.base (Nat.zero_le _)); clear a6; replace yA0 := Lib.hid (yA0.out.below (hHeld.trans (hbel.mono hHeld.size))); replace yA1 := Lib.hid (yA1.out.below (hHeld.trans (hbel.mono hHeld.size))); replace yA2 := Lib.hid (yA2.out.below (hHeld.trans (hbel.mono hHeld.size))); replace yA3 := Lib.hid (yA3.out.below (hHeld.trans (hbel.mono hHeld.size))); replace yA4 := Lib.hid (yA4.out.below (hHeld.trans (hbel.mono hHeld.size))); replace yA5 := Lib.hid (yA5.out.below (hHeld.trans (hbel.mono hHeld.size))); replace yA6 := Lib.hid (yA6.out.below (hHeld.trans (hbel.mono hHeld.size))))
  try go_wp2_with fail
  refine hK.out _ _ ?sx1_4 (fun hHeld => ?_)
  case sx1_4 => ((try dsimp only); first | exact hHeld.trans (hbel.mono hHeld.size) | assumption)
  clear hK K
  try simp only [Act.put, List.setIfInBounds_toArray, List.set_cons_zero, List.set_cons_succ]
  refine wpAnyH_ready (rs := [3]) (by kernel_rfl) (by simp) ?_
  refine cons_at (some 38) rfl rfl (by kernel_rfl) (fun K hK => ?kx1_6) AllReadyH.nil
  go_simp
  (go_at_call 9; refine (HEq.out (.slice yp0 pa.length yc0) (.slice yp1 it.length yc1) (.slice yp2 hs.length yc2) (.slice yp3 el.length yc3) (.slice yp4 rc.length yc4) (.slice yp5 dn.length yc5) (.slice yp6 up.length yc6) (.slice tp0 pa.length tc0) (.slice tp1 it.length tc1) (.slice tp2 hs.length tc2) (.slice tp3 el.length tc3) (.slice tp4 rc.length tc4) (.slice tp5 dn.length tc5) (.slice tp6 up.length tc6) _ yA0.out yA1.out yA2.out yA3.out yA4.out yA5.out yA6.out tA0.out tA1.out tA2.out tA3.out tA4.out tA5.out tA6.out hf.out).mono ?_; rintro e w7 ⟨rfl, hbel⟩)
  try go_wp2_with fail
  refine hK.out _ _ ?sx1_6 (fun hHeld => ?_)
  case sx1_6 => ((try dsimp only); first | exact hHeld.trans (hbel.mono hHeld.size) | assumption)
  clear hK K
  try simp only [Act.put, List.setIfInBounds_toArray, List.set_cons_zero, List.set_cons_succ]
  refine take_at 4 (some 39) (v := ?vx1_7) rfl rfl (by kernel_rfl) (by kernel_rfl) (by kernel_rfl) (fun _ _ _ h => h) (Or.inl ⟨by kernel_rfl, ?yx1_7⟩) hHeld ?zx1_7
  case yx1_7 => (intro wS hSw; have z0 := cell_on hSw HZ.out.1; have c0 := cell_on hSw HC.out.1; have z1 := cell_on hSw HZ.out.2.1; have c1 := cell_on hSw HC.out.2.1; have z2 := cell_on hSw HZ.out.2.2.1; have c2 := cell_on hSw HC.out.2.2.1; have z3 := cell_on hSw HZ.out.2.2.2.1; have c3 := cell_on hSw HC.out.2.2.2.1; have z4 := cell_on hSw HZ.out.2.2.2.2.1; have c4 := cell_on hSw HC.out.2.2.2.2.1; have z5 := cell_on hSw HZ.out.2.2.2.2.2.1; have c5 := cell_on hSw HC.out.2.2.2.2.2.1; have z6 := cell_on hSw HZ.out.2.2.2.2.2.2.1; have c6 := cell_on hSw HC.out.2.2.2.2.2.2.1; have z7 := cell_on hSw HZ.out.2.2.2.2.2.2.2.1; have c7 := cell_on hSw HC.out.2.2.2.2.2.2.2.1; have z8 := cell_on hSw HZ.out.2.2.2.2.2.2.2.2.1; have c8 := cell_on hSw HC.out.2.2.2.2.2.2.2.2.1; have z9 := cell_on hSw HZ.out.2.2.2.2.2.2.2.2.2.1; have c9 := cell_on hSw HC.out.2.2.2.2.2.2.2.2.2.1; have z10 := cell_on hSw HZ.out.2.2.2.2.2.2.2.2.2.2; have c10 := cell_on hSw HC.out.2.2.2.2.2.2.2.2.2.2; (try dsimp only at hSw); go_simp; (try with_reducible rfl))
  try simp only [Act.put, List.setIfInBounds_toArray, List.set_cons_zero, List.set_cons_succ]
  refine wpAnyH_done (by kernel_rfl) ?_ _
  go_wp2
  go_ret
  exact ⟨rfl, HBy.out.trans (hHeld.mono HBy.out.size)⟩

set_option maxRecDepth 100000 in
theorem lifted (os : Os) (started : os.Started) (H : Type) (enc : TypeId × Value → H) :
    ReturnsInHanded {} Tryz.checked os 4 .any (fun w args => (Rows.fnExactIsSettledNetSpec.pre enc Tryz.prog Tryz.f4 Rows.fnExactIsSettledNetRow.domain false w args ∧ laidMetH Tryz.prog Rows.fnExactIsSettledNetRow.laid w) ∧ sizedMet enc Tryz.prog Tryz.f4 (OpenSpec.ofChange Rows.fnExactIsSettledNetSpec) false w args) (Rows.fnExactIsSettledNetSpec.post enc Tryz.prog Tryz.f4 false true false false) := by
  refine returnsInHanded_of_change_and (C := Tryz.checked) (X := fun w _ => laidMetH Tryz.prog Rows.fnExactIsSettledNetRow.laid w) (fun _ _ _ hh h => h.of_heap hh) lk_own started (by kernel_rfl) Tryz.func4
    (ChangeSpec.witness_shaped (enc := enc) (C := Tryz.checked) (os := os) (X := fun w _ => laidMetH Tryz.prog Rows.fnExactIsSettledNetRow.laid w) false (World.laidAll Tryz.prog os Rows.fnExactIsSettledNetRow.laid) #[.agg #[.slice none 0 0, .int .i64 0, .int .i64 0, .slice none 0 0, .int .i64 0, .int .i64 0, .slice none 0 0, .slice none 0 0, .slice none 0 0, .slice none 0 0, .slice none 0 0]] 8 (World.laidAll_os _ _ _)
      (World.shaped_of_ZipB (by kernel_rfl) (by kernel_rfl)) (by kernel_rfl) (by kernel_rfl) (by kernel_rfl)
      (by rw [MakeChecks.laidMetH_plain _ _ _ (by kernel_rfl)]; exact laidMet_laidAll _ (by kernel_rfl) (by kernel_rfl))) ?_
  intro W base args ds gs before hval0 hW _ _ hL _
  have hval : ∀ (j : Nat) t v, Tryz.f4.params[j]? = some t → args[j]? = some v → Value.okWide Tryz.prog W .any base t v := hval0
  have hW' := hW
  obtain ⟨p, q, hA0, hV, rfl, _, _⟩ := hW
  have hA : DataW.TrodAll enc Tryz.prog W 0 (fun _ => true) true Tryz.f4.params.toList args.toList ds p := hA0
  rw [Tryz.params4] at hA hval
  obtain ⟨v0, vs0, d0, ds0, p0, q0, hargs, rfl, rfl, h0, r0⟩ := trodAll_cons hA
  obtain ⟨rfl, rfl, rfl⟩ := trodAll_nil r0
  obtain rfl : args = #[v0] := by cases args; simp_all
  obtain ⟨rfl, rfl⟩ := trodVars_none hV
  clear hA0 hval0
  have x0 := open_argNt (hval 0 35 v0 rfl rfl) h0
  clear hL
  simp only [List.append_nil] at hW'
  refine (walk v0 W x0).mono fun e W' ⟨he, hb⟩ => ?_
  subst he
  exact ⟨_, rfl, post_law hW' rfl rfl (by kernel_rfl) rfl rfl rfl hb⟩

theorem over : Rows.fnExactIsSettledNetRow.holds Tryz.pinned (OpenSpec.ofChange Rows.fnExactIsSettledNetSpec) :=
  OpenClaim.holds_of_wide 4 Tryz.f4 rfl rfl rfl rfl rfl rfl rfl ⟨rfl, rfl, rfl, rfl, rfl⟩ rfl rfl rfl rfl rfl (by kernel_rfl) Tryz.func4 (by kernel_rfl)
    (of_decide_eq_true (by kernel_rfl)) (by unfold Func.isWrapper; first | (rw [if_pos (by decide +kernel)]; kernel_rfl) | (rw [if_neg (by decide +kernel)]; exact ⟨rfl, rfl⟩))
    (fun os started H enc _ => lifted os started H enc)

theorem proved : Rows.FnExactIsSettledNetCardSaid :=
  Claim7.holds_tied_plain_at .later [] [.data, .pinned] true (true, "21801cc5bfe0fae01931cd36ba142a7e9a66c077fb9abf33348430f646f336d0") false over (fun _ h => by cases h) (by kernel_rfl) (fun _ h => by cases h) fnExactIsSettledNet_row_tie rfl ⟨rfl, rfl⟩ (by kernel_rfl) rfl
    (fun f fn hf hfn => by
      obtain rfl : f = 4 := Option.some.inj ((show Tryz.prog.funcNamed Rows.fnExactIsSettledNetRow.func = some 4 by kernel_rfl).symm.trans hf) |>.symm
      obtain rfl : fn = Tryz.f4 := (Option.some.inj (Tryz.func4.symm.trans hfn)).symm
      exact ⟨by kernel_rfl, fun j t ht => by
        rw [Tryz.params4] at ht
        have hm : t ∈ [35] := by simpa using Array.mem_of_getElem? ht
        have hall : ([35].all fun u => !Tryz.prog.wantsStandIn u) = true := by kernel_rfl
        exact (show Tryz.prog.wantsStandIn t = false by simpa using List.all_eq_true.1 hall t hm)⟩)
    (by kernel_rfl)
#print axioms proved
end Go.Proofs.YtihpibdodlgpaaaGreatDoor.FnExactIsSettledNet
