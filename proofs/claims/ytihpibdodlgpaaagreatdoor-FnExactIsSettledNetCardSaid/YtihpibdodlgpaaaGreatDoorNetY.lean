/- Contracts: what is at a node of a network: the program's isRightNode. -/
import Derived.Test.YtihpibdodlgpaaaGreatDoorNetX
import Derived.Test.YtihpibdodlgpaaaGreatDoorNetE
import Derived.Test.YtihpibdodlgpaaaGreatDoorNetQ
import Derived.Deep.DeepCutAuto
namespace Go.Proofs.YtihpibdodlgpaaaGreatDoor
open Go.RowKit

set_option maxRecDepth 100000 in
set_option maxHeartbeats 4000000 in
theorem nNode_zero (x : NNet) (k : Nat) (v0 v1 v2 v3 v4 v5 v6 : Value) (w : World) (h0 : kI.At 0 w v0 x.tr.pa) (h1 : kS.At 0 w v1 x.sr.sw.it) (h2 : kHd.At 0 w v2 x.sr.hs) (h3 : kEl.At 0 w v3 x.el) (h4 : kRc.At 0 w v4 x.rc) (h5 : kPq.At 0 w v5 x.dn) (h6 : kPq.At 0 w v6 x.up) (hf : fitNt 1048576 x) (l0 : k < x.tr.pa.length) (l1 : k < x.el.length) (l2 : k < x.rc.length) (l3 : k < x.dn.length) (l4 : k < x.up.length) (hk : k = 0) :
    Calls Tryz.prog 52 #[.agg #[v0, .int .i64 x.sr.sw.tr, .int .i64 x.sr.sw.sz, v1, .int .i64 x.sr.ck, .int .i64 x.sr.qt, v2, v3, v4, v5, v6], .int .i64 (k : Int)] w fun e w' => e = .returned (.bool (nodeB x k)) ∧ Below w.heap.size w w' := by
  have HNB := nodeB_at l1 l2 l3 l4
  replace HNB := Lib.hid HNB
  obtain ⟨⟨pa⟩, ⟨⟨tr, sz, it⟩, ck, qt, hs⟩, el, rc, dn, up⟩ := x
  obtain ⟨f0, f1, f2, f3, f4, f5⟩ := hf
  dsimp only at h0 h1 h2 h3 h4 h5 h6 f0 f1 f2 f3 f4 f5 HNB l0 l1 l2 l3 l4 ⊢
  have Ap := Lib.hid h0
  obtain ⟨pp, pc, _, _, rfl, -, -, -⟩ := h0.parts
  obtain ⟨q0, q1, _, _, rfl, -, -, -⟩ := h1.parts
  obtain ⟨q2, q3, _, _, rfl, -, -, -⟩ := h2.parts
  obtain ⟨pe, ce, be, oe, rfl, -, hpe, hce⟩ := h3.parts
  obtain rfl := hpe (by omega)
  obtain ⟨xe, Ce, Le⟩ := hce k (by omega)
  have ge := f2.2 el[k] (List.getElem_mem (by omega))
  obtain ⟨pr, cr, br, oR, rfl, -, hpr, hcr⟩ := h4.parts
  obtain rfl := hpr (by omega)
  obtain ⟨xr, Cr, Lr⟩ := hcr k (by omega)
  have gr := f3.2 rc[k] (List.getElem_mem (by omega))
  obtain ⟨pd, cd, bd, od, rfl, -, hpd, hcd⟩ := h5.parts
  obtain rfl := hpd (by omega)
  obtain ⟨xd, Cd, Ld⟩ := hcd k (by omega)
  have gd := f4.2 dn[k] (List.getElem_mem (by omega))
  obtain ⟨pu, cu, bu, ou, rfl, -, hpu, hcu⟩ := h6.parts
  obtain rfl := hpu (by omega)
  obtain ⟨xu, Cu, Lu⟩ := hcu k (by omega)
  have gu := f5.2 up[k] (List.getElem_mem (by omega))
  clear hpe hpr hpd hpu hce hcr hcd hcu h0 h1 h2 h3 h4 h5 h6 f1 f2 f3 f4 f5
  generalize el[k] = E at *
  generalize rc[k] = R at *
  generalize dn[k] = D at *
  generalize up[k] = U at *
  obtain ⟨eck, een⟩ := E
  obtain ⟨st, rck, ⟨nx, sl⟩, rq⟩ := R
  obtain ⟨ve, rfl, Ae⟩ := Ce
  obtain ⟨vs, vr, rfl, As, Ar⟩ := Cr
  obtain ⟨vd, rfl, Ad⟩ := Cd
  obtain ⟨vu, rfl, Au⟩ := Cu
  dsimp only at Ae As Ar Ad Au ge gr gd gu
  obtain ⟨pe', ce', _, _, rfl, -, -, -⟩ := Ae.parts
  replace Ae := Lib.hid Ae
  obtain ⟨ps', cs', _, _, rfl, -, -, -⟩ := As.parts
  replace As := Lib.hid As
  obtain ⟨pr', cr', _, _, rfl, -, -, -⟩ := Ar.parts
  replace Ar := Lib.hid Ar
  obtain ⟨pd', cd', _, _, rfl, -, -, -⟩ := Ad.parts
  replace Ad := Lib.hid Ad
  obtain ⟨pu', cu', _, _, rfl, -, -, -⟩ := Au.parts
  replace Au := Lib.hid Au
  subst hk
  have m0 : w.cell? ⟨be, oe, none⟩ = some (Value.int .i64 eck) := by
    have h := Le 0 _ rfl
    rw [show oe + 0 * kEl.sz + 0 = oe from by omega] at h
    exact h
  have m1 : w.cell? ⟨be, oe + 1, none⟩ = some (Value.slice pe' een.length ce') := by
    have h := Le 1 _ rfl
    rw [show oe + 0 * kEl.sz + 1 = oe + 1 from by omega] at h
    exact h
  have n0 : w.cell? ⟨br, oR, none⟩ = some (Value.bool st) := by
    have h := Lr 0 _ rfl
    rw [show oR + 0 * kRc.sz + 0 = oR from by omega] at h
    exact h
  have n1 : w.cell? ⟨br, oR + 1, none⟩ = some (Value.int .i64 rck) := by
    have h := Lr 1 _ rfl
    rw [show oR + 0 * kRc.sz + 1 = oR + 1 from by omega] at h
    exact h
  have n2 : w.cell? ⟨br, oR + 2, none⟩ = some (Value.int .i64 nx) := by
    have h := Lr 2 _ rfl
    rw [show oR + 0 * kRc.sz + 2 = oR + 2 from by omega] at h
    exact h
  have n3 : w.cell? ⟨br, oR + 3, none⟩ = some (Value.slice ps' sl.length cs') := by
    have h := Lr 3 _ rfl
    rw [show oR + 0 * kRc.sz + 3 = oR + 3 from by omega] at h
    exact h
  have n4 : w.cell? ⟨br, oR + 4, none⟩ = some (Value.slice pr' rq.length cr') := by
    have h := Lr 4 _ rfl
    rw [show oR + 0 * kRc.sz + 4 = oR + 4 from by omega] at h
    exact h
  have gd0 : w.cell? ⟨bd, od, none⟩ = some (Value.slice pd' D.length cd') := by
    have h := Ld 0 _ rfl
    rw [show od + 0 * kPq.sz + 0 = od from by omega] at h
    exact h
  have gu0 : w.cell? ⟨bu, ou, none⟩ = some (Value.slice pu' U.length cu') := by
    have h := Lu 0 _ rfl
    rw [show ou + 0 * kPq.sz + 0 = ou from by omega] at h
    exact h
  have lbe : be < w.heap.size := World.block_lt_of_cell? w _ (Le 0 _ rfl)
  have lbr : br < w.heap.size := World.block_lt_of_cell? w _ (Lr 0 _ rfl)
  have lbd : bd < w.heap.size := World.block_lt_of_cell? w _ (Ld 0 _ rfl)
  have lbu : bu < w.heap.size := World.block_lt_of_cell? w _ (Lu 0 _ rfl)
  clear Le Lr Ld Lu
  obtain ⟨w0, hw0⟩ : ∃ W, (w.alloc (.cells #[.slice pp pa.length pc, .int .i64 tr, .int .i64 sz, .slice q0 it.length q1, .int .i64 ck, .int .i64 qt, .slice q2 hs.length q3, .slice (some ⟨be, oe, none⟩) el.length ce, .slice (some ⟨br, oR, none⟩) rc.length cr, .slice (some ⟨bd, od, none⟩) dn.length cd, .slice (some ⟨bu, ou, none⟩) up.length cu] 48)) = W := ⟨_, rfl⟩
  have c0 : w0.cell? ⟨w.heap.size, 0, none⟩ = some (Value.slice pp pa.length pc) := by rw [← hw0]; simp
  have c4 : w0.cell? ⟨w.heap.size, 4, none⟩ = some (Value.int .i64 ck) := by rw [← hw0]; simp
  have c7 : w0.cell? ⟨w.heap.size, 7, none⟩ = some (Value.slice (some ⟨be, oe, none⟩) el.length ce) := by rw [← hw0]; simp
  have c8 : w0.cell? ⟨w.heap.size, 8, none⟩ = some (Value.slice (some ⟨br, oR, none⟩) rc.length cr) := by rw [← hw0]; simp
  have c9 : w0.cell? ⟨w.heap.size, 9, none⟩ = some (Value.slice (some ⟨bd, od, none⟩) dn.length cd) := by rw [← hw0]; simp
  have c10 : w0.cell? ⟨w.heap.size, 10, none⟩ = some (Value.slice (some ⟨bu, ou, none⟩) up.length cu) := by rw [← hw0]; simp
  have hB : Below w.heap.size w w0 := by rw [← hw0]; exact below_alloc1 _ _
  have hz0 : w.heap.size < w0.heap.size := by rw [← hw0]; simp
  replace m0 := cell_on hB m0
  replace m1 := cell_on hB m1
  replace n0 := cell_on hB n0
  replace n1 := cell_on hB n1
  replace n2 := cell_on hB n2
  replace n3 := cell_on hB n3
  replace n4 := cell_on hB n4
  replace gd0 := cell_on hB gd0
  replace gu0 := cell_on hB gu0
  replace lbe : be < w0.heap.size := Nat.lt_of_lt_of_le lbe hB.size
  replace lbr : br < w0.heap.size := Nat.lt_of_lt_of_le lbr hB.size
  replace lbd : bd < w0.heap.size := Nat.lt_of_lt_of_le lbd hB.size
  replace lbu : bu < w0.heap.size := Nat.lt_of_lt_of_le lbu hB.size
  go_enter Tryz.func52, Tryz.ntmps52
  go_upto_region 1 with fail
  try rw [hw0]
  clear hw0
  go_cut [5, 6] (fun s5 s6 wx => ∃ g h : Nat, s5 = .pointer (some ⟨g, 0, none⟩) ∧ s6 = .pointer (some ⟨h, 0, none⟩) ∧ g ≠ h ∧ w0.heap.size ≤ g ∧ w0.heap.size ≤ h ∧ wx.heap[g]? = some (.cells #[.int .i64 eck, .slice pe' een.length ce'] 107 (0, 0)) ∧ wx.heap[h]? = some (.cells #[.bool st, .int .i64 rck, .int .i64 nx, .slice ps' sl.length cs', .slice pr' rq.length cr'] 77 (0, 0)) ∧ Below w0.heap.size w0 wx)
  case first =>
    go_region
    all_goals (go_wp2_with fail; go_meet)
    all_goals first | exact ⟨w0.heap.size, w0.heap.size + 1, rfl, rfl, by first | omega | (simp; done) | (simp; omega), by first | omega | (simp; done) | (simp; omega), by first | omega | (simp; done) | (simp; omega), heap_alloc2_old w0 _ _, heap_alloc2_new w0 _ _, by go_grown⟩ | exact ⟨w0.heap.size + 1, w0.heap.size, rfl, rfl, by first | omega | (simp; done) | (simp; omega), by first | omega | (simp; done) | (simp; omega), by first | omega | (simp; done) | (simp; omega), heap_alloc2_new w0 _ _, heap_alloc2_old w0 _ _, by go_grown⟩
  case rest =>
    obtain ⟨g, h, rfl, rfl, hgh, hgl, hhl, hbg, hbh, hbx⟩ := hcut
    replace c0 := cell_on hbx c0
    replace c4 := cell_on hbx c4
    replace c9 := cell_on hbx c9
    replace c10 := cell_on hbx c10
    replace gd0 := cell_on hbx gd0
    replace gu0 := cell_on hbx gu0
    replace hB := hB.trans (hbx.mono hB.size)
    clear hbx
    have yh := hbg; have y0 := cell_of_row wc (g) 0 _ _ _ yh; simp at y0; have yf0 := frozen_of_row wc (g) 0 _ _ yh; have y1 := cell_of_row wc (g) 1 _ _ _ yh; simp at y1; have yf1 := frozen_of_row wc (g) 1 _ _ yh; clear yh
    have zh := hbh; have z0 := cell_of_row wc (h) 0 _ _ _ zh; simp at z0; have zf0 := frozen_of_row wc (h) 0 _ _ zh; have z1 := cell_of_row wc (h) 1 _ _ _ zh; simp at z1; have zf1 := frozen_of_row wc (h) 1 _ _ zh; have z2 := cell_of_row wc (h) 2 _ _ _ zh; simp at z2; have zf2 := frozen_of_row wc (h) 2 _ _ zh; have z3 := cell_of_row wc (h) 3 _ _ _ zh; simp at z3; have zf3 := frozen_of_row wc (h) 3 _ _ zh; have z4 := cell_of_row wc (h) 4 _ _ _ zh; simp at z4; have zf4 := frozen_of_row wc (h) 4 _ _ zh; clear zh
    clear hbg hbh m0 m1 n0 n1 n2 n3 n4 c7 c8 hgh hgl hhl lbe lbr lbd lbu yf0 yf1 zf0 zf1 zf2 zf3 zf4
    have HZe := Lib.hid (fun W h => nZeroEl_any ⟨eck, een⟩ (.slice pe' een.length ce') W h)
    have HZr := Lib.hid (fun W h i => nZeroRc_any ⟨st, rck, ⟨nx, sl⟩, rq⟩ (.slice ps' sl.length cs') (.slice pr' rq.length cr') W h i)
    have HEl := Lib.hid (fun W h => nElem_any ⟨eck, een⟩ (.slice pe' een.length ce') W h ge)
    have HRc := Lib.hid (fun W h i => nRecvr_any ⟨st, rck, ⟨nx, sl⟩, rq⟩ (.slice ps' sl.length cs') (.slice pr' rq.length cr') W h i gr)
    have HQd := Lib.hid (fun W h => nQueue_any (.slice pd' D.length cd') D W h gd)
    have HQu := Lib.hid (fun W h => nQueue_any (.slice pu' U.length cu') U W h gu)
    have HRq := Lib.hid (fun W h => nReq_any (.slice pu' U.length cu') U W h gu)
    have HLf := Lib.hid (fun W h => nLeaf_any pa (0 : Int) (.slice pp pa.length pc) W h f0)
    have hd : D.length ≤ 1048576 := gd.1
    have hu : U.length ≤ 1048576 := gu.1
    clear HLf HEl HRc
    go_wp2_with (first | (go_at_call 89; with_reducible refine (HQd.out _ (Ad.out.below hB)).mono ?_; rintro e w1 ⟨rfl, hbel⟩; replace hB := hB.trans (hbel.mono hB.size); replace c0 := cell_on hbel c0; replace c4 := cell_on hbel c4; replace c9 := cell_on hbel c9; replace c10 := cell_on hbel c10; replace gd0 := cell_on hbel gd0; replace gu0 := cell_on hbel gu0; replace y0 := cell_on hbel y0; replace y1 := cell_on hbel y1; replace z0 := cell_on hbel z0; replace z1 := cell_on hbel z1; replace z2 := cell_on hbel z2; replace z3 := cell_on hbel z3; replace z4 := cell_on hbel z4; clear hbel) | (go_at_call 89; with_reducible refine (HQu.out _ (Au.out.below hB)).mono ?_; rintro e w1 ⟨rfl, hbel⟩; replace hB := hB.trans (hbel.mono hB.size); replace c0 := cell_on hbel c0; replace c4 := cell_on hbel c4; replace c9 := cell_on hbel c9; replace c10 := cell_on hbel c10; replace gd0 := cell_on hbel gd0; replace gu0 := cell_on hbel gu0; replace y0 := cell_on hbel y0; replace y1 := cell_on hbel y1; replace z0 := cell_on hbel z0; replace z1 := cell_on hbel z1; replace z2 := cell_on hbel z2; replace z3 := cell_on hbel z3; replace z4 := cell_on hbel z4; clear hbel) | (go_at_call 90; with_reducible refine (HRq.out _ (Au.out.below hB)).mono ?_; rintro e w1 ⟨rfl, hbel⟩; replace hB := hB.trans (hbel.mono hB.size); replace c0 := cell_on hbel c0; replace c4 := cell_on hbel c4; replace c9 := cell_on hbel c9; replace c10 := cell_on hbel c10; replace gd0 := cell_on hbel gd0; replace gu0 := cell_on hbel gu0; replace y0 := cell_on hbel y0; replace y1 := cell_on hbel y1; replace z0 := cell_on hbel z0; replace z1 := cell_on hbel z1; replace z2 := cell_on hbel z2; replace z3 := cell_on hbel z3; replace z4 := cell_on hbel z4; clear hbel) | (go_at_call 92; with_reducible refine (HZe.out _ (Ae.out.below hB)).mono ?_; rintro e w1 ⟨rfl, hbel⟩; replace hB := hB.trans (hbel.mono hB.size); replace c0 := cell_on hbel c0; replace c4 := cell_on hbel c4; replace c9 := cell_on hbel c9; replace c10 := cell_on hbel c10; replace gd0 := cell_on hbel gd0; replace gu0 := cell_on hbel gu0; replace y0 := cell_on hbel y0; replace y1 := cell_on hbel y1; replace z0 := cell_on hbel z0; replace z1 := cell_on hbel z1; replace z2 := cell_on hbel z2; replace z3 := cell_on hbel z3; replace z4 := cell_on hbel z4; clear hbel) | (go_at_call 93; with_reducible refine (HZr.out _ (As.out.below hB) (Ar.out.below hB)).mono ?_; rintro e w1 ⟨rfl, hbel⟩; replace hB := hB.trans (hbel.mono hB.size); replace c0 := cell_on hbel c0; replace c4 := cell_on hbel c4; replace c9 := cell_on hbel c9; replace c10 := cell_on hbel c10; replace gd0 := cell_on hbel gd0; replace gu0 := cell_on hbel gu0; replace y0 := cell_on hbel y0; replace y1 := cell_on hbel y1; replace z0 := cell_on hbel z0; replace z1 := cell_on hbel z1; replace z2 := cell_on hbel z2; replace z3 := cell_on hbel z3; replace z4 := cell_on hbel z4; clear hbel))
    all_goals go_ret
    all_goals exact ⟨ret_bool (by rw [HNB.out]; clear HNB; first | (simp [niB, *]; done) | (simp_all [niB]; done)), hB⟩
set_option maxRecDepth 100000 in
set_option maxHeartbeats 4000000 in
theorem nNode_pos (x : NNet) (k : Nat) (v0 v1 v2 v3 v4 v5 v6 : Value) (w : World) (h0 : kI.At 0 w v0 x.tr.pa) (h1 : kS.At 0 w v1 x.sr.sw.it) (h2 : kHd.At 0 w v2 x.sr.hs) (h3 : kEl.At 0 w v3 x.el) (h4 : kRc.At 0 w v4 x.rc) (h5 : kPq.At 0 w v5 x.dn) (h6 : kPq.At 0 w v6 x.up) (hf : fitNt 1048576 x) (l0 : k < x.tr.pa.length) (l1 : k < x.el.length) (l2 : k < x.rc.length) (l3 : k < x.dn.length) (l4 : k < x.up.length) (hk : k ≠ 0) :
    Calls Tryz.prog 52 #[.agg #[v0, .int .i64 x.sr.sw.tr, .int .i64 x.sr.sw.sz, v1, .int .i64 x.sr.ck, .int .i64 x.sr.qt, v2, v3, v4, v5, v6], .int .i64 (k : Int)] w fun e w' => e = .returned (.bool (nodeB x k)) ∧ Below w.heap.size w w' := by
  have HNB := nodeB_at l1 l2 l3 l4
  replace HNB := Lib.hid HNB
  obtain ⟨⟨pa⟩, ⟨⟨tr, sz, it⟩, ck, qt, hs⟩, el, rc, dn, up⟩ := x
  obtain ⟨f0, f1, f2, f3, f4, f5⟩ := hf
  dsimp only at h0 h1 h2 h3 h4 h5 h6 f0 f1 f2 f3 f4 f5 HNB l0 l1 l2 l3 l4 ⊢
  have Ap := Lib.hid h0
  obtain ⟨pp, pc, _, _, rfl, -, -, -⟩ := h0.parts
  obtain ⟨q0, q1, _, _, rfl, -, -, -⟩ := h1.parts
  obtain ⟨q2, q3, _, _, rfl, -, -, -⟩ := h2.parts
  obtain ⟨pe, ce, be, oe, rfl, -, hpe, hce⟩ := h3.parts
  obtain rfl := hpe (by omega)
  obtain ⟨xe, Ce, Le⟩ := hce k (by omega)
  have ge := f2.2 el[k] (List.getElem_mem (by omega))
  obtain ⟨pr, cr, br, oR, rfl, -, hpr, hcr⟩ := h4.parts
  obtain rfl := hpr (by omega)
  obtain ⟨xr, Cr, Lr⟩ := hcr k (by omega)
  have gr := f3.2 rc[k] (List.getElem_mem (by omega))
  obtain ⟨pd, cd, bd, od, rfl, -, hpd, hcd⟩ := h5.parts
  obtain rfl := hpd (by omega)
  obtain ⟨xd, Cd, Ld⟩ := hcd k (by omega)
  have gd := f4.2 dn[k] (List.getElem_mem (by omega))
  obtain ⟨pu, cu, bu, ou, rfl, -, hpu, hcu⟩ := h6.parts
  obtain rfl := hpu (by omega)
  obtain ⟨xu, Cu, Lu⟩ := hcu k (by omega)
  have gu := f5.2 up[k] (List.getElem_mem (by omega))
  clear hpe hpr hpd hpu hce hcr hcd hcu h0 h1 h2 h3 h4 h5 h6 f1 f2 f3 f4 f5
  generalize el[k] = E at *
  generalize rc[k] = R at *
  generalize dn[k] = D at *
  generalize up[k] = U at *
  obtain ⟨eck, een⟩ := E
  obtain ⟨st, rck, ⟨nx, sl⟩, rq⟩ := R
  obtain ⟨ve, rfl, Ae⟩ := Ce
  obtain ⟨vs, vr, rfl, As, Ar⟩ := Cr
  obtain ⟨vd, rfl, Ad⟩ := Cd
  obtain ⟨vu, rfl, Au⟩ := Cu
  dsimp only at Ae As Ar Ad Au ge gr gd gu
  obtain ⟨pe', ce', _, _, rfl, -, -, -⟩ := Ae.parts
  replace Ae := Lib.hid Ae
  obtain ⟨ps', cs', _, _, rfl, -, -, -⟩ := As.parts
  replace As := Lib.hid As
  obtain ⟨pr', cr', _, _, rfl, -, -, -⟩ := Ar.parts
  replace Ar := Lib.hid Ar
  obtain ⟨pd', cd', _, _, rfl, -, -, -⟩ := Ad.parts
  replace Ad := Lib.hid Ad
  obtain ⟨pu', cu', _, _, rfl, -, -, -⟩ := Au.parts
  replace Au := Lib.hid Au
  have m0 : w.cell? ⟨be, oe + k * 2, none⟩ = some (Value.int .i64 eck) := by
    have h := Le 0 _ rfl
    rw [show oe + k * kEl.sz + 0 = oe + k * 2 from rfl] at h
    exact h
  have m1 : w.cell? ⟨be, oe + k * 2 + 1, none⟩ = some (Value.slice pe' een.length ce') := by
    have h := Le 1 _ rfl
    rw [show oe + k * kEl.sz + 1 = oe + k * 2 + 1 from rfl] at h
    exact h
  have n0 : w.cell? ⟨br, oR + k * 5, none⟩ = some (Value.bool st) := by
    have h := Lr 0 _ rfl
    rw [show oR + k * kRc.sz + 0 = oR + k * 5 from rfl] at h
    exact h
  have n1 : w.cell? ⟨br, oR + k * 5 + 1, none⟩ = some (Value.int .i64 rck) := by
    have h := Lr 1 _ rfl
    rw [show oR + k * kRc.sz + 1 = oR + k * 5 + 1 from rfl] at h
    exact h
  have n2 : w.cell? ⟨br, oR + k * 5 + 2, none⟩ = some (Value.int .i64 nx) := by
    have h := Lr 2 _ rfl
    rw [show oR + k * kRc.sz + 2 = oR + k * 5 + 2 from rfl] at h
    exact h
  have n3 : w.cell? ⟨br, oR + k * 5 + 3, none⟩ = some (Value.slice ps' sl.length cs') := by
    have h := Lr 3 _ rfl
    rw [show oR + k * kRc.sz + 3 = oR + k * 5 + 3 from rfl] at h
    exact h
  have n4 : w.cell? ⟨br, oR + k * 5 + 4, none⟩ = some (Value.slice pr' rq.length cr') := by
    have h := Lr 4 _ rfl
    rw [show oR + k * kRc.sz + 4 = oR + k * 5 + 4 from rfl] at h
    exact h
  have gd0 : w.cell? ⟨bd, od + k, none⟩ = some (Value.slice pd' D.length cd') := by
    have h := Ld 0 _ rfl
    rw [show od + k * kPq.sz + 0 = od + k from by show od + k * 1 + 0 = od + k; omega] at h
    exact h
  have gu0 : w.cell? ⟨bu, ou + k, none⟩ = some (Value.slice pu' U.length cu') := by
    have h := Lu 0 _ rfl
    rw [show ou + k * kPq.sz + 0 = ou + k from by show ou + k * 1 + 0 = ou + k; omega] at h
    exact h
  have lbe : be < w.heap.size := World.block_lt_of_cell? w _ (Le 0 _ rfl)
  have lbr : br < w.heap.size := World.block_lt_of_cell? w _ (Lr 0 _ rfl)
  have lbd : bd < w.heap.size := World.block_lt_of_cell? w _ (Ld 0 _ rfl)
  have lbu : bu < w.heap.size := World.block_lt_of_cell? w _ (Lu 0 _ rfl)
  clear Le Lr Ld Lu
  obtain ⟨w0, hw0⟩ : ∃ W, (w.alloc (.cells #[.slice pp pa.length pc, .int .i64 tr, .int .i64 sz, .slice q0 it.length q1, .int .i64 ck, .int .i64 qt, .slice q2 hs.length q3, .slice (some ⟨be, oe, none⟩) el.length ce, .slice (some ⟨br, oR, none⟩) rc.length cr, .slice (some ⟨bd, od, none⟩) dn.length cd, .slice (some ⟨bu, ou, none⟩) up.length cu] 48)) = W := ⟨_, rfl⟩
  have c0 : w0.cell? ⟨w.heap.size, 0, none⟩ = some (Value.slice pp pa.length pc) := by rw [← hw0]; simp
  have c4 : w0.cell? ⟨w.heap.size, 4, none⟩ = some (Value.int .i64 ck) := by rw [← hw0]; simp
  have c7 : w0.cell? ⟨w.heap.size, 7, none⟩ = some (Value.slice (some ⟨be, oe, none⟩) el.length ce) := by rw [← hw0]; simp
  have c8 : w0.cell? ⟨w.heap.size, 8, none⟩ = some (Value.slice (some ⟨br, oR, none⟩) rc.length cr) := by rw [← hw0]; simp
  have c9 : w0.cell? ⟨w.heap.size, 9, none⟩ = some (Value.slice (some ⟨bd, od, none⟩) dn.length cd) := by rw [← hw0]; simp
  have c10 : w0.cell? ⟨w.heap.size, 10, none⟩ = some (Value.slice (some ⟨bu, ou, none⟩) up.length cu) := by rw [← hw0]; simp
  have hB : Below w.heap.size w w0 := by rw [← hw0]; exact below_alloc1 _ _
  have hz0 : w.heap.size < w0.heap.size := by rw [← hw0]; simp
  replace m0 := cell_on hB m0
  replace m1 := cell_on hB m1
  replace n0 := cell_on hB n0
  replace n1 := cell_on hB n1
  replace n2 := cell_on hB n2
  replace n3 := cell_on hB n3
  replace n4 := cell_on hB n4
  replace gd0 := cell_on hB gd0
  replace gu0 := cell_on hB gu0
  replace lbe : be < w0.heap.size := Nat.lt_of_lt_of_le lbe hB.size
  replace lbr : br < w0.heap.size := Nat.lt_of_lt_of_le lbr hB.size
  replace lbd : bd < w0.heap.size := Nat.lt_of_lt_of_le lbd hB.size
  replace lbu : bu < w0.heap.size := Nat.lt_of_lt_of_le lbu hB.size
  go_enter Tryz.func52, Tryz.ntmps52
  go_upto_region 1 with fail
  try rw [hw0]
  clear hw0
  go_cut [5, 6] (fun s5 s6 wx => ∃ g h : Nat, s5 = .pointer (some ⟨g, 0, none⟩) ∧ s6 = .pointer (some ⟨h, 0, none⟩) ∧ g ≠ h ∧ w0.heap.size ≤ g ∧ w0.heap.size ≤ h ∧ wx.heap[g]? = some (.cells #[.int .i64 eck, .slice pe' een.length ce'] 107 (0, 0)) ∧ wx.heap[h]? = some (.cells #[.bool st, .int .i64 rck, .int .i64 nx, .slice ps' sl.length cs', .slice pr' rq.length cr'] 77 (0, 0)) ∧ Below w0.heap.size w0 wx)
  case first =>
    go_region
    all_goals (go_wp2_with fail; go_meet)
    all_goals first | exact ⟨w0.heap.size, w0.heap.size + 1, rfl, rfl, by first | omega | (simp; done) | (simp; omega), by first | omega | (simp; done) | (simp; omega), by first | omega | (simp; done) | (simp; omega), heap_alloc2_old w0 _ _, heap_alloc2_new w0 _ _, by go_grown⟩ | exact ⟨w0.heap.size + 1, w0.heap.size, rfl, rfl, by first | omega | (simp; done) | (simp; omega), by first | omega | (simp; done) | (simp; omega), by first | omega | (simp; done) | (simp; omega), heap_alloc2_new w0 _ _, heap_alloc2_old w0 _ _, by go_grown⟩
  case rest =>
    obtain ⟨g, h, rfl, rfl, hgh, hgl, hhl, hbg, hbh, hbx⟩ := hcut
    replace c0 := cell_on hbx c0
    replace c4 := cell_on hbx c4
    replace c9 := cell_on hbx c9
    replace c10 := cell_on hbx c10
    replace gd0 := cell_on hbx gd0
    replace gu0 := cell_on hbx gu0
    replace hB := hB.trans (hbx.mono hB.size)
    clear hbx
    have yh := hbg; have y0 := cell_of_row wc (g) 0 _ _ _ yh; simp at y0; have yf0 := frozen_of_row wc (g) 0 _ _ yh; have y1 := cell_of_row wc (g) 1 _ _ _ yh; simp at y1; have yf1 := frozen_of_row wc (g) 1 _ _ yh; clear yh
    have zh := hbh; have z0 := cell_of_row wc (h) 0 _ _ _ zh; simp at z0; have zf0 := frozen_of_row wc (h) 0 _ _ zh; have z1 := cell_of_row wc (h) 1 _ _ _ zh; simp at z1; have zf1 := frozen_of_row wc (h) 1 _ _ zh; have z2 := cell_of_row wc (h) 2 _ _ _ zh; simp at z2; have zf2 := frozen_of_row wc (h) 2 _ _ zh; have z3 := cell_of_row wc (h) 3 _ _ _ zh; simp at z3; have zf3 := frozen_of_row wc (h) 3 _ _ zh; have z4 := cell_of_row wc (h) 4 _ _ _ zh; simp at z4; have zf4 := frozen_of_row wc (h) 4 _ _ zh; clear zh
    clear hbg hbh m0 m1 n0 n1 n2 n3 n4 c7 c8 hgh hgl hhl lbe lbr lbd lbu yf0 yf1 zf0 zf1 zf2 zf3 zf4
    have hk1 : ((k : Int) == 0) = false := by rw [beq_eq_false_iff_ne]; omega
    have HZe := Lib.hid (fun W h => nZeroEl_any ⟨eck, een⟩ (.slice pe' een.length ce') W h)
    have HZr := Lib.hid (fun W h i => nZeroRc_any ⟨st, rck, ⟨nx, sl⟩, rq⟩ (.slice ps' sl.length cs') (.slice pr' rq.length cr') W h i)
    have HEl := Lib.hid (fun W h => nElem_any ⟨eck, een⟩ (.slice pe' een.length ce') W h ge)
    have HRc := Lib.hid (fun W h i => nRecvr_any ⟨st, rck, ⟨nx, sl⟩, rq⟩ (.slice ps' sl.length cs') (.slice pr' rq.length cr') W h i gr)
    have HQd := Lib.hid (fun W h => nQueue_any (.slice pd' D.length cd') D W h gd)
    have HQu := Lib.hid (fun W h => nQueue_any (.slice pu' U.length cu') U W h gu)
    have HRq := Lib.hid (fun W h => nReq_any (.slice pu' U.length cu') U W h gu)
    have HLf := Lib.hid (fun W h => nLeaf_any pa (k : Int) (.slice pp pa.length pc) W h f0)
    go_wp2_with (first | (go_at_call 89; with_reducible refine (HQd.out _ (Ad.out.below hB)).mono ?_; rintro e w1 ⟨rfl, hbel⟩; replace hB := hB.trans (hbel.mono hB.size); replace c0 := cell_on hbel c0; replace c4 := cell_on hbel c4; replace c9 := cell_on hbel c9; replace c10 := cell_on hbel c10; replace gd0 := cell_on hbel gd0; replace gu0 := cell_on hbel gu0; replace y0 := cell_on hbel y0; replace y1 := cell_on hbel y1; replace z0 := cell_on hbel z0; replace z1 := cell_on hbel z1; replace z2 := cell_on hbel z2; replace z3 := cell_on hbel z3; replace z4 := cell_on hbel z4; clear hbel) | (go_at_call 89; with_reducible refine (HQu.out _ (Au.out.below hB)).mono ?_; rintro e w1 ⟨rfl, hbel⟩; replace hB := hB.trans (hbel.mono hB.size); replace c0 := cell_on hbel c0; replace c4 := cell_on hbel c4; replace c9 := cell_on hbel c9; replace c10 := cell_on hbel c10; replace gd0 := cell_on hbel gd0; replace gu0 := cell_on hbel gu0; replace y0 := cell_on hbel y0; replace y1 := cell_on hbel y1; replace z0 := cell_on hbel z0; replace z1 := cell_on hbel z1; replace z2 := cell_on hbel z2; replace z3 := cell_on hbel z3; replace z4 := cell_on hbel z4; clear hbel) | (go_at_call 90; with_reducible refine (HRq.out _ (Au.out.below hB)).mono ?_; rintro e w1 ⟨rfl, hbel⟩; replace hB := hB.trans (hbel.mono hB.size); replace c0 := cell_on hbel c0; replace c4 := cell_on hbel c4; replace c9 := cell_on hbel c9; replace c10 := cell_on hbel c10; replace gd0 := cell_on hbel gd0; replace gu0 := cell_on hbel gu0; replace y0 := cell_on hbel y0; replace y1 := cell_on hbel y1; replace z0 := cell_on hbel z0; replace z1 := cell_on hbel z1; replace z2 := cell_on hbel z2; replace z3 := cell_on hbel z3; replace z4 := cell_on hbel z4; clear hbel) | (go_at_call 92; with_reducible refine (HZe.out _ (Ae.out.below hB)).mono ?_; rintro e w1 ⟨rfl, hbel⟩; replace hB := hB.trans (hbel.mono hB.size); replace c0 := cell_on hbel c0; replace c4 := cell_on hbel c4; replace c9 := cell_on hbel c9; replace c10 := cell_on hbel c10; replace gd0 := cell_on hbel gd0; replace gu0 := cell_on hbel gu0; replace y0 := cell_on hbel y0; replace y1 := cell_on hbel y1; replace z0 := cell_on hbel z0; replace z1 := cell_on hbel z1; replace z2 := cell_on hbel z2; replace z3 := cell_on hbel z3; replace z4 := cell_on hbel z4; clear hbel) | (go_at_call 93; with_reducible refine (HZr.out _ (As.out.below hB) (Ar.out.below hB)).mono ?_; rintro e w1 ⟨rfl, hbel⟩; replace hB := hB.trans (hbel.mono hB.size); replace c0 := cell_on hbel c0; replace c4 := cell_on hbel c4; replace c9 := cell_on hbel c9; replace c10 := cell_on hbel c10; replace gd0 := cell_on hbel gd0; replace gu0 := cell_on hbel gu0; replace y0 := cell_on hbel y0; replace y1 := cell_on hbel y1; replace z0 := cell_on hbel z0; replace z1 := cell_on hbel z1; replace z2 := cell_on hbel z2; replace z3 := cell_on hbel z3; replace z4 := cell_on hbel z4; clear hbel) | (go_at_call 61; with_reducible refine (HLf.out _ (Ap.out.below hB)).mono ?_; rintro e w1 ⟨rfl, hbel⟩; replace hB := hB.trans (hbel.mono hB.size); replace c0 := cell_on hbel c0; replace c4 := cell_on hbel c4; replace c9 := cell_on hbel c9; replace c10 := cell_on hbel c10; replace gd0 := cell_on hbel gd0; replace gu0 := cell_on hbel gu0; replace y0 := cell_on hbel y0; replace y1 := cell_on hbel y1; replace z0 := cell_on hbel z0; replace z1 := cell_on hbel z1; replace z2 := cell_on hbel z2; replace z3 := cell_on hbel z3; replace z4 := cell_on hbel z4; clear hbel) | (go_at_call 95; with_reducible refine (HEl.out _ (Ae.out.below hB)).mono ?_; rintro e w1 ⟨rfl, hbel⟩; replace hB := hB.trans (hbel.mono hB.size); replace c0 := cell_on hbel c0; replace c4 := cell_on hbel c4; replace c9 := cell_on hbel c9; replace c10 := cell_on hbel c10; replace gd0 := cell_on hbel gd0; replace gu0 := cell_on hbel gu0; replace y0 := cell_on hbel y0; replace y1 := cell_on hbel y1; replace z0 := cell_on hbel z0; replace z1 := cell_on hbel z1; replace z2 := cell_on hbel z2; replace z3 := cell_on hbel z3; replace z4 := cell_on hbel z4; clear hbel) | (go_at_call 94; with_reducible refine (HRc.out _ (As.out.below hB) (Ar.out.below hB)).mono ?_; rintro e w1 ⟨rfl, hbel⟩; replace hB := hB.trans (hbel.mono hB.size); replace c0 := cell_on hbel c0; replace c4 := cell_on hbel c4; replace c9 := cell_on hbel c9; replace c10 := cell_on hbel c10; replace gd0 := cell_on hbel gd0; replace gu0 := cell_on hbel gu0; replace y0 := cell_on hbel y0; replace y1 := cell_on hbel y1; replace z0 := cell_on hbel z0; replace z1 := cell_on hbel z1; replace z2 := cell_on hbel z2; replace z3 := cell_on hbel z3; replace z4 := cell_on hbel z4; clear hbel))
    all_goals go_ret
    all_goals exact ⟨ret_bool (by rw [HNB.out]; clear HNB; first | (simp [niB, hk, *]; done) | (simp_all [niB, hk]; done)), hB⟩
end Go.Proofs.YtihpibdodlgpaaaGreatDoor
