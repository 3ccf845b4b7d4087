/- Contracts: the reference's IsSettledNet. -/
import Derived.Test.YtihpibdodlgpaaaGreatDoorNetUs
import Derived.Test.YtihpibdodlgpaaaGreatDoorNetXs
import Derived.Test.YtihpibdodlgpaaaGreatDoorNetZ
import Derived.BigQuiet
namespace Go.Proofs.YtihpibdodlgpaaaGreatDoor
open Go.RowKit

set_option maxRecDepth 100000 in
set_option maxHeartbeats 4000000 in
theorem sSettledNet_any (x : NNet) (v0 v1 v2 v3 v4 v5 v6 : Value) (w : World) (h0 : kI.At 0 w v0 x.tr.pa) (h1 : kS.At 0 w v1 x.sr.sw.it) (h2 : kHd.At 0 w v2 x.sr.hs) (h3 : kEl.At 0 w v3 x.el) (h4 : kRc.At 0 w v4 x.rc) (h5 : kPq.At 0 w v5 x.dn) (h6 : kPq.At 0 w v6 x.up) (hf : fitNt 1048576 x) :
    Calls Tryz.prog 10 #[.agg #[v0, .int .i64 x.sr.sw.tr, .int .i64 x.sr.sw.sz, v1, .int .i64 x.sr.ck, .int .i64 x.sr.qt, v2, v3, v4, v5, v6]] w fun e w' => e = .returned (.tuple #[.bool (seB x), .bool (ntB x)]) ∧ Below w.heap.size w w' := by
  obtain ⟨⟨pa⟩, ⟨⟨tr, sz, it⟩, ck, qt, hs⟩, el, rc, dn, up⟩ := x
  dsimp only at h0 h1 h2 h3 h4 h5 h6 ⊢
  have H0 := Lib.hid h0
  obtain ⟨pp, pc, _, _, rfl, -, -, -⟩ := h0.parts
  clear h0
  have H1 := Lib.hid h1
  obtain ⟨q0, q1, _, _, rfl, -, -, -⟩ := h1.parts
  clear h1
  have H2 := Lib.hid h2
  obtain ⟨q2, q3, _, _, rfl, -, -, -⟩ := h2.parts
  clear h2
  have H3 := Lib.hid h3
  obtain ⟨pe, ce, _, _, rfl, -, -, -⟩ := h3.parts
  clear h3
  have H4 := Lib.hid h4
  obtain ⟨pr, cr, _, _, rfl, -, -, -⟩ := h4.parts
  clear h4
  have H5 := Lib.hid h5
  obtain ⟨pd, cd, _, _, rfl, -, -, -⟩ := h5.parts
  clear h5
  have H6 := Lib.hid h6
  obtain ⟨pu, cu, _, _, rfl, -, -, -⟩ := h6.parts
  clear h6
  have HN := Lib.hid (fun W (hb : Below w.heap.size w W) => sNet_any (⟨⟨pa⟩, ⟨⟨tr, sz, it⟩, ck, qt, hs⟩, el, rc, dn, up⟩ : NNet) (.slice pp pa.length pc) (.slice q0 it.length q1) (.slice q2 hs.length q3) (.slice pe el.length ce) (.slice pr rc.length cr) (.slice pd dn.length cd) (.slice pu up.length cu) W (H0.out.below hb) (H1.out.below hb) (H2.out.below hb) (H3.out.below hb) (H4.out.below hb) (H5.out.below hb) (H6.out.below hb) hf)
  dsimp only at HN
  have HLd := Lib.hid (fun W (hb : Below w.heap.size w W) (h : swB ⟨tr, sz, it⟩ = true) => sLead_any ⟨tr, sz, it⟩ (.slice q0 it.length q1) W (H1.out.below hb) h)
  have HLf := Lib.hid (fun W (hb : Below w.heap.size w W) (k : Nat) (h1 : 1 ≤ pa.length) (h0 : 0 < (k : Int)) => sLeaf_any pa (k : Int) (.slice pp pa.length pc) W (H0.out.below hb) hf.1 h1 h0)
  have HFd := Lib.hid hf.2.2.2.2.1.2
  have HFu := Lib.hid hf.2.2.2.2.2.2
  have HFr := Lib.hid hf.2.2.2.1.2
  dsimp only at HLd
  obtain ⟨x, hx⟩ : ∃ x, (⟨⟨pa⟩, ⟨⟨tr, sz, it⟩, ck, qt, hs⟩, el, rc, dn, up⟩ : NNet) = x := ⟨_, rfl⟩
  have HLens : Hid (ntB x = true → Lens x) := Lib.hid ntB_lens
  have HX0 : Hid (x.tr.pa = pa ∧ x.rc = rc ∧ x.dn = dn ∧ x.up = up ∧ x.sr.sw = ⟨tr, sz, it⟩) := Lib.hid (by rw [← hx]; exact ⟨rfl, rfl, rfl, rfl, rfl⟩)
  have hpl : pa.length ≤ 1048576 := hf.1
  rw [hx] at HN ⊢
  clear hx H0 H1 H2 H3 hf
  have hB : Below w.heap.size w (w.alloc (.cells #[.slice pp pa.length pc, .int .i64 tr, .int .i64 sz, .slice q0 it.length q1, .int .i64 ck, .int .i64 qt, .slice q2 hs.length q3, .slice pe el.length ce, .slice pr rc.length cr, .slice pd dn.length cd, .slice pu up.length cu] 48)) := below_alloc1 _ _
  have c0 : (w.alloc (.cells #[.slice pp pa.length pc, .int .i64 tr, .int .i64 sz, .slice q0 it.length q1, .int .i64 ck, .int .i64 qt, .slice q2 hs.length q3, .slice pe el.length ce, .slice pr rc.length cr, .slice pd dn.length cd, .slice pu up.length cu] 48)).cell? ⟨w.heap.size, 0, none⟩ = some (Value.slice pp pa.length pc) := by simp
  have c1 : (w.alloc (.cells #[.slice pp pa.length pc, .int .i64 tr, .int .i64 sz, .slice q0 it.length q1, .int .i64 ck, .int .i64 qt, .slice q2 hs.length q3, .slice pe el.length ce, .slice pr rc.length cr, .slice pd dn.length cd, .slice pu up.length cu] 48)).cell? ⟨w.heap.size, 1, none⟩ = some (Value.int .i64 tr) := by simp
  have c2 : (w.alloc (.cells #[.slice pp pa.length pc, .int .i64 tr, .int .i64 sz, .slice q0 it.length q1, .int .i64 ck, .int .i64 qt, .slice q2 hs.length q3, .slice pe el.length ce, .slice pr rc.length cr, .slice pd dn.length cd, .slice pu up.length cu] 48)).cell? ⟨w.heap.size, 2, none⟩ = some (Value.int .i64 sz) := by simp
  have c3 : (w.alloc (.cells #[.slice pp pa.length pc, .int .i64 tr, .int .i64 sz, .slice q0 it.length q1, .int .i64 ck, .int .i64 qt, .slice q2 hs.length q3, .slice pe el.length ce, .slice pr rc.length cr, .slice pd dn.length cd, .slice pu up.length cu] 48)).cell? ⟨w.heap.size, 3, none⟩ = some (Value.slice q0 it.length q1) := by simp
  have c4 : (w.alloc (.cells #[.slice pp pa.length pc, .int .i64 tr, .int .i64 sz, .slice q0 it.length q1, .int .i64 ck, .int .i64 qt, .slice q2 hs.length q3, .slice pe el.length ce, .slice pr rc.length cr, .slice pd dn.length cd, .slice pu up.length cu] 48)).cell? ⟨w.heap.size, 4, none⟩ = some (Value.int .i64 ck) := by simp
  have c5 : (w.alloc (.cells #[.slice pp pa.length pc, .int .i64 tr, .int .i64 sz, .slice q0 it.length q1, .int .i64 ck, .int .i64 qt, .slice q2 hs.length q3, .slice pe el.length ce, .slice pr rc.length cr, .slice pd dn.length cd, .slice pu up.length cu] 48)).cell? ⟨w.heap.size, 5, none⟩ = some (Value.int .i64 qt) := by simp
  have c6 : (w.alloc (.cells #[.slice pp pa.length pc, .int .i64 tr, .int .i64 sz, .slice q0 it.length q1, .int .i64 ck, .int .i64 qt, .slice q2 hs.length q3, .slice pe el.length ce, .slice pr rc.length cr, .slice pd dn.length cd, .slice pu up.length cu] 48)).cell? ⟨w.heap.size, 6, none⟩ = some (Value.slice q2 hs.length q3) := by simp
  have c7 : (w.alloc (.cells #[.slice pp pa.length pc, .int .i64 tr, .int .i64 sz, .slice q0 it.length q1, .int .i64 ck, .int .i64 qt, .slice q2 hs.length q3, .slice pe el.length ce, .slice pr rc.length cr, .slice pd dn.length cd, .slice pu up.length cu] 48)).cell? ⟨w.heap.size, 7, none⟩ = some (Value.slice pe el.length ce) := by simp
  have c8 : (w.alloc (.cells #[.slice pp pa.length pc, .int .i64 tr, .int .i64 sz, .slice q0 it.length q1, .int .i64 ck, .int .i64 qt, .slice q2 hs.length q3, .slice pe el.length ce, .slice pr rc.length cr, .slice pd dn.length cd, .slice pu up.length cu] 48)).cell? ⟨w.heap.size, 8, none⟩ = some (Value.slice pr rc.length cr) := by simp
  have c9 : (w.alloc (.cells #[.slice pp pa.length pc, .int .i64 tr, .int .i64 sz, .slice q0 it.length q1, .int .i64 ck, .int .i64 qt, .slice q2 hs.length q3, .slice pe el.length ce, .slice pr rc.length cr, .slice pd dn.length cd, .slice pu up.length cu] 48)).cell? ⟨w.heap.size, 9, none⟩ = some (Value.slice pd dn.length cd) := by simp
  have c10 : (w.alloc (.cells #[.slice pp pa.length pc, .int .i64 tr, .int .i64 sz, .slice q0 it.length q1, .int .i64 ck, .int .i64 qt, .slice q2 hs.length q3, .slice pe el.length ce, .slice pr rc.length cr, .slice pd dn.length cd, .slice pu up.length cu] 48)).cell? ⟨w.heap.size, 10, none⟩ = some (Value.slice pu up.length cu) := by simp
  cases t : ntB x
  · have HX : Hid (seB x = false) := Lib.hid (by simp [seB, t])
    rw [t] at HN
    clear t HLd HLf HX0 HLens
    go_enter Tryz.func10, Tryz.ntmps10
    go_wp2_with (go_at_call 17; with_reducible refine (HN.out _ hB).mono ?_; rintro e w1 ⟨rfl, hbel⟩; replace hB := hB.trans (hbel.mono hB.size); replace c0 := cell_on hbel c0; replace c1 := cell_on hbel c1; replace c2 := cell_on hbel c2; replace c3 := cell_on hbel c3; replace c4 := cell_on hbel c4; replace c5 := cell_on hbel c5; replace c6 := cell_on hbel c6; replace c7 := cell_on hbel c7; replace c8 := cell_on hbel c8; replace c9 := cell_on hbel c9; replace c10 := cell_on hbel c10; clear hbel)
    go_ret2
    exact ⟨by rw [HX.out]; rfl, hB⟩
  · have HSe : Hid (seB x = stB x) := Lib.hid (by simp [seB, t])
    have hL := HLens.out t
    have HSp := Lib.hid (stB_spec hL)
    obtain ⟨x1, x2, x3, x4, x5⟩ := HX0.out
    have HLead := Lib.hid (fun W hb => HLd.out W hb (by rw [← x5]; exact hL.sw))
    obtain ⟨ld, hld⟩ : ∃ ld : Int, (tr + it.length) % 65536 = ld := ⟨_, rfl⟩
    rw [hld] at HLead
    have HAt : Hid (∀ k (h1 : k < dn.length) (h2 : k < up.length) (h3 : k < rc.length), spB x k = (((dn[k].length : Int) + (up[k].length : Int) == 0) && (!lfB pa (k : Int) || (sdB rc[k] && (rc[k].rw.nx == ld))))) := Lib.hid (fun k h1 h2 h3 => by subst x1; subst x2; subst x3; subst x4; rw [spB_at h1 h2, lsB_at h3, x5, ← hld])
    have HBad : Hid (∀ (k : Nat), k < pa.length → k ≠ 0 → spB x k = false → seB x = false) := Lib.hid (by rw [HSe.out, HSp.out, x1]; exact fun k h1 h2 h3 => rng_bad h1 (by rw [h3, Bool.or_false]; exact beq_eq_false_iff_ne.2 h2))
    have HGood : Hid ((∀ k, k < pa.length → (k == 0 || spB x k) = true) → seB x = true) := Lib.hid (by rw [HSe.out, HSp.out, x1]; exact fun h => rng_good h)
    have hln := Lib.hid (show rc.length = pa.length ∧ dn.length = pa.length ∧ up.length = pa.length ∧ 1 ≤ pa.length by rw [← x1, ← x2, ← x3, ← x4]; exact ⟨hL.rc, hL.dn, hL.up, by have := hL.two; omega⟩)
    rw [t] at HN
    clear x1 x2 x3 x4 x5 hL HLd HX0 HLens hld t HSe HSp
    go_enter Tryz.func10, Tryz.ntmps10
    go_wp2_with (go_at_call 17; with_reducible refine (HN.out _ hB).mono ?_; rintro e w1 ⟨rfl, hbel⟩; replace hB := hB.trans (hbel.mono hB.size); replace c0 := cell_on hbel c0; replace c1 := cell_on hbel c1; replace c2 := cell_on hbel c2; replace c3 := cell_on hbel c3; replace c4 := cell_on hbel c4; replace c5 := cell_on hbel c5; replace c6 := cell_on hbel c6; replace c7 := cell_on hbel c7; replace c8 := cell_on hbel c8; replace c9 := cell_on hbel c9; replace c10 := cell_on hbel c10; clear hbel)
    have HC0 := Lib.hid (And.intro c0 (And.intro c1 (And.intro c2 (And.intro c3 (And.intro c8 (And.intro c9 c10))))))
    have HB0 := Lib.hid hB
    have hwz : w.heap.size < w1.heap.size := World.block_lt_of_cell? w1 _ c0
    clear hB c0 c1 c2 c3 c4 c5 c6 c7 c8 c9 c10 HN
    go_loopw [4] (fun i wr => ∃ k : Nat, 1 ≤ k ∧ k ≤ pa.length ∧ i = .int .i64 k ∧ Hid (∀ j, j < k → (j == 0 || spB x j) = true) ∧ Hid (Below w1.heap.size w1 wr)) (fun i _ => pa.length - (intOf i).toNat)
    case atStart => exact ⟨1, Nat.le_refl _, hln.out.2.2.2, rfl, Lib.hid fun j h => (by have e : j = 0 := (by omega); subst e; rfl), Lib.hid (Below.refl _ _)⟩
    case round =>
      obtain ⟨k, hk1, hk, rfl, HF, HBr⟩ := hrel
      have hB := HB0.out.trans (HBr.out.mono HB0.out.size)
      have c0 := cell_on HBr.out HC0.out.1
      have c1 := cell_on HBr.out HC0.out.2.1
      have c2 := cell_on HBr.out HC0.out.2.2.1
      have c3 := cell_on HBr.out HC0.out.2.2.2.1
      have c8 := cell_on HBr.out HC0.out.2.2.2.2.1
      have c9 := cell_on HBr.out HC0.out.2.2.2.2.2.1
      have c10 := cell_on HBr.out HC0.out.2.2.2.2.2.2
      by_cases hlt : k < pa.length
      · have hmr : k < rc.length := by rw [hln.out.1]; exact hlt
        have hmd : k < dn.length := by rw [hln.out.2.1]; exact hlt
        have hmu : k < up.length := by rw [hln.out.2.2.1]; exact hlt
        have HLs := Lib.hid (HAt.out k hmd hmu hmr)
        have HBk := Lib.hid (HBad.out k hlt (by omega))
        have HNx : Hid (spB x k = true → ∀ j, j < k + 1 → (j == 0 || spB x j) = true) := Lib.hid (fun h j hj => by
          by_cases he : j = k
          · subst he; rw [h, Bool.or_true]
          · exact HF.out j (by omega))
        have HLk := Lib.hid (fun W hb => HLf.out W hb k hln.out.2.2.2 (by omega))
        generalize spB x k = sb at *
        generalize lfB pa (k : Int) = lf at *
        obtain ⟨pr', cr', br, oR, hvr, -, hpr, hcr⟩ := H4.out.parts
        obtain ⟨rfl, -, rfl⟩ : pr = pr' ∧ rc.length = rc.length ∧ cr = cr' := by injection hvr with e1 e2 e3; exact ⟨e1, e2, e3⟩
        clear hvr
        obtain rfl := hpr (by omega)
        obtain ⟨xr, Cr, Lr⟩ := hcr k hmr
        clear hpr hcr
        obtain ⟨pd', cd', bd, od, hvd, -, hpd, hcd⟩ := H5.out.parts
        obtain ⟨rfl, -, rfl⟩ : pd = pd' ∧ dn.length = dn.length ∧ cd = cd' := by injection hvd with e1 e2 e3; exact ⟨e1, e2, e3⟩
        clear hvd
        obtain rfl := hpd (by omega)
        obtain ⟨xd, Cd, Ld⟩ := hcd k hmd
        clear hpd hcd
        obtain ⟨pu', cu', bu, ou, hvu, -, hpu, hcu⟩ := H6.out.parts
        obtain ⟨rfl, -, rfl⟩ : pu = pu' ∧ up.length = up.length ∧ cu = cu' := by injection hvu with e1 e2 e3; exact ⟨e1, e2, e3⟩
        clear hvu
        obtain rfl := hpu (by omega)
        obtain ⟨xu, Cu, Lu⟩ := hcu k hmu
        clear hpu hcu
        have hxd : dn[k].length ≤ 1048576 := (HFd.out dn[k] (List.getElem_mem hmd)).1
        have hxu : up[k].length ≤ 1048576 := (HFu.out up[k] (List.getElem_mem hmu)).1
        have hxr := HFr.out rc[k] (List.getElem_mem hmr)
        generalize rc[k] = R at *
        generalize dn[k] = D at *
        generalize up[k] = U at *
        obtain ⟨st, rck, ⟨nx, sl⟩, rq⟩ := R
        obtain ⟨⟨hxs, -⟩, hxq⟩ := hxr
        obtain ⟨vs, vr, rfl, As, Ar⟩ := Cr
        obtain ⟨vd, rfl, Ad⟩ := Cd
        obtain ⟨vu, rfl, Au⟩ := Cu
        dsimp only at As Ar HLs hxs hxq
        obtain ⟨ps, cs, _, _, rfl, -, -, -⟩ := As.parts
        obtain ⟨pq, cq, _, _, rfl, -, -, -⟩ := Ar.parts
        obtain ⟨pd', cd', _, _, rfl, -, -, -⟩ := Ad.parts
        obtain ⟨pu', cu', _, _, rfl, -, -, -⟩ := Au.parts
        have n0 : wr.cell? ⟨br, oR + k * 5, none⟩ = some (Value.bool st) := cell_on hB (by
          have h := Lr 0 _ rfl
          rwa [show oR + k * kRc.sz + 0 = oR + k * 5 from rfl] at h)
        have n1 : wr.cell? ⟨br, oR + k * 5 + 1, none⟩ = some (Value.int .i64 rck) := cell_on hB (by
          have h := Lr 1 _ rfl
          rwa [show oR + k * kRc.sz + 1 = oR + k * 5 + 1 from rfl] at h)
        have n2 : wr.cell? ⟨br, oR + k * 5 + 2, none⟩ = some (Value.int .i64 nx) := cell_on hB (by
          have h := Lr 2 _ rfl
          rwa [show oR + k * kRc.sz + 2 = oR + k * 5 + 2 from rfl] at h)
        have n3 : wr.cell? ⟨br, oR + k * 5 + 3, none⟩ = some (Value.slice ps sl.length cs) := cell_on hB (by
          have h := Lr 3 _ rfl
          rwa [show oR + k * kRc.sz + 3 = oR + k * 5 + 3 from rfl] at h)
        have n4 : wr.cell? ⟨br, oR + k * 5 + 4, none⟩ = some (Value.slice pq rq.length cq) := cell_on hB (by
          have h := Lr 4 _ rfl
          rwa [show oR + k * kRc.sz + 4 = oR + k * 5 + 4 from rfl] at h)
        have gd : wr.cell? ⟨bd, od + k, none⟩ = some (Value.slice pd' D.length cd') := cell_on hB (by
          have h := Ld 0 _ rfl
          rwa [show od + k * kPq.sz + 0 = od + k from by show od + k * 1 + 0 = od + k; omega] at h)
        have gu : wr.cell? ⟨bu, ou + k, none⟩ = some (Value.slice pu' U.length cu') := cell_on hB (by
          have h := Lu 0 _ rfl
          rwa [show ou + k * kPq.sz + 0 = ou + k from by show ou + k * 1 + 0 = ou + k; omega] at h)
        clear Lr Ld Lu As Ar Ad Au
        have hwr : w.heap.size < wr.heap.size := Nat.lt_of_lt_of_le hwz HBr.out.size
        have hmri : (k : Int) < (rc.length : Int) := by omega
        have hmdi : (k : Int) < (dn.length : Int) := by omega
        have hmui : (k : Int) < (up.length : Int) := by omega
        by_cases hz : D.length + U.length = 0
        · obtain rfl := List.length_eq_zero_iff.1 (show D.length = 0 by omega)
          obtain rfl := List.length_eq_zero_iff.1 (show U.length = 0 by omega)
          clear hz hxd hxu
          have HLs2 : Hid (sb = (!lf || (sdB ⟨st, rck, ⟨nx, sl⟩, rq⟩ && (nx == ld)))) := Lib.hid (by rw [HLs.out]; simp)
          clear HLs
          go_wp2
          go_quiet (fail)
          have hbq : Below wr.heap.size wr (wr.drewN nq) := below_drewN (Below.refl _ _) nq
          generalize wr.drewN nq = wq at *
          replace n0 := cell_on hbq n0
          replace n1 := cell_on hbq n1
          replace n2 := cell_on hbq n2
          replace n3 := cell_on hbq n3
          replace n4 := cell_on hbq n4
          replace c0 := cell_on hbq c0
          replace c1 := cell_on hbq c1
          replace c2 := cell_on hbq c2
          replace c3 := cell_on hbq c3
          replace c8 := cell_on hbq c8
          replace hwr : w.heap.size < wq.heap.size := Nat.lt_of_lt_of_le hwr hbq.size
          have lbr : br < wq.heap.size := World.block_lt_of_cell? wq _ n0
          obtain ⟨w3, hw3⟩ : ∃ W, wq.alloc (.cells #[.bool st, .int .i64 rck, .int .i64 nx, .slice ps sl.length cs, .slice pq rq.length cq] 77) = W := ⟨_, rfl⟩
          have z0 : w3.cell? ⟨wq.heap.size, 0, none⟩ = some (Value.bool st) := by rw [← hw3]; simp
          have z1 : w3.cell? ⟨wq.heap.size, 1, none⟩ = some (Value.int .i64 rck) := by rw [← hw3]; simp
          have z2 : w3.cell? ⟨wq.heap.size, 2, none⟩ = some (Value.int .i64 nx) := by rw [← hw3]; simp
          have z3 : w3.cell? ⟨wq.heap.size, 3, none⟩ = some (Value.slice ps sl.length cs) := by rw [← hw3]; simp
          have z4 : w3.cell? ⟨wq.heap.size, 4, none⟩ = some (Value.slice pq rq.length cq) := by rw [← hw3]; simp
          have hb4 : Below wq.heap.size wq w3 := by rw [← hw3]; exact below_alloc1 _ _
          have c0w := cell_on hb4 c0
          have c1w := cell_on hb4 c1
          have c2w := cell_on hb4 c2
          have c3w := cell_on hb4 c3
          have hb3 := hbq.trans (hb4.mono hbq.size)
          have HBn := Lib.hid (HBr.out.trans (hb3.mono HBr.out.size))
          have HB3 := Lib.hid (hB.trans (hb3.mono hB.size))
          clear hb3 hb4 hbq
          go_upto_region 9 with fail
          try rw [hw3]
          clear hw3 n0 n1 n2 n3 n4 c0 c1 c2 c3 c8
          cases lf
          · have HX := Lib.hid (HNx.out (by rw [HLs2.out]; simp))
            clear HLs2
            refine wp_region_held_drew (S := (fun w' => Below w3.heap.size w3 w' ∧ w'.cell? ⟨wq.heap.size, 0, none⟩ = some (Value.bool st) ∧ w'.cell? ⟨wq.heap.size, 1, none⟩ = some (Value.int .i64 rck) ∧ w'.cell? ⟨wq.heap.size, 2, none⟩ = some (Value.int .i64 nx) ∧ w'.cell? ⟨wq.heap.size, 3, none⟩ = some (Value.slice ps sl.length cs) ∧ w'.cell? ⟨wq.heap.size, 4, none⟩ = some (Value.slice pq rq.length cq) ∧ w'.cell? ⟨w.heap.size, 0, none⟩ = some (Value.slice pp pa.length pc) ∧ w'.cell? ⟨w.heap.size, 1, none⟩ = some (Value.int .i64 tr) ∧ w'.cell? ⟨w.heap.size, 2, none⟩ = some (Value.int .i64 sz) ∧ w'.cell? ⟨w.heap.size, 3, none⟩ = some (Value.slice q0 it.length q1))) (by kernel_rfl) ?rx11s (fun hHeld => ?rx110)
            case rx11s => ((try dsimp only); exact ⟨(Below.refl _ _).drew, by simpa using z0, by simpa using z1, by simpa using z2, by simpa using z3, by simpa using z4, by simpa using c0w, by simpa using c1w, by simpa using c2w, by simpa using c3w⟩)
            try simp only [Act.put, List.setIfInBounds_toArray, List.set_cons_zero, List.set_cons_succ]
            refine take_at 0 (some 36) (v := ?vx11_1) rfl rfl (by kernel_rfl) (by kernel_rfl) (by kernel_rfl) (fun _ _ _ h => h) (Or.inl ⟨by kernel_rfl, ?yx11_1⟩) hHeld ?zx11_1
            case yx11_1 => (intro wS hSw; (try dsimp only at hSw); go_simp; (try with_reducible rfl))
            try simp only [Act.put, List.setIfInBounds_toArray, List.set_cons_zero, List.set_cons_succ]
            refine take_at 1 (some 37) (v := ?vx11_2) rfl rfl (by kernel_rfl) (by kernel_rfl) (by kernel_rfl) (fun _ _ _ h => h) (Or.inl ⟨by kernel_rfl, ?yx11_2⟩) hHeld ?zx11_2
            case yx11_2 => (intro wS hSw; (try dsimp only at hSw); go_simp; (try with_reducible rfl))
            try simp only [Act.put, List.setIfInBounds_toArray, List.set_cons_zero, List.set_cons_succ]
            refine take_at 2 (some 38) (v := ?vx11_3) rfl rfl (by kernel_rfl) (by kernel_rfl) (by kernel_rfl) (fun _ _ _ h => h) (Or.inl ⟨by kernel_rfl, ?yx11_3⟩) hHeld ?zx11_3
            case yx11_3 => (intro wS hSw; (try dsimp only at hSw); go_simp; (try with_reducible rfl))
            try simp only [Act.put, List.setIfInBounds_toArray, List.set_cons_zero, List.set_cons_succ]
            refine wpAnyH_ready (rs := [3]) (by kernel_rfl) (by simp) ?_
            refine cons_at (some 39) rfl rfl (by kernel_rfl) (fun K hK => ?kx11_5) AllReadyH.nil
            go_simp
            (go_at_call 30; with_reducible refine (HLk.out _ (HB3.out.trans (hHeld.1.mono HB3.out.size))).mono ?_; rintro e w' ⟨rfl, hbel⟩)
            try go_wp2_with fail
            refine hK.out _ _ ?sx11_5 (fun hHeld => ?_)
            case sx11_5 => ((try dsimp only); first | exact ⟨hHeld.1.trans (hbel.mono hHeld.1.size), cell_on hbel hHeld.2.1, cell_on hbel hHeld.2.2.1, cell_on hbel hHeld.2.2.2.1, cell_on hbel hHeld.2.2.2.2.1, cell_on hbel hHeld.2.2.2.2.2.1, cell_on hbel hHeld.2.2.2.2.2.2.1, cell_on hbel hHeld.2.2.2.2.2.2.2.1, cell_on hbel hHeld.2.2.2.2.2.2.2.2.1, cell_on hbel hHeld.2.2.2.2.2.2.2.2.2⟩ | assumption)
            clear hK K
            try simp only [Act.put, List.setIfInBounds_toArray, List.set_cons_zero, List.set_cons_succ]
            refine take_at 4 (some 40) (v := ?vx11_6) rfl rfl (by kernel_rfl) (by kernel_rfl) (by kernel_rfl) (fun _ _ _ h => h) (Or.inl ⟨by kernel_rfl, ?yx11_6⟩) hHeld ?zx11_6
            case yx11_6 => (intro wS hSw; (try dsimp only at hSw); go_simp; (try with_reducible rfl))
            try simp only [Act.put, List.setIfInBounds_toArray, List.set_cons_zero, List.set_cons_succ]
            refine take_at 5 (some 41) (v := undef) rfl rfl (by kernel_rfl) (by kernel_rfl) (by kernel_rfl) (fun _ _ _ h => h) (Or.inr ⟨by kernel_rfl, rfl⟩) hHeld ?_
            try simp only [Act.put, List.setIfInBounds_toArray, List.set_cons_zero, List.set_cons_succ]
            refine take_at 6 (some 42) (v := undef) rfl rfl (by kernel_rfl) (by kernel_rfl) (by kernel_rfl) (fun _ _ _ h => h) (Or.inr ⟨by kernel_rfl, rfl⟩) hHeld ?_
            try simp only [Act.put, List.setIfInBounds_toArray, List.set_cons_zero, List.set_cons_succ]
            refine take_at 7 (some 43) (v := undef) rfl rfl (by kernel_rfl) (by kernel_rfl) (by kernel_rfl) (fun _ _ _ h => h) (Or.inr ⟨by kernel_rfl, rfl⟩) hHeld ?_
            try simp only [Act.put, List.setIfInBounds_toArray, List.set_cons_zero, List.set_cons_succ]
            refine take_at 8 (some 44) (v := undef) rfl rfl (by kernel_rfl) (by kernel_rfl) (by kernel_rfl) (fun _ _ _ h => h) (Or.inr ⟨by kernel_rfl, rfl⟩) hHeld ?_
            try simp only [Act.put, List.setIfInBounds_toArray, List.set_cons_zero, List.set_cons_succ]
            refine take_at 9 (some 45) (v := undef) rfl rfl (by kernel_rfl) (by kernel_rfl) (by kernel_rfl) (fun _ _ _ h => h) (Or.inr ⟨by kernel_rfl, rfl⟩) hHeld ?_
            try simp only [Act.put, List.setIfInBounds_toArray, List.set_cons_zero, List.set_cons_succ]
            refine take_at 10 (some 46) (v := undef) rfl rfl (by kernel_rfl) (by kernel_rfl) (by kernel_rfl) (fun _ _ _ h => h) (Or.inr ⟨by kernel_rfl, rfl⟩) hHeld ?_
            try simp only [Act.put, List.setIfInBounds_toArray, List.set_cons_zero, List.set_cons_succ]
            refine take_at 11 (some 47) (v := undef) rfl rfl (by kernel_rfl) (by kernel_rfl) (by kernel_rfl) (fun _ _ _ h => h) (Or.inr ⟨by kernel_rfl, rfl⟩) hHeld ?_
            try simp only [Act.put, List.setIfInBounds_toArray, List.set_cons_zero, List.set_cons_succ]
            refine take_at 12 (some 48) (v := undef) rfl rfl (by kernel_rfl) (by kernel_rfl) (by kernel_rfl) (fun _ _ _ h => h) (Or.inr ⟨by kernel_rfl, rfl⟩) hHeld ?_
            try simp only [Act.put, List.setIfInBounds_toArray, List.set_cons_zero, List.set_cons_succ]
            refine take_at 13 (some 49) (v := undef) rfl rfl (by kernel_rfl) (by kernel_rfl) (by kernel_rfl) (fun _ _ _ h => h) (Or.inr ⟨by kernel_rfl, rfl⟩) hHeld ?_
            try simp only [Act.put, List.setIfInBounds_toArray, List.set_cons_zero, List.set_cons_succ]
            refine take_at 14 (some 50) (v := undef) rfl rfl (by kernel_rfl) (by kernel_rfl) (by kernel_rfl) (fun _ _ _ h => h) (Or.inr ⟨by kernel_rfl, rfl⟩) hHeld ?_
            try simp only [Act.put, List.setIfInBounds_toArray, List.set_cons_zero, List.set_cons_succ]
            refine take_at 15 (some 51) (v := undef) rfl rfl (by kernel_rfl) (by kernel_rfl) (by kernel_rfl) (fun _ _ _ h => h) (Or.inr ⟨by kernel_rfl, rfl⟩) hHeld ?_
            try simp only [Act.put, List.setIfInBounds_toArray, List.set_cons_zero, List.set_cons_succ]
            refine take_at 16 (some 52) (v := undef) rfl rfl (by kernel_rfl) (by kernel_rfl) (by kernel_rfl) (fun _ _ _ h => h) (Or.inr ⟨by kernel_rfl, rfl⟩) hHeld ?_
            try simp only [Act.put, List.setIfInBounds_toArray, List.set_cons_zero, List.set_cons_succ]
            refine take_at 17 (some 53) (v := undef) rfl rfl (by kernel_rfl) (by kernel_rfl) (by kernel_rfl) (fun _ _ _ h => h) (Or.inr ⟨by kernel_rfl, rfl⟩) hHeld ?_
            try simp only [Act.put, List.setIfInBounds_toArray, List.set_cons_zero, List.set_cons_succ]
            refine take_at 18 (some 54) (v := undef) rfl rfl (by kernel_rfl) (by kernel_rfl) (by kernel_rfl) (fun _ _ _ h => h) (Or.inr ⟨by kernel_rfl, rfl⟩) hHeld ?_
            try simp only [Act.put, List.setIfInBounds_toArray, List.set_cons_zero, List.set_cons_succ]
            refine take_at 19 (some 55) (v := undef) rfl rfl (by kernel_rfl) (by kernel_rfl) (by kernel_rfl) (fun _ _ _ h => h) (Or.inr ⟨by kernel_rfl, rfl⟩) hHeld ?_
            try simp only [Act.put, List.setIfInBounds_toArray, List.set_cons_zero, List.set_cons_succ]
            refine take_at 20 (some 56) (v := undef) rfl rfl (by kernel_rfl) (by kernel_rfl) (by kernel_rfl) (fun _ _ _ h => h) (Or.inr ⟨by kernel_rfl, rfl⟩) hHeld ?_
            try simp only [Act.put, List.setIfInBounds_toArray, List.set_cons_zero, List.set_cons_succ]
            refine take_at 21 (some 57) (v := undef) rfl rfl (by kernel_rfl) (by kernel_rfl) (by kernel_rfl) (fun _ _ _ h => h) (Or.inr ⟨by kernel_rfl, rfl⟩) hHeld ?_
            try simp only [Act.put, List.setIfInBounds_toArray, List.set_cons_zero, List.set_cons_succ]
            refine take_at 22 (some 58) (v := undef) rfl rfl (by kernel_rfl) (by kernel_rfl) (by kernel_rfl) (fun _ _ _ h => h) (Or.inr ⟨by kernel_rfl, rfl⟩) hHeld ?_
            try simp only [Act.put, List.setIfInBounds_toArray, List.set_cons_zero, List.set_cons_succ]
            refine take_at 23 (some 59) (v := undef) rfl rfl (by kernel_rfl) (by kernel_rfl) (by kernel_rfl) (fun _ _ _ h => h) (Or.inr ⟨by kernel_rfl, rfl⟩) hHeld ?_
            try simp only [Act.put, List.setIfInBounds_toArray, List.set_cons_zero, List.set_cons_succ]
            refine take_at 24 (some 60) (v := undef) rfl rfl (by kernel_rfl) (by kernel_rfl) (by kernel_rfl) (fun _ _ _ h => h) (Or.inr ⟨by kernel_rfl, rfl⟩) hHeld ?_
            try simp only [Act.put, List.setIfInBounds_toArray, List.set_cons_zero, List.set_cons_succ]
            refine take_at 25 (some 61) (v := undef) rfl rfl (by kernel_rfl) (by kernel_rfl) (by kernel_rfl) (fun _ _ _ h => h) (Or.inr ⟨by kernel_rfl, rfl⟩) hHeld ?_
            try simp only [Act.put, List.setIfInBounds_toArray, List.set_cons_zero, List.set_cons_succ]
            refine take_at 26 (some 62) (v := undef) rfl rfl (by kernel_rfl) (by kernel_rfl) (by kernel_rfl) (fun _ _ _ h => h) (Or.inr ⟨by kernel_rfl, rfl⟩) hHeld ?_
            try simp only [Act.put, List.setIfInBounds_toArray, List.set_cons_zero, List.set_cons_succ]
            refine take_at 27 (some 63) (v := undef) rfl rfl (by kernel_rfl) (by kernel_rfl) (by kernel_rfl) (fun _ _ _ h => h) (Or.inr ⟨by kernel_rfl, rfl⟩) hHeld ?_
            try simp only [Act.put, List.setIfInBounds_toArray, List.set_cons_zero, List.set_cons_succ]
            refine take_at 28 (some 64) (v := undef) rfl rfl (by kernel_rfl) (by kernel_rfl) (by kernel_rfl) (fun _ _ _ h => h) (Or.inr ⟨by kernel_rfl, rfl⟩) hHeld ?_
            try simp only [Act.put, List.setIfInBounds_toArray, List.set_cons_zero, List.set_cons_succ]
            refine take_at 29 (some 65) (v := ?vx11_31) rfl rfl (by kernel_rfl) (by kernel_rfl) (by kernel_rfl) (fun _ _ _ h => h) (Or.inl ⟨by kernel_rfl, ?yx11_31⟩) hHeld ?zx11_31
            case yx11_31 => (intro wS hSw; (try dsimp only at hSw); go_simp; (try with_reducible rfl))
            try simp only [Act.put, List.setIfInBounds_toArray, List.set_cons_zero, List.set_cons_succ]
            refine wpAnyH_done (by kernel_rfl) ?_ _
            go_wp2
            go_roundw
            case rel => exact ⟨k + 1, by omega, by omega, by go_num, HX, Lib.hid (HBn.out.trans (hHeld.1.mono HBn.out.size))⟩
            case measure => simp [intOf]; omega
          · cases st
            · have HX := Lib.hid (HBk.out (by rw [HLs2.out]; simp [sdB]))
              clear HLs2
              refine wp_region_held_drew (S := (fun w' => Below w3.heap.size w3 w' ∧ w'.cell? ⟨wq.heap.size, 0, none⟩ = some (Value.bool false) ∧ w'.cell? ⟨wq.heap.size, 1, none⟩ = some (Value.int .i64 rck) ∧ w'.cell? ⟨wq.heap.size, 2, none⟩ = some (Value.int .i64 nx) ∧ w'.cell? ⟨wq.heap.size, 3, none⟩ = some (Value.slice ps sl.length cs) ∧ w'.cell? ⟨wq.heap.size, 4, none⟩ = some (Value.slice pq rq.length cq) ∧ w'.cell? ⟨w.heap.size, 0, none⟩ = some (Value.slice pp pa.length pc) ∧ w'.cell? ⟨w.heap.size, 1, none⟩ = some (Value.int .i64 tr) ∧ w'.cell? ⟨w.heap.size, 2, none⟩ = some (Value.int .i64 sz) ∧ w'.cell? ⟨w.heap.size, 3, none⟩ = some (Value.slice q0 it.length q1))) (by kernel_rfl) ?rx12s (fun hHeld => ?rx120)
              case rx12s => ((try dsimp only); exact ⟨(Below.refl _ _).drew, by simpa using z0, by simpa using z1, by simpa using z2, by simpa using z3, by simpa using z4, by simpa using c0w, by simpa using c1w, by simpa using c2w, by simpa using c3w⟩)
              try simp only [Act.put, List.setIfInBounds_toArray, List.set_cons_zero, List.set_cons_succ]
              refine take_at 0 (some 36) (v := ?vx12_1) rfl rfl (by kernel_rfl) (by kernel_rfl) (by kernel_rfl) (fun _ _ _ h => h) (Or.inl ⟨by kernel_rfl, ?yx12_1⟩) hHeld ?zx12_1
              case yx12_1 => (intro wS hSw; (try dsimp only at hSw); go_simp; (try with_reducible rfl))
              try simp only [Act.put, List.setIfInBounds_toArray, List.set_cons_zero, List.set_cons_succ]
              refine take_at 1 (some 37) (v := ?vx12_2) rfl rfl (by kernel_rfl) (by kernel_rfl) (by kernel_rfl) (fun _ _ _ h => h) (Or.inl ⟨by kernel_rfl, ?yx12_2⟩) hHeld ?zx12_2
              case yx12_2 => (intro wS hSw; (try dsimp only at hSw); go_simp; (try with_reducible rfl))
              try simp only [Act.put, List.setIfInBounds_toArray, List.set_cons_zero, List.set_cons_succ]
              refine take_at 2 (some 38) (v := ?vx12_3) rfl rfl (by kernel_rfl) (by kernel_rfl) (by kernel_rfl) (fun _ _ _ h => h) (Or.inl ⟨by kernel_rfl, ?yx12_3⟩) hHeld ?zx12_3
              case yx12_3 => (intro wS hSw; (try dsimp only at hSw); go_simp; (try with_reducible rfl))
              try simp only [Act.put, List.setIfInBounds_toArray, List.set_cons_zero, List.set_cons_succ]
              refine wpAnyH_ready (rs := [3]) (by kernel_rfl) (by simp) ?_
              refine cons_at (some 39) rfl rfl (by kernel_rfl) (fun K hK => ?kx12_5) AllReadyH.nil
              go_simp
              (go_at_call 30; with_reducible refine (HLk.out _ (HB3.out.trans (hHeld.1.mono HB3.out.size))).mono ?_; rintro e w' ⟨rfl, hbel⟩)
              try go_wp2_with fail
              refine hK.out _ _ ?sx12_5 (fun hHeld => ?_)
              case sx12_5 => ((try dsimp only); first | exact ⟨hHeld.1.trans (hbel.mono hHeld.1.size), cell_on hbel hHeld.2.1, cell_on hbel hHeld.2.2.1, cell_on hbel hHeld.2.2.2.1, cell_on hbel hHeld.2.2.2.2.1, cell_on hbel hHeld.2.2.2.2.2.1, cell_on hbel hHeld.2.2.2.2.2.2.1, cell_on hbel hHeld.2.2.2.2.2.2.2.1, cell_on hbel hHeld.2.2.2.2.2.2.2.2.1, cell_on hbel hHeld.2.2.2.2.2.2.2.2.2⟩ | assumption)
              clear hK K
              try simp only [Act.put, List.setIfInBounds_toArray, List.set_cons_zero, List.set_cons_succ]
              refine take_at 4 (some 40) (v := ?vx12_6) rfl rfl (by kernel_rfl) (by kernel_rfl) (by kernel_rfl) (fun _ _ _ h => h) (Or.inl ⟨by kernel_rfl, ?yx12_6⟩) hHeld ?zx12_6
              case yx12_6 => (intro wS hSw; (try dsimp only at hSw); go_simp; (try with_reducible rfl))
              try simp only [Act.put, List.setIfInBounds_toArray, List.set_cons_zero, List.set_cons_succ]
              refine take_at 5 (some 41) (v := ?vx12_7) rfl rfl (by kernel_rfl) (by kernel_rfl) (by kernel_rfl) (fun _ _ _ h => h) (Or.inl ⟨by kernel_rfl, ?yx12_7⟩) hHeld ?zx12_7
              case yx12_7 => (intro wS hSw; (try dsimp only at hSw); go_simp; (try with_reducible rfl))
              try simp only [Act.put, List.setIfInBounds_toArray, List.set_cons_zero, List.set_cons_succ]
              refine take_at 6 (some 42) (v := ?vx12_8) rfl rfl (by kernel_rfl) (by kernel_rfl) (by kernel_rfl) (fun _ _ _ h => h) (Or.inl ⟨by kernel_rfl, ?yx12_8⟩) hHeld ?zx12_8
              case yx12_8 => (intro wS hSw; (try dsimp only at hSw); go_simp; (try with_reducible rfl))
              try simp only [Act.put, List.setIfInBounds_toArray, List.set_cons_zero, List.set_cons_succ]
              refine take_at 7 (some 43) (v := ?vx12_9) rfl rfl (by kernel_rfl) (by kernel_rfl) (by kernel_rfl) (fun _ _ _ h => h) (Or.inl ⟨by kernel_rfl, ?yx12_9⟩) hHeld ?zx12_9
              case yx12_9 => (intro wS hSw; (try dsimp only at hSw); go_simp; (try with_reducible rfl))
              try simp only [Act.put, List.setIfInBounds_toArray, List.set_cons_zero, List.set_cons_succ]
              refine take_at 8 (some 44) (v := ?vx12_10) rfl rfl (by kernel_rfl) (by kernel_rfl) (by kernel_rfl) (fun _ _ _ h => h) (Or.inl ⟨by kernel_rfl, ?yx12_10⟩) hHeld ?zx12_10
              case yx12_10 => (intro wS hSw; (try dsimp only at hSw); go_simp; (try with_reducible rfl))
              try simp only [Act.put, List.setIfInBounds_toArray, List.set_cons_zero, List.set_cons_succ]
              refine take_at 9 (some 45) (v := undef) rfl rfl (by kernel_rfl) (by kernel_rfl) (by kernel_rfl) (fun _ _ _ h => h) (Or.inr ⟨by kernel_rfl, rfl⟩) hHeld ?_
              try simp only [Act.put, List.setIfInBounds_toArray, List.set_cons_zero, List.set_cons_succ]
              refine take_at 10 (some 46) (v := undef) rfl rfl (by kernel_rfl) (by kernel_rfl) (by kernel_rfl) (fun _ _ _ h => h) (Or.inr ⟨by kernel_rfl, rfl⟩) hHeld ?_
              try simp only [Act.put, List.setIfInBounds_toArray, List.set_cons_zero, List.set_cons_succ]
              refine take_at 11 (some 47) (v := undef) rfl rfl (by kernel_rfl) (by kernel_rfl) (by kernel_rfl) (fun _ _ _ h => h) (Or.inr ⟨by kernel_rfl, rfl⟩) hHeld ?_
              try simp only [Act.put, List.setIfInBounds_toArray, List.set_cons_zero, List.set_cons_succ]
              refine take_at 12 (some 48) (v := undef) rfl rfl (by kernel_rfl) (by kernel_rfl) (by kernel_rfl) (fun _ _ _ h => h) (Or.inr ⟨by kernel_rfl, rfl⟩) hHeld ?_
              try simp only [Act.put, List.setIfInBounds_toArray, List.set_cons_zero, List.set_cons_succ]
              refine take_at 13 (some 49) (v := undef) rfl rfl (by kernel_rfl) (by kernel_rfl) (by kernel_rfl) (fun _ _ _ h => h) (Or.inr ⟨by kernel_rfl, rfl⟩) hHeld ?_
              try simp only [Act.put, List.setIfInBounds_toArray, List.set_cons_zero, List.set_cons_succ]
              refine take_at 14 (some 50) (v := undef) rfl rfl (by kernel_rfl) (by kernel_rfl) (by kernel_rfl) (fun _ _ _ h => h) (Or.inr ⟨by kernel_rfl, rfl⟩) hHeld ?_
              try simp only [Act.put, List.setIfInBounds_toArray, List.set_cons_zero, List.set_cons_succ]
              refine take_at 15 (some 51) (v := undef) rfl rfl (by kernel_rfl) (by kernel_rfl) (by kernel_rfl) (fun _ _ _ h => h) (Or.inr ⟨by kernel_rfl, rfl⟩) hHeld ?_
              try simp only [Act.put, List.setIfInBounds_toArray, List.set_cons_zero, List.set_cons_succ]
              refine take_at 16 (some 52) (v := undef) rfl rfl (by kernel_rfl) (by kernel_rfl) (by kernel_rfl) (fun _ _ _ h => h) (Or.inr ⟨by kernel_rfl, rfl⟩) hHeld ?_
              try simp only [Act.put, List.setIfInBounds_toArray, List.set_cons_zero, List.set_cons_succ]
              refine take_at 17 (some 53) (v := undef) rfl rfl (by kernel_rfl) (by kernel_rfl) (by kernel_rfl) (fun _ _ _ h => h) (Or.inr ⟨by kernel_rfl, rfl⟩) hHeld ?_
              try simp only [Act.put, List.setIfInBounds_toArray, List.set_cons_zero, List.set_cons_succ]
              refine take_at 18 (some 54) (v := ?vx12_20) rfl rfl (by kernel_rfl) (by kernel_rfl) (by kernel_rfl) (fun _ _ _ h => h) (Or.inl ⟨by kernel_rfl, ?yx12_20⟩) hHeld ?zx12_20
              case yx12_20 => (intro wS hSw; (try dsimp only at hSw); go_simp; (try with_reducible rfl))
              try simp only [Act.put, List.setIfInBounds_toArray, List.set_cons_zero, List.set_cons_succ]
              refine take_at 19 (some 55) (v := ?vx12_21) rfl rfl (by kernel_rfl) (by kernel_rfl) (by kernel_rfl) (fun _ _ _ h => h) (Or.inl ⟨by kernel_rfl, ?yx12_21⟩) hHeld ?zx12_21
              case yx12_21 => (intro wS hSw; (try dsimp only at hSw); go_simp; (try with_reducible rfl))
              try simp only [Act.put, List.setIfInBounds_toArray, List.set_cons_zero, List.set_cons_succ]
              refine take_at 20 (some 56) (v := undef) rfl rfl (by kernel_rfl) (by kernel_rfl) (by kernel_rfl) (fun _ _ _ h => h) (Or.inr ⟨by kernel_rfl, rfl⟩) hHeld ?_
              try simp only [Act.put, List.setIfInBounds_toArray, List.set_cons_zero, List.set_cons_succ]
              refine take_at 21 (some 57) (v := undef) rfl rfl (by kernel_rfl) (by kernel_rfl) (by kernel_rfl) (fun _ _ _ h => h) (Or.inr ⟨by kernel_rfl, rfl⟩) hHeld ?_
              try simp only [Act.put, List.setIfInBounds_toArray, List.set_cons_zero, List.set_cons_succ]
              refine take_at 22 (some 58) (v := undef) rfl rfl (by kernel_rfl) (by kernel_rfl) (by kernel_rfl) (fun _ _ _ h => h) (Or.inr ⟨by kernel_rfl, rfl⟩) hHeld ?_
              try simp only [Act.put, List.setIfInBounds_toArray, List.set_cons_zero, List.set_cons_succ]
              refine take_at 23 (some 59) (v := undef) rfl rfl (by kernel_rfl) (by kernel_rfl) (by kernel_rfl) (fun _ _ _ h => h) (Or.inr ⟨by kernel_rfl, rfl⟩) hHeld ?_
              try simp only [Act.put, List.setIfInBounds_toArray, List.set_cons_zero, List.set_cons_succ]
              refine take_at 24 (some 60) (v := undef) rfl rfl (by kernel_rfl) (by kernel_rfl) (by kernel_rfl) (fun _ _ _ h => h) (Or.inr ⟨by kernel_rfl, rfl⟩) hHeld ?_
              try simp only [Act.put, List.setIfInBounds_toArray, List.set_cons_zero, List.set_cons_succ]
              refine take_at 25 (some 61) (v := undef) rfl rfl (by kernel_rfl) (by kernel_rfl) (by kernel_rfl) (fun _ _ _ h => h) (Or.inr ⟨by kernel_rfl, rfl⟩) hHeld ?_
              try simp only [Act.put, List.setIfInBounds_toArray, List.set_cons_zero, List.set_cons_succ]
              refine take_at 26 (some 62) (v := undef) rfl rfl (by kernel_rfl) (by kernel_rfl) (by kernel_rfl) (fun _ _ _ h => h) (Or.inr ⟨by kernel_rfl, rfl⟩) hHeld ?_
              try simp only [Act.put, List.setIfInBounds_toArray, List.set_cons_zero, List.set_cons_succ]
              refine take_at 27 (some 63) (v := undef) rfl rfl (by kernel_rfl) (by kernel_rfl) (by kernel_rfl) (fun _ _ _ h => h) (Or.inr ⟨by kernel_rfl, rfl⟩) hHeld ?_
              try simp only [Act.put, List.setIfInBounds_toArray, List.set_cons_zero, List.set_cons_succ]
              refine take_at 28 (some 64) (v := ?vx12_30) rfl rfl (by kernel_rfl) (by kernel_rfl) (by kernel_rfl) (fun _ _ _ h => h) (Or.inl ⟨by kernel_rfl, ?yx12_30⟩) hHeld ?zx12_30
              case yx12_30 => (intro wS hSw; (try dsimp only at hSw); go_simp; (try with_reducible rfl))
              try simp only [Act.put, List.setIfInBounds_toArray, List.set_cons_zero, List.set_cons_succ]
              refine take_at 29 (some 65) (v := ?vx12_31) rfl rfl (by kernel_rfl) (by kernel_rfl) (by kernel_rfl) (fun _ _ _ h => h) (Or.inl ⟨by kernel_rfl, ?yx12_31⟩) hHeld ?zx12_31
              case yx12_31 => (intro wS hSw; (try dsimp only at hSw); go_simp; (try with_reducible rfl))
              try simp only [Act.put, List.setIfInBounds_toArray, List.set_cons_zero, List.set_cons_succ]
              refine wpAnyH_done (by kernel_rfl) ?_ _
              go_wp2
              go_ret2
              exact ⟨by rw [HX.out]; rfl, (HB0.out.trans ((Lib.hid (HBn.out.trans (hHeld.1.mono HBn.out.size))).out.mono HB0.out.size))⟩
            · by_cases hs : rq.length + sl.length = 0
              · obtain rfl := List.length_eq_zero_iff.1 (show rq.length = 0 by omega)
                obtain rfl := List.length_eq_zero_iff.1 (show sl.length = 0 by omega)
                clear hs
                have hw0 : IntKind.i64.wrap 0 = 0 := by rw [IntKind.wrap_i64]; rfl
                have hw1 : wrap64 0 = 0 := by simp only [wrap64]; rfl
                by_cases hn : nx = ld
                · have HX := Lib.hid (HNx.out (by rw [HLs2.out]; simp [hn, sdB]))
                  have hnb : (nx == ld) = true := by simp [hn]
                  replace hn := Lib.hid hn
                  clear HLs2
                  refine wp_region_held_drew (S := (fun w' => Below w3.heap.size w3 w' ∧ w'.cell? ⟨wq.heap.size, 0, none⟩ = some (Value.bool true) ∧ w'.cell? ⟨wq.heap.size, 1, none⟩ = some (Value.int .i64 rck) ∧ w'.cell? ⟨wq.heap.size, 2, none⟩ = some (Value.int .i64 nx) ∧ w'.cell? ⟨wq.heap.size, 3, none⟩ = some (Value.slice ps (0 : Nat) cs) ∧ w'.cell? ⟨wq.heap.size, 4, none⟩ = some (Value.slice pq (0 : Nat) cq) ∧ w'.cell? ⟨w.heap.size, 0, none⟩ = some (Value.slice pp pa.length pc) ∧ w'.cell? ⟨w.heap.size, 1, none⟩ = some (Value.int .i64 tr) ∧ w'.cell? ⟨w.heap.size, 2, none⟩ = some (Value.int .i64 sz) ∧ w'.cell? ⟨w.heap.size, 3, none⟩ = some (Value.slice q0 it.length q1))) (by kernel_rfl) ?rx13s (fun hHeld => ?rx130)
                  case rx13s => ((try dsimp only); exact ⟨(Below.refl _ _).drew, by simpa using z0, by simpa using z1, by simpa using z2, by simpa using z3, by simpa using z4, by simpa using c0w, by simpa using c1w, by simpa using c2w, by simpa using c3w⟩)
                  try simp only [Act.put, List.setIfInBounds_toArray, List.set_cons_zero, List.set_cons_succ]
                  refine take_at 0 (some 36) (v := ?vx13_1) rfl rfl (by kernel_rfl) (by kernel_rfl) (by kernel_rfl) (fun _ _ _ h => h) (Or.inl ⟨by kernel_rfl, ?yx13_1⟩) hHeld ?zx13_1
                  case yx13_1 => (intro wS hSw; (try dsimp only at hSw); go_simp; (try with_reducible rfl))
                  try simp only [Act.put, List.setIfInBounds_toArray, List.set_cons_zero, List.set_cons_succ]
                  refine take_at 1 (some 37) (v := ?vx13_2) rfl rfl (by kernel_rfl) (by kernel_rfl) (by kernel_rfl) (fun _ _ _ h => h) (Or.inl ⟨by kernel_rfl, ?yx13_2⟩) hHeld ?zx13_2
                  case yx13_2 => (intro wS hSw; (try dsimp only at hSw); go_simp; (try with_reducible rfl))
                  try simp only [Act.put, List.setIfInBounds_toArray, List.set_cons_zero, List.set_cons_succ]
                  refine take_at 2 (some 38) (v := ?vx13_3) rfl rfl (by kernel_rfl) (by kernel_rfl) (by kernel_rfl) (fun _ _ _ h => h) (Or.inl ⟨by kernel_rfl, ?yx13_3⟩) hHeld ?zx13_3
                  case yx13_3 => (intro wS hSw; (try dsimp only at hSw); go_simp; (try with_reducible rfl))
                  try simp only [Act.put, List.setIfInBounds_toArray, List.set_cons_zero, List.set_cons_succ]
                  refine wpAnyH_ready (rs := [3]) (by kernel_rfl) (by simp) ?_
                  refine cons_at (some 39) rfl rfl (by kernel_rfl) (fun K hK => ?kx13_5) AllReadyH.nil
                  go_simp
                  (go_at_call 30; with_reducible refine (HLk.out _ (HB3.out.trans (hHeld.1.mono HB3.out.size))).mono ?_; rintro e w' ⟨rfl, hbel⟩)
                  try go_wp2_with fail
                  refine hK.out _ _ ?sx13_5 (fun hHeld => ?_)
                  case sx13_5 => ((try dsimp only); first | exact ⟨hHeld.1.trans (hbel.mono hHeld.1.size), cell_on hbel hHeld.2.1, cell_on hbel hHeld.2.2.1, cell_on hbel hHeld.2.2.2.1, cell_on hbel hHeld.2.2.2.2.1, cell_on hbel hHeld.2.2.2.2.2.1, cell_on hbel hHeld.2.2.2.2.2.2.1, cell_on hbel hHeld.2.2.2.2.2.2.2.1, cell_on hbel hHeld.2.2.2.2.2.2.2.2.1, cell_on hbel hHeld.2.2.2.2.2.2.2.2.2⟩ | assumption)
                  clear hK K
                  try simp only [Act.put, List.setIfInBounds_toArray, List.set_cons_zero, List.set_cons_succ]
                  refine take_at 4 (some 40) (v := ?vx13_6) rfl rfl (by kernel_rfl) (by kernel_rfl) (by kernel_rfl) (fun _ _ _ h => h) (Or.inl ⟨by kernel_rfl, ?yx13_6⟩) hHeld ?zx13_6
                  case yx13_6 => (intro wS hSw; (try dsimp only at hSw); go_simp; (try with_reducible rfl))
                  try simp only [Act.put, List.setIfInBounds_toArray, List.set_cons_zero, List.set_cons_succ]
                  refine take_at 5 (some 41) (v := ?vx13_7) rfl rfl (by kernel_rfl) (by kernel_rfl) (by kernel_rfl) (fun _ _ _ h => h) (Or.inl ⟨by kernel_rfl, ?yx13_7⟩) hHeld ?zx13_7
                  case yx13_7 => (intro wS hSw; (try dsimp only at hSw); go_simp; (try with_reducible rfl))
                  try simp only [Act.put, List.setIfInBounds_toArray, List.set_cons_zero, List.set_cons_succ]
                  refine take_at 6 (some 42) (v := ?vx13_8) rfl rfl (by kernel_rfl) (by kernel_rfl) (by kernel_rfl) (fun _ _ _ h => h) (Or.inl ⟨by kernel_rfl, ?yx13_8⟩) hHeld ?zx13_8
                  case yx13_8 => (intro wS hSw; (try dsimp only at hSw); go_simp; (try with_reducible rfl))
                  try simp only [Act.put, List.setIfInBounds_toArray, List.set_cons_zero, List.set_cons_succ]
                  refine take_at 7 (some 43) (v := ?vx13_9) rfl rfl (by kernel_rfl) (by kernel_rfl) (by kernel_rfl) (fun _ _ _ h => h) (Or.inl ⟨by kernel_rfl, ?yx13_9⟩) hHeld ?zx13_9
                  case yx13_9 => (intro wS hSw; (try dsimp only at hSw); go_simp; (try with_reducible rfl))
                  try simp only [Act.put, List.setIfInBounds_toArray, List.set_cons_zero, List.set_cons_succ]
                  refine take_at 8 (some 44) (v := ?vx13_10) rfl rfl (by kernel_rfl) (by kernel_rfl) (by kernel_rfl) (fun _ _ _ h => h) (Or.inl ⟨by kernel_rfl, ?yx13_10⟩) hHeld ?zx13_10
                  case yx13_10 => (intro wS hSw; (try dsimp only at hSw); go_simp; (try with_reducible rfl))
                  try simp only [Act.put, List.setIfInBounds_toArray, List.set_cons_zero, List.set_cons_succ]
                  refine take_at 9 (some 45) (v := ?vx13_11) rfl rfl (by kernel_rfl) (by kernel_rfl) (by kernel_rfl) (fun _ _ _ h => h) (Or.inl ⟨by kernel_rfl, ?yx13_11⟩) hHeld ?zx13_11
                  case yx13_11 => (intro wS hSw; (try dsimp only at hSw); go_simp; (try with_reducible rfl))
                  try simp only [Act.put, List.setIfInBounds_toArray, List.set_cons_zero, List.set_cons_succ]
                  refine take_at 10 (some 46) (v := ?vx13_12) rfl rfl (by kernel_rfl) (by kernel_rfl) (by kernel_rfl) (fun _ _ _ h => h) (Or.inl ⟨by kernel_rfl, ?yx13_12⟩) hHeld ?zx13_12
                  case yx13_12 => (intro wS hSw; (try dsimp only at hSw); go_simp; (try with_reducible rfl))
                  try simp only [Act.put, List.setIfInBounds_toArray, List.set_cons_zero, List.set_cons_succ]
                  refine take_at 11 (some 47) (v := ?vx13_13) rfl rfl (by kernel_rfl) (by kernel_rfl) (by kernel_rfl) (fun _ _ _ h => h) (Or.inl ⟨by kernel_rfl, ?yx13_13⟩) hHeld ?zx13_13
                  case yx13_13 => (intro wS hSw; (try dsimp only at hSw); go_simp; (try with_reducible rfl))
                  try simp only [Act.put, List.setIfInBounds_toArray, List.set_cons_zero, List.set_cons_succ]
                  refine take_at 12 (some 48) (v := ?vx13_14) rfl rfl (by kernel_rfl) (by kernel_rfl) (by kernel_rfl) (fun _ _ _ h => h) (Or.inl ⟨by kernel_rfl, ?yx13_14⟩) hHeld ?zx13_14
                  case yx13_14 => (intro wS hSw; (try dsimp only at hSw); go_simp; (try with_reducible rfl))
                  try simp only [Act.put, List.setIfInBounds_toArray, List.set_cons_zero, List.set_cons_succ]
                  refine take_at 13 (some 49) (v := ?vx13_15) rfl rfl (by kernel_rfl) (by kernel_rfl) (by kernel_rfl) (fun _ _ _ h => h) (Or.inl ⟨by kernel_rfl, ?yx13_15⟩) hHeld ?zx13_15
                  case yx13_15 => (intro wS hSw; (try dsimp only at hSw); go_simp; (try with_reducible rfl))
                  try simp only [Act.put, List.setIfInBounds_toArray, List.set_cons_zero, List.set_cons_succ]
                  refine take_at 14 (some 50) (v := ?vx13_16) rfl rfl (by kernel_rfl) (by kernel_rfl) (by kernel_rfl) (fun _ _ _ h => h) (Or.inl ⟨by kernel_rfl, ?yx13_16⟩) hHeld ?zx13_16
                  case yx13_16 => (intro wS hSw; (try dsimp only at hSw); go_simp; (try with_reducible rfl))
                  try simp only [Act.put, List.setIfInBounds_toArray, List.set_cons_zero, List.set_cons_succ]
                  refine take_at 15 (some 51) (v := ?vx13_17) rfl rfl (by kernel_rfl) (by kernel_rfl) (by kernel_rfl) (fun _ _ _ h => h) (Or.inl ⟨by kernel_rfl, ?yx13_17⟩) hHeld ?zx13_17
                  case yx13_17 => (intro wS hSw; (try dsimp only at hSw); go_simp; (try with_reducible rfl))
                  try simp only [Act.put, List.setIfInBounds_toArray, List.set_cons_zero, List.set_cons_succ]
                  refine take_at 16 (some 52) (v := ?vx13_18) rfl rfl (by kernel_rfl) (by kernel_rfl) (by kernel_rfl) (fun _ _ _ h => h) (Or.inl ⟨by kernel_rfl, ?yx13_18⟩) hHeld ?zx13_18
                  case yx13_18 => (intro wS hSw; (try dsimp only at hSw); go_simp; (try with_reducible rfl))
                  try simp only [Act.put, List.setIfInBounds_toArray, List.set_cons_zero, List.set_cons_succ]
                  refine take_at 17 (some 53) (v := ?vx13_19) rfl rfl (by kernel_rfl) (by kernel_rfl) (by kernel_rfl) (fun _ _ _ h => h) (Or.inl ⟨by kernel_rfl, ?yx13_19⟩) hHeld ?zx13_19
                  case yx13_19 => (intro wS hSw; (try dsimp only at hSw); go_simp; (try with_reducible rfl))
                  try simp only [Act.put, List.setIfInBounds_toArray, List.set_cons_zero, List.set_cons_succ]
                  refine take_at 18 (some 54) (v := ?vx13_20) rfl rfl (by kernel_rfl) (by kernel_rfl) (by kernel_rfl) (fun _ _ _ h => h) (Or.inl ⟨by kernel_rfl, ?yx13_20⟩) hHeld ?zx13_20
                  case yx13_20 => (intro wS hSw; (try dsimp only at hSw); go_simp; (try with_reducible rfl))
                  try simp only [Act.put, List.setIfInBounds_toArray, List.set_cons_zero, List.set_cons_succ]
                  refine take_at 19 (some 55) (v := ?vx13_21) rfl rfl (by kernel_rfl) (by kernel_rfl) (by kernel_rfl) (fun _ _ _ h => h) (Or.inl ⟨by kernel_rfl, ?yx13_21⟩) hHeld ?zx13_21
                  case yx13_21 => (intro wS hSw; (try dsimp only at hSw); go_simp; (try with_reducible rfl))
                  try simp only [Act.put, List.setIfInBounds_toArray, List.set_cons_zero, List.set_cons_succ]
                  refine take_at 20 (some 56) (v := ?vx13_22) rfl rfl (by kernel_rfl) (by kernel_rfl) (by kernel_rfl) (fun _ _ _ h => h) (Or.inl ⟨by kernel_rfl, ?yx13_22⟩) hHeld ?zx13_22
                  case yx13_22 => (intro wS hSw; (try dsimp only at hSw); go_simp; (try with_reducible rfl))
                  try simp only [Act.put, List.setIfInBounds_toArray, List.set_cons_zero, List.set_cons_succ]
                  refine take_at 21 (some 57) (v := ?vx13_23) rfl rfl (by kernel_rfl) (by kernel_rfl) (by kernel_rfl) (fun _ _ _ h => h) (Or.inl ⟨by kernel_rfl, ?yx13_23⟩) hHeld ?zx13_23
                  case yx13_23 => (intro wS hSw; (try dsimp only at hSw); go_simp; (try with_reducible rfl))
                  try simp only [Act.put, List.setIfInBounds_toArray, List.set_cons_zero, List.set_cons_succ]
                  refine take_at 22 (some 58) (v := ?vx13_24) rfl rfl (by kernel_rfl) (by kernel_rfl) (by kernel_rfl) (fun _ _ _ h => h) (Or.inl ⟨by kernel_rfl, ?yx13_24⟩) hHeld ?zx13_24
                  case yx13_24 => (intro wS hSw; (try dsimp only at hSw); go_simp; (try with_reducible rfl))
                  try simp only [Act.put, List.setIfInBounds_toArray, List.set_cons_zero, List.set_cons_succ]
                  refine take_at 23 (some 59) (v := ?vx13_25) rfl rfl (by kernel_rfl) (by kernel_rfl) (by kernel_rfl) (fun _ _ _ h => h) (Or.inl ⟨by kernel_rfl, ?yx13_25⟩) hHeld ?zx13_25
                  case yx13_25 => (intro wS hSw; (try dsimp only at hSw); go_simp; (try with_reducible rfl))
                  try simp only [Act.put, List.setIfInBounds_toArray, List.set_cons_zero, List.set_cons_succ]
                  refine take_at 24 (some 60) (v := ?vx13_26) rfl rfl (by kernel_rfl) (by kernel_rfl) (by kernel_rfl) (fun _ _ _ h => h) (Or.inl ⟨by kernel_rfl, ?yx13_26⟩) hHeld ?zx13_26
                  case yx13_26 => (intro wS hSw; (try dsimp only at hSw); go_simp; (try with_reducible rfl))
                  try simp only [Act.put, List.setIfInBounds_toArray, List.set_cons_zero, List.set_cons_succ]
                  refine take_at 25 (some 61) (v := ?vx13_27) rfl rfl (by kernel_rfl) (by kernel_rfl) (by kernel_rfl) (fun _ _ _ h => h) (Or.inl ⟨by kernel_rfl, ?yx13_27⟩) hHeld ?zx13_27
                  case yx13_27 => (intro wS hSw; (try dsimp only at hSw); go_simp; (try with_reducible rfl))
                  try simp only [Act.put, List.setIfInBounds_toArray, List.set_cons_zero, List.set_cons_succ]
                  refine wpAnyH_ready (rs := [26]) (by kernel_rfl) (by simp) ?_
                  refine cons_at (some 62) rfl rfl (by kernel_rfl) (fun K hK => ?kx13_29) AllReadyH.nil
                  go_simp
                  (go_at_call 31; with_reducible refine (HLead.out _ (HB3.out.trans (hHeld.1.mono HB3.out.size))).mono ?_; rintro e w' ⟨rfl, hbel⟩)
                  try go_wp2_with fail
                  refine hK.out _ _ ?sx13_29 (fun hHeld => ?_)
                  case sx13_29 => ((try dsimp only); first | exact ⟨hHeld.1.trans (hbel.mono hHeld.1.size), cell_on hbel hHeld.2.1, cell_on hbel hHeld.2.2.1, cell_on hbel hHeld.2.2.2.1, cell_on hbel hHeld.2.2.2.2.1, cell_on hbel hHeld.2.2.2.2.2.1, cell_on hbel hHeld.2.2.2.2.2.2.1, cell_on hbel hHeld.2.2.2.2.2.2.2.1, cell_on hbel hHeld.2.2.2.2.2.2.2.2.1, cell_on hbel hHeld.2.2.2.2.2.2.2.2.2⟩ | assumption)
                  clear hK K
                  try simp only [Act.put, List.setIfInBounds_toArray, List.set_cons_zero, List.set_cons_succ]
                  refine take_at 27 (some 63) (v := ?vx13_30) rfl rfl (by kernel_rfl) (by kernel_rfl) (by kernel_rfl) (fun _ _ _ h => h) (Or.inl ⟨by kernel_rfl, ?yx13_30⟩) hHeld ?zx13_30
                  case yx13_30 => (intro wS hSw; (try dsimp only at hSw); go_simp; (try with_reducible rfl))
                  try simp only [Act.put, List.setIfInBounds_toArray, List.set_cons_zero, List.set_cons_succ]
                  refine take_at 28 (some 64) (v := ?vx13_31) rfl rfl (by kernel_rfl) (by kernel_rfl) (by kernel_rfl) (fun _ _ _ h => h) (Or.inl ⟨by kernel_rfl, ?yx13_31⟩) hHeld ?zx13_31
                  case yx13_31 => (intro wS hSw; (try dsimp only at hSw); go_simp; (try with_reducible rfl))
                  try simp only [Act.put, List.setIfInBounds_toArray, List.set_cons_zero, List.set_cons_succ]
                  refine take_at 29 (some 65) (v := ?vx13_32) rfl rfl (by kernel_rfl) (by kernel_rfl) (by kernel_rfl) (fun _ _ _ h => h) (Or.inl ⟨by kernel_rfl, ?yx13_32⟩) hHeld ?zx13_32
                  case yx13_32 => (intro wS hSw; (try dsimp only at hSw); go_simp; (try with_reducible rfl))
                  try simp only [Act.put, List.setIfInBounds_toArray, List.set_cons_zero, List.set_cons_succ]
                  refine wpAnyH_done (by kernel_rfl) ?_ _
                  go_wp2
                  go_roundw
                  case rel => exact ⟨k + 1, by omega, by omega, by go_num, HX, Lib.hid (HBn.out.trans (hHeld.1.mono HBn.out.size))⟩
                  case measure => simp [intOf]; omega
                · have HX := Lib.hid (HBk.out (by rw [HLs2.out]; simp [hn, sdB]))
                  have hnb : (nx == ld) = false := by simp [hn]
                  clear HLs2
                  refine wp_region_held_drew (S := (fun w' => Below w3.heap.size w3 w' ∧ w'.cell? ⟨wq.heap.size, 0, none⟩ = some (Value.bool true) ∧ w'.cell? ⟨wq.heap.size, 1, none⟩ = some (Value.int .i64 rck) ∧ w'.cell? ⟨wq.heap.size, 2, none⟩ = some (Value.int .i64 nx) ∧ w'.cell? ⟨wq.heap.size, 3, none⟩ = some (Value.slice ps (0 : Nat) cs) ∧ w'.cell? ⟨wq.heap.size, 4, none⟩ = some (Value.slice pq (0 : Nat) cq) ∧ w'.cell? ⟨w.heap.size, 0, none⟩ = some (Value.slice pp pa.length pc) ∧ w'.cell? ⟨w.heap.size, 1, none⟩ = some (Value.int .i64 tr) ∧ w'.cell? ⟨w.heap.size, 2, none⟩ = some (Value.int .i64 sz) ∧ w'.cell? ⟨w.heap.size, 3, none⟩ = some (Value.slice q0 it.length q1))) (by kernel_rfl) ?rx14s (fun hHeld => ?rx140)
                  case rx14s => ((try dsimp only); exact ⟨(Below.refl _ _).drew, by simpa using z0, by simpa using z1, by simpa using z2, by simpa using z3, by simpa using z4, by simpa using c0w, by simpa using c1w, by simpa using c2w, by simpa using c3w⟩)
                  try simp only [Act.put, List.setIfInBounds_toArray, List.set_cons_zero, List.set_cons_succ]
                  refine take_at 0 (some 36) (v := ?vx14_1) rfl rfl (by kernel_rfl) (by kernel_rfl) (by kernel_rfl) (fun _ _ _ h => h) (Or.inl ⟨by kernel_rfl, ?yx14_1⟩) hHeld ?zx14_1
                  case yx14_1 => (intro wS hSw; (try dsimp only at hSw); go_simp; (try with_reducible rfl))
                  try simp only [Act.put, List.setIfInBounds_toArray, List.set_cons_zero, List.set_cons_succ]
                  refine take_at 1 (some 37) (v := ?vx14_2) rfl rfl (by kernel_rfl) (by kernel_rfl) (by kernel_rfl) (fun _ _ _ h => h) (Or.inl ⟨by kernel_rfl, ?yx14_2⟩) hHeld ?zx14_2
                  case yx14_2 => (intro wS hSw; (try dsimp only at hSw); go_simp; (try with_reducible rfl))
                  try simp only [Act.put, List.setIfInBounds_toArray, List.set_cons_zero, List.set_cons_succ]
                  refine take_at 2 (some 38) (v := ?vx14_3) rfl rfl (by kernel_rfl) (by kernel_rfl) (by kernel_rfl) (fun _ _ _ h => h) (Or.inl ⟨by kernel_rfl, ?yx14_3⟩) hHeld ?zx14_3
                  case yx14_3 => (intro wS hSw; (try dsimp only at hSw); go_simp; (try with_reducible rfl))
                  try simp only [Act.put, List.setIfInBounds_toArray, List.set_cons_zero, List.set_cons_succ]
                  refine wpAnyH_ready (rs := [3]) (by kernel_rfl) (by simp) ?_
                  refine cons_at (some 39) rfl rfl (by kernel_rfl) (fun K hK => ?kx14_5) AllReadyH.nil
                  go_simp
                  (go_at_call 30; with_reducible refine (HLk.out _ (HB3.out.trans (hHeld.1.mono HB3.out.size))).mono ?_; rintro e w' ⟨rfl, hbel⟩)
                  try go_wp2_with fail
                  refine hK.out _ _ ?sx14_5 (fun hHeld => ?_)
                  case sx14_5 => ((try dsimp only); first | exact ⟨hHeld.1.trans (hbel.mono hHeld.1.size), cell_on hbel hHeld.2.1, cell_on hbel hHeld.2.2.1, cell_on hbel hHeld.2.2.2.1, cell_on hbel hHeld.2.2.2.2.1, cell_on hbel hHeld.2.2.2.2.2.1, cell_on hbel hHeld.2.2.2.2.2.2.1, cell_on hbel hHeld.2.2.2.2.2.2.2.1, cell_on hbel hHeld.2.2.2.2.2.2.2.2.1, cell_on hbel hHeld.2.2.2.2.2.2.2.2.2⟩ | assumption)
                  clear hK K
                  try simp only [Act.put, List.setIfInBounds_toArray, List.set_cons_zero, List.set_cons_succ]
                  refine take_at 4 (some 40) (v := ?vx14_6) rfl rfl (by kernel_rfl) (by kernel_rfl) (by kernel_rfl) (fun _ _ _ h => h) (Or.inl ⟨by kernel_rfl, ?yx14_6⟩) hHeld ?zx14_6
                  case yx14_6 => (intro wS hSw; (try dsimp only at hSw); go_simp; (try with_reducible rfl))
                  try simp only [Act.put, List.setIfInBounds_toArray, List.set_cons_zero, List.set_cons_succ]
                  refine take_at 5 (some 41) (v := ?vx14_7) rfl rfl (by kernel_rfl) (by kernel_rfl) (by kernel_rfl) (fun _ _ _ h => h) (Or.inl ⟨by kernel_rfl, ?yx14_7⟩) hHeld ?zx14_7
                  case yx14_7 => (intro wS hSw; (try dsimp only at hSw); go_simp; (try with_reducible rfl))
                  try simp only [Act.put, List.setIfInBounds_toArray, List.set_cons_zero, List.set_cons_succ]
                  refine take_at 6 (some 42) (v := ?vx14_8) rfl rfl (by kernel_rfl) (by kernel_rfl) (by kernel_rfl) (fun _ _ _ h => h) (Or.inl ⟨by kernel_rfl, ?yx14_8⟩) hHeld ?zx14_8
                  case yx14_8 => (intro wS hSw; (try dsimp only at hSw); go_simp; (try with_reducible rfl))
                  try simp only [Act.put, List.setIfInBounds_toArray, List.set_cons_zero, List.set_cons_succ]
                  refine take_at 7 (some 43) (v := ?vx14_9) rfl rfl (by kernel_rfl) (by kernel_rfl) (by kernel_rfl) (fun _ _ _ h => h) (Or.inl ⟨by kernel_rfl, ?yx14_9⟩) hHeld ?zx14_9
                  case yx14_9 => (intro wS hSw; (try dsimp only at hSw); go_simp; (try with_reducible rfl))
                  try simp only [Act.put, List.setIfInBounds_toArray, List.set_cons_zero, List.set_cons_succ]
                  refine take_at 8 (some 44) (v := ?vx14_10) rfl rfl (by kernel_rfl) (by kernel_rfl) (by kernel_rfl) (fun _ _ _ h => h) (Or.inl ⟨by kernel_rfl, ?yx14_10⟩) hHeld ?zx14_10
                  case yx14_10 => (intro wS hSw; (try dsimp only at hSw); go_simp; (try with_reducible rfl))
                  try simp only [Act.put, List.setIfInBounds_toArray, List.set_cons_zero, List.set_cons_succ]
                  refine take_at 9 (some 45) (v := ?vx14_11) rfl rfl (by kernel_rfl) (by kernel_rfl) (by kernel_rfl) (fun _ _ _ h => h) (Or.inl ⟨by kernel_rfl, ?yx14_11⟩) hHeld ?zx14_11
                  case yx14_11 => (intro wS hSw; (try dsimp only at hSw); go_simp; (try with_reducible rfl))
                  try simp only [Act.put, List.setIfInBounds_toArray, List.set_cons_zero, List.set_cons_succ]
                  refine take_at 10 (some 46) (v := ?vx14_12) rfl rfl (by kernel_rfl) (by kernel_rfl) (by kernel_rfl) (fun _ _ _ h => h) (Or.inl ⟨by kernel_rfl, ?yx14_12⟩) hHeld ?zx14_12
                  case yx14_12 => (intro wS hSw; (try dsimp only at hSw); go_simp; (try with_reducible rfl))
                  try simp only [Act.put, List.setIfInBounds_toArray, List.set_cons_zero, List.set_cons_succ]
                  refine take_at 11 (some 47) (v := ?vx14_13) rfl rfl (by kernel_rfl) (by kernel_rfl) (by kernel_rfl) (fun _ _ _ h => h) (Or.inl ⟨by kernel_rfl, ?yx14_13⟩) hHeld ?zx14_13
                  case yx14_13 => (intro wS hSw; (try dsimp only at hSw); go_simp; (try with_reducible rfl))
                  try simp only [Act.put, List.setIfInBounds_toArray, List.set_cons_zero, List.set_cons_succ]
                  refine take_at 12 (some 48) (v := ?vx14_14) rfl rfl (by kernel_rfl) (by kernel_rfl) (by kernel_rfl) (fun _ _ _ h => h) (Or.inl ⟨by kernel_rfl, ?yx14_14⟩) hHeld ?zx14_14
                  case yx14_14 => (intro wS hSw; (try dsimp only at hSw); go_simp; (try with_reducible rfl))
                  try simp only [Act.put, List.setIfInBounds_toArray, List.set_cons_zero, List.set_cons_succ]
                  refine take_at 13 (some 49) (v := ?vx14_15) rfl rfl (by kernel_rfl) (by kernel_rfl) (by kernel_rfl) (fun _ _ _ h => h) (Or.inl ⟨by kernel_rfl, ?yx14_15⟩) hHeld ?zx14_15
                  case yx14_15 => (intro wS hSw; (try dsimp only at hSw); go_simp; (try with_reducible rfl))
                  try simp only [Act.put, List.setIfInBounds_toArray, List.set_cons_zero, List.set_cons_succ]
                  refine take_at 14 (some 50) (v := ?vx14_16) rfl rfl (by kernel_rfl) (by kernel_rfl) (by kernel_rfl) (fun _ _ _ h => h) (Or.inl ⟨by kernel_rfl, ?yx14_16⟩) hHeld ?zx14_16
                  case yx14_16 => (intro wS hSw; (try dsimp only at hSw); go_simp; (try with_reducible rfl))
                  try simp only [Act.put, List.setIfInBounds_toArray, List.set_cons_zero, List.set_cons_succ]
                  refine take_at 15 (some 51) (v := ?vx14_17) rfl rfl (by kernel_rfl) (by kernel_rfl) (by kernel_rfl) (fun _ _ _ h => h) (Or.inl ⟨by kernel_rfl, ?yx14_17⟩) hHeld ?zx14_17
                  case yx14_17 => (intro wS hSw; (try dsimp only at hSw); go_simp; (try with_reducible rfl))
                  try simp only [Act.put, List.setIfInBounds_toArray, List.set_cons_zero, List.set_cons_succ]
                  refine take_at 16 (some 52) (v := ?vx14_18) rfl rfl (by kernel_rfl) (by kernel_rfl) (by kernel_rfl) (fun _ _ _ h => h) (Or.inl ⟨by kernel_rfl, ?yx14_18⟩) hHeld ?zx14_18
                  case yx14_18 => (intro wS hSw; (try dsimp only at hSw); go_simp; (try with_reducible rfl))
                  try simp only [Act.put, List.setIfInBounds_toArray, List.set_cons_zero, List.set_cons_succ]
                  refine take_at 17 (some 53) (v := ?vx14_19) rfl rfl (by kernel_rfl) (by kernel_rfl) (by kernel_rfl) (fun _ _ _ h => h) (Or.inl ⟨by kernel_rfl, ?yx14_19⟩) hHeld ?zx14_19
                  case yx14_19 => (intro wS hSw; (try dsimp only at hSw); go_simp; (try with_reducible rfl))
                  try simp only [Act.put, List.setIfInBounds_toArray, List.set_cons_zero, List.set_cons_succ]
                  refine take_at 18 (some 54) (v := ?vx14_20) rfl rfl (by kernel_rfl) (by kernel_rfl) (by kernel_rfl) (fun _ _ _ h => h) (Or.inl ⟨by kernel_rfl, ?yx14_20⟩) hHeld ?zx14_20
                  case yx14_20 => (intro wS hSw; (try dsimp only at hSw); go_simp; (try with_reducible rfl))
                  try simp only [Act.put, List.setIfInBounds_toArray, List.set_cons_zero, List.set_cons_succ]
                  refine take_at 19 (some 55) (v := ?vx14_21) rfl rfl (by kernel_rfl) (by kernel_rfl) (by kernel_rfl) (fun _ _ _ h => h) (Or.inl ⟨by kernel_rfl, ?yx14_21⟩) hHeld ?zx14_21
                  case yx14_21 => (intro wS hSw; (try dsimp only at hSw); go_simp; (try with_reducible rfl))
                  try simp only [Act.put, List.setIfInBounds_toArray, List.set_cons_zero, List.set_cons_succ]
                  refine take_at 20 (some 56) (v := ?vx14_22) rfl rfl (by kernel_rfl) (by kernel_rfl) (by kernel_rfl) (fun _ _ _ h => h) (Or.inl ⟨by kernel_rfl, ?yx14_22⟩) hHeld ?zx14_22
                  case yx14_22 => (intro wS hSw; (try dsimp only at hSw); go_simp; (try with_reducible rfl))
                  try simp only [Act.put, List.setIfInBounds_toArray, List.set_cons_zero, List.set_cons_succ]
                  refine take_at 21 (some 57) (v := ?vx14_23) rfl rfl (by kernel_rfl) (by kernel_rfl) (by kernel_rfl) (fun _ _ _ h => h) (Or.inl ⟨by kernel_rfl, ?yx14_23⟩) hHeld ?zx14_23
                  case yx14_23 => (intro wS hSw; (try dsimp only at hSw); go_simp; (try with_reducible rfl))
                  try simp only [Act.put, List.setIfInBounds_toArray, List.set_cons_zero, List.set_cons_succ]
                  refine take_at 22 (some 58) (v := ?vx14_24) rfl rfl (by kernel_rfl) (by kernel_rfl) (by kernel_rfl) (fun _ _ _ h => h) (Or.inl ⟨by kernel_rfl, ?yx14_24⟩) hHeld ?zx14_24
                  case yx14_24 => (intro wS hSw; (try dsimp only at hSw); go_simp; (try with_reducible rfl))
                  try simp only [Act.put, List.setIfInBounds_toArray, List.set_cons_zero, List.set_cons_succ]
                  refine take_at 23 (some 59) (v := ?vx14_25) rfl rfl (by kernel_rfl) (by kernel_rfl) (by kernel_rfl) (fun _ _ _ h => h) (Or.inl ⟨by kernel_rfl, ?yx14_25⟩) hHeld ?zx14_25
                  case yx14_25 => (intro wS hSw; (try dsimp only at hSw); go_simp; (try with_reducible rfl))
                  try simp only [Act.put, List.setIfInBounds_toArray, List.set_cons_zero, List.set_cons_succ]
                  refine take_at 24 (some 60) (v := ?vx14_26) rfl rfl (by kernel_rfl) (by kernel_rfl) (by kernel_rfl) (fun _ _ _ h => h) (Or.inl ⟨by kernel_rfl, ?yx14_26⟩) hHeld ?zx14_26
                  case yx14_26 => (intro wS hSw; (try dsimp only at hSw); go_simp; (try with_reducible rfl))
                  try simp only [Act.put, List.setIfInBounds_toArray, List.set_cons_zero, List.set_cons_succ]
                  refine take_at 25 (some 61) (v := ?vx14_27) rfl rfl (by kernel_rfl) (by kernel_rfl) (by kernel_rfl) (fun _ _ _ h => h) (Or.inl ⟨by kernel_rfl, ?yx14_27⟩) hHeld ?zx14_27
                  case yx14_27 => (intro wS hSw; (try dsimp only at hSw); go_simp; (try with_reducible rfl))
                  try simp only [Act.put, List.setIfInBounds_toArray, List.set_cons_zero, List.set_cons_succ]
                  refine wpAnyH_ready (rs := [26]) (by kernel_rfl) (by simp) ?_
                  refine cons_at (some 62) rfl rfl (by kernel_rfl) (fun K hK => ?kx14_29) AllReadyH.nil
                  go_simp
                  (go_at_call 31; with_reducible refine (HLead.out _ (HB3.out.trans (hHeld.1.mono HB3.out.size))).mono ?_; rintro e w' ⟨rfl, hbel⟩)
                  try go_wp2_with fail
                  refine hK.out _ _ ?sx14_29 (fun hHeld => ?_)
                  case sx14_29 => ((try dsimp only); first | exact ⟨hHeld.1.trans (hbel.mono hHeld.1.size), cell_on hbel hHeld.2.1, cell_on hbel hHeld.2.2.1, cell_on hbel hHeld.2.2.2.1, cell_on hbel hHeld.2.2.2.2.1, cell_on hbel hHeld.2.2.2.2.2.1, cell_on hbel hHeld.2.2.2.2.2.2.1, cell_on hbel hHeld.2.2.2.2.2.2.2.1, cell_on hbel hHeld.2.2.2.2.2.2.2.2.1, cell_on hbel hHeld.2.2.2.2.2.2.2.2.2⟩ | assumption)
                  clear hK K
                  try simp only [Act.put, List.setIfInBounds_toArray, List.set_cons_zero, List.set_cons_succ]
                  refine take_at 27 (some 63) (v := ?vx14_30) rfl rfl (by kernel_rfl) (by kernel_rfl) (by kernel_rfl) (fun _ _ _ h => h) (Or.inl ⟨by kernel_rfl, ?yx14_30⟩) hHeld ?zx14_30
                  case yx14_30 => (intro wS hSw; (try dsimp only at hSw); go_simp; (try with_reducible rfl))
                  try simp only [Act.put, List.setIfInBounds_toArray, List.set_cons_zero, List.set_cons_succ]
                  refine take_at 28 (some 64) (v := ?vx14_31) rfl rfl (by kernel_rfl) (by kernel_rfl) (by kernel_rfl) (fun _ _ _ h => h) (Or.inl ⟨by kernel_rfl, ?yx14_31⟩) hHeld ?zx14_31
                  case yx14_31 => (intro wS hSw; (try dsimp only at hSw); go_simp; (try with_reducible rfl))
                  try simp only [Act.put, List.setIfInBounds_toArray, List.set_cons_zero, List.set_cons_succ]
                  refine take_at 29 (some 65) (v := ?vx14_32) rfl rfl (by kernel_rfl) (by kernel_rfl) (by kernel_rfl) (fun _ _ _ h => h) (Or.inl ⟨by kernel_rfl, ?yx14_32⟩) hHeld ?zx14_32
                  case yx14_32 => (intro wS hSw; (try dsimp only at hSw); go_simp; (try with_reducible rfl))
                  try simp only [Act.put, List.setIfInBounds_toArray, List.set_cons_zero, List.set_cons_succ]
                  refine wpAnyH_done (by kernel_rfl) ?_ _
                  go_wp2
                  go_ret2
                  exact ⟨by rw [HX.out]; rfl, (HB0.out.trans ((Lib.hid (HBn.out.trans (hHeld.1.mono HBn.out.size))).out.mono HB0.out.size))⟩
              · have HX := Lib.hid (HBk.out (by rw [HLs2.out]; simp only [sdB, Bool.not_true, Bool.false_or, Bool.true_and]; have h1 : ((rq.length : Int) == 0 && (sl.length : Int) == 0) = false := (by rw [← sum_zero, beq_eq_false_iff_ne]; omega); rw [h1]; rfl))
                have hs2 : (0 : Int) < (rq.length : Int) + (sl.length : Int) := by omega
                have hw0 : IntKind.i64.wrap ((rq.length : Int) + (sl.length : Int)) = (rq.length : Int) + (sl.length : Int) := by rw [IntKind.wrap_i64]; omega
                have hw1 : wrap64 ((rq.length : Int) + (sl.length : Int)) = (rq.length : Int) + (sl.length : Int) := by simp only [wrap64]; omega
                clear HLs2
                refine wp_region_held_drew (S := (fun w' => Below w3.heap.size w3 w' ∧ w'.cell? ⟨wq.heap.size, 0, none⟩ = some (Value.bool true) ∧ w'.cell? ⟨wq.heap.size, 1, none⟩ = some (Value.int .i64 rck) ∧ w'.cell? ⟨wq.heap.size, 2, none⟩ = some (Value.int .i64 nx) ∧ w'.cell? ⟨wq.heap.size, 3, none⟩ = some (Value.slice ps sl.length cs) ∧ w'.cell? ⟨wq.heap.size, 4, none⟩ = some (Value.slice pq rq.length cq) ∧ w'.cell? ⟨w.heap.size, 0, none⟩ = some (Value.slice pp pa.length pc) ∧ w'.cell? ⟨w.heap.size, 1, none⟩ = some (Value.int .i64 tr) ∧ w'.cell? ⟨w.heap.size, 2, none⟩ = some (Value.int .i64 sz) ∧ w'.cell? ⟨w.heap.size, 3, none⟩ = some (Value.slice q0 it.length q1))) (by kernel_rfl) ?rx15s (fun hHeld => ?rx150)
                case rx15s => ((try dsimp only); exact ⟨(Below.refl _ _).drew, by simpa using z0, by simpa using z1, by simpa using z2, by simpa using z3, by simpa using z4, by simpa using c0w, by simpa using c1w, by simpa using c2w, by simpa using c3w⟩)
                try simp only [Act.put, List.setIfInBounds_toArray, List.set_cons_zero, List.set_cons_succ]
                refine take_at 0 (some 36) (v := ?vx15_1) rfl rfl (by kernel_rfl) (by kernel_rfl) (by kernel_rfl) (fun _ _ _ h => h) (Or.inl ⟨by kernel_rfl, ?yx15_1⟩) hHeld ?zx15_1
                case yx15_1 => (intro wS hSw; (try dsimp only at hSw); go_simp; (try with_reducible rfl))
                try simp only [Act.put, List.setIfInBounds_toArray, List.set_cons_zero, List.set_cons_succ]
                refine take_at 1 (some 37) (v := ?vx15_2) rfl rfl (by kernel_rfl) (by kernel_rfl) (by kernel_rfl) (fun _ _ _ h => h) (Or.inl ⟨by kernel_rfl, ?yx15_2⟩) hHeld ?zx15_2
                case yx15_2 => (intro wS hSw; (try dsimp only at hSw); go_simp; (try with_reducible rfl))
                try simp only [Act.put, List.setIfInBounds_toArray, List.set_cons_zero, List.set_cons_succ]
                refine take_at 2 (some 38) (v := ?vx15_3) rfl rfl (by kernel_rfl) (by kernel_rfl) (by kernel_rfl) (fun _ _ _ h => h) (Or.inl ⟨by kernel_rfl, ?yx15_3⟩) hHeld ?zx15_3
                case yx15_3 => (intro wS hSw; (try dsimp only at hSw); go_simp; (try with_reducible rfl))
                try simp only [Act.put, List.setIfInBounds_toArray, List.set_cons_zero, List.set_cons_succ]
                refine wpAnyH_ready (rs := [3]) (by kernel_rfl) (by simp) ?_
                refine cons_at (some 39) rfl rfl (by kernel_rfl) (fun K hK => ?kx15_5) AllReadyH.nil
                go_simp
                (go_at_call 30; with_reducible refine (HLk.out _ (HB3.out.trans (hHeld.1.mono HB3.out.size))).mono ?_; rintro e w' ⟨rfl, hbel⟩)
                try go_wp2_with fail
                refine hK.out _ _ ?sx15_5 (fun hHeld => ?_)
                case sx15_5 => ((try dsimp only); first | exact ⟨hHeld.1.trans (hbel.mono hHeld.1.size), cell_on hbel hHeld.2.1, cell_on hbel hHeld.2.2.1, cell_on hbel hHeld.2.2.2.1, cell_on hbel hHeld.2.2.2.2.1, cell_on hbel hHeld.2.2.2.2.2.1, cell_on hbel hHeld.2.2.2.2.2.2.1, cell_on hbel hHeld.2.2.2.2.2.2.2.1, cell_on hbel hHeld.2.2.2.2.2.2.2.2.1, cell_on hbel hHeld.2.2.2.2.2.2.2.2.2⟩ | assumption)
                clear hK K
                try simp only [Act.put, List.setIfInBounds_toArray, List.set_cons_zero, List.set_cons_succ]
                refine take_at 4 (some 40) (v := ?vx15_6) rfl rfl (by kernel_rfl) (by kernel_rfl) (by kernel_rfl) (fun _ _ _ h => h) (Or.inl ⟨by kernel_rfl, ?yx15_6⟩) hHeld ?zx15_6
                case yx15_6 => (intro wS hSw; (try dsimp only at hSw); go_simp; (try with_reducible rfl))
                try simp only [Act.put, List.setIfInBounds_toArray, List.set_cons_zero, List.set_cons_succ]
                refine take_at 5 (some 41) (v := ?vx15_7) rfl rfl (by kernel_rfl) (by kernel_rfl) (by kernel_rfl) (fun _ _ _ h => h) (Or.inl ⟨by kernel_rfl, ?yx15_7⟩) hHeld ?zx15_7
                case yx15_7 => (intro wS hSw; (try dsimp only at hSw); go_simp; (try with_reducible rfl))
                try simp only [Act.put, List.setIfInBounds_toArray, List.set_cons_zero, List.set_cons_succ]
                refine take_at 6 (some 42) (v := ?vx15_8) rfl rfl (by kernel_rfl) (by kernel_rfl) (by kernel_rfl) (fun _ _ _ h => h) (Or.inl ⟨by kernel_rfl, ?yx15_8⟩) hHeld ?zx15_8
                case yx15_8 => (intro wS hSw; (try dsimp only at hSw); go_simp; (try with_reducible rfl))
                try simp only [Act.put, List.setIfInBounds_toArray, List.set_cons_zero, List.set_cons_succ]
                refine take_at 7 (some 43) (v := ?vx15_9) rfl rfl (by kernel_rfl) (by kernel_rfl) (by kernel_rfl) (fun _ _ _ h => h) (Or.inl ⟨by kernel_rfl, ?yx15_9⟩) hHeld ?zx15_9
                case yx15_9 => (intro wS hSw; (try dsimp only at hSw); go_simp; (try with_reducible rfl))
                try simp only [Act.put, List.setIfInBounds_toArray, List.set_cons_zero, List.set_cons_succ]
                refine take_at 8 (some 44) (v := ?vx15_10) rfl rfl (by kernel_rfl) (by kernel_rfl) (by kernel_rfl) (fun _ _ _ h => h) (Or.inl ⟨by kernel_rfl, ?yx15_10⟩) hHeld ?zx15_10
                case yx15_10 => (intro wS hSw; (try dsimp only at hSw); go_simp; (try with_reducible rfl))
                try simp only [Act.put, List.setIfInBounds_toArray, List.set_cons_zero, List.set_cons_succ]
                refine take_at 9 (some 45) (v := ?vx15_11) rfl rfl (by kernel_rfl) (by kernel_rfl) (by kernel_rfl) (fun _ _ _ h => h) (Or.inl ⟨by kernel_rfl, ?yx15_11⟩) hHeld ?zx15_11
                case yx15_11 => (intro wS hSw; (try dsimp only at hSw); go_simp; (try with_reducible rfl))
                try simp only [Act.put, List.setIfInBounds_toArray, List.set_cons_zero, List.set_cons_succ]
                refine take_at 10 (some 46) (v := ?vx15_12) rfl rfl (by kernel_rfl) (by kernel_rfl) (by kernel_rfl) (fun _ _ _ h => h) (Or.inl ⟨by kernel_rfl, ?yx15_12⟩) hHeld ?zx15_12
                case yx15_12 => (intro wS hSw; (try dsimp only at hSw); go_simp; (try with_reducible rfl))
                try simp only [Act.put, List.setIfInBounds_toArray, List.set_cons_zero, List.set_cons_succ]
                refine take_at 11 (some 47) (v := ?vx15_13) rfl rfl (by kernel_rfl) (by kernel_rfl) (by kernel_rfl) (fun _ _ _ h => h) (Or.inl ⟨by kernel_rfl, ?yx15_13⟩) hHeld ?zx15_13
                case yx15_13 => (intro wS hSw; (try dsimp only at hSw); go_simp; (try with_reducible rfl))
                try simp only [Act.put, List.setIfInBounds_toArray, List.set_cons_zero, List.set_cons_succ]
                refine take_at 12 (some 48) (v := ?vx15_14) rfl rfl (by kernel_rfl) (by kernel_rfl) (by kernel_rfl) (fun _ _ _ h => h) (Or.inl ⟨by kernel_rfl, ?yx15_14⟩) hHeld ?zx15_14
                case yx15_14 => (intro wS hSw; (try dsimp only at hSw); go_simp; (try with_reducible rfl))
                try simp only [Act.put, List.setIfInBounds_toArray, List.set_cons_zero, List.set_cons_succ]
                refine take_at 13 (some 49) (v := ?vx15_15) rfl rfl (by kernel_rfl) (by kernel_rfl) (by kernel_rfl) (fun _ _ _ h => h) (Or.inl ⟨by kernel_rfl, ?yx15_15⟩) hHeld ?zx15_15
                case yx15_15 => (intro wS hSw; (try dsimp only at hSw); go_simp; (try with_reducible rfl))
                try simp only [Act.put, List.setIfInBounds_toArray, List.set_cons_zero, List.set_cons_succ]
                refine take_at 14 (some 50) (v := ?vx15_16) rfl rfl (by kernel_rfl) (by kernel_rfl) (by kernel_rfl) (fun _ _ _ h => h) (Or.inl ⟨by kernel_rfl, ?yx15_16⟩) hHeld ?zx15_16
                case yx15_16 => (intro wS hSw; (try dsimp only at hSw); go_simp; (try with_reducible rfl))
                try simp only [Act.put, List.setIfInBounds_toArray, List.set_cons_zero, List.set_cons_succ]
                refine take_at 15 (some 51) (v := ?vx15_17) rfl rfl (by kernel_rfl) (by kernel_rfl) (by kernel_rfl) (fun _ _ _ h => h) (Or.inl ⟨by kernel_rfl, ?yx15_17⟩) hHeld ?zx15_17
                case yx15_17 => (intro wS hSw; (try dsimp only at hSw); go_simp; (try with_reducible rfl))
                try simp only [Act.put, List.setIfInBounds_toArray, List.set_cons_zero, List.set_cons_succ]
                refine take_at 16 (some 52) (v := ?vx15_18) rfl rfl (by kernel_rfl) (by kernel_rfl) (by kernel_rfl) (fun _ _ _ h => h) (Or.inl ⟨by kernel_rfl, ?yx15_18⟩) hHeld ?zx15_18
                case yx15_18 => (intro wS hSw; (try dsimp only at hSw); go_simp; (try with_reducible rfl))
                try simp only [Act.put, List.setIfInBounds_toArray, List.set_cons_zero, List.set_cons_succ]
                refine take_at 17 (some 53) (v := ?vx15_19) rfl rfl (by kernel_rfl) (by kernel_rfl) (by kernel_rfl) (fun _ _ _ h => h) (Or.inl ⟨by kernel_rfl, ?yx15_19⟩) hHeld ?zx15_19
                case yx15_19 => (intro wS hSw; (try dsimp only at hSw); go_simp; (try with_reducible rfl))
                try simp only [Act.put, List.setIfInBounds_toArray, List.set_cons_zero, List.set_cons_succ]
                refine take_at 18 (some 54) (v := ?vx15_20) rfl rfl (by kernel_rfl) (by kernel_rfl) (by kernel_rfl) (fun _ _ _ h => h) (Or.inl ⟨by kernel_rfl, ?yx15_20⟩) hHeld ?zx15_20
                case yx15_20 => (intro wS hSw; (try dsimp only at hSw); go_simp; (try with_reducible rfl))
                try simp only [Act.put, List.setIfInBounds_toArray, List.set_cons_zero, List.set_cons_succ]
                refine take_at 19 (some 55) (v := ?vx15_21) rfl rfl (by kernel_rfl) (by kernel_rfl) (by kernel_rfl) (fun _ _ _ h => h) (Or.inl ⟨by kernel_rfl, ?yx15_21⟩) hHeld ?zx15_21
                case yx15_21 => (intro wS hSw; (try dsimp only at hSw); go_simp; (try with_reducible rfl))
                try simp only [Act.put, List.setIfInBounds_toArray, List.set_cons_zero, List.set_cons_succ]
                refine take_at 20 (some 56) (v := undef) rfl rfl (by kernel_rfl) (by kernel_rfl) (by kernel_rfl) (fun _ _ _ h => h) (Or.inr ⟨by kernel_rfl, rfl⟩) hHeld ?_
                try simp only [Act.put, List.setIfInBounds_toArray, List.set_cons_zero, List.set_cons_succ]
                refine take_at 21 (some 57) (v := undef) rfl rfl (by kernel_rfl) (by kernel_rfl) (by kernel_rfl) (fun _ _ _ h => h) (Or.inr ⟨by kernel_rfl, rfl⟩) hHeld ?_
                try simp only [Act.put, List.setIfInBounds_toArray, List.set_cons_zero, List.set_cons_succ]
                refine take_at 22 (some 58) (v := undef) rfl rfl (by kernel_rfl) (by kernel_rfl) (by kernel_rfl) (fun _ _ _ h => h) (Or.inr ⟨by kernel_rfl, rfl⟩) hHeld ?_
                try simp only [Act.put, List.setIfInBounds_toArray, List.set_cons_zero, List.set_cons_succ]
                refine take_at 23 (some 59) (v := undef) rfl rfl (by kernel_rfl) (by kernel_rfl) (by kernel_rfl) (fun _ _ _ h => h) (Or.inr ⟨by kernel_rfl, rfl⟩) hHeld ?_
                try simp only [Act.put, List.setIfInBounds_toArray, List.set_cons_zero, List.set_cons_succ]
                refine take_at 24 (some 60) (v := undef) rfl rfl (by kernel_rfl) (by kernel_rfl) (by kernel_rfl) (fun _ _ _ h => h) (Or.inr ⟨by kernel_rfl, rfl⟩) hHeld ?_
                try simp only [Act.put, List.setIfInBounds_toArray, List.set_cons_zero, List.set_cons_succ]
                refine take_at 25 (some 61) (v := undef) rfl rfl (by kernel_rfl) (by kernel_rfl) (by kernel_rfl) (fun _ _ _ h => h) (Or.inr ⟨by kernel_rfl, rfl⟩) hHeld ?_
                try simp only [Act.put, List.setIfInBounds_toArray, List.set_cons_zero, List.set_cons_succ]
                refine take_at 26 (some 62) (v := undef) rfl rfl (by kernel_rfl) (by kernel_rfl) (by kernel_rfl) (fun _ _ _ h => h) (Or.inr ⟨by kernel_rfl, rfl⟩) hHeld ?_
                try simp only [Act.put, List.setIfInBounds_toArray, List.set_cons_zero, List.set_cons_succ]
                refine take_at 27 (some 63) (v := undef) rfl rfl (by kernel_rfl) (by kernel_rfl) (by kernel_rfl) (fun _ _ _ h => h) (Or.inr ⟨by kernel_rfl, rfl⟩) hHeld ?_
                try simp only [Act.put, List.setIfInBounds_toArray, List.set_cons_zero, List.set_cons_succ]
                refine take_at 28 (some 64) (v := ?vx15_30) rfl rfl (by kernel_rfl) (by kernel_rfl) (by kernel_rfl) (fun _ _ _ h => h) (Or.inl ⟨by kernel_rfl, ?yx15_30⟩) hHeld ?zx15_30
                case yx15_30 => (intro wS hSw; (try dsimp only at hSw); go_simp; (try with_reducible rfl))
                try simp only [Act.put, List.setIfInBounds_toArray, List.set_cons_zero, List.set_cons_succ]
                refine take_at 29 (some 65) (v := ?vx15_31) rfl rfl (by kernel_rfl) (by kernel_rfl) (by kernel_rfl) (fun _ _ _ h => h) (Or.inl ⟨by kernel_rfl, ?yx15_31⟩) hHeld ?zx15_31
                case yx15_31 => (intro wS hSw; (try dsimp only at hSw); go_simp; (try with_reducible rfl))
                try simp only [Act.put, List.setIfInBounds_toArray, List.set_cons_zero, List.set_cons_succ]
                refine wpAnyH_done (by kernel_rfl) ?_ _
                go_wp2
                go_ret2
                exact ⟨by rw [HX.out]; rfl, (HB0.out.trans ((Lib.hid (HBn.out.trans (hHeld.1.mono HBn.out.size))).out.mono HB0.out.size))⟩
        · have HX := Lib.hid (HBk.out (by rw [HLs.out]; have h1 : ((D.length : Int) + (U.length : Int) == 0) = false := (by rw [beq_eq_false_iff_ne]; omega); rw [h1]; rfl))
          have hs2 : (0 : Int) < (D.length : Int) + (U.length : Int) := by omega
          clear HLs
          go_wp2
          go_quiet (fail)
          go_wp2
          go_ret2
          exact ⟨by rw [HX.out]; rfl, below_drewN hB nq⟩
      · have HX := Lib.hid (HGood.out (fun j hj => HF.out j (by omega)))
        go_wp2
        go_ret2
        exact ⟨by rw [HX.out]; rfl, hB⟩
end Go.Proofs.YtihpibdodlgpaaaGreatDoor
