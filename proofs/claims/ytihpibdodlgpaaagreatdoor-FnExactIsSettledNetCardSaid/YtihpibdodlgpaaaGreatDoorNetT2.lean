/- Contracts: the program's IsSettledNet. -/
import Derived.Test.YtihpibdodlgpaaaGreatDoorNetU
import Derived.Test.YtihpibdodlgpaaaGreatDoorNetXs
import Derived.Test.YtihpibdodlgpaaaGreatDoorNetZ
import Derived.BigQuiet
namespace Go.Proofs.YtihpibdodlgpaaaGreatDoor
open Go.RowKit

theorem tqN_le {xs : List (List NPk)} (h : fitL fitPq 1048576 xs) : tqN xs ≤ 1099511627776 := by
  have h1 : ∀ (ys : List (List NPk)), (∀ y ∈ ys, y.length ≤ 1048576) → tqN ys ≤ ys.length * 1048576 := by
    intro ys
    induction ys with
    | nil => intro _; simp [tqN]
    | cons y ys ih =>
      intro hy
      have e : tqN (y :: ys) = y.length + tqN ys := by simp [tqN]
      have h2 := ih (fun z hz => hy z (List.mem_cons_of_mem _ hz))
      have h3 := hy y List.mem_cons_self
      rw [e, List.length_cons]; omega
  have h2 := h1 xs (fun y hy => (h.2 y hy).1)
  have h3 : xs.length * 1048576 ≤ 1048576 * 1048576 := Nat.mul_le_mul_right _ h.1
  omega
set_option maxRecDepth 100000 in
set_option maxHeartbeats 4000000 in
theorem nSettledNet_any (x : NNet) (v0 v1 v2 v3 v4 v5 v6 : Value) (w : World) (h0 : kI.At 0 w v0 x.tr.pa) (h1 : kS.At 0 w v1 x.sr.sw.it) (h2 : kHd.At 0 w v2 x.sr.hs) (h3 : kEl.At 0 w v3 x.el) (h4 : kRc.At 0 w v4 x.rc) (h5 : kPq.At 0 w v5 x.dn) (h6 : kPq.At 0 w v6 x.up) (hf : fitNt 1048576 x) :
    Calls Tryz.prog 11 #[.agg #[v0, .int .i64 x.sr.sw.tr, .int .i64 x.sr.sw.sz, v1, .int .i64 x.sr.ck, .int .i64 x.sr.qt, v2, v3, v4, v5, v6]] w fun e w' => e = .returned (.tuple #[.bool (seB x), .bool (ntB x)]) ∧ Below w.heap.size w w' := by
  obtain ⟨⟨pa⟩, ⟨⟨tr, sz, it⟩, ck, qt, hs⟩, el, rc, dn, up⟩ := x
  dsimp only at h0 h1 h2 h3 h4 h5 h6 ⊢
  have H0 := Lib.hid h0
  obtain ⟨pp, pc, _, _, rfl, -, -, -⟩ := h0.parts
  clear h0
  have H1 := Lib.hid h1
  obtain ⟨q0, q1, _, _, rfl, -, -, -⟩ := h1.parts
  clear h1
  have H2 := Lib.hid h2
  obtain ⟨q2, q3, _, _, rfl, -, -, -⟩ := h2.parts
  clear h2
  have H3 := Lib.hid h3
  obtain ⟨pe, ce, _, _, rfl, -, -, -⟩ := h3.parts
  clear h3
  have H4 := Lib.hid h4
  obtain ⟨pr, cr, _, _, rfl, -, -, -⟩ := h4.parts
  clear h4
  have H5 := Lib.hid h5
  obtain ⟨pd, cd, _, _, rfl, -, -, -⟩ := h5.parts
  clear h5
  have H6 := Lib.hid h6
  obtain ⟨pu, cu, _, _, rfl, -, -, -⟩ := h6.parts
  clear h6
  have HN := Lib.hid (fun W (hb : Below w.heap.size w W) => nNet_any (⟨⟨pa⟩, ⟨⟨tr, sz, it⟩, ck, qt, hs⟩, el, rc, dn, up⟩ : NNet) (.slice pp pa.length pc) (.slice q0 it.length q1) (.slice q2 hs.length q3) (.slice pe el.length ce) (.slice pr rc.length cr) (.slice pd dn.length cd) (.slice pu up.length cu) W (H0.out.below hb) (H1.out.below hb) (H2.out.below hb) (H3.out.below hb) (H4.out.below hb) (H5.out.below hb) (H6.out.below hb) hf)
  dsimp only at HN
  have HD := Lib.hid (fun W (hb : Below w.heap.size w W) => nQueued_any (.slice pd dn.length cd) dn W (H5.out.below hb) hf.2.2.2.2.1)
  have HU := Lib.hid (fun W (hb : Below w.heap.size w W) => nQueued_any (.slice pu up.length cu) up W (H6.out.below hb) hf.2.2.2.2.2)
  have HLv := Lib.hid (fun W (hb : Below w.heap.size w W) => nLeaves_any pa (.slice pp pa.length pc) W (H0.out.below hb) hf.1)
  have HLd := Lib.hid (fun W (hb : Below w.heap.size w W) (h : swB ⟨tr, sz, it⟩ = true) => nLead_any ⟨tr, sz, it⟩ (.slice q0 it.length q1) W (H1.out.below hb) h)
  have hfd : dn.length ≤ 1048576 ∧ ∀ x ∈ dn, x.length ≤ 1048576 := ⟨hf.2.2.2.2.1.1, fun x hx => (hf.2.2.2.2.1.2 x hx).1⟩
  dsimp only at HLd
  obtain ⟨x, hx⟩ : ∃ x, (⟨⟨pa⟩, ⟨⟨tr, sz, it⟩, ck, qt, hs⟩, el, rc, dn, up⟩ : NNet) = x := ⟨_, rfl⟩
  have HLens : Hid (ntB x = true → Lens x) := Lib.hid ntB_lens
  have HX0 : Hid (x.tr.pa = pa ∧ x.rc = rc ∧ x.dn = dn ∧ x.up = up ∧ x.sr.sw = ⟨tr, sz, it⟩) := Lib.hid (by rw [← hx]; exact ⟨rfl, rfl, rfl, rfl, rfl⟩)
  have htd : tqN dn ≤ 1099511627776 ∧ tqN up ≤ 1099511627776 := ⟨tqN_le hf.2.2.2.2.1, tqN_le hf.2.2.2.2.2⟩
  have hpl : pa.length ≤ 1048576 := hf.1
  rw [hx] at HN ⊢
  clear hx H0 H1 H2 H3 H5 H6 hf hfd
  have hB : Below w.heap.size w (w.alloc (.cells #[.slice pp pa.length pc, .int .i64 tr, .int .i64 sz, .slice q0 it.length q1, .int .i64 ck, .int .i64 qt, .slice q2 hs.length q3, .slice pe el.length ce, .slice pr rc.length cr, .slice pd dn.length cd, .slice pu up.length cu] 48)) := below_alloc1 _ _
  have c0 : (w.alloc (.cells #[.slice pp pa.length pc, .int .i64 tr, .int .i64 sz, .slice q0 it.length q1, .int .i64 ck, .int .i64 qt, .slice q2 hs.length q3, .slice pe el.length ce, .slice pr rc.length cr, .slice pd dn.length cd, .slice pu up.length cu] 48)).cell? ⟨w.heap.size, 0, none⟩ = some (Value.slice pp pa.length pc) := by simp
  have c1 : (w.alloc (.cells #[.slice pp pa.length pc, .int .i64 tr, .int .i64 sz, .slice q0 it.length q1, .int .i64 ck, .int .i64 qt, .slice q2 hs.length q3, .slice pe el.length ce, .slice pr rc.length cr, .slice pd dn.length cd, .slice pu up.length cu] 48)).cell? ⟨w.heap.size, 1, none⟩ = some (Value.int .i64 tr) := by simp
  have c2 : (w.alloc (.cells #[.slice pp pa.length pc, .int .i64 tr, .int .i64 sz, .slice q0 it.length q1, .int .i64 ck, .int .i64 qt, .slice q2 hs.length q3, .slice pe el.length ce, .slice pr rc.length cr, .slice pd dn.length cd, .slice pu up.length cu] 48)).cell? ⟨w.heap.size, 2, none⟩ = some (Value.int .i64 sz) := by simp
  have c3 : (w.alloc (.cells #[.slice pp pa.length pc, .int .i64 tr, .int .i64 sz, .slice q0 it.length q1, .int .i64 ck, .int .i64 qt, .slice q2 hs.length q3, .slice pe el.length ce, .slice pr rc.length cr, .slice pd dn.length cd, .slice pu up.length cu] 48)).cell? ⟨w.heap.size, 3, none⟩ = some (Value.slice q0 it.length q1) := by simp
  have c4 : (w.alloc (.cells #[.slice pp pa.length pc, .int .i64 tr, .int .i64 sz, .slice q0 it.length q1, .int .i64 ck, .int .i64 qt, .slice q2 hs.length q3, .slice pe el.length ce, .slice pr rc.length cr, .slice pd dn.length cd, .slice pu up.length cu] 48)).cell? ⟨w.heap.size, 4, none⟩ = some (Value.int .i64 ck) := by simp
  have c5 : (w.alloc (.cells #[.slice pp pa.length pc, .int .i64 tr, .int .i64 sz, .slice q0 it.length q1, .int .i64 ck, .int .i64 qt, .slice q2 hs.length q3, .slice pe el.length ce, .slice pr rc.length cr, .slice pd dn.length cd, .slice pu up.length cu] 48)).cell? ⟨w.heap.size, 5, none⟩ = some (Value.int .i64 qt) := by simp
  have c6 : (w.alloc (.cells #[.slice pp pa.length pc, .int .i64 tr, .int .i64 sz, .slice q0 it.length q1, .int .i64 ck, .int .i64 qt, .slice q2 hs.length q3, .slice pe el.length ce, .slice pr rc.length cr, .slice pd dn.length cd, .slice pu up.length cu] 48)).cell? ⟨w.heap.size, 6, none⟩ = some (Value.slice q2 hs.length q3) := by simp
  have c7 : (w.alloc (.cells #[.slice pp pa.length pc, .int .i64 tr, .int .i64 sz, .slice q0 it.length q1, .int .i64 ck, .int .i64 qt, .slice q2 hs.length q3, .slice pe el.length ce, .slice pr rc.length cr, .slice pd dn.length cd, .slice pu up.length cu] 48)).cell? ⟨w.heap.size, 7, none⟩ = some (Value.slice pe el.length ce) := by simp
  have c8 : (w.alloc (.cells #[.slice pp pa.length pc, .int .i64 tr, .int .i64 sz, .slice q0 it.length q1, .int .i64 ck, .int .i64 qt, .slice q2 hs.length q3, .slice pe el.length ce, .slice pr rc.length cr, .slice pd dn.length cd, .slice pu up.length cu] 48)).cell? ⟨w.heap.size, 8, none⟩ = some (Value.slice pr rc.length cr) := by simp
  have c9 : (w.alloc (.cells #[.slice pp pa.length pc, .int .i64 tr, .int .i64 sz, .slice q0 it.length q1, .int .i64 ck, .int .i64 qt, .slice q2 hs.length q3, .slice pe el.length ce, .slice pr rc.length cr, .slice pd dn.length cd, .slice pu up.length cu] 48)).cell? ⟨w.heap.size, 9, none⟩ = some (Value.slice pd dn.length cd) := by simp
  have c10 : (w.alloc (.cells #[.slice pp pa.length pc, .int .i64 tr, .int .i64 sz, .slice q0 it.length q1, .int .i64 ck, .int .i64 qt, .slice q2 hs.length q3, .slice pe el.length ce, .slice pr rc.length cr, .slice pd dn.length cd, .slice pu up.length cu] 48)).cell? ⟨w.heap.size, 10, none⟩ = some (Value.slice pu up.length cu) := by simp
  cases t : ntB x
  · have HX : Hid (seB x = false) := Lib.hid (by simp [seB, t])
    rw [t] at HN
    clear t HD HU HLv HLd HX0 HLens
    go_enter Tryz.func11, Tryz.ntmps11
    go_wp2_with (go_at_call 23; with_reducible refine (HN.out _ hB).mono ?_; rintro e w1 ⟨rfl, hbel⟩; replace hB := hB.trans (hbel.mono hB.size); replace c0 := cell_on hbel c0; replace c1 := cell_on hbel c1; replace c2 := cell_on hbel c2; replace c3 := cell_on hbel c3; replace c4 := cell_on hbel c4; replace c5 := cell_on hbel c5; replace c6 := cell_on hbel c6; replace c7 := cell_on hbel c7; replace c8 := cell_on hbel c8; replace c9 := cell_on hbel c9; replace c10 := cell_on hbel c10; clear hbel)
    go_ret2
    exact ⟨by rw [HX.out]; rfl, hB⟩
  · have HSe : Hid (seB x = stB x) := Lib.hid (by simp [seB, t])
    have hL := HLens.out t
    obtain ⟨x1, x2, x3, x4, x5⟩ := HX0.out
    have HLead := Lib.hid (fun W hb => HLd.out W hb (by rw [← x5]; exact hL.sw))
    obtain ⟨ld, hld⟩ : ∃ ld : Int, (tr + it.length) % 65536 = ld := ⟨_, rfl⟩
    rw [hld] at HLead
    have HAt : Hid (∀ k (h : k < rc.length), lsB x k = (sdB rc[k] && (rc[k].rw.nx == ld))) := Lib.hid (fun k h => by subst x2; rw [lsB_at h, x5, ← hld])
    have HBad : Hid (∀ (k : Nat), k < pa.length → hasB pa (k : Int) = false → lsB x k = false → stB x = false) := Lib.hid (by subst x1; exact fun k h1 h2 h3 => stB_bad h1 h2 h3)
    have HGood : Hid ((∀ y ∈ lvL pa pa.length, lsB x y.toNat = true) → stB x = (((tqN dn : Nat) : Int) + ((tqN up : Nat) : Int) == 0)) := Lib.hid (by subst x1; subst x3; subst x4; exact fun h => stB_good h)
    have hrl := Lib.hid (show rc.length = pa.length by rw [← x1, ← x2]; exact hL.rc)
    have HMem : Hid (∀ y ∈ lvL pa pa.length, ∃ j : Nat, j < pa.length ∧ y = (j : Int) ∧ hasB pa (j : Int) = false) := Lib.hid (fun y hy => lvL_mem.1 hy)
    have hll := lvL_len pa pa.length
    obtain ⟨ls, hls⟩ : ∃ ls, lvL pa pa.length = ls := ⟨_, rfl⟩
    rw [hls] at HLv HGood HMem hll
    rw [t] at HN
    clear x1 x2 x3 x4 x5 hL HLd HX0 HLens hld hls t
    go_enter Tryz.func11, Tryz.ntmps11
    go_upto_region 3 with ((go_at_call 23; with_reducible refine (HN.out _ hB).mono ?_; rintro e w1 ⟨rfl, hbel⟩; replace hB := hB.trans (hbel.mono hB.size); replace c0 := cell_on hbel c0; replace c1 := cell_on hbel c1; replace c2 := cell_on hbel c2; replace c3 := cell_on hbel c3; replace c4 := cell_on hbel c4; replace c5 := cell_on hbel c5; replace c6 := cell_on hbel c6; replace c7 := cell_on hbel c7; replace c8 := cell_on hbel c8; replace c9 := cell_on hbel c9; replace c10 := cell_on hbel c10; clear hbel))
    go_wp2_with fail
    refine (HLv.out _ hB).mono ?_
    rintro e w2 ⟨vl, rfl, hown, hbel⟩
    replace hB := hB.trans (hbel.mono hB.size)
    replace c0 := cell_on hbel c0
    replace c1 := cell_on hbel c1
    replace c2 := cell_on hbel c2
    replace c3 := cell_on hbel c3
    replace c4 := cell_on hbel c4
    replace c5 := cell_on hbel c5
    replace c6 := cell_on hbel c6
    replace c7 := cell_on hbel c7
    replace c8 := cell_on hbel c8
    replace c9 := cell_on hbel c9
    replace c10 := cell_on hbel c10
    clear hbel
    have hrd := hown.rd
    obtain ⟨pl, cl, bl, ol, rfl, -, hpl2, hcl⟩ := hrd.parts
    clear hown hrd
    have HPl := Lib.hid hpl2
    have HCl := Lib.hid hcl
    clear hpl2 hcl
    go_wp2
    have HC0 := Lib.hid (And.intro c1 (And.intro c2 (And.intro c3 (And.intro c8 (And.intro c9 c10)))))
    have HB0 := Lib.hid hB
    have hwz : w.heap.size < w2.heap.size := World.block_lt_of_cell? w2 _ c0
    clear hB c0 c1 c2 c3 c4 c5 c6 c7 c8 c9 c10 HN HLv
    go_loopw [5, 14] (fun _ i wr => ∃ k : Nat, k ≤ ls.length ∧ i = .int .i64 k ∧ Hid (∀ j (h : j < ls.length), j < k → lsB x ls[j].toNat = true) ∧ Hid (Below w2.heap.size w2 wr)) (fun _ i _ => ls.length - (intOf i).toNat)
    case atStart => exact ⟨0, Nat.zero_le _, rfl, Lib.hid fun j _ h => absurd h (by omega), Lib.hid (Below.refl _ _)⟩
    case round =>
      obtain ⟨k, hk, rfl, HF, HBr⟩ := hrel
      have hB := HB0.out.trans (HBr.out.mono HB0.out.size)
      have c1 := cell_on HBr.out HC0.out.1
      have c2 := cell_on HBr.out HC0.out.2.1
      have c3 := cell_on HBr.out HC0.out.2.2.1
      have c8 := cell_on HBr.out HC0.out.2.2.2.1
      have c9 := cell_on HBr.out HC0.out.2.2.2.2.1
      have c10 := cell_on HBr.out HC0.out.2.2.2.2.2
      by_cases hlt : k < ls.length
      · obtain rfl := HPl.out (by omega)
        have l0 := cell_on HBr.out (HCl.out k hlt)
        obtain ⟨m, hm, hym, hmh⟩ := HMem.out ls[k] (List.getElem_mem hlt)
        have hmr : m < rc.length := by rw [hrl.out]; exact hm
        have HLs : Hid (lsB x ls[k].toNat = (sdB rc[m] && (rc[m].rw.nx == ld))) := Lib.hid (by rw [hym, Int.toNat_natCast]; exact HAt.out m hmr)
        have HBk : Hid (lsB x ls[k].toNat = false → stB x = false) := Lib.hid (fun h => HBad.out m hm hmh (by rw [hym, Int.toNat_natCast] at h; exact h))
        have HNx : Hid (lsB x ls[k].toNat = true → ∀ j (h : j < ls.length), j < k + 1 → lsB x ls[j].toNat = true) := Lib.hid (fun h j hj hjk => by
          by_cases he : j = k
          · subst he; exact h
          · exact HF.out j hj (by omega))
        generalize lsB x ls[k].toNat = lb at *
        generalize ls[k] = y at *
        subst hym
        clear hmh
        obtain ⟨pr', cr', br, oR, hvr, -, hpr, hcr⟩ := H4.out.parts
        obtain ⟨rfl, -, rfl⟩ : pr = pr' ∧ rc.length = rc.length ∧ cr = cr' := by injection hvr with e1 e2 e3; exact ⟨e1, e2, e3⟩
        clear hvr
        obtain rfl := hpr (by omega)
        obtain ⟨xr, Cr, Lr⟩ := hcr m hmr
        clear hpr hcr
        generalize rc[m] = R at *
        obtain ⟨st, rck, ⟨nx, sl⟩, rq⟩ := R
        obtain ⟨vs, vr, rfl, As, Ar⟩ := Cr
        dsimp only at As Ar HLs
        obtain ⟨ps, cs, _, _, rfl, -, -, -⟩ := As.parts
        obtain ⟨pq, cq, _, _, rfl, -, -, -⟩ := Ar.parts
        have n0 : wr.cell? ⟨br, oR + m * 5, none⟩ = some (Value.bool st) := cell_on hB (by
          have h := Lr 0 _ rfl
          rwa [show oR + m * kRc.sz + 0 = oR + m * 5 from rfl] at h)
        have n1 : wr.cell? ⟨br, oR + m * 5 + 1, none⟩ = some (Value.int .i64 rck) := cell_on hB (by
          have h := Lr 1 _ rfl
          rwa [show oR + m * kRc.sz + 1 = oR + m * 5 + 1 from rfl] at h)
        have n2 : wr.cell? ⟨br, oR + m * 5 + 2, none⟩ = some (Value.int .i64 nx) := cell_on hB (by
          have h := Lr 2 _ rfl
          rwa [show oR + m * kRc.sz + 2 = oR + m * 5 + 2 from rfl] at h)
        have n3 : wr.cell? ⟨br, oR + m * 5 + 3, none⟩ = some (Value.slice ps sl.length cs) := cell_on hB (by
          have h := Lr 3 _ rfl
          rwa [show oR + m * kRc.sz + 3 = oR + m * 5 + 3 from rfl] at h)
        have n4 : wr.cell? ⟨br, oR + m * 5 + 4, none⟩ = some (Value.slice pq rq.length cq) := cell_on hB (by
          have h := Lr 4 _ rfl
          rwa [show oR + m * kRc.sz + 4 = oR + m * 5 + 4 from rfl] at h)
        clear Lr
        have HSt := Lib.hid (fun W (hb : Below w.heap.size w W) => nSettled_any ⟨st, rck, ⟨nx, sl⟩, rq⟩ (.slice ps sl.length cs) (.slice pq rq.length cq) W (As.below hb) (Ar.below hb))
        dsimp only at HSt
        clear As Ar
        have hwr : w.heap.size < wr.heap.size := Nat.lt_of_lt_of_le hwz HBr.out.size
        have hmi : (m : Int) < (rc.length : Int) := by omega
        obtain ⟨w3, hw3⟩ : ∃ W, wr.alloc (.cells #[.bool st, .int .i64 rck, .int .i64 nx, .slice ps sl.length cs, .slice pq rq.length cq] 77) = W := ⟨_, rfl⟩
        have z0 : w3.cell? ⟨wr.heap.size, 0, none⟩ = some (Value.bool st) := by rw [← hw3]; simp
        have z1 : w3.cell? ⟨wr.heap.size, 1, none⟩ = some (Value.int .i64 rck) := by rw [← hw3]; simp
        have z2 : w3.cell? ⟨wr.heap.size, 2, none⟩ = some (Value.int .i64 nx) := by rw [← hw3]; simp
        have z3 : w3.cell? ⟨wr.heap.size, 3, none⟩ = some (Value.slice ps sl.length cs) := by rw [← hw3]; simp
        have z4 : w3.cell? ⟨wr.heap.size, 4, none⟩ = some (Value.slice pq rq.length cq) := by rw [← hw3]; simp
        have hb3 : Below wr.heap.size wr w3 := by rw [← hw3]; exact below_alloc1 _ _
        have c1w := cell_on hb3 c1
        have c2w := cell_on hb3 c2
        have c3w := cell_on hb3 c3
        have c9w := cell_on hb3 c9
        have c10w := cell_on hb3 c10
        have HBn := Lib.hid (HBr.out.trans (hb3.mono HBr.out.size))
        have HB3 := Lib.hid (hB.trans (hb3.mono hB.size))
        clear hb3
        cases hs : sdB ⟨st, rck, ⟨nx, sl⟩, rq⟩
        · rw [hs] at HSt
          have HX : Hid (seB x = false) := Lib.hid (by rw [HSe.out]; exact HBk.out (by rw [HLs.out, hs]; rfl))
          clear hs HLs
          go_upto_region 7 with fail
          try rw [hw3]
          clear hw3 n0 n1 n2 n3 n4
          refine wp_region_held_drew (S := (fun w' => Below w3.heap.size w3 w' ∧ w'.cell? ⟨wr.heap.size, 0, none⟩ = some (Value.bool st) ∧ w'.cell? ⟨wr.heap.size, 1, none⟩ = some (Value.int .i64 rck) ∧ w'.cell? ⟨wr.heap.size, 2, none⟩ = some (Value.int .i64 nx) ∧ w'.cell? ⟨wr.heap.size, 3, none⟩ = some (Value.slice ps sl.length cs) ∧ w'.cell? ⟨wr.heap.size, 4, none⟩ = some (Value.slice pq rq.length cq) ∧ w'.cell? ⟨w.heap.size, 1, none⟩ = some (Value.int .i64 tr) ∧ w'.cell? ⟨w.heap.size, 2, none⟩ = some (Value.int .i64 sz) ∧ w'.cell? ⟨w.heap.size, 3, none⟩ = some (Value.slice q0 it.length q1))) (by kernel_rfl) ?rx6s (fun hHeld => ?rx60)
          case rx6s => ((try dsimp only); exact ⟨(Below.refl _ _).drew, by simpa using z0, by simpa using z1, by simpa using z2, by simpa using z3, by simpa using z4, by simpa using c1w, by simpa using c2w, by simpa using c3w⟩)
          try simp only [Act.put, List.setIfInBounds_toArray, List.set_cons_zero, List.set_cons_succ]
          refine take_at 0 (some 23) (v := ?vx6_1) rfl rfl (by kernel_rfl) (by kernel_rfl) (by kernel_rfl) (fun _ _ _ h => h) (Or.inl ⟨by kernel_rfl, ?yx6_1⟩) hHeld ?zx6_1
          case yx6_1 => (intro wS hSw; (try dsimp only at hSw); go_simp; (try with_reducible rfl))
          try simp only [Act.put, List.setIfInBounds_toArray, List.set_cons_zero, List.set_cons_succ]
          refine wpAnyH_ready (rs := [1]) (by kernel_rfl) (by simp) ?_
          refine cons_at (some 24) rfl rfl (by kernel_rfl) (fun K hK => ?kx6_3) AllReadyH.nil
          go_simp
          (go_at_call 33; with_reducible refine (HSt.out _ (HB3.out.trans (hHeld.1.mono HB3.out.size))).mono ?_; rintro e w' ⟨rfl, hbel⟩)
          try go_wp2_with fail
          refine hK.out _ _ ?sx6_3 (fun hHeld => ?_)
          case sx6_3 => ((try dsimp only); first | exact ⟨hHeld.1.trans (hbel.mono hHeld.1.size), cell_on hbel hHeld.2.1, cell_on hbel hHeld.2.2.1, cell_on hbel hHeld.2.2.2.1, cell_on hbel hHeld.2.2.2.2.1, cell_on hbel hHeld.2.2.2.2.2.1, cell_on hbel hHeld.2.2.2.2.2.2.1, cell_on hbel hHeld.2.2.2.2.2.2.2.1, cell_on hbel hHeld.2.2.2.2.2.2.2.2⟩ | assumption)
          clear hK K
          try simp only [Act.put, List.setIfInBounds_toArray, List.set_cons_zero, List.set_cons_succ]
          refine take_at 2 (some 25) (v := ?vx6_4) rfl rfl (by kernel_rfl) (by kernel_rfl) (by kernel_rfl) (fun _ _ _ h => h) (Or.inl ⟨by kernel_rfl, ?yx6_4⟩) hHeld ?zx6_4
          case yx6_4 => (intro wS hSw; (try dsimp only at hSw); go_simp; (try with_reducible rfl))
          try simp only [Act.put, List.setIfInBounds_toArray, List.set_cons_zero, List.set_cons_succ]
          refine take_at 3 (some 26) (v := ?vx6_5) rfl rfl (by kernel_rfl) (by kernel_rfl) (by kernel_rfl) (fun _ _ _ h => h) (Or.inl ⟨by kernel_rfl, ?yx6_5⟩) hHeld ?zx6_5
          case yx6_5 => (intro wS hSw; (try dsimp only at hSw); go_simp; (try with_reducible rfl))
          try simp only [Act.put, List.setIfInBounds_toArray, List.set_cons_zero, List.set_cons_succ]
          refine take_at 4 (some 27) (v := undef) rfl rfl (by kernel_rfl) (by kernel_rfl) (by kernel_rfl) (fun _ _ _ h => h) (Or.inr ⟨by kernel_rfl, rfl⟩) hHeld ?_
          try simp only [Act.put, List.setIfInBounds_toArray, List.set_cons_zero, List.set_cons_succ]
          refine take_at 5 (some 28) (v := undef) rfl rfl (by kernel_rfl) (by kernel_rfl) (by kernel_rfl) (fun _ _ _ h => h) (Or.inr ⟨by kernel_rfl, rfl⟩) hHeld ?_
          try simp only [Act.put, List.setIfInBounds_toArray, List.set_cons_zero, List.set_cons_succ]
          refine take_at 6 (some 29) (v := undef) rfl rfl (by kernel_rfl) (by kernel_rfl) (by kernel_rfl) (fun _ _ _ h => h) (Or.inr ⟨by kernel_rfl, rfl⟩) hHeld ?_
          try simp only [Act.put, List.setIfInBounds_toArray, List.set_cons_zero, List.set_cons_succ]
          refine take_at 7 (some 30) (v := undef) rfl rfl (by kernel_rfl) (by kernel_rfl) (by kernel_rfl) (fun _ _ _ h => h) (Or.inr ⟨by kernel_rfl, rfl⟩) hHeld ?_
          try simp only [Act.put, List.setIfInBounds_toArray, List.set_cons_zero, List.set_cons_succ]
          refine take_at 8 (some 31) (v := undef) rfl rfl (by kernel_rfl) (by kernel_rfl) (by kernel_rfl) (fun _ _ _ h => h) (Or.inr ⟨by kernel_rfl, rfl⟩) hHeld ?_
          try simp only [Act.put, List.setIfInBounds_toArray, List.set_cons_zero, List.set_cons_succ]
          refine take_at 9 (some 32) (v := undef) rfl rfl (by kernel_rfl) (by kernel_rfl) (by kernel_rfl) (fun _ _ _ h => h) (Or.inr ⟨by kernel_rfl, rfl⟩) hHeld ?_
          try simp only [Act.put, List.setIfInBounds_toArray, List.set_cons_zero, List.set_cons_succ]
          refine take_at 10 (some 33) (v := undef) rfl rfl (by kernel_rfl) (by kernel_rfl) (by kernel_rfl) (fun _ _ _ h => h) (Or.inr ⟨by kernel_rfl, rfl⟩) hHeld ?_
          try simp only [Act.put, List.setIfInBounds_toArray, List.set_cons_zero, List.set_cons_succ]
          refine take_at 11 (some 34) (v := undef) rfl rfl (by kernel_rfl) (by kernel_rfl) (by kernel_rfl) (fun _ _ _ h => h) (Or.inr ⟨by kernel_rfl, rfl⟩) hHeld ?_
          try simp only [Act.put, List.setIfInBounds_toArray, List.set_cons_zero, List.set_cons_succ]
          refine take_at 12 (some 35) (v := ?vx6_14) rfl rfl (by kernel_rfl) (by kernel_rfl) (by kernel_rfl) (fun _ _ _ h => h) (Or.inl ⟨by kernel_rfl, ?yx6_14⟩) hHeld ?zx6_14
          case yx6_14 => (intro wS hSw; (try dsimp only at hSw); go_simp; (try with_reducible rfl))
          try simp only [Act.put, List.setIfInBounds_toArray, List.set_cons_zero, List.set_cons_succ]
          refine wpAnyH_done (by kernel_rfl) ?_ _
          go_wp2
          go_ret2
          exact ⟨by rw [HX.out]; rfl, (HB0.out.trans ((Lib.hid (HBn.out.trans (hHeld.1.mono HBn.out.size))).out.mono HB0.out.size))⟩
        · rw [hs] at HSt
          by_cases hn : nx = ld
          · have HX := Lib.hid (HNx.out (by rw [HLs.out, hs]; simp [hn]))
            have hnb : (nx == ld) = true := by simp [hn]
            replace hn := Lib.hid hn
            clear hs HLs
            go_upto_region 7 with fail
            try rw [hw3]
            clear hw3 n0 n1 n2 n3 n4
            refine wp_region_held_drew (S := (fun w' => Below w3.heap.size w3 w' ∧ w'.cell? ⟨wr.heap.size, 0, none⟩ = some (Value.bool st) ∧ w'.cell? ⟨wr.heap.size, 1, none⟩ = some (Value.int .i64 rck) ∧ w'.cell? ⟨wr.heap.size, 2, none⟩ = some (Value.int .i64 nx) ∧ w'.cell? ⟨wr.heap.size, 3, none⟩ = some (Value.slice ps sl.length cs) ∧ w'.cell? ⟨wr.heap.size, 4, none⟩ = some (Value.slice pq rq.length cq) ∧ w'.cell? ⟨w.heap.size, 1, none⟩ = some (Value.int .i64 tr) ∧ w'.cell? ⟨w.heap.size, 2, none⟩ = some (Value.int .i64 sz) ∧ w'.cell? ⟨w.heap.size, 3, none⟩ = some (Value.slice q0 it.length q1))) (by kernel_rfl) ?rx7s (fun hHeld => ?rx70)
            case rx7s => ((try dsimp only); exact ⟨(Below.refl _ _).drew, by simpa using z0, by simpa using z1, by simpa using z2, by simpa using z3, by simpa using z4, by simpa using c1w, by simpa using c2w, by simpa using c3w⟩)
            try simp only [Act.put, List.setIfInBounds_toArray, List.set_cons_zero, List.set_cons_succ]
            refine take_at 0 (some 23) (v := ?vx7_1) rfl rfl (by kernel_rfl) (by kernel_rfl) (by kernel_rfl) (fun _ _ _ h => h) (Or.inl ⟨by kernel_rfl, ?yx7_1⟩) hHeld ?zx7_1
            case yx7_1 => (intro wS hSw; (try dsimp only at hSw); go_simp; (try with_reducible rfl))
            try simp only [Act.put, List.setIfInBounds_toArray, List.set_cons_zero, List.set_cons_succ]
            refine wpAnyH_ready (rs := [1]) (by kernel_rfl) (by simp) ?_
            refine cons_at (some 24) rfl rfl (by kernel_rfl) (fun K hK => ?kx7_3) AllReadyH.nil
            go_simp
            (go_at_call 33; with_reducible refine (HSt.out _ (HB3.out.trans (hHeld.1.mono HB3.out.size))).mono ?_; rintro e w' ⟨rfl, hbel⟩)
            try go_wp2_with fail
            refine hK.out _ _ ?sx7_3 (fun hHeld => ?_)
            case sx7_3 => ((try dsimp only); first | exact ⟨hHeld.1.trans (hbel.mono hHeld.1.size), cell_on hbel hHeld.2.1, cell_on hbel hHeld.2.2.1, cell_on hbel hHeld.2.2.2.1, cell_on hbel hHeld.2.2.2.2.1, cell_on hbel hHeld.2.2.2.2.2.1, cell_on hbel hHeld.2.2.2.2.2.2.1, cell_on hbel hHeld.2.2.2.2.2.2.2.1, cell_on hbel hHeld.2.2.2.2.2.2.2.2⟩ | assumption)
            clear hK K
            try simp only [Act.put, List.setIfInBounds_toArray, List.set_cons_zero, List.set_cons_succ]
            refine take_at 2 (some 25) (v := ?vx7_4) rfl rfl (by kernel_rfl) (by kernel_rfl) (by kernel_rfl) (fun _ _ _ h => h) (Or.inl ⟨by kernel_rfl, ?yx7_4⟩) hHeld ?zx7_4
            case yx7_4 => (intro wS hSw; (try dsimp only at hSw); go_simp; (try with_reducible rfl))
            try simp only [Act.put, List.setIfInBounds_toArray, List.set_cons_zero, List.set_cons_succ]
            refine take_at 3 (some 26) (v := ?vx7_5) rfl rfl (by kernel_rfl) (by kernel_rfl) (by kernel_rfl) (fun _ _ _ h => h) (Or.inl ⟨by kernel_rfl, ?yx7_5⟩) hHeld ?zx7_5
            case yx7_5 => (intro wS hSw; (try dsimp only at hSw); go_simp; (try with_reducible rfl))
            try simp only [Act.put, List.setIfInBounds_toArray, List.set_cons_zero, List.set_cons_succ]
            refine take_at 4 (some 27) (v := ?vx7_6) rfl rfl (by kernel_rfl) (by kernel_rfl) (by kernel_rfl) (fun _ _ _ h => h) (Or.inl ⟨by kernel_rfl, ?yx7_6⟩) hHeld ?zx7_6
            case yx7_6 => (intro wS hSw; (try dsimp only at hSw); go_simp; (try with_reducible rfl))
            try simp only [Act.put, List.setIfInBounds_toArray, List.set_cons_zero, List.set_cons_succ]
            refine take_at 5 (some 28) (v := ?vx7_7) rfl rfl (by kernel_rfl) (by kernel_rfl) (by kernel_rfl) (fun _ _ _ h => h) (Or.inl ⟨by kernel_rfl, ?yx7_7⟩) hHeld ?zx7_7
            case yx7_7 => (intro wS hSw; (try dsimp only at hSw); go_simp; (try with_reducible rfl))
            try simp only [Act.put, List.setIfInBounds_toArray, List.set_cons_zero, List.set_cons_succ]
            refine take_at 6 (some 29) (v := ?vx7_8) rfl rfl (by kernel_rfl) (by kernel_rfl) (by kernel_rfl) (fun _ _ _ h => h) (Or.inl ⟨by kernel_rfl, ?yx7_8⟩) hHeld ?zx7_8
            case yx7_8 => (intro wS hSw; (try dsimp only at hSw); go_simp; (try with_reducible rfl))
            try simp only [Act.put, List.setIfInBounds_toArray, List.set_cons_zero, List.set_cons_succ]
            refine take_at 7 (some 30) (v := ?vx7_9) rfl rfl (by kernel_rfl) (by kernel_rfl) (by kernel_rfl) (fun _ _ _ h => h) (Or.inl ⟨by kernel_rfl, ?yx7_9⟩) hHeld ?zx7_9
            case yx7_9 => (intro wS hSw; (try dsimp only at hSw); go_simp; (try with_reducible rfl))
            try simp only [Act.put, List.setIfInBounds_toArray, List.set_cons_zero, List.set_cons_succ]
            refine take_at 8 (some 31) (v := ?vx7_10) rfl rfl (by kernel_rfl) (by kernel_rfl) (by kernel_rfl) (fun _ _ _ h => h) (Or.inl ⟨by kernel_rfl, ?yx7_10⟩) hHeld ?zx7_10
            case yx7_10 => (intro wS hSw; (try dsimp only at hSw); go_simp; (try with_reducible rfl))
            try simp only [Act.put, List.setIfInBounds_toArray, List.set_cons_zero, List.set_cons_succ]
            refine take_at 9 (some 32) (v := ?vx7_11) rfl rfl (by kernel_rfl) (by kernel_rfl) (by kernel_rfl) (fun _ _ _ h => h) (Or.inl ⟨by kernel_rfl, ?yx7_11⟩) hHeld ?zx7_11
            case yx7_11 => (intro wS hSw; (try dsimp only at hSw); go_simp; (try with_reducible rfl))
            try simp only [Act.put, List.setIfInBounds_toArray, List.set_cons_zero, List.set_cons_succ]
            refine wpAnyH_ready (rs := [10]) (by kernel_rfl) (by simp) ?_
            refine cons_at (some 33) rfl rfl (by kernel_rfl) (fun K hK => ?kx7_13) AllReadyH.nil
            go_simp
            (go_at_call 34; with_reducible refine (HLead.out _ (HB3.out.trans (hHeld.1.mono HB3.out.size))).mono ?_; rintro e w' ⟨rfl, hbel⟩)
            try go_wp2_with fail
            refine hK.out _ _ ?sx7_13 (fun hHeld => ?_)
            case sx7_13 => ((try dsimp only); first | exact ⟨hHeld.1.trans (hbel.mono hHeld.1.size), cell_on hbel hHeld.2.1, cell_on hbel hHeld.2.2.1, cell_on hbel hHeld.2.2.2.1, cell_on hbel hHeld.2.2.2.2.1, cell_on hbel hHeld.2.2.2.2.2.1, cell_on hbel hHeld.2.2.2.2.2.2.1, cell_on hbel hHeld.2.2.2.2.2.2.2.1, cell_on hbel hHeld.2.2.2.2.2.2.2.2⟩ | assumption)
            clear hK K
            try simp only [Act.put, List.setIfInBounds_toArray, List.set_cons_zero, List.set_cons_succ]
            refine take_at 11 (some 34) (v := ?vx7_14) rfl rfl (by kernel_rfl) (by kernel_rfl) (by kernel_rfl) (fun _ _ _ h => h) (Or.inl ⟨by kernel_rfl, ?yx7_14⟩) hHeld ?zx7_14
            case yx7_14 => (intro wS hSw; (try dsimp only at hSw); go_simp; (try with_reducible rfl))
            try simp only [Act.put, List.setIfInBounds_toArray, List.set_cons_zero, List.set_cons_succ]
            refine take_at 12 (some 35) (v := ?vx7_15) rfl rfl (by kernel_rfl) (by kernel_rfl) (by kernel_rfl) (fun _ _ _ h => h) (Or.inl ⟨by kernel_rfl, ?yx7_15⟩) hHeld ?zx7_15
            case yx7_15 => (intro wS hSw; (try dsimp only at hSw); go_simp; (try with_reducible rfl))
            try simp only [Act.put, List.setIfInBounds_toArray, List.set_cons_zero, List.set_cons_succ]
            refine wpAnyH_done (by kernel_rfl) ?_ _
            go_wp2
            go_roundw
            case rel => exact ⟨k + 1, by omega, by go_num, HX, Lib.hid (HBn.out.trans (hHeld.1.mono HBn.out.size))⟩
            case measure => simp [intOf]; omega
          · have HX : Hid (seB x = false) := Lib.hid (by rw [HSe.out]; exact HBk.out (by rw [HLs.out, hs]; simp [hn]))
            have hnb : (nx == ld) = false := by simp [hn]
            clear hs HLs
            go_upto_region 7 with fail
            try rw [hw3]
            clear hw3 n0 n1 n2 n3 n4
            refine wp_region_held_drew (S := (fun w' => Below w3.heap.size w3 w' ∧ w'.cell? ⟨wr.heap.size, 0, none⟩ = some (Value.bool st) ∧ w'.cell? ⟨wr.heap.size, 1, none⟩ = some (Value.int .i64 rck) ∧ w'.cell? ⟨wr.heap.size, 2, none⟩ = some (Value.int .i64 nx) ∧ w'.cell? ⟨wr.heap.size, 3, none⟩ = some (Value.slice ps sl.length cs) ∧ w'.cell? ⟨wr.heap.size, 4, none⟩ = some (Value.slice pq rq.length cq) ∧ w'.cell? ⟨w.heap.size, 1, none⟩ = some (Value.int .i64 tr) ∧ w'.cell? ⟨w.heap.size, 2, none⟩ = some (Value.int .i64 sz) ∧ w'.cell? ⟨w.heap.size, 3, none⟩ = some (Value.slice q0 it.length q1))) (by kernel_rfl) ?rx8s (fun hHeld => ?rx80)
            case rx8s => ((try dsimp only); exact ⟨(Below.refl _ _).drew, by simpa using z0, by simpa using z1, by simpa using z2, by simpa using z3, by simpa using z4, by simpa using c1w, by simpa using c2w, by simpa using c3w⟩)
            try simp only [Act.put, List.setIfInBounds_toArray, List.set_cons_zero, List.set_cons_succ]
            refine take_at 0 (some 23) (v := ?vx8_1) rfl rfl (by kernel_rfl) (by kernel_rfl) (by kernel_rfl) (fun _ _ _ h => h) (Or.inl ⟨by kernel_rfl, ?yx8_1⟩) hHeld ?zx8_1
            case yx8_1 => (intro wS hSw; (try dsimp only at hSw); go_simp; (try with_reducible rfl))
            try simp only [Act.put, List.setIfInBounds_toArray, List.set_cons_zero, List.set_cons_succ]
            refine wpAnyH_ready (rs := [1]) (by kernel_rfl) (by simp) ?_
            refine cons_at (some 24) rfl rfl (by kernel_rfl) (fun K hK => ?kx8_3) AllReadyH.nil
            go_simp
            (go_at_call 33; with_reducible refine (HSt.out _ (HB3.out.trans (hHeld.1.mono HB3.out.size))).mono ?_; rintro e w' ⟨rfl, hbel⟩)
            try go_wp2_with fail
            refine hK.out _ _ ?sx8_3 (fun hHeld => ?_)
            case sx8_3 => ((try dsimp only); first | exact ⟨hHeld.1.trans (hbel.mono hHeld.1.size), cell_on hbel hHeld.2.1, cell_on hbel hHeld.2.2.1, cell_on hbel hHeld.2.2.2.1, cell_on hbel hHeld.2.2.2.2.1, cell_on hbel hHeld.2.2.2.2.2.1, cell_on hbel hHeld.2.2.2.2.2.2.1, cell_on hbel hHeld.2.2.2.2.2.2.2.1, cell_on hbel hHeld.2.2.2.2.2.2.2.2⟩ | assumption)
            clear hK K
            try simp only [Act.put, List.setIfInBounds_toArray, List.set_cons_zero, List.set_cons_succ]
            refine take_at 2 (some 25) (v := ?vx8_4) rfl rfl (by kernel_rfl) (by kernel_rfl) (by kernel_rfl) (fun _ _ _ h => h) (Or.inl ⟨by kernel_rfl, ?yx8_4⟩) hHeld ?zx8_4
            case yx8_4 => (intro wS hSw; (try dsimp only at hSw); go_simp; (try with_reducible rfl))
            try simp only [Act.put, List.setIfInBounds_toArray, List.set_cons_zero, List.set_cons_succ]
            refine take_at 3 (some 26) (v := ?vx8_5) rfl rfl (by kernel_rfl) (by kernel_rfl) (by kernel_rfl) (fun _ _ _ h => h) (Or.inl ⟨by kernel_rfl, ?yx8_5⟩) hHeld ?zx8_5
            case yx8_5 => (intro wS hSw; (try dsimp only at hSw); go_simp; (try with_reducible rfl))
            try simp only [Act.put, List.setIfInBounds_toArray, List.set_cons_zero, List.set_cons_succ]
            refine take_at 4 (some 27) (v := ?vx8_6) rfl rfl (by kernel_rfl) (by kernel_rfl) (by kernel_rfl) (fun _ _ _ h => h) (Or.inl ⟨by kernel_rfl, ?yx8_6⟩) hHeld ?zx8_6
            case yx8_6 => (intro wS hSw; (try dsimp only at hSw); go_simp; (try with_reducible rfl))
            try simp only [Act.put, List.setIfInBounds_toArray, List.set_cons_zero, List.set_cons_succ]
            refine take_at 5 (some 28) (v := ?vx8_7) rfl rfl (by kernel_rfl) (by kernel_rfl) (by kernel_rfl) (fun _ _ _ h => h) (Or.inl ⟨by kernel_rfl, ?yx8_7⟩) hHeld ?zx8_7
            case yx8_7 => (intro wS hSw; (try dsimp only at hSw); go_simp; (try with_reducible rfl))
            try simp only [Act.put, List.setIfInBounds_toArray, List.set_cons_zero, List.set_cons_succ]
            refine take_at 6 (some 29) (v := ?vx8_8) rfl rfl (by kernel_rfl) (by kernel_rfl) (by kernel_rfl) (fun _ _ _ h => h) (Or.inl ⟨by kernel_rfl, ?yx8_8⟩) hHeld ?zx8_8
            case yx8_8 => (intro wS hSw; (try dsimp only at hSw); go_simp; (try with_reducible rfl))
            try simp only [Act.put, List.setIfInBounds_toArray, List.set_cons_zero, List.set_cons_succ]
            refine take_at 7 (some 30) (v := ?vx8_9) rfl rfl (by kernel_rfl) (by kernel_rfl) (by kernel_rfl) (fun _ _ _ h => h) (Or.inl ⟨by kernel_rfl, ?yx8_9⟩) hHeld ?zx8_9
            case yx8_9 => (intro wS hSw; (try dsimp only at hSw); go_simp; (try with_reducible rfl))
            try simp only [Act.put, List.setIfInBounds_toArray, List.set_cons_zero, List.set_cons_succ]
            refine take_at 8 (some 31) (v := ?vx8_10) rfl rfl (by kernel_rfl) (by kernel_rfl) (by kernel_rfl) (fun _ _ _ h => h) (Or.inl ⟨by kernel_rfl, ?yx8_10⟩) hHeld ?zx8_10
            case yx8_10 => (intro wS hSw; (try dsimp only at hSw); go_simp; (try with_reducible rfl))
            try simp only [Act.put, List.setIfInBounds_toArray, List.set_cons_zero, List.set_cons_succ]
            refine take_at 9 (some 32) (v := ?vx8_11) rfl rfl (by kernel_rfl) (by kernel_rfl) (by kernel_rfl) (fun _ _ _ h => h) (Or.inl ⟨by kernel_rfl, ?yx8_11⟩) hHeld ?zx8_11
            case yx8_11 => (intro wS hSw; (try dsimp only at hSw); go_simp; (try with_reducible rfl))
            try simp only [Act.put, List.setIfInBounds_toArray, List.set_cons_zero, List.set_cons_succ]
            refine wpAnyH_ready (rs := [10]) (by kernel_rfl) (by simp) ?_
            refine cons_at (some 33) rfl rfl (by kernel_rfl) (fun K hK => ?kx8_13) AllReadyH.nil
            go_simp
            (go_at_call 34; with_reducible refine (HLead.out _ (HB3.out.trans (hHeld.1.mono HB3.out.size))).mono ?_; rintro e w' ⟨rfl, hbel⟩)
            try go_wp2_with fail
            refine hK.out _ _ ?sx8_13 (fun hHeld => ?_)
            case sx8_13 => ((try dsimp only); first | exact ⟨hHeld.1.trans (hbel.mono hHeld.1.size), cell_on hbel hHeld.2.1, cell_on hbel hHeld.2.2.1, cell_on hbel hHeld.2.2.2.1, cell_on hbel hHeld.2.2.2.2.1, cell_on hbel hHeld.2.2.2.2.2.1, cell_on hbel hHeld.2.2.2.2.2.2.1, cell_on hbel hHeld.2.2.2.2.2.2.2.1, cell_on hbel hHeld.2.2.2.2.2.2.2.2⟩ | assumption)
            clear hK K
            try simp only [Act.put, List.setIfInBounds_toArray, List.set_cons_zero, List.set_cons_succ]
            refine take_at 11 (some 34) (v := ?vx8_14) rfl rfl (by kernel_rfl) (by kernel_rfl) (by kernel_rfl) (fun _ _ _ h => h) (Or.inl ⟨by kernel_rfl, ?yx8_14⟩) hHeld ?zx8_14
            case yx8_14 => (intro wS hSw; (try dsimp only at hSw); go_simp; (try with_reducible rfl))
            try simp only [Act.put, List.setIfInBounds_toArray, List.set_cons_zero, List.set_cons_succ]
            refine take_at 12 (some 35) (v := ?vx8_15) rfl rfl (by kernel_rfl) (by kernel_rfl) (by kernel_rfl) (fun _ _ _ h => h) (Or.inl ⟨by kernel_rfl, ?yx8_15⟩) hHeld ?zx8_15
            case yx8_15 => (intro wS hSw; (try dsimp only at hSw); go_simp; (try with_reducible rfl))
            try simp only [Act.put, List.setIfInBounds_toArray, List.set_cons_zero, List.set_cons_succ]
            refine wpAnyH_done (by kernel_rfl) ?_ _
            go_wp2
            go_ret2
            exact ⟨by rw [HX.out]; rfl, (HB0.out.trans ((Lib.hid (HBn.out.trans (hHeld.1.mono HBn.out.size))).out.mono HB0.out.size))⟩
      · obtain rfl : k = ls.length := by omega
        have HX : Hid (seB x = (((tqN dn : Nat) : Int) + ((tqN up : Nat) : Int) == 0)) := Lib.hid (by rw [HSe.out]; exact HGood.out (fun y hy => by
          obtain ⟨j, hj, rfl⟩ := List.getElem_of_mem hy
          exact HF.out j hj hj))
        have HQ1 := Lib.hid (fun m => (HD.out (wr.drewN m) (below_drewN hB m)).mono (fun e w' h => (⟨h.1, ⟨m, h.2.symm⟩⟩ : e = .returned (.int .i64 (tqN dn : Nat)) ∧ ∃ q9, w' = wr.drewN q9)))
        have HQ2 := Lib.hid (fun m => (HU.out (wr.drewN m) (below_drewN hB m)).mono (fun e w' h => (⟨h.1, ⟨m, h.2.symm⟩⟩ : e = .returned (.int .i64 (tqN up : Nat)) ∧ ∃ q9, w' = wr.drewN q9)))
        obtain ⟨q5, q6⟩ := htd
        generalize tqN dn = td at *
        generalize tqN up = tu at *
        go_wp2
        go_quiet ((first | (go_at_call 24; with_reducible exact HQ1.out _) | (go_at_call 24; with_reducible exact HQ2.out _)))
        go_wp2
        go_ret2
        exact ⟨by rw [HX.out]; rfl, below_drewN hB nq⟩
end Go.Proofs.YtihpibdodlgpaaaGreatDoor
