/- Contracts: the reference's QueuedPackets. -/
import Derived.Test.YtihpibdodlgpaaaGreatDoorNetUs
import Derived.Test.YtihpibdodlgpaaaGreatDoorNetXs
namespace Go.Proofs.YtihpibdodlgpaaaGreatDoor
open Go.RowKit

set_option maxRecDepth 100000 in
set_option maxHeartbeats 4000000 in
theorem sQueuedPackets_any (x : NNet) (v0 v1 v2 v3 v4 v5 v6 : Value) (w : World) (h0 : kI.At 0 w v0 x.tr.pa) (h1 : kS.At 0 w v1 x.sr.sw.it) (h2 : kHd.At 0 w v2 x.sr.hs) (h3 : kEl.At 0 w v3 x.el) (h4 : kRc.At 0 w v4 x.rc) (h5 : kPq.At 0 w v5 x.dn) (h6 : kPq.At 0 w v6 x.up) (hf : fitNt 1048576 x) :
    Calls Tryz.prog 6 #[.agg #[v0, .int .i64 x.sr.sw.tr, .int .i64 x.sr.sw.sz, v1, .int .i64 x.sr.ck, .int .i64 x.sr.qt, v2, v3, v4, v5, v6]] w fun e w' => e = .returned (.tuple #[.int .i64 (qaI x), .int .i64 (qbI x), .bool (ntB x)]) ∧ Below w.heap.size w w' := by
  obtain ⟨⟨pa⟩, ⟨⟨tr, sz, it⟩, ck, qt, hs⟩, el, rc, dn, up⟩ := x
  dsimp only at h0 h1 h2 h3 h4 h5 h6 ⊢
  have H0 := Lib.hid h0
  obtain ⟨pp, pc, _, _, rfl, -, -, -⟩ := h0.parts
  clear h0
  have H1 := Lib.hid h1
  obtain ⟨q0, q1, _, _, rfl, -, -, -⟩ := h1.parts
  clear h1
  have H2 := Lib.hid h2
  obtain ⟨q2, q3, _, _, rfl, -, -, -⟩ := h2.parts
  clear h2
  have H3 := Lib.hid h3
  obtain ⟨pe, ce, _, _, rfl, -, -, -⟩ := h3.parts
  clear h3
  have H4 := Lib.hid h4
  obtain ⟨pr, cr, _, _, rfl, -, -, -⟩ := h4.parts
  clear h4
  have H5 := Lib.hid h5
  obtain ⟨pd, cd, _, _, rfl, -, -, -⟩ := h5.parts
  clear h5
  have H6 := Lib.hid h6
  obtain ⟨pu, cu, _, _, rfl, -, -, -⟩ := h6.parts
  clear h6
  have HN := Lib.hid (fun W (hb : Below w.heap.size w W) => sNet_any (⟨⟨pa⟩, ⟨⟨tr, sz, it⟩, ck, qt, hs⟩, el, rc, dn, up⟩ : NNet) (.slice pp pa.length pc) (.slice q0 it.length q1) (.slice q2 hs.length q3) (.slice pe el.length ce) (.slice pr rc.length cr) (.slice pd dn.length cd) (.slice pu up.length cu) W (H0.out.below hb) (H1.out.below hb) (H2.out.below hb) (H3.out.below hb) (H4.out.below hb) (H5.out.below hb) (H6.out.below hb) hf)
  dsimp only at HN
  have hdl : dn.length ≤ 1048576 := hf.2.2.2.2.1.1
  have HFd := Lib.hid hf.2.2.2.2.1.2
  have HFu := Lib.hid hf.2.2.2.2.2.2
  obtain ⟨x, hx⟩ : ∃ x, (⟨⟨pa⟩, ⟨⟨tr, sz, it⟩, ck, qt, hs⟩, el, rc, dn, up⟩ : NNet) = x := ⟨_, rfl⟩
  have hdn : x.dn = dn := by rw [← hx]
  have hup : x.up = up := by rw [← hx]
  rw [hx] at HN ⊢
  have HA : Hid (ntB x = true → qaI x = (tqN dn : Nat) ∧ qbI x = (tqN up : Nat)) := Lib.hid (fun h => by simp [qaI, qbI, h, hdn, hup])
  have HZ : Hid (ntB x = false → qaI x = 0 ∧ qbI x = 0) := Lib.hid (fun h => by simp [qaI, qbI, h])
  have HL : Hid (ntB x = true → up.length = dn.length) := Lib.hid (fun h => by have l := ntB_lens h; have l1 := l.dn; have l2 := l.up; rw [hdn] at l1; rw [hup] at l2; omega)
  clear hx H0 H1 H2 H3 H4 hf hdn hup
  have hB : Below w.heap.size w (w.alloc (.cells #[.slice pp pa.length pc, .int .i64 tr, .int .i64 sz, .slice q0 it.length q1, .int .i64 ck, .int .i64 qt, .slice q2 hs.length q3, .slice pe el.length ce, .slice pr rc.length cr, .slice pd dn.length cd, .slice pu up.length cu] 48)) := below_alloc1 _ _
  have c0 : (w.alloc (.cells #[.slice pp pa.length pc, .int .i64 tr, .int .i64 sz, .slice q0 it.length q1, .int .i64 ck, .int .i64 qt, .slice q2 hs.length q3, .slice pe el.length ce, .slice pr rc.length cr, .slice pd dn.length cd, .slice pu up.length cu] 48)).cell? ⟨w.heap.size, 0, none⟩ = some (Value.slice pp pa.length pc) := by simp
  have c1 : (w.alloc (.cells #[.slice pp pa.length pc, .int .i64 tr, .int .i64 sz, .slice q0 it.length q1, .int .i64 ck, .int .i64 qt, .slice q2 hs.length q3, .slice pe el.length ce, .slice pr rc.length cr, .slice pd dn.length cd, .slice pu up.length cu] 48)).cell? ⟨w.heap.size, 1, none⟩ = some (Value.int .i64 tr) := by simp
  have c2 : (w.alloc (.cells #[.slice pp pa.length pc, .int .i64 tr, .int .i64 sz, .slice q0 it.length q1, .int .i64 ck, .int .i64 qt, .slice q2 hs.length q3, .slice pe el.length ce, .slice pr rc.length cr, .slice pd dn.length cd, .slice pu up.length cu] 48)).cell? ⟨w.heap.size, 2, none⟩ = some (Value.int .i64 sz) := by simp
  have c3 : (w.alloc (.cells #[.slice pp pa.length pc, .int .i64 tr, .int .i64 sz, .slice q0 it.length q1, .int .i64 ck, .int .i64 qt, .slice q2 hs.length q3, .slice pe el.length ce, .slice pr rc.length cr, .slice pd dn.length cd, .slice pu up.length cu] 48)).cell? ⟨w.heap.size, 3, none⟩ = some (Value.slice q0 it.length q1) := by simp
  have c4 : (w.alloc (.cells #[.slice pp pa.length pc, .int .i64 tr, .int .i64 sz, .slice q0 it.length q1, .int .i64 ck, .int .i64 qt, .slice q2 hs.length q3, .slice pe el.length ce, .slice pr rc.length cr, .slice pd dn.length cd, .slice pu up.length cu] 48)).cell? ⟨w.heap.size, 4, none⟩ = some (Value.int .i64 ck) := by simp
  have c5 : (w.alloc (.cells #[.slice pp pa.length pc, .int .i64 tr, .int .i64 sz, .slice q0 it.length q1, .int .i64 ck, .int .i64 qt, .slice q2 hs.length q3, .slice pe el.length ce, .slice pr rc.length cr, .slice pd dn.length cd, .slice pu up.length cu] 48)).cell? ⟨w.heap.size, 5, none⟩ = some (Value.int .i64 qt) := by simp
  have c6 : (w.alloc (.cells #[.slice pp pa.length pc, .int .i64 tr, .int .i64 sz, .slice q0 it.length q1, .int .i64 ck, .int .i64 qt, .slice q2 hs.length q3, .slice pe el.length ce, .slice pr rc.length cr, .slice pd dn.length cd, .slice pu up.length cu] 48)).cell? ⟨w.heap.size, 6, none⟩ = some (Value.slice q2 hs.length q3) := by simp
  have c7 : (w.alloc (.cells #[.slice pp pa.length pc, .int .i64 tr, .int .i64 sz, .slice q0 it.length q1, .int .i64 ck, .int .i64 qt, .slice q2 hs.length q3, .slice pe el.length ce, .slice pr rc.length cr, .slice pd dn.length cd, .slice pu up.length cu] 48)).cell? ⟨w.heap.size, 7, none⟩ = some (Value.slice pe el.length ce) := by simp
  have c8 : (w.alloc (.cells #[.slice pp pa.length pc, .int .i64 tr, .int .i64 sz, .slice q0 it.length q1, .int .i64 ck, .int .i64 qt, .slice q2 hs.length q3, .slice pe el.length ce, .slice pr rc.length cr, .slice pd dn.length cd, .slice pu up.length cu] 48)).cell? ⟨w.heap.size, 8, none⟩ = some (Value.slice pr rc.length cr) := by simp
  have c9 : (w.alloc (.cells #[.slice pp pa.length pc, .int .i64 tr, .int .i64 sz, .slice q0 it.length q1, .int .i64 ck, .int .i64 qt, .slice q2 hs.length q3, .slice pe el.length ce, .slice pr rc.length cr, .slice pd dn.length cd, .slice pu up.length cu] 48)).cell? ⟨w.heap.size, 9, none⟩ = some (Value.slice pd dn.length cd) := by simp
  have c10 : (w.alloc (.cells #[.slice pp pa.length pc, .int .i64 tr, .int .i64 sz, .slice q0 it.length q1, .int .i64 ck, .int .i64 qt, .slice q2 hs.length q3, .slice pe el.length ce, .slice pr rc.length cr, .slice pd dn.length cd, .slice pu up.length cu] 48)).cell? ⟨w.heap.size, 10, none⟩ = some (Value.slice pu up.length cu) := by simp
  cases t : ntB x
  · rw [t] at HN
    have HX := Lib.hid (HZ.out t)
    clear t HA
    go_enter Tryz.func6, Tryz.ntmps6
    go_wp2_with (go_at_call 17; with_reducible refine (HN.out _ hB).mono ?_; rintro e w1 ⟨rfl, hbel⟩; replace hB := hB.trans (hbel.mono hB.size); replace c0 := cell_on hbel c0; replace c1 := cell_on hbel c1; replace c2 := cell_on hbel c2; replace c3 := cell_on hbel c3; replace c4 := cell_on hbel c4; replace c5 := cell_on hbel c5; replace c6 := cell_on hbel c6; replace c7 := cell_on hbel c7; replace c8 := cell_on hbel c8; replace c9 := cell_on hbel c9; replace c10 := cell_on hbel c10; clear hbel)
    go_ret3
    exact ⟨by rw [HX.out.1, HX.out.2]; rfl, hB⟩
  · rw [t] at HN
    have HX := Lib.hid (HA.out t)
    have HLu := Lib.hid (HL.out t)
    clear t HA HZ HL
    go_enter Tryz.func6, Tryz.ntmps6
    go_wp2_with (go_at_call 17; with_reducible refine (HN.out _ hB).mono ?_; rintro e w1 ⟨rfl, hbel⟩; replace hB := hB.trans (hbel.mono hB.size); replace c0 := cell_on hbel c0; replace c1 := cell_on hbel c1; replace c2 := cell_on hbel c2; replace c3 := cell_on hbel c3; replace c4 := cell_on hbel c4; replace c5 := cell_on hbel c5; replace c6 := cell_on hbel c6; replace c7 := cell_on hbel c7; replace c8 := cell_on hbel c8; replace c9 := cell_on hbel c9; replace c10 := cell_on hbel c10; clear hbel)
    obtain ⟨pd', cd', bd, od, hvd, -, hpd, hcd⟩ := H5.out.parts
    obtain ⟨pu', cu', bu, ou, hvu, -, hpu, hcu⟩ := H6.out.parts
    obtain ⟨rfl, -, rfl⟩ : pd = pd' ∧ dn.length = dn.length ∧ cd = cd' := by injection hvd with e1 e2 e3; exact ⟨e1, e2, e3⟩
    obtain ⟨rfl, -, rfl⟩ : pu = pu' ∧ up.length = up.length ∧ cu = cu' := by injection hvu with e1 e2 e3; exact ⟨e1, e2, e3⟩
    clear hvd hvu
    have HPd := Lib.hid hpd; clear hpd
    have HPu := Lib.hid hpu; clear hpu
    have HCd := Lib.hid hcd; clear hcd
    have HCu := Lib.hid hcu; clear hcu
    have HB0 := Lib.hid hB
    go_loopw [5, 6, 7] (fun d e i wr => ∃ k s u : Nat, k ≤ dn.length ∧ i = .int .i64 k ∧ d = .int .i64 (s : Int) ∧ e = .int .i64 (u : Int) ∧ s ≤ k * 1048576 ∧ u ≤ k * 1048576 ∧ Hid (tqN (dn.take k) = s) ∧ Hid (tqN (up.take k) = u) ∧ w1 = wr) (fun _ _ i _ => dn.length - (intOf i).toNat)
    case atStart => exact ⟨0, 0, 0, Nat.zero_le _, rfl, rfl, rfl, Nat.zero_le _, Nat.zero_le _, Lib.hid (by simp [tqN]), Lib.hid (by simp [tqN]), rfl⟩
    case round =>
      obtain ⟨k, s, u, hk, rfl, rfl, rfl, hs, hu, HS, HU, rfl⟩ := hrel
      by_cases hlt : k < dn.length
      · have hltu : k < up.length := by have := HLu.out; omega
        obtain rfl := HPd.out (by omega)
        obtain rfl := HPu.out (by omega)
        obtain ⟨xd, Cd, Ld⟩ := HCd.out k hlt
        obtain ⟨xu, Cu, Lu⟩ := HCu.out k hltu
        have hxd : dn[k].length ≤ 1048576 := (HFd.out dn[k] (List.getElem_mem hlt)).1
        have hxu : up[k].length ≤ 1048576 := (HFu.out up[k] (List.getElem_mem hltu)).1
        have HTd := Lib.hid (tqN_succ hlt)
        have HTu := Lib.hid (tqN_succ hltu)
        generalize dn[k] = D at *
        generalize up[k] = U at *
        obtain ⟨vd, rfl, Ad⟩ := Cd
        obtain ⟨vu, rfl, Au⟩ := Cu
        obtain ⟨pd', cd', _, _, rfl, -, -, -⟩ := Ad.parts
        obtain ⟨pu', cu', _, _, rfl, -, -, -⟩ := Au.parts
        have g0 : w.cell? ⟨bd, od + k, none⟩ = some (Value.slice pd' D.length cd') := by
          have h := Ld 0 _ rfl
          rwa [show od + k * kPq.sz + 0 = od + k from by show od + k * 1 + 0 = od + k; omega] at h
        have g1 : w.cell? ⟨bu, ou + k, none⟩ = some (Value.slice pu' U.length cu') := by
          have h := Lu 0 _ rfl
          rwa [show ou + k * kPq.sz + 0 = ou + k from by show ou + k * 1 + 0 = ou + k; omega] at h
        replace g0 := cell_on HB0.out g0
        replace g1 := cell_on HB0.out g1
        clear Ld Lu Ad Au
        have hlti : (k : Int) < (up.length : Int) := by omega
        go_wp2
        go_roundw
        case rel => exact ⟨k + 1, s + D.length, u + U.length, by omega, by go_num, by first | rfl | go_num, by first | rfl | go_num, by omega, by omega, Lib.hid (by rw [HTd.out, HS.out]), Lib.hid (by rw [HTu.out, HU.out]), by first | rfl | trivial⟩
        case measure => simp [intOf]; omega
      · obtain rfl : k = dn.length := by omega
        have HG : Hid (tqN dn = s ∧ tqN up = u) := Lib.hid (by
          have h1 := HS.out
          have h2 := HU.out
          rw [List.take_length] at h1
          rw [← HLu.out, List.take_length] at h2
          exact ⟨h1, h2⟩)
        go_wp2
        go_ret3
        exact ⟨by rw [HX.out.1, HX.out.2, HG.out.1, HG.out.2]; rfl, HB0.out⟩
end Go.Proofs.YtihpibdodlgpaaaGreatDoor
