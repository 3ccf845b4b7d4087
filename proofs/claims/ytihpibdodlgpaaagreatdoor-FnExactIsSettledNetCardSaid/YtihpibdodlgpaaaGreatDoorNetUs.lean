/- Contracts on networks: the reference's l15Good. -/
import Derived.Test.YtihpibdodlgpaaaGreatDoorNetYs
import Derived.Test.YtihpibdodlgpaaaGreatDoorNetSs
import Derived.Test.YtihpibdodlgpaaaGreatDoorNetT
namespace Go.Proofs.YtihpibdodlgpaaaGreatDoor
open Go.RowKit

theorem sNode_any (x : NNet) (k : Nat) (v0 v1 v2 v3 v4 v5 v6 : Value) (w : World) (h0 : kI.At 0 w v0 x.tr.pa) (h1 : kS.At 0 w v1 x.sr.sw.it) (h2 : kHd.At 0 w v2 x.sr.hs) (h3 : kEl.At 0 w v3 x.el) (h4 : kRc.At 0 w v4 x.rc) (h5 : kPq.At 0 w v5 x.dn) (h6 : kPq.At 0 w v6 x.up) (hf : fitNt 1048576 x) (l0 : k < x.tr.pa.length) (l1 : k < x.el.length) (l2 : k < x.rc.length) (l3 : k < x.dn.length) (l4 : k < x.up.length) (htr : trB x.tr.pa = true) :
    Calls Tryz.prog 43 #[.agg #[v0, .int .i64 x.sr.sw.tr, .int .i64 x.sr.sw.sz, v1, .int .i64 x.sr.ck, .int .i64 x.sr.qt, v2, v3, v4, v5, v6], .int .i64 (k : Int)] w fun e w' => e = .returned (.bool (nodeB x k)) ∧ Below w.heap.size w w' := by
  by_cases hk : k = 0
  · exact sNode_zero x k v0 v1 v2 v3 v4 v5 v6 w h0 h1 h2 h3 h4 h5 h6 hf l0 l1 l2 l3 l4 htr hk
  · exact sNode_pos x k v0 v1 v2 v3 v4 v5 v6 w h0 h1 h2 h3 h4 h5 h6 hf l0 l1 l2 l3 l4 htr hk
set_option maxRecDepth 100000 in
set_option maxHeartbeats 4000000 in
theorem sNet_any (x : NNet) (v0 v1 v2 v3 v4 v5 v6 : Value) (w : World) (h0 : kI.At 0 w v0 x.tr.pa) (h1 : kS.At 0 w v1 x.sr.sw.it) (h2 : kHd.At 0 w v2 x.sr.hs) (h3 : kEl.At 0 w v3 x.el) (h4 : kRc.At 0 w v4 x.rc) (h5 : kPq.At 0 w v5 x.dn) (h6 : kPq.At 0 w v6 x.up) (hf : fitNt 1048576 x) :
    Calls Tryz.prog 17 #[.agg #[v0, .int .i64 x.sr.sw.tr, .int .i64 x.sr.sw.sz, v1, .int .i64 x.sr.ck, .int .i64 x.sr.qt, v2, v3, v4, v5, v6]] w fun e w' => e = .returned (.bool (ntB x)) ∧ Below w.heap.size w w' := by
  obtain ⟨⟨pa⟩, ⟨⟨tr, sz, it⟩, ck, qt, hs⟩, el, rc, dn, up⟩ := x
  dsimp only at h0 h1 h2 h3 h4 h5 h6 ⊢
  have H0 := Lib.hid h0
  obtain ⟨pp, pc, _, _, rfl, -, -, -⟩ := h0.parts
  clear h0
  have H1 := Lib.hid h1
  obtain ⟨q0, q1, _, _, rfl, -, -, -⟩ := h1.parts
  clear h1
  have H2 := Lib.hid h2
  obtain ⟨q2, q3, _, _, rfl, -, -, -⟩ := h2.parts
  clear h2
  have H3 := Lib.hid h3
  obtain ⟨pe, ce, _, _, rfl, -, -, -⟩ := h3.parts
  clear h3
  have H4 := Lib.hid h4
  obtain ⟨pr, cr, _, _, rfl, -, -, -⟩ := h4.parts
  clear h4
  have H5 := Lib.hid h5
  obtain ⟨pd, cd, _, _, rfl, -, -, -⟩ := h5.parts
  clear h5
  have H6 := Lib.hid h6
  obtain ⟨pu, cu, _, _, rfl, -, -, -⟩ := h6.parts
  clear h6
  have hpl : pa.length ≤ 1048576 := hf.1
  have HT := Lib.hid (fun W (hb : Below w.heap.size w W) => sTree_any pa (.slice pp pa.length pc) W (H0.out.below hb) hf.1)
  have HS := Lib.hid (fun W (hb : Below w.heap.size w W) => sSource_any ⟨⟨tr, sz, it⟩, ck, qt, hs⟩ (.slice q0 it.length q1) (.slice q2 hs.length q3) W (H1.out.below hb) (H2.out.below hb) hf.2.1)
  have HN := Lib.hid (fun (k : Nat) W (hb : Below w.heap.size w W) (l0 : k < pa.length) (l1 : k < el.length) (l2 : k < rc.length) (l3 : k < dn.length) (l4 : k < up.length) (ht : trB pa = true) => sNode_any (⟨⟨pa⟩, ⟨⟨tr, sz, it⟩, ck, qt, hs⟩, el, rc, dn, up⟩ : NNet) k (.slice pp pa.length pc) (.slice q0 it.length q1) (.slice q2 hs.length q3) (.slice pe el.length ce) (.slice pr rc.length cr) (.slice pd dn.length cd) (.slice pu up.length cu) W (H0.out.below hb) (H1.out.below hb) (H2.out.below hb) (H3.out.below hb) (H4.out.below hb) (H5.out.below hb) (H6.out.below hb) hf l0 l1 l2 l3 l4 ht)
  dsimp only at HT HS HN
  obtain ⟨x, hx⟩ : ∃ x, (⟨⟨pa⟩, ⟨⟨tr, sz, it⟩, ck, qt, hs⟩, el, rc, dn, up⟩ : NNet) = x := ⟨_, rfl⟩
  have HD : Hid (ntB x = (trB pa && soB ⟨⟨tr, sz, it⟩, ck, qt, hs⟩ && decide (el.length = pa.length) && decide (rc.length = pa.length) && decide (dn.length = pa.length) && decide (up.length = pa.length) && (List.range pa.length).all (nodeB x))) := Lib.hid (by rw [← hx]; rfl)
  rw [hx] at HN ⊢
  clear hx H0 H1 H2 H3 H4 H5 H6 hf
  have hB : Below w.heap.size w (w.alloc (.cells #[.slice pp pa.length pc, .int .i64 tr, .int .i64 sz, .slice q0 it.length q1, .int .i64 ck, .int .i64 qt, .slice q2 hs.length q3, .slice pe el.length ce, .slice pr rc.length cr, .slice pd dn.length cd, .slice pu up.length cu] 48)) := below_alloc1 _ _
  have c0 : (w.alloc (.cells #[.slice pp pa.length pc, .int .i64 tr, .int .i64 sz, .slice q0 it.length q1, .int .i64 ck, .int .i64 qt, .slice q2 hs.length q3, .slice pe el.length ce, .slice pr rc.length cr, .slice pd dn.length cd, .slice pu up.length cu] 48)).cell? ⟨w.heap.size, 0, none⟩ = some (Value.slice pp pa.length pc) := by simp
  have c1 : (w.alloc (.cells #[.slice pp pa.length pc, .int .i64 tr, .int .i64 sz, .slice q0 it.length q1, .int .i64 ck, .int .i64 qt, .slice q2 hs.length q3, .slice pe el.length ce, .slice pr rc.length cr, .slice pd dn.length cd, .slice pu up.length cu] 48)).cell? ⟨w.heap.size, 1, none⟩ = some (Value.int .i64 tr) := by simp
  have c2 : (w.alloc (.cells #[.slice pp pa.length pc, .int .i64 tr, .int .i64 sz, .slice q0 it.length q1, .int .i64 ck, .int .i64 qt, .slice q2 hs.length q3, .slice pe el.length ce, .slice pr rc.length cr, .slice pd dn.length cd, .slice pu up.length cu] 48)).cell? ⟨w.heap.size, 2, none⟩ = some (Value.int .i64 sz) := by simp
  have c3 : (w.alloc (.cells #[.slice pp pa.length pc, .int .i64 tr, .int .i64 sz, .slice q0 it.length q1, .int .i64 ck, .int .i64 qt, .slice q2 hs.length q3, .slice pe el.length ce, .slice pr rc.length cr, .slice pd dn.length cd, .slice pu up.length cu] 48)).cell? ⟨w.heap.size, 3, none⟩ = some (Value.slice q0 it.length q1) := by simp
  have c4 : (w.alloc (.cells #[.slice pp pa.length pc, .int .i64 tr, .int .i64 sz, .slice q0 it.length q1, .int .i64 ck, .int .i64 qt, .slice q2 hs.length q3, .slice pe el.length ce, .slice pr rc.length cr, .slice pd dn.length cd, .slice pu up.length cu] 48)).cell? ⟨w.heap.size, 4, none⟩ = some (Value.int .i64 ck) := by simp
  have c5 : (w.alloc (.cells #[.slice pp pa.length pc, .int .i64 tr, .int .i64 sz, .slice q0 it.length q1, .int .i64 ck, .int .i64 qt, .slice q2 hs.length q3, .slice pe el.length ce, .slice pr rc.length cr, .slice pd dn.length cd, .slice pu up.length cu] 48)).cell? ⟨w.heap.size, 5, none⟩ = some (Value.int .i64 qt) := by simp
  have c6 : (w.alloc (.cells #[.slice pp pa.length pc, .int .i64 tr, .int .i64 sz, .slice q0 it.length q1, .int .i64 ck, .int .i64 qt, .slice q2 hs.length q3, .slice pe el.length ce, .slice pr rc.length cr, .slice pd dn.length cd, .slice pu up.length cu] 48)).cell? ⟨w.heap.size, 6, none⟩ = some (Value.slice q2 hs.length q3) := by simp
  have c7 : (w.alloc (.cells #[.slice pp pa.length pc, .int .i64 tr, .int .i64 sz, .slice q0 it.length q1, .int .i64 ck, .int .i64 qt, .slice q2 hs.length q3, .slice pe el.length ce, .slice pr rc.length cr, .slice pd dn.length cd, .slice pu up.length cu] 48)).cell? ⟨w.heap.size, 7, none⟩ = some (Value.slice pe el.length ce) := by simp
  have c8 : (w.alloc (.cells #[.slice pp pa.length pc, .int .i64 tr, .int .i64 sz, .slice q0 it.length q1, .int .i64 ck, .int .i64 qt, .slice q2 hs.length q3, .slice pe el.length ce, .slice pr rc.length cr, .slice pd dn.length cd, .slice pu up.length cu] 48)).cell? ⟨w.heap.size, 8, none⟩ = some (Value.slice pr rc.length cr) := by simp
  have c9 : (w.alloc (.cells #[.slice pp pa.length pc, .int .i64 tr, .int .i64 sz, .slice q0 it.length q1, .int .i64 ck, .int .i64 qt, .slice q2 hs.length q3, .slice pe el.length ce, .slice pr rc.length cr, .slice pd dn.length cd, .slice pu up.length cu] 48)).cell? ⟨w.heap.size, 9, none⟩ = some (Value.slice pd dn.length cd) := by simp
  have c10 : (w.alloc (.cells #[.slice pp pa.length pc, .int .i64 tr, .int .i64 sz, .slice q0 it.length q1, .int .i64 ck, .int .i64 qt, .slice q2 hs.length q3, .slice pe el.length ce, .slice pr rc.length cr, .slice pd dn.length cd, .slice pu up.length cu] 48)).cell? ⟨w.heap.size, 10, none⟩ = some (Value.slice pu up.length cu) := by simp
  cases t1 : trB pa
  · have HX : Hid (ntB x = false) := Lib.hid (by rw [HD.out]; simp [t1])
    clear HD HN
    rw [t1] at HT
    clear t1
    go_enter Tryz.func17, Tryz.ntmps17
    go_wp2_with (first | (go_at_call 41; with_reducible refine (HT.out _ hB).mono ?_; rintro e w1 ⟨rfl, hbel⟩; replace hB := hB.trans (hbel.mono hB.size); replace c0 := cell_on hbel c0; replace c1 := cell_on hbel c1; replace c2 := cell_on hbel c2; replace c3 := cell_on hbel c3; replace c4 := cell_on hbel c4; replace c5 := cell_on hbel c5; replace c6 := cell_on hbel c6; replace c7 := cell_on hbel c7; replace c8 := cell_on hbel c8; replace c9 := cell_on hbel c9; replace c10 := cell_on hbel c10; clear hbel) | (go_at_call 42; with_reducible refine (HS.out _ hB).mono ?_; rintro e w1 ⟨rfl, hbel⟩; replace hB := hB.trans (hbel.mono hB.size); replace c0 := cell_on hbel c0; replace c1 := cell_on hbel c1; replace c2 := cell_on hbel c2; replace c3 := cell_on hbel c3; replace c4 := cell_on hbel c4; replace c5 := cell_on hbel c5; replace c6 := cell_on hbel c6; replace c7 := cell_on hbel c7; replace c8 := cell_on hbel c8; replace c9 := cell_on hbel c9; replace c10 := cell_on hbel c10; clear hbel))
    go_ret
    exact ⟨ret_bool HX.out.symm, hB⟩
  · rw [t1] at HT
    cases t2 : soB ⟨⟨tr, sz, it⟩, ck, qt, hs⟩
    · have HX : Hid (ntB x = false) := Lib.hid (by rw [HD.out]; simp [t2])
      clear HD HN
      rw [t2] at HS
      clear t1 t2
      go_enter Tryz.func17, Tryz.ntmps17
      go_wp2_with (first | (go_at_call 41; with_reducible refine (HT.out _ hB).mono ?_; rintro e w1 ⟨rfl, hbel⟩; replace hB := hB.trans (hbel.mono hB.size); replace c0 := cell_on hbel c0; replace c1 := cell_on hbel c1; replace c2 := cell_on hbel c2; replace c3 := cell_on hbel c3; replace c4 := cell_on hbel c4; replace c5 := cell_on hbel c5; replace c6 := cell_on hbel c6; replace c7 := cell_on hbel c7; replace c8 := cell_on hbel c8; replace c9 := cell_on hbel c9; replace c10 := cell_on hbel c10; clear hbel) | (go_at_call 42; with_reducible refine (HS.out _ hB).mono ?_; rintro e w1 ⟨rfl, hbel⟩; replace hB := hB.trans (hbel.mono hB.size); replace c0 := cell_on hbel c0; replace c1 := cell_on hbel c1; replace c2 := cell_on hbel c2; replace c3 := cell_on hbel c3; replace c4 := cell_on hbel c4; replace c5 := cell_on hbel c5; replace c6 := cell_on hbel c6; replace c7 := cell_on hbel c7; replace c8 := cell_on hbel c8; replace c9 := cell_on hbel c9; replace c10 := cell_on hbel c10; clear hbel))
      go_ret
      exact ⟨ret_bool HX.out.symm, hB⟩
    · rw [t2] at HS
      by_cases e0 : (el.length : Int) = (pa.length : Int)
      · by_cases e1 : (rc.length : Int) = (pa.length : Int)
        · by_cases e2 : (dn.length : Int) = (pa.length : Int)
          · by_cases e3 : (up.length : Int) = (pa.length : Int)
            · have HV : Hid (ntB x = (List.range pa.length).all (nodeB x)) := Lib.hid (by rw [HD.out, t1, t2, decide_eq_true (show el.length = pa.length by omega), decide_eq_true (show rc.length = pa.length by omega), decide_eq_true (show dn.length = pa.length by omega), decide_eq_true (show up.length = pa.length by omega)]; rfl)
              have HN2 := Lib.hid (fun (k : Nat) (hk : k < pa.length) W hb => HN.out k W hb hk (by omega) (by omega) (by omega) (by omega) t1)
              clear HD HN t1 t2
              go_enter Tryz.func17, Tryz.ntmps17
              go_wp2_with (first | (go_at_call 41; with_reducible refine (HT.out _ hB).mono ?_; rintro e w1 ⟨rfl, hbel⟩; replace hB := hB.trans (hbel.mono hB.size); replace c0 := cell_on hbel c0; replace c1 := cell_on hbel c1; replace c2 := cell_on hbel c2; replace c3 := cell_on hbel c3; replace c4 := cell_on hbel c4; replace c5 := cell_on hbel c5; replace c6 := cell_on hbel c6; replace c7 := cell_on hbel c7; replace c8 := cell_on hbel c8; replace c9 := cell_on hbel c9; replace c10 := cell_on hbel c10; clear hbel) | (go_at_call 42; with_reducible refine (HS.out _ hB).mono ?_; rintro e w1 ⟨rfl, hbel⟩; replace hB := hB.trans (hbel.mono hB.size); replace c0 := cell_on hbel c0; replace c1 := cell_on hbel c1; replace c2 := cell_on hbel c2; replace c3 := cell_on hbel c3; replace c4 := cell_on hbel c4; replace c5 := cell_on hbel c5; replace c6 := cell_on hbel c6; replace c7 := cell_on hbel c7; replace c8 := cell_on hbel c8; replace c9 := cell_on hbel c9; replace c10 := cell_on hbel c10; clear hbel))
              have HC0 := Lib.hid (And.intro c0 (And.intro c1 (And.intro c2 (And.intro c3 (And.intro c4 (And.intro c5 (And.intro c6 (And.intro c7 (And.intro c8 (And.intro c9 c10))))))))))
              have HB0 := Lib.hid hB
              clear hB c0 c1 c2 c3 c4 c5 c6 c7 c8 c9 c10 HT HS
              go_loopw [4] (fun i wr => ∃ k : Nat, k ≤ pa.length ∧ i = .int .i64 k ∧ Hid (∀ j, j < k → nodeB x j = true) ∧ Hid (Below w1.heap.size w1 wr)) (fun i _ => pa.length - (intOf i).toNat)
              case atStart => exact ⟨0, Nat.zero_le _, rfl, Lib.hid fun j h => absurd h (by omega), Lib.hid (Below.refl _ _)⟩
              case round =>
                obtain ⟨k, hk, rfl, HF, HBr⟩ := hrel
                have hB := HB0.out.trans (HBr.out.mono HB0.out.size)
                have c0 := cell_on HBr.out HC0.out.1
                have c1 := cell_on HBr.out HC0.out.2.1
                have c2 := cell_on HBr.out HC0.out.2.2.1
                have c3 := cell_on HBr.out HC0.out.2.2.2.1
                have c4 := cell_on HBr.out HC0.out.2.2.2.2.1
                have c5 := cell_on HBr.out HC0.out.2.2.2.2.2.1
                have c6 := cell_on HBr.out HC0.out.2.2.2.2.2.2.1
                have c7 := cell_on HBr.out HC0.out.2.2.2.2.2.2.2.1
                have c8 := cell_on HBr.out HC0.out.2.2.2.2.2.2.2.2.1
                have c9 := cell_on HBr.out HC0.out.2.2.2.2.2.2.2.2.2.1
                have c10 := cell_on HBr.out HC0.out.2.2.2.2.2.2.2.2.2.2
                by_cases hlt : k < pa.length
                · have HNk := Lib.hid (HN2.out k hlt)
                  have HNx : Hid (nodeB x k = true → ∀ j, j < k + 1 → nodeB x j = true) := Lib.hid (fun h j hj => by
                    by_cases he : j = k
                    · subst he; exact h
                    · exact HF.out j (by omega))
                  have HBd : Hid (nodeB x k = false → ntB x = false) := Lib.hid (fun h => by rw [HV.out, rng_bad hlt h])
                  cases hq : nodeB x k
                  · rw [hq] at HNk
                    have HX := Lib.hid (HBd.out hq)
                    clear hq
                    go_wp2_with (go_at_call 43; with_reducible refine (HNk.out _ hB).mono ?_; rintro e w2 ⟨rfl, hbel⟩)
                    go_ret
                    exact ⟨ret_bool HX.out.symm, hB.trans (hbel.mono hB.size)⟩
                  · rw [hq] at HNk
                    have HX := Lib.hid (HNx.out hq)
                    clear hq
                    go_wp2_with (go_at_call 43; with_reducible refine (HNk.out _ hB).mono ?_; rintro e w2 ⟨rfl, hbel⟩)
                    go_roundw
                    case rel => exact ⟨k + 1, by omega, by go_num, HX, Lib.hid (HBr.out.trans (hbel.mono HBr.out.size))⟩
                    case measure => simp [intOf]; omega
                · obtain rfl : k = pa.length := by omega
                  have HX : Hid (ntB x = true) := Lib.hid (by rw [HV.out, rng_good (fun j hj => HF.out j (by omega))])
                  go_wp2
                  go_ret
                  exact ⟨ret_bool HX.out.symm, hB⟩
            · have en3 : ¬ up.length = pa.length := by omega
              have HX : Hid (ntB x = false) := Lib.hid (by rw [HD.out]; simp [en3])
              clear HD HN
              clear en3 t1 t2
              go_enter Tryz.func17, Tryz.ntmps17
              go_wp2_with (first | (go_at_call 41; with_reducible refine (HT.out _ hB).mono ?_; rintro e w1 ⟨rfl, hbel⟩; replace hB := hB.trans (hbel.mono hB.size); replace c0 := cell_on hbel c0; replace c1 := cell_on hbel c1; replace c2 := cell_on hbel c2; replace c3 := cell_on hbel c3; replace c4 := cell_on hbel c4; replace c5 := cell_on hbel c5; replace c6 := cell_on hbel c6; replace c7 := cell_on hbel c7; replace c8 := cell_on hbel c8; replace c9 := cell_on hbel c9; replace c10 := cell_on hbel c10; clear hbel) | (go_at_call 42; with_reducible refine (HS.out _ hB).mono ?_; rintro e w1 ⟨rfl, hbel⟩; replace hB := hB.trans (hbel.mono hB.size); replace c0 := cell_on hbel c0; replace c1 := cell_on hbel c1; replace c2 := cell_on hbel c2; replace c3 := cell_on hbel c3; replace c4 := cell_on hbel c4; replace c5 := cell_on hbel c5; replace c6 := cell_on hbel c6; replace c7 := cell_on hbel c7; replace c8 := cell_on hbel c8; replace c9 := cell_on hbel c9; replace c10 := cell_on hbel c10; clear hbel))
              go_ret
              exact ⟨ret_bool HX.out.symm, hB⟩
          · have en2 : ¬ dn.length = pa.length := by omega
            have HX : Hid (ntB x = false) := Lib.hid (by rw [HD.out]; simp [en2])
            clear HD HN
            clear en2 t1 t2
            go_enter Tryz.func17, Tryz.ntmps17
            go_wp2_with (first | (go_at_call 41; with_reducible refine (HT.out _ hB).mono ?_; rintro e w1 ⟨rfl, hbel⟩; replace hB := hB.trans (hbel.mono hB.size); replace c0 := cell_on hbel c0; replace c1 := cell_on hbel c1; replace c2 := cell_on hbel c2; replace c3 := cell_on hbel c3; replace c4 := cell_on hbel c4; replace c5 := cell_on hbel c5; replace c6 := cell_on hbel c6; replace c7 := cell_on hbel c7; replace c8 := cell_on hbel c8; replace c9 := cell_on hbel c9; replace c10 := cell_on hbel c10; clear hbel) | (go_at_call 42; with_reducible refine (HS.out _ hB).mono ?_; rintro e w1 ⟨rfl, hbel⟩; replace hB := hB.trans (hbel.mono hB.size); replace c0 := cell_on hbel c0; replace c1 := cell_on hbel c1; replace c2 := cell_on hbel c2; replace c3 := cell_on hbel c3; replace c4 := cell_on hbel c4; replace c5 := cell_on hbel c5; replace c6 := cell_on hbel c6; replace c7 := cell_on hbel c7; replace c8 := cell_on hbel c8; replace c9 := cell_on hbel c9; replace c10 := cell_on hbel c10; clear hbel))
            go_ret
            exact ⟨ret_bool HX.out.symm, hB⟩
        · have en1 : ¬ rc.length = pa.length := by omega
          have HX : Hid (ntB x = false) := Lib.hid (by rw [HD.out]; simp [en1])
          clear HD HN
          clear en1 t1 t2
          go_enter Tryz.func17, Tryz.ntmps17
          go_wp2_with (first | (go_at_call 41; with_reducible refine (HT.out _ hB).mono ?_; rintro e w1 ⟨rfl, hbel⟩; replace hB := hB.trans (hbel.mono hB.size); replace c0 := cell_on hbel c0; replace c1 := cell_on hbel c1; replace c2 := cell_on hbel c2; replace c3 := cell_on hbel c3; replace c4 := cell_on hbel c4; replace c5 := cell_on hbel c5; replace c6 := cell_on hbel c6; replace c7 := cell_on hbel c7; replace c8 := cell_on hbel c8; replace c9 := cell_on hbel c9; replace c10 := cell_on hbel c10; clear hbel) | (go_at_call 42; with_reducible refine (HS.out _ hB).mono ?_; rintro e w1 ⟨rfl, hbel⟩; replace hB := hB.trans (hbel.mono hB.size); replace c0 := cell_on hbel c0; replace c1 := cell_on hbel c1; replace c2 := cell_on hbel c2; replace c3 := cell_on hbel c3; replace c4 := cell_on hbel c4; replace c5 := cell_on hbel c5; replace c6 := cell_on hbel c6; replace c7 := cell_on hbel c7; replace c8 := cell_on hbel c8; replace c9 := cell_on hbel c9; replace c10 := cell_on hbel c10; clear hbel))
          go_ret
          exact ⟨ret_bool HX.out.symm, hB⟩
      · have en0 : ¬ el.length = pa.length := by omega
        have HX : Hid (ntB x = false) := Lib.hid (by rw [HD.out]; simp [en0])
        clear HD HN
        clear en0 t1 t2
        go_enter Tryz.func17, Tryz.ntmps17
        go_wp2_with (first | (go_at_call 41; with_reducible refine (HT.out _ hB).mono ?_; rintro e w1 ⟨rfl, hbel⟩; replace hB := hB.trans (hbel.mono hB.size); replace c0 := cell_on hbel c0; replace c1 := cell_on hbel c1; replace c2 := cell_on hbel c2; replace c3 := cell_on hbel c3; replace c4 := cell_on hbel c4; replace c5 := cell_on hbel c5; replace c6 := cell_on hbel c6; replace c7 := cell_on hbel c7; replace c8 := cell_on hbel c8; replace c9 := cell_on hbel c9; replace c10 := cell_on hbel c10; clear hbel) | (go_at_call 42; with_reducible refine (HS.out _ hB).mono ?_; rintro e w1 ⟨rfl, hbel⟩; replace hB := hB.trans (hbel.mono hB.size); replace c0 := cell_on hbel c0; replace c1 := cell_on hbel c1; replace c2 := cell_on hbel c2; replace c3 := cell_on hbel c3; replace c4 := cell_on hbel c4; replace c5 := cell_on hbel c5; replace c6 := cell_on hbel c6; replace c7 := cell_on hbel c7; replace c8 := cell_on hbel c8; replace c9 := cell_on hbel c9; replace c10 := cell_on hbel c10; clear hbel))
        go_ret
        exact ⟨ret_bool HX.out.symm, hB⟩
end Go.Proofs.YtihpibdodlgpaaaGreatDoor
