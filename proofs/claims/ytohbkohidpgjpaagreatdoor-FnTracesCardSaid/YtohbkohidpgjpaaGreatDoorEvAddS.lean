/- Contract: the reference's AddEvent, for all traces and events. No condition. -/
import Derived.Test.YtohbkohidpgjpaaGreatDoorEvMgS
import Derived.Deep.RegionLaw
import Derived.Lib.AppendZerosOnto
import Derived.Lib.Overlaps
import Derived.Deep.AppendLies
namespace Go.Proofs.YtohbkohidpgjpaaGreatDoor
open Go.RowKit

theorem get_takeS {α : Type} {L : List α} {m j : Nat} {u : α} (h : (L.take m)[j]? = some u) : L[j]? = some u := by
  rw [List.getElem?_take] at h
  split at h
  · exact h
  · cases h
theorem evOne (L : List Ev) : ∀ u ∈ L.flatMap Ev.cells, u.oneCell' = true := by
  intro u hu
  obtain ⟨x, _, h⟩ := List.mem_flatMap.1 hu
  simp at h
  rcases h with rfl | rfl | rfl | rfl <;> rfl
theorem flatEv_take (xs : List Ev) (k : Nat) : (xs.take k).flatMap Ev.cells = (xs.flatMap Ev.cells).take (k * 4) := by
  induction xs generalizing k with
  | nil => simp
  | cons x xs ih =>
    cases k with
    | zero => simp
    | succ k =>
      rw [List.take_succ_cons, List.flatMap_cons, ih, List.flatMap_cons, List.take_append, List.take_of_length_le (l := x.cells) (by rw [Ev.cells_length]; omega), Ev.cells_length]
      congr 2; omega
set_option maxRecDepth 100000 in
set_option maxHeartbeats 16000000 in
theorem specAdd_any (v : Value) (xs : List Ev) (x : Ev) (w : World) (h : RdEv w v xs) :
    Calls Tryz.prog 13 #[v, x.v] w fun e w' => ∃ u, e = .returned (.tuple #[u, .bool (mgB xs [x])]) ∧ OwEv w.heap.size w' u (mgL xs [x]) ∧ Below w.heap.size w w' := by
  have HT := Lib.hid (fun w h => l17Good_any v xs w h)
  have HTL2 := Lib.hid (fun v L w h => l17Good_any v L w h)
  have HR := Lib.hid h
  obtain ⟨p, cap, b, off, rfl, hcap, hp, hcell⟩ := h.parts
  have HC := Lib.hid hcell; clear hcell
  have HP := Lib.hid hp; clear hp
  have HSrc0 := Lib.hid h.1
  clear h
  obtain ⟨xt, xn, xk, xm⟩ := x
  have HX0 : Hid (∀ w1, Below (w.alloc (.cells #[.int .i64 xt, .int .i64 xn, .int .i64 xk, .int .i64 xm] 25)).heap.size (w.alloc (.cells #[.int .i64 xt, .int .i64 xn, .int .i64 xk, .int .i64 xm] 25)) w1 → w1.cell? ⟨w.heap.size, 0, none⟩ = some (.int .i64 xt) ∧ w1.cell? ⟨w.heap.size, 1, none⟩ = some (.int .i64 xn) ∧ w1.cell? ⟨w.heap.size, 2, none⟩ = some (.int .i64 xk) ∧ w1.cell? ⟨w.heap.size, 3, none⟩ = some (.int .i64 xm)) := Lib.hid (fun w1 hb => ⟨cell_on hb (by simp), cell_on hb (by simp), cell_on hb (by simp), cell_on hb (by simp)⟩)
  cases hB : tsB xs
  · have HV : Hid (mgB xs [⟨xt, xn, xk, xm⟩] = false ∧ mgL xs [⟨xt, xn, xk, xm⟩] = []) := Lib.hid (by
      have h : mgB xs [⟨xt, xn, xk, xm⟩] = false := by
        rw [mgB, hB]; rfl
      exact ⟨h, mgL_no h⟩)
    rw [hB] at HT
    clear hB
    go_enter Tryz.func13, Tryz.ntmps13
    go_wp2_with fail
    refine (HT.out _ (HR.out.below (below_alloc1 _ _))).mono ?_
    rintro e w1 ⟨rfl, hb⟩
    have HB := Lib.hid (Below.trans (by go_grown) (hb.mono (by simp)) : Below w.heap.size w w1); clear hb
    go_wp2
    refine bodyPost_ret (v := (.tuple #[.slice (some ⟨w1.heap.size, 0, none⟩) 0 0, .bool false])) (by simp [results, Tryz.results13, go_sem, *]) rfl ?_
    exact ⟨_, by rw [HV.out.1], by rw [HV.out.2]; exact (OwEv.nilLit w1).base HB.out.size, HB.out.trans ((below_alloc1 _ _).mono HB.out.size)⟩
  · have hx30 := (tsB_true.1 hB).1
    have HAT0 := Lib.hid (fun s h1 h2 hs => add_ts (e := ⟨xt, xn, xk, xm⟩) (s := s) hB h1 h2 hs)
    have HSx := Lib.hid (srt_of_ts hB)
    rw [hB] at HT
    clear hB
    obtain ⟨i0, hi, hz0, hz1, hz2⟩ := info_parts infoEv
    go_enter Tryz.func13, Tryz.ntmps13
    go_wp2_with fail
    refine (HT.out _ (HR.out.below (below_alloc1 _ _))).mono ?_
    rintro e w1 ⟨rfl, hb⟩
    have HX1 := Lib.hid (HX0.out w1 hb)
    have HB := Lib.hid (Below.trans (by go_grown) (hb.mono (by simp)) : Below w.heap.size w w1); clear hb
    have hz1w : w.heap.size < w1.heap.size := World.block_lt_of_cell? w1 _ HX1.out.1
    go_wp2
    go_loopw [6] (fun kk wr => ∃ k : Nat, k ≤ xs.length ∧ kk = .int .i64 k ∧ Hid (∀ y, xs[k]? = some y → xt < y.t) ∧ Hid (Below w1.heap.size w1 wr)) (fun kk _ => (intOf kk).toNat)
    case atStart => exact ⟨xs.length, Nat.le_refl _, rfl, Lib.hid (fun y h => by rw [List.getElem?_eq_none (Nat.le_refl _)] at h; cases h), Lib.hid (Below.refl _ _)⟩
    case round =>
      obtain ⟨k, hk, rfl, HK, HBk⟩ := hrel
      obtain ⟨e0, e1, e2, e3⟩ := HX1.out
      have e0 := cell_on HBk.out e0
      have e1 := cell_on HBk.out e1
      have e2 := cell_on HBk.out e2
      have e3 := cell_on HBk.out e3
      have HWr : Hid (Below w.heap.size w wr) := Lib.hid (HB.out.trans (HBk.out.mono HB.out.size))
      by_cases hk0 : k = 0
      · subst hk0
        have HAT := Lib.hid (HAT0.out 0 (fun y h => absurd h (by omega)) HK.out (Nat.zero_le _))
        have hd0 : decide ((0 : Int) < ((0 : Nat) : Int)) = false := rfl
        rcases HSrc0.out.source with ⟨hv, hz, hnil⟩ | ⟨a, cap', hv, hcap2, hcells⟩
        · simp only [Value.slice.injEq] at hv
          obtain ⟨rfl, hz9, rfl⟩ := hv
          go_wp2_with fail
          go_quiet (fail)
          have HXA := Lib.hid (below_drewN (Below.refl wr.heap.size wr) nq)
          generalize wr.drewN nq = wX at *
          have HWX : Hid (Below w.heap.size w wX) := Lib.hid (HWr.out.trans (HXA.out.mono HWr.out.size))
          have HTL : Hid (((xs.take 0).flatMap Ev.cells).length = 0 * 4) := Lib.hid (by rw [flatEv_len, List.length_take]; omega)
          have HDL : Hid (((xs.drop 0).flatMap Ev.cells).length = (xs.length - 0) * 4) := Lib.hid (by rw [flatEv_len, List.length_drop])
          have HT1 : Hid (∀ u ∈ ((xs.take 0).flatMap Ev.cells), u.oneCell' = true) := Lib.hid (evOne _)
          have HD1 : Hid (∀ u ∈ ((xs.drop 0).flatMap Ev.cells), u.oneCell' = true) := Lib.hid (evOne _)
          have HV1 : Hid (∀ u ∈ ([.int .i64 xt, .int .i64 xn, .int .i64 xk, .int .i64 xm] : List Value), u.oneCell' = true) := Lib.hid (by intro u hu; simp at hu; rcases hu with rfl | rfl | rfl | rfl <;> rfl)
          have HSrc : Hid (∀ X : World, Below wX.heap.size wX X → 0 < 0 → ∃ ad, (none : Option Addr) = some ad ∧ ∀ i u, ((xs.take 0).flatMap Ev.cells)[i]? = some u → X.cell? (ad.add i) = some u) := Lib.hid (fun X hX hm => by omega)
          have HSrd : Hid (∀ X : World, Below wX.heap.size wX X → 0 < xs.length - 0 → ∃ ad, (none : Option Addr) = some ad ∧ ∀ i u, ((xs.drop 0).flatMap Ev.cells)[i]? = some u → X.cell? (ad.add i) = some u) := Lib.hid (fun X hX hm => by omega)
          have HE1 : Hid ((wX.alloc (.cells #[] 25)).drew.ownsRow wX.heap.size 25 4 (.slice (some ⟨wX.heap.size, 0, none⟩) 0 0) 0 []) := Lib.hid (World.ownsRow_lit wX #[] 0 (Nat.le_refl _) (Nat.zero_le _) rfl).drew
          have HE1b : Hid (Below wX.heap.size wX (wX.alloc (.cells #[] 25)).drew) := Lib.hid (below_alloc1 _ _).drew
          have HE2 : Hid (((wX.alloc (.cells #[] 25)).alloc (.cells #[.int .i64 xt, .int .i64 xn, .int .i64 xk, .int .i64 xm] 25)).drew.ownsRow wX.heap.size 25 4 (.slice (some ⟨wX.heap.size, 0, none⟩) 0 0) 0 []) := Lib.hid (HE1.out.alloc _)
          have HE2b : Hid (Below wX.heap.size wX ((wX.alloc (.cells #[] 25)).alloc (.cells #[.int .i64 xt, .int .i64 xn, .int .i64 xk, .int .i64 xm] 25)).drew) := Lib.hid (Below.drew (by go_grown))
          have HE3 : Hid (((wX.alloc (.cells #[.int .i64 xt, .int .i64 xn, .int .i64 xk, .int .i64 xm] 25)).alloc (.cells #[] 25)).drew.ownsRow wX.heap.size 25 4 (.slice (some ⟨wX.heap.size + 1, 0, none⟩) 0 0) 0 []) := Lib.hid (by have h := (World.ownsRow_lit (base := wX.heap.size) (e := 25) (size := 4) (wX.alloc (.cells #[.int .i64 xt, .int .i64 xn, .int .i64 xk, .int .i64 xm] 25)) #[] 0 (by simp) (Nat.zero_le _) rfl).drew; simpa using h)
          have HE3b : Hid (Below wX.heap.size wX ((wX.alloc (.cells #[.int .i64 xt, .int .i64 xn, .int .i64 xk, .int .i64 xm] 25)).alloc (.cells #[] 25)).drew) := Lib.hid (Below.drew (by go_grown))
          have HE2n : Hid (∀ i u, ([.int .i64 xt, .int .i64 xn, .int .i64 xk, .int .i64 xm] : List Value)[i]? = some u → ((wX.alloc (.cells #[] 25)).alloc (.cells #[.int .i64 xt, .int .i64 xn, .int .i64 xk, .int .i64 xm] 25)).drew.cell? ((⟨wX.heap.size + 1, 0, none⟩ : Addr).add i) = some u) := Lib.hid (World.news_of_block (heap_alloc2_new wX _ _))
          have HE3n : Hid (∀ i u, ([.int .i64 xt, .int .i64 xn, .int .i64 xk, .int .i64 xm] : List Value)[i]? = some u → ((wX.alloc (.cells #[.int .i64 xt, .int .i64 xn, .int .i64 xk, .int .i64 xm] 25)).alloc (.cells #[] 25)).drew.cell? ((⟨wX.heap.size, 0, none⟩ : Addr).add i) = some u) := Lib.hid (fun i u hu => cell_on (Below.drew (below_alloc1 _ _)) (World.news_of_block (heap_alloc_new wX (.cells #[.int .i64 xt, .int .i64 xn, .int .i64 xk, .int .i64 xm] 25)) i u hu))
          have HFin : Hid (∀ v3 w3, w3.ownsRow wX.heap.size 25 4 v3 (0 + 1 + (xs.length - 0)) (((xs.take 0).flatMap Ev.cells) ++ [.int .i64 xt, .int .i64 xn, .int .i64 xk, .int .i64 xm] ++ ((xs.drop 0).flatMap Ev.cells)) → Below wX.heap.size wX w3 → OwEv w.heap.size w3 v3 (slot xs ⟨xt, xn, xk, xm⟩ 0) ∧ Below w.heap.size w w3) := Lib.hid (by
            intro v3 w3 h3 hb3
            have h := own_base h3 HWX.out.size
            have e : ((xs.take 0).flatMap Ev.cells) ++ [.int .i64 xt, .int .i64 xn, .int .i64 xk, .int .i64 xm] ++ ((xs.drop 0).flatMap Ev.cells) = (slot xs ⟨xt, xn, xk, xm⟩ 0).flatMap Ev.cells := by rw [slot, List.flatMap_append, List.flatMap_cons, List.append_assoc]
            rw [e] at h
            refine ⟨⟨?_, by rw [slot_len]; omega⟩, HWX.out.trans (hb3.mono HWX.out.size)⟩
            rw [slot_len, show xs.length + 1 = 0 + 1 + (xs.length - 0) by omega]; exact h)
          have e0 := cell_on HXA.out e0
          have e1 := cell_on HXA.out e1
          have e2 := cell_on HXA.out e2
          have e3 := cell_on HXA.out e3
          have g0 := cell_on (below_alloc1 wX (.cells #[] 25)) e0
          have g1 := cell_on (below_alloc1 wX (.cells #[] 25)) e1
          have g2 := cell_on (below_alloc1 wX (.cells #[] 25)) e2
          have g3 := cell_on (below_alloc1 wX (.cells #[] 25)) e3
          have hkm : 0 + 0 ≤ maxLen := by unfold maxLen; omega
          have hkm2 : 0 + 1 ≤ maxLen := by unfold maxLen; omega
          have hkm3 : 0 + 1 + (xs.length - 0) ≤ maxLen := by unfold maxLen; omega
          go_wp2_with fail
          go_region_law (first | ((refine step_appK _ rfl (.tmp 29) (.tmp 32) 32 rfl wX.heap.size 25 i0 (.agg #[.int .i64 0, .int .i64 0, .int .i64 0, .int .i64 0]) 4 32 Tryz.underlying32 hi hz0 hz1 hz2 rfl (by decide) (.slice (some ⟨wX.heap.size, 0, none⟩) 0 0) 0 [] (by simp [Act.eval]) HE1.out (none) 0 (0) ((xs.take 0).flatMap Ev.cells) (by simp [Act.eval] <;> omega) HTL.out (HSrc.out _ HE1b.out) (fun _ => rfl) HT1.out hkm (by omega) HE1b.out.size ?_); intro v1 w1 hown1 hgrow1; have HB1 : Hid (Below wX.heap.size wX w1) := Lib.hid (HE1b.out.grown hgrow1 HE1b.out.size (fun i hi => (HE1.out.lt i hi).1)); have HO1 : Hid (w1.ownsRow wX.heap.size 25 4 v1 0 ((xs.take 0).flatMap Ev.cells)) := Lib.hid (by simpa using hown1); have e0 := cell_on HB1.out e0; have e1 := cell_on HB1.out e1; have e2 := cell_on HB1.out e2; have e3 := cell_on HB1.out e3; have HO1L := Lib.hid (HO1.out.alloc (.cells #[.int .i64 xt, .int .i64 xn, .int .i64 xk, .int .i64 xm] 25)); have HB1L := Lib.hid (HB1.out.trans ((below_alloc1 w1 (.cells #[.int .i64 xt, .int .i64 xn, .int .i64 xk, .int .i64 xm] 25)).mono HB1.out.size)); have HSn := Lib.hid (World.news_of_block (heap_alloc_new w1 (.cells #[.int .i64 xt, .int .i64 xn, .int .i64 xk, .int .i64 xm] 25))); clear hown1 hgrow1) | ((refine step_appK _ rfl (.tmp 29) (.tmp 32) 32 rfl wX.heap.size 25 i0 (.agg #[.int .i64 0, .int .i64 0, .int .i64 0, .int .i64 0]) 4 32 Tryz.underlying32 hi hz0 hz1 hz2 rfl (by decide) (.slice (some ⟨wX.heap.size, 0, none⟩) 0 0) 0 [] (by simp [Act.eval]) HE2.out (none) 0 (0) ((xs.take 0).flatMap Ev.cells) (by simp [Act.eval] <;> omega) HTL.out (HSrc.out _ HE2b.out) (fun _ => rfl) HT1.out hkm (by omega) HE2b.out.size ?_); intro v1 w1 hown1 hgrow1; have HB1 : Hid (Below wX.heap.size wX w1) := Lib.hid (HE2b.out.grown hgrow1 HE2b.out.size (fun i hi => (HE2.out.lt i hi).1)); have HO1 : Hid (w1.ownsRow wX.heap.size 25 4 v1 0 ((xs.take 0).flatMap Ev.cells)) := Lib.hid (by simpa using hown1); have HSn : Hid (∀ i u, ([.int .i64 xt, .int .i64 xn, .int .i64 xk, .int .i64 xm] : List Value)[i]? = some u → w1.cell? ((⟨wX.heap.size + 1, 0, none⟩ : Addr).add i) = some u) := Lib.hid (fun i u hiu => by rw [add_at]; exact hgrow1.cell (by rw [← add_at]; exact HE2n.out i u hiu) (by intro e; have := Option.some.inj e; simp at this)); clear hown1 hgrow1) | ((refine step_appK _ rfl (.tmp 29) (.tmp 32) 32 rfl wX.heap.size 25 i0 (.agg #[.int .i64 0, .int .i64 0, .int .i64 0, .int .i64 0]) 4 32 Tryz.underlying32 hi hz0 hz1 hz2 rfl (by decide) (.slice (some ⟨wX.heap.size + 1, 0, none⟩) 0 0) 0 [] (by simp [Act.eval]) HE3.out (none) 0 (0) ((xs.take 0).flatMap Ev.cells) (by simp [Act.eval] <;> omega) HTL.out (HSrc.out _ HE3b.out) (fun _ => rfl) HT1.out hkm (by omega) HE3b.out.size ?_); intro v1 w1 hown1 hgrow1; have HB1 : Hid (Below wX.heap.size wX w1) := Lib.hid (HE3b.out.grown hgrow1 HE3b.out.size (fun i hi => (HE3.out.lt i hi).1)); have HO1 : Hid (w1.ownsRow wX.heap.size 25 4 v1 0 ((xs.take 0).flatMap Ev.cells)) := Lib.hid (by simpa using hown1); have HSn : Hid (∀ i u, ([.int .i64 xt, .int .i64 xn, .int .i64 xk, .int .i64 xm] : List Value)[i]? = some u → w1.cell? ((⟨wX.heap.size, 0, none⟩ : Addr).add i) = some u) := Lib.hid (fun i u hiu => by rw [add_at]; exact hgrow1.cell (by rw [← add_at]; exact HE3n.out i u hiu) (by intro e; have := Option.some.inj e; simp at this)); clear hown1 hgrow1) | ((refine step_appK _ rfl (.tmp 33) (.tmp 35) 32 rfl wX.heap.size 25 i0 (.agg #[.int .i64 0, .int .i64 0, .int .i64 0, .int .i64 0]) 4 32 Tryz.underlying32 hi hz0 hz1 hz2 rfl (by decide) v1 0 _ (by simp [Act.eval]) HO1L.out (some ⟨w1.heap.size, 0, none⟩) 1 1 [.int .i64 xt, .int .i64 xn, .int .i64 xk, .int .i64 xm] (by simp [Act.eval]) rfl (fun _ => ⟨_, rfl, HSn.out⟩) (fun e => by cases e) HV1.out hkm2 (by omega) HB1L.out.size ?_); intro v2 w2 hown2 hgrow2; have HB2 := Lib.hid (HB1L.out.grown hgrow2 HB1L.out.size (fun i hi => (HO1L.out.lt i hi).1)); have HO2 := Lib.hid hown2; clear hown2 hgrow2) | ((refine step_appK _ rfl (.tmp 33) (.tmp 35) 32 rfl wX.heap.size 25 i0 (.agg #[.int .i64 0, .int .i64 0, .int .i64 0, .int .i64 0]) 4 32 Tryz.underlying32 hi hz0 hz1 hz2 rfl (by decide) v1 0 _ (by simp [Act.eval]) HO1.out (some ⟨wX.heap.size + 1, 0, none⟩) 1 1 [.int .i64 xt, .int .i64 xn, .int .i64 xk, .int .i64 xm] (by simp [Act.eval]) rfl (fun _ => ⟨_, rfl, HSn.out⟩) (fun e => by cases e) HV1.out hkm2 (by omega) HB1.out.size ?_); intro v2 w2 hown2 hgrow2; have HB2 := Lib.hid (HB1.out.grown hgrow2 HB1.out.size (fun i hi => (HO1.out.lt i hi).1)); have HO2 := Lib.hid hown2; clear hown2 hgrow2) | ((refine step_appK _ rfl (.tmp 33) (.tmp 35) 32 rfl wX.heap.size 25 i0 (.agg #[.int .i64 0, .int .i64 0, .int .i64 0, .int .i64 0]) 4 32 Tryz.underlying32 hi hz0 hz1 hz2 rfl (by decide) v1 0 _ (by simp [Act.eval]) HO1.out (some ⟨wX.heap.size, 0, none⟩) 1 1 [.int .i64 xt, .int .i64 xn, .int .i64 xk, .int .i64 xm] (by simp [Act.eval]) rfl (fun _ => ⟨_, rfl, HSn.out⟩) (fun e => by cases e) HV1.out hkm2 (by omega) HB1.out.size ?_); intro v2 w2 hown2 hgrow2; have HB2 := Lib.hid (HB1.out.grown hgrow2 HB1.out.size (fun i hi => (HO1.out.lt i hi).1)); have HO2 := Lib.hid hown2; clear hown2 hgrow2) | ((refine step_appK _ rfl (.tmp 36) (.tmp 39) 32 rfl wX.heap.size 25 i0 (.agg #[.int .i64 0, .int .i64 0, .int .i64 0, .int .i64 0]) 4 32 Tryz.underlying32 hi hz0 hz1 hz2 rfl (by decide) v2 (0 + 1) _ (by simp [Act.eval]) HO2.out (none) (xs.length - 0) (0) ((xs.drop 0).flatMap Ev.cells) (by simp [Act.eval] <;> omega) HDL.out (HSrd.out _ HB2.out) (fun _ => rfl) HD1.out hkm3 (by omega) HB2.out.size ?_); intro v3 w3 hown3 hgrow3; have HB3 := Lib.hid (HB2.out.grown hgrow3 HB2.out.size (fun i hi => (HO2.out.lt i hi).1)); have HO3 := Lib.hid hown3; clear hown3 hgrow3))
          all_goals obtain ⟨ho3, hb3⟩ := HFin.out v3 w3 HO3.out HB3.out
          all_goals have HO4 := Lib.hid ho3
          all_goals have HB4 := Lib.hid hb3
          all_goals clear ho3 hb3
          all_goals go_wp2_with fail
          all_goals refine (HTL2.out v3 _ _ HO4.out.rd).mono ?_
          all_goals rintro e w4 ⟨rfl, hb⟩
          all_goals have HO5 := Lib.hid (HO4.out.below hb)
          all_goals have HB5 := Lib.hid (HB4.out.trans (hb.mono HB4.out.size))
          all_goals clear hb
          all_goals cases hmb : mgB xs [⟨xt, xn, xk, xm⟩]
          all_goals have HMB := Lib.hid hmb
          all_goals have HSl : Hid (tsB (slot xs ⟨xt, xn, xk, xm⟩ 0) = _) := Lib.hid (HAT.out.1.trans hmb)
          all_goals rw [HSl.out]
          all_goals go_wp2
          all_goals first | (refine bodyPost_ret (v := (.tuple #[.slice (some ⟨w4.heap.size, 0, none⟩) 0 0, .bool false])) (by simp [results, Tryz.results13, go_sem, *]) rfl ?_; exact ⟨_, by rw [hmb], by rw [mgL_no hmb]; exact (OwEv.nilLit w4).base HB5.out.size, HB5.out.trans ((below_alloc1 _ _).mono HB5.out.size)⟩) | (refine bodyPost_ret (v := (.tuple #[v3, .bool true])) (by simp [results, Tryz.results13, go_sem, *]) rfl ?_; exact ⟨_, by rw [hmb], by rw [HAT.out.2 hmb]; exact HO5.out, HB5.out⟩)
        · simp only [Value.slice.injEq, true_and] at hv
          obtain ⟨rfl, rfl⟩ := hv
          by_cases hke : cap = 0
          · go_wp2_with fail
            go_quiet (fail)
            have HXA := Lib.hid (below_drewN (Below.refl wr.heap.size wr) nq)
            generalize wr.drewN nq = wX at *
            have HWX : Hid (Below w.heap.size w wX) := Lib.hid (HWr.out.trans (HXA.out.mono HWr.out.size))
            have HTL : Hid (((xs.take 0).flatMap Ev.cells).length = 0 * 4) := Lib.hid (by rw [flatEv_len, List.length_take]; omega)
            have HDL : Hid (((xs.drop 0).flatMap Ev.cells).length = (xs.length - 0) * 4) := Lib.hid (by rw [flatEv_len, List.length_drop])
            have HT1 : Hid (∀ u ∈ ((xs.take 0).flatMap Ev.cells), u.oneCell' = true) := Lib.hid (evOne _)
            have HD1 : Hid (∀ u ∈ ((xs.drop 0).flatMap Ev.cells), u.oneCell' = true) := Lib.hid (evOne _)
            have HV1 : Hid (∀ u ∈ ([.int .i64 xt, .int .i64 xn, .int .i64 xk, .int .i64 xm] : List Value), u.oneCell' = true) := Lib.hid (by intro u hu; simp at hu; rcases hu with rfl | rfl | rfl | rfl <;> rfl)
            have HSrc : Hid (∀ X : World, Below wX.heap.size wX X → 0 < 0 → ∃ ad, (some a : Option Addr) = some ad ∧ ∀ i u, ((xs.take 0).flatMap Ev.cells)[i]? = some u → X.cell? (ad.add i) = some u) := Lib.hid (fun X hX hm => by omega)
            have HSrd : Hid (∀ X : World, Below wX.heap.size wX X → 0 < xs.length - 0 → ∃ ad, (some a : Option Addr) = some ad ∧ ∀ i u, ((xs.drop 0).flatMap Ev.cells)[i]? = some u → X.cell? (ad.add i) = some u) := Lib.hid (fun X hX hm => by omega)
            have HE1 : Hid ((wX.alloc (.cells #[] 25)).drew.ownsRow wX.heap.size 25 4 (.slice (some ⟨wX.heap.size, 0, none⟩) 0 0) 0 []) := Lib.hid (World.ownsRow_lit wX #[] 0 (Nat.le_refl _) (Nat.zero_le _) rfl).drew
            have HE1b : Hid (Below wX.heap.size wX (wX.alloc (.cells #[] 25)).drew) := Lib.hid (below_alloc1 _ _).drew
            have HE2 : Hid (((wX.alloc (.cells #[] 25)).alloc (.cells #[.int .i64 xt, .int .i64 xn, .int .i64 xk, .int .i64 xm] 25)).drew.ownsRow wX.heap.size 25 4 (.slice (some ⟨wX.heap.size, 0, none⟩) 0 0) 0 []) := Lib.hid (HE1.out.alloc _)
            have HE2b : Hid (Below wX.heap.size wX ((wX.alloc (.cells #[] 25)).alloc (.cells #[.int .i64 xt, .int .i64 xn, .int .i64 xk, .int .i64 xm] 25)).drew) := Lib.hid (Below.drew (by go_grown))
            have HE3 : Hid (((wX.alloc (.cells #[.int .i64 xt, .int .i64 xn, .int .i64 xk, .int .i64 xm] 25)).alloc (.cells #[] 25)).drew.ownsRow wX.heap.size 25 4 (.slice (some ⟨wX.heap.size + 1, 0, none⟩) 0 0) 0 []) := Lib.hid (by have h := (World.ownsRow_lit (base := wX.heap.size) (e := 25) (size := 4) (wX.alloc (.cells #[.int .i64 xt, .int .i64 xn, .int .i64 xk, .int .i64 xm] 25)) #[] 0 (by simp) (Nat.zero_le _) rfl).drew; simpa using h)
            have HE3b : Hid (Below wX.heap.size wX ((wX.alloc (.cells #[.int .i64 xt, .int .i64 xn, .int .i64 xk, .int .i64 xm] 25)).alloc (.cells #[] 25)).drew) := Lib.hid (Below.drew (by go_grown))
            have HE2n : Hid (∀ i u, ([.int .i64 xt, .int .i64 xn, .int .i64 xk, .int .i64 xm] : List Value)[i]? = some u → ((wX.alloc (.cells #[] 25)).alloc (.cells #[.int .i64 xt, .int .i64 xn, .int .i64 xk, .int .i64 xm] 25)).drew.cell? ((⟨wX.heap.size + 1, 0, none⟩ : Addr).add i) = some u) := Lib.hid (World.news_of_block (heap_alloc2_new wX _ _))
            have HE3n : Hid (∀ i u, ([.int .i64 xt, .int .i64 xn, .int .i64 xk, .int .i64 xm] : List Value)[i]? = some u → ((wX.alloc (.cells #[.int .i64 xt, .int .i64 xn, .int .i64 xk, .int .i64 xm] 25)).alloc (.cells #[] 25)).drew.cell? ((⟨wX.heap.size, 0, none⟩ : Addr).add i) = some u) := Lib.hid (fun i u hu => cell_on (Below.drew (below_alloc1 _ _)) (World.news_of_block (heap_alloc_new wX (.cells #[.int .i64 xt, .int .i64 xn, .int .i64 xk, .int .i64 xm] 25)) i u hu))
            have HFin : Hid (∀ v3 w3, w3.ownsRow wX.heap.size 25 4 v3 (0 + 1 + (xs.length - 0)) (((xs.take 0).flatMap Ev.cells) ++ [.int .i64 xt, .int .i64 xn, .int .i64 xk, .int .i64 xm] ++ ((xs.drop 0).flatMap Ev.cells)) → Below wX.heap.size wX w3 → OwEv w.heap.size w3 v3 (slot xs ⟨xt, xn, xk, xm⟩ 0) ∧ Below w.heap.size w w3) := Lib.hid (by
              intro v3 w3 h3 hb3
              have h := own_base h3 HWX.out.size
              have e : ((xs.take 0).flatMap Ev.cells) ++ [.int .i64 xt, .int .i64 xn, .int .i64 xk, .int .i64 xm] ++ ((xs.drop 0).flatMap Ev.cells) = (slot xs ⟨xt, xn, xk, xm⟩ 0).flatMap Ev.cells := by rw [slot, List.flatMap_append, List.flatMap_cons, List.append_assoc]
              rw [e] at h
              refine ⟨⟨?_, by rw [slot_len]; omega⟩, HWX.out.trans (hb3.mono HWX.out.size)⟩
              rw [slot_len, show xs.length + 1 = 0 + 1 + (xs.length - 0) by omega]; exact h)
            have e0 := cell_on HXA.out e0
            have e1 := cell_on HXA.out e1
            have e2 := cell_on HXA.out e2
            have e3 := cell_on HXA.out e3
            have g0 := cell_on (below_alloc1 wX (.cells #[] 25)) e0
            have g1 := cell_on (below_alloc1 wX (.cells #[] 25)) e1
            have g2 := cell_on (below_alloc1 wX (.cells #[] 25)) e2
            have g3 := cell_on (below_alloc1 wX (.cells #[] 25)) e3
            have hkm : 0 + 0 ≤ maxLen := by unfold maxLen; omega
            have hkm2 : 0 + 1 ≤ maxLen := by unfold maxLen; omega
            have hkm3 : 0 + 1 + (xs.length - 0) ≤ maxLen := by unfold maxLen; omega
            go_wp2_with fail
            go_region_law (first | ((refine step_appK _ rfl (.tmp 29) (.tmp 32) 32 rfl wX.heap.size 25 i0 (.agg #[.int .i64 0, .int .i64 0, .int .i64 0, .int .i64 0]) 4 32 Tryz.underlying32 hi hz0 hz1 hz2 rfl (by decide) (.slice (some ⟨wX.heap.size, 0, none⟩) 0 0) 0 [] (by simp [Act.eval]) HE1.out (some a) 0 (cap) ((xs.take 0).flatMap Ev.cells) (by simp [Act.eval] <;> omega) HTL.out (HSrc.out _ HE1b.out) (fun e => by cases e) HT1.out hkm (by omega) HE1b.out.size ?_); intro v1 w1 hown1 hgrow1; have HB1 : Hid (Below wX.heap.size wX w1) := Lib.hid (HE1b.out.grown hgrow1 HE1b.out.size (fun i hi => (HE1.out.lt i hi).1)); have HO1 : Hid (w1.ownsRow wX.heap.size 25 4 v1 0 ((xs.take 0).flatMap Ev.cells)) := Lib.hid (by simpa using hown1); have e0 := cell_on HB1.out e0; have e1 := cell_on HB1.out e1; have e2 := cell_on HB1.out e2; have e3 := cell_on HB1.out e3; have HO1L := Lib.hid (HO1.out.alloc (.cells #[.int .i64 xt, .int .i64 xn, .int .i64 xk, .int .i64 xm] 25)); have HB1L := Lib.hid (HB1.out.trans ((below_alloc1 w1 (.cells #[.int .i64 xt, .int .i64 xn, .int .i64 xk, .int .i64 xm] 25)).mono HB1.out.size)); have HSn := Lib.hid (World.news_of_block (heap_alloc_new w1 (.cells #[.int .i64 xt, .int .i64 xn, .int .i64 xk, .int .i64 xm] 25))); clear hown1 hgrow1) | ((refine step_appK _ rfl (.tmp 29) (.tmp 32) 32 rfl wX.heap.size 25 i0 (.agg #[.int .i64 0, .int .i64 0, .int .i64 0, .int .i64 0]) 4 32 Tryz.underlying32 hi hz0 hz1 hz2 rfl (by decide) (.slice (some ⟨wX.heap.size, 0, none⟩) 0 0) 0 [] (by simp [Act.eval]) HE2.out (some a) 0 (cap) ((xs.take 0).flatMap Ev.cells) (by simp [Act.eval] <;> omega) HTL.out (HSrc.out _ HE2b.out) (fun e => by cases e) HT1.out hkm (by omega) HE2b.out.size ?_); intro v1 w1 hown1 hgrow1; have HB1 : Hid (Below wX.heap.size wX w1) := Lib.hid (HE2b.out.grown hgrow1 HE2b.out.size (fun i hi => (HE2.out.lt i hi).1)); have HO1 : Hid (w1.ownsRow wX.heap.size 25 4 v1 0 ((xs.take 0).flatMap Ev.cells)) := Lib.hid (by simpa using hown1); have HSn : Hid (∀ i u, ([.int .i64 xt, .int .i64 xn, .int .i64 xk, .int .i64 xm] : List Value)[i]? = some u → w1.cell? ((⟨wX.heap.size + 1, 0, none⟩ : Addr).add i) = some u) := Lib.hid (fun i u hiu => by rw [add_at]; exact hgrow1.cell (by rw [← add_at]; exact HE2n.out i u hiu) (by intro e; have := Option.some.inj e; simp at this)); clear hown1 hgrow1) | ((refine step_appK _ rfl (.tmp 29) (.tmp 32) 32 rfl wX.heap.size 25 i0 (.agg #[.int .i64 0, .int .i64 0, .int .i64 0, .int .i64 0]) 4 32 Tryz.underlying32 hi hz0 hz1 hz2 rfl (by decide) (.slice (some ⟨wX.heap.size + 1, 0, none⟩) 0 0) 0 [] (by simp [Act.eval]) HE3.out (some a) 0 (cap) ((xs.take 0).flatMap Ev.cells) (by simp [Act.eval] <;> omega) HTL.out (HSrc.out _ HE3b.out) (fun e => by cases e) HT1.out hkm (by omega) HE3b.out.size ?_); intro v1 w1 hown1 hgrow1; have HB1 : Hid (Below wX.heap.size wX w1) := Lib.hid (HE3b.out.grown hgrow1 HE3b.out.size (fun i hi => (HE3.out.lt i hi).1)); have HO1 : Hid (w1.ownsRow wX.heap.size 25 4 v1 0 ((xs.take 0).flatMap Ev.cells)) := Lib.hid (by simpa using hown1); have HSn : Hid (∀ i u, ([.int .i64 xt, .int .i64 xn, .int .i64 xk, .int .i64 xm] : List Value)[i]? = some u → w1.cell? ((⟨wX.heap.size, 0, none⟩ : Addr).add i) = some u) := Lib.hid (fun i u hiu => by rw [add_at]; exact hgrow1.cell (by rw [← add_at]; exact HE3n.out i u hiu) (by intro e; have := Option.some.inj e; simp at this)); clear hown1 hgrow1) | ((refine step_appK _ rfl (.tmp 33) (.tmp 35) 32 rfl wX.heap.size 25 i0 (.agg #[.int .i64 0, .int .i64 0, .int .i64 0, .int .i64 0]) 4 32 Tryz.underlying32 hi hz0 hz1 hz2 rfl (by decide) v1 0 _ (by simp [Act.eval]) HO1L.out (some ⟨w1.heap.size, 0, none⟩) 1 1 [.int .i64 xt, .int .i64 xn, .int .i64 xk, .int .i64 xm] (by simp [Act.eval]) rfl (fun _ => ⟨_, rfl, HSn.out⟩) (fun e => by cases e) HV1.out hkm2 (by omega) HB1L.out.size ?_); intro v2 w2 hown2 hgrow2; have HB2 := Lib.hid (HB1L.out.grown hgrow2 HB1L.out.size (fun i hi => (HO1L.out.lt i hi).1)); have HO2 := Lib.hid hown2; clear hown2 hgrow2) | ((refine step_appK _ rfl (.tmp 33) (.tmp 35) 32 rfl wX.heap.size 25 i0 (.agg #[.int .i64 0, .int .i64 0, .int .i64 0, .int .i64 0]) 4 32 Tryz.underlying32 hi hz0 hz1 hz2 rfl (by decide) v1 0 _ (by simp [Act.eval]) HO1.out (some ⟨wX.heap.size + 1, 0, none⟩) 1 1 [.int .i64 xt, .int .i64 xn, .int .i64 xk, .int .i64 xm] (by simp [Act.eval]) rfl (fun _ => ⟨_, rfl, HSn.out⟩) (fun e => by cases e) HV1.out hkm2 (by omega) HB1.out.size ?_); intro v2 w2 hown2 hgrow2; have HB2 := Lib.hid (HB1.out.grown hgrow2 HB1.out.size (fun i hi => (HO1.out.lt i hi).1)); have HO2 := Lib.hid hown2; clear hown2 hgrow2) | ((refine step_appK _ rfl (.tmp 33) (.tmp 35) 32 rfl wX.heap.size 25 i0 (.agg #[.int .i64 0, .int .i64 0, .int .i64 0, .int .i64 0]) 4 32 Tryz.underlying32 hi hz0 hz1 hz2 rfl (by decide) v1 0 _ (by simp [Act.eval]) HO1.out (some ⟨wX.heap.size, 0, none⟩) 1 1 [.int .i64 xt, .int .i64 xn, .int .i64 xk, .int .i64 xm] (by simp [Act.eval]) rfl (fun _ => ⟨_, rfl, HSn.out⟩) (fun e => by cases e) HV1.out hkm2 (by omega) HB1.out.size ?_); intro v2 w2 hown2 hgrow2; have HB2 := Lib.hid (HB1.out.grown hgrow2 HB1.out.size (fun i hi => (HO1.out.lt i hi).1)); have HO2 := Lib.hid hown2; clear hown2 hgrow2) | ((refine step_appK _ rfl (.tmp 36) (.tmp 39) 32 rfl wX.heap.size 25 i0 (.agg #[.int .i64 0, .int .i64 0, .int .i64 0, .int .i64 0]) 4 32 Tryz.underlying32 hi hz0 hz1 hz2 rfl (by decide) v2 (0 + 1) _ (by simp [Act.eval]) HO2.out (some a) (xs.length - 0) (cap - 0) ((xs.drop 0).flatMap Ev.cells) (by simp [Act.eval] <;> omega) HDL.out (HSrd.out _ HB2.out) (fun e => by cases e) HD1.out hkm3 (by omega) HB2.out.size ?_); intro v3 w3 hown3 hgrow3; have HB3 := Lib.hid (HB2.out.grown hgrow3 HB2.out.size (fun i hi => (HO2.out.lt i hi).1)); have HO3 := Lib.hid hown3; clear hown3 hgrow3))
            all_goals obtain ⟨ho3, hb3⟩ := HFin.out v3 w3 HO3.out HB3.out
            all_goals have HO4 := Lib.hid ho3
            all_goals have HB4 := Lib.hid hb3
            all_goals clear ho3 hb3
            all_goals go_wp2_with fail
            all_goals refine (HTL2.out v3 _ _ HO4.out.rd).mono ?_
            all_goals rintro e w4 ⟨rfl, hb⟩
            all_goals have HO5 := Lib.hid (HO4.out.below hb)
            all_goals have HB5 := Lib.hid (HB4.out.trans (hb.mono HB4.out.size))
            all_goals clear hb
            all_goals cases hmb : mgB xs [⟨xt, xn, xk, xm⟩]
            all_goals have HMB := Lib.hid hmb
            all_goals have HSl : Hid (tsB (slot xs ⟨xt, xn, xk, xm⟩ 0) = _) := Lib.hid (HAT.out.1.trans hmb)
            all_goals rw [HSl.out]
            all_goals go_wp2
            all_goals first | (refine bodyPost_ret (v := (.tuple #[.slice (some ⟨w4.heap.size, 0, none⟩) 0 0, .bool false])) (by simp [results, Tryz.results13, go_sem, *]) rfl ?_; exact ⟨_, by rw [hmb], by rw [mgL_no hmb]; exact (OwEv.nilLit w4).base HB5.out.size, HB5.out.trans ((below_alloc1 _ _).mono HB5.out.size)⟩) | (refine bodyPost_ret (v := (.tuple #[v3, .bool true])) (by simp [results, Tryz.results13, go_sem, *]) rfl ?_; exact ⟨_, by rw [hmb], by rw [HAT.out.2 hmb]; exact HO5.out, HB5.out⟩)
          · go_wp2_with fail
            go_quiet (fail)
            have HXA := Lib.hid (below_drewN (Below.refl wr.heap.size wr) nq)
            generalize wr.drewN nq = wX at *
            have HWX : Hid (Below w.heap.size w wX) := Lib.hid (HWr.out.trans (HXA.out.mono HWr.out.size))
            have HTL : Hid (((xs.take 0).flatMap Ev.cells).length = 0 * 4) := Lib.hid (by rw [flatEv_len, List.length_take]; omega)
            have HDL : Hid (((xs.drop 0).flatMap Ev.cells).length = (xs.length - 0) * 4) := Lib.hid (by rw [flatEv_len, List.length_drop])
            have HT1 : Hid (∀ u ∈ ((xs.take 0).flatMap Ev.cells), u.oneCell' = true) := Lib.hid (evOne _)
            have HD1 : Hid (∀ u ∈ ((xs.drop 0).flatMap Ev.cells), u.oneCell' = true) := Lib.hid (evOne _)
            have HV1 : Hid (∀ u ∈ ([.int .i64 xt, .int .i64 xn, .int .i64 xk, .int .i64 xm] : List Value), u.oneCell' = true) := Lib.hid (by intro u hu; simp at hu; rcases hu with rfl | rfl | rfl | rfl <;> rfl)
            have HSrc : Hid (∀ X : World, Below wX.heap.size wX X → 0 < 0 → ∃ ad, (some a : Option Addr) = some ad ∧ ∀ i u, ((xs.take 0).flatMap Ev.cells)[i]? = some u → X.cell? (ad.add i) = some u) := Lib.hid (fun X hX hm => by omega)
            have HSrd : Hid (∀ X : World, Below wX.heap.size wX X → 0 < xs.length - 0 → ∃ ad, (some a : Option Addr) = some ad ∧ ∀ i u, ((xs.drop 0).flatMap Ev.cells)[i]? = some u → X.cell? (ad.add i) = some u) := Lib.hid (fun X hX hm => ⟨_, rfl, fun i u hu => cell_on hX (cell_on HWX.out (hcells _ _ (by simpa using hu)))⟩)
            have HE1 : Hid ((wX.alloc (.cells #[] 25)).drew.ownsRow wX.heap.size 25 4 (.slice (some ⟨wX.heap.size, 0, none⟩) 0 0) 0 []) := Lib.hid (World.ownsRow_lit wX #[] 0 (Nat.le_refl _) (Nat.zero_le _) rfl).drew
            have HE1b : Hid (Below wX.heap.size wX (wX.alloc (.cells #[] 25)).drew) := Lib.hid (below_alloc1 _ _).drew
            have HE2 : Hid (((wX.alloc (.cells #[] 25)).alloc (.cells #[.int .i64 xt, .int .i64 xn, .int .i64 xk, .int .i64 xm] 25)).drew.ownsRow wX.heap.size 25 4 (.slice (some ⟨wX.heap.size, 0, none⟩) 0 0) 0 []) := Lib.hid (HE1.out.alloc _)
            have HE2b : Hid (Below wX.heap.size wX ((wX.alloc (.cells #[] 25)).alloc (.cells #[.int .i64 xt, .int .i64 xn, .int .i64 xk, .int .i64 xm] 25)).drew) := Lib.hid (Below.drew (by go_grown))
            have HE3 : Hid (((wX.alloc (.cells #[.int .i64 xt, .int .i64 xn, .int .i64 xk, .int .i64 xm] 25)).alloc (.cells #[] 25)).drew.ownsRow wX.heap.size 25 4 (.slice (some ⟨wX.heap.size + 1, 0, none⟩) 0 0) 0 []) := Lib.hid (by have h := (World.ownsRow_lit (base := wX.heap.size) (e := 25) (size := 4) (wX.alloc (.cells #[.int .i64 xt, .int .i64 xn, .int .i64 xk, .int .i64 xm] 25)) #[] 0 (by simp) (Nat.zero_le _) rfl).drew; simpa using h)
            have HE3b : Hid (Below wX.heap.size wX ((wX.alloc (.cells #[.int .i64 xt, .int .i64 xn, .int .i64 xk, .int .i64 xm] 25)).alloc (.cells #[] 25)).drew) := Lib.hid (Below.drew (by go_grown))
            have HE2n : Hid (∀ i u, ([.int .i64 xt, .int .i64 xn, .int .i64 xk, .int .i64 xm] : List Value)[i]? = some u → ((wX.alloc (.cells #[] 25)).alloc (.cells #[.int .i64 xt, .int .i64 xn, .int .i64 xk, .int .i64 xm] 25)).drew.cell? ((⟨wX.heap.size + 1, 0, none⟩ : Addr).add i) = some u) := Lib.hid (World.news_of_block (heap_alloc2_new wX _ _))
            have HE3n : Hid (∀ i u, ([.int .i64 xt, .int .i64 xn, .int .i64 xk, .int .i64 xm] : List Value)[i]? = some u → ((wX.alloc (.cells #[.int .i64 xt, .int .i64 xn, .int .i64 xk, .int .i64 xm] 25)).alloc (.cells #[] 25)).drew.cell? ((⟨wX.heap.size, 0, none⟩ : Addr).add i) = some u) := Lib.hid (fun i u hu => cell_on (Below.drew (below_alloc1 _ _)) (World.news_of_block (heap_alloc_new wX (.cells #[.int .i64 xt, .int .i64 xn, .int .i64 xk, .int .i64 xm] 25)) i u hu))
            have HFin : Hid (∀ v3 w3, w3.ownsRow wX.heap.size 25 4 v3 (0 + 1 + (xs.length - 0)) (((xs.take 0).flatMap Ev.cells) ++ [.int .i64 xt, .int .i64 xn, .int .i64 xk, .int .i64 xm] ++ ((xs.drop 0).flatMap Ev.cells)) → Below wX.heap.size wX w3 → OwEv w.heap.size w3 v3 (slot xs ⟨xt, xn, xk, xm⟩ 0) ∧ Below w.heap.size w w3) := Lib.hid (by
              intro v3 w3 h3 hb3
              have h := own_base h3 HWX.out.size
              have e : ((xs.take 0).flatMap Ev.cells) ++ [.int .i64 xt, .int .i64 xn, .int .i64 xk, .int .i64 xm] ++ ((xs.drop 0).flatMap Ev.cells) = (slot xs ⟨xt, xn, xk, xm⟩ 0).flatMap Ev.cells := by rw [slot, List.flatMap_append, List.flatMap_cons, List.append_assoc]
              rw [e] at h
              refine ⟨⟨?_, by rw [slot_len]; omega⟩, HWX.out.trans (hb3.mono HWX.out.size)⟩
              rw [slot_len, show xs.length + 1 = 0 + 1 + (xs.length - 0) by omega]; exact h)
            have e0 := cell_on HXA.out e0
            have e1 := cell_on HXA.out e1
            have e2 := cell_on HXA.out e2
            have e3 := cell_on HXA.out e3
            have g0 := cell_on (below_alloc1 wX (.cells #[] 25)) e0
            have g1 := cell_on (below_alloc1 wX (.cells #[] 25)) e1
            have g2 := cell_on (below_alloc1 wX (.cells #[] 25)) e2
            have g3 := cell_on (below_alloc1 wX (.cells #[] 25)) e3
            have hkm : 0 + 0 ≤ maxLen := by unfold maxLen; omega
            have hkm2 : 0 + 1 ≤ maxLen := by unfold maxLen; omega
            have hkm3 : 0 + 1 + (xs.length - 0) ≤ maxLen := by unfold maxLen; omega
            go_wp2_with fail
            go_region_law (first | ((refine step_appK _ rfl (.tmp 29) (.tmp 32) 32 rfl wX.heap.size 25 i0 (.agg #[.int .i64 0, .int .i64 0, .int .i64 0, .int .i64 0]) 4 32 Tryz.underlying32 hi hz0 hz1 hz2 rfl (by decide) (.slice (some ⟨wX.heap.size, 0, none⟩) 0 0) 0 [] (by simp [Act.eval]) HE1.out (some a) 0 (cap) ((xs.take 0).flatMap Ev.cells) (by simp [Act.eval] <;> omega) HTL.out (HSrc.out _ HE1b.out) (fun e => by cases e) HT1.out hkm (by omega) HE1b.out.size ?_); intro v1 w1 hown1 hgrow1; have HB1 : Hid (Below wX.heap.size wX w1) := Lib.hid (HE1b.out.grown hgrow1 HE1b.out.size (fun i hi => (HE1.out.lt i hi).1)); have HO1 : Hid (w1.ownsRow wX.heap.size 25 4 v1 0 ((xs.take 0).flatMap Ev.cells)) := Lib.hid (by simpa using hown1); have e0 := cell_on HB1.out e0; have e1 := cell_on HB1.out e1; have e2 := cell_on HB1.out e2; have e3 := cell_on HB1.out e3; have HO1L := Lib.hid (HO1.out.alloc (.cells #[.int .i64 xt, .int .i64 xn, .int .i64 xk, .int .i64 xm] 25)); have HB1L := Lib.hid (HB1.out.trans ((below_alloc1 w1 (.cells #[.int .i64 xt, .int .i64 xn, .int .i64 xk, .int .i64 xm] 25)).mono HB1.out.size)); have HSn := Lib.hid (World.news_of_block (heap_alloc_new w1 (.cells #[.int .i64 xt, .int .i64 xn, .int .i64 xk, .int .i64 xm] 25))); clear hown1 hgrow1) | ((refine step_appK _ rfl (.tmp 29) (.tmp 32) 32 rfl wX.heap.size 25 i0 (.agg #[.int .i64 0, .int .i64 0, .int .i64 0, .int .i64 0]) 4 32 Tryz.underlying32 hi hz0 hz1 hz2 rfl (by decide) (.slice (some ⟨wX.heap.size, 0, none⟩) 0 0) 0 [] (by simp [Act.eval]) HE2.out (some a) 0 (cap) ((xs.take 0).flatMap Ev.cells) (by simp [Act.eval] <;> omega) HTL.out (HSrc.out _ HE2b.out) (fun e => by cases e) HT1.out hkm (by omega) HE2b.out.size ?_); intro v1 w1 hown1 hgrow1; have HB1 : Hid (Below wX.heap.size wX w1) := Lib.hid (HE2b.out.grown hgrow1 HE2b.out.size (fun i hi => (HE2.out.lt i hi).1)); have HO1 : Hid (w1.ownsRow wX.heap.size 25 4 v1 0 ((xs.take 0).flatMap Ev.cells)) := Lib.hid (by simpa using hown1); have HSn : Hid (∀ i u, ([.int .i64 xt, .int .i64 xn, .int .i64 xk, .int .i64 xm] : List Value)[i]? = some u → w1.cell? ((⟨wX.heap.size + 1, 0, none⟩ : Addr).add i) = some u) := Lib.hid (fun i u hiu => by rw [add_at]; exact hgrow1.cell (by rw [← add_at]; exact HE2n.out i u hiu) (by intro e; have := Option.some.inj e; simp at this)); clear hown1 hgrow1) | ((refine step_appK _ rfl (.tmp 29) (.tmp 32) 32 rfl wX.heap.size 25 i0 (.agg #[.int .i64 0, .int .i64 0, .int .i64 0, .int .i64 0]) 4 32 Tryz.underlying32 hi hz0 hz1 hz2 rfl (by decide) (.slice (some ⟨wX.heap.size + 1, 0, none⟩) 0 0) 0 [] (by simp [Act.eval]) HE3.out (some a) 0 (cap) ((xs.take 0).flatMap Ev.cells) (by simp [Act.eval] <;> omega) HTL.out (HSrc.out _ HE3b.out) (fun e => by cases e) HT1.out hkm (by omega) HE3b.out.size ?_); intro v1 w1 hown1 hgrow1; have HB1 : Hid (Below wX.heap.size wX w1) := Lib.hid (HE3b.out.grown hgrow1 HE3b.out.size (fun i hi => (HE3.out.lt i hi).1)); have HO1 : Hid (w1.ownsRow wX.heap.size 25 4 v1 0 ((xs.take 0).flatMap Ev.cells)) := Lib.hid (by simpa using hown1); have HSn : Hid (∀ i u, ([.int .i64 xt, .int .i64 xn, .int .i64 xk, .int .i64 xm] : List Value)[i]? = some u → w1.cell? ((⟨wX.heap.size, 0, none⟩ : Addr).add i) = some u) := Lib.hid (fun i u hiu => by rw [add_at]; exact hgrow1.cell (by rw [← add_at]; exact HE3n.out i u hiu) (by intro e; have := Option.some.inj e; simp at this)); clear hown1 hgrow1) | ((refine step_appK _ rfl (.tmp 33) (.tmp 35) 32 rfl wX.heap.size 25 i0 (.agg #[.int .i64 0, .int .i64 0, .int .i64 0, .int .i64 0]) 4 32 Tryz.underlying32 hi hz0 hz1 hz2 rfl (by decide) v1 0 _ (by simp [Act.eval]) HO1L.out (some ⟨w1.heap.size, 0, none⟩) 1 1 [.int .i64 xt, .int .i64 xn, .int .i64 xk, .int .i64 xm] (by simp [Act.eval]) rfl (fun _ => ⟨_, rfl, HSn.out⟩) (fun e => by cases e) HV1.out hkm2 (by omega) HB1L.out.size ?_); intro v2 w2 hown2 hgrow2; have HB2 := Lib.hid (HB1L.out.grown hgrow2 HB1L.out.size (fun i hi => (HO1L.out.lt i hi).1)); have HO2 := Lib.hid hown2; clear hown2 hgrow2) | ((refine step_appK _ rfl (.tmp 33) (.tmp 35) 32 rfl wX.heap.size 25 i0 (.agg #[.int .i64 0, .int .i64 0, .int .i64 0, .int .i64 0]) 4 32 Tryz.underlying32 hi hz0 hz1 hz2 rfl (by decide) v1 0 _ (by simp [Act.eval]) HO1.out (some ⟨wX.heap.size + 1, 0, none⟩) 1 1 [.int .i64 xt, .int .i64 xn, .int .i64 xk, .int .i64 xm] (by simp [Act.eval]) rfl (fun _ => ⟨_, rfl, HSn.out⟩) (fun e => by cases e) HV1.out hkm2 (by omega) HB1.out.size ?_); intro v2 w2 hown2 hgrow2; have HB2 := Lib.hid (HB1.out.grown hgrow2 HB1.out.size (fun i hi => (HO1.out.lt i hi).1)); have HO2 := Lib.hid hown2; clear hown2 hgrow2) | ((refine step_appK _ rfl (.tmp 33) (.tmp 35) 32 rfl wX.heap.size 25 i0 (.agg #[.int .i64 0, .int .i64 0, .int .i64 0, .int .i64 0]) 4 32 Tryz.underlying32 hi hz0 hz1 hz2 rfl (by decide) v1 0 _ (by simp [Act.eval]) HO1.out (some ⟨wX.heap.size, 0, none⟩) 1 1 [.int .i64 xt, .int .i64 xn, .int .i64 xk, .int .i64 xm] (by simp [Act.eval]) rfl (fun _ => ⟨_, rfl, HSn.out⟩) (fun e => by cases e) HV1.out hkm2 (by omega) HB1.out.size ?_); intro v2 w2 hown2 hgrow2; have HB2 := Lib.hid (HB1.out.grown hgrow2 HB1.out.size (fun i hi => (HO1.out.lt i hi).1)); have HO2 := Lib.hid hown2; clear hown2 hgrow2) | ((refine step_appK _ rfl (.tmp 36) (.tmp 39) 32 rfl wX.heap.size 25 i0 (.agg #[.int .i64 0, .int .i64 0, .int .i64 0, .int .i64 0]) 4 32 Tryz.underlying32 hi hz0 hz1 hz2 rfl (by decide) v2 (0 + 1) _ (by simp [Act.eval]) HO2.out (some a) (xs.length - 0) (cap - 0) ((xs.drop 0).flatMap Ev.cells) (by simp [Act.eval] <;> omega) HDL.out (HSrd.out _ HB2.out) (fun e => by cases e) HD1.out hkm3 (by omega) HB2.out.size ?_); intro v3 w3 hown3 hgrow3; have HB3 := Lib.hid (HB2.out.grown hgrow3 HB2.out.size (fun i hi => (HO2.out.lt i hi).1)); have HO3 := Lib.hid hown3; clear hown3 hgrow3))
            all_goals obtain ⟨ho3, hb3⟩ := HFin.out v3 w3 HO3.out HB3.out
            all_goals have HO4 := Lib.hid ho3
            all_goals have HB4 := Lib.hid hb3
            all_goals clear ho3 hb3
            all_goals go_wp2_with fail
            all_goals refine (HTL2.out v3 _ _ HO4.out.rd).mono ?_
            all_goals rintro e w4 ⟨rfl, hb⟩
            all_goals have HO5 := Lib.hid (HO4.out.below hb)
            all_goals have HB5 := Lib.hid (HB4.out.trans (hb.mono HB4.out.size))
            all_goals clear hb
            all_goals cases hmb : mgB xs [⟨xt, xn, xk, xm⟩]
            all_goals have HMB := Lib.hid hmb
            all_goals have HSl : Hid (tsB (slot xs ⟨xt, xn, xk, xm⟩ 0) = _) := Lib.hid (HAT.out.1.trans hmb)
            all_goals rw [HSl.out]
            all_goals go_wp2
            all_goals first | (refine bodyPost_ret (v := (.tuple #[.slice (some ⟨w4.heap.size, 0, none⟩) 0 0, .bool false])) (by simp [results, Tryz.results13, go_sem, *]) rfl ?_; exact ⟨_, by rw [hmb], by rw [mgL_no hmb]; exact (OwEv.nilLit w4).base HB5.out.size, HB5.out.trans ((below_alloc1 _ _).mono HB5.out.size)⟩) | (refine bodyPost_ret (v := (.tuple #[v3, .bool true])) (by simp [results, Tryz.results13, go_sem, *]) rfl ?_; exact ⟨_, by rw [hmb], by rw [HAT.out.2 hmb]; exact HO5.out, HB5.out⟩)
      · obtain ⟨m, hm⟩ : ∃ m : Nat, k = m + 1 := ⟨k - 1, by omega⟩
        have hml : m < xs.length := by omega
        obtain rfl := HP.out (by omega)
        obtain ⟨y, hy⟩ : ∃ y, xs[m] = y := ⟨_, rfl⟩
        have HY : Hid (xs[m]? = some y) := Lib.hid (by rw [List.getElem?_eq_getElem hml, hy])
        obtain ⟨d0, d1, d2, d3⟩ := HC.out m hml
        rw [hy] at d0 d1 d2 d3
        clear hy d1 d2 d3
        have d0 := cell_on HWr.out d0
        obtain ⟨yt, yn, yk, ym⟩ := y
        have hm1 : (0 : Int) < (k : Int) := by omega
        have hm2 : (m : Int) < (xs.length : Int) := by omega
        have hm3 : IntKind.i64.wrap ((k : Int) - 1) = (m : Int) := by rw [IntKind.wrap_i64]; omega
        have hm4 : (k : Int) - 1 = (m : Int) := by omega
        have hm5 : IntKind.i64.wrap (m : Int) = (m : Int) := by rw [IntKind.wrap_i64]; omega
        have hm6 : (0 : Int) ≤ (m : Int) := by omega
        have hm7 : 0 < k := by omega
        by_cases hgt : xt < yt
        · have HM := Lib.hid hm; clear hm
          go_wp2_with fail
          go_quiet (fail)
          go_wp2
          go_roundw
          case rel => exact ⟨m, by omega, by first | rfl | go_num, Lib.hid (fun z hz => by rw [HY.out] at hz; cases hz; exact hgt), Lib.hid (below_drewN HBk.out _)⟩
          case measure => simp [intOf]; have := HM.out; omega
        · have hgt2 : decide (xt < yt) = false := decide_eq_false hgt
          have HAT := Lib.hid (HAT0.out k (fun z _ hz => by rw [hm, Nat.add_sub_cancel, HY.out] at hz; cases hz; exact Int.not_lt.1 hgt) HK.out hk)
          have HM := Lib.hid hm; clear hm
          have hcells : ∀ j u, (xs.flatMap Ev.cells)[j]? = some u → w.cell? ((⟨b, off, none⟩ : Addr).add j) = some u := by
            rcases HSrc0.out.source with ⟨hv, hz, hnil⟩ | ⟨a, cap', hv, hcap2, hcells⟩
            · omega
            · simp only [Value.slice.injEq, Option.some.injEq] at hv
              obtain ⟨rfl, _, _⟩ := hv
              exact hcells
          have hkc : (k : Int) ≤ cap := by omega
          have hkx : (k : Int) ≤ xs.length := by omega
          by_cases hke : cap = k
          · go_wp2_with fail
            go_quiet (fail)
            have HXA := Lib.hid (below_drewN (Below.refl wr.heap.size wr) nq)
            generalize wr.drewN nq = wX at *
            have HWX : Hid (Below w.heap.size w wX) := Lib.hid (HWr.out.trans (HXA.out.mono HWr.out.size))
            have HTL : Hid (((xs.take k).flatMap Ev.cells).length = k * 4) := Lib.hid (by rw [flatEv_len, List.length_take]; omega)
            have HDL : Hid (((xs.drop k).flatMap Ev.cells).length = (xs.length - k) * 4) := Lib.hid (by rw [flatEv_len, List.length_drop])
            have HT1 : Hid (∀ u ∈ ((xs.take k).flatMap Ev.cells), u.oneCell' = true) := Lib.hid (evOne _)
            have HD1 : Hid (∀ u ∈ ((xs.drop k).flatMap Ev.cells), u.oneCell' = true) := Lib.hid (evOne _)
            have HV1 : Hid (∀ u ∈ ([.int .i64 xt, .int .i64 xn, .int .i64 xk, .int .i64 xm] : List Value), u.oneCell' = true) := Lib.hid (by intro u hu; simp at hu; rcases hu with rfl | rfl | rfl | rfl <;> rfl)
            have HSrc : Hid (∀ X : World, Below wX.heap.size wX X → 0 < k → ∃ ad, (some ⟨b, off, none⟩ : Option Addr) = some ad ∧ ∀ i u, ((xs.take k).flatMap Ev.cells)[i]? = some u → X.cell? (ad.add i) = some u) := Lib.hid (fun X hX hm => ⟨_, rfl, fun i u hu => cell_on hX (cell_on HWX.out (hcells _ _ (by rw [flatEv_take] at hu; exact get_takeS hu)))⟩)
            have HSrd : Hid (∀ X : World, Below wX.heap.size wX X → 0 < xs.length - k → ∃ ad, (some ⟨b, off, none⟩ : Option Addr) = some ad ∧ ∀ i u, ((xs.drop k).flatMap Ev.cells)[i]? = some u → X.cell? (ad.add i) = some u) := Lib.hid (fun X hX hm => by omega)
            have HE1 : Hid ((wX.alloc (.cells #[] 25)).drew.ownsRow wX.heap.size 25 4 (.slice (some ⟨wX.heap.size, 0, none⟩) 0 0) 0 []) := Lib.hid (World.ownsRow_lit wX #[] 0 (Nat.le_refl _) (Nat.zero_le _) rfl).drew
            have HE1b : Hid (Below wX.heap.size wX (wX.alloc (.cells #[] 25)).drew) := Lib.hid (below_alloc1 _ _).drew
            have HE2 : Hid (((wX.alloc (.cells #[] 25)).alloc (.cells #[.int .i64 xt, .int .i64 xn, .int .i64 xk, .int .i64 xm] 25)).drew.ownsRow wX.heap.size 25 4 (.slice (some ⟨wX.heap.size, 0, none⟩) 0 0) 0 []) := Lib.hid (HE1.out.alloc _)
            have HE2b : Hid (Below wX.heap.size wX ((wX.alloc (.cells #[] 25)).alloc (.cells #[.int .i64 xt, .int .i64 xn, .int .i64 xk, .int .i64 xm] 25)).drew) := Lib.hid (Below.drew (by go_grown))
            have HE3 : Hid (((wX.alloc (.cells #[.int .i64 xt, .int .i64 xn, .int .i64 xk, .int .i64 xm] 25)).alloc (.cells #[] 25)).drew.ownsRow wX.heap.size 25 4 (.slice (some ⟨wX.heap.size + 1, 0, none⟩) 0 0) 0 []) := Lib.hid (by have h := (World.ownsRow_lit (base := wX.heap.size) (e := 25) (size := 4) (wX.alloc (.cells #[.int .i64 xt, .int .i64 xn, .int .i64 xk, .int .i64 xm] 25)) #[] 0 (by simp) (Nat.zero_le _) rfl).drew; simpa using h)
            have HE3b : Hid (Below wX.heap.size wX ((wX.alloc (.cells #[.int .i64 xt, .int .i64 xn, .int .i64 xk, .int .i64 xm] 25)).alloc (.cells #[] 25)).drew) := Lib.hid (Below.drew (by go_grown))
            have HE2n : Hid (∀ i u, ([.int .i64 xt, .int .i64 xn, .int .i64 xk, .int .i64 xm] : List Value)[i]? = some u → ((wX.alloc (.cells #[] 25)).alloc (.cells #[.int .i64 xt, .int .i64 xn, .int .i64 xk, .int .i64 xm] 25)).drew.cell? ((⟨wX.heap.size + 1, 0, none⟩ : Addr).add i) = some u) := Lib.hid (World.news_of_block (heap_alloc2_new wX _ _))
            have HE3n : Hid (∀ i u, ([.int .i64 xt, .int .i64 xn, .int .i64 xk, .int .i64 xm] : List Value)[i]? = some u → ((wX.alloc (.cells #[.int .i64 xt, .int .i64 xn, .int .i64 xk, .int .i64 xm] 25)).alloc (.cells #[] 25)).drew.cell? ((⟨wX.heap.size, 0, none⟩ : Addr).add i) = some u) := Lib.hid (fun i u hu => cell_on (Below.drew (below_alloc1 _ _)) (World.news_of_block (heap_alloc_new wX (.cells #[.int .i64 xt, .int .i64 xn, .int .i64 xk, .int .i64 xm] 25)) i u hu))
            have HFin : Hid (∀ v3 w3, w3.ownsRow wX.heap.size 25 4 v3 (k + 1 + (xs.length - k)) (((xs.take k).flatMap Ev.cells) ++ [.int .i64 xt, .int .i64 xn, .int .i64 xk, .int .i64 xm] ++ ((xs.drop k).flatMap Ev.cells)) → Below wX.heap.size wX w3 → OwEv w.heap.size w3 v3 (slot xs ⟨xt, xn, xk, xm⟩ k) ∧ Below w.heap.size w w3) := Lib.hid (by
              intro v3 w3 h3 hb3
              have h := own_base h3 HWX.out.size
              have e : ((xs.take k).flatMap Ev.cells) ++ [.int .i64 xt, .int .i64 xn, .int .i64 xk, .int .i64 xm] ++ ((xs.drop k).flatMap Ev.cells) = (slot xs ⟨xt, xn, xk, xm⟩ k).flatMap Ev.cells := by rw [slot, List.flatMap_append, List.flatMap_cons, List.append_assoc]
              rw [e] at h
              refine ⟨⟨?_, by rw [slot_len]; omega⟩, HWX.out.trans (hb3.mono HWX.out.size)⟩
              rw [slot_len, show xs.length + 1 = k + 1 + (xs.length - k) by omega]; exact h)
            have e0 := cell_on HXA.out e0
            have e1 := cell_on HXA.out e1
            have e2 := cell_on HXA.out e2
            have e3 := cell_on HXA.out e3
            have g0 := cell_on (below_alloc1 wX (.cells #[] 25)) e0
            have g1 := cell_on (below_alloc1 wX (.cells #[] 25)) e1
            have g2 := cell_on (below_alloc1 wX (.cells #[] 25)) e2
            have g3 := cell_on (below_alloc1 wX (.cells #[] 25)) e3
            have hkm : 0 + k ≤ maxLen := by unfold maxLen; omega
            have hkm2 : k + 1 ≤ maxLen := by unfold maxLen; omega
            have hkm3 : k + 1 + (xs.length - k) ≤ maxLen := by unfold maxLen; omega
            go_wp2_with fail
            go_region_law (first | ((refine step_appK _ rfl (.tmp 29) (.tmp 32) 32 rfl wX.heap.size 25 i0 (.agg #[.int .i64 0, .int .i64 0, .int .i64 0, .int .i64 0]) 4 32 Tryz.underlying32 hi hz0 hz1 hz2 rfl (by decide) (.slice (some ⟨wX.heap.size, 0, none⟩) 0 0) 0 [] (by simp [Act.eval]) HE1.out (some ⟨b, off, none⟩) k (cap) ((xs.take k).flatMap Ev.cells) (by simp [Act.eval] <;> omega) HTL.out (HSrc.out _ HE1b.out) (fun e => by cases e) HT1.out hkm (by omega) HE1b.out.size ?_); intro v1 w1 hown1 hgrow1; have HB1 : Hid (Below wX.heap.size wX w1) := Lib.hid (HE1b.out.grown hgrow1 HE1b.out.size (fun i hi => (HE1.out.lt i hi).1)); have HO1 : Hid (w1.ownsRow wX.heap.size 25 4 v1 k ((xs.take k).flatMap Ev.cells)) := Lib.hid (by simpa using hown1); have e0 := cell_on HB1.out e0; have e1 := cell_on HB1.out e1; have e2 := cell_on HB1.out e2; have e3 := cell_on HB1.out e3; have HO1L := Lib.hid (HO1.out.alloc (.cells #[.int .i64 xt, .int .i64 xn, .int .i64 xk, .int .i64 xm] 25)); have HB1L := Lib.hid (HB1.out.trans ((below_alloc1 w1 (.cells #[.int .i64 xt, .int .i64 xn, .int .i64 xk, .int .i64 xm] 25)).mono HB1.out.size)); have HSn := Lib.hid (World.news_of_block (heap_alloc_new w1 (.cells #[.int .i64 xt, .int .i64 xn, .int .i64 xk, .int .i64 xm] 25))); clear hown1 hgrow1) | ((refine step_appK _ rfl (.tmp 29) (.tmp 32) 32 rfl wX.heap.size 25 i0 (.agg #[.int .i64 0, .int .i64 0, .int .i64 0, .int .i64 0]) 4 32 Tryz.underlying32 hi hz0 hz1 hz2 rfl (by decide) (.slice (some ⟨wX.heap.size, 0, none⟩) 0 0) 0 [] (by simp [Act.eval]) HE2.out (some ⟨b, off, none⟩) k (cap) ((xs.take k).flatMap Ev.cells) (by simp [Act.eval] <;> omega) HTL.out (HSrc.out _ HE2b.out) (fun e => by cases e) HT1.out hkm (by omega) HE2b.out.size ?_); intro v1 w1 hown1 hgrow1; have HB1 : Hid (Below wX.heap.size wX w1) := Lib.hid (HE2b.out.grown hgrow1 HE2b.out.size (fun i hi => (HE2.out.lt i hi).1)); have HO1 : Hid (w1.ownsRow wX.heap.size 25 4 v1 k ((xs.take k).flatMap Ev.cells)) := Lib.hid (by simpa using hown1); have HSn : Hid (∀ i u, ([.int .i64 xt, .int .i64 xn, .int .i64 xk, .int .i64 xm] : List Value)[i]? = some u → w1.cell? ((⟨wX.heap.size + 1, 0, none⟩ : Addr).add i) = some u) := Lib.hid (fun i u hiu => by rw [add_at]; exact hgrow1.cell (by rw [← add_at]; exact HE2n.out i u hiu) (by intro e; have := Option.some.inj e; simp at this)); clear hown1 hgrow1) | ((refine step_appK _ rfl (.tmp 29) (.tmp 32) 32 rfl wX.heap.size 25 i0 (.agg #[.int .i64 0, .int .i64 0, .int .i64 0, .int .i64 0]) 4 32 Tryz.underlying32 hi hz0 hz1 hz2 rfl (by decide) (.slice (some ⟨wX.heap.size + 1, 0, none⟩) 0 0) 0 [] (by simp [Act.eval]) HE3.out (some ⟨b, off, none⟩) k (cap) ((xs.take k).flatMap Ev.cells) (by simp [Act.eval] <;> omega) HTL.out (HSrc.out _ HE3b.out) (fun e => by cases e) HT1.out hkm (by omega) HE3b.out.size ?_); intro v1 w1 hown1 hgrow1; have HB1 : Hid (Below wX.heap.size wX w1) := Lib.hid (HE3b.out.grown hgrow1 HE3b.out.size (fun i hi => (HE3.out.lt i hi).1)); have HO1 : Hid (w1.ownsRow wX.heap.size 25 4 v1 k ((xs.take k).flatMap Ev.cells)) := Lib.hid (by simpa using hown1); have HSn : Hid (∀ i u, ([.int .i64 xt, .int .i64 xn, .int .i64 xk, .int .i64 xm] : List Value)[i]? = some u → w1.cell? ((⟨wX.heap.size, 0, none⟩ : Addr).add i) = some u) := Lib.hid (fun i u hiu => by rw [add_at]; exact hgrow1.cell (by rw [← add_at]; exact HE3n.out i u hiu) (by intro e; have := Option.some.inj e; simp at this)); clear hown1 hgrow1) | ((refine step_appK _ rfl (.tmp 33) (.tmp 35) 32 rfl wX.heap.size 25 i0 (.agg #[.int .i64 0, .int .i64 0, .int .i64 0, .int .i64 0]) 4 32 Tryz.underlying32 hi hz0 hz1 hz2 rfl (by decide) v1 k _ (by simp [Act.eval]) HO1L.out (some ⟨w1.heap.size, 0, none⟩) 1 1 [.int .i64 xt, .int .i64 xn, .int .i64 xk, .int .i64 xm] (by simp [Act.eval]) rfl (fun _ => ⟨_, rfl, HSn.out⟩) (fun e => by cases e) HV1.out hkm2 (by omega) HB1L.out.size ?_); intro v2 w2 hown2 hgrow2; have HB2 := Lib.hid (HB1L.out.grown hgrow2 HB1L.out.size (fun i hi => (HO1L.out.lt i hi).1)); have HO2 := Lib.hid hown2; clear hown2 hgrow2) | ((refine step_appK _ rfl (.tmp 33) (.tmp 35) 32 rfl wX.heap.size 25 i0 (.agg #[.int .i64 0, .int .i64 0, .int .i64 0, .int .i64 0]) 4 32 Tryz.underlying32 hi hz0 hz1 hz2 rfl (by decide) v1 k _ (by simp [Act.eval]) HO1.out (some ⟨wX.heap.size + 1, 0, none⟩) 1 1 [.int .i64 xt, .int .i64 xn, .int .i64 xk, .int .i64 xm] (by simp [Act.eval]) rfl (fun _ => ⟨_, rfl, HSn.out⟩) (fun e => by cases e) HV1.out hkm2 (by omega) HB1.out.size ?_); intro v2 w2 hown2 hgrow2; have HB2 := Lib.hid (HB1.out.grown hgrow2 HB1.out.size (fun i hi => (HO1.out.lt i hi).1)); have HO2 := Lib.hid hown2; clear hown2 hgrow2) | ((refine step_appK _ rfl (.tmp 33) (.tmp 35) 32 rfl wX.heap.size 25 i0 (.agg #[.int .i64 0, .int .i64 0, .int .i64 0, .int .i64 0]) 4 32 Tryz.underlying32 hi hz0 hz1 hz2 rfl (by decide) v1 k _ (by simp [Act.eval]) HO1.out (some ⟨wX.heap.size, 0, none⟩) 1 1 [.int .i64 xt, .int .i64 xn, .int .i64 xk, .int .i64 xm] (by simp [Act.eval]) rfl (fun _ => ⟨_, rfl, HSn.out⟩) (fun e => by cases e) HV1.out hkm2 (by omega) HB1.out.size ?_); intro v2 w2 hown2 hgrow2; have HB2 := Lib.hid (HB1.out.grown hgrow2 HB1.out.size (fun i hi => (HO1.out.lt i hi).1)); have HO2 := Lib.hid hown2; clear hown2 hgrow2) | ((refine step_appK _ rfl (.tmp 36) (.tmp 39) 32 rfl wX.heap.size 25 i0 (.agg #[.int .i64 0, .int .i64 0, .int .i64 0, .int .i64 0]) 4 32 Tryz.underlying32 hi hz0 hz1 hz2 rfl (by decide) v2 (k + 1) _ (by simp [Act.eval]) HO2.out (some ⟨b, off, none⟩) (xs.length - k) (cap - k) ((xs.drop k).flatMap Ev.cells) (by simp [Act.eval] <;> omega) HDL.out (HSrd.out _ HB2.out) (fun e => by cases e) HD1.out hkm3 (by omega) HB2.out.size ?_); intro v3 w3 hown3 hgrow3; have HB3 := Lib.hid (HB2.out.grown hgrow3 HB2.out.size (fun i hi => (HO2.out.lt i hi).1)); have HO3 := Lib.hid hown3; clear hown3 hgrow3))
            all_goals obtain ⟨ho3, hb3⟩ := HFin.out v3 w3 HO3.out HB3.out
            all_goals have HO4 := Lib.hid ho3
            all_goals have HB4 := Lib.hid hb3
            all_goals clear ho3 hb3
            all_goals go_wp2_with fail
            all_goals refine (HTL2.out v3 _ _ HO4.out.rd).mono ?_
            all_goals rintro e w4 ⟨rfl, hb⟩
            all_goals have HO5 := Lib.hid (HO4.out.below hb)
            all_goals have HB5 := Lib.hid (HB4.out.trans (hb.mono HB4.out.size))
            all_goals clear hb
            all_goals cases hmb : mgB xs [⟨xt, xn, xk, xm⟩]
            all_goals have HMB := Lib.hid hmb
            all_goals have HSl : Hid (tsB (slot xs ⟨xt, xn, xk, xm⟩ k) = _) := Lib.hid (HAT.out.1.trans hmb)
            all_goals rw [HSl.out]
            all_goals go_wp2
            all_goals first | (refine bodyPost_ret (v := (.tuple #[.slice (some ⟨w4.heap.size, 0, none⟩) 0 0, .bool false])) (by simp [results, Tryz.results13, go_sem, *]) rfl ?_; exact ⟨_, by rw [hmb], by rw [mgL_no hmb]; exact (OwEv.nilLit w4).base HB5.out.size, HB5.out.trans ((below_alloc1 _ _).mono HB5.out.size)⟩) | (refine bodyPost_ret (v := (.tuple #[v3, .bool true])) (by simp [results, Tryz.results13, go_sem, *]) rfl ?_; exact ⟨_, by rw [hmb], by rw [HAT.out.2 hmb]; exact HO5.out, HB5.out⟩)
          · go_wp2_with fail
            go_quiet (fail)
            have HXA := Lib.hid (below_drewN (Below.refl wr.heap.size wr) nq)
            generalize wr.drewN nq = wX at *
            have HWX : Hid (Below w.heap.size w wX) := Lib.hid (HWr.out.trans (HXA.out.mono HWr.out.size))
            have HTL : Hid (((xs.take k).flatMap Ev.cells).length = k * 4) := Lib.hid (by rw [flatEv_len, List.length_take]; omega)
            have HDL : Hid (((xs.drop k).flatMap Ev.cells).length = (xs.length - k) * 4) := Lib.hid (by rw [flatEv_len, List.length_drop])
            have HT1 : Hid (∀ u ∈ ((xs.take k).flatMap Ev.cells), u.oneCell' = true) := Lib.hid (evOne _)
            have HD1 : Hid (∀ u ∈ ((xs.drop k).flatMap Ev.cells), u.oneCell' = true) := Lib.hid (evOne _)
            have HV1 : Hid (∀ u ∈ ([.int .i64 xt, .int .i64 xn, .int .i64 xk, .int .i64 xm] : List Value), u.oneCell' = true) := Lib.hid (by intro u hu; simp at hu; rcases hu with rfl | rfl | rfl | rfl <;> rfl)
            have HSrc : Hid (∀ X : World, Below wX.heap.size wX X → 0 < k → ∃ ad, (some ⟨b, off, none⟩ : Option Addr) = some ad ∧ ∀ i u, ((xs.take k).flatMap Ev.cells)[i]? = some u → X.cell? (ad.add i) = some u) := Lib.hid (fun X hX hm => ⟨_, rfl, fun i u hu => cell_on hX (cell_on HWX.out (hcells _ _ (by rw [flatEv_take] at hu; exact get_takeS hu)))⟩)
            have HSrd : Hid (∀ X : World, Below wX.heap.size wX X → 0 < xs.length - k → ∃ ad, (some ⟨b, off + k * 4, none⟩ : Option Addr) = some ad ∧ ∀ i u, ((xs.drop k).flatMap Ev.cells)[i]? = some u → X.cell? (ad.add i) = some u) := Lib.hid (fun X hX hm => ⟨_, rfl, fun i u hu => by rw [show (⟨b, off + k * 4, none⟩ : Addr) = (⟨b, off, none⟩ : Addr).add (k * 4) from by rw [add_at], Addr.add_add]; exact cell_on hX (cell_on HWX.out (hcells _ _ (by rw [flatEv_drop, List.getElem?_drop] at hu; exact hu)))⟩)
            have HE1 : Hid ((wX.alloc (.cells #[] 25)).drew.ownsRow wX.heap.size 25 4 (.slice (some ⟨wX.heap.size, 0, none⟩) 0 0) 0 []) := Lib.hid (World.ownsRow_lit wX #[] 0 (Nat.le_refl _) (Nat.zero_le _) rfl).drew
            have HE1b : Hid (Below wX.heap.size wX (wX.alloc (.cells #[] 25)).drew) := Lib.hid (below_alloc1 _ _).drew
            have HE2 : Hid (((wX.alloc (.cells #[] 25)).alloc (.cells #[.int .i64 xt, .int .i64 xn, .int .i64 xk, .int .i64 xm] 25)).drew.ownsRow wX.heap.size 25 4 (.slice (some ⟨wX.heap.size, 0, none⟩) 0 0) 0 []) := Lib.hid (HE1.out.alloc _)
            have HE2b : Hid (Below wX.heap.size wX ((wX.alloc (.cells #[] 25)).alloc (.cells #[.int .i64 xt, .int .i64 xn, .int .i64 xk, .int .i64 xm] 25)).drew) := Lib.hid (Below.drew (by go_grown))
            have HE3 : Hid (((wX.alloc (.cells #[.int .i64 xt, .int .i64 xn, .int .i64 xk, .int .i64 xm] 25)).alloc (.cells #[] 25)).drew.ownsRow wX.heap.size 25 4 (.slice (some ⟨wX.heap.size + 1, 0, none⟩) 0 0) 0 []) := Lib.hid (by have h := (World.ownsRow_lit (base := wX.heap.size) (e := 25) (size := 4) (wX.alloc (.cells #[.int .i64 xt, .int .i64 xn, .int .i64 xk, .int .i64 xm] 25)) #[] 0 (by simp) (Nat.zero_le _) rfl).drew; simpa using h)
            have HE3b : Hid (Below wX.heap.size wX ((wX.alloc (.cells #[.int .i64 xt, .int .i64 xn, .int .i64 xk, .int .i64 xm] 25)).alloc (.cells #[] 25)).drew) := Lib.hid (Below.drew (by go_grown))
            have HE2n : Hid (∀ i u, ([.int .i64 xt, .int .i64 xn, .int .i64 xk, .int .i64 xm] : List Value)[i]? = some u → ((wX.alloc (.cells #[] 25)).alloc (.cells #[.int .i64 xt, .int .i64 xn, .int .i64 xk, .int .i64 xm] 25)).drew.cell? ((⟨wX.heap.size + 1, 0, none⟩ : Addr).add i) = some u) := Lib.hid (World.news_of_block (heap_alloc2_new wX _ _))
            have HE3n : Hid (∀ i u, ([.int .i64 xt, .int .i64 xn, .int .i64 xk, .int .i64 xm] : List Value)[i]? = some u → ((wX.alloc (.cells #[.int .i64 xt, .int .i64 xn, .int .i64 xk, .int .i64 xm] 25)).alloc (.cells #[] 25)).drew.cell? ((⟨wX.heap.size, 0, none⟩ : Addr).add i) = some u) := Lib.hid (fun i u hu => cell_on (Below.drew (below_alloc1 _ _)) (World.news_of_block (heap_alloc_new wX (.cells #[.int .i64 xt, .int .i64 xn, .int .i64 xk, .int .i64 xm] 25)) i u hu))
            have HFin : Hid (∀ v3 w3, w3.ownsRow wX.heap.size 25 4 v3 (k + 1 + (xs.length - k)) (((xs.take k).flatMap Ev.cells) ++ [.int .i64 xt, .int .i64 xn, .int .i64 xk, .int .i64 xm] ++ ((xs.drop k).flatMap Ev.cells)) → Below wX.heap.size wX w3 → OwEv w.heap.size w3 v3 (slot xs ⟨xt, xn, xk, xm⟩ k) ∧ Below w.heap.size w w3) := Lib.hid (by
              intro v3 w3 h3 hb3
              have h := own_base h3 HWX.out.size
              have e : ((xs.take k).flatMap Ev.cells) ++ [.int .i64 xt, .int .i64 xn, .int .i64 xk, .int .i64 xm] ++ ((xs.drop k).flatMap Ev.cells) = (slot xs ⟨xt, xn, xk, xm⟩ k).flatMap Ev.cells := by rw [slot, List.flatMap_append, List.flatMap_cons, List.append_assoc]
              rw [e] at h
              refine ⟨⟨?_, by rw [slot_len]; omega⟩, HWX.out.trans (hb3.mono HWX.out.size)⟩
              rw [slot_len, show xs.length + 1 = k + 1 + (xs.length - k) by omega]; exact h)
            have e0 := cell_on HXA.out e0
            have e1 := cell_on HXA.out e1
            have e2 := cell_on HXA.out e2
            have e3 := cell_on HXA.out e3
            have g0 := cell_on (below_alloc1 wX (.cells #[] 25)) e0
            have g1 := cell_on (below_alloc1 wX (.cells #[] 25)) e1
            have g2 := cell_on (below_alloc1 wX (.cells #[] 25)) e2
            have g3 := cell_on (below_alloc1 wX (.cells #[] 25)) e3
            have hkm : 0 + k ≤ maxLen := by unfold maxLen; omega
            have hkm2 : k + 1 ≤ maxLen := by unfold maxLen; omega
            have hkm3 : k + 1 + (xs.length - k) ≤ maxLen := by unfold maxLen; omega
            go_wp2_with fail
            go_region_law (first | ((refine step_appK _ rfl (.tmp 29) (.tmp 32) 32 rfl wX.heap.size 25 i0 (.agg #[.int .i64 0, .int .i64 0, .int .i64 0, .int .i64 0]) 4 32 Tryz.underlying32 hi hz0 hz1 hz2 rfl (by decide) (.slice (some ⟨wX.heap.size, 0, none⟩) 0 0) 0 [] (by simp [Act.eval]) HE1.out (some ⟨b, off, none⟩) k (cap) ((xs.take k).flatMap Ev.cells) (by simp [Act.eval] <;> omega) HTL.out (HSrc.out _ HE1b.out) (fun e => by cases e) HT1.out hkm (by omega) HE1b.out.size ?_); intro v1 w1 hown1 hgrow1; have HB1 : Hid (Below wX.heap.size wX w1) := Lib.hid (HE1b.out.grown hgrow1 HE1b.out.size (fun i hi => (HE1.out.lt i hi).1)); have HO1 : Hid (w1.ownsRow wX.heap.size 25 4 v1 k ((xs.take k).flatMap Ev.cells)) := Lib.hid (by simpa using hown1); have e0 := cell_on HB1.out e0; have e1 := cell_on HB1.out e1; have e2 := cell_on HB1.out e2; have e3 := cell_on HB1.out e3; have HO1L := Lib.hid (HO1.out.alloc (.cells #[.int .i64 xt, .int .i64 xn, .int .i64 xk, .int .i64 xm] 25)); have HB1L := Lib.hid (HB1.out.trans ((below_alloc1 w1 (.cells #[.int .i64 xt, .int .i64 xn, .int .i64 xk, .int .i64 xm] 25)).mono HB1.out.size)); have HSn := Lib.hid (World.news_of_block (heap_alloc_new w1 (.cells #[.int .i64 xt, .int .i64 xn, .int .i64 xk, .int .i64 xm] 25))); clear hown1 hgrow1) | ((refine step_appK _ rfl (.tmp 29) (.tmp 32) 32 rfl wX.heap.size 25 i0 (.agg #[.int .i64 0, .int .i64 0, .int .i64 0, .int .i64 0]) 4 32 Tryz.underlying32 hi hz0 hz1 hz2 rfl (by decide) (.slice (some ⟨wX.heap.size, 0, none⟩) 0 0) 0 [] (by simp [Act.eval]) HE2.out (some ⟨b, off, none⟩) k (cap) ((xs.take k).flatMap Ev.cells) (by simp [Act.eval] <;> omega) HTL.out (HSrc.out _ HE2b.out) (fun e => by cases e) HT1.out hkm (by omega) HE2b.out.size ?_); intro v1 w1 hown1 hgrow1; have HB1 : Hid (Below wX.heap.size wX w1) := Lib.hid (HE2b.out.grown hgrow1 HE2b.out.size (fun i hi => (HE2.out.lt i hi).1)); have HO1 : Hid (w1.ownsRow wX.heap.size 25 4 v1 k ((xs.take k).flatMap Ev.cells)) := Lib.hid (by simpa using hown1); have HSn : Hid (∀ i u, ([.int .i64 xt, .int .i64 xn, .int .i64 xk, .int .i64 xm] : List Value)[i]? = some u → w1.cell? ((⟨wX.heap.size + 1, 0, none⟩ : Addr).add i) = some u) := Lib.hid (fun i u hiu => by rw [add_at]; exact hgrow1.cell (by rw [← add_at]; exact HE2n.out i u hiu) (by intro e; have := Option.some.inj e; simp at this)); clear hown1 hgrow1) | ((refine step_appK _ rfl (.tmp 29) (.tmp 32) 32 rfl wX.heap.size 25 i0 (.agg #[.int .i64 0, .int .i64 0, .int .i64 0, .int .i64 0]) 4 32 Tryz.underlying32 hi hz0 hz1 hz2 rfl (by decide) (.slice (some ⟨wX.heap.size + 1, 0, none⟩) 0 0) 0 [] (by simp [Act.eval]) HE3.out (some ⟨b, off, none⟩) k (cap) ((xs.take k).flatMap Ev.cells) (by simp [Act.eval] <;> omega) HTL.out (HSrc.out _ HE3b.out) (fun e => by cases e) HT1.out hkm (by omega) HE3b.out.size ?_); intro v1 w1 hown1 hgrow1; have HB1 : Hid (Below wX.heap.size wX w1) := Lib.hid (HE3b.out.grown hgrow1 HE3b.out.size (fun i hi => (HE3.out.lt i hi).1)); have HO1 : Hid (w1.ownsRow wX.heap.size 25 4 v1 k ((xs.take k).flatMap Ev.cells)) := Lib.hid (by simpa using hown1); have HSn : Hid (∀ i u, ([.int .i64 xt, .int .i64 xn, .int .i64 xk, .int .i64 xm] : List Value)[i]? = some u → w1.cell? ((⟨wX.heap.size, 0, none⟩ : Addr).add i) = some u) := Lib.hid (fun i u hiu => by rw [add_at]; exact hgrow1.cell (by rw [← add_at]; exact HE3n.out i u hiu) (by intro e; have := Option.some.inj e; simp at this)); clear hown1 hgrow1) | ((refine step_appK _ rfl (.tmp 33) (.tmp 35) 32 rfl wX.heap.size 25 i0 (.agg #[.int .i64 0, .int .i64 0, .int .i64 0, .int .i64 0]) 4 32 Tryz.underlying32 hi hz0 hz1 hz2 rfl (by decide) v1 k _ (by simp [Act.eval]) HO1L.out (some ⟨w1.heap.size, 0, none⟩) 1 1 [.int .i64 xt, .int .i64 xn, .int .i64 xk, .int .i64 xm] (by simp [Act.eval]) rfl (fun _ => ⟨_, rfl, HSn.out⟩) (fun e => by cases e) HV1.out hkm2 (by omega) HB1L.out.size ?_); intro v2 w2 hown2 hgrow2; have HB2 := Lib.hid (HB1L.out.grown hgrow2 HB1L.out.size (fun i hi => (HO1L.out.lt i hi).1)); have HO2 := Lib.hid hown2; clear hown2 hgrow2) | ((refine step_appK _ rfl (.tmp 33) (.tmp 35) 32 rfl wX.heap.size 25 i0 (.agg #[.int .i64 0, .int .i64 0, .int .i64 0, .int .i64 0]) 4 32 Tryz.underlying32 hi hz0 hz1 hz2 rfl (by decide) v1 k _ (by simp [Act.eval]) HO1.out (some ⟨wX.heap.size + 1, 0, none⟩) 1 1 [.int .i64 xt, .int .i64 xn, .int .i64 xk, .int .i64 xm] (by simp [Act.eval]) rfl (fun _ => ⟨_, rfl, HSn.out⟩) (fun e => by cases e) HV1.out hkm2 (by omega) HB1.out.size ?_); intro v2 w2 hown2 hgrow2; have HB2 := Lib.hid (HB1.out.grown hgrow2 HB1.out.size (fun i hi => (HO1.out.lt i hi).1)); have HO2 := Lib.hid hown2; clear hown2 hgrow2) | ((refine step_appK _ rfl (.tmp 33) (.tmp 35) 32 rfl wX.heap.size 25 i0 (.agg #[.int .i64 0, .int .i64 0, .int .i64 0, .int .i64 0]) 4 32 Tryz.underlying32 hi hz0 hz1 hz2 rfl (by decide) v1 k _ (by simp [Act.eval]) HO1.out (some ⟨wX.heap.size, 0, none⟩) 1 1 [.int .i64 xt, .int .i64 xn, .int .i64 xk, .int .i64 xm] (by simp [Act.eval]) rfl (fun _ => ⟨_, rfl, HSn.out⟩) (fun e => by cases e) HV1.out hkm2 (by omega) HB1.out.size ?_); intro v2 w2 hown2 hgrow2; have HB2 := Lib.hid (HB1.out.grown hgrow2 HB1.out.size (fun i hi => (HO1.out.lt i hi).1)); have HO2 := Lib.hid hown2; clear hown2 hgrow2) | ((refine step_appK _ rfl (.tmp 36) (.tmp 39) 32 rfl wX.heap.size 25 i0 (.agg #[.int .i64 0, .int .i64 0, .int .i64 0, .int .i64 0]) 4 32 Tryz.underlying32 hi hz0 hz1 hz2 rfl (by decide) v2 (k + 1) _ (by simp [Act.eval]) HO2.out (some ⟨b, off + k * 4, none⟩) (xs.length - k) (cap - k) ((xs.drop k).flatMap Ev.cells) (by simp [Act.eval] <;> omega) HDL.out (HSrd.out _ HB2.out) (fun e => by cases e) HD1.out hkm3 (by omega) HB2.out.size ?_); intro v3 w3 hown3 hgrow3; have HB3 := Lib.hid (HB2.out.grown hgrow3 HB2.out.size (fun i hi => (HO2.out.lt i hi).1)); have HO3 := Lib.hid hown3; clear hown3 hgrow3))
            all_goals obtain ⟨ho3, hb3⟩ := HFin.out v3 w3 HO3.out HB3.out
            all_goals have HO4 := Lib.hid ho3
            all_goals have HB4 := Lib.hid hb3
            all_goals clear ho3 hb3
            all_goals go_wp2_with fail
            all_goals refine (HTL2.out v3 _ _ HO4.out.rd).mono ?_
            all_goals rintro e w4 ⟨rfl, hb⟩
            all_goals have HO5 := Lib.hid (HO4.out.below hb)
            all_goals have HB5 := Lib.hid (HB4.out.trans (hb.mono HB4.out.size))
            all_goals clear hb
            all_goals cases hmb : mgB xs [⟨xt, xn, xk, xm⟩]
            all_goals have HMB := Lib.hid hmb
            all_goals have HSl : Hid (tsB (slot xs ⟨xt, xn, xk, xm⟩ k) = _) := Lib.hid (HAT.out.1.trans hmb)
            all_goals rw [HSl.out]
            all_goals go_wp2
            all_goals first | (refine bodyPost_ret (v := (.tuple #[.slice (some ⟨w4.heap.size, 0, none⟩) 0 0, .bool false])) (by simp [results, Tryz.results13, go_sem, *]) rfl ?_; exact ⟨_, by rw [hmb], by rw [mgL_no hmb]; exact (OwEv.nilLit w4).base HB5.out.size, HB5.out.trans ((below_alloc1 _ _).mono HB5.out.size)⟩) | (refine bodyPost_ret (v := (.tuple #[v3, .bool true])) (by simp [results, Tryz.results13, go_sem, *]) rfl ?_; exact ⟨_, by rw [hmb], by rw [HAT.out.2 hmb]; exact HO5.out, HB5.out⟩)
end Go.Proofs.YtohbkohidpgjpaaGreatDoor
