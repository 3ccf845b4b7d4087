/- The laws' own helpers on lists of groups: copies, sizes, equal ones. -/
import Derived.Test.YtpgonlfaeejakaaDoorGr2
import Derived.Test.YtpgonlfaeejakaaDoorOpenInts
namespace Go.Proofs.YtpgonlfaeejakaaDoor
open Go.RowKit

theorem infoGr : (Tryd.prog.info? 40).map (fun i => (i.zero, i.size, i.bytes)) = some (some (.agg #[.string ⟨#[]⟩, .slice none 0 0]), 2, 40) := by kernel_rfl
theorem grown_setg (W : World) (b i : Nat) (v : Value) : W.grownBy (W.setCell ⟨b, i, none⟩ v) (some b) :=
  ⟨rfl, rfl, rfl, by simp, fun k _ hk => Below.heap_setCell _ _ _ k (fun e => hk (by rw [e]))⟩
theorem OwI.setg {W : World} {v : Value} {xs : List Int} {B b : Nat} (h : OwI B W v xs) (hb : b < B) (i : Nat) (u : Value) : OwI B (W.setCell ⟨b, i, none⟩ u) v xs :=
  h.grown (grown_setg W b i u) (.inr (fun e => by have := (h.lt b e).1; omega))
theorem row3_1 (w : World) (a b c : Obj) : (((w.alloc a).alloc b).alloc c).heap[w.heap.size + 1]? = some b := (Below.heap_alloc _ _ _ (by simp)).trans (heap_alloc2_new w a b)
theorem row3_2 (w : World) (a b c : Obj) : (((w.alloc a).alloc b).alloc c).heap[w.heap.size + 2]? = some c := by
  have := heap_alloc_new ((w.alloc a).alloc b) c
  simpa using this
set_option maxRecDepth 100000 in
set_option maxHeartbeats 2000000 in
theorem toGroup_any (nm : ByteArray) (ms : List Int) (mv : Value) (w : World) (hm : RdI w mv ms) :
    Calls Tryd.prog 18 #[.agg #[.string nm, mv]] w fun e w' => ∃ p cap, e = .returned (.agg #[.string nm, .slice p ms.length cap]) ∧ OwI w.heap.size w' (.slice p ms.length cap) ms ∧ Below w.heap.size w w' := by
  have HM := Lib.hid hm
  obtain ⟨p, cap, b, off, rfl, hcap, hp, hc⟩ := hm.parts
  clear hm hp hc
  go_enter Tryd.func18, Tryd.ntmps18
  go_wp2_with fail
  refine (toIntS_any _ ms _ (HM.out.below (by go_grown))).mono ?_
  rintro e w1 ⟨v', rfl, o1, b1⟩
  have hB := Lib.hid (Below.trans (by go_grown) (b1.mono (by simp <;> omega)) : Below w.heap.size w w1)
  have X1 : Hid (w1.heap[w.heap.size + 1]? = some (.cells #[.string ⟨#[]⟩, .slice none 0 0] 40 (0, 0))) := Lib.hid ((b1.block (w.heap.size + 1) (by simp <;> omega)).trans (row3_1 w _ _ _))
  have X2 : Hid (w1.heap[w.heap.size + 2]? = some (.cells #[.string nm, .slice none 0 0] 40 (0, 0))) := Lib.hid ((b1.block (w.heap.size + 2) (by simp <;> omega)).trans (row3_2 w _ _ _))
  have OL := Lib.hid (OwI.base o1 (B' := w.heap.size + 3) (by simp <;> omega))
  obtain ⟨p', cap', g', rfl, hcap', _⟩ := own_shape o1.1
  clear b1 o1
  have xh := X1.out; have x0 := cell_of_row w1 (w.heap.size + 1) 0 _ _ _ xh; simp at x0; have xf0 := frozen_of_row w1 (w.heap.size + 1) 0 _ _ xh; have x1 := cell_of_row w1 (w.heap.size + 1) 1 _ _ _ xh; simp at x1; have xf1 := frozen_of_row w1 (w.heap.size + 1) 1 _ _ xh; clear xh
  have yh := X2.out; have y0 := cell_of_row w1 (w.heap.size + 2) 0 _ _ _ yh; simp at y0; have yf0 := frozen_of_row w1 (w.heap.size + 2) 0 _ _ yh; have y1 := cell_of_row w1 (w.heap.size + 2) 1 _ _ _ yh; simp at y1; have yf1 := frozen_of_row w1 (w.heap.size + 2) 1 _ _ yh; clear yh
  have xl : w.heap.size + 1 < w1.heap.size := (Array.getElem?_eq_some_iff.1 X1.out).1
  have yl : w.heap.size + 2 < w1.heap.size := (Array.getElem?_eq_some_iff.1 X2.out).1
  go_wp2
  refine bodyPost_ret (v := (.agg #[.string nm, .slice p' ms.length cap'])) (by simp [results, Tryd.results18, go_sem, *]) rfl ?_
  refine ⟨p', cap', rfl, ?_, ?_⟩
  · exact ((((OL.out.setg (b := w.heap.size + 2) (by omega) _ _).setg (b := w.heap.size + 1) (by omega) _ _).setg (b := w.heap.size + 1) (by omega) _ _).base (by omega))
  · repeat refine Below.setCell ?_ (by simp <;> omega) _
    exact hB.out
set_option maxRecDepth 100000 in
set_option maxHeartbeats 1000000 in
theorem eqGroup_any (nm : ByteArray) (ms : List Int) (mv mv' : Value) (w : World) (h : RdI w mv ms) (h' : RdI w mv' ms) :
    Calls Tryd.prog 20 #[.agg #[.string nm, mv], .agg #[.string nm, mv']] w fun e w' => e = .returned (.bool true) ∧ Below w.heap.size w w' := by
  have HM := Lib.hid h
  have HM' := Lib.hid h'
  obtain ⟨p, cap, b, off, rfl, hcap, hp, hc⟩ := h.parts
  obtain ⟨p', cap', b', off', rfl, hcap', hp', hc'⟩ := h'.parts
  clear h h' hp hc hp' hc'
  go_enter Tryd.func20, Tryd.ntmps20
  go_wp2_with fail
  refine (eqI_below _ _ ms _ (HM.out.below (by go_grown)) (HM'.out.below (by go_grown))).mono ?_
  rintro e w1 ⟨rfl, b1⟩
  have hB := Lib.hid (Below.trans (by go_grown) (b1.mono (by simp <;> omega)) : Below w.heap.size w w1)
  clear b1
  go_wp2_with fail
  go_ret
  exact ⟨rfl, hB.out⟩
set_option maxRecDepth 100000 in
set_option maxHeartbeats 4000000 in
theorem toGroupS_any (v : Value) (ps : List (Gr × Value)) (w : World) (h : GrAt w v ps) :
    Calls Tryd.prog 7 #[v] w fun e w' => ∃ v' qs, e = .returned v' ∧ GrAt w' v' qs ∧ qs.map Prod.fst = ps.map Prod.fst ∧ Below w.heap.size w w' := by
  have hlen := h.2.1
  have HR := Lib.hid h.2.2
  obtain ⟨p, cap, b, off, rfl, hcap, hp, hcell⟩ := h.parts
  have HC := Lib.hid hcell; clear hcell
  have HP := Lib.hid hp; clear hp h
  obtain ⟨i0, hi, hz0, hz1, hz2⟩ := info_parts infoGr
  go_enter Tryd.func7, Tryd.ntmps7
  go_wp2_with (at_make; refine wpList_make_full _ rfl _ _ 25 rfl w.heap.size 40 i0 (.agg #[.string ⟨#[]⟩, .slice none 0 0]) 2 Tryd.underlying25 hi hz0 hz1 _ _ _ _ ps.length rfl rfl rfl rfl ?b2 ?b3 (Nat.le_refl _) ?_)
  case b2 => rw [hz2]; omega
  case b3 => unfold maxLen; omega
  intro w0 hown0 hgrow0
  go_wp2
  go_loopw [4] (fun i wr => ∃ (k : Nat) (L : List Value) (qs : List (Gr × Value)), k ≤ ps.length ∧ i = .int .i64 k ∧ wr.ownsRow w.heap.size 40 2 (.slice (some ⟨w.heap.size, 0, none⟩) ps.length ps.length) ps.length L ∧ Hid (L.take (k * 2) = qs.flatMap GrC) ∧ Hid (qs.map Prod.fst = (ps.take k).map Prod.fst) ∧ Hid (∀ q ∈ qs, q.1.nm.size ≤ 1048576 ∧ OwI (w.heap.size + 1) wr q.2 q.1.ms) ∧ Below w.heap.size w wr ∧ w.heap.size < wr.heap.size)
    (fun i _ => ps.length - (intOf i).toNat)
  case atStart => exact ⟨0, _, [], Nat.zero_le _, rfl, hown0, Lib.hid rfl, Lib.hid rfl, Lib.hid (by simp), (Below.refl _ _).grown hgrow0 (Nat.le_refl _) (fun k h => by cases h), (hown0.lt w.heap.size rfl).2⟩
  case round =>
    obtain ⟨k, L, qs, hk, rfl, hown, HL, HM, HQ, hb, hlt0⟩ := hrel
    by_cases hlt : k < ps.length
    · obtain rfl := HP.out (by omega)
      have HLl := Lib.hid hown.1
      obtain ⟨c0, c1⟩ := HC.out k hlt
      have c0 := (hb.cell (World.block_lt_of_cell? w _ c0)).trans c0
      have c1 := (hb.cell (World.block_lt_of_cell? w _ c1)).trans c1
      have hrk := HR.out ps[k] (List.getElem_mem hlt)
      obtain ⟨q, qc, _, _, hq, _, _, _⟩ := hrk.2.parts
      rw [hq] at c1
      have hrq := hrk.2.below hb
      rw [hq] at hrq
      have HNs := Lib.hid hrk.1
      have HTk : Hid ((ps.take (k + 1)).map Prod.fst = (ps.take k).map Prod.fst ++ [ps[k].1]) := Lib.hid (by rw [List.take_succ_eq_append_getElem hlt, List.map_append]; rfl)
      clear hrk hq
      generalize ps[k].1 = g at *
      obtain ⟨nm, ms⟩ := g
      have HT := Lib.hid (toGroup_any nm ms (.slice q ms.length qc) wr hrq)
      clear hrq
      go_wp2_with fail
      refine HT.out.mono ?_
      rintro e w1 ⟨pm, cm, rfl, om, hb1⟩
      have hown1 := own_below hown hb1
      have d0 : w1.cell? ⟨w.heap.size, k * 2, none⟩ = some (L[k * 2]'(by have := HLl.out; omega)) := by rw [hown1.cellAt (k * 2) (by omega), List.getElem?_eq_getElem (by have := HLl.out; omega)]
      have d1 : w1.cell? ⟨w.heap.size, k * 2 + 1, none⟩ = some (L[k * 2 + 1]'(by have := HLl.out; omega)) := by rw [hown1.cellAt (k * 2 + 1) (by omega), List.getElem?_eq_getElem (by have := HLl.out; omega)]
      have f0 := hown1.frozenAt (k * 2)
      have f1 := hown1.frozenAt (k * 2 + 1)
      have hs0 := hown1.stored (k * 2) (.string nm)
      have hs1 := hs0.1.stored (k * 2 + 1) (.slice pm ms.length cm)
      have HS0 := Lib.hid hs0.2
      have HS1 := Lib.hid hs1
      clear hs0 hs1
      have HB1 := Lib.hid hb1
      have HOm := Lib.hid om
      have HQ1 : Hid (∀ q ∈ qs, q.1.nm.size ≤ 1048576 ∧ OwI (w.heap.size + 1) w1 q.2 q.1.ms) := Lib.hid (fun q hq => ⟨(HQ.out q hq).1, (HQ.out q hq).2.below hb1⟩)
      clear hb1 om c0 c1
      go_wp2
      go_roundw
      case rel =>
        have q0 : Below w.heap.size w w1 := hb.trans (HB1.out.mono hb.size)
        have q1 := q0.grown HS0.out q0.size (fun j hj => by cases hj; exact Nat.le_refl _)
        have q2 := q1.grown HS1.out.2 q1.size (fun j hj => by cases hj; exact Nat.le_refl _)
        refine ⟨k + 1, _, qs ++ [(⟨nm, ms⟩, .slice pm ms.length cm)], by omega, by go_num, HS1.out.1, Lib.hid ?_, Lib.hid ?_, Lib.hid ?_, q2, (HS1.out.1.lt w.heap.size rfl).2⟩
        · rw [List.flatMap_append, ← HL.out, Nat.add_mul, Nat.one_mul, take_set_succ _ (k * 2 + 1) _ (by simp; have := HLl.out; omega), take_set_succ _ (k * 2) _ (by have := HLl.out; omega)]
          simp
        · rw [List.map_append, HM.out, HTk.out]; rfl
        · intro q hq
          have lift : ∀ {mv xs}, OwI (w.heap.size + 1) w1 mv xs → OwI (w.heap.size + 1) ((w1.setCell ⟨w.heap.size, k * 2, none⟩ (.string nm)).setCell ⟨w.heap.size, k * 2 + 1, none⟩ (.slice pm ms.length cm)) mv xs := fun h => (h.setg (by omega) _ _).setg (by omega) _ _
          rcases List.mem_append.1 hq with hq | hq
          · exact ⟨(HQ1.out q hq).1, lift (HQ1.out q hq).2⟩
          · rw [List.mem_singleton.1 hq]
            exact ⟨HNs.out, lift (HOm.out.base hlt0)⟩
      case measure => simp [intOf]; omega
    · obtain rfl : k = ps.length := by omega
      have hql : qs.length = ps.length := by
        have := congrArg List.length HM.out
        simpa using this
      have HX : Hid (L = qs.flatMap GrC) := Lib.hid (by
        have h1 := HL.out
        have h2 := hown.1
        rwa [List.take_of_length_le (by omega)] at h1)
      have HM2 : Hid (qs.map Prod.fst = ps.map Prod.fst) := Lib.hid (by rw [HM.out, List.take_length])
      go_wp2
      go_ret
      refine ⟨_, qs, rfl, ⟨?_, by omega, fun q hq => ⟨(HQ.out q hq).1, (HQ.out q hq).2.rd⟩⟩, HM2.out, hb⟩
      rw [hql, ← HX.out]
      exact rd_of_own hown
end Go.Proofs.YtpgonlfaeejakaaDoor
