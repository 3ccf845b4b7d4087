/- Contracts of the harness's functions that copy the data of networks: the copy holds the same, in new memory. -/
import Derived.Test.YtihpibdodlgpaaaGreatDoorNetToA
import Derived.Handy
namespace Go.Proofs.YtihpibdodlgpaaaGreatDoor
open Go.RowKit

theorem infoNPq : (Tryz.prog.info? 60).map (fun i => (i.zero, i.size, i.bytes)) = some (some (.slice none 0 0), 1, 24) := by kernel_rfl
set_option maxRecDepth 100000 in
set_option maxHeartbeats 4000000 in
theorem toLPq_any (v : Value) (xs : List (List NPk)) (w : World) (h : kPq.At 0 w v xs) (hf : fitL fitPq 1048576 xs) :
    Calls Tryz.prog 22 #[v] w fun e w' => ∃ u, e = .returned u ∧ kPq.At w.heap.size w' u xs ∧ Below w.heap.size w w' := by
  obtain ⟨p, cap, b, off, rfl, hcap, hp, hcell⟩ := h.parts
  have HC := Lib.hid hcell; clear hcell
  have HP := Lib.hid hp; clear hp h
  have hlen := hf.1
  have HF := Lib.hid hf.2; clear hf
  obtain ⟨i0, hi, hz0, hz1, hz2⟩ := info_parts infoNPq
  go_enter Tryz.func22, Tryz.ntmps22
  go_wp2_with (at_make; refine wpList_make_full _ rfl _ _ 46 rfl w.heap.size 60 i0 (.slice none 0 0) 1 Tryz.underlying46 hi hz0 hz1 _ _ _ _ xs.length rfl rfl rfl rfl ?b2 ?b3 (Nat.le_refl _) ?_)
  case b2 => rw [hz2]; omega
  case b3 => unfold maxLen; omega
  intro w0 hown0 hgrow0
  go_wp2
  go_loopw [4] (fun i wr => ∃ (k : Nat) (L : List Value), k ≤ xs.length ∧ i = .int .i64 k ∧ wr.ownsRow w.heap.size 60 1 (.slice (some ⟨w.heap.size, 0, none⟩) xs.length xs.length) xs.length L ∧ Hid (∃ cs : List (List Value), L.take (k * 1) = cs.flatten ∧ cs.length = k ∧ ∀ (j : Nat) (c : List Value) (x : (List NPk)), cs[j]? = some c → xs[j]? = some x → kPq.C (w.heap.size + 1) wr c x) ∧ Below w.heap.size w wr ∧ w.heap.size < wr.heap.size) (fun i _ => xs.length - (intOf i).toNat)
  case atStart => exact ⟨0, _, Nat.zero_le _, rfl, hown0, Lib.hid ⟨[], by simp, rfl, fun j c x h => by simp at h⟩, (Below.refl _ _).grown hgrow0 (Nat.le_refl _) (fun k h => by cases h), (hown0.lt w.heap.size rfl).2⟩
  case round =>
    obtain ⟨k, L, hk, rfl, hown, HL, hb, hlt0⟩ := hrel
    by_cases hlt : k < xs.length
    · obtain rfl := HP.out (by omega)
      have HLl := Lib.hid hown.1
      obtain ⟨c, hC, hcl⟩ := HC.out k hlt
      have hfx := HF.out xs[k] (List.getElem_mem hlt)
      have HX : Hid (xs[k]? = some xs[k]) := Lib.hid (List.getElem?_eq_getElem hlt)
      generalize xs[k] = x at *
      obtain ⟨v0, rfl, a0⟩ := hC
      obtain ⟨pv0, cv0, _, _, rfl, hcv0, _, _⟩ := a0.parts
      have d0 := cell_on hb (hcl 0 _ rfl)
      rw [show off + k * kPq.sz + 0 = off + k from by show off + k * 1 + 0 = off + k; omega] at d0
      have H := Lib.hid (toLPk_any _ x wr (a0.below hb) hfx)
      clear hcl a0
      go_wp2_with fail
      refine H.out.mono ?_
      rintro e w1 ⟨u0, rfl, gu0, b1⟩
      have Gu0 := Lib.hid (gu0.base (B' := w.heap.size + 1) (by omega))
      obtain ⟨pu0, cu0, _, _, rfl, _, _, _⟩ := gu0.parts
      clear gu0
      have hown1 := own_below hown b1
      have HB1 := Lib.hid (hb.trans (b1.mono hb.size))
      have HL1 : Hid (∃ cs : List (List Value), L.take (k * 1) = cs.flatten ∧ cs.length = k ∧ ∀ (j : Nat) (c : List Value) (x : (List NPk)), cs[j]? = some c → xs[j]? = some x → kPq.C (w.heap.size + 1) w1 c x) := Lib.hid (by
        obtain ⟨cs, h1, h2, h3⟩ := HL.out
        exact ⟨cs, h1, h2, fun j c x hc hx => kPq.below (h3 j c x hc hx) b1⟩)
      clear d0
      have e0 : w1.cell? ⟨w.heap.size, k, none⟩ = some (L[k]'(by have := HLl.out; omega)) := by rw [hown1.cellAt (k) (by omega), List.getElem?_eq_getElem (by have := HLl.out; omega)]
      have fz0 := hown1.frozenAt (k)
      have hs0 := hown1.stored (k) (.slice pu0 x.length cu0)
      have HS := Lib.hid hs0.1
      have HG := Lib.hid (hs0.2)
      clear hs0
      have HLN : Hid (∃ cs : List (List Value), (L.set (k) (.slice pu0 x.length cu0)).take ((k + 1) * 1) = cs.flatten ∧ cs.length = k + 1 ∧ ∀ (j : Nat) (c : List Value) (z9 : (List NPk)), cs[j]? = some c → xs[j]? = some z9 → kPq.C (w.heap.size + 1) (w1.setCell ⟨w.heap.size, k, none⟩ (.slice pu0 x.length cu0)) c z9) := Lib.hid (by
        obtain ⟨cs, h1, h2, h3⟩ := HL1.out
        refine ⟨cs ++ [[.slice pu0 x.length cu0]], ?_, by rw [List.length_append, h2]; rfl, fun j c y hc hy => ?_⟩
        · rw [List.flatten_append, ← h1, show (k + 1) * 1 = k + 1 from by omega, show k * 1 = k from by omega, take_set_succ _ (k) _ (by first | (simp only [List.length_set]; have := HLl.out; omega) | (have := HLl.out; omega))]
          simp
        · rcases Nat.lt_trichotomy j k with hj | hj | hj
          · rw [List.getElem?_append_left (by omega)] at hc
            exact kPq.grown (h3 j c y hc hy) HG.out (by omega)
          · subst hj
            rw [List.getElem?_append_right (by omega), h2, Nat.sub_self] at hc
            rw [HX.out] at hy
            cases hc; cases hy
            exact ⟨_, rfl, Gu0.out.grown HG.out (by omega)⟩
          · have := (List.getElem?_eq_some_iff.1 hc).1
            rw [List.length_append, h2] at this
            simp at this
            omega)
      go_wp2
      go_roundw
      case rel => exact ⟨k + 1, _, by omega, by go_num, HS.out, HLN, HB1.out.grown HG.out HB1.out.size (fun j hj => by cases hj; exact Nat.le_refl _), by have := HG.out.size; have := b1.size; omega⟩
      case measure => simp [intOf]; omega
    · obtain rfl : k = xs.length := by omega
      have HA : Hid (kPq.At w.heap.size wr (.slice (some ⟨w.heap.size, 0, none⟩) xs.length xs.length) xs) := Lib.hid (by
        obtain ⟨cs, h1, h2, h3⟩ := HL.out
        have h4 := hown.1
        rw [List.take_of_length_le (by omega)] at h1
        subst h1
        exact Kd.At.of_own hown rfl (Nat.le_refl _) h2 (fun j c x hc hx => kPq.base (h3 j c x hc hx) (by omega)))
      have HB := Lib.hid hb; clear hb hown HL
      go_wp2
      go_ret
      exact ⟨_, rfl, HA.out, HB.out⟩
set_option maxRecDepth 100000 in
set_option maxHeartbeats 4000000 in
theorem toEn_any (x : NEn) (v0 : Value) (w : World) (a0 : kI.At 0 w v0 x.fs) (hf : fitEn 1048576 x) :
    Calls Tryz.prog 111 #[.agg #[.int .i64 x.n, v0, .int .i64 x.u]] w fun e w' => ∃ u0, e = .returned (.agg #[.int .i64 x.n, u0, .int .i64 x.u]) ∧ kI.At w.heap.size w' u0 x.fs ∧ Below w.heap.size w w' := by
  have f0 := hf
  obtain ⟨p0, c0, _, _, rfl, _, _, _⟩ := a0.parts
  have A0 := Lib.hid a0
  clear a0
  go_enter Tryz.func111, Tryz.ntmps111
  go_wp2_with fail
  refine (toLI_any _ x.fs _ (A0.out.below (by go_grown)) f0).mono ?_
  rintro e w1 ⟨u0, rfl, g0, b1⟩
  have B1 : Hid (Below w.heap.size w w1) := Lib.hid (Below.trans (by go_grown) (b1.mono (by simp <;> omega)))
  have X1 : Hid (w1.heap[w.heap.size + 0]? = some (.cells #[.int .i64 x.n, .slice p0 x.fs.length c0, .int .i64 x.u] 155 (0, 0))) := Lib.hid ((b1.block (w.heap.size) (by simp <;> omega)).trans (a30 w _ _ _))
  have R1 : Hid (w1.heap[w.heap.size + 1]? = some (.cells #[.int .i64 0, .slice none 0 0, .int .i64 0] 158 (0, 0))) := Lib.hid ((b1.block (w.heap.size + 1) (by simp <;> omega)).trans (a31 w _ _ _))
  have O1 : Hid (w1.heap[w.heap.size + 2]? = some (.cells #[.int .i64 x.n, .slice none 0 0, .int .i64 0] 158 (0, 0))) := Lib.hid ((b1.block (w.heap.size + 2) (by simp <;> omega)).trans (a32 w _ _ _))
  have G0_1 : Hid (kI.At (w.heap.size + 3) w1 u0 x.fs) := Lib.hid (g0.base (by simp <;> omega))
  clear b1 g0
  obtain ⟨up0, uc0, _, _, rfl, _, _, _⟩ := G0_1.out.parts
  rw [show w.heap.size + 0 = w.heap.size from rfl] at X1
  have xh := X1.out; have x0 := cell_of_row w1 (w.heap.size) 0 _ _ _ xh; simp at x0; have xf0 := frozen_of_row w1 (w.heap.size) 0 _ _ xh; have x1 := cell_of_row w1 (w.heap.size) 1 _ _ _ xh; simp at x1; have xf1 := frozen_of_row w1 (w.heap.size) 1 _ _ xh; have x2 := cell_of_row w1 (w.heap.size) 2 _ _ _ xh; simp at x2; have xf2 := frozen_of_row w1 (w.heap.size) 2 _ _ xh; clear xh
  have yh := R1.out; have y0 := cell_of_row w1 (w.heap.size + 1) 0 _ _ _ yh; simp at y0; have yf0 := frozen_of_row w1 (w.heap.size + 1) 0 _ _ yh; have y1 := cell_of_row w1 (w.heap.size + 1) 1 _ _ _ yh; simp at y1; have yf1 := frozen_of_row w1 (w.heap.size + 1) 1 _ _ yh; have y2 := cell_of_row w1 (w.heap.size + 1) 2 _ _ _ yh; simp at y2; have yf2 := frozen_of_row w1 (w.heap.size + 1) 2 _ _ yh; clear yh
  have zh := O1.out; have z0 := cell_of_row w1 (w.heap.size + 2) 0 _ _ _ zh; simp at z0; have zf0 := frozen_of_row w1 (w.heap.size + 2) 0 _ _ zh; have z1 := cell_of_row w1 (w.heap.size + 2) 1 _ _ _ zh; simp at z1; have zf1 := frozen_of_row w1 (w.heap.size + 2) 1 _ _ zh; have z2 := cell_of_row w1 (w.heap.size + 2) 2 _ _ _ zh; simp at z2; have zf2 := frozen_of_row w1 (w.heap.size + 2) 2 _ _ zh; clear zh
  have zO : w.heap.size + 2 < w1.heap.size := (Array.getElem?_eq_some_iff.1 O1.out).1
  go_wp2
  refine bodyPost_ret (v := (.agg #[.int .i64 x.n, .slice up0 x.fs.length uc0, .int .i64 x.u])) (by simp [results, Tryz.results111, go_sem, *]) rfl ?_
  refine ⟨_, rfl, ?_, ?_⟩
  · refine Kd.At.base (B := w.heap.size + 3) ?_ (by omega)
    repeat refine Kd.At.setg ?_ (by omega) _ _
    exact G0_1.out
  · repeat refine Below.setCell ?_ (by simp <;> omega) _
    exact B1.out
theorem infoNEn : (Tryz.prog.info? 158).map (fun i => (i.zero, i.size, i.bytes)) = some (some (.agg #[.int .i64 0, .slice none 0 0, .int .i64 0]), 3, 40) := by kernel_rfl
set_option maxRecDepth 100000 in
set_option maxHeartbeats 4000000 in
theorem toLEn_any (v : Value) (xs : List NEn) (w : World) (h : kEn.At 0 w v xs) (hf : fitL fitEn 1048576 xs) :
    Calls Tryz.prog 79 #[v] w fun e w' => ∃ u, e = .returned u ∧ kEn.At w.heap.size w' u xs ∧ Below w.heap.size w w' := by
  obtain ⟨p, cap, b, off, rfl, hcap, hp, hcell⟩ := h.parts
  have HC := Lib.hid hcell; clear hcell
  have HP := Lib.hid hp; clear hp h
  have hlen := hf.1
  have HF := Lib.hid hf.2; clear hf
  obtain ⟨i0, hi, hz0, hz1, hz2⟩ := info_parts infoNEn
  go_enter Tryz.func79, Tryz.ntmps79
  go_wp2_with (at_make; refine wpList_make_full _ rfl _ _ 105 rfl w.heap.size 158 i0 (.agg #[.int .i64 0, .slice none 0 0, .int .i64 0]) 3 Tryz.underlying105 hi hz0 hz1 _ _ _ _ xs.length rfl rfl rfl rfl ?b2 ?b3 (Nat.le_refl _) ?_)
  case b2 => rw [hz2]; omega
  case b3 => unfold maxLen; omega
  intro w0 hown0 hgrow0
  go_wp2
  go_loopw [4] (fun i wr => ∃ (k : Nat) (L : List Value), k ≤ xs.length ∧ i = .int .i64 k ∧ wr.ownsRow w.heap.size 158 3 (.slice (some ⟨w.heap.size, 0, none⟩) xs.length xs.length) xs.length L ∧ Hid (∃ cs : List (List Value), L.take (k * 3) = cs.flatten ∧ cs.length = k ∧ ∀ (j : Nat) (c : List Value) (x : NEn), cs[j]? = some c → xs[j]? = some x → kEn.C (w.heap.size + 1) wr c x) ∧ Below w.heap.size w wr ∧ w.heap.size < wr.heap.size) (fun i _ => xs.length - (intOf i).toNat)
  case atStart => exact ⟨0, _, Nat.zero_le _, rfl, hown0, Lib.hid ⟨[], by simp, rfl, fun j c x h => by simp at h⟩, (Below.refl _ _).grown hgrow0 (Nat.le_refl _) (fun k h => by cases h), (hown0.lt w.heap.size rfl).2⟩
  case round =>
    obtain ⟨k, L, hk, rfl, hown, HL, hb, hlt0⟩ := hrel
    by_cases hlt : k < xs.length
    · obtain rfl := HP.out (by omega)
      have HLl := Lib.hid hown.1
      obtain ⟨c, hC, hcl⟩ := HC.out k hlt
      have hfx := HF.out xs[k] (List.getElem_mem hlt)
      have HX : Hid (xs[k]? = some xs[k]) := Lib.hid (List.getElem?_eq_getElem hlt)
      generalize xs[k] = x at *
      obtain ⟨v0, rfl, a0⟩ := hC
      obtain ⟨pv0, cv0, _, _, rfl, hcv0, _, _⟩ := a0.parts
      have d0 : _ = some (Value.int .i64 x.n) := cell_on hb (hcl 0 _ rfl)
      rw [show off + k * kEn.sz + 0 = off + k * 3 from rfl] at d0
      have d1 : _ = some (Value.slice pv0 x.fs.length cv0) := cell_on hb (hcl 1 _ rfl)
      rw [show off + k * kEn.sz + 1 = off + k * 3 + 1 from rfl] at d1
      have d2 : _ = some (Value.int .i64 x.u) := cell_on hb (hcl 2 _ rfl)
      rw [show off + k * kEn.sz + 2 = off + k * 3 + 2 from rfl] at d2
      have H := Lib.hid (toEn_any x _ wr (a0.below hb) hfx)
      clear hcl a0
      go_wp2_with fail
      refine H.out.mono ?_
      rintro e w1 ⟨u0, rfl, gu0, b1⟩
      have Gu0 := Lib.hid (gu0.base (B' := w.heap.size + 1) (by omega))
      obtain ⟨pu0, cu0, _, _, rfl, _, _, _⟩ := gu0.parts
      clear gu0
      have hown1 := own_below hown b1
      have HB1 := Lib.hid (hb.trans (b1.mono hb.size))
      have HL1 : Hid (∃ cs : List (List Value), L.take (k * 3) = cs.flatten ∧ cs.length = k ∧ ∀ (j : Nat) (c : List Value) (x : NEn), cs[j]? = some c → xs[j]? = some x → kEn.C (w.heap.size + 1) w1 c x) := Lib.hid (by
        obtain ⟨cs, h1, h2, h3⟩ := HL.out
        exact ⟨cs, h1, h2, fun j c x hc hx => kEn.below (h3 j c x hc hx) b1⟩)
      clear d0 d1 d2
      have e0 : w1.cell? ⟨w.heap.size, k * 3, none⟩ = some (L[k * 3]'(by have := HLl.out; omega)) := by rw [hown1.cellAt (k * 3) (by omega), List.getElem?_eq_getElem (by have := HLl.out; omega)]
      have fz0 := hown1.frozenAt (k * 3)
      have e1 : w1.cell? ⟨w.heap.size, k * 3 + 1, none⟩ = some (L[k * 3 + 1]'(by have := HLl.out; omega)) := by rw [hown1.cellAt (k * 3 + 1) (by omega), List.getElem?_eq_getElem (by have := HLl.out; omega)]
      have fz1 := hown1.frozenAt (k * 3 + 1)
      have e2 : w1.cell? ⟨w.heap.size, k * 3 + 2, none⟩ = some (L[k * 3 + 2]'(by have := HLl.out; omega)) := by rw [hown1.cellAt (k * 3 + 2) (by omega), List.getElem?_eq_getElem (by have := HLl.out; omega)]
      have fz2 := hown1.frozenAt (k * 3 + 2)
      have hs0 := hown1.stored (k * 3) (.int .i64 x.n)
      have hs1 := hs0.1.stored (k * 3 + 1) (.slice pu0 x.fs.length cu0)
      have hs2 := hs1.1.stored (k * 3 + 2) (.int .i64 x.u)
      have HS := Lib.hid hs2.1
      have HG := Lib.hid (grown_trans (grown_trans (hs0.2) hs1.2) hs2.2)
      clear hs0 hs1 hs2
      have HLN : Hid (∃ cs : List (List Value), (((L.set (k * 3) (.int .i64 x.n)).set (k * 3 + 1) (.slice pu0 x.fs.length cu0)).set (k * 3 + 2) (.int .i64 x.u)).take ((k + 1) * 3) = cs.flatten ∧ cs.length = k + 1 ∧ ∀ (j : Nat) (c : List Value) (z9 : NEn), cs[j]? = some c → xs[j]? = some z9 → kEn.C (w.heap.size + 1) (((w1.setCell ⟨w.heap.size, k * 3, none⟩ (.int .i64 x.n)).setCell ⟨w.heap.size, k * 3 + 1, none⟩ (.slice pu0 x.fs.length cu0)).setCell ⟨w.heap.size, k * 3 + 2, none⟩ (.int .i64 x.u)) c z9) := Lib.hid (by
        obtain ⟨cs, h1, h2, h3⟩ := HL1.out
        refine ⟨cs ++ [[.int .i64 x.n, .slice pu0 x.fs.length cu0, .int .i64 x.u]], ?_, by rw [List.length_append, h2]; rfl, fun j c y hc hy => ?_⟩
        · rw [List.flatten_append, ← h1, show (k + 1) * 3 = k * 3 + 3 from by omega, take_set_succ _ (k * 3 + 2) _ (by first | (simp only [List.length_set]; have := HLl.out; omega) | (have := HLl.out; omega)), take_set_succ _ (k * 3 + 1) _ (by first | (simp only [List.length_set]; have := HLl.out; omega) | (have := HLl.out; omega)), take_set_succ _ (k * 3) _ (by first | (simp only [List.length_set]; have := HLl.out; omega) | (have := HLl.out; omega))]
          simp
        · rcases Nat.lt_trichotomy j k with hj | hj | hj
          · rw [List.getElem?_append_left (by omega)] at hc
            exact kEn.grown (h3 j c y hc hy) HG.out (by omega)
          · subst hj
            rw [List.getElem?_append_right (by omega), h2, Nat.sub_self] at hc
            rw [HX.out] at hy
            cases hc; cases hy
            exact ⟨_, rfl, Gu0.out.grown HG.out (by omega)⟩
          · have := (List.getElem?_eq_some_iff.1 hc).1
            rw [List.length_append, h2] at this
            simp at this
            omega)
      go_wp2
      go_roundw
      case rel => exact ⟨k + 1, _, by omega, by go_num, HS.out, HLN, HB1.out.grown HG.out HB1.out.size (fun j hj => by cases hj; exact Nat.le_refl _), by have := HG.out.size; have := b1.size; omega⟩
      case measure => simp [intOf]; omega
    · obtain rfl : k = xs.length := by omega
      have HA : Hid (kEn.At w.heap.size wr (.slice (some ⟨w.heap.size, 0, none⟩) xs.length xs.length) xs) := Lib.hid (by
        obtain ⟨cs, h1, h2, h3⟩ := HL.out
        have h4 := hown.1
        rw [List.take_of_length_le (by omega)] at h1
        subst h1
        exact Kd.At.of_own hown rfl (Nat.le_refl _) h2 (fun j c x hc hx => kEn.base (h3 j c x hc hx) (by omega)))
      have HB := Lib.hid hb; clear hb hown HL
      go_wp2
      go_ret
      exact ⟨_, rfl, HA.out, HB.out⟩
set_option maxRecDepth 100000 in
set_option maxHeartbeats 4000000 in
theorem toEl_any (x : NEl) (v0 : Value) (w : World) (a0 : kEn.At 0 w v0 x.en) (hf : fitEl 1048576 x) :
    Calls Tryz.prog 47 #[.agg #[.int .i64 x.ck, v0]] w fun e w' => ∃ u0, e = .returned (.agg #[.int .i64 x.ck, u0]) ∧ kEn.At w.heap.size w' u0 x.en ∧ Below w.heap.size w w' := by
  have f0 := hf
  obtain ⟨p0, c0, _, _, rfl, _, _, _⟩ := a0.parts
  have A0 := Lib.hid a0
  clear a0
  go_enter Tryz.func47, Tryz.ntmps47
  go_wp2_with fail
  refine (toLEn_any _ x.en _ (A0.out.below (by go_grown)) f0).mono ?_
  rintro e w1 ⟨u0, rfl, g0, b1⟩
  have B1 : Hid (Below w.heap.size w w1) := Lib.hid (Below.trans (by go_grown) (b1.mono (by simp <;> omega)))
  have X1 : Hid (w1.heap[w.heap.size + 0]? = some (.cells #[.int .i64 x.ck, .slice p0 x.en.length c0] 89 (0, 0))) := Lib.hid ((b1.block (w.heap.size) (by simp <;> omega)).trans (a30 w _ _ _))
  have R1 : Hid (w1.heap[w.heap.size + 1]? = some (.cells #[.int .i64 0, .slice none 0 0] 107 (0, 0))) := Lib.hid ((b1.block (w.heap.size + 1) (by simp <;> omega)).trans (a31 w _ _ _))
  have O1 : Hid (w1.heap[w.heap.size + 2]? = some (.cells #[.int .i64 x.ck, .slice none 0 0] 107 (0, 0))) := Lib.hid ((b1.block (w.heap.size + 2) (by simp <;> omega)).trans (a32 w _ _ _))
  have G0_1 : Hid (kEn.At (w.heap.size + 3) w1 u0 x.en) := Lib.hid (g0.base (by simp <;> omega))
  clear b1 g0
  obtain ⟨up0, uc0, _, _, rfl, _, _, _⟩ := G0_1.out.parts
  rw [show w.heap.size + 0 = w.heap.size from rfl] at X1
  have xh := X1.out; have x0 := cell_of_row w1 (w.heap.size) 0 _ _ _ xh; simp at x0; have xf0 := frozen_of_row w1 (w.heap.size) 0 _ _ xh; have x1 := cell_of_row w1 (w.heap.size) 1 _ _ _ xh; simp at x1; have xf1 := frozen_of_row w1 (w.heap.size) 1 _ _ xh; clear xh
  have yh := R1.out; have y0 := cell_of_row w1 (w.heap.size + 1) 0 _ _ _ yh; simp at y0; have yf0 := frozen_of_row w1 (w.heap.size + 1) 0 _ _ yh; have y1 := cell_of_row w1 (w.heap.size + 1) 1 _ _ _ yh; simp at y1; have yf1 := frozen_of_row w1 (w.heap.size + 1) 1 _ _ yh; clear yh
  have zh := O1.out; have z0 := cell_of_row w1 (w.heap.size + 2) 0 _ _ _ zh; simp at z0; have zf0 := frozen_of_row w1 (w.heap.size + 2) 0 _ _ zh; have z1 := cell_of_row w1 (w.heap.size + 2) 1 _ _ _ zh; simp at z1; have zf1 := frozen_of_row w1 (w.heap.size + 2) 1 _ _ zh; clear zh
  have zO : w.heap.size + 2 < w1.heap.size := (Array.getElem?_eq_some_iff.1 O1.out).1
  go_wp2
  refine bodyPost_ret (v := (.agg #[.int .i64 x.ck, .slice up0 x.en.length uc0])) (by simp [results, Tryz.results47, go_sem, *]) rfl ?_
  refine ⟨_, rfl, ?_, ?_⟩
  · refine Kd.At.base (B := w.heap.size + 3) ?_ (by omega)
    repeat refine Kd.At.setg ?_ (by omega) _ _
    exact G0_1.out
  · repeat refine Below.setCell ?_ (by simp <;> omega) _
    exact B1.out
theorem infoNEl : (Tryz.prog.info? 107).map (fun i => (i.zero, i.size, i.bytes)) = some (some (.agg #[.int .i64 0, .slice none 0 0]), 2, 32) := by kernel_rfl
set_option maxRecDepth 100000 in
set_option maxHeartbeats 4000000 in
theorem toLEl_any (v : Value) (xs : List NEl) (w : World) (h : kEl.At 0 w v xs) (hf : fitL fitEl 1048576 xs) :
    Calls Tryz.prog 20 #[v] w fun e w' => ∃ u, e = .returned u ∧ kEl.At w.heap.size w' u xs ∧ Below w.heap.size w w' := by
  obtain ⟨p, cap, b, off, rfl, hcap, hp, hcell⟩ := h.parts
  have HC := Lib.hid hcell; clear hcell
  have HP := Lib.hid hp; clear hp h
  have hlen := hf.1
  have HF := Lib.hid hf.2; clear hf
  obtain ⟨i0, hi, hz0, hz1, hz2⟩ := info_parts infoNEl
  go_enter Tryz.func20, Tryz.ntmps20
  go_wp2_with (at_make; refine wpList_make_full _ rfl _ _ 44 rfl w.heap.size 107 i0 (.agg #[.int .i64 0, .slice none 0 0]) 2 Tryz.underlying44 hi hz0 hz1 _ _ _ _ xs.length rfl rfl rfl rfl ?b2 ?b3 (Nat.le_refl _) ?_)
  case b2 => rw [hz2]; omega
  case b3 => unfold maxLen; omega
  intro w0 hown0 hgrow0
  go_wp2
  go_loopw [4] (fun i wr => ∃ (k : Nat) (L : List Value), k ≤ xs.length ∧ i = .int .i64 k ∧ wr.ownsRow w.heap.size 107 2 (.slice (some ⟨w.heap.size, 0, none⟩) xs.length xs.length) xs.length L ∧ Hid (∃ cs : List (List Value), L.take (k * 2) = cs.flatten ∧ cs.length = k ∧ ∀ (j : Nat) (c : List Value) (x : NEl), cs[j]? = some c → xs[j]? = some x → kEl.C (w.heap.size + 1) wr c x) ∧ Below w.heap.size w wr ∧ w.heap.size < wr.heap.size) (fun i _ => xs.length - (intOf i).toNat)
  case atStart => exact ⟨0, _, Nat.zero_le _, rfl, hown0, Lib.hid ⟨[], by simp, rfl, fun j c x h => by simp at h⟩, (Below.refl _ _).grown hgrow0 (Nat.le_refl _) (fun k h => by cases h), (hown0.lt w.heap.size rfl).2⟩
  case round =>
    obtain ⟨k, L, hk, rfl, hown, HL, hb, hlt0⟩ := hrel
    by_cases hlt : k < xs.length
    · obtain rfl := HP.out (by omega)
      have HLl := Lib.hid hown.1
      obtain ⟨c, hC, hcl⟩ := HC.out k hlt
      have hfx := HF.out xs[k] (List.getElem_mem hlt)
      have HX : Hid (xs[k]? = some xs[k]) := Lib.hid (List.getElem?_eq_getElem hlt)
      generalize xs[k] = x at *
      obtain ⟨v0, rfl, a0⟩ := hC
      obtain ⟨pv0, cv0, _, _, rfl, hcv0, _, _⟩ := a0.parts
      have d0 : _ = some (Value.int .i64 x.ck) := cell_on hb (hcl 0 _ rfl)
      rw [show off + k * kEl.sz + 0 = off + k * 2 from rfl] at d0
      have d1 : _ = some (Value.slice pv0 x.en.length cv0) := cell_on hb (hcl 1 _ rfl)
      rw [show off + k * kEl.sz + 1 = off + k * 2 + 1 from rfl] at d1
      have H := Lib.hid (toEl_any x _ wr (a0.below hb) hfx)
      clear hcl a0
      go_wp2_with fail
      refine H.out.mono ?_
      rintro e w1 ⟨u0, rfl, gu0, b1⟩
      have Gu0 := Lib.hid (gu0.base (B' := w.heap.size + 1) (by omega))
      obtain ⟨pu0, cu0, _, _, rfl, _, _, _⟩ := gu0.parts
      clear gu0
      have hown1 := own_below hown b1
      have HB1 := Lib.hid (hb.trans (b1.mono hb.size))
      have HL1 : Hid (∃ cs : List (List Value), L.take (k * 2) = cs.flatten ∧ cs.length = k ∧ ∀ (j : Nat) (c : List Value) (x : NEl), cs[j]? = some c → xs[j]? = some x → kEl.C (w.heap.size + 1) w1 c x) := Lib.hid (by
        obtain ⟨cs, h1, h2, h3⟩ := HL.out
        exact ⟨cs, h1, h2, fun j c x hc hx => kEl.below (h3 j c x hc hx) b1⟩)
      clear d0 d1
      have e0 : w1.cell? ⟨w.heap.size, k * 2, none⟩ = some (L[k * 2]'(by have := HLl.out; omega)) := by rw [hown1.cellAt (k * 2) (by omega), List.getElem?_eq_getElem (by have := HLl.out; omega)]
      have fz0 := hown1.frozenAt (k * 2)
      have e1 : w1.cell? ⟨w.heap.size, k * 2 + 1, none⟩ = some (L[k * 2 + 1]'(by have := HLl.out; omega)) := by rw [hown1.cellAt (k * 2 + 1) (by omega), List.getElem?_eq_getElem (by have := HLl.out; omega)]
      have fz1 := hown1.frozenAt (k * 2 + 1)
      have hs0 := hown1.stored (k * 2) (.int .i64 x.ck)
      have hs1 := hs0.1.stored (k * 2 + 1) (.slice pu0 x.en.length cu0)
      have HS := Lib.hid hs1.1
      have HG := Lib.hid (grown_trans (hs0.2) hs1.2)
      clear hs0 hs1
      have HLN : Hid (∃ cs : List (List Value), ((L.set (k * 2) (.int .i64 x.ck)).set (k * 2 + 1) (.slice pu0 x.en.length cu0)).take ((k + 1) * 2) = cs.flatten ∧ cs.length = k + 1 ∧ ∀ (j : Nat) (c : List Value) (z9 : NEl), cs[j]? = some c → xs[j]? = some z9 → kEl.C (w.heap.size + 1) ((w1.setCell ⟨w.heap.size, k * 2, none⟩ (.int .i64 x.ck)).setCell ⟨w.heap.size, k * 2 + 1, none⟩ (.slice pu0 x.en.length cu0)) c z9) := Lib.hid (by
        obtain ⟨cs, h1, h2, h3⟩ := HL1.out
        refine ⟨cs ++ [[.int .i64 x.ck, .slice pu0 x.en.length cu0]], ?_, by rw [List.length_append, h2]; rfl, fun j c y hc hy => ?_⟩
        · rw [List.flatten_append, ← h1, show (k + 1) * 2 = k * 2 + 2 from by omega, take_set_succ _ (k * 2 + 1) _ (by first | (simp only [List.length_set]; have := HLl.out; omega) | (have := HLl.out; omega)), take_set_succ _ (k * 2) _ (by first | (simp only [List.length_set]; have := HLl.out; omega) | (have := HLl.out; omega))]
          simp
        · rcases Nat.lt_trichotomy j k with hj | hj | hj
          · rw [List.getElem?_append_left (by omega)] at hc
            exact kEl.grown (h3 j c y hc hy) HG.out (by omega)
          · subst hj
            rw [List.getElem?_append_right (by omega), h2, Nat.sub_self] at hc
            rw [HX.out] at hy
            cases hc; cases hy
            exact ⟨_, rfl, Gu0.out.grown HG.out (by omega)⟩
          · have := (List.getElem?_eq_some_iff.1 hc).1
            rw [List.length_append, h2] at this
            simp at this
            omega)
      go_wp2
      go_roundw
      case rel => exact ⟨k + 1, _, by omega, by go_num, HS.out, HLN, HB1.out.grown HG.out HB1.out.size (fun j hj => by cases hj; exact Nat.le_refl _), by have := HG.out.size; have := b1.size; omega⟩
      case measure => simp [intOf]; omega
    · obtain rfl : k = xs.length := by omega
      have HA : Hid (kEl.At w.heap.size wr (.slice (some ⟨w.heap.size, 0, none⟩) xs.length xs.length) xs) := Lib.hid (by
        obtain ⟨cs, h1, h2, h3⟩ := HL.out
        have h4 := hown.1
        rw [List.take_of_length_le (by omega)] at h1
        subst h1
        exact Kd.At.of_own hown rfl (Nat.le_refl _) h2 (fun j c x hc hx => kEl.base (h3 j c x hc hx) (by omega)))
      have HB := Lib.hid hb; clear hb hown HL
      go_wp2
      go_ret
      exact ⟨_, rfl, HA.out, HB.out⟩
end Go.Proofs.YtihpibdodlgpaaaGreatDoor
