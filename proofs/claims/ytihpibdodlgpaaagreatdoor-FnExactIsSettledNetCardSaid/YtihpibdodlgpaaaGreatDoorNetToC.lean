/- Contracts of the harness's functions that copy the data of networks: the copy holds the same, in new memory. -/
import Derived.Test.YtihpibdodlgpaaaGreatDoorNetToA
import Derived.Handy
namespace Go.Proofs.YtihpibdodlgpaaaGreatDoor
open Go.RowKit

set_option maxRecDepth 100000 in
set_option maxHeartbeats 4000000 in
theorem toRw_any (x : NRw) (v0 : Value) (w : World) (a0 : kSl.At 0 w v0 x.sl) (hf : fitRw 1048576 x) :
    Calls Tryz.prog 80 #[.agg #[.int .i64 x.nx, v0]] w fun e w' => ∃ u0, e = .returned (.agg #[.int .i64 x.nx, u0]) ∧ kSl.At w.heap.size w' u0 x.sl ∧ Below w.heap.size w w' := by
  have f0 := hf
  obtain ⟨p0, c0, _, _, rfl, _, _, _⟩ := a0.parts
  have A0 := Lib.hid a0
  clear a0
  go_enter Tryz.func80, Tryz.ntmps80
  go_wp2_with fail
  refine (toLSl_any _ x.sl _ (A0.out.below (by go_grown)) f0).mono ?_
  rintro e w1 ⟨u0, rfl, g0, b1⟩
  have B1 : Hid (Below w.heap.size w w1) := Lib.hid (Below.trans (by go_grown) (b1.mono (by simp <;> omega)))
  have X1 : Hid (w1.heap[w.heap.size + 0]? = some (.cells #[.int .i64 x.nx, .slice p0 x.sl.length c0] 93 (0, 0))) := Lib.hid ((b1.block (w.heap.size) (by simp <;> omega)).trans (a30 w _ _ _))
  have R1 : Hid (w1.heap[w.heap.size + 1]? = some (.cells #[.int .i64 0, .slice none 0 0] 74 (0, 0))) := Lib.hid ((b1.block (w.heap.size + 1) (by simp <;> omega)).trans (a31 w _ _ _))
  have O1 : Hid (w1.heap[w.heap.size + 2]? = some (.cells #[.int .i64 x.nx, .slice none 0 0] 74 (0, 0))) := Lib.hid ((b1.block (w.heap.size + 2) (by simp <;> omega)).trans (a32 w _ _ _))
  have G0_1 : Hid (kSl.At (w.heap.size + 3) w1 u0 x.sl) := Lib.hid (g0.base (by simp <;> omega))
  clear b1 g0
  obtain ⟨up0, uc0, _, _, rfl, _, _, _⟩ := G0_1.out.parts
  rw [show w.heap.size + 0 = w.heap.size from rfl] at X1
  have xh := X1.out; have x0 := cell_of_row w1 (w.heap.size) 0 _ _ _ xh; simp at x0; have xf0 := frozen_of_row w1 (w.heap.size) 0 _ _ xh; have x1 := cell_of_row w1 (w.heap.size) 1 _ _ _ xh; simp at x1; have xf1 := frozen_of_row w1 (w.heap.size) 1 _ _ xh; clear xh
  have yh := R1.out; have y0 := cell_of_row w1 (w.heap.size + 1) 0 _ _ _ yh; simp at y0; have yf0 := frozen_of_row w1 (w.heap.size + 1) 0 _ _ yh; have y1 := cell_of_row w1 (w.heap.size + 1) 1 _ _ _ yh; simp at y1; have yf1 := frozen_of_row w1 (w.heap.size + 1) 1 _ _ yh; clear yh
  have zh := O1.out; have z0 := cell_of_row w1 (w.heap.size + 2) 0 _ _ _ zh; simp at z0; have zf0 := frozen_of_row w1 (w.heap.size + 2) 0 _ _ zh; have z1 := cell_of_row w1 (w.heap.size + 2) 1 _ _ _ zh; simp at z1; have zf1 := frozen_of_row w1 (w.heap.size + 2) 1 _ _ zh; clear zh
  have zO : w.heap.size + 2 < w1.heap.size := (Array.getElem?_eq_some_iff.1 O1.out).1
  go_wp2
  refine bodyPost_ret (v := (.agg #[.int .i64 x.nx, .slice up0 x.sl.length uc0])) (by simp [results, Tryz.results80, go_sem, *]) rfl ?_
  refine ⟨_, rfl, ?_, ?_⟩
  · refine Kd.At.base (B := w.heap.size + 3) ?_ (by omega)
    repeat refine Kd.At.setg ?_ (by omega) _ _
    exact G0_1.out
  · repeat refine Below.setCell ?_ (by simp <;> omega) _
    exact B1.out
set_option maxRecDepth 100000 in
set_option maxHeartbeats 4000000 in
theorem toRc_any (x : NRc) (v0 v1 : Value) (w : World) (a0 : kSl.At 0 w v0 x.rw.sl) (a1 : kRq.At 0 w v1 x.rq) (hf : fitRc 1048576 x) :
    Calls Tryz.prog 48 #[.agg #[.bool x.st, .int .i64 x.ck, .int .i64 x.rw.nx, v0, v1]] w fun e w' => ∃ u0 u1, e = .returned (.agg #[.bool x.st, .int .i64 x.ck, .int .i64 x.rw.nx, u0, u1]) ∧ kSl.At w.heap.size w' u0 x.rw.sl ∧ kRq.At w.heap.size w' u1 x.rq ∧ Below w.heap.size w w' := by
  obtain ⟨f0, f1⟩ := hf
  obtain ⟨p0, c0, _, _, rfl, _, _, _⟩ := a0.parts
  obtain ⟨p1, c1, _, _, rfl, _, _, _⟩ := a1.parts
  have A0 := Lib.hid a0
  clear a0
  have A1 := Lib.hid a1
  clear a1
  go_enter Tryz.func48, Tryz.ntmps48
  go_wp2_with fail
  refine (toRw_any x.rw _ _ (A0.out.below (by go_grown)) f0).mono ?_
  rintro e w1 ⟨u0, rfl, g0, b1⟩
  have B1 : Hid (Below w.heap.size w w1) := Lib.hid (Below.trans (by go_grown) (b1.mono (by simp <;> omega)))
  have X1 : Hid (w1.heap[w.heap.size + 0]? = some (.cells #[.bool x.st, .int .i64 x.ck, .int .i64 x.rw.nx, .slice p0 x.rw.sl.length c0, .slice p1 x.rq.length c1] 96 (0, 0))) := Lib.hid ((b1.block (w.heap.size) (by simp <;> omega)).trans (a30 w _ _ _))
  have R1 : Hid (w1.heap[w.heap.size + 1]? = some (.cells #[.bool false, .int .i64 0, .int .i64 0, .slice none 0 0, .slice none 0 0] 77 (0, 0))) := Lib.hid ((b1.block (w.heap.size + 1) (by simp <;> omega)).trans (a31 w _ _ _))
  have O1 : Hid (w1.heap[w.heap.size + 2]? = some (.cells #[.bool x.st, .int .i64 x.ck, .int .i64 0, .slice none 0 0, .slice none 0 0] 77 (0, 0))) := Lib.hid ((b1.block (w.heap.size + 2) (by simp <;> omega)).trans (a32 w _ _ _))
  have G0_1 : Hid (kSl.At (w.heap.size + 3) w1 u0 x.rw.sl) := Lib.hid (g0.base (by simp <;> omega))
  clear b1 g0
  obtain ⟨up0, uc0, _, _, rfl, _, _, _⟩ := G0_1.out.parts
  rw [show w.heap.size + 0 = w.heap.size from rfl] at X1
  have xh := X1.out; have x0 := cell_of_row w1 (w.heap.size) 0 _ _ _ xh; simp at x0; have xf0 := frozen_of_row w1 (w.heap.size) 0 _ _ xh; have x1 := cell_of_row w1 (w.heap.size) 1 _ _ _ xh; simp at x1; have xf1 := frozen_of_row w1 (w.heap.size) 1 _ _ xh; have x2 := cell_of_row w1 (w.heap.size) 2 _ _ _ xh; simp at x2; have xf2 := frozen_of_row w1 (w.heap.size) 2 _ _ xh; have x3 := cell_of_row w1 (w.heap.size) 3 _ _ _ xh; simp at x3; have xf3 := frozen_of_row w1 (w.heap.size) 3 _ _ xh; have x4 := cell_of_row w1 (w.heap.size) 4 _ _ _ xh; simp at x4; have xf4 := frozen_of_row w1 (w.heap.size) 4 _ _ xh; clear xh
  have yh := R1.out; have y0 := cell_of_row w1 (w.heap.size + 1) 0 _ _ _ yh; simp at y0; have yf0 := frozen_of_row w1 (w.heap.size + 1) 0 _ _ yh; have y1 := cell_of_row w1 (w.heap.size + 1) 1 _ _ _ yh; simp at y1; have yf1 := frozen_of_row w1 (w.heap.size + 1) 1 _ _ yh; have y2 := cell_of_row w1 (w.heap.size + 1) 2 _ _ _ yh; simp at y2; have yf2 := frozen_of_row w1 (w.heap.size + 1) 2 _ _ yh; have y3 := cell_of_row w1 (w.heap.size + 1) 3 _ _ _ yh; simp at y3; have yf3 := frozen_of_row w1 (w.heap.size + 1) 3 _ _ yh; have y4 := cell_of_row w1 (w.heap.size + 1) 4 _ _ _ yh; simp at y4; have yf4 := frozen_of_row w1 (w.heap.size + 1) 4 _ _ yh; clear yh
  have zh := O1.out; have z0 := cell_of_row w1 (w.heap.size + 2) 0 _ _ _ zh; simp at z0; have zf0 := frozen_of_row w1 (w.heap.size + 2) 0 _ _ zh; have z1 := cell_of_row w1 (w.heap.size + 2) 1 _ _ _ zh; simp at z1; have zf1 := frozen_of_row w1 (w.heap.size + 2) 1 _ _ zh; have z2 := cell_of_row w1 (w.heap.size + 2) 2 _ _ _ zh; simp at z2; have zf2 := frozen_of_row w1 (w.heap.size + 2) 2 _ _ zh; have z3 := cell_of_row w1 (w.heap.size + 2) 3 _ _ _ zh; simp at z3; have zf3 := frozen_of_row w1 (w.heap.size + 2) 3 _ _ zh; have z4 := cell_of_row w1 (w.heap.size + 2) 4 _ _ _ zh; simp at z4; have zf4 := frozen_of_row w1 (w.heap.size + 2) 4 _ _ zh; clear zh
  have zO : w.heap.size + 2 < w1.heap.size := (Array.getElem?_eq_some_iff.1 O1.out).1
  have BW1 : Hid (Below w.heap.size w ((w1.setCell ⟨w.heap.size + 2, 2, none⟩ (.int .i64 x.rw.nx)).setCell ⟨w.heap.size + 2, 3, none⟩ (.slice up0 x.rw.sl.length uc0))) := Lib.hid (by (repeat refine Below.setCell ?_ (by simp <;> omega) _); exact B1.out)
  have sW1 : ((w1.setCell ⟨w.heap.size + 2, 2, none⟩ (.int .i64 x.rw.nx)).setCell ⟨w.heap.size + 2, 3, none⟩ (.slice up0 x.rw.sl.length uc0)).heap.size = w1.heap.size := by simp
  have XW1 : Hid (((w1.setCell ⟨w.heap.size + 2, 2, none⟩ (.int .i64 x.rw.nx)).setCell ⟨w.heap.size + 2, 3, none⟩ (.slice up0 x.rw.sl.length uc0)).heap[w.heap.size + 0]? = _) := Lib.hid ((set_other (w1.setCell ⟨w.heap.size + 2, 2, none⟩ (.int .i64 x.rw.nx)) ⟨w.heap.size + 2, 3, none⟩ (.slice up0 x.rw.sl.length uc0) (w.heap.size + 0) (by simp)).trans ((set_other w1 ⟨w.heap.size + 2, 2, none⟩ (.int .i64 x.rw.nx) (w.heap.size + 0) (by simp)).trans (X1.out)))
  have RW1 : Hid (((w1.setCell ⟨w.heap.size + 2, 2, none⟩ (.int .i64 x.rw.nx)).setCell ⟨w.heap.size + 2, 3, none⟩ (.slice up0 x.rw.sl.length uc0)).heap[w.heap.size + 1]? = _) := Lib.hid ((set_other (w1.setCell ⟨w.heap.size + 2, 2, none⟩ (.int .i64 x.rw.nx)) ⟨w.heap.size + 2, 3, none⟩ (.slice up0 x.rw.sl.length uc0) (w.heap.size + 1) (by simp)).trans ((set_other w1 ⟨w.heap.size + 2, 2, none⟩ (.int .i64 x.rw.nx) (w.heap.size + 1) (by simp)).trans (R1.out)))
  have OW1 : Hid (((w1.setCell ⟨w.heap.size + 2, 2, none⟩ (.int .i64 x.rw.nx)).setCell ⟨w.heap.size + 2, 3, none⟩ (.slice up0 x.rw.sl.length uc0)).heap[w.heap.size + 2]? = some (.cells #[.bool x.st, .int .i64 x.ck, .int .i64 x.rw.nx, .slice up0 x.rw.sl.length uc0, .slice none 0 0] 77 (0, 0))) := Lib.hid (set_at (set_at (O1.out) 2 (.int .i64 x.rw.nx)) 3 (.slice up0 x.rw.sl.length uc0))
  have G0_1W : Hid (kSl.At (w.heap.size + 3) ((w1.setCell ⟨w.heap.size + 2, 2, none⟩ (.int .i64 x.rw.nx)).setCell ⟨w.heap.size + 2, 3, none⟩ (.slice up0 x.rw.sl.length uc0)) (.slice up0 x.rw.sl.length uc0) x.rw.sl) := Lib.hid (by (repeat refine Kd.At.setg ?_ (by omega) _ _); exact G0_1.out)
  go_wp2_with fail
  refine (toLRq_any _ x.rq _ (A1.out.below BW1.out) f1).mono ?_
  rintro e w2 ⟨u1, rfl, g1, b2⟩
  have B2 : Hid (Below w.heap.size w w2) := Lib.hid (BW1.out.trans (b2.mono BW1.out.size))
  have X2 := Lib.hid ((b2.block (w.heap.size + 0) (Array.getElem?_eq_some_iff.1 XW1.out).1).trans XW1.out)
  have R2 := Lib.hid ((b2.block (w.heap.size + 1) (Array.getElem?_eq_some_iff.1 RW1.out).1).trans RW1.out)
  have O2 := Lib.hid ((b2.block (w.heap.size + 2) (Array.getElem?_eq_some_iff.1 OW1.out).1).trans OW1.out)
  have G0_2 := Lib.hid (G0_1W.out.below b2)
  have lO1 := (Array.getElem?_eq_some_iff.1 O1.out).1
  have G1_2 : Hid (kRq.At (w.heap.size + 3) w2 u1 x.rq) := Lib.hid (g1.base (by rw [sW1]; omega))
  clear b2 g1 x0 xf0 x1 xf1 x2 xf2 x3 xf3 x4 xf4 y0 yf0 y1 yf1 y2 yf2 y3 yf3 y4 yf4 z0 zf0 z1 zf1 z2 zf2 z3 zf3 z4 zf4
  obtain ⟨up1, uc1, _, _, rfl, _, _, _⟩ := G1_2.out.parts
  rw [show w.heap.size + 0 = w.heap.size from rfl] at X2
  have xh := X2.out; have x0 := cell_of_row w2 (w.heap.size) 0 _ _ _ xh; simp at x0; have xf0 := frozen_of_row w2 (w.heap.size) 0 _ _ xh; have x1 := cell_of_row w2 (w.heap.size) 1 _ _ _ xh; simp at x1; have xf1 := frozen_of_row w2 (w.heap.size) 1 _ _ xh; have x2 := cell_of_row w2 (w.heap.size) 2 _ _ _ xh; simp at x2; have xf2 := frozen_of_row w2 (w.heap.size) 2 _ _ xh; have x3 := cell_of_row w2 (w.heap.size) 3 _ _ _ xh; simp at x3; have xf3 := frozen_of_row w2 (w.heap.size) 3 _ _ xh; have x4 := cell_of_row w2 (w.heap.size) 4 _ _ _ xh; simp at x4; have xf4 := frozen_of_row w2 (w.heap.size) 4 _ _ xh; clear xh
  have yh := R2.out; have y0 := cell_of_row w2 (w.heap.size + 1) 0 _ _ _ yh; simp at y0; have yf0 := frozen_of_row w2 (w.heap.size + 1) 0 _ _ yh; have y1 := cell_of_row w2 (w.heap.size + 1) 1 _ _ _ yh; simp at y1; have yf1 := frozen_of_row w2 (w.heap.size + 1) 1 _ _ yh; have y2 := cell_of_row w2 (w.heap.size + 1) 2 _ _ _ yh; simp at y2; have yf2 := frozen_of_row w2 (w.heap.size + 1) 2 _ _ yh; have y3 := cell_of_row w2 (w.heap.size + 1) 3 _ _ _ yh; simp at y3; have yf3 := frozen_of_row w2 (w.heap.size + 1) 3 _ _ yh; have y4 := cell_of_row w2 (w.heap.size + 1) 4 _ _ _ yh; simp at y4; have yf4 := frozen_of_row w2 (w.heap.size + 1) 4 _ _ yh; clear yh
  have zh := O2.out; have z0 := cell_of_row w2 (w.heap.size + 2) 0 _ _ _ zh; simp at z0; have zf0 := frozen_of_row w2 (w.heap.size + 2) 0 _ _ zh; have z1 := cell_of_row w2 (w.heap.size + 2) 1 _ _ _ zh; simp at z1; have zf1 := frozen_of_row w2 (w.heap.size + 2) 1 _ _ zh; have z2 := cell_of_row w2 (w.heap.size + 2) 2 _ _ _ zh; simp at z2; have zf2 := frozen_of_row w2 (w.heap.size + 2) 2 _ _ zh; have z3 := cell_of_row w2 (w.heap.size + 2) 3 _ _ _ zh; simp at z3; have zf3 := frozen_of_row w2 (w.heap.size + 2) 3 _ _ zh; have z4 := cell_of_row w2 (w.heap.size + 2) 4 _ _ _ zh; simp at z4; have zf4 := frozen_of_row w2 (w.heap.size + 2) 4 _ _ zh; clear zh
  have zO : w.heap.size + 2 < w2.heap.size := (Array.getElem?_eq_some_iff.1 O2.out).1
  go_wp2
  refine bodyPost_ret (v := (.agg #[.bool x.st, .int .i64 x.ck, .int .i64 x.rw.nx, .slice up0 x.rw.sl.length uc0, .slice up1 x.rq.length uc1])) (by simp [results, Tryz.results48, go_sem, *]) rfl ?_
  refine ⟨_, _, rfl, ?_, ?_, ?_⟩
  · refine Kd.At.base (B := w.heap.size + 3) ?_ (by omega)
    repeat refine Kd.At.setg ?_ (by omega) _ _
    exact G0_2.out
  · refine Kd.At.base (B := w.heap.size + 3) ?_ (by omega)
    repeat refine Kd.At.setg ?_ (by omega) _ _
    exact G1_2.out
  · repeat refine Below.setCell ?_ (by simp <;> omega) _
    exact B2.out
theorem infoNRc : (Tryz.prog.info? 77).map (fun i => (i.zero, i.size, i.bytes)) = some (some (.agg #[.bool false, .int .i64 0, .int .i64 0, .slice none 0 0, .slice none 0 0]), 5, 72) := by kernel_rfl
set_option maxRecDepth 100000 in
set_option maxHeartbeats 4000000 in
theorem toLRc_any (v : Value) (xs : List NRc) (w : World) (h : kRc.At 0 w v xs) (hf : fitL fitRc 1048576 xs) :
    Calls Tryz.prog 21 #[v] w fun e w' => ∃ u, e = .returned u ∧ kRc.At w.heap.size w' u xs ∧ Below w.heap.size w w' := by
  obtain ⟨p, cap, b, off, rfl, hcap, hp, hcell⟩ := h.parts
  have HC := Lib.hid hcell; clear hcell
  have HP := Lib.hid hp; clear hp h
  have hlen := hf.1
  have HF := Lib.hid hf.2; clear hf
  obtain ⟨i0, hi, hz0, hz1, hz2⟩ := info_parts infoNRc
  go_enter Tryz.func21, Tryz.ntmps21
  go_wp2_with (at_make; refine wpList_make_full _ rfl _ _ 45 rfl w.heap.size 77 i0 (.agg #[.bool false, .int .i64 0, .int .i64 0, .slice none 0 0, .slice none 0 0]) 5 Tryz.underlying45 hi hz0 hz1 _ _ _ _ xs.length rfl rfl rfl rfl ?b2 ?b3 (Nat.le_refl _) ?_)
  case b2 => rw [hz2]; omega
  case b3 => unfold maxLen; omega
  intro w0 hown0 hgrow0
  go_wp2
  go_loopw [4] (fun i wr => ∃ (k : Nat) (L : List Value), k ≤ xs.length ∧ i = .int .i64 k ∧ wr.ownsRow w.heap.size 77 5 (.slice (some ⟨w.heap.size, 0, none⟩) xs.length xs.length) xs.length L ∧ Hid (∃ cs : List (List Value), L.take (k * 5) = cs.flatten ∧ cs.length = k ∧ ∀ (j : Nat) (c : List Value) (x : NRc), cs[j]? = some c → xs[j]? = some x → kRc.C (w.heap.size + 1) wr c x) ∧ Below w.heap.size w wr ∧ w.heap.size < wr.heap.size) (fun i _ => xs.length - (intOf i).toNat)
  case atStart => exact ⟨0, _, Nat.zero_le _, rfl, hown0, Lib.hid ⟨[], by simp, rfl, fun j c x h => by simp at h⟩, (Below.refl _ _).grown hgrow0 (Nat.le_refl _) (fun k h => by cases h), (hown0.lt w.heap.size rfl).2⟩
  case round =>
    obtain ⟨k, L, hk, rfl, hown, HL, hb, hlt0⟩ := hrel
    by_cases hlt : k < xs.length
    · obtain rfl := HP.out (by omega)
      have HLl := Lib.hid hown.1
      obtain ⟨c, hC, hcl⟩ := HC.out k hlt
      have hfx := HF.out xs[k] (List.getElem_mem hlt)
      have HX : Hid (xs[k]? = some xs[k]) := Lib.hid (List.getElem?_eq_getElem hlt)
      generalize xs[k] = x at *
      obtain ⟨v0, v1, rfl, a0, a1⟩ := hC
      obtain ⟨pv0, cv0, _, _, rfl, hcv0, _, _⟩ := a0.parts
      obtain ⟨pv1, cv1, _, _, rfl, hcv1, _, _⟩ := a1.parts
      have d0 : _ = some (Value.bool x.st) := cell_on hb (hcl 0 _ rfl)
      rw [show off + k * kRc.sz + 0 = off + k * 5 from rfl] at d0
      have d1 : _ = some (Value.int .i64 x.ck) := cell_on hb (hcl 1 _ rfl)
      rw [show off + k * kRc.sz + 1 = off + k * 5 + 1 from rfl] at d1
      have d2 : _ = some (Value.int .i64 x.rw.nx) := cell_on hb (hcl 2 _ rfl)
      rw [show off + k * kRc.sz + 2 = off + k * 5 + 2 from rfl] at d2
      have d3 : _ = some (Value.slice pv0 x.rw.sl.length cv0) := cell_on hb (hcl 3 _ rfl)
      rw [show off + k * kRc.sz + 3 = off + k * 5 + 3 from rfl] at d3
      have d4 : _ = some (Value.slice pv1 x.rq.length cv1) := cell_on hb (hcl 4 _ rfl)
      rw [show off + k * kRc.sz + 4 = off + k * 5 + 4 from rfl] at d4
      have H := Lib.hid (toRc_any x _ _ wr (a0.below hb) (a1.below hb) hfx)
      clear hcl a0 a1
      go_wp2_with fail
      refine H.out.mono ?_
      rintro e w1 ⟨u0, u1, rfl, gu0, gu1, b1⟩
      have Gu0 := Lib.hid (gu0.base (B' := w.heap.size + 1) (by omega))
      obtain ⟨pu0, cu0, _, _, rfl, _, _, _⟩ := gu0.parts
      clear gu0
      have Gu1 := Lib.hid (gu1.base (B' := w.heap.size + 1) (by omega))
      obtain ⟨pu1, cu1, _, _, rfl, _, _, _⟩ := gu1.parts
      clear gu1
      have hown1 := own_below hown b1
      have HB1 := Lib.hid (hb.trans (b1.mono hb.size))
      have HL1 : Hid (∃ cs : List (List Value), L.take (k * 5) = cs.flatten ∧ cs.length = k ∧ ∀ (j : Nat) (c : List Value) (x : NRc), cs[j]? = some c → xs[j]? = some x → kRc.C (w.heap.size + 1) w1 c x) := Lib.hid (by
        obtain ⟨cs, h1, h2, h3⟩ := HL.out
        exact ⟨cs, h1, h2, fun j c x hc hx => kRc.below (h3 j c x hc hx) b1⟩)
      clear d0 d1 d2 d3 d4
      have e0 : w1.cell? ⟨w.heap.size, k * 5, none⟩ = some (L[k * 5]'(by have := HLl.out; omega)) := by rw [hown1.cellAt (k * 5) (by omega), List.getElem?_eq_getElem (by have := HLl.out; omega)]
      have fz0 := hown1.frozenAt (k * 5)
      have e1 : w1.cell? ⟨w.heap.size, k * 5 + 1, none⟩ = some (L[k * 5 + 1]'(by have := HLl.out; omega)) := by rw [hown1.cellAt (k * 5 + 1) (by omega), List.getElem?_eq_getElem (by have := HLl.out; omega)]
      have fz1 := hown1.frozenAt (k * 5 + 1)
      have e2 : w1.cell? ⟨w.heap.size, k * 5 + 2, none⟩ = some (L[k * 5 + 2]'(by have := HLl.out; omega)) := by rw [hown1.cellAt (k * 5 + 2) (by omega), List.getElem?_eq_getElem (by have := HLl.out; omega)]
      have fz2 := hown1.frozenAt (k * 5 + 2)
      have e3 : w1.cell? ⟨w.heap.size, k * 5 + 3, none⟩ = some (L[k * 5 + 3]'(by have := HLl.out; omega)) := by rw [hown1.cellAt (k * 5 + 3) (by omega), List.getElem?_eq_getElem (by have := HLl.out; omega)]
      have fz3 := hown1.frozenAt (k * 5 + 3)
      have e4 : w1.cell? ⟨w.heap.size, k * 5 + 4, none⟩ = some (L[k * 5 + 4]'(by have := HLl.out; omega)) := by rw [hown1.cellAt (k * 5 + 4) (by omega), List.getElem?_eq_getElem (by have := HLl.out; omega)]
      have fz4 := hown1.frozenAt (k * 5 + 4)
      have hs0 := hown1.stored (k * 5) (.bool x.st)
      have hs1 := hs0.1.stored (k * 5 + 1) (.int .i64 x.ck)
      have hs2 := hs1.1.stored (k * 5 + 2) (.int .i64 x.rw.nx)
      have hs3 := hs2.1.stored (k * 5 + 3) (.slice pu0 x.rw.sl.length cu0)
      have hs4 := hs3.1.stored (k * 5 + 4) (.slice pu1 x.rq.length cu1)
      have HS := Lib.hid hs4.1
      have HG := Lib.hid (grown_trans (grown_trans (grown_trans (grown_trans (hs0.2) hs1.2) hs2.2) hs3.2) hs4.2)
      clear hs0 hs1 hs2 hs3 hs4
      have HLN : Hid (∃ cs : List (List Value), (((((L.set (k * 5) (.bool x.st)).set (k * 5 + 1) (.int .i64 x.ck)).set (k * 5 + 2) (.int .i64 x.rw.nx)).set (k * 5 + 3) (.slice pu0 x.rw.sl.length cu0)).set (k * 5 + 4) (.slice pu1 x.rq.length cu1)).take ((k + 1) * 5) = cs.flatten ∧ cs.length = k + 1 ∧ ∀ (j : Nat) (c : List Value) (z9 : NRc), cs[j]? = some c → xs[j]? = some z9 → kRc.C (w.heap.size + 1) (((((w1.setCell ⟨w.heap.size, k * 5, none⟩ (.bool x.st)).setCell ⟨w.heap.size, k * 5 + 1, none⟩ (.int .i64 x.ck)).setCell ⟨w.heap.size, k * 5 + 2, none⟩ (.int .i64 x.rw.nx)).setCell ⟨w.heap.size, k * 5 + 3, none⟩ (.slice pu0 x.rw.sl.length cu0)).setCell ⟨w.heap.size, k * 5 + 4, none⟩ (.slice pu1 x.rq.length cu1)) c z9) := Lib.hid (by
        obtain ⟨cs, h1, h2, h3⟩ := HL1.out
        refine ⟨cs ++ [[.bool x.st, .int .i64 x.ck, .int .i64 x.rw.nx, .slice pu0 x.rw.sl.length cu0, .slice pu1 x.rq.length cu1]], ?_, by rw [List.length_append, h2]; rfl, fun j c y hc hy => ?_⟩
        · rw [List.flatten_append, ← h1, show (k + 1) * 5 = k * 5 + 5 from by omega, take_set_succ _ (k * 5 + 4) _ (by first | (simp only [List.length_set]; have := HLl.out; omega) | (have := HLl.out; omega)), take_set_succ _ (k * 5 + 3) _ (by first | (simp only [List.length_set]; have := HLl.out; omega) | (have := HLl.out; omega)), take_set_succ _ (k * 5 + 2) _ (by first | (simp only [List.length_set]; have := HLl.out; omega) | (have := HLl.out; omega)), take_set_succ _ (k * 5 + 1) _ (by first | (simp only [List.length_set]; have := HLl.out; omega) | (have := HLl.out; omega)), take_set_succ _ (k * 5) _ (by first | (simp only [List.length_set]; have := HLl.out; omega) | (have := HLl.out; omega))]
          simp
        · rcases Nat.lt_trichotomy j k with hj | hj | hj
          · rw [List.getElem?_append_left (by omega)] at hc
            exact kRc.grown (h3 j c y hc hy) HG.out (by omega)
          · subst hj
            rw [List.getElem?_append_right (by omega), h2, Nat.sub_self] at hc
            rw [HX.out] at hy
            cases hc; cases hy
            exact ⟨_, _, rfl, Gu0.out.grown HG.out (by omega), Gu1.out.grown HG.out (by omega)⟩
          · have := (List.getElem?_eq_some_iff.1 hc).1
            rw [List.length_append, h2] at this
            simp at this
            omega)
      go_wp2
      go_roundw
      case rel => exact ⟨k + 1, _, by omega, by go_num, HS.out, HLN, HB1.out.grown HG.out HB1.out.size (fun j hj => by cases hj; exact Nat.le_refl _), by have := HG.out.size; have := b1.size; omega⟩
      case measure => simp [intOf]; omega
    · obtain rfl : k = xs.length := by omega
      have HA : Hid (kRc.At w.heap.size wr (.slice (some ⟨w.heap.size, 0, none⟩) xs.length xs.length) xs) := Lib.hid (by
        obtain ⟨cs, h1, h2, h3⟩ := HL.out
        have h4 := hown.1
        rw [List.take_of_length_le (by omega)] at h1
        subst h1
        exact Kd.At.of_own hown rfl (Nat.le_refl _) h2 (fun j c x hc hx => kRc.base (h3 j c x hc hx) (by omega)))
      have HB := Lib.hid hb; clear hb hown HL
      go_wp2
      go_ret
      exact ⟨_, rfl, HA.out, HB.out⟩
set_option maxRecDepth 100000 in
set_option maxHeartbeats 4000000 in
theorem toSw_any (x : NSw) (v0 : Value) (w : World) (a0 : kS.At 0 w v0 x.it) (hf : fitSw 1048576 x) :
    Calls Tryz.prog 45 #[.agg #[.int .i64 x.tr, .int .i64 x.sz, v0]] w fun e w' => ∃ u0, e = .returned (.agg #[.int .i64 x.tr, .int .i64 x.sz, u0]) ∧ kS.At w.heap.size w' u0 x.it ∧ Below w.heap.size w w' := by
  have f0 := hf
  obtain ⟨p0, c0, _, _, rfl, _, _, _⟩ := a0.parts
  have A0 := Lib.hid a0
  clear a0
  go_enter Tryz.func45, Tryz.ntmps45
  go_wp2_with fail
  refine (toLS_any _ x.it _ (A0.out.below (by go_grown)) f0).mono ?_
  rintro e w1 ⟨u0, rfl, g0, b1⟩
  have B1 : Hid (Below w.heap.size w w1) := Lib.hid (Below.trans (by go_grown) (b1.mono (by simp <;> omega)))
  have X1 : Hid (w1.heap[w.heap.size + 0]? = some (.cells #[.int .i64 x.tr, .int .i64 x.sz, .slice p0 x.it.length c0] 27 (0, 0))) := Lib.hid ((b1.block (w.heap.size) (by simp <;> omega)).trans (a30 w _ _ _))
  have R1 : Hid (w1.heap[w.heap.size + 1]? = some (.cells #[.int .i64 0, .int .i64 0, .slice none 0 0] 40 (0, 0))) := Lib.hid ((b1.block (w.heap.size + 1) (by simp <;> omega)).trans (a31 w _ _ _))
  have O1 : Hid (w1.heap[w.heap.size + 2]? = some (.cells #[.int .i64 x.tr, .int .i64 x.sz, .slice none 0 0] 40 (0, 0))) := Lib.hid ((b1.block (w.heap.size + 2) (by simp <;> omega)).trans (a32 w _ _ _))
  have G0_1 : Hid (kS.At (w.heap.size + 3) w1 u0 x.it) := Lib.hid (g0.base (by simp <;> omega))
  clear b1 g0
  obtain ⟨up0, uc0, _, _, rfl, _, _, _⟩ := G0_1.out.parts
  rw [show w.heap.size + 0 = w.heap.size from rfl] at X1
  have xh := X1.out; have x0 := cell_of_row w1 (w.heap.size) 0 _ _ _ xh; simp at x0; have xf0 := frozen_of_row w1 (w.heap.size) 0 _ _ xh; have x1 := cell_of_row w1 (w.heap.size) 1 _ _ _ xh; simp at x1; have xf1 := frozen_of_row w1 (w.heap.size) 1 _ _ xh; have x2 := cell_of_row w1 (w.heap.size) 2 _ _ _ xh; simp at x2; have xf2 := frozen_of_row w1 (w.heap.size) 2 _ _ xh; clear xh
  have yh := R1.out; have y0 := cell_of_row w1 (w.heap.size + 1) 0 _ _ _ yh; simp at y0; have yf0 := frozen_of_row w1 (w.heap.size + 1) 0 _ _ yh; have y1 := cell_of_row w1 (w.heap.size + 1) 1 _ _ _ yh; simp at y1; have yf1 := frozen_of_row w1 (w.heap.size + 1) 1 _ _ yh; have y2 := cell_of_row w1 (w.heap.size + 1) 2 _ _ _ yh; simp at y2; have yf2 := frozen_of_row w1 (w.heap.size + 1) 2 _ _ yh; clear yh
  have zh := O1.out; have z0 := cell_of_row w1 (w.heap.size + 2) 0 _ _ _ zh; simp at z0; have zf0 := frozen_of_row w1 (w.heap.size + 2) 0 _ _ zh; have z1 := cell_of_row w1 (w.heap.size + 2) 1 _ _ _ zh; simp at z1; have zf1 := frozen_of_row w1 (w.heap.size + 2) 1 _ _ zh; have z2 := cell_of_row w1 (w.heap.size + 2) 2 _ _ _ zh; simp at z2; have zf2 := frozen_of_row w1 (w.heap.size + 2) 2 _ _ zh; clear zh
  have zO : w.heap.size + 2 < w1.heap.size := (Array.getElem?_eq_some_iff.1 O1.out).1
  go_wp2
  refine bodyPost_ret (v := (.agg #[.int .i64 x.tr, .int .i64 x.sz, .slice up0 x.it.length uc0])) (by simp [results, Tryz.results45, go_sem, *]) rfl ?_
  refine ⟨_, rfl, ?_, ?_⟩
  · refine Kd.At.base (B := w.heap.size + 3) ?_ (by omega)
    repeat refine Kd.At.setg ?_ (by omega) _ _
    exact G0_1.out
  · repeat refine Below.setCell ?_ (by simp <;> omega) _
    exact B1.out
set_option maxRecDepth 100000 in
set_option maxHeartbeats 4000000 in
theorem toSr_any (x : NSr) (v0 v1 : Value) (w : World) (a0 : kS.At 0 w v0 x.sw.it) (a1 : kHd.At 0 w v1 x.hs) (hf : fitSr 1048576 x) :
    Calls Tryz.prog 19 #[.agg #[.int .i64 x.sw.tr, .int .i64 x.sw.sz, v0, .int .i64 x.ck, .int .i64 x.qt, v1]] w fun e w' => ∃ u0 u1, e = .returned (.agg #[.int .i64 x.sw.tr, .int .i64 x.sw.sz, u0, .int .i64 x.ck, .int .i64 x.qt, u1]) ∧ kS.At w.heap.size w' u0 x.sw.it ∧ kHd.At w.heap.size w' u1 x.hs ∧ Below w.heap.size w w' := by
  obtain ⟨f0, f1⟩ := hf
  obtain ⟨p0, c0, _, _, rfl, _, _, _⟩ := a0.parts
  obtain ⟨p1, c1, _, _, rfl, _, _, _⟩ := a1.parts
  have A0 := Lib.hid a0
  clear a0
  have A1 := Lib.hid a1
  clear a1
  go_enter Tryz.func19, Tryz.ntmps19
  go_wp2_with fail
  refine (toSw_any x.sw _ _ (A0.out.below (by go_grown)) f0).mono ?_
  rintro e w1 ⟨u0, rfl, g0, b1⟩
  have B1 : Hid (Below w.heap.size w w1) := Lib.hid (Below.trans (by go_grown) (b1.mono (by simp <;> omega)))
  have X1 : Hid (w1.heap[w.heap.size + 0]? = some (.cells #[.int .i64 x.sw.tr, .int .i64 x.sw.sz, .slice p0 x.sw.it.length c0, .int .i64 x.ck, .int .i64 x.qt, .slice p1 x.hs.length c1] 30 (0, 0))) := Lib.hid ((b1.block (w.heap.size) (by simp <;> omega)).trans (a30 w _ _ _))
  have R1 : Hid (w1.heap[w.heap.size + 1]? = some (.cells #[.int .i64 0, .int .i64 0, .slice none 0 0, .int .i64 0, .int .i64 0, .slice none 0 0] 43 (0, 0))) := Lib.hid ((b1.block (w.heap.size + 1) (by simp <;> omega)).trans (a31 w _ _ _))
  have O1 : Hid (w1.heap[w.heap.size + 2]? = some (.cells #[.int .i64 0, .int .i64 0, .slice none 0 0, .int .i64 0, .int .i64 0, .slice none 0 0] 43 (0, 0))) := Lib.hid ((b1.block (w.heap.size + 2) (by simp <;> omega)).trans (a32 w _ _ _))
  have G0_1 : Hid (kS.At (w.heap.size + 3) w1 u0 x.sw.it) := Lib.hid (g0.base (by simp <;> omega))
  clear b1 g0
  obtain ⟨up0, uc0, _, _, rfl, _, _, _⟩ := G0_1.out.parts
  rw [show w.heap.size + 0 = w.heap.size from rfl] at X1
  have xh := X1.out; have x0 := cell_of_row w1 (w.heap.size) 0 _ _ _ xh; simp at x0; have xf0 := frozen_of_row w1 (w.heap.size) 0 _ _ xh; have x1 := cell_of_row w1 (w.heap.size) 1 _ _ _ xh; simp at x1; have xf1 := frozen_of_row w1 (w.heap.size) 1 _ _ xh; have x2 := cell_of_row w1 (w.heap.size) 2 _ _ _ xh; simp at x2; have xf2 := frozen_of_row w1 (w.heap.size) 2 _ _ xh; have x3 := cell_of_row w1 (w.heap.size) 3 _ _ _ xh; simp at x3; have xf3 := frozen_of_row w1 (w.heap.size) 3 _ _ xh; have x4 := cell_of_row w1 (w.heap.size) 4 _ _ _ xh; simp at x4; have xf4 := frozen_of_row w1 (w.heap.size) 4 _ _ xh; have x5 := cell_of_row w1 (w.heap.size) 5 _ _ _ xh; simp at x5; have xf5 := frozen_of_row w1 (w.heap.size) 5 _ _ xh; clear xh
  have yh := R1.out; have y0 := cell_of_row w1 (w.heap.size + 1) 0 _ _ _ yh; simp at y0; have yf0 := frozen_of_row w1 (w.heap.size + 1) 0 _ _ yh; have y1 := cell_of_row w1 (w.heap.size + 1) 1 _ _ _ yh; simp at y1; have yf1 := frozen_of_row w1 (w.heap.size + 1) 1 _ _ yh; have y2 := cell_of_row w1 (w.heap.size + 1) 2 _ _ _ yh; simp at y2; have yf2 := frozen_of_row w1 (w.heap.size + 1) 2 _ _ yh; have y3 := cell_of_row w1 (w.heap.size + 1) 3 _ _ _ yh; simp at y3; have yf3 := frozen_of_row w1 (w.heap.size + 1) 3 _ _ yh; have y4 := cell_of_row w1 (w.heap.size + 1) 4 _ _ _ yh; simp at y4; have yf4 := frozen_of_row w1 (w.heap.size + 1) 4 _ _ yh; have y5 := cell_of_row w1 (w.heap.size + 1) 5 _ _ _ yh; simp at y5; have yf5 := frozen_of_row w1 (w.heap.size + 1) 5 _ _ yh; clear yh
  have zh := O1.out; have z0 := cell_of_row w1 (w.heap.size + 2) 0 _ _ _ zh; simp at z0; have zf0 := frozen_of_row w1 (w.heap.size + 2) 0 _ _ zh; have z1 := cell_of_row w1 (w.heap.size + 2) 1 _ _ _ zh; simp at z1; have zf1 := frozen_of_row w1 (w.heap.size + 2) 1 _ _ zh; have z2 := cell_of_row w1 (w.heap.size + 2) 2 _ _ _ zh; simp at z2; have zf2 := frozen_of_row w1 (w.heap.size + 2) 2 _ _ zh; have z3 := cell_of_row w1 (w.heap.size + 2) 3 _ _ _ zh; simp at z3; have zf3 := frozen_of_row w1 (w.heap.size + 2) 3 _ _ zh; have z4 := cell_of_row w1 (w.heap.size + 2) 4 _ _ _ zh; simp at z4; have zf4 := frozen_of_row w1 (w.heap.size + 2) 4 _ _ zh; have z5 := cell_of_row w1 (w.heap.size + 2) 5 _ _ _ zh; simp at z5; have zf5 := frozen_of_row w1 (w.heap.size + 2) 5 _ _ zh; clear zh
  have zO : w.heap.size + 2 < w1.heap.size := (Array.getElem?_eq_some_iff.1 O1.out).1
  have BW1 : Hid (Below w.heap.size w (((((w1.setCell ⟨w.heap.size + 2, 0, none⟩ (.int .i64 x.sw.tr)).setCell ⟨w.heap.size + 2, 1, none⟩ (.int .i64 x.sw.sz)).setCell ⟨w.heap.size + 2, 2, none⟩ (.slice up0 x.sw.it.length uc0)).setCell ⟨w.heap.size + 2, 3, none⟩ (.int .i64 x.ck)).setCell ⟨w.heap.size + 2, 4, none⟩ (.int .i64 x.qt))) := Lib.hid (by (repeat refine Below.setCell ?_ (by simp <;> omega) _); exact B1.out)
  have sW1 : (((((w1.setCell ⟨w.heap.size + 2, 0, none⟩ (.int .i64 x.sw.tr)).setCell ⟨w.heap.size + 2, 1, none⟩ (.int .i64 x.sw.sz)).setCell ⟨w.heap.size + 2, 2, none⟩ (.slice up0 x.sw.it.length uc0)).setCell ⟨w.heap.size + 2, 3, none⟩ (.int .i64 x.ck)).setCell ⟨w.heap.size + 2, 4, none⟩ (.int .i64 x.qt)).heap.size = w1.heap.size := by simp
  have XW1 : Hid ((((((w1.setCell ⟨w.heap.size + 2, 0, none⟩ (.int .i64 x.sw.tr)).setCell ⟨w.heap.size + 2, 1, none⟩ (.int .i64 x.sw.sz)).setCell ⟨w.heap.size + 2, 2, none⟩ (.slice up0 x.sw.it.length uc0)).setCell ⟨w.heap.size + 2, 3, none⟩ (.int .i64 x.ck)).setCell ⟨w.heap.size + 2, 4, none⟩ (.int .i64 x.qt)).heap[w.heap.size + 0]? = _) := Lib.hid ((set_other ((((w1.setCell ⟨w.heap.size + 2, 0, none⟩ (.int .i64 x.sw.tr)).setCell ⟨w.heap.size + 2, 1, none⟩ (.int .i64 x.sw.sz)).setCell ⟨w.heap.size + 2, 2, none⟩ (.slice up0 x.sw.it.length uc0)).setCell ⟨w.heap.size + 2, 3, none⟩ (.int .i64 x.ck)) ⟨w.heap.size + 2, 4, none⟩ (.int .i64 x.qt) (w.heap.size + 0) (by simp)).trans ((set_other (((w1.setCell ⟨w.heap.size + 2, 0, none⟩ (.int .i64 x.sw.tr)).setCell ⟨w.heap.size + 2, 1, none⟩ (.int .i64 x.sw.sz)).setCell ⟨w.heap.size + 2, 2, none⟩ (.slice up0 x.sw.it.length uc0)) ⟨w.heap.size + 2, 3, none⟩ (.int .i64 x.ck) (w.heap.size + 0) (by simp)).trans ((set_other ((w1.setCell ⟨w.heap.size + 2, 0, none⟩ (.int .i64 x.sw.tr)).setCell ⟨w.heap.size + 2, 1, none⟩ (.int .i64 x.sw.sz)) ⟨w.heap.size + 2, 2, none⟩ (.slice up0 x.sw.it.length uc0) (w.heap.size + 0) (by simp)).trans ((set_other (w1.setCell ⟨w.heap.size + 2, 0, none⟩ (.int .i64 x.sw.tr)) ⟨w.heap.size + 2, 1, none⟩ (.int .i64 x.sw.sz) (w.heap.size + 0) (by simp)).trans ((set_other w1 ⟨w.heap.size + 2, 0, none⟩ (.int .i64 x.sw.tr) (w.heap.size + 0) (by simp)).trans (X1.out))))))
  have RW1 : Hid ((((((w1.setCell ⟨w.heap.size + 2, 0, none⟩ (.int .i64 x.sw.tr)).setCell ⟨w.heap.size + 2, 1, none⟩ (.int .i64 x.sw.sz)).setCell ⟨w.heap.size + 2, 2, none⟩ (.slice up0 x.sw.it.length uc0)).setCell ⟨w.heap.size + 2, 3, none⟩ (.int .i64 x.ck)).setCell ⟨w.heap.size + 2, 4, none⟩ (.int .i64 x.qt)).heap[w.heap.size + 1]? = _) := Lib.hid ((set_other ((((w1.setCell ⟨w.heap.size + 2, 0, none⟩ (.int .i64 x.sw.tr)).setCell ⟨w.heap.size + 2, 1, none⟩ (.int .i64 x.sw.sz)).setCell ⟨w.heap.size + 2, 2, none⟩ (.slice up0 x.sw.it.length uc0)).setCell ⟨w.heap.size + 2, 3, none⟩ (.int .i64 x.ck)) ⟨w.heap.size + 2, 4, none⟩ (.int .i64 x.qt) (w.heap.size + 1) (by simp)).trans ((set_other (((w1.setCell ⟨w.heap.size + 2, 0, none⟩ (.int .i64 x.sw.tr)).setCell ⟨w.heap.size + 2, 1, none⟩ (.int .i64 x.sw.sz)).setCell ⟨w.heap.size + 2, 2, none⟩ (.slice up0 x.sw.it.length uc0)) ⟨w.heap.size + 2, 3, none⟩ (.int .i64 x.ck) (w.heap.size + 1) (by simp)).trans ((set_other ((w1.setCell ⟨w.heap.size + 2, 0, none⟩ (.int .i64 x.sw.tr)).setCell ⟨w.heap.size + 2, 1, none⟩ (.int .i64 x.sw.sz)) ⟨w.heap.size + 2, 2, none⟩ (.slice up0 x.sw.it.length uc0) (w.heap.size + 1) (by simp)).trans ((set_other (w1.setCell ⟨w.heap.size + 2, 0, none⟩ (.int .i64 x.sw.tr)) ⟨w.heap.size + 2, 1, none⟩ (.int .i64 x.sw.sz) (w.heap.size + 1) (by simp)).trans ((set_other w1 ⟨w.heap.size + 2, 0, none⟩ (.int .i64 x.sw.tr) (w.heap.size + 1) (by simp)).trans (R1.out))))))
  have OW1 : Hid ((((((w1.setCell ⟨w.heap.size + 2, 0, none⟩ (.int .i64 x.sw.tr)).setCell ⟨w.heap.size + 2, 1, none⟩ (.int .i64 x.sw.sz)).setCell ⟨w.heap.size + 2, 2, none⟩ (.slice up0 x.sw.it.length uc0)).setCell ⟨w.heap.size + 2, 3, none⟩ (.int .i64 x.ck)).setCell ⟨w.heap.size + 2, 4, none⟩ (.int .i64 x.qt)).heap[w.heap.size + 2]? = some (.cells #[.int .i64 x.sw.tr, .int .i64 x.sw.sz, .slice up0 x.sw.it.length uc0, .int .i64 x.ck, .int .i64 x.qt, .slice none 0 0] 43 (0, 0))) := Lib.hid (set_at (set_at (set_at (set_at (set_at (O1.out) 0 (.int .i64 x.sw.tr)) 1 (.int .i64 x.sw.sz)) 2 (.slice up0 x.sw.it.length uc0)) 3 (.int .i64 x.ck)) 4 (.int .i64 x.qt))
  have G0_1W : Hid (kS.At (w.heap.size + 3) (((((w1.setCell ⟨w.heap.size + 2, 0, none⟩ (.int .i64 x.sw.tr)).setCell ⟨w.heap.size + 2, 1, none⟩ (.int .i64 x.sw.sz)).setCell ⟨w.heap.size + 2, 2, none⟩ (.slice up0 x.sw.it.length uc0)).setCell ⟨w.heap.size + 2, 3, none⟩ (.int .i64 x.ck)).setCell ⟨w.heap.size + 2, 4, none⟩ (.int .i64 x.qt)) (.slice up0 x.sw.it.length uc0) x.sw.it) := Lib.hid (by (repeat refine Kd.At.setg ?_ (by omega) _ _); exact G0_1.out)
  go_wp2_with fail
  refine (toLHd_any _ x.hs _ (A1.out.below BW1.out) f1).mono ?_
  rintro e w2 ⟨u1, rfl, g1, b2⟩
  have B2 : Hid (Below w.heap.size w w2) := Lib.hid (BW1.out.trans (b2.mono BW1.out.size))
  have X2 := Lib.hid ((b2.block (w.heap.size + 0) (Array.getElem?_eq_some_iff.1 XW1.out).1).trans XW1.out)
  have R2 := Lib.hid ((b2.block (w.heap.size + 1) (Array.getElem?_eq_some_iff.1 RW1.out).1).trans RW1.out)
  have O2 := Lib.hid ((b2.block (w.heap.size + 2) (Array.getElem?_eq_some_iff.1 OW1.out).1).trans OW1.out)
  have G0_2 := Lib.hid (G0_1W.out.below b2)
  have lO1 := (Array.getElem?_eq_some_iff.1 O1.out).1
  have G1_2 : Hid (kHd.At (w.heap.size + 3) w2 u1 x.hs) := Lib.hid (g1.base (by rw [sW1]; omega))
  clear b2 g1 x0 xf0 x1 xf1 x2 xf2 x3 xf3 x4 xf4 x5 xf5 y0 yf0 y1 yf1 y2 yf2 y3 yf3 y4 yf4 y5 yf5 z0 zf0 z1 zf1 z2 zf2 z3 zf3 z4 zf4 z5 zf5
  obtain ⟨up1, uc1, _, _, rfl, _, _, _⟩ := G1_2.out.parts
  rw [show w.heap.size + 0 = w.heap.size from rfl] at X2
  have xh := X2.out; have x0 := cell_of_row w2 (w.heap.size) 0 _ _ _ xh; simp at x0; have xf0 := frozen_of_row w2 (w.heap.size) 0 _ _ xh; have x1 := cell_of_row w2 (w.heap.size) 1 _ _ _ xh; simp at x1; have xf1 := frozen_of_row w2 (w.heap.size) 1 _ _ xh; have x2 := cell_of_row w2 (w.heap.size) 2 _ _ _ xh; simp at x2; have xf2 := frozen_of_row w2 (w.heap.size) 2 _ _ xh; have x3 := cell_of_row w2 (w.heap.size) 3 _ _ _ xh; simp at x3; have xf3 := frozen_of_row w2 (w.heap.size) 3 _ _ xh; have x4 := cell_of_row w2 (w.heap.size) 4 _ _ _ xh; simp at x4; have xf4 := frozen_of_row w2 (w.heap.size) 4 _ _ xh; have x5 := cell_of_row w2 (w.heap.size) 5 _ _ _ xh; simp at x5; have xf5 := frozen_of_row w2 (w.heap.size) 5 _ _ xh; clear xh
  have yh := R2.out; have y0 := cell_of_row w2 (w.heap.size + 1) 0 _ _ _ yh; simp at y0; have yf0 := frozen_of_row w2 (w.heap.size + 1) 0 _ _ yh; have y1 := cell_of_row w2 (w.heap.size + 1) 1 _ _ _ yh; simp at y1; have yf1 := frozen_of_row w2 (w.heap.size + 1) 1 _ _ yh; have y2 := cell_of_row w2 (w.heap.size + 1) 2 _ _ _ yh; simp at y2; have yf2 := frozen_of_row w2 (w.heap.size + 1) 2 _ _ yh; have y3 := cell_of_row w2 (w.heap.size + 1) 3 _ _ _ yh; simp at y3; have yf3 := frozen_of_row w2 (w.heap.size + 1) 3 _ _ yh; have y4 := cell_of_row w2 (w.heap.size + 1) 4 _ _ _ yh; simp at y4; have yf4 := frozen_of_row w2 (w.heap.size + 1) 4 _ _ yh; have y5 := cell_of_row w2 (w.heap.size + 1) 5 _ _ _ yh; simp at y5; have yf5 := frozen_of_row w2 (w.heap.size + 1) 5 _ _ yh; clear yh
  have zh := O2.out; have z0 := cell_of_row w2 (w.heap.size + 2) 0 _ _ _ zh; simp at z0; have zf0 := frozen_of_row w2 (w.heap.size + 2) 0 _ _ zh; have z1 := cell_of_row w2 (w.heap.size + 2) 1 _ _ _ zh; simp at z1; have zf1 := frozen_of_row w2 (w.heap.size + 2) 1 _ _ zh; have z2 := cell_of_row w2 (w.heap.size + 2) 2 _ _ _ zh; simp at z2; have zf2 := frozen_of_row w2 (w.heap.size + 2) 2 _ _ zh; have z3 := cell_of_row w2 (w.heap.size + 2) 3 _ _ _ zh; simp at z3; have zf3 := frozen_of_row w2 (w.heap.size + 2) 3 _ _ zh; have z4 := cell_of_row w2 (w.heap.size + 2) 4 _ _ _ zh; simp at z4; have zf4 := frozen_of_row w2 (w.heap.size + 2) 4 _ _ zh; have z5 := cell_of_row w2 (w.heap.size + 2) 5 _ _ _ zh; simp at z5; have zf5 := frozen_of_row w2 (w.heap.size + 2) 5 _ _ zh; clear zh
  have zO : w.heap.size + 2 < w2.heap.size := (Array.getElem?_eq_some_iff.1 O2.out).1
  go_wp2
  refine bodyPost_ret (v := (.agg #[.int .i64 x.sw.tr, .int .i64 x.sw.sz, .slice up0 x.sw.it.length uc0, .int .i64 x.ck, .int .i64 x.qt, .slice up1 x.hs.length uc1])) (by simp [results, Tryz.results19, go_sem, *]) rfl ?_
  refine ⟨_, _, rfl, ?_, ?_, ?_⟩
  · refine Kd.At.base (B := w.heap.size + 3) ?_ (by omega)
    repeat refine Kd.At.setg ?_ (by omega) _ _
    exact G0_2.out
  · refine Kd.At.base (B := w.heap.size + 3) ?_ (by omega)
    repeat refine Kd.At.setg ?_ (by omega) _ _
    exact G1_2.out
  · repeat refine Below.setCell ?_ (by simp <;> omega) _
    exact B2.out
set_option maxRecDepth 100000 in
set_option maxHeartbeats 4000000 in
theorem toTr_any (x : NTr) (v0 : Value) (w : World) (a0 : kI.At 0 w v0 x.pa) (hf : fitTr 1048576 x) :
    Calls Tryz.prog 18 #[.agg #[v0]] w fun e w' => ∃ u0, e = .returned (.agg #[u0]) ∧ kI.At w.heap.size w' u0 x.pa ∧ Below w.heap.size w w' := by
  have f0 := hf
  obtain ⟨p0, c0, _, _, rfl, _, _, _⟩ := a0.parts
  have A0 := Lib.hid a0
  clear a0
  go_enter Tryz.func18, Tryz.ntmps18
  go_wp2_with fail
  refine (toLI_any _ x.pa _ (A0.out.below (by go_grown)) f0).mono ?_
  rintro e w1 ⟨u0, rfl, g0, b1⟩
  have B1 : Hid (Below w.heap.size w w1) := Lib.hid (Below.trans (by go_grown) (b1.mono (by simp <;> omega)))
  have X1 : Hid (w1.heap[w.heap.size + 0]? = some (.cells #[.slice p0 x.pa.length c0] 24 (0, 0))) := Lib.hid ((b1.block (w.heap.size) (by simp <;> omega)).trans (a30 w _ _ _))
  have R1 : Hid (w1.heap[w.heap.size + 1]? = some (.cells #[.slice none 0 0] 39 (0, 0))) := Lib.hid ((b1.block (w.heap.size + 1) (by simp <;> omega)).trans (a31 w _ _ _))
  have O1 : Hid (w1.heap[w.heap.size + 2]? = some (.cells #[.slice none 0 0] 39 (0, 0))) := Lib.hid ((b1.block (w.heap.size + 2) (by simp <;> omega)).trans (a32 w _ _ _))
  have G0_1 : Hid (kI.At (w.heap.size + 3) w1 u0 x.pa) := Lib.hid (g0.base (by simp <;> omega))
  clear b1 g0
  obtain ⟨up0, uc0, _, _, rfl, _, _, _⟩ := G0_1.out.parts
  rw [show w.heap.size + 0 = w.heap.size from rfl] at X1
  have xh := X1.out; have x0 := cell_of_row w1 (w.heap.size) 0 _ _ _ xh; simp at x0; have xf0 := frozen_of_row w1 (w.heap.size) 0 _ _ xh; clear xh
  have yh := R1.out; have y0 := cell_of_row w1 (w.heap.size + 1) 0 _ _ _ yh; simp at y0; have yf0 := frozen_of_row w1 (w.heap.size + 1) 0 _ _ yh; clear yh
  have zh := O1.out; have z0 := cell_of_row w1 (w.heap.size + 2) 0 _ _ _ zh; simp at z0; have zf0 := frozen_of_row w1 (w.heap.size + 2) 0 _ _ zh; clear zh
  have zO : w.heap.size + 2 < w1.heap.size := (Array.getElem?_eq_some_iff.1 O1.out).1
  go_wp2
  refine bodyPost_ret (v := (.agg #[.slice up0 x.pa.length uc0])) (by simp [results, Tryz.results18, go_sem, *]) rfl ?_
  refine ⟨_, rfl, ?_, ?_⟩
  · refine Kd.At.base (B := w.heap.size + 3) ?_ (by omega)
    repeat refine Kd.At.setg ?_ (by omega) _ _
    exact G0_1.out
  · repeat refine Below.setCell ?_ (by simp <;> omega) _
    exact B1.out
end Go.Proofs.YtihpibdodlgpaaaGreatDoor
