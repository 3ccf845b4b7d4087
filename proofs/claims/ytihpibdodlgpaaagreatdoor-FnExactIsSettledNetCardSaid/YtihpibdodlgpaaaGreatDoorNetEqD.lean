/- Contracts of the harness's functions that compare the data of networks: equal ones are found equal. -/
import Derived.Test.YtihpibdodlgpaaaGreatDoorNetEqB
import Derived.Test.YtihpibdodlgpaaaGreatDoorNetEqC
import Derived.Handy
import Derived.BigQuiet
namespace Go.Proofs.YtihpibdodlgpaaaGreatDoor
open Go.RowKit

set_option maxRecDepth 100000 in
set_option maxHeartbeats 4000000 in
theorem eqNt_any (x : NNet) (v0 v1 v2 v3 v4 v5 v6 u0 u1 u2 u3 u4 u5 u6 : Value) (w : World) (a0 : kI.At 0 w v0 x.tr.pa) (a1 : kS.At 0 w v1 x.sr.sw.it) (a2 : kHd.At 0 w v2 x.sr.hs) (a3 : kEl.At 0 w v3 x.el) (a4 : kRc.At 0 w v4 x.rc) (a5 : kPq.At 0 w v5 x.dn) (a6 : kPq.At 0 w v6 x.up) (b0 : kI.At 0 w u0 x.tr.pa) (b1 : kS.At 0 w u1 x.sr.sw.it) (b2 : kHd.At 0 w u2 x.sr.hs) (b3 : kEl.At 0 w u3 x.el) (b4 : kRc.At 0 w u4 x.rc) (b5 : kPq.At 0 w u5 x.dn) (b6 : kPq.At 0 w u6 x.up) (hf : fitNt 1048576 x) :
    Calls Tryz.prog 9 #[.agg #[v0, .int .i64 x.sr.sw.tr, .int .i64 x.sr.sw.sz, v1, .int .i64 x.sr.ck, .int .i64 x.sr.qt, v2, v3, v4, v5, v6], .agg #[u0, .int .i64 x.sr.sw.tr, .int .i64 x.sr.sw.sz, u1, .int .i64 x.sr.ck, .int .i64 x.sr.qt, u2, u3, u4, u5, u6]] w fun e w' => e = .returned (.bool true) ∧ Below w.heap.size w w' := by
  obtain ⟨f0, f1, f2, f3, f4, f5⟩ := hf
  obtain ⟨p0, c0, _, _, rfl, _, _, _⟩ := a0.parts
  obtain ⟨q0, d0, _, _, rfl, _, _, _⟩ := b0.parts
  obtain ⟨p1, c1, _, _, rfl, _, _, _⟩ := a1.parts
  obtain ⟨q1, d1, _, _, rfl, _, _, _⟩ := b1.parts
  obtain ⟨p2, c2, _, _, rfl, _, _, _⟩ := a2.parts
  obtain ⟨q2, d2, _, _, rfl, _, _, _⟩ := b2.parts
  obtain ⟨p3, c3, _, _, rfl, _, _, _⟩ := a3.parts
  obtain ⟨q3, d3, _, _, rfl, _, _, _⟩ := b3.parts
  obtain ⟨p4, c4, _, _, rfl, _, _, _⟩ := a4.parts
  obtain ⟨q4, d4, _, _, rfl, _, _, _⟩ := b4.parts
  obtain ⟨p5, c5, _, _, rfl, _, _, _⟩ := a5.parts
  obtain ⟨q5, d5, _, _, rfl, _, _, _⟩ := b5.parts
  obtain ⟨p6, c6, _, _, rfl, _, _, _⟩ := a6.parts
  obtain ⟨q6, d6, _, _, rfl, _, _, _⟩ := b6.parts
  have A0 := Lib.hid a0
  have E0 := Lib.hid b0
  clear a0 b0
  have A1 := Lib.hid a1
  have E1 := Lib.hid b1
  clear a1 b1
  have A2 := Lib.hid a2
  have E2 := Lib.hid b2
  clear a2 b2
  have A3 := Lib.hid a3
  have E3 := Lib.hid b3
  clear a3 b3
  have A4 := Lib.hid a4
  have E4 := Lib.hid b4
  clear a4 b4
  have A5 := Lib.hid a5
  have E5 := Lib.hid b5
  clear a5 b5
  have A6 := Lib.hid a6
  have E6 := Lib.hid b6
  clear a6 b6
  go_enter Tryz.func9, Tryz.ntmps9
  go_wp2_with fail
  refine (eqTr_any x.tr _ _ _ (A0.out.below (by go_grown)) (E0.out.below (by go_grown)) f0).mono ?_
  rintro e w1 ⟨rfl, b1⟩
  have B1 : Hid (Below w.heap.size w w1) := Lib.hid (Below.trans (by go_grown) (b1.mono (by simp <;> omega)))
  have X1 : Hid (w1.heap[w.heap.size]? = some (.cells #[.slice p0 x.tr.pa.length c0, .int .i64 x.sr.sw.tr, .int .i64 x.sr.sw.sz, .slice p1 x.sr.sw.it.length c1, .int .i64 x.sr.ck, .int .i64 x.sr.qt, .slice p2 x.sr.hs.length c2, .slice p3 x.el.length c3, .slice p4 x.rc.length c4, .slice p5 x.dn.length c5, .slice p6 x.up.length c6] 48 (0, 0))) := Lib.hid ((b1.block w.heap.size (by simp <;> omega)).trans (heap_alloc2_old w _ _))
  have Y1 : Hid (w1.heap[w.heap.size + 1]? = some (.cells #[.slice q0 x.tr.pa.length d0, .int .i64 x.sr.sw.tr, .int .i64 x.sr.sw.sz, .slice q1 x.sr.sw.it.length d1, .int .i64 x.sr.ck, .int .i64 x.sr.qt, .slice q2 x.sr.hs.length d2, .slice q3 x.el.length d3, .slice q4 x.rc.length d4, .slice q5 x.dn.length d5, .slice q6 x.up.length d6] 48 (0, 0))) := Lib.hid ((b1.block (w.heap.size + 1) (by simp <;> omega)).trans (heap_alloc2_new w _ _))
  clear b1
  have xh := X1.out; have x0 := cell_of_row w1 (w.heap.size) 0 _ _ _ xh; simp at x0; have xf0 := frozen_of_row w1 (w.heap.size) 0 _ _ xh; have x1 := cell_of_row w1 (w.heap.size) 1 _ _ _ xh; simp at x1; have xf1 := frozen_of_row w1 (w.heap.size) 1 _ _ xh; have x2 := cell_of_row w1 (w.heap.size) 2 _ _ _ xh; simp at x2; have xf2 := frozen_of_row w1 (w.heap.size) 2 _ _ xh; have x3 := cell_of_row w1 (w.heap.size) 3 _ _ _ xh; simp at x3; have xf3 := frozen_of_row w1 (w.heap.size) 3 _ _ xh; have x4 := cell_of_row w1 (w.heap.size) 4 _ _ _ xh; simp at x4; have xf4 := frozen_of_row w1 (w.heap.size) 4 _ _ xh; have x5 := cell_of_row w1 (w.heap.size) 5 _ _ _ xh; simp at x5; have xf5 := frozen_of_row w1 (w.heap.size) 5 _ _ xh; have x6 := cell_of_row w1 (w.heap.size) 6 _ _ _ xh; simp at x6; have xf6 := frozen_of_row w1 (w.heap.size) 6 _ _ xh; have x7 := cell_of_row w1 (w.heap.size) 7 _ _ _ xh; simp at x7; have xf7 := frozen_of_row w1 (w.heap.size) 7 _ _ xh; have x8 := cell_of_row w1 (w.heap.size) 8 _ _ _ xh; simp at x8; have xf8 := frozen_of_row w1 (w.heap.size) 8 _ _ xh; have x9 := cell_of_row w1 (w.heap.size) 9 _ _ _ xh; simp at x9; have xf9 := frozen_of_row w1 (w.heap.size) 9 _ _ xh; have x10 := cell_of_row w1 (w.heap.size) 10 _ _ _ xh; simp at x10; have xf10 := frozen_of_row w1 (w.heap.size) 10 _ _ xh; clear xh
  have yh := Y1.out; have y0 := cell_of_row w1 (w.heap.size + 1) 0 _ _ _ yh; simp at y0; have yf0 := frozen_of_row w1 (w.heap.size + 1) 0 _ _ yh; have y1 := cell_of_row w1 (w.heap.size + 1) 1 _ _ _ yh; simp at y1; have yf1 := frozen_of_row w1 (w.heap.size + 1) 1 _ _ yh; have y2 := cell_of_row w1 (w.heap.size + 1) 2 _ _ _ yh; simp at y2; have yf2 := frozen_of_row w1 (w.heap.size + 1) 2 _ _ yh; have y3 := cell_of_row w1 (w.heap.size + 1) 3 _ _ _ yh; simp at y3; have yf3 := frozen_of_row w1 (w.heap.size + 1) 3 _ _ yh; have y4 := cell_of_row w1 (w.heap.size + 1) 4 _ _ _ yh; simp at y4; have yf4 := frozen_of_row w1 (w.heap.size + 1) 4 _ _ yh; have y5 := cell_of_row w1 (w.heap.size + 1) 5 _ _ _ yh; simp at y5; have yf5 := frozen_of_row w1 (w.heap.size + 1) 5 _ _ yh; have y6 := cell_of_row w1 (w.heap.size + 1) 6 _ _ _ yh; simp at y6; have yf6 := frozen_of_row w1 (w.heap.size + 1) 6 _ _ yh; have y7 := cell_of_row w1 (w.heap.size + 1) 7 _ _ _ yh; simp at y7; have yf7 := frozen_of_row w1 (w.heap.size + 1) 7 _ _ yh; have y8 := cell_of_row w1 (w.heap.size + 1) 8 _ _ _ yh; simp at y8; have yf8 := frozen_of_row w1 (w.heap.size + 1) 8 _ _ yh; have y9 := cell_of_row w1 (w.heap.size + 1) 9 _ _ _ yh; simp at y9; have yf9 := frozen_of_row w1 (w.heap.size + 1) 9 _ _ yh; have y10 := cell_of_row w1 (w.heap.size + 1) 10 _ _ _ yh; simp at y10; have yf10 := frozen_of_row w1 (w.heap.size + 1) 10 _ _ yh; clear yh
  go_wp2_with fail
  refine (eqSr_any x.sr _ _ _ _ _ (A1.out.below B1.out) (A2.out.below B1.out) (E1.out.below B1.out) (E2.out.below B1.out) f1).mono ?_
  rintro e w2 ⟨rfl, b2⟩
  have B2 : Hid (Below w.heap.size w w2) := Lib.hid (B1.out.trans (b2.mono B1.out.size))
  have X2 := Lib.hid ((b2.block (w.heap.size) (Array.getElem?_eq_some_iff.1 X1.out).1).trans X1.out)
  have Y2 := Lib.hid ((b2.block (w.heap.size + 1) (Array.getElem?_eq_some_iff.1 Y1.out).1).trans Y1.out)
  clear b2 x0 xf0 x1 xf1 x2 xf2 x3 xf3 x4 xf4 x5 xf5 x6 xf6 x7 xf7 x8 xf8 x9 xf9 x10 xf10 y0 yf0 y1 yf1 y2 yf2 y3 yf3 y4 yf4 y5 yf5 y6 yf6 y7 yf7 y8 yf8 y9 yf9 y10 yf10
  have xh := X2.out; have x0 := cell_of_row w2 (w.heap.size) 0 _ _ _ xh; simp at x0; have xf0 := frozen_of_row w2 (w.heap.size) 0 _ _ xh; have x1 := cell_of_row w2 (w.heap.size) 1 _ _ _ xh; simp at x1; have xf1 := frozen_of_row w2 (w.heap.size) 1 _ _ xh; have x2 := cell_of_row w2 (w.heap.size) 2 _ _ _ xh; simp at x2; have xf2 := frozen_of_row w2 (w.heap.size) 2 _ _ xh; have x3 := cell_of_row w2 (w.heap.size) 3 _ _ _ xh; simp at x3; have xf3 := frozen_of_row w2 (w.heap.size) 3 _ _ xh; have x4 := cell_of_row w2 (w.heap.size) 4 _ _ _ xh; simp at x4; have xf4 := frozen_of_row w2 (w.heap.size) 4 _ _ xh; have x5 := cell_of_row w2 (w.heap.size) 5 _ _ _ xh; simp at x5; have xf5 := frozen_of_row w2 (w.heap.size) 5 _ _ xh; have x6 := cell_of_row w2 (w.heap.size) 6 _ _ _ xh; simp at x6; have xf6 := frozen_of_row w2 (w.heap.size) 6 _ _ xh; have x7 := cell_of_row w2 (w.heap.size) 7 _ _ _ xh; simp at x7; have xf7 := frozen_of_row w2 (w.heap.size) 7 _ _ xh; have x8 := cell_of_row w2 (w.heap.size) 8 _ _ _ xh; simp at x8; have xf8 := frozen_of_row w2 (w.heap.size) 8 _ _ xh; have x9 := cell_of_row w2 (w.heap.size) 9 _ _ _ xh; simp at x9; have xf9 := frozen_of_row w2 (w.heap.size) 9 _ _ xh; have x10 := cell_of_row w2 (w.heap.size) 10 _ _ _ xh; simp at x10; have xf10 := frozen_of_row w2 (w.heap.size) 10 _ _ xh; clear xh
  have yh := Y2.out; have y0 := cell_of_row w2 (w.heap.size + 1) 0 _ _ _ yh; simp at y0; have yf0 := frozen_of_row w2 (w.heap.size + 1) 0 _ _ yh; have y1 := cell_of_row w2 (w.heap.size + 1) 1 _ _ _ yh; simp at y1; have yf1 := frozen_of_row w2 (w.heap.size + 1) 1 _ _ yh; have y2 := cell_of_row w2 (w.heap.size + 1) 2 _ _ _ yh; simp at y2; have yf2 := frozen_of_row w2 (w.heap.size + 1) 2 _ _ yh; have y3 := cell_of_row w2 (w.heap.size + 1) 3 _ _ _ yh; simp at y3; have yf3 := frozen_of_row w2 (w.heap.size + 1) 3 _ _ yh; have y4 := cell_of_row w2 (w.heap.size + 1) 4 _ _ _ yh; simp at y4; have yf4 := frozen_of_row w2 (w.heap.size + 1) 4 _ _ yh; have y5 := cell_of_row w2 (w.heap.size + 1) 5 _ _ _ yh; simp at y5; have yf5 := frozen_of_row w2 (w.heap.size + 1) 5 _ _ yh; have y6 := cell_of_row w2 (w.heap.size + 1) 6 _ _ _ yh; simp at y6; have yf6 := frozen_of_row w2 (w.heap.size + 1) 6 _ _ yh; have y7 := cell_of_row w2 (w.heap.size + 1) 7 _ _ _ yh; simp at y7; have yf7 := frozen_of_row w2 (w.heap.size + 1) 7 _ _ yh; have y8 := cell_of_row w2 (w.heap.size + 1) 8 _ _ _ yh; simp at y8; have yf8 := frozen_of_row w2 (w.heap.size + 1) 8 _ _ yh; have y9 := cell_of_row w2 (w.heap.size + 1) 9 _ _ _ yh; simp at y9; have yf9 := frozen_of_row w2 (w.heap.size + 1) 9 _ _ yh; have y10 := cell_of_row w2 (w.heap.size + 1) 10 _ _ _ yh; simp at y10; have yf10 := frozen_of_row w2 (w.heap.size + 1) 10 _ _ yh; clear yh
  go_wp2_with fail
  refine (eqLEl_any _ _ x.el _ (A3.out.below B2.out) (E3.out.below B2.out) f2).mono ?_
  rintro e w3 ⟨rfl, b3⟩
  have B3 : Hid (Below w.heap.size w w3) := Lib.hid (B2.out.trans (b3.mono B2.out.size))
  have X3 := Lib.hid ((b3.block (w.heap.size) (Array.getElem?_eq_some_iff.1 X2.out).1).trans X2.out)
  have Y3 := Lib.hid ((b3.block (w.heap.size + 1) (Array.getElem?_eq_some_iff.1 Y2.out).1).trans Y2.out)
  clear b3 x0 xf0 x1 xf1 x2 xf2 x3 xf3 x4 xf4 x5 xf5 x6 xf6 x7 xf7 x8 xf8 x9 xf9 x10 xf10 y0 yf0 y1 yf1 y2 yf2 y3 yf3 y4 yf4 y5 yf5 y6 yf6 y7 yf7 y8 yf8 y9 yf9 y10 yf10
  have xh := X3.out; have x0 := cell_of_row w3 (w.heap.size) 0 _ _ _ xh; simp at x0; have xf0 := frozen_of_row w3 (w.heap.size) 0 _ _ xh; have x1 := cell_of_row w3 (w.heap.size) 1 _ _ _ xh; simp at x1; have xf1 := frozen_of_row w3 (w.heap.size) 1 _ _ xh; have x2 := cell_of_row w3 (w.heap.size) 2 _ _ _ xh; simp at x2; have xf2 := frozen_of_row w3 (w.heap.size) 2 _ _ xh; have x3 := cell_of_row w3 (w.heap.size) 3 _ _ _ xh; simp at x3; have xf3 := frozen_of_row w3 (w.heap.size) 3 _ _ xh; have x4 := cell_of_row w3 (w.heap.size) 4 _ _ _ xh; simp at x4; have xf4 := frozen_of_row w3 (w.heap.size) 4 _ _ xh; have x5 := cell_of_row w3 (w.heap.size) 5 _ _ _ xh; simp at x5; have xf5 := frozen_of_row w3 (w.heap.size) 5 _ _ xh; have x6 := cell_of_row w3 (w.heap.size) 6 _ _ _ xh; simp at x6; have xf6 := frozen_of_row w3 (w.heap.size) 6 _ _ xh; have x7 := cell_of_row w3 (w.heap.size) 7 _ _ _ xh; simp at x7; have xf7 := frozen_of_row w3 (w.heap.size) 7 _ _ xh; have x8 := cell_of_row w3 (w.heap.size) 8 _ _ _ xh; simp at x8; have xf8 := frozen_of_row w3 (w.heap.size) 8 _ _ xh; have x9 := cell_of_row w3 (w.heap.size) 9 _ _ _ xh; simp at x9; have xf9 := frozen_of_row w3 (w.heap.size) 9 _ _ xh; have x10 := cell_of_row w3 (w.heap.size) 10 _ _ _ xh; simp at x10; have xf10 := frozen_of_row w3 (w.heap.size) 10 _ _ xh; clear xh
  have yh := Y3.out; have y0 := cell_of_row w3 (w.heap.size + 1) 0 _ _ _ yh; simp at y0; have yf0 := frozen_of_row w3 (w.heap.size + 1) 0 _ _ yh; have y1 := cell_of_row w3 (w.heap.size + 1) 1 _ _ _ yh; simp at y1; have yf1 := frozen_of_row w3 (w.heap.size + 1) 1 _ _ yh; have y2 := cell_of_row w3 (w.heap.size + 1) 2 _ _ _ yh; simp at y2; have yf2 := frozen_of_row w3 (w.heap.size + 1) 2 _ _ yh; have y3 := cell_of_row w3 (w.heap.size + 1) 3 _ _ _ yh; simp at y3; have yf3 := frozen_of_row w3 (w.heap.size + 1) 3 _ _ yh; have y4 := cell_of_row w3 (w.heap.size + 1) 4 _ _ _ yh; simp at y4; have yf4 := frozen_of_row w3 (w.heap.size + 1) 4 _ _ yh; have y5 := cell_of_row w3 (w.heap.size + 1) 5 _ _ _ yh; simp at y5; have yf5 := frozen_of_row w3 (w.heap.size + 1) 5 _ _ yh; have y6 := cell_of_row w3 (w.heap.size + 1) 6 _ _ _ yh; simp at y6; have yf6 := frozen_of_row w3 (w.heap.size + 1) 6 _ _ yh; have y7 := cell_of_row w3 (w.heap.size + 1) 7 _ _ _ yh; simp at y7; have yf7 := frozen_of_row w3 (w.heap.size + 1) 7 _ _ yh; have y8 := cell_of_row w3 (w.heap.size + 1) 8 _ _ _ yh; simp at y8; have yf8 := frozen_of_row w3 (w.heap.size + 1) 8 _ _ yh; have y9 := cell_of_row w3 (w.heap.size + 1) 9 _ _ _ yh; simp at y9; have yf9 := frozen_of_row w3 (w.heap.size + 1) 9 _ _ yh; have y10 := cell_of_row w3 (w.heap.size + 1) 10 _ _ _ yh; simp at y10; have yf10 := frozen_of_row w3 (w.heap.size + 1) 10 _ _ yh; clear yh
  go_wp2_with fail
  refine (eqLRc_any _ _ x.rc _ (A4.out.below B3.out) (E4.out.below B3.out) f3).mono ?_
  rintro e w4 ⟨rfl, b4⟩
  have B4 : Hid (Below w.heap.size w w4) := Lib.hid (B3.out.trans (b4.mono B3.out.size))
  have X4 := Lib.hid ((b4.block (w.heap.size) (Array.getElem?_eq_some_iff.1 X3.out).1).trans X3.out)
  have Y4 := Lib.hid ((b4.block (w.heap.size + 1) (Array.getElem?_eq_some_iff.1 Y3.out).1).trans Y3.out)
  clear b4 x0 xf0 x1 xf1 x2 xf2 x3 xf3 x4 xf4 x5 xf5 x6 xf6 x7 xf7 x8 xf8 x9 xf9 x10 xf10 y0 yf0 y1 yf1 y2 yf2 y3 yf3 y4 yf4 y5 yf5 y6 yf6 y7 yf7 y8 yf8 y9 yf9 y10 yf10
  have xh := X4.out; have x0 := cell_of_row w4 (w.heap.size) 0 _ _ _ xh; simp at x0; have xf0 := frozen_of_row w4 (w.heap.size) 0 _ _ xh; have x1 := cell_of_row w4 (w.heap.size) 1 _ _ _ xh; simp at x1; have xf1 := frozen_of_row w4 (w.heap.size) 1 _ _ xh; have x2 := cell_of_row w4 (w.heap.size) 2 _ _ _ xh; simp at x2; have xf2 := frozen_of_row w4 (w.heap.size) 2 _ _ xh; have x3 := cell_of_row w4 (w.heap.size) 3 _ _ _ xh; simp at x3; have xf3 := frozen_of_row w4 (w.heap.size) 3 _ _ xh; have x4 := cell_of_row w4 (w.heap.size) 4 _ _ _ xh; simp at x4; have xf4 := frozen_of_row w4 (w.heap.size) 4 _ _ xh; have x5 := cell_of_row w4 (w.heap.size) 5 _ _ _ xh; simp at x5; have xf5 := frozen_of_row w4 (w.heap.size) 5 _ _ xh; have x6 := cell_of_row w4 (w.heap.size) 6 _ _ _ xh; simp at x6; have xf6 := frozen_of_row w4 (w.heap.size) 6 _ _ xh; have x7 := cell_of_row w4 (w.heap.size) 7 _ _ _ xh; simp at x7; have xf7 := frozen_of_row w4 (w.heap.size) 7 _ _ xh; have x8 := cell_of_row w4 (w.heap.size) 8 _ _ _ xh; simp at x8; have xf8 := frozen_of_row w4 (w.heap.size) 8 _ _ xh; have x9 := cell_of_row w4 (w.heap.size) 9 _ _ _ xh; simp at x9; have xf9 := frozen_of_row w4 (w.heap.size) 9 _ _ xh; have x10 := cell_of_row w4 (w.heap.size) 10 _ _ _ xh; simp at x10; have xf10 := frozen_of_row w4 (w.heap.size) 10 _ _ xh; clear xh
  have yh := Y4.out; have y0 := cell_of_row w4 (w.heap.size + 1) 0 _ _ _ yh; simp at y0; have yf0 := frozen_of_row w4 (w.heap.size + 1) 0 _ _ yh; have y1 := cell_of_row w4 (w.heap.size + 1) 1 _ _ _ yh; simp at y1; have yf1 := frozen_of_row w4 (w.heap.size + 1) 1 _ _ yh; have y2 := cell_of_row w4 (w.heap.size + 1) 2 _ _ _ yh; simp at y2; have yf2 := frozen_of_row w4 (w.heap.size + 1) 2 _ _ yh; have y3 := cell_of_row w4 (w.heap.size + 1) 3 _ _ _ yh; simp at y3; have yf3 := frozen_of_row w4 (w.heap.size + 1) 3 _ _ yh; have y4 := cell_of_row w4 (w.heap.size + 1) 4 _ _ _ yh; simp at y4; have yf4 := frozen_of_row w4 (w.heap.size + 1) 4 _ _ yh; have y5 := cell_of_row w4 (w.heap.size + 1) 5 _ _ _ yh; simp at y5; have yf5 := frozen_of_row w4 (w.heap.size + 1) 5 _ _ yh; have y6 := cell_of_row w4 (w.heap.size + 1) 6 _ _ _ yh; simp at y6; have yf6 := frozen_of_row w4 (w.heap.size + 1) 6 _ _ yh; have y7 := cell_of_row w4 (w.heap.size + 1) 7 _ _ _ yh; simp at y7; have yf7 := frozen_of_row w4 (w.heap.size + 1) 7 _ _ yh; have y8 := cell_of_row w4 (w.heap.size + 1) 8 _ _ _ yh; simp at y8; have yf8 := frozen_of_row w4 (w.heap.size + 1) 8 _ _ yh; have y9 := cell_of_row w4 (w.heap.size + 1) 9 _ _ _ yh; simp at y9; have yf9 := frozen_of_row w4 (w.heap.size + 1) 9 _ _ yh; have y10 := cell_of_row w4 (w.heap.size + 1) 10 _ _ _ yh; simp at y10; have yf10 := frozen_of_row w4 (w.heap.size + 1) 10 _ _ yh; clear yh
  go_wp2_with fail
  refine (eqLPq_any _ _ x.dn _ (A5.out.below B4.out) (E5.out.below B4.out) f4).mono ?_
  rintro e w5 ⟨rfl, b5⟩
  have B5 : Hid (Below w.heap.size w w5) := Lib.hid (B4.out.trans (b5.mono B4.out.size))
  have X5 := Lib.hid ((b5.block (w.heap.size) (Array.getElem?_eq_some_iff.1 X4.out).1).trans X4.out)
  have Y5 := Lib.hid ((b5.block (w.heap.size + 1) (Array.getElem?_eq_some_iff.1 Y4.out).1).trans Y4.out)
  clear b5 x0 xf0 x1 xf1 x2 xf2 x3 xf3 x4 xf4 x5 xf5 x6 xf6 x7 xf7 x8 xf8 x9 xf9 x10 xf10 y0 yf0 y1 yf1 y2 yf2 y3 yf3 y4 yf4 y5 yf5 y6 yf6 y7 yf7 y8 yf8 y9 yf9 y10 yf10
  have xh := X5.out; have x0 := cell_of_row w5 (w.heap.size) 0 _ _ _ xh; simp at x0; have xf0 := frozen_of_row w5 (w.heap.size) 0 _ _ xh; have x1 := cell_of_row w5 (w.heap.size) 1 _ _ _ xh; simp at x1; have xf1 := frozen_of_row w5 (w.heap.size) 1 _ _ xh; have x2 := cell_of_row w5 (w.heap.size) 2 _ _ _ xh; simp at x2; have xf2 := frozen_of_row w5 (w.heap.size) 2 _ _ xh; have x3 := cell_of_row w5 (w.heap.size) 3 _ _ _ xh; simp at x3; have xf3 := frozen_of_row w5 (w.heap.size) 3 _ _ xh; have x4 := cell_of_row w5 (w.heap.size) 4 _ _ _ xh; simp at x4; have xf4 := frozen_of_row w5 (w.heap.size) 4 _ _ xh; have x5 := cell_of_row w5 (w.heap.size) 5 _ _ _ xh; simp at x5; have xf5 := frozen_of_row w5 (w.heap.size) 5 _ _ xh; have x6 := cell_of_row w5 (w.heap.size) 6 _ _ _ xh; simp at x6; have xf6 := frozen_of_row w5 (w.heap.size) 6 _ _ xh; have x7 := cell_of_row w5 (w.heap.size) 7 _ _ _ xh; simp at x7; have xf7 := frozen_of_row w5 (w.heap.size) 7 _ _ xh; have x8 := cell_of_row w5 (w.heap.size) 8 _ _ _ xh; simp at x8; have xf8 := frozen_of_row w5 (w.heap.size) 8 _ _ xh; have x9 := cell_of_row w5 (w.heap.size) 9 _ _ _ xh; simp at x9; have xf9 := frozen_of_row w5 (w.heap.size) 9 _ _ xh; have x10 := cell_of_row w5 (w.heap.size) 10 _ _ _ xh; simp at x10; have xf10 := frozen_of_row w5 (w.heap.size) 10 _ _ xh; clear xh
  have yh := Y5.out; have y0 := cell_of_row w5 (w.heap.size + 1) 0 _ _ _ yh; simp at y0; have yf0 := frozen_of_row w5 (w.heap.size + 1) 0 _ _ yh; have y1 := cell_of_row w5 (w.heap.size + 1) 1 _ _ _ yh; simp at y1; have yf1 := frozen_of_row w5 (w.heap.size + 1) 1 _ _ yh; have y2 := cell_of_row w5 (w.heap.size + 1) 2 _ _ _ yh; simp at y2; have yf2 := frozen_of_row w5 (w.heap.size + 1) 2 _ _ yh; have y3 := cell_of_row w5 (w.heap.size + 1) 3 _ _ _ yh; simp at y3; have yf3 := frozen_of_row w5 (w.heap.size + 1) 3 _ _ yh; have y4 := cell_of_row w5 (w.heap.size + 1) 4 _ _ _ yh; simp at y4; have yf4 := frozen_of_row w5 (w.heap.size + 1) 4 _ _ yh; have y5 := cell_of_row w5 (w.heap.size + 1) 5 _ _ _ yh; simp at y5; have yf5 := frozen_of_row w5 (w.heap.size + 1) 5 _ _ yh; have y6 := cell_of_row w5 (w.heap.size + 1) 6 _ _ _ yh; simp at y6; have yf6 := frozen_of_row w5 (w.heap.size + 1) 6 _ _ yh; have y7 := cell_of_row w5 (w.heap.size + 1) 7 _ _ _ yh; simp at y7; have yf7 := frozen_of_row w5 (w.heap.size + 1) 7 _ _ yh; have y8 := cell_of_row w5 (w.heap.size + 1) 8 _ _ _ yh; simp at y8; have yf8 := frozen_of_row w5 (w.heap.size + 1) 8 _ _ yh; have y9 := cell_of_row w5 (w.heap.size + 1) 9 _ _ _ yh; simp at y9; have yf9 := frozen_of_row w5 (w.heap.size + 1) 9 _ _ yh; have y10 := cell_of_row w5 (w.heap.size + 1) 10 _ _ _ yh; simp at y10; have yf10 := frozen_of_row w5 (w.heap.size + 1) 10 _ _ yh; clear yh
  go_wp2_with fail
  refine (eqLPq_any _ _ x.up _ (A6.out.below B5.out) (E6.out.below B5.out) f5).mono ?_
  rintro e w6 ⟨rfl, b6⟩
  have B6 : Hid (Below w.heap.size w w6) := Lib.hid (B5.out.trans (b6.mono B5.out.size))
  clear b6 x0 xf0 x1 xf1 x2 xf2 x3 xf3 x4 xf4 x5 xf5 x6 xf6 x7 xf7 x8 xf8 x9 xf9 x10 xf10 y0 yf0 y1 yf1 y2 yf2 y3 yf3 y4 yf4 y5 yf5 y6 yf6 y7 yf7 y8 yf8 y9 yf9 y10 yf10
  go_wp2
  go_ret
  exact ⟨rfl, B6.out⟩
end Go.Proofs.YtihpibdodlgpaaaGreatDoor
