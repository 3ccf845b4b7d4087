/- Contracts of the harness's functions that compare the data of networks: equal ones are found equal. -/
import Derived.Test.YtihpibdodlgpaaaGreatDoorNetEqA
import Derived.Handy
import Derived.BigQuiet
namespace Go.Proofs.YtihpibdodlgpaaaGreatDoor
open Go.RowKit

set_option maxRecDepth 100000 in
set_option maxHeartbeats 4000000 in
theorem eqRw_any (x : NRw) (v0 u0 : Value) (w : World) (a0 : kSl.At 0 w v0 x.sl) (b0 : kSl.At 0 w u0 x.sl) (hf : fitRw 1048576 x) :
    Calls Tryz.prog 99 #[.agg #[.int .i64 x.nx, v0], .agg #[.int .i64 x.nx, u0]] w fun e w' => e = .returned (.bool true) ∧ Below w.heap.size w w' := by
  have f0 := hf
  obtain ⟨p0, c0, _, _, rfl, _, _, _⟩ := a0.parts
  obtain ⟨q0, d0, _, _, rfl, _, _, _⟩ := b0.parts
  have A0 := Lib.hid a0
  have E0 := Lib.hid b0
  clear a0 b0
  go_enter Tryz.func99, Tryz.ntmps99
  go_wp2_with fail
  refine (eqLSl_any _ _ x.sl _ (A0.out.below (by go_grown)) (E0.out.below (by go_grown)) f0).mono ?_
  rintro e w1 ⟨rfl, b1⟩
  have B1 : Hid (Below w.heap.size w w1) := Lib.hid (Below.trans (by go_grown) (b1.mono (by simp <;> omega)))
  clear b1
  go_wp2
  go_ret
  exact ⟨rfl, B1.out⟩
set_option maxRecDepth 100000 in
set_option maxHeartbeats 4000000 in
theorem eqRc_any (x : NRc) (v0 v1 u0 u1 : Value) (w : World) (a0 : kSl.At 0 w v0 x.rw.sl) (a1 : kRq.At 0 w v1 x.rq) (b0 : kSl.At 0 w u0 x.rw.sl) (b1 : kRq.At 0 w u1 x.rq) (hf : fitRc 1048576 x) :
    Calls Tryz.prog 57 #[.agg #[.bool x.st, .int .i64 x.ck, .int .i64 x.rw.nx, v0, v1], .agg #[.bool x.st, .int .i64 x.ck, .int .i64 x.rw.nx, u0, u1]] w fun e w' => e = .returned (.bool true) ∧ Below w.heap.size w w' := by
  obtain ⟨f0, f1⟩ := hf
  obtain ⟨p0, c0, _, _, rfl, _, _, _⟩ := a0.parts
  obtain ⟨q0, d0, _, _, rfl, _, _, _⟩ := b0.parts
  obtain ⟨p1, c1, _, _, rfl, _, _, _⟩ := a1.parts
  obtain ⟨q1, d1, _, _, rfl, _, _, _⟩ := b1.parts
  have A0 := Lib.hid a0
  have E0 := Lib.hid b0
  clear a0 b0
  have A1 := Lib.hid a1
  have E1 := Lib.hid b1
  clear a1 b1
  go_enter Tryz.func57, Tryz.ntmps57
  go_wp2_with fail
  refine (eqRw_any x.rw _ _ _ (A0.out.below (by go_grown)) (E0.out.below (by go_grown)) f0).mono ?_
  rintro e w1 ⟨rfl, b1⟩
  have B1 : Hid (Below w.heap.size w w1) := Lib.hid (Below.trans (by go_grown) (b1.mono (by simp <;> omega)))
  have X1 : Hid (w1.heap[w.heap.size]? = some (.cells #[.bool x.st, .int .i64 x.ck, .int .i64 x.rw.nx, .slice p0 x.rw.sl.length c0, .slice p1 x.rq.length c1] 77 (0, 0))) := Lib.hid ((b1.block w.heap.size (by simp <;> omega)).trans (heap_alloc2_old w _ _))
  have Y1 : Hid (w1.heap[w.heap.size + 1]? = some (.cells #[.bool x.st, .int .i64 x.ck, .int .i64 x.rw.nx, .slice q0 x.rw.sl.length d0, .slice q1 x.rq.length d1] 77 (0, 0))) := Lib.hid ((b1.block (w.heap.size + 1) (by simp <;> omega)).trans (heap_alloc2_new w _ _))
  clear b1
  have xh := X1.out; have x0 := cell_of_row w1 (w.heap.size) 0 _ _ _ xh; simp at x0; have xf0 := frozen_of_row w1 (w.heap.size) 0 _ _ xh; have x1 := cell_of_row w1 (w.heap.size) 1 _ _ _ xh; simp at x1; have xf1 := frozen_of_row w1 (w.heap.size) 1 _ _ xh; have x2 := cell_of_row w1 (w.heap.size) 2 _ _ _ xh; simp at x2; have xf2 := frozen_of_row w1 (w.heap.size) 2 _ _ xh; have x3 := cell_of_row w1 (w.heap.size) 3 _ _ _ xh; simp at x3; have xf3 := frozen_of_row w1 (w.heap.size) 3 _ _ xh; have x4 := cell_of_row w1 (w.heap.size) 4 _ _ _ xh; simp at x4; have xf4 := frozen_of_row w1 (w.heap.size) 4 _ _ xh; clear xh
  have yh := Y1.out; have y0 := cell_of_row w1 (w.heap.size + 1) 0 _ _ _ yh; simp at y0; have yf0 := frozen_of_row w1 (w.heap.size + 1) 0 _ _ yh; have y1 := cell_of_row w1 (w.heap.size + 1) 1 _ _ _ yh; simp at y1; have yf1 := frozen_of_row w1 (w.heap.size + 1) 1 _ _ yh; have y2 := cell_of_row w1 (w.heap.size + 1) 2 _ _ _ yh; simp at y2; have yf2 := frozen_of_row w1 (w.heap.size + 1) 2 _ _ yh; have y3 := cell_of_row w1 (w.heap.size + 1) 3 _ _ _ yh; simp at y3; have yf3 := frozen_of_row w1 (w.heap.size + 1) 3 _ _ yh; have y4 := cell_of_row w1 (w.heap.size + 1) 4 _ _ _ yh; simp at y4; have yf4 := frozen_of_row w1 (w.heap.size + 1) 4 _ _ yh; clear yh
  go_wp2_with fail
  refine (eqLRq_any _ _ x.rq _ (A1.out.below B1.out) (E1.out.below B1.out) f1).mono ?_
  rintro e w2 ⟨rfl, b2⟩
  have B2 : Hid (Below w.heap.size w w2) := Lib.hid (B1.out.trans (b2.mono B1.out.size))
  clear b2 x0 xf0 x1 xf1 x2 xf2 x3 xf3 x4 xf4 y0 yf0 y1 yf1 y2 yf2 y3 yf3 y4 yf4
  go_wp2
  go_ret
  exact ⟨rfl, B2.out⟩
set_option maxRecDepth 100000 in
set_option maxHeartbeats 4000000 in
theorem eqLRc_any (v u : Value) (xs : List NRc) (w : World) (h : kRc.At 0 w v xs) (h' : kRc.At 0 w u xs) (hf : fitL fitRc 1048576 xs) :
    Calls Tryz.prog 28 #[v, u] w fun e w' => e = .returned (.bool true) ∧ Below w.heap.size w w' := by
  obtain ⟨p, cap, b, off, rfl, hcap, hp, hcell⟩ := h.parts
  obtain ⟨p', cap', b', off', rfl, hcap', hp', hcell'⟩ := h'.parts
  have HC := Lib.hid hcell; clear hcell
  have HP := Lib.hid hp; clear hp h
  have HC' := Lib.hid hcell'; clear hcell'
  have HP' := Lib.hid hp'; clear hp' h'
  have hlen := hf.1
  have HF := Lib.hid hf.2; clear hf
  go_enter Tryz.func28, Tryz.ntmps28
  go_wp2
  go_loopw [5] (fun i wr => ∃ k : Nat, k ≤ xs.length ∧ i = .int .i64 k ∧ Below w.heap.size w wr) (fun i _ => xs.length - (intOf i).toNat)
  case atStart => exact ⟨0, Nat.zero_le _, rfl, Below.refl _ _⟩
  case round =>
    obtain ⟨k, hk, rfl, hb⟩ := hrel
    by_cases hlt : k < xs.length
    · obtain rfl := HP.out (by omega)
      obtain rfl := HP'.out (by omega)
      obtain ⟨c, hC, hcl⟩ := HC.out k hlt
      obtain ⟨c', hC', hcl'⟩ := HC'.out k hlt
      have hfx := HF.out xs[k] (List.getElem_mem hlt)
      generalize xs[k] = x at *
      obtain ⟨v0, v1, rfl, a0, a1⟩ := hC
      obtain ⟨pv0, cv0, _, _, rfl, hcv0, _, _⟩ := a0.parts
      obtain ⟨pv1, cv1, _, _, rfl, hcv1, _, _⟩ := a1.parts
      obtain ⟨u0, u1, rfl, b0, b1⟩ := hC'
      obtain ⟨pu0, cu0, _, _, rfl, hcu0, _, _⟩ := b0.parts
      obtain ⟨pu1, cu1, _, _, rfl, hcu1, _, _⟩ := b1.parts
      have d0 : _ = some (Value.bool x.st) := cell_on hb (hcl 0 _ rfl)
      rw [show off + k * kRc.sz + 0 = off + k * 5 from rfl] at d0
      have d1 : _ = some (Value.int .i64 x.ck) := cell_on hb (hcl 1 _ rfl)
      rw [show off + k * kRc.sz + 1 = off + k * 5 + 1 from rfl] at d1
      have d2 : _ = some (Value.int .i64 x.rw.nx) := cell_on hb (hcl 2 _ rfl)
      rw [show off + k * kRc.sz + 2 = off + k * 5 + 2 from rfl] at d2
      have d3 : _ = some (Value.slice pv0 x.rw.sl.length cv0) := cell_on hb (hcl 3 _ rfl)
      rw [show off + k * kRc.sz + 3 = off + k * 5 + 3 from rfl] at d3
      have d4 : _ = some (Value.slice pv1 x.rq.length cv1) := cell_on hb (hcl 4 _ rfl)
      rw [show off + k * kRc.sz + 4 = off + k * 5 + 4 from rfl] at d4
      have g0 : _ = some (Value.bool x.st) := cell_on hb (hcl' 0 _ rfl)
      rw [show off' + k * kRc.sz + 0 = off' + k * 5 from rfl] at g0
      have g1 : _ = some (Value.int .i64 x.ck) := cell_on hb (hcl' 1 _ rfl)
      rw [show off' + k * kRc.sz + 1 = off' + k * 5 + 1 from rfl] at g1
      have g2 : _ = some (Value.int .i64 x.rw.nx) := cell_on hb (hcl' 2 _ rfl)
      rw [show off' + k * kRc.sz + 2 = off' + k * 5 + 2 from rfl] at g2
      have g3 : _ = some (Value.slice pu0 x.rw.sl.length cu0) := cell_on hb (hcl' 3 _ rfl)
      rw [show off' + k * kRc.sz + 3 = off' + k * 5 + 3 from rfl] at g3
      have g4 : _ = some (Value.slice pu1 x.rq.length cu1) := cell_on hb (hcl' 4 _ rfl)
      rw [show off' + k * kRc.sz + 4 = off' + k * 5 + 4 from rfl] at g4
      have HX := Lib.hid hb; clear hb hcl hcl'
      have A0 := Lib.hid a0; clear a0
      have A1 := Lib.hid a1; clear a1
      have B0 := Lib.hid b0; clear b0
      have B1 := Lib.hid b1; clear b1
      go_wp2_with fail
      refine wp_region_held_drew (S := (fun w' => Below wr.heap.size wr w' ∧ w'.cell? ⟨b, off + k * 5, none⟩ = some (.bool x.st) ∧ w'.cell? ⟨b, off + k * 5 + 1, none⟩ = some (.int .i64 x.ck) ∧ w'.cell? ⟨b, off + k * 5 + 2, none⟩ = some (.int .i64 x.rw.nx) ∧ w'.cell? ⟨b, off + k * 5 + 3, none⟩ = some (.slice pv0 x.rw.sl.length cv0) ∧ w'.cell? ⟨b, off + k * 5 + 4, none⟩ = some (.slice pv1 x.rq.length cv1) ∧ w'.cell? ⟨b', off' + k * 5, none⟩ = some (.bool x.st) ∧ w'.cell? ⟨b', off' + k * 5 + 1, none⟩ = some (.int .i64 x.ck) ∧ w'.cell? ⟨b', off' + k * 5 + 2, none⟩ = some (.int .i64 x.rw.nx) ∧ w'.cell? ⟨b', off' + k * 5 + 3, none⟩ = some (.slice pu0 x.rw.sl.length cu0) ∧ w'.cell? ⟨b', off' + k * 5 + 4, none⟩ = some (.slice pu1 x.rq.length cu1))) (by kernel_rfl) ?rx23s (fun hHeld => ?rx230)
      case rx23s => ((try dsimp only); exact ⟨(Below.refl _ _).drew, d0, d1, d2, d3, d4, g0, g1, g2, g3, g4⟩)
      try simp only [Act.put, List.setIfInBounds_toArray, List.set_cons_zero, List.set_cons_succ]
      refine take_at 0 (some 17) (v := ?vx23_1) rfl rfl (by kernel_rfl) (by kernel_rfl) (by kernel_rfl) (fun _ _ _ h => h) (Or.inl ⟨by kernel_rfl, ?yx23_1⟩) hHeld ?zx23_1
      case yx23_1 => (intro wS hSw; (try dsimp only at hSw); go_simp; (try with_reducible rfl))
      try simp only [Act.put, List.setIfInBounds_toArray, List.set_cons_zero, List.set_cons_succ]
      refine take_at 1 (some 18) (v := ?vx23_2) rfl rfl (by kernel_rfl) (by kernel_rfl) (by kernel_rfl) (fun _ _ _ h => h) (Or.inl ⟨by kernel_rfl, ?yx23_2⟩) hHeld ?zx23_2
      case yx23_2 => (intro wS hSw; (try dsimp only at hSw); go_simp; (try with_reducible rfl))
      try simp only [Act.put, List.setIfInBounds_toArray, List.set_cons_zero, List.set_cons_succ]
      refine take_at 2 (some 19) (v := ?vx23_3) rfl rfl (by kernel_rfl) (by kernel_rfl) (by kernel_rfl) (fun _ _ _ h => h) (Or.inl ⟨by kernel_rfl, ?yx23_3⟩) hHeld ?zx23_3
      case yx23_3 => (intro wS hSw; (try dsimp only at hSw); go_simp; (try with_reducible rfl))
      try simp only [Act.put, List.setIfInBounds_toArray, List.set_cons_zero, List.set_cons_succ]
      refine take_at 3 (some 20) (v := ?vx23_4) rfl rfl (by kernel_rfl) (by kernel_rfl) (by kernel_rfl) (fun _ _ _ h => h) (Or.inl ⟨by kernel_rfl, ?yx23_4⟩) hHeld ?zx23_4
      case yx23_4 => (intro wS hSw; (try dsimp only at hSw); go_simp; (try with_reducible rfl))
      try simp only [Act.put, List.setIfInBounds_toArray, List.set_cons_zero, List.set_cons_succ]
      refine take_at 4 (some 21) (v := ?vx23_5) rfl rfl (by kernel_rfl) (by kernel_rfl) (by kernel_rfl) (fun _ _ _ h => h) (Or.inl ⟨by kernel_rfl, ?yx23_5⟩) hHeld ?zx23_5
      case yx23_5 => (intro wS hSw; (try dsimp only at hSw); go_simp; (try with_reducible rfl))
      try simp only [Act.put, List.setIfInBounds_toArray, List.set_cons_zero, List.set_cons_succ]
      refine take_at 5 (some 22) (v := ?vx23_6) rfl rfl (by kernel_rfl) (by kernel_rfl) (by kernel_rfl) (fun _ _ _ h => h) (Or.inl ⟨by kernel_rfl, ?yx23_6⟩) hHeld ?zx23_6
      case yx23_6 => (intro wS hSw; (try dsimp only at hSw); go_simp; (try with_reducible rfl))
      try simp only [Act.put, List.setIfInBounds_toArray, List.set_cons_zero, List.set_cons_succ]
      refine take_at 6 (some 23) (v := ?vx23_7) rfl rfl (by kernel_rfl) (by kernel_rfl) (by kernel_rfl) (fun _ _ _ h => h) (Or.inl ⟨by kernel_rfl, ?yx23_7⟩) hHeld ?zx23_7
      case yx23_7 => (intro wS hSw; (try dsimp only at hSw); go_simp; (try with_reducible rfl))
      try simp only [Act.put, List.setIfInBounds_toArray, List.set_cons_zero, List.set_cons_succ]
      refine take_at 7 (some 24) (v := ?vx23_8) rfl rfl (by kernel_rfl) (by kernel_rfl) (by kernel_rfl) (fun _ _ _ h => h) (Or.inl ⟨by kernel_rfl, ?yx23_8⟩) hHeld ?zx23_8
      case yx23_8 => (intro wS hSw; (try dsimp only at hSw); go_simp; (try with_reducible rfl))
      try simp only [Act.put, List.setIfInBounds_toArray, List.set_cons_zero, List.set_cons_succ]
      refine wpAnyH_ready (rs := [8]) (by kernel_rfl) (by simp) ?_
      refine cons_at (some 25) rfl rfl (by kernel_rfl) (fun K hK => ?kx23_10) AllReadyH.nil
      go_simp
      (go_at_call 57; refine (eqRc_any x _ _ _ _ _ (A0.out.below (HX.out.trans (hHeld.1.mono HX.out.size))) (A1.out.below (HX.out.trans (hHeld.1.mono HX.out.size))) (B0.out.below (HX.out.trans (hHeld.1.mono HX.out.size))) (B1.out.below (HX.out.trans (hHeld.1.mono HX.out.size))) hfx).mono ?_; rintro e w' ⟨rfl, hbel⟩)
      try go_wp2_with fail
      refine hK.out _ _ ?sx23_10 (fun hHeld => ?_)
      case sx23_10 => ((try dsimp only); first | exact keepB10 (by assumption) hbel | assumption)
      clear hK K
      try simp only [Act.put, List.setIfInBounds_toArray, List.set_cons_zero, List.set_cons_succ]
      refine take_at 9 (some 26) (v := ?vx23_11) rfl rfl (by kernel_rfl) (by kernel_rfl) (by kernel_rfl) (fun _ _ _ h => h) (Or.inl ⟨by kernel_rfl, ?yx23_11⟩) hHeld ?zx23_11
      case yx23_11 => (intro wS hSw; (try dsimp only at hSw); go_simp; (try with_reducible rfl))
      try simp only [Act.put, List.setIfInBounds_toArray, List.set_cons_zero, List.set_cons_succ]
      refine wpAnyH_done (by kernel_rfl) ?_ _
      go_wp2
      go_roundw
      case rel => exact ⟨k + 1, by omega, by go_num, HX.out.trans (hHeld.1.mono HX.out.size)⟩
      case measure => (simp [intOf]; try omega)
    · go_wp2
      go_ret
      exact ⟨rfl, hb⟩
set_option maxRecDepth 100000 in
set_option maxHeartbeats 4000000 in
theorem eqSw_any (x : NSw) (v0 u0 : Value) (w : World) (a0 : kS.At 0 w v0 x.it) (b0 : kS.At 0 w u0 x.it) (hf : fitSw 1048576 x) :
    Calls Tryz.prog 54 #[.agg #[.int .i64 x.tr, .int .i64 x.sz, v0], .agg #[.int .i64 x.tr, .int .i64 x.sz, u0]] w fun e w' => e = .returned (.bool true) ∧ Below w.heap.size w w' := by
  have f0 := hf
  obtain ⟨p0, c0, _, _, rfl, _, _, _⟩ := a0.parts
  obtain ⟨q0, d0, _, _, rfl, _, _, _⟩ := b0.parts
  have A0 := Lib.hid a0
  have E0 := Lib.hid b0
  clear a0 b0
  go_enter Tryz.func54, Tryz.ntmps54
  go_wp2_with fail
  refine (eqLS_any _ _ x.it _ (A0.out.below (by go_grown)) (E0.out.below (by go_grown)) f0).mono ?_
  rintro e w1 ⟨rfl, b1⟩
  have B1 : Hid (Below w.heap.size w w1) := Lib.hid (Below.trans (by go_grown) (b1.mono (by simp <;> omega)))
  clear b1
  go_wp2
  go_ret
  exact ⟨rfl, B1.out⟩
set_option maxRecDepth 100000 in
set_option maxHeartbeats 4000000 in
theorem eqSr_any (x : NSr) (v0 v1 u0 u1 : Value) (w : World) (a0 : kS.At 0 w v0 x.sw.it) (a1 : kHd.At 0 w v1 x.hs) (b0 : kS.At 0 w u0 x.sw.it) (b1 : kHd.At 0 w u1 x.hs) (hf : fitSr 1048576 x) :
    Calls Tryz.prog 26 #[.agg #[.int .i64 x.sw.tr, .int .i64 x.sw.sz, v0, .int .i64 x.ck, .int .i64 x.qt, v1], .agg #[.int .i64 x.sw.tr, .int .i64 x.sw.sz, u0, .int .i64 x.ck, .int .i64 x.qt, u1]] w fun e w' => e = .returned (.bool true) ∧ Below w.heap.size w w' := by
  obtain ⟨f0, f1⟩ := hf
  obtain ⟨p0, c0, _, _, rfl, _, _, _⟩ := a0.parts
  obtain ⟨q0, d0, _, _, rfl, _, _, _⟩ := b0.parts
  obtain ⟨p1, c1, _, _, rfl, _, _, _⟩ := a1.parts
  obtain ⟨q1, d1, _, _, rfl, _, _, _⟩ := b1.parts
  have A0 := Lib.hid a0
  have E0 := Lib.hid b0
  clear a0 b0
  have A1 := Lib.hid a1
  have E1 := Lib.hid b1
  clear a1 b1
  go_enter Tryz.func26, Tryz.ntmps26
  go_wp2_with fail
  refine (eqSw_any x.sw _ _ _ (A0.out.below (by go_grown)) (E0.out.below (by go_grown)) f0).mono ?_
  rintro e w1 ⟨rfl, b1⟩
  have B1 : Hid (Below w.heap.size w w1) := Lib.hid (Below.trans (by go_grown) (b1.mono (by simp <;> omega)))
  have X1 : Hid (w1.heap[w.heap.size]? = some (.cells #[.int .i64 x.sw.tr, .int .i64 x.sw.sz, .slice p0 x.sw.it.length c0, .int .i64 x.ck, .int .i64 x.qt, .slice p1 x.hs.length c1] 43 (0, 0))) := Lib.hid ((b1.block w.heap.size (by simp <;> omega)).trans (heap_alloc2_old w _ _))
  have Y1 : Hid (w1.heap[w.heap.size + 1]? = some (.cells #[.int .i64 x.sw.tr, .int .i64 x.sw.sz, .slice q0 x.sw.it.length d0, .int .i64 x.ck, .int .i64 x.qt, .slice q1 x.hs.length d1] 43 (0, 0))) := Lib.hid ((b1.block (w.heap.size + 1) (by simp <;> omega)).trans (heap_alloc2_new w _ _))
  clear b1
  have xh := X1.out; have x0 := cell_of_row w1 (w.heap.size) 0 _ _ _ xh; simp at x0; have xf0 := frozen_of_row w1 (w.heap.size) 0 _ _ xh; have x1 := cell_of_row w1 (w.heap.size) 1 _ _ _ xh; simp at x1; have xf1 := frozen_of_row w1 (w.heap.size) 1 _ _ xh; have x2 := cell_of_row w1 (w.heap.size) 2 _ _ _ xh; simp at x2; have xf2 := frozen_of_row w1 (w.heap.size) 2 _ _ xh; have x3 := cell_of_row w1 (w.heap.size) 3 _ _ _ xh; simp at x3; have xf3 := frozen_of_row w1 (w.heap.size) 3 _ _ xh; have x4 := cell_of_row w1 (w.heap.size) 4 _ _ _ xh; simp at x4; have xf4 := frozen_of_row w1 (w.heap.size) 4 _ _ xh; have x5 := cell_of_row w1 (w.heap.size) 5 _ _ _ xh; simp at x5; have xf5 := frozen_of_row w1 (w.heap.size) 5 _ _ xh; clear xh
  have yh := Y1.out; have y0 := cell_of_row w1 (w.heap.size + 1) 0 _ _ _ yh; simp at y0; have yf0 := frozen_of_row w1 (w.heap.size + 1) 0 _ _ yh; have y1 := cell_of_row w1 (w.heap.size + 1) 1 _ _ _ yh; simp at y1; have yf1 := frozen_of_row w1 (w.heap.size + 1) 1 _ _ yh; have y2 := cell_of_row w1 (w.heap.size + 1) 2 _ _ _ yh; simp at y2; have yf2 := frozen_of_row w1 (w.heap.size + 1) 2 _ _ yh; have y3 := cell_of_row w1 (w.heap.size + 1) 3 _ _ _ yh; simp at y3; have yf3 := frozen_of_row w1 (w.heap.size + 1) 3 _ _ yh; have y4 := cell_of_row w1 (w.heap.size + 1) 4 _ _ _ yh; simp at y4; have yf4 := frozen_of_row w1 (w.heap.size + 1) 4 _ _ yh; have y5 := cell_of_row w1 (w.heap.size + 1) 5 _ _ _ yh; simp at y5; have yf5 := frozen_of_row w1 (w.heap.size + 1) 5 _ _ yh; clear yh
  go_wp2_with fail
  refine (eqLHd_any _ _ x.hs _ (A1.out.below B1.out) (E1.out.below B1.out) f1).mono ?_
  rintro e w2 ⟨rfl, b2⟩
  have B2 : Hid (Below w.heap.size w w2) := Lib.hid (B1.out.trans (b2.mono B1.out.size))
  clear b2 x0 xf0 x1 xf1 x2 xf2 x3 xf3 x4 xf4 x5 xf5 y0 yf0 y1 yf1 y2 yf2 y3 yf3 y4 yf4 y5 yf5
  go_wp2
  go_ret
  exact ⟨rfl, B2.out⟩
set_option maxRecDepth 100000 in
set_option maxHeartbeats 4000000 in
theorem eqTr_any (x : NTr) (v0 u0 : Value) (w : World) (a0 : kI.At 0 w v0 x.pa) (b0 : kI.At 0 w u0 x.pa) (hf : fitTr 1048576 x) :
    Calls Tryz.prog 25 #[.agg #[v0], .agg #[u0]] w fun e w' => e = .returned (.bool true) ∧ Below w.heap.size w w' := by
  have f0 := hf
  obtain ⟨p0, c0, _, _, rfl, _, _, _⟩ := a0.parts
  obtain ⟨q0, d0, _, _, rfl, _, _, _⟩ := b0.parts
  have A0 := Lib.hid a0
  have E0 := Lib.hid b0
  clear a0 b0
  go_enter Tryz.func25, Tryz.ntmps25
  go_wp2_with fail
  refine (eqLI_any _ _ x.pa _ (A0.out.below (by go_grown)) (E0.out.below (by go_grown)) f0).mono ?_
  rintro e w1 ⟨rfl, b1⟩
  have B1 : Hid (Below w.heap.size w w1) := Lib.hid (Below.trans (by go_grown) (b1.mono (by simp <;> omega)))
  clear b1
  go_wp2
  go_ret
  exact ⟨rfl, B1.out⟩
end Go.Proofs.YtihpibdodlgpaaaGreatDoor
