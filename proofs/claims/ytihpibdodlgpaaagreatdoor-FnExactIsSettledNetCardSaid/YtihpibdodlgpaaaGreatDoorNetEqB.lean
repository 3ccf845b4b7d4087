/- Contracts of the harness's functions that compare the data of networks: equal ones are found equal. -/
import Derived.Test.YtihpibdodlgpaaaGreatDoorNetEqA
import Derived.Handy
import Derived.BigQuiet
namespace Go.Proofs.YtihpibdodlgpaaaGreatDoor
open Go.RowKit

set_option maxRecDepth 100000 in
set_option maxHeartbeats 4000000 in
theorem eqLPq_any (v u : Value) (xs : List (List NPk)) (w : World) (h : kPq.At 0 w v xs) (h' : kPq.At 0 w u xs) (hf : fitL fitPq 1048576 xs) :
    Calls Tryz.prog 29 #[v, u] w fun e w' => e = .returned (.bool true) ∧ Below w.heap.size w w' := by
  obtain ⟨p, cap, b, off, rfl, hcap, hp, hcell⟩ := h.parts
  obtain ⟨p', cap', b', off', rfl, hcap', hp', hcell'⟩ := h'.parts
  have HC := Lib.hid hcell; clear hcell
  have HP := Lib.hid hp; clear hp h
  have HC' := Lib.hid hcell'; clear hcell'
  have HP' := Lib.hid hp'; clear hp' h'
  have hlen := hf.1
  have HF := Lib.hid hf.2; clear hf
  go_enter Tryz.func29, Tryz.ntmps29
  go_wp2
  go_loopw [5] (fun i wr => ∃ k : Nat, k ≤ xs.length ∧ i = .int .i64 k ∧ Below w.heap.size w wr) (fun i _ => xs.length - (intOf i).toNat)
  case atStart => exact ⟨0, Nat.zero_le _, rfl, Below.refl _ _⟩
  case round =>
    obtain ⟨k, hk, rfl, hb⟩ := hrel
    by_cases hlt : k < xs.length
    · obtain rfl := HP.out (by omega)
      obtain rfl := HP'.out (by omega)
      obtain ⟨c, hC, hcl⟩ := HC.out k hlt
      obtain ⟨c', hC', hcl'⟩ := HC'.out k hlt
      have hfx := HF.out xs[k] (List.getElem_mem hlt)
      generalize xs[k] = x at *
      obtain ⟨v0, rfl, a0⟩ := hC
      obtain ⟨pv0, cv0, _, _, rfl, hcv0, _, _⟩ := a0.parts
      obtain ⟨u0, rfl, b0⟩ := hC'
      obtain ⟨pu0, cu0, _, _, rfl, hcu0, _, _⟩ := b0.parts
      have d0 := cell_on hb (hcl 0 _ rfl)
      rw [show off + k * kPq.sz + 0 = off + k from by show off + k * 1 + 0 = off + k; omega] at d0
      have g0 := cell_on hb (hcl' 0 _ rfl)
      rw [show off' + k * kPq.sz + 0 = off' + k from by show off' + k * 1 + 0 = off' + k; omega] at g0
      have HX := Lib.hid hb; clear hb hcl hcl'
      have A0 := Lib.hid a0; clear a0
      have B0 := Lib.hid b0; clear b0
      go_wp2_with fail
      refine wp_region_held_drew (S := (fun w' => Below wr.heap.size wr w' ∧ w'.cell? ⟨b, off + k, none⟩ = some (.slice pv0 x.length cv0) ∧ w'.cell? ⟨b', off' + k, none⟩ = some (.slice pu0 x.length cu0))) (by kernel_rfl) ?rx20s (fun hHeld => ?rx200)
      case rx20s => ((try dsimp only); exact ⟨(Below.refl _ _).drew, d0, g0⟩)
      try simp only [Act.put, List.setIfInBounds_toArray, List.set_cons_zero, List.set_cons_succ]
      refine take_at 0 (some 17) (v := ?vx20_1) rfl rfl (by kernel_rfl) (by kernel_rfl) (by kernel_rfl) (fun _ _ _ h => h) (Or.inl ⟨by kernel_rfl, ?yx20_1⟩) hHeld ?zx20_1
      case yx20_1 => (intro wS hSw; (try dsimp only at hSw); go_simp; (try with_reducible rfl))
      try simp only [Act.put, List.setIfInBounds_toArray, List.set_cons_zero, List.set_cons_succ]
      refine take_at 1 (some 18) (v := ?vx20_2) rfl rfl (by kernel_rfl) (by kernel_rfl) (by kernel_rfl) (fun _ _ _ h => h) (Or.inl ⟨by kernel_rfl, ?yx20_2⟩) hHeld ?zx20_2
      case yx20_2 => (intro wS hSw; (try dsimp only at hSw); go_simp; (try with_reducible rfl))
      try simp only [Act.put, List.setIfInBounds_toArray, List.set_cons_zero, List.set_cons_succ]
      refine take_at 2 (some 19) (v := ?vx20_3) rfl rfl (by kernel_rfl) (by kernel_rfl) (by kernel_rfl) (fun _ _ _ h => h) (Or.inl ⟨by kernel_rfl, ?yx20_3⟩) hHeld ?zx20_3
      case yx20_3 => (intro wS hSw; (try dsimp only at hSw); go_simp; (try with_reducible rfl))
      try simp only [Act.put, List.setIfInBounds_toArray, List.set_cons_zero, List.set_cons_succ]
      refine take_at 3 (some 20) (v := ?vx20_4) rfl rfl (by kernel_rfl) (by kernel_rfl) (by kernel_rfl) (fun _ _ _ h => h) (Or.inl ⟨by kernel_rfl, ?yx20_4⟩) hHeld ?zx20_4
      case yx20_4 => (intro wS hSw; (try dsimp only at hSw); go_simp; (try with_reducible rfl))
      try simp only [Act.put, List.setIfInBounds_toArray, List.set_cons_zero, List.set_cons_succ]
      refine take_at 4 (some 21) (v := ?vx20_5) rfl rfl (by kernel_rfl) (by kernel_rfl) (by kernel_rfl) (fun _ _ _ h => h) (Or.inl ⟨by kernel_rfl, ?yx20_5⟩) hHeld ?zx20_5
      case yx20_5 => (intro wS hSw; (try dsimp only at hSw); go_simp; (try with_reducible rfl))
      try simp only [Act.put, List.setIfInBounds_toArray, List.set_cons_zero, List.set_cons_succ]
      refine take_at 5 (some 22) (v := ?vx20_6) rfl rfl (by kernel_rfl) (by kernel_rfl) (by kernel_rfl) (fun _ _ _ h => h) (Or.inl ⟨by kernel_rfl, ?yx20_6⟩) hHeld ?zx20_6
      case yx20_6 => (intro wS hSw; (try dsimp only at hSw); go_simp; (try with_reducible rfl))
      try simp only [Act.put, List.setIfInBounds_toArray, List.set_cons_zero, List.set_cons_succ]
      refine take_at 6 (some 23) (v := ?vx20_7) rfl rfl (by kernel_rfl) (by kernel_rfl) (by kernel_rfl) (fun _ _ _ h => h) (Or.inl ⟨by kernel_rfl, ?yx20_7⟩) hHeld ?zx20_7
      case yx20_7 => (intro wS hSw; (try dsimp only at hSw); go_simp; (try with_reducible rfl))
      try simp only [Act.put, List.setIfInBounds_toArray, List.set_cons_zero, List.set_cons_succ]
      refine take_at 7 (some 24) (v := ?vx20_8) rfl rfl (by kernel_rfl) (by kernel_rfl) (by kernel_rfl) (fun _ _ _ h => h) (Or.inl ⟨by kernel_rfl, ?yx20_8⟩) hHeld ?zx20_8
      case yx20_8 => (intro wS hSw; (try dsimp only at hSw); go_simp; (try with_reducible rfl))
      try simp only [Act.put, List.setIfInBounds_toArray, List.set_cons_zero, List.set_cons_succ]
      refine wpAnyH_ready (rs := [8]) (by kernel_rfl) (by simp) ?_
      refine cons_at (some 25) rfl rfl (by kernel_rfl) (fun K hK => ?kx20_10) AllReadyH.nil
      go_simp
      (go_at_call 58; refine (eqLPk_any _ _ x _ (A0.out.below (HX.out.trans (hHeld.1.mono HX.out.size))) (B0.out.below (HX.out.trans (hHeld.1.mono HX.out.size))) hfx).mono ?_; rintro e w' ⟨rfl, hbel⟩)
      try go_wp2_with fail
      refine hK.out _ _ ?sx20_10 (fun hHeld => ?_)
      case sx20_10 => ((try dsimp only); first | exact keepB2 (by assumption) hbel | assumption)
      clear hK K
      try simp only [Act.put, List.setIfInBounds_toArray, List.set_cons_zero, List.set_cons_succ]
      refine take_at 9 (some 26) (v := ?vx20_11) rfl rfl (by kernel_rfl) (by kernel_rfl) (by kernel_rfl) (fun _ _ _ h => h) (Or.inl ⟨by kernel_rfl, ?yx20_11⟩) hHeld ?zx20_11
      case yx20_11 => (intro wS hSw; (try dsimp only at hSw); go_simp; (try with_reducible rfl))
      try simp only [Act.put, List.setIfInBounds_toArray, List.set_cons_zero, List.set_cons_succ]
      refine wpAnyH_done (by kernel_rfl) ?_ _
      go_wp2
      go_roundw
      case rel => exact ⟨k + 1, by omega, by go_num, HX.out.trans (hHeld.1.mono HX.out.size)⟩
      case measure => (simp [intOf]; try omega)
    · go_wp2
      go_ret
      exact ⟨rfl, hb⟩
set_option maxRecDepth 100000 in
set_option maxHeartbeats 4000000 in
theorem eqEn_any (x : NEn) (v0 u0 : Value) (w : World) (a0 : kI.At 0 w v0 x.fs) (b0 : kI.At 0 w u0 x.fs) (hf : fitEn 1048576 x) :
    Calls Tryz.prog 126 #[.agg #[.int .i64 x.n, v0, .int .i64 x.u], .agg #[.int .i64 x.n, u0, .int .i64 x.u]] w fun e w' => e = .returned (.bool true) ∧ Below w.heap.size w w' := by
  have f0 := hf
  obtain ⟨p0, c0, _, _, rfl, _, _, _⟩ := a0.parts
  obtain ⟨q0, d0, _, _, rfl, _, _, _⟩ := b0.parts
  have A0 := Lib.hid a0
  have E0 := Lib.hid b0
  clear a0 b0
  go_enter Tryz.func126, Tryz.ntmps126
  go_wp2_with fail
  refine (eqLI_any _ _ x.fs _ (A0.out.below (by go_grown)) (E0.out.below (by go_grown)) f0).mono ?_
  rintro e w1 ⟨rfl, b1⟩
  have B1 : Hid (Below w.heap.size w w1) := Lib.hid (Below.trans (by go_grown) (b1.mono (by simp <;> omega)))
  have X1 : Hid (w1.heap[w.heap.size]? = some (.cells #[.int .i64 x.n, .slice p0 x.fs.length c0, .int .i64 x.u] 158 (0, 0))) := Lib.hid ((b1.block w.heap.size (by simp <;> omega)).trans (heap_alloc2_old w _ _))
  have Y1 : Hid (w1.heap[w.heap.size + 1]? = some (.cells #[.int .i64 x.n, .slice q0 x.fs.length d0, .int .i64 x.u] 158 (0, 0))) := Lib.hid ((b1.block (w.heap.size + 1) (by simp <;> omega)).trans (heap_alloc2_new w _ _))
  clear b1
  have xh := X1.out; have x0 := cell_of_row w1 (w.heap.size) 0 _ _ _ xh; simp at x0; have xf0 := frozen_of_row w1 (w.heap.size) 0 _ _ xh; have x1 := cell_of_row w1 (w.heap.size) 1 _ _ _ xh; simp at x1; have xf1 := frozen_of_row w1 (w.heap.size) 1 _ _ xh; have x2 := cell_of_row w1 (w.heap.size) 2 _ _ _ xh; simp at x2; have xf2 := frozen_of_row w1 (w.heap.size) 2 _ _ xh; clear xh
  have yh := Y1.out; have y0 := cell_of_row w1 (w.heap.size + 1) 0 _ _ _ yh; simp at y0; have yf0 := frozen_of_row w1 (w.heap.size + 1) 0 _ _ yh; have y1 := cell_of_row w1 (w.heap.size + 1) 1 _ _ _ yh; simp at y1; have yf1 := frozen_of_row w1 (w.heap.size + 1) 1 _ _ yh; have y2 := cell_of_row w1 (w.heap.size + 1) 2 _ _ _ yh; simp at y2; have yf2 := frozen_of_row w1 (w.heap.size + 1) 2 _ _ yh; clear yh
  go_wp2
  go_ret
  exact ⟨rfl, B1.out⟩
set_option maxRecDepth 100000 in
set_option maxHeartbeats 4000000 in
theorem eqLEn_any (v u : Value) (xs : List NEn) (w : World) (h : kEn.At 0 w v xs) (h' : kEn.At 0 w u xs) (hf : fitL fitEn 1048576 xs) :
    Calls Tryz.prog 98 #[v, u] w fun e w' => e = .returned (.bool true) ∧ Below w.heap.size w w' := by
  obtain ⟨p, cap, b, off, rfl, hcap, hp, hcell⟩ := h.parts
  obtain ⟨p', cap', b', off', rfl, hcap', hp', hcell'⟩ := h'.parts
  have HC := Lib.hid hcell; clear hcell
  have HP := Lib.hid hp; clear hp h
  have HC' := Lib.hid hcell'; clear hcell'
  have HP' := Lib.hid hp'; clear hp' h'
  have hlen := hf.1
  have HF := Lib.hid hf.2; clear hf
  go_enter Tryz.func98, Tryz.ntmps98
  go_wp2
  go_loopw [5] (fun i wr => ∃ k : Nat, k ≤ xs.length ∧ i = .int .i64 k ∧ Below w.heap.size w wr) (fun i _ => xs.length - (intOf i).toNat)
  case atStart => exact ⟨0, Nat.zero_le _, rfl, Below.refl _ _⟩
  case round =>
    obtain ⟨k, hk, rfl, hb⟩ := hrel
    by_cases hlt : k < xs.length
    · obtain rfl := HP.out (by omega)
      obtain rfl := HP'.out (by omega)
      obtain ⟨c, hC, hcl⟩ := HC.out k hlt
      obtain ⟨c', hC', hcl'⟩ := HC'.out k hlt
      have hfx := HF.out xs[k] (List.getElem_mem hlt)
      generalize xs[k] = x at *
      obtain ⟨v0, rfl, a0⟩ := hC
      obtain ⟨pv0, cv0, _, _, rfl, hcv0, _, _⟩ := a0.parts
      obtain ⟨u0, rfl, b0⟩ := hC'
      obtain ⟨pu0, cu0, _, _, rfl, hcu0, _, _⟩ := b0.parts
      have d0 : _ = some (Value.int .i64 x.n) := cell_on hb (hcl 0 _ rfl)
      rw [show off + k * kEn.sz + 0 = off + k * 3 from rfl] at d0
      have d1 : _ = some (Value.slice pv0 x.fs.length cv0) := cell_on hb (hcl 1 _ rfl)
      rw [show off + k * kEn.sz + 1 = off + k * 3 + 1 from rfl] at d1
      have d2 : _ = some (Value.int .i64 x.u) := cell_on hb (hcl 2 _ rfl)
      rw [show off + k * kEn.sz + 2 = off + k * 3 + 2 from rfl] at d2
      have g0 : _ = some (Value.int .i64 x.n) := cell_on hb (hcl' 0 _ rfl)
      rw [show off' + k * kEn.sz + 0 = off' + k * 3 from rfl] at g0
      have g1 : _ = some (Value.slice pu0 x.fs.length cu0) := cell_on hb (hcl' 1 _ rfl)
      rw [show off' + k * kEn.sz + 1 = off' + k * 3 + 1 from rfl] at g1
      have g2 : _ = some (Value.int .i64 x.u) := cell_on hb (hcl' 2 _ rfl)
      rw [show off' + k * kEn.sz + 2 = off' + k * 3 + 2 from rfl] at g2
      have HX := Lib.hid hb; clear hb hcl hcl'
      have A0 := Lib.hid a0; clear a0
      have B0 := Lib.hid b0; clear b0
      go_wp2_with fail
      refine wp_region_held_drew (S := (fun w' => Below wr.heap.size wr w' ∧ w'.cell? ⟨b, off + k * 3, none⟩ = some (.int .i64 x.n) ∧ w'.cell? ⟨b, off + k * 3 + 1, none⟩ = some (.slice pv0 x.fs.length cv0) ∧ w'.cell? ⟨b, off + k * 3 + 2, none⟩ = some (.int .i64 x.u) ∧ w'.cell? ⟨b', off' + k * 3, none⟩ = some (.int .i64 x.n) ∧ w'.cell? ⟨b', off' + k * 3 + 1, none⟩ = some (.slice pu0 x.fs.length cu0) ∧ w'.cell? ⟨b', off' + k * 3 + 2, none⟩ = some (.int .i64 x.u))) (by kernel_rfl) ?rx21s (fun hHeld => ?rx210)
      case rx21s => ((try dsimp only); exact ⟨(Below.refl _ _).drew, d0, d1, d2, g0, g1, g2⟩)
      try simp only [Act.put, List.setIfInBounds_toArray, List.set_cons_zero, List.set_cons_succ]
      refine take_at 0 (some 17) (v := ?vx21_1) rfl rfl (by kernel_rfl) (by kernel_rfl) (by kernel_rfl) (fun _ _ _ h => h) (Or.inl ⟨by kernel_rfl, ?yx21_1⟩) hHeld ?zx21_1
      case yx21_1 => (intro wS hSw; (try dsimp only at hSw); go_simp; (try with_reducible rfl))
      try simp only [Act.put, List.setIfInBounds_toArray, List.set_cons_zero, List.set_cons_succ]
      refine take_at 1 (some 18) (v := ?vx21_2) rfl rfl (by kernel_rfl) (by kernel_rfl) (by kernel_rfl) (fun _ _ _ h => h) (Or.inl ⟨by kernel_rfl, ?yx21_2⟩) hHeld ?zx21_2
      case yx21_2 => (intro wS hSw; (try dsimp only at hSw); go_simp; (try with_reducible rfl))
      try simp only [Act.put, List.setIfInBounds_toArray, List.set_cons_zero, List.set_cons_succ]
      refine take_at 2 (some 19) (v := ?vx21_3) rfl rfl (by kernel_rfl) (by kernel_rfl) (by kernel_rfl) (fun _ _ _ h => h) (Or.inl ⟨by kernel_rfl, ?yx21_3⟩) hHeld ?zx21_3
      case yx21_3 => (intro wS hSw; (try dsimp only at hSw); go_simp; (try with_reducible rfl))
      try simp only [Act.put, List.setIfInBounds_toArray, List.set_cons_zero, List.set_cons_succ]
      refine take_at 3 (some 20) (v := ?vx21_4) rfl rfl (by kernel_rfl) (by kernel_rfl) (by kernel_rfl) (fun _ _ _ h => h) (Or.inl ⟨by kernel_rfl, ?yx21_4⟩) hHeld ?zx21_4
      case yx21_4 => (intro wS hSw; (try dsimp only at hSw); go_simp; (try with_reducible rfl))
      try simp only [Act.put, List.setIfInBounds_toArray, List.set_cons_zero, List.set_cons_succ]
      refine take_at 4 (some 21) (v := ?vx21_5) rfl rfl (by kernel_rfl) (by kernel_rfl) (by kernel_rfl) (fun _ _ _ h => h) (Or.inl ⟨by kernel_rfl, ?yx21_5⟩) hHeld ?zx21_5
      case yx21_5 => (intro wS hSw; (try dsimp only at hSw); go_simp; (try with_reducible rfl))
      try simp only [Act.put, List.setIfInBounds_toArray, List.set_cons_zero, List.set_cons_succ]
      refine take_at 5 (some 22) (v := ?vx21_6) rfl rfl (by kernel_rfl) (by kernel_rfl) (by kernel_rfl) (fun _ _ _ h => h) (Or.inl ⟨by kernel_rfl, ?yx21_6⟩) hHeld ?zx21_6
      case yx21_6 => (intro wS hSw; (try dsimp only at hSw); go_simp; (try with_reducible rfl))
      try simp only [Act.put, List.setIfInBounds_toArray, List.set_cons_zero, List.set_cons_succ]
      refine take_at 6 (some 23) (v := ?vx21_7) rfl rfl (by kernel_rfl) (by kernel_rfl) (by kernel_rfl) (fun _ _ _ h => h) (Or.inl ⟨by kernel_rfl, ?yx21_7⟩) hHeld ?zx21_7
      case yx21_7 => (intro wS hSw; (try dsimp only at hSw); go_simp; (try with_reducible rfl))
      try simp only [Act.put, List.setIfInBounds_toArray, List.set_cons_zero, List.set_cons_succ]
      refine take_at 7 (some 24) (v := ?vx21_8) rfl rfl (by kernel_rfl) (by kernel_rfl) (by kernel_rfl) (fun _ _ _ h => h) (Or.inl ⟨by kernel_rfl, ?yx21_8⟩) hHeld ?zx21_8
      case yx21_8 => (intro wS hSw; (try dsimp only at hSw); go_simp; (try with_reducible rfl))
      try simp only [Act.put, List.setIfInBounds_toArray, List.set_cons_zero, List.set_cons_succ]
      refine wpAnyH_ready (rs := [8]) (by kernel_rfl) (by simp) ?_
      refine cons_at (some 25) rfl rfl (by kernel_rfl) (fun K hK => ?kx21_10) AllReadyH.nil
      go_simp
      (go_at_call 126; refine (eqEn_any x _ _ _ (A0.out.below (HX.out.trans (hHeld.1.mono HX.out.size))) (B0.out.below (HX.out.trans (hHeld.1.mono HX.out.size))) hfx).mono ?_; rintro e w' ⟨rfl, hbel⟩)
      try go_wp2_with fail
      refine hK.out _ _ ?sx21_10 (fun hHeld => ?_)
      case sx21_10 => ((try dsimp only); first | exact keepB6 (by assumption) hbel | assumption)
      clear hK K
      try simp only [Act.put, List.setIfInBounds_toArray, List.set_cons_zero, List.set_cons_succ]
      refine take_at 9 (some 26) (v := ?vx21_11) rfl rfl (by kernel_rfl) (by kernel_rfl) (by kernel_rfl) (fun _ _ _ h => h) (Or.inl ⟨by kernel_rfl, ?yx21_11⟩) hHeld ?zx21_11
      case yx21_11 => (intro wS hSw; (try dsimp only at hSw); go_simp; (try with_reducible rfl))
      try simp only [Act.put, List.setIfInBounds_toArray, List.set_cons_zero, List.set_cons_succ]
      refine wpAnyH_done (by kernel_rfl) ?_ _
      go_wp2
      go_roundw
      case rel => exact ⟨k + 1, by omega, by go_num, HX.out.trans (hHeld.1.mono HX.out.size)⟩
      case measure => (simp [intOf]; try omega)
    · go_wp2
      go_ret
      exact ⟨rfl, hb⟩
set_option maxRecDepth 100000 in
set_option maxHeartbeats 4000000 in
theorem eqEl_any (x : NEl) (v0 u0 : Value) (w : World) (a0 : kEn.At 0 w v0 x.en) (b0 : kEn.At 0 w u0 x.en) (hf : fitEl 1048576 x) :
    Calls Tryz.prog 56 #[.agg #[.int .i64 x.ck, v0], .agg #[.int .i64 x.ck, u0]] w fun e w' => e = .returned (.bool true) ∧ Below w.heap.size w w' := by
  have f0 := hf
  obtain ⟨p0, c0, _, _, rfl, _, _, _⟩ := a0.parts
  obtain ⟨q0, d0, _, _, rfl, _, _, _⟩ := b0.parts
  have A0 := Lib.hid a0
  have E0 := Lib.hid b0
  clear a0 b0
  go_enter Tryz.func56, Tryz.ntmps56
  go_wp2_with fail
  refine (eqLEn_any _ _ x.en _ (A0.out.below (by go_grown)) (E0.out.below (by go_grown)) f0).mono ?_
  rintro e w1 ⟨rfl, b1⟩
  have B1 : Hid (Below w.heap.size w w1) := Lib.hid (Below.trans (by go_grown) (b1.mono (by simp <;> omega)))
  clear b1
  go_wp2
  go_ret
  exact ⟨rfl, B1.out⟩
set_option maxRecDepth 100000 in
set_option maxHeartbeats 4000000 in
theorem eqLEl_any (v u : Value) (xs : List NEl) (w : World) (h : kEl.At 0 w v xs) (h' : kEl.At 0 w u xs) (hf : fitL fitEl 1048576 xs) :
    Calls Tryz.prog 27 #[v, u] w fun e w' => e = .returned (.bool true) ∧ Below w.heap.size w w' := by
  obtain ⟨p, cap, b, off, rfl, hcap, hp, hcell⟩ := h.parts
  obtain ⟨p', cap', b', off', rfl, hcap', hp', hcell'⟩ := h'.parts
  have HC := Lib.hid hcell; clear hcell
  have HP := Lib.hid hp; clear hp h
  have HC' := Lib.hid hcell'; clear hcell'
  have HP' := Lib.hid hp'; clear hp' h'
  have hlen := hf.1
  have HF := Lib.hid hf.2; clear hf
  go_enter Tryz.func27, Tryz.ntmps27
  go_wp2
  go_loopw [5] (fun i wr => ∃ k : Nat, k ≤ xs.length ∧ i = .int .i64 k ∧ Below w.heap.size w wr) (fun i _ => xs.length - (intOf i).toNat)
  case atStart => exact ⟨0, Nat.zero_le _, rfl, Below.refl _ _⟩
  case round =>
    obtain ⟨k, hk, rfl, hb⟩ := hrel
    by_cases hlt : k < xs.length
    · obtain rfl := HP.out (by omega)
      obtain rfl := HP'.out (by omega)
      obtain ⟨c, hC, hcl⟩ := HC.out k hlt
      obtain ⟨c', hC', hcl'⟩ := HC'.out k hlt
      have hfx := HF.out xs[k] (List.getElem_mem hlt)
      generalize xs[k] = x at *
      obtain ⟨v0, rfl, a0⟩ := hC
      obtain ⟨pv0, cv0, _, _, rfl, hcv0, _, _⟩ := a0.parts
      obtain ⟨u0, rfl, b0⟩ := hC'
      obtain ⟨pu0, cu0, _, _, rfl, hcu0, _, _⟩ := b0.parts
      have d0 : _ = some (Value.int .i64 x.ck) := cell_on hb (hcl 0 _ rfl)
      rw [show off + k * kEl.sz + 0 = off + k * 2 from rfl] at d0
      have d1 : _ = some (Value.slice pv0 x.en.length cv0) := cell_on hb (hcl 1 _ rfl)
      rw [show off + k * kEl.sz + 1 = off + k * 2 + 1 from rfl] at d1
      have g0 : _ = some (Value.int .i64 x.ck) := cell_on hb (hcl' 0 _ rfl)
      rw [show off' + k * kEl.sz + 0 = off' + k * 2 from rfl] at g0
      have g1 : _ = some (Value.slice pu0 x.en.length cu0) := cell_on hb (hcl' 1 _ rfl)
      rw [show off' + k * kEl.sz + 1 = off' + k * 2 + 1 from rfl] at g1
      have HX := Lib.hid hb; clear hb hcl hcl'
      have A0 := Lib.hid a0; clear a0
      have B0 := Lib.hid b0; clear b0
      go_wp2_with fail
      refine wp_region_held_drew (S := (fun w' => Below wr.heap.size wr w' ∧ w'.cell? ⟨b, off + k * 2, none⟩ = some (.int .i64 x.ck) ∧ w'.cell? ⟨b, off + k * 2 + 1, none⟩ = some (.slice pv0 x.en.length cv0) ∧ w'.cell? ⟨b', off' + k * 2, none⟩ = some (.int .i64 x.ck) ∧ w'.cell? ⟨b', off' + k * 2 + 1, none⟩ = some (.slice pu0 x.en.length cu0))) (by kernel_rfl) ?rx22s (fun hHeld => ?rx220)
      case rx22s => ((try dsimp only); exact ⟨(Below.refl _ _).drew, d0, d1, g0, g1⟩)
      try simp only [Act.put, List.setIfInBounds_toArray, List.set_cons_zero, List.set_cons_succ]
      refine take_at 0 (some 17) (v := ?vx22_1) rfl rfl (by kernel_rfl) (by kernel_rfl) (by kernel_rfl) (fun _ _ _ h => h) (Or.inl ⟨by kernel_rfl, ?yx22_1⟩) hHeld ?zx22_1
      case yx22_1 => (intro wS hSw; (try dsimp only at hSw); go_simp; (try with_reducible rfl))
      try simp only [Act.put, List.setIfInBounds_toArray, List.set_cons_zero, List.set_cons_succ]
      refine take_at 1 (some 18) (v := ?vx22_2) rfl rfl (by kernel_rfl) (by kernel_rfl) (by kernel_rfl) (fun _ _ _ h => h) (Or.inl ⟨by kernel_rfl, ?yx22_2⟩) hHeld ?zx22_2
      case yx22_2 => (intro wS hSw; (try dsimp only at hSw); go_simp; (try with_reducible rfl))
      try simp only [Act.put, List.setIfInBounds_toArray, List.set_cons_zero, List.set_cons_succ]
      refine take_at 2 (some 19) (v := ?vx22_3) rfl rfl (by kernel_rfl) (by kernel_rfl) (by kernel_rfl) (fun _ _ _ h => h) (Or.inl ⟨by kernel_rfl, ?yx22_3⟩) hHeld ?zx22_3
      case yx22_3 => (intro wS hSw; (try dsimp only at hSw); go_simp; (try with_reducible rfl))
      try simp only [Act.put, List.setIfInBounds_toArray, List.set_cons_zero, List.set_cons_succ]
      refine take_at 3 (some 20) (v := ?vx22_4) rfl rfl (by kernel_rfl) (by kernel_rfl) (by kernel_rfl) (fun _ _ _ h => h) (Or.inl ⟨by kernel_rfl, ?yx22_4⟩) hHeld ?zx22_4
      case yx22_4 => (intro wS hSw; (try dsimp only at hSw); go_simp; (try with_reducible rfl))
      try simp only [Act.put, List.setIfInBounds_toArray, List.set_cons_zero, List.set_cons_succ]
      refine take_at 4 (some 21) (v := ?vx22_5) rfl rfl (by kernel_rfl) (by kernel_rfl) (by kernel_rfl) (fun _ _ _ h => h) (Or.inl ⟨by kernel_rfl, ?yx22_5⟩) hHeld ?zx22_5
      case yx22_5 => (intro wS hSw; (try dsimp only at hSw); go_simp; (try with_reducible rfl))
      try simp only [Act.put, List.setIfInBounds_toArray, List.set_cons_zero, List.set_cons_succ]
      refine take_at 5 (some 22) (v := ?vx22_6) rfl rfl (by kernel_rfl) (by kernel_rfl) (by kernel_rfl) (fun _ _ _ h => h) (Or.inl ⟨by kernel_rfl, ?yx22_6⟩) hHeld ?zx22_6
      case yx22_6 => (intro wS hSw; (try dsimp only at hSw); go_simp; (try with_reducible rfl))
      try simp only [Act.put, List.setIfInBounds_toArray, List.set_cons_zero, List.set_cons_succ]
      refine take_at 6 (some 23) (v := ?vx22_7) rfl rfl (by kernel_rfl) (by kernel_rfl) (by kernel_rfl) (fun _ _ _ h => h) (Or.inl ⟨by kernel_rfl, ?yx22_7⟩) hHeld ?zx22_7
      case yx22_7 => (intro wS hSw; (try dsimp only at hSw); go_simp; (try with_reducible rfl))
      try simp only [Act.put, List.setIfInBounds_toArray, List.set_cons_zero, List.set_cons_succ]
      refine take_at 7 (some 24) (v := ?vx22_8) rfl rfl (by kernel_rfl) (by kernel_rfl) (by kernel_rfl) (fun _ _ _ h => h) (Or.inl ⟨by kernel_rfl, ?yx22_8⟩) hHeld ?zx22_8
      case yx22_8 => (intro wS hSw; (try dsimp only at hSw); go_simp; (try with_reducible rfl))
      try simp only [Act.put, List.setIfInBounds_toArray, List.set_cons_zero, List.set_cons_succ]
      refine wpAnyH_ready (rs := [8]) (by kernel_rfl) (by simp) ?_
      refine cons_at (some 25) rfl rfl (by kernel_rfl) (fun K hK => ?kx22_10) AllReadyH.nil
      go_simp
      (go_at_call 56; refine (eqEl_any x _ _ _ (A0.out.below (HX.out.trans (hHeld.1.mono HX.out.size))) (B0.out.below (HX.out.trans (hHeld.1.mono HX.out.size))) hfx).mono ?_; rintro e w' ⟨rfl, hbel⟩)
      try go_wp2_with fail
      refine hK.out _ _ ?sx22_10 (fun hHeld => ?_)
      case sx22_10 => ((try dsimp only); first | exact keepB4 (by assumption) hbel | assumption)
      clear hK K
      try simp only [Act.put, List.setIfInBounds_toArray, List.set_cons_zero, List.set_cons_succ]
      refine take_at 9 (some 26) (v := ?vx22_11) rfl rfl (by kernel_rfl) (by kernel_rfl) (by kernel_rfl) (fun _ _ _ h => h) (Or.inl ⟨by kernel_rfl, ?yx22_11⟩) hHeld ?zx22_11
      case yx22_11 => (intro wS hSw; (try dsimp only at hSw); go_simp; (try with_reducible rfl))
      try simp only [Act.put, List.setIfInBounds_toArray, List.set_cons_zero, List.set_cons_succ]
      refine wpAnyH_done (by kernel_rfl) ?_ _
      go_wp2
      go_roundw
      case rel => exact ⟨k + 1, by omega, by go_num, HX.out.trans (hHeld.1.mono HX.out.size)⟩
      case measure => (simp [intOf]; try omega)
    · go_wp2
      go_ret
      exact ⟨rfl, hb⟩
end Go.Proofs.YtihpibdodlgpaaaGreatDoor
