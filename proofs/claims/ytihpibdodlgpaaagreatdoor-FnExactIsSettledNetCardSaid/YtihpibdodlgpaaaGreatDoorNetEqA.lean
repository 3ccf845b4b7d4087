/- Contracts of the harness's functions that compare the data of networks: equal ones are found equal. -/
import Derived.Test.YtihpibdodlgpaaaGreatDoorNetD
import Derived.Handy
import Derived.BigQuiet
namespace Go.Proofs.YtihpibdodlgpaaaGreatDoor
open Go.RowKit

set_option maxRecDepth 100000 in
set_option maxHeartbeats 4000000 in
theorem eqLI_any (v u : Value) (xs : List Int) (w : World) (h : kI.At 0 w v xs) (h' : kI.At 0 w u xs) (hf : xs.length ≤ 1048576) :
    Calls Tryz.prog 53 #[v, u] w fun e w' => e = .returned (.bool true) ∧ Below w.heap.size w w' := by
  obtain ⟨p, cap, b, off, rfl, hcap, hp, hcell⟩ := h.parts
  obtain ⟨p', cap', b', off', rfl, hcap', hp', hcell'⟩ := h'.parts
  have HC := Lib.hid hcell; clear hcell
  have HP := Lib.hid hp; clear hp h
  have HC' := Lib.hid hcell'; clear hcell'
  have HP' := Lib.hid hp'; clear hp' h'
  have hlen := hf
  go_enter Tryz.func53, Tryz.ntmps53
  go_wp2
  go_loopw [5] (fun i wr => ∃ k : Nat, k ≤ xs.length ∧ i = .int .i64 k ∧ Below w.heap.size w wr) (fun i _ => xs.length - (intOf i).toNat)
  case atStart => exact ⟨0, Nat.zero_le _, rfl, Below.refl _ _⟩
  case round =>
    obtain ⟨k, hk, rfl, hb⟩ := hrel
    by_cases hlt : k < xs.length
    · obtain rfl := HP.out (by omega)
      obtain rfl := HP'.out (by omega)
      obtain ⟨c, hC, hcl⟩ := HC.out k hlt
      obtain ⟨c', hC', hcl'⟩ := HC'.out k hlt
      generalize xs[k] = x at *
      obtain rfl : c = [.int .i64 x] := hC
      obtain rfl : c' = [.int .i64 x] := hC'
      have d0 := cell_on hb (hcl 0 _ rfl)
      rw [show off + k * kI.sz + 0 = off + k from by show off + k * 1 + 0 = off + k; omega] at d0
      have g0 := cell_on hb (hcl' 0 _ rfl)
      rw [show off' + k * kI.sz + 0 = off' + k from by show off' + k * 1 + 0 = off' + k; omega] at g0
      have HX := Lib.hid hb; clear hb hcl hcl'
      go_wp2
      go_quiet (fail)
      go_wp2
      go_roundw
      case rel => exact ⟨k + 1, by omega, by go_num, HX.out.trans (below_eq ⟨_, rfl⟩)⟩
      case measure => (simp [intOf]; try omega)
    · go_wp2
      go_ret
      exact ⟨rfl, hb⟩
set_option maxRecDepth 100000 in
set_option maxHeartbeats 4000000 in
theorem eqLS_any (v u : Value) (xs : List ByteArray) (w : World) (h : kS.At 0 w v xs) (h' : kS.At 0 w u xs) (hf : fitL fitS 1048576 xs) :
    Calls Tryz.prog 96 #[v, u] w fun e w' => e = .returned (.bool true) ∧ Below w.heap.size w w' := by
  obtain ⟨p, cap, b, off, rfl, hcap, hp, hcell⟩ := h.parts
  obtain ⟨p', cap', b', off', rfl, hcap', hp', hcell'⟩ := h'.parts
  have HC := Lib.hid hcell; clear hcell
  have HP := Lib.hid hp; clear hp h
  have HC' := Lib.hid hcell'; clear hcell'
  have HP' := Lib.hid hp'; clear hp' h'
  have hlen := hf.1
  have HF := Lib.hid hf.2; clear hf
  go_enter Tryz.func96, Tryz.ntmps96
  go_wp2
  go_loopw [5] (fun i wr => ∃ k : Nat, k ≤ xs.length ∧ i = .int .i64 k ∧ Below w.heap.size w wr) (fun i _ => xs.length - (intOf i).toNat)
  case atStart => exact ⟨0, Nat.zero_le _, rfl, Below.refl _ _⟩
  case round =>
    obtain ⟨k, hk, rfl, hb⟩ := hrel
    by_cases hlt : k < xs.length
    · obtain rfl := HP.out (by omega)
      obtain rfl := HP'.out (by omega)
      obtain ⟨c, hC, hcl⟩ := HC.out k hlt
      obtain ⟨c', hC', hcl'⟩ := HC'.out k hlt
      have hfx := HF.out xs[k] (List.getElem_mem hlt)
      generalize xs[k] = x at *
      obtain rfl : c = [.string x] := hC
      obtain rfl : c' = [.string x] := hC'
      have d0 := cell_on hb (hcl 0 _ rfl)
      rw [show off + k * kS.sz + 0 = off + k from by show off + k * 1 + 0 = off + k; omega] at d0
      have g0 := cell_on hb (hcl' 0 _ rfl)
      rw [show off' + k * kS.sz + 0 = off' + k from by show off' + k * 1 + 0 = off' + k; omega] at g0
      have HX := Lib.hid hb; clear hb hcl hcl'
      go_wp2
      go_quiet (fail)
      go_wp2
      go_roundw
      case rel => exact ⟨k + 1, by omega, by go_num, HX.out.trans (below_eq ⟨_, rfl⟩)⟩
      case measure => (simp [intOf]; try omega)
    · go_wp2
      go_ret
      exact ⟨rfl, hb⟩
set_option maxRecDepth 100000 in
set_option maxHeartbeats 4000000 in
theorem eqHd_any (x : NHd) (w : World) :
    Calls Tryz.prog 97 #[.agg #[.int .i64 x.n, .int .i64 x.u], .agg #[.int .i64 x.n, .int .i64 x.u]] w fun e w' => e = .returned (.bool true) ∧ Below w.heap.size w w' := by
  go_enter Tryz.func97, Tryz.ntmps97
  go_wp2
  go_ret
  exact ⟨rfl, by go_grown⟩
set_option maxRecDepth 100000 in
set_option maxHeartbeats 4000000 in
theorem eqLHd_any (v u : Value) (xs : List NHd) (w : World) (h : kHd.At 0 w v xs) (h' : kHd.At 0 w u xs) (hf : xs.length ≤ 1048576) :
    Calls Tryz.prog 55 #[v, u] w fun e w' => e = .returned (.bool true) ∧ Below w.heap.size w w' := by
  obtain ⟨p, cap, b, off, rfl, hcap, hp, hcell⟩ := h.parts
  obtain ⟨p', cap', b', off', rfl, hcap', hp', hcell'⟩ := h'.parts
  have HC := Lib.hid hcell; clear hcell
  have HP := Lib.hid hp; clear hp h
  have HC' := Lib.hid hcell'; clear hcell'
  have HP' := Lib.hid hp'; clear hp' h'
  have hlen := hf
  go_enter Tryz.func55, Tryz.ntmps55
  go_wp2
  go_loopw [5] (fun i wr => ∃ k : Nat, k ≤ xs.length ∧ i = .int .i64 k ∧ Below w.heap.size w wr) (fun i _ => xs.length - (intOf i).toNat)
  case atStart => exact ⟨0, Nat.zero_le _, rfl, Below.refl _ _⟩
  case round =>
    obtain ⟨k, hk, rfl, hb⟩ := hrel
    by_cases hlt : k < xs.length
    · obtain rfl := HP.out (by omega)
      obtain rfl := HP'.out (by omega)
      obtain ⟨c, hC, hcl⟩ := HC.out k hlt
      obtain ⟨c', hC', hcl'⟩ := HC'.out k hlt
      generalize xs[k] = x at *
      obtain rfl : c = [.int .i64 x.n, .int .i64 x.u] := hC
      obtain rfl : c' = [.int .i64 x.n, .int .i64 x.u] := hC'
      have d0 : _ = some (Value.int .i64 x.n) := cell_on hb (hcl 0 _ rfl)
      rw [show off + k * kHd.sz + 0 = off + k * 2 from rfl] at d0
      have d1 : _ = some (Value.int .i64 x.u) := cell_on hb (hcl 1 _ rfl)
      rw [show off + k * kHd.sz + 1 = off + k * 2 + 1 from rfl] at d1
      have g0 : _ = some (Value.int .i64 x.n) := cell_on hb (hcl' 0 _ rfl)
      rw [show off' + k * kHd.sz + 0 = off' + k * 2 from rfl] at g0
      have g1 : _ = some (Value.int .i64 x.u) := cell_on hb (hcl' 1 _ rfl)
      rw [show off' + k * kHd.sz + 1 = off' + k * 2 + 1 from rfl] at g1
      have HX := Lib.hid hb; clear hb hcl hcl'
      go_wp2_with fail
      refine wp_region_held_drew (S := (fun w' => Below wr.heap.size wr w' ∧ w'.cell? ⟨b, off + k * 2, none⟩ = some (.int .i64 x.n) ∧ w'.cell? ⟨b, off + k * 2 + 1, none⟩ = some (.int .i64 x.u) ∧ w'.cell? ⟨b', off' + k * 2, none⟩ = some (.int .i64 x.n) ∧ w'.cell? ⟨b', off' + k * 2 + 1, none⟩ = some (.int .i64 x.u))) (by kernel_rfl) ?rx16s (fun hHeld => ?rx160)
      case rx16s => ((try dsimp only); exact ⟨(Below.refl _ _).drew, d0, d1, g0, g1⟩)
      try simp only [Act.put, List.setIfInBounds_toArray, List.set_cons_zero, List.set_cons_succ]
      refine take_at 0 (some 17) (v := ?vx16_1) rfl rfl (by kernel_rfl) (by kernel_rfl) (by kernel_rfl) (fun _ _ _ h => h) (Or.inl ⟨by kernel_rfl, ?yx16_1⟩) hHeld ?zx16_1
      case yx16_1 => (intro wS hSw; (try dsimp only at hSw); go_simp; (try with_reducible rfl))
      try simp only [Act.put, List.setIfInBounds_toArray, List.set_cons_zero, List.set_cons_succ]
      refine take_at 1 (some 18) (v := ?vx16_2) rfl rfl (by kernel_rfl) (by kernel_rfl) (by kernel_rfl) (fun _ _ _ h => h) (Or.inl ⟨by kernel_rfl, ?yx16_2⟩) hHeld ?zx16_2
      case yx16_2 => (intro wS hSw; (try dsimp only at hSw); go_simp; (try with_reducible rfl))
      try simp only [Act.put, List.setIfInBounds_toArray, List.set_cons_zero, List.set_cons_succ]
      refine take_at 2 (some 19) (v := ?vx16_3) rfl rfl (by kernel_rfl) (by kernel_rfl) (by kernel_rfl) (fun _ _ _ h => h) (Or.inl ⟨by kernel_rfl, ?yx16_3⟩) hHeld ?zx16_3
      case yx16_3 => (intro wS hSw; (try dsimp only at hSw); go_simp; (try with_reducible rfl))
      try simp only [Act.put, List.setIfInBounds_toArray, List.set_cons_zero, List.set_cons_succ]
      refine take_at 3 (some 20) (v := ?vx16_4) rfl rfl (by kernel_rfl) (by kernel_rfl) (by kernel_rfl) (fun _ _ _ h => h) (Or.inl ⟨by kernel_rfl, ?yx16_4⟩) hHeld ?zx16_4
      case yx16_4 => (intro wS hSw; (try dsimp only at hSw); go_simp; (try with_reducible rfl))
      try simp only [Act.put, List.setIfInBounds_toArray, List.set_cons_zero, List.set_cons_succ]
      refine take_at 4 (some 21) (v := ?vx16_5) rfl rfl (by kernel_rfl) (by kernel_rfl) (by kernel_rfl) (fun _ _ _ h => h) (Or.inl ⟨by kernel_rfl, ?yx16_5⟩) hHeld ?zx16_5
      case yx16_5 => (intro wS hSw; (try dsimp only at hSw); go_simp; (try with_reducible rfl))
      try simp only [Act.put, List.setIfInBounds_toArray, List.set_cons_zero, List.set_cons_succ]
      refine take_at 5 (some 22) (v := ?vx16_6) rfl rfl (by kernel_rfl) (by kernel_rfl) (by kernel_rfl) (fun _ _ _ h => h) (Or.inl ⟨by kernel_rfl, ?yx16_6⟩) hHeld ?zx16_6
      case yx16_6 => (intro wS hSw; (try dsimp only at hSw); go_simp; (try with_reducible rfl))
      try simp only [Act.put, List.setIfInBounds_toArray, List.set_cons_zero, List.set_cons_succ]
      refine take_at 6 (some 23) (v := ?vx16_7) rfl rfl (by kernel_rfl) (by kernel_rfl) (by kernel_rfl) (fun _ _ _ h => h) (Or.inl ⟨by kernel_rfl, ?yx16_7⟩) hHeld ?zx16_7
      case yx16_7 => (intro wS hSw; (try dsimp only at hSw); go_simp; (try with_reducible rfl))
      try simp only [Act.put, List.setIfInBounds_toArray, List.set_cons_zero, List.set_cons_succ]
      refine take_at 7 (some 24) (v := ?vx16_8) rfl rfl (by kernel_rfl) (by kernel_rfl) (by kernel_rfl) (fun _ _ _ h => h) (Or.inl ⟨by kernel_rfl, ?yx16_8⟩) hHeld ?zx16_8
      case yx16_8 => (intro wS hSw; (try dsimp only at hSw); go_simp; (try with_reducible rfl))
      try simp only [Act.put, List.setIfInBounds_toArray, List.set_cons_zero, List.set_cons_succ]
      refine wpAnyH_ready (rs := [8]) (by kernel_rfl) (by simp) ?_
      refine cons_at (some 25) rfl rfl (by kernel_rfl) (fun K hK => ?kx16_10) AllReadyH.nil
      go_simp
      (go_at_call 97; refine (eqHd_any x _).mono ?_; rintro e w' ⟨rfl, hbel⟩)
      try go_wp2_with fail
      refine hK.out _ _ ?sx16_10 (fun hHeld => ?_)
      case sx16_10 => ((try dsimp only); first | exact keepB4 (by assumption) hbel | assumption)
      clear hK K
      try simp only [Act.put, List.setIfInBounds_toArray, List.set_cons_zero, List.set_cons_succ]
      refine take_at 9 (some 26) (v := ?vx16_11) rfl rfl (by kernel_rfl) (by kernel_rfl) (by kernel_rfl) (fun _ _ _ h => h) (Or.inl ⟨by kernel_rfl, ?yx16_11⟩) hHeld ?zx16_11
      case yx16_11 => (intro wS hSw; (try dsimp only at hSw); go_simp; (try with_reducible rfl))
      try simp only [Act.put, List.setIfInBounds_toArray, List.set_cons_zero, List.set_cons_succ]
      refine wpAnyH_done (by kernel_rfl) ?_ _
      go_wp2
      go_roundw
      case rel => exact ⟨k + 1, by omega, by go_num, HX.out.trans (hHeld.1.mono HX.out.size)⟩
      case measure => (simp [intOf]; try omega)
    · go_wp2
      go_ret
      exact ⟨rfl, hb⟩
set_option maxRecDepth 100000 in
set_option maxHeartbeats 4000000 in
theorem eqRq_any (x : NRq) (w : World) :
    Calls Tryz.prog 128 #[.agg #[.int .i64 x.n, .int .i64 x.s, .int .i64 x.u, .int .i64 x.t], .agg #[.int .i64 x.n, .int .i64 x.s, .int .i64 x.u, .int .i64 x.t]] w fun e w' => e = .returned (.bool true) ∧ Below w.heap.size w w' := by
  go_enter Tryz.func128, Tryz.ntmps128
  go_wp2
  go_ret
  exact ⟨rfl, by go_grown⟩
set_option maxRecDepth 100000 in
set_option maxHeartbeats 4000000 in
theorem eqLRq_any (v u : Value) (xs : List NRq) (w : World) (h : kRq.At 0 w v xs) (h' : kRq.At 0 w u xs) (hf : xs.length ≤ 1048576) :
    Calls Tryz.prog 100 #[v, u] w fun e w' => e = .returned (.bool true) ∧ Below w.heap.size w w' := by
  obtain ⟨p, cap, b, off, rfl, hcap, hp, hcell⟩ := h.parts
  obtain ⟨p', cap', b', off', rfl, hcap', hp', hcell'⟩ := h'.parts
  have HC := Lib.hid hcell; clear hcell
  have HP := Lib.hid hp; clear hp h
  have HC' := Lib.hid hcell'; clear hcell'
  have HP' := Lib.hid hp'; clear hp' h'
  have hlen := hf
  go_enter Tryz.func100, Tryz.ntmps100
  go_wp2
  go_loopw [5] (fun i wr => ∃ k : Nat, k ≤ xs.length ∧ i = .int .i64 k ∧ Below w.heap.size w wr) (fun i _ => xs.length - (intOf i).toNat)
  case atStart => exact ⟨0, Nat.zero_le _, rfl, Below.refl _ _⟩
  case round =>
    obtain ⟨k, hk, rfl, hb⟩ := hrel
    by_cases hlt : k < xs.length
    · obtain rfl := HP.out (by omega)
      obtain rfl := HP'.out (by omega)
      obtain ⟨c, hC, hcl⟩ := HC.out k hlt
      obtain ⟨c', hC', hcl'⟩ := HC'.out k hlt
      generalize xs[k] = x at *
      obtain rfl : c = [.int .i64 x.n, .int .i64 x.s, .int .i64 x.u, .int .i64 x.t] := hC
      obtain rfl : c' = [.int .i64 x.n, .int .i64 x.s, .int .i64 x.u, .int .i64 x.t] := hC'
      have d0 : _ = some (Value.int .i64 x.n) := cell_on hb (hcl 0 _ rfl)
      rw [show off + k * kRq.sz + 0 = off + k * 4 from rfl] at d0
      have d1 : _ = some (Value.int .i64 x.s) := cell_on hb (hcl 1 _ rfl)
      rw [show off + k * kRq.sz + 1 = off + k * 4 + 1 from rfl] at d1
      have d2 : _ = some (Value.int .i64 x.u) := cell_on hb (hcl 2 _ rfl)
      rw [show off + k * kRq.sz + 2 = off + k * 4 + 2 from rfl] at d2
      have d3 : _ = some (Value.int .i64 x.t) := cell_on hb (hcl 3 _ rfl)
      rw [show off + k * kRq.sz + 3 = off + k * 4 + 3 from rfl] at d3
      have g0 : _ = some (Value.int .i64 x.n) := cell_on hb (hcl' 0 _ rfl)
      rw [show off' + k * kRq.sz + 0 = off' + k * 4 from rfl] at g0
      have g1 : _ = some (Value.int .i64 x.s) := cell_on hb (hcl' 1 _ rfl)
      rw [show off' + k * kRq.sz + 1 = off' + k * 4 + 1 from rfl] at g1
      have g2 : _ = some (Value.int .i64 x.u) := cell_on hb (hcl' 2 _ rfl)
      rw [show off' + k * kRq.sz + 2 = off' + k * 4 + 2 from rfl] at g2
      have g3 : _ = some (Value.int .i64 x.t) := cell_on hb (hcl' 3 _ rfl)
      rw [show off' + k * kRq.sz + 3 = off' + k * 4 + 3 from rfl] at g3
      have HX := Lib.hid hb; clear hb hcl hcl'
      go_wp2_with fail
      refine wp_region_held_drew (S := (fun w' => Below wr.heap.size wr w' ∧ w'.cell? ⟨b, off + k * 4, none⟩ = some (.int .i64 x.n) ∧ w'.cell? ⟨b, off + k * 4 + 1, none⟩ = some (.int .i64 x.s) ∧ w'.cell? ⟨b, off + k * 4 + 2, none⟩ = some (.int .i64 x.u) ∧ w'.cell? ⟨b, off + k * 4 + 3, none⟩ = some (.int .i64 x.t) ∧ w'.cell? ⟨b', off' + k * 4, none⟩ = some (.int .i64 x.n) ∧ w'.cell? ⟨b', off' + k * 4 + 1, none⟩ = some (.int .i64 x.s) ∧ w'.cell? ⟨b', off' + k * 4 + 2, none⟩ = some (.int .i64 x.u) ∧ w'.cell? ⟨b', off' + k * 4 + 3, none⟩ = some (.int .i64 x.t))) (by kernel_rfl) ?rx17s (fun hHeld => ?rx170)
      case rx17s => ((try dsimp only); exact ⟨(Below.refl _ _).drew, d0, d1, d2, d3, g0, g1, g2, g3⟩)
      try simp only [Act.put, List.setIfInBounds_toArray, List.set_cons_zero, List.set_cons_succ]
      refine take_at 0 (some 17) (v := ?vx17_1) rfl rfl (by kernel_rfl) (by kernel_rfl) (by kernel_rfl) (fun _ _ _ h => h) (Or.inl ⟨by kernel_rfl, ?yx17_1⟩) hHeld ?zx17_1
      case yx17_1 => (intro wS hSw; (try dsimp only at hSw); go_simp; (try with_reducible rfl))
      try simp only [Act.put, List.setIfInBounds_toArray, List.set_cons_zero, List.set_cons_succ]
      refine take_at 1 (some 18) (v := ?vx17_2) rfl rfl (by kernel_rfl) (by kernel_rfl) (by kernel_rfl) (fun _ _ _ h => h) (Or.inl ⟨by kernel_rfl, ?yx17_2⟩) hHeld ?zx17_2
      case yx17_2 => (intro wS hSw; (try dsimp only at hSw); go_simp; (try with_reducible rfl))
      try simp only [Act.put, List.setIfInBounds_toArray, List.set_cons_zero, List.set_cons_succ]
      refine take_at 2 (some 19) (v := ?vx17_3) rfl rfl (by kernel_rfl) (by kernel_rfl) (by kernel_rfl) (fun _ _ _ h => h) (Or.inl ⟨by kernel_rfl, ?yx17_3⟩) hHeld ?zx17_3
      case yx17_3 => (intro wS hSw; (try dsimp only at hSw); go_simp; (try with_reducible rfl))
      try simp only [Act.put, List.setIfInBounds_toArray, List.set_cons_zero, List.set_cons_succ]
      refine take_at 3 (some 20) (v := ?vx17_4) rfl rfl (by kernel_rfl) (by kernel_rfl) (by kernel_rfl) (fun _ _ _ h => h) (Or.inl ⟨by kernel_rfl, ?yx17_4⟩) hHeld ?zx17_4
      case yx17_4 => (intro wS hSw; (try dsimp only at hSw); go_simp; (try with_reducible rfl))
      try simp only [Act.put, List.setIfInBounds_toArray, List.set_cons_zero, List.set_cons_succ]
      refine take_at 4 (some 21) (v := ?vx17_5) rfl rfl (by kernel_rfl) (by kernel_rfl) (by kernel_rfl) (fun _ _ _ h => h) (Or.inl ⟨by kernel_rfl, ?yx17_5⟩) hHeld ?zx17_5
      case yx17_5 => (intro wS hSw; (try dsimp only at hSw); go_simp; (try with_reducible rfl))
      try simp only [Act.put, List.setIfInBounds_toArray, List.set_cons_zero, List.set_cons_succ]
      refine take_at 5 (some 22) (v := ?vx17_6) rfl rfl (by kernel_rfl) (by kernel_rfl) (by kernel_rfl) (fun _ _ _ h => h) (Or.inl ⟨by kernel_rfl, ?yx17_6⟩) hHeld ?zx17_6
      case yx17_6 => (intro wS hSw; (try dsimp only at hSw); go_simp; (try with_reducible rfl))
      try simp only [Act.put, List.setIfInBounds_toArray, List.set_cons_zero, List.set_cons_succ]
      refine take_at 6 (some 23) (v := ?vx17_7) rfl rfl (by kernel_rfl) (by kernel_rfl) (by kernel_rfl) (fun _ _ _ h => h) (Or.inl ⟨by kernel_rfl, ?yx17_7⟩) hHeld ?zx17_7
      case yx17_7 => (intro wS hSw; (try dsimp only at hSw); go_simp; (try with_reducible rfl))
      try simp only [Act.put, List.setIfInBounds_toArray, List.set_cons_zero, List.set_cons_succ]
      refine take_at 7 (some 24) (v := ?vx17_8) rfl rfl (by kernel_rfl) (by kernel_rfl) (by kernel_rfl) (fun _ _ _ h => h) (Or.inl ⟨by kernel_rfl, ?yx17_8⟩) hHeld ?zx17_8
      case yx17_8 => (intro wS hSw; (try dsimp only at hSw); go_simp; (try with_reducible rfl))
      try simp only [Act.put, List.setIfInBounds_toArray, List.set_cons_zero, List.set_cons_succ]
      refine wpAnyH_ready (rs := [8]) (by kernel_rfl) (by simp) ?_
      refine cons_at (some 25) rfl rfl (by kernel_rfl) (fun K hK => ?kx17_10) AllReadyH.nil
      go_simp
      (go_at_call 128; refine (eqRq_any x _).mono ?_; rintro e w' ⟨rfl, hbel⟩)
      try go_wp2_with fail
      refine hK.out _ _ ?sx17_10 (fun hHeld => ?_)
      case sx17_10 => ((try dsimp only); first | exact keepB8 (by assumption) hbel | assumption)
      clear hK K
      try simp only [Act.put, List.setIfInBounds_toArray, List.set_cons_zero, List.set_cons_succ]
      refine take_at 9 (some 26) (v := ?vx17_11) rfl rfl (by kernel_rfl) (by kernel_rfl) (by kernel_rfl) (fun _ _ _ h => h) (Or.inl ⟨by kernel_rfl, ?yx17_11⟩) hHeld ?zx17_11
      case yx17_11 => (intro wS hSw; (try dsimp only at hSw); go_simp; (try with_reducible rfl))
      try simp only [Act.put, List.setIfInBounds_toArray, List.set_cons_zero, List.set_cons_succ]
      refine wpAnyH_done (by kernel_rfl) ?_ _
      go_wp2
      go_roundw
      case rel => exact ⟨k + 1, by omega, by go_num, HX.out.trans (hHeld.1.mono HX.out.size)⟩
      case measure => (simp [intOf]; try omega)
    · go_wp2
      go_ret
      exact ⟨rfl, hb⟩
set_option maxRecDepth 100000 in
set_option maxHeartbeats 4000000 in
theorem eqSl_any (x : NSl) (w : World) :
    Calls Tryz.prog 143 #[.agg #[.bool x.hv, .string x.it], .agg #[.bool x.hv, .string x.it]] w fun e w' => e = .returned (.bool true) ∧ Below w.heap.size w w' := by
  go_enter Tryz.func143, Tryz.ntmps143
  go_wp2
  go_ret
  exact ⟨rfl, by go_grown⟩
set_option maxRecDepth 100000 in
set_option maxHeartbeats 4000000 in
theorem eqLSl_any (v u : Value) (xs : List NSl) (w : World) (h : kSl.At 0 w v xs) (h' : kSl.At 0 w u xs) (hf : fitL fitSl 1048576 xs) :
    Calls Tryz.prog 127 #[v, u] w fun e w' => e = .returned (.bool true) ∧ Below w.heap.size w w' := by
  obtain ⟨p, cap, b, off, rfl, hcap, hp, hcell⟩ := h.parts
  obtain ⟨p', cap', b', off', rfl, hcap', hp', hcell'⟩ := h'.parts
  have HC := Lib.hid hcell; clear hcell
  have HP := Lib.hid hp; clear hp h
  have HC' := Lib.hid hcell'; clear hcell'
  have HP' := Lib.hid hp'; clear hp' h'
  have hlen := hf.1
  have HF := Lib.hid hf.2; clear hf
  go_enter Tryz.func127, Tryz.ntmps127
  go_wp2
  go_loopw [5] (fun i wr => ∃ k : Nat, k ≤ xs.length ∧ i = .int .i64 k ∧ Below w.heap.size w wr) (fun i _ => xs.length - (intOf i).toNat)
  case atStart => exact ⟨0, Nat.zero_le _, rfl, Below.refl _ _⟩
  case round =>
    obtain ⟨k, hk, rfl, hb⟩ := hrel
    by_cases hlt : k < xs.length
    · obtain rfl := HP.out (by omega)
      obtain rfl := HP'.out (by omega)
      obtain ⟨c, hC, hcl⟩ := HC.out k hlt
      obtain ⟨c', hC', hcl'⟩ := HC'.out k hlt
      have hfx := HF.out xs[k] (List.getElem_mem hlt)
      generalize xs[k] = x at *
      obtain rfl : c = [.bool x.hv, .string x.it] := hC
      obtain rfl : c' = [.bool x.hv, .string x.it] := hC'
      have d0 : _ = some (Value.bool x.hv) := cell_on hb (hcl 0 _ rfl)
      rw [show off + k * kSl.sz + 0 = off + k * 2 from rfl] at d0
      have d1 : _ = some (Value.string x.it) := cell_on hb (hcl 1 _ rfl)
      rw [show off + k * kSl.sz + 1 = off + k * 2 + 1 from rfl] at d1
      have g0 : _ = some (Value.bool x.hv) := cell_on hb (hcl' 0 _ rfl)
      rw [show off' + k * kSl.sz + 0 = off' + k * 2 from rfl] at g0
      have g1 : _ = some (Value.string x.it) := cell_on hb (hcl' 1 _ rfl)
      rw [show off' + k * kSl.sz + 1 = off' + k * 2 + 1 from rfl] at g1
      have HX := Lib.hid hb; clear hb hcl hcl'
      go_wp2_with fail
      refine wp_region_held_drew (S := (fun w' => Below wr.heap.size wr w' ∧ w'.cell? ⟨b, off + k * 2, none⟩ = some (.bool x.hv) ∧ w'.cell? ⟨b, off + k * 2 + 1, none⟩ = some (.string x.it) ∧ w'.cell? ⟨b', off' + k * 2, none⟩ = some (.bool x.hv) ∧ w'.cell? ⟨b', off' + k * 2 + 1, none⟩ = some (.string x.it))) (by kernel_rfl) ?rx18s (fun hHeld => ?rx180)
      case rx18s => ((try dsimp only); exact ⟨(Below.refl _ _).drew, d0, d1, g0, g1⟩)
      try simp only [Act.put, List.setIfInBounds_toArray, List.set_cons_zero, List.set_cons_succ]
      refine take_at 0 (some 17) (v := ?vx18_1) rfl rfl (by kernel_rfl) (by kernel_rfl) (by kernel_rfl) (fun _ _ _ h => h) (Or.inl ⟨by kernel_rfl, ?yx18_1⟩) hHeld ?zx18_1
      case yx18_1 => (intro wS hSw; (try dsimp only at hSw); go_simp; (try with_reducible rfl))
      try simp only [Act.put, List.setIfInBounds_toArray, List.set_cons_zero, List.set_cons_succ]
      refine take_at 1 (some 18) (v := ?vx18_2) rfl rfl (by kernel_rfl) (by kernel_rfl) (by kernel_rfl) (fun _ _ _ h => h) (Or.inl ⟨by kernel_rfl, ?yx18_2⟩) hHeld ?zx18_2
      case yx18_2 => (intro wS hSw; (try dsimp only at hSw); go_simp; (try with_reducible rfl))
      try simp only [Act.put, List.setIfInBounds_toArray, List.set_cons_zero, List.set_cons_succ]
      refine take_at 2 (some 19) (v := ?vx18_3) rfl rfl (by kernel_rfl) (by kernel_rfl) (by kernel_rfl) (fun _ _ _ h => h) (Or.inl ⟨by kernel_rfl, ?yx18_3⟩) hHeld ?zx18_3
      case yx18_3 => (intro wS hSw; (try dsimp only at hSw); go_simp; (try with_reducible rfl))
      try simp only [Act.put, List.setIfInBounds_toArray, List.set_cons_zero, List.set_cons_succ]
      refine take_at 3 (some 20) (v := ?vx18_4) rfl rfl (by kernel_rfl) (by kernel_rfl) (by kernel_rfl) (fun _ _ _ h => h) (Or.inl ⟨by kernel_rfl, ?yx18_4⟩) hHeld ?zx18_4
      case yx18_4 => (intro wS hSw; (try dsimp only at hSw); go_simp; (try with_reducible rfl))
      try simp only [Act.put, List.setIfInBounds_toArray, List.set_cons_zero, List.set_cons_succ]
      refine take_at 4 (some 21) (v := ?vx18_5) rfl rfl (by kernel_rfl) (by kernel_rfl) (by kernel_rfl) (fun _ _ _ h => h) (Or.inl ⟨by kernel_rfl, ?yx18_5⟩) hHeld ?zx18_5
      case yx18_5 => (intro wS hSw; (try dsimp only at hSw); go_simp; (try with_reducible rfl))
      try simp only [Act.put, List.setIfInBounds_toArray, List.set_cons_zero, List.set_cons_succ]
      refine take_at 5 (some 22) (v := ?vx18_6) rfl rfl (by kernel_rfl) (by kernel_rfl) (by kernel_rfl) (fun _ _ _ h => h) (Or.inl ⟨by kernel_rfl, ?yx18_6⟩) hHeld ?zx18_6
      case yx18_6 => (intro wS hSw; (try dsimp only at hSw); go_simp; (try with_reducible rfl))
      try simp only [Act.put, List.setIfInBounds_toArray, List.set_cons_zero, List.set_cons_succ]
      refine take_at 6 (some 23) (v := ?vx18_7) rfl rfl (by kernel_rfl) (by kernel_rfl) (by kernel_rfl) (fun _ _ _ h => h) (Or.inl ⟨by kernel_rfl, ?yx18_7⟩) hHeld ?zx18_7
      case yx18_7 => (intro wS hSw; (try dsimp only at hSw); go_simp; (try with_reducible rfl))
      try simp only [Act.put, List.setIfInBounds_toArray, List.set_cons_zero, List.set_cons_succ]
      refine take_at 7 (some 24) (v := ?vx18_8) rfl rfl (by kernel_rfl) (by kernel_rfl) (by kernel_rfl) (fun _ _ _ h => h) (Or.inl ⟨by kernel_rfl, ?yx18_8⟩) hHeld ?zx18_8
      case yx18_8 => (intro wS hSw; (try dsimp only at hSw); go_simp; (try with_reducible rfl))
      try simp only [Act.put, List.setIfInBounds_toArray, List.set_cons_zero, List.set_cons_succ]
      refine wpAnyH_ready (rs := [8]) (by kernel_rfl) (by simp) ?_
      refine cons_at (some 25) rfl rfl (by kernel_rfl) (fun K hK => ?kx18_10) AllReadyH.nil
      go_simp
      (go_at_call 143; refine (eqSl_any x _).mono ?_; rintro e w' ⟨rfl, hbel⟩)
      try go_wp2_with fail
      refine hK.out _ _ ?sx18_10 (fun hHeld => ?_)
      case sx18_10 => ((try dsimp only); first | exact keepB4 (by assumption) hbel | assumption)
      clear hK K
      try simp only [Act.put, List.setIfInBounds_toArray, List.set_cons_zero, List.set_cons_succ]
      refine take_at 9 (some 26) (v := ?vx18_11) rfl rfl (by kernel_rfl) (by kernel_rfl) (by kernel_rfl) (fun _ _ _ h => h) (Or.inl ⟨by kernel_rfl, ?yx18_11⟩) hHeld ?zx18_11
      case yx18_11 => (intro wS hSw; (try dsimp only at hSw); go_simp; (try with_reducible rfl))
      try simp only [Act.put, List.setIfInBounds_toArray, List.set_cons_zero, List.set_cons_succ]
      refine wpAnyH_done (by kernel_rfl) ?_ _
      go_wp2
      go_roundw
      case rel => exact ⟨k + 1, by omega, by go_num, HX.out.trans (hHeld.1.mono HX.out.size)⟩
      case measure => (simp [intOf]; try omega)
    · go_wp2
      go_ret
      exact ⟨rfl, hb⟩
set_option maxRecDepth 100000 in
set_option maxHeartbeats 4000000 in
theorem eqPk_any (x : NPk) (w : World) :
    Calls Tryz.prog 101 #[.agg #[.int .i64 x.kd, .int .i64 x.nm, .int .i64 x.tr, .int .i64 x.ld, .string x.dt], .agg #[.int .i64 x.kd, .int .i64 x.nm, .int .i64 x.tr, .int .i64 x.ld, .string x.dt]] w fun e w' => e = .returned (.bool true) ∧ Below w.heap.size w w' := by
  go_enter Tryz.func101, Tryz.ntmps101
  go_wp2
  go_ret
  exact ⟨rfl, by go_grown⟩
set_option maxRecDepth 100000 in
set_option maxHeartbeats 4000000 in
theorem eqLPk_any (v u : Value) (xs : List NPk) (w : World) (h : kPk.At 0 w v xs) (h' : kPk.At 0 w u xs) (hf : fitL fitPk 1048576 xs) :
    Calls Tryz.prog 58 #[v, u] w fun e w' => e = .returned (.bool true) ∧ Below w.heap.size w w' := by
  obtain ⟨p, cap, b, off, rfl, hcap, hp, hcell⟩ := h.parts
  obtain ⟨p', cap', b', off', rfl, hcap', hp', hcell'⟩ := h'.parts
  have HC := Lib.hid hcell; clear hcell
  have HP := Lib.hid hp; clear hp h
  have HC' := Lib.hid hcell'; clear hcell'
  have HP' := Lib.hid hp'; clear hp' h'
  have hlen := hf.1
  have HF := Lib.hid hf.2; clear hf
  go_enter Tryz.func58, Tryz.ntmps58
  go_wp2
  go_loopw [5] (fun i wr => ∃ k : Nat, k ≤ xs.length ∧ i = .int .i64 k ∧ Below w.heap.size w wr) (fun i _ => xs.length - (intOf i).toNat)
  case atStart => exact ⟨0, Nat.zero_le _, rfl, Below.refl _ _⟩
  case round =>
    obtain ⟨k, hk, rfl, hb⟩ := hrel
    by_cases hlt : k < xs.length
    · obtain rfl := HP.out (by omega)
      obtain rfl := HP'.out (by omega)
      obtain ⟨c, hC, hcl⟩ := HC.out k hlt
      obtain ⟨c', hC', hcl'⟩ := HC'.out k hlt
      have hfx := HF.out xs[k] (List.getElem_mem hlt)
      generalize xs[k] = x at *
      obtain rfl : c = [.int .i64 x.kd, .int .i64 x.nm, .int .i64 x.tr, .int .i64 x.ld, .string x.dt] := hC
      obtain rfl : c' = [.int .i64 x.kd, .int .i64 x.nm, .int .i64 x.tr, .int .i64 x.ld, .string x.dt] := hC'
      have d0 : _ = some (Value.int .i64 x.kd) := cell_on hb (hcl 0 _ rfl)
      rw [show off + k * kPk.sz + 0 = off + k * 5 from rfl] at d0
      have d1 : _ = some (Value.int .i64 x.nm) := cell_on hb (hcl 1 _ rfl)
      rw [show off + k * kPk.sz + 1 = off + k * 5 + 1 from rfl] at d1
      have d2 : _ = some (Value.int .i64 x.tr) := cell_on hb (hcl 2 _ rfl)
      rw [show off + k * kPk.sz + 2 = off + k * 5 + 2 from rfl] at d2
      have d3 : _ = some (Value.int .i64 x.ld) := cell_on hb (hcl 3 _ rfl)
      rw [show off + k * kPk.sz + 3 = off + k * 5 + 3 from rfl] at d3
      have d4 : _ = some (Value.string x.dt) := cell_on hb (hcl 4 _ rfl)
      rw [show off + k * kPk.sz + 4 = off + k * 5 + 4 from rfl] at d4
      have g0 : _ = some (Value.int .i64 x.kd) := cell_on hb (hcl' 0 _ rfl)
      rw [show off' + k * kPk.sz + 0 = off' + k * 5 from rfl] at g0
      have g1 : _ = some (Value.int .i64 x.nm) := cell_on hb (hcl' 1 _ rfl)
      rw [show off' + k * kPk.sz + 1 = off' + k * 5 + 1 from rfl] at g1
      have g2 : _ = some (Value.int .i64 x.tr) := cell_on hb (hcl' 2 _ rfl)
      rw [show off' + k * kPk.sz + 2 = off' + k * 5 + 2 from rfl] at g2
      have g3 : _ = some (Value.int .i64 x.ld) := cell_on hb (hcl' 3 _ rfl)
      rw [show off' + k * kPk.sz + 3 = off' + k * 5 + 3 from rfl] at g3
      have g4 : _ = some (Value.string x.dt) := cell_on hb (hcl' 4 _ rfl)
      rw [show off' + k * kPk.sz + 4 = off' + k * 5 + 4 from rfl] at g4
      have HX := Lib.hid hb; clear hb hcl hcl'
      go_wp2_with fail
      refine wp_region_held_drew (S := (fun w' => Below wr.heap.size wr w' ∧ w'.cell? ⟨b, off + k * 5, none⟩ = some (.int .i64 x.kd) ∧ w'.cell? ⟨b, off + k * 5 + 1, none⟩ = some (.int .i64 x.nm) ∧ w'.cell? ⟨b, off + k * 5 + 2, none⟩ = some (.int .i64 x.tr) ∧ w'.cell? ⟨b, off + k * 5 + 3, none⟩ = some (.int .i64 x.ld) ∧ w'.cell? ⟨b, off + k * 5 + 4, none⟩ = some (.string x.dt) ∧ w'.cell? ⟨b', off' + k * 5, none⟩ = some (.int .i64 x.kd) ∧ w'.cell? ⟨b', off' + k * 5 + 1, none⟩ = some (.int .i64 x.nm) ∧ w'.cell? ⟨b', off' + k * 5 + 2, none⟩ = some (.int .i64 x.tr) ∧ w'.cell? ⟨b', off' + k * 5 + 3, none⟩ = some (.int .i64 x.ld) ∧ w'.cell? ⟨b', off' + k * 5 + 4, none⟩ = some (.string x.dt))) (by kernel_rfl) ?rx19s (fun hHeld => ?rx190)
      case rx19s => ((try dsimp only); exact ⟨(Below.refl _ _).drew, d0, d1, d2, d3, d4, g0, g1, g2, g3, g4⟩)
      try simp only [Act.put, List.setIfInBounds_toArray, List.set_cons_zero, List.set_cons_succ]
      refine take_at 0 (some 17) (v := ?vx19_1) rfl rfl (by kernel_rfl) (by kernel_rfl) (by kernel_rfl) (fun _ _ _ h => h) (Or.inl ⟨by kernel_rfl, ?yx19_1⟩) hHeld ?zx19_1
      case yx19_1 => (intro wS hSw; (try dsimp only at hSw); go_simp; (try with_reducible rfl))
      try simp only [Act.put, List.setIfInBounds_toArray, List.set_cons_zero, List.set_cons_succ]
      refine take_at 1 (some 18) (v := ?vx19_2) rfl rfl (by kernel_rfl) (by kernel_rfl) (by kernel_rfl) (fun _ _ _ h => h) (Or.inl ⟨by kernel_rfl, ?yx19_2⟩) hHeld ?zx19_2
      case yx19_2 => (intro wS hSw; (try dsimp only at hSw); go_simp; (try with_reducible rfl))
      try simp only [Act.put, List.setIfInBounds_toArray, List.set_cons_zero, List.set_cons_succ]
      refine take_at 2 (some 19) (v := ?vx19_3) rfl rfl (by kernel_rfl) (by kernel_rfl) (by kernel_rfl) (fun _ _ _ h => h) (Or.inl ⟨by kernel_rfl, ?yx19_3⟩) hHeld ?zx19_3
      case yx19_3 => (intro wS hSw; (try dsimp only at hSw); go_simp; (try with_reducible rfl))
      try simp only [Act.put, List.setIfInBounds_toArray, List.set_cons_zero, List.set_cons_succ]
      refine take_at 3 (some 20) (v := ?vx19_4) rfl rfl (by kernel_rfl) (by kernel_rfl) (by kernel_rfl) (fun _ _ _ h => h) (Or.inl ⟨by kernel_rfl, ?yx19_4⟩) hHeld ?zx19_4
      case yx19_4 => (intro wS hSw; (try dsimp only at hSw); go_simp; (try with_reducible rfl))
      try simp only [Act.put, List.setIfInBounds_toArray, List.set_cons_zero, List.set_cons_succ]
      refine take_at 4 (some 21) (v := ?vx19_5) rfl rfl (by kernel_rfl) (by kernel_rfl) (by kernel_rfl) (fun _ _ _ h => h) (Or.inl ⟨by kernel_rfl, ?yx19_5⟩) hHeld ?zx19_5
      case yx19_5 => (intro wS hSw; (try dsimp only at hSw); go_simp; (try with_reducible rfl))
      try simp only [Act.put, List.setIfInBounds_toArray, List.set_cons_zero, List.set_cons_succ]
      refine take_at 5 (some 22) (v := ?vx19_6) rfl rfl (by kernel_rfl) (by kernel_rfl) (by kernel_rfl) (fun _ _ _ h => h) (Or.inl ⟨by kernel_rfl, ?yx19_6⟩) hHeld ?zx19_6
      case yx19_6 => (intro wS hSw; (try dsimp only at hSw); go_simp; (try with_reducible rfl))
      try simp only [Act.put, List.setIfInBounds_toArray, List.set_cons_zero, List.set_cons_succ]
      refine take_at 6 (some 23) (v := ?vx19_7) rfl rfl (by kernel_rfl) (by kernel_rfl) (by kernel_rfl) (fun _ _ _ h => h) (Or.inl ⟨by kernel_rfl, ?yx19_7⟩) hHeld ?zx19_7
      case yx19_7 => (intro wS hSw; (try dsimp only at hSw); go_simp; (try with_reducible rfl))
      try simp only [Act.put, List.setIfInBounds_toArray, List.set_cons_zero, List.set_cons_succ]
      refine take_at 7 (some 24) (v := ?vx19_8) rfl rfl (by kernel_rfl) (by kernel_rfl) (by kernel_rfl) (fun _ _ _ h => h) (Or.inl ⟨by kernel_rfl, ?yx19_8⟩) hHeld ?zx19_8
      case yx19_8 => (intro wS hSw; (try dsimp only at hSw); go_simp; (try with_reducible rfl))
      try simp only [Act.put, List.setIfInBounds_toArray, List.set_cons_zero, List.set_cons_succ]
      refine wpAnyH_ready (rs := [8]) (by kernel_rfl) (by simp) ?_
      refine cons_at (some 25) rfl rfl (by kernel_rfl) (fun K hK => ?kx19_10) AllReadyH.nil
      go_simp
      (go_at_call 101; refine (eqPk_any x _).mono ?_; rintro e w' ⟨rfl, hbel⟩)
      try go_wp2_with fail
      refine hK.out _ _ ?sx19_10 (fun hHeld => ?_)
      case sx19_10 => ((try dsimp only); first | exact keepB10 (by assumption) hbel | assumption)
      clear hK K
      try simp only [Act.put, List.setIfInBounds_toArray, List.set_cons_zero, List.set_cons_succ]
      refine take_at 9 (some 26) (v := ?vx19_11) rfl rfl (by kernel_rfl) (by kernel_rfl) (by kernel_rfl) (fun _ _ _ h => h) (Or.inl ⟨by kernel_rfl, ?yx19_11⟩) hHeld ?zx19_11
      case yx19_11 => (intro wS hSw; (try dsimp only at hSw); go_simp; (try with_reducible rfl))
      try simp only [Act.put, List.setIfInBounds_toArray, List.set_cons_zero, List.set_cons_succ]
      refine wpAnyH_done (by kernel_rfl) ?_ _
      go_wp2
      go_roundw
      case rel => exact ⟨k + 1, by omega, by go_num, HX.out.trans (hHeld.1.mono HX.out.size)⟩
      case measure => (simp [intOf]; try omega)
    · go_wp2
      go_ret
      exact ⟨rfl, hb⟩
end Go.Proofs.YtihpibdodlgpaaaGreatDoor
