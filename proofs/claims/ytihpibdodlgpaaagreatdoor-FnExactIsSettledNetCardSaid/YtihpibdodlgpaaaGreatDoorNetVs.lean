/- Contracts on receivers: the reference's l13Good. -/
import Derived.Test.YtihpibdodlgpaaaGreatDoorNetV
namespace Go.Proofs.YtihpibdodlgpaaaGreatDoor
open Go.RowKit

theorem rwB_zero {nx : Int} {sl : List NSl} (h0 : nx = 0) (h1 : sl.length = 0) : rwB ⟨nx, sl⟩ = true := by
  obtain rfl := List.length_eq_zero_iff.1 h1
  subst h0; rfl
theorem qsB_zero {nx : Int} {xs : List NRq} (h0 : nx = 0) (h1 : xs.length = 0) : qsB xs nx = true := by
  obtain rfl := List.length_eq_zero_iff.1 h1
  subst h0; rfl
theorem rcB_rw {x : NRc} (h : rwB x.rw = false) : rcB x = false := by
  obtain ⟨st, ck, ⟨nx, sl⟩, rq⟩ := x
  cases st
  · by_cases h0 : nx = 0
    · by_cases h1 : sl.length = 0
      · rw [rwB_zero h0 h1] at h; cases h
      · have h2 : ¬ sl = [] := fun e => h1 (by rw [e]; rfl)
        simp [rcB, h2]
    · simp [rcB, h0]
  · simp only at h; simp [rcB, h]
theorem rcB_qs {x : NRc} (h : qsB x.rq x.rw.nx = false) : rcB x = false := by
  obtain ⟨st, ck, ⟨nx, sl⟩, rq⟩ := x
  cases st
  · by_cases h0 : nx = 0
    · by_cases h1 : rq.length = 0
      · simp only at h; rw [qsB_zero h0 h1] at h; cases h
      · have h2 : ¬ rq = [] := fun e => h1 (by rw [e]; rfl)
        simp [rcB, h2]
    · simp [rcB, h0]
  · simp only at h; simp [rcB, h]
set_option maxRecDepth 100000 in
set_option maxHeartbeats 4000000 in
theorem sRecvr_any (x : NRc) (v0 v1 : Value) (w : World) (a0 : kSl.At 0 w v0 x.rw.sl) (a1 : kRq.At 0 w v1 x.rq) (hf : fitRc 1048576 x) :
    Calls Tryz.prog 75 #[.agg #[.bool x.st, .int .i64 x.ck, .int .i64 x.rw.nx, v0, v1]] w fun e w' => e = .returned (.bool (rcB x)) ∧ Below w.heap.size w w' := by
  obtain ⟨st, ck, ⟨nx, sl⟩, rq⟩ := x
  obtain ⟨f0, f1⟩ := hf
  have hlen := f0.1
  have hrl := f1
  dsimp only at a0 a1 f0 f1 hlen hrl ⊢
  have A0 := Lib.hid a0
  have A1 := Lib.hid a1
  obtain ⟨p, cp, _, _, rfl, hcp, _, _⟩ := a0.parts
  obtain ⟨r, cr, b, off, rfl, hcr, hpr, hcell⟩ := a1.parts
  have HCe := Lib.hid hcell; clear hcell
  have HPt := Lib.hid hpr; clear hpr
  have hB : Below w.heap.size w (w.alloc (.cells #[.bool st, .int .i64 ck, .int .i64 nx, .slice p sl.length cp, .slice r rq.length cr] 77)) := below_alloc1 _ _
  have c0 : (w.alloc (.cells #[.bool st, .int .i64 ck, .int .i64 nx, .slice p sl.length cp, .slice r rq.length cr] 77)).cell? ⟨w.heap.size, 0, none⟩ = some (Value.bool st) := by simp
  have c1 : (w.alloc (.cells #[.bool st, .int .i64 ck, .int .i64 nx, .slice p sl.length cp, .slice r rq.length cr] 77)).cell? ⟨w.heap.size, 1, none⟩ = some (Value.int .i64 ck) := by simp
  have c2 : (w.alloc (.cells #[.bool st, .int .i64 ck, .int .i64 nx, .slice p sl.length cp, .slice r rq.length cr] 77)).cell? ⟨w.heap.size, 2, none⟩ = some (Value.int .i64 nx) := by simp
  have c3 : (w.alloc (.cells #[.bool st, .int .i64 ck, .int .i64 nx, .slice p sl.length cp, .slice r rq.length cr] 77)).cell? ⟨w.heap.size, 3, none⟩ = some (Value.slice p sl.length cp) := by simp
  have c4 : (w.alloc (.cells #[.bool st, .int .i64 ck, .int .i64 nx, .slice p sl.length cp, .slice r rq.length cr] 77)).cell? ⟨w.heap.size, 4, none⟩ = some (Value.slice r rq.length cr) := by simp
  have HW := Lib.hid (fun W h => sRecv_any ⟨nx, sl⟩ (.slice p sl.length cp) W h f0)
  have HQ := Lib.hid (fun W h => sReqs_any rq (.slice r rq.length cr) nx W h f1)
  have HRW : Hid (rwB ⟨nx, sl⟩ = false → rcB ⟨st, ck, ⟨nx, sl⟩, rq⟩ = false) := Lib.hid (fun h => rcB_rw (x := ⟨st, ck, ⟨nx, sl⟩, rq⟩) h)
  have HQS : Hid (qsB rq nx = false → rcB ⟨st, ck, ⟨nx, sl⟩, rq⟩ = false) := Lib.hid (fun h => rcB_qs (x := ⟨st, ck, ⟨nx, sl⟩, rq⟩) h)
  clear a0 a1 f0 f1
  cases h1 : inR ck 0 9999
  · go_enter Tryz.func75, Tryz.ntmps75
    go_wp2_with (first | (go_at_call 70; refine (sClock_any _ _).mono ?_; rintro e w' ⟨rfl, rfl⟩))
    go_ret
    exact ⟨ret_bool (by first | (simp [rcB, h1]; done) | (simp [rcB, h1]; intros; omega)), hB⟩
  · cases h3 : rwB ⟨nx, sl⟩
    · go_enter Tryz.func75, Tryz.ntmps75
      go_wp2_with (first | (go_at_call 70; refine (sClock_any _ _).mono ?_; rintro e w' ⟨rfl, rfl⟩) | (go_at_call 107; refine (HW.out _ (A0.out.below hB)).mono ?_; rintro e w1 ⟨rfl, hbel⟩; have hB := hB.trans (hbel.mono hB.size); have c0 := cell_on hbel c0; have c1 := cell_on hbel c1; have c2 := cell_on hbel c2; have c3 := cell_on hbel c3; have c4 := cell_on hbel c4))
      go_ret
      exact ⟨ret_bool (by exact (HRW.out h3).symm), hB⟩
    · cases h4 : qsB rq nx
      · go_enter Tryz.func75, Tryz.ntmps75
        go_wp2_with (first | (go_at_call 70; refine (sClock_any _ _).mono ?_; rintro e w' ⟨rfl, rfl⟩) | (go_at_call 107; refine (HW.out _ (A0.out.below hB)).mono ?_; rintro e w1 ⟨rfl, hbel⟩; have hB := hB.trans (hbel.mono hB.size); have c0 := cell_on hbel c0; have c1 := cell_on hbel c1; have c2 := cell_on hbel c2; have c3 := cell_on hbel c3; have c4 := cell_on hbel c4) | (go_at_call 108; refine (HQ.out _ (A1.out.below hB)).mono ?_; rintro e w1 ⟨rfl, hbel⟩; have hB := hB.trans (hbel.mono hB.size); have c0 := cell_on hbel c0; have c1 := cell_on hbel c1; have c2 := cell_on hbel c2; have c3 := cell_on hbel c3; have c4 := cell_on hbel c4))
        go_ret
        exact ⟨ret_bool (by exact (HQS.out h4).symm), hB⟩
      · clear HRW HQS
        rw [h3] at HW
        rw [h4] at HQ
        cases st
        · clear h3 h4
          go_enter Tryz.func75, Tryz.ntmps75
          go_wp2_with (first | (go_at_call 70; refine (sClock_any _ _).mono ?_; rintro e w' ⟨rfl, rfl⟩) | (go_at_call 107; refine (HW.out _ (A0.out.below hB)).mono ?_; rintro e w1 ⟨rfl, hbel⟩; have hB := hB.trans (hbel.mono hB.size); have c0 := cell_on hbel c0; have c1 := cell_on hbel c1; have c2 := cell_on hbel c2; have c3 := cell_on hbel c3; have c4 := cell_on hbel c4) | (go_at_call 108; refine (HQ.out _ (A1.out.below hB)).mono ?_; rintro e w1 ⟨rfl, hbel⟩; have hB := hB.trans (hbel.mono hB.size); have c0 := cell_on hbel c0; have c1 := cell_on hbel c1; have c2 := cell_on hbel c2; have c3 := cell_on hbel c3; have c4 := cell_on hbel c4))
          all_goals go_ret
          all_goals exact ⟨ret_bool (by first | (simp [rcB, h1, *]; done) | (simp [rcB, h1, *]; intros; omega) | (simp_all [rcB]; done)), hB⟩
        · have HV : Hid (rcB ⟨true, ck, ⟨nx, sl⟩, rq⟩ = !(rq.any (fun q => haB ⟨nx, sl⟩ q.n))) := Lib.hid (by simp [rcB, h1, h3, h4])
          have HM := Lib.hid (fun q (hq : q ∈ rq) => qsB_mem h4 hq)
          have hnx := rwB_serial h3
          dsimp only at hnx
          clear h3 h4
          go_enter Tryz.func75, Tryz.ntmps75
          go_wp2_with (first | (go_at_call 70; refine (sClock_any _ _).mono ?_; rintro e w' ⟨rfl, rfl⟩) | (go_at_call 107; refine (HW.out _ (A0.out.below hB)).mono ?_; rintro e w1 ⟨rfl, hbel⟩; have hB := hB.trans (hbel.mono hB.size); have c0 := cell_on hbel c0; have c1 := cell_on hbel c1; have c2 := cell_on hbel c2; have c3 := cell_on hbel c3; have c4 := cell_on hbel c4) | (go_at_call 108; refine (HQ.out _ (A1.out.below hB)).mono ?_; rintro e w1 ⟨rfl, hbel⟩; have hB := hB.trans (hbel.mono hB.size); have c0 := cell_on hbel c0; have c1 := cell_on hbel c1; have c2 := cell_on hbel c2; have c3 := cell_on hbel c3; have c4 := cell_on hbel c4))
          have HS0 := Lib.hid (And.intro hB (And.intro c2 (And.intro c3 c4)))
          clear hB c0 c1 c2 c3 c4
          clear hB c0 c1 c2 c3 c4
          clear hB c0 c1 c2 c3 c4
          go_loopw [3] (fun i wr => ∃ k : Nat, k ≤ rq.length ∧ i = .int .i64 k ∧ Hid (∀ q ∈ rq.take k, haB ⟨nx, sl⟩ q.n = false) ∧ Hid (Below w.heap.size w wr ∧ wr.cell? ⟨w.heap.size, 2, none⟩ = some (Value.int .i64 nx) ∧ wr.cell? ⟨w.heap.size, 3, none⟩ = some (Value.slice p sl.length cp) ∧ wr.cell? ⟨w.heap.size, 4, none⟩ = some (Value.slice r rq.length cr))) (fun i _ => rq.length - (intOf i).toNat)
          case atStart => exact ⟨0, Nat.zero_le _, rfl, Lib.hid (by simp), HS0⟩
          case round =>
            clear HS0
            obtain ⟨k, hk, rfl, HT, HS⟩ := hrel
            obtain ⟨hB, c2, c3, c4⟩ := HS.out
            by_cases hlt : k < rq.length
            · obtain rfl := HPt.out (by omega)
              obtain ⟨c, hC, hcl⟩ := HCe.out k hlt
              have hmem := List.getElem_mem hlt
              have HTk : Hid (rq.take (k + 1) = rq.take k ++ [rq[k]]) := Lib.hid (List.take_succ_eq_append_getElem hlt)
              have hq := HM.out _ hmem
              have HN1 : Hid (haB ⟨nx, sl⟩ rq[k].n = true → rq.any (fun q => haB ⟨nx, sl⟩ q.n) = true) := Lib.hid (fun h => List.any_eq_true.2 ⟨_, hmem, h⟩)
              obtain rfl : c = [.int .i64 rq[k].n, .int .i64 rq[k].s, .int .i64 rq[k].u, .int .i64 rq[k].t] := hC
              have d0 := cell_on hB (hcl 0 _ rfl)
              rw [show off + k * kRq.sz + 0 = off + k * 4 from rfl] at d0
              clear hcl hmem
              generalize rq[k] = x at *
              obtain ⟨n, s, u, t⟩ := x
              dsimp only at d0 hq
              have HH := Lib.hid (fun W (hb : Below w.heap.size w W) => sHave_any ⟨nx, sl⟩ n (.slice p sl.length cp) W (A0.out.below hb) hlen hnx hq.1 hq.2)
              clear hq
              cases hq : haB ⟨nx, sl⟩ n
              · rw [hq] at HH
                have HX : Hid (∀ q ∈ rq.take (k + 1), haB ⟨nx, sl⟩ q.n = false) := Lib.hid (by
                  rw [HTk.out]; intro q hm; rcases List.mem_append.1 hm with hm | hm
                  · exact HT.out q hm
                  · obtain rfl := List.mem_singleton.1 hm; exact hq)
                clear hq
                go_wp2_with fail
                refine wp_region_held_drew (S := (fun w' => Below w.heap.size w w' ∧ w'.cell? ⟨w.heap.size, 2, none⟩ = some (Value.int .i64 nx) ∧ w'.cell? ⟨w.heap.size, 3, none⟩ = some (Value.slice p sl.length cp) ∧ w'.cell? ⟨w.heap.size, 4, none⟩ = some (Value.slice (some ⟨b, off, none⟩) rq.length cr) ∧ w'.cell? ⟨b, off + k * 4, none⟩ = some (.int .i64 n))) (by kernel_rfl) ?rx9s (fun hHeld => ?rx90)
                case rx9s => ((try dsimp only); exact ⟨hB.drew, by simpa using c2, by simpa using c3, by simpa using c4, by simpa using d0⟩)
                try simp only [Act.put, List.setIfInBounds_toArray, List.set_cons_zero, List.set_cons_succ]
                refine take_at 0 (some 50) (v := ?vx9_1) rfl rfl (by kernel_rfl) (by kernel_rfl) (by kernel_rfl) (fun _ _ _ h => h) (Or.inl ⟨by kernel_rfl, ?yx9_1⟩) hHeld ?zx9_1
                case yx9_1 => (intro wS hSw; (try dsimp only at hSw); go_simp; (try with_reducible rfl))
                try simp only [Act.put, List.setIfInBounds_toArray, List.set_cons_zero, List.set_cons_succ]
                refine take_at 1 (some 51) (v := ?vx9_2) rfl rfl (by kernel_rfl) (by kernel_rfl) (by kernel_rfl) (fun _ _ _ h => h) (Or.inl ⟨by kernel_rfl, ?yx9_2⟩) hHeld ?zx9_2
                case yx9_2 => (intro wS hSw; (try dsimp only at hSw); go_simp; (try with_reducible rfl))
                try simp only [Act.put, List.setIfInBounds_toArray, List.set_cons_zero, List.set_cons_succ]
                refine take_at 2 (some 52) (v := ?vx9_3) rfl rfl (by kernel_rfl) (by kernel_rfl) (by kernel_rfl) (fun _ _ _ h => h) (Or.inl ⟨by kernel_rfl, ?yx9_3⟩) hHeld ?zx9_3
                case yx9_3 => (intro wS hSw; (try dsimp only at hSw); go_simp; (try with_reducible rfl))
                try simp only [Act.put, List.setIfInBounds_toArray, List.set_cons_zero, List.set_cons_succ]
                refine take_at 3 (some 53) (v := ?vx9_4) rfl rfl (by kernel_rfl) (by kernel_rfl) (by kernel_rfl) (fun _ _ _ h => h) (Or.inl ⟨by kernel_rfl, ?yx9_4⟩) hHeld ?zx9_4
                case yx9_4 => (intro wS hSw; (try dsimp only at hSw); go_simp; (try with_reducible rfl))
                try simp only [Act.put, List.setIfInBounds_toArray, List.set_cons_zero, List.set_cons_succ]
                refine take_at 4 (some 54) (v := ?vx9_5) rfl rfl (by kernel_rfl) (by kernel_rfl) (by kernel_rfl) (fun _ _ _ h => h) (Or.inl ⟨by kernel_rfl, ?yx9_5⟩) hHeld ?zx9_5
                case yx9_5 => (intro wS hSw; (try dsimp only at hSw); go_simp; (try with_reducible rfl))
                try simp only [Act.put, List.setIfInBounds_toArray, List.set_cons_zero, List.set_cons_succ]
                refine take_at 5 (some 55) (v := ?vx9_6) rfl rfl (by kernel_rfl) (by kernel_rfl) (by kernel_rfl) (fun _ _ _ h => h) (Or.inl ⟨by kernel_rfl, ?yx9_6⟩) hHeld ?zx9_6
                case yx9_6 => (intro wS hSw; (try dsimp only at hSw); go_simp; (try with_reducible rfl))
                try simp only [Act.put, List.setIfInBounds_toArray, List.set_cons_zero, List.set_cons_succ]
                refine take_at 6 (some 56) (v := ?vx9_7) rfl rfl (by kernel_rfl) (by kernel_rfl) (by kernel_rfl) (fun _ _ _ h => h) (Or.inl ⟨by kernel_rfl, ?yx9_7⟩) hHeld ?zx9_7
                case yx9_7 => (intro wS hSw; (try dsimp only at hSw); go_simp; (try with_reducible rfl))
                try simp only [Act.put, List.setIfInBounds_toArray, List.set_cons_zero, List.set_cons_succ]
                refine take_at 7 (some 57) (v := ?vx9_8) rfl rfl (by kernel_rfl) (by kernel_rfl) (by kernel_rfl) (fun _ _ _ h => h) (Or.inl ⟨by kernel_rfl, ?yx9_8⟩) hHeld ?zx9_8
                case yx9_8 => (intro wS hSw; (try dsimp only at hSw); go_simp; (try with_reducible rfl))
                try simp only [Act.put, List.setIfInBounds_toArray, List.set_cons_zero, List.set_cons_succ]
                refine wpAnyH_ready (rs := [8]) (by kernel_rfl) (by simp) ?_
                refine cons_at (some 58) rfl rfl (by kernel_rfl) (fun K hK => ?kx9_10) AllReadyH.nil
                go_simp
                (go_at_call 109; refine (HH.out _ (by first | exact hHeld.1 | (apply And.left; assumption))).mono ?_; rintro e w' ⟨rfl, hbel⟩)
                try go_wp2_with fail
                refine hK.out _ _ ?sx9_10 (fun hHeld => ?_)
                case sx9_10 => ((try dsimp only); first | exact keepB4 (by assumption) hbel | assumption)
                clear hK K
                try simp only [Act.put, List.setIfInBounds_toArray, List.set_cons_zero, List.set_cons_succ]
                refine wpAnyH_done (by kernel_rfl) ?_ _
                go_wp2
                go_roundw
                case rel => exact ⟨k + 1, by omega, by go_num, HX, Lib.hid ⟨hHeld.1, hHeld.2.1, hHeld.2.2.1, hHeld.2.2.2.1⟩⟩
                case measure => simp [intOf]; omega
              · rw [hq] at HH
                have HX := Lib.hid (HN1.out hq)
                clear hq
                go_wp2_with fail
                refine wp_region_held_drew (S := (fun w' => Below w.heap.size w w' ∧ w'.cell? ⟨w.heap.size, 2, none⟩ = some (Value.int .i64 nx) ∧ w'.cell? ⟨w.heap.size, 3, none⟩ = some (Value.slice p sl.length cp) ∧ w'.cell? ⟨w.heap.size, 4, none⟩ = some (Value.slice (some ⟨b, off, none⟩) rq.length cr) ∧ w'.cell? ⟨b, off + k * 4, none⟩ = some (.int .i64 n))) (by kernel_rfl) ?rx10s (fun hHeld => ?rx100)
                case rx10s => ((try dsimp only); exact ⟨hB.drew, by simpa using c2, by simpa using c3, by simpa using c4, by simpa using d0⟩)
                try simp only [Act.put, List.setIfInBounds_toArray, List.set_cons_zero, List.set_cons_succ]
                refine take_at 0 (some 50) (v := ?vx10_1) rfl rfl (by kernel_rfl) (by kernel_rfl) (by kernel_rfl) (fun _ _ _ h => h) (Or.inl ⟨by kernel_rfl, ?yx10_1⟩) hHeld ?zx10_1
                case yx10_1 => (intro wS hSw; (try dsimp only at hSw); go_simp; (try with_reducible rfl))
                try simp only [Act.put, List.setIfInBounds_toArray, List.set_cons_zero, List.set_cons_succ]
                refine take_at 1 (some 51) (v := ?vx10_2) rfl rfl (by kernel_rfl) (by kernel_rfl) (by kernel_rfl) (fun _ _ _ h => h) (Or.inl ⟨by kernel_rfl, ?yx10_2⟩) hHeld ?zx10_2
                case yx10_2 => (intro wS hSw; (try dsimp only at hSw); go_simp; (try with_reducible rfl))
                try simp only [Act.put, List.setIfInBounds_toArray, List.set_cons_zero, List.set_cons_succ]
                refine take_at 2 (some 52) (v := ?vx10_3) rfl rfl (by kernel_rfl) (by kernel_rfl) (by kernel_rfl) (fun _ _ _ h => h) (Or.inl ⟨by kernel_rfl, ?yx10_3⟩) hHeld ?zx10_3
                case yx10_3 => (intro wS hSw; (try dsimp only at hSw); go_simp; (try with_reducible rfl))
                try simp only [Act.put, List.setIfInBounds_toArray, List.set_cons_zero, List.set_cons_succ]
                refine take_at 3 (some 53) (v := ?vx10_4) rfl rfl (by kernel_rfl) (by kernel_rfl) (by kernel_rfl) (fun _ _ _ h => h) (Or.inl ⟨by kernel_rfl, ?yx10_4⟩) hHeld ?zx10_4
                case yx10_4 => (intro wS hSw; (try dsimp only at hSw); go_simp; (try with_reducible rfl))
                try simp only [Act.put, List.setIfInBounds_toArray, List.set_cons_zero, List.set_cons_succ]
                refine take_at 4 (some 54) (v := ?vx10_5) rfl rfl (by kernel_rfl) (by kernel_rfl) (by kernel_rfl) (fun _ _ _ h => h) (Or.inl ⟨by kernel_rfl, ?yx10_5⟩) hHeld ?zx10_5
                case yx10_5 => (intro wS hSw; (try dsimp only at hSw); go_simp; (try with_reducible rfl))
                try simp only [Act.put, List.setIfInBounds_toArray, List.set_cons_zero, List.set_cons_succ]
                refine take_at 5 (some 55) (v := ?vx10_6) rfl rfl (by kernel_rfl) (by kernel_rfl) (by kernel_rfl) (fun _ _ _ h => h) (Or.inl ⟨by kernel_rfl, ?yx10_6⟩) hHeld ?zx10_6
                case yx10_6 => (intro wS hSw; (try dsimp only at hSw); go_simp; (try with_reducible rfl))
                try simp only [Act.put, List.setIfInBounds_toArray, List.set_cons_zero, List.set_cons_succ]
                refine take_at 6 (some 56) (v := ?vx10_7) rfl rfl (by kernel_rfl) (by kernel_rfl) (by kernel_rfl) (fun _ _ _ h => h) (Or.inl ⟨by kernel_rfl, ?yx10_7⟩) hHeld ?zx10_7
                case yx10_7 => (intro wS hSw; (try dsimp only at hSw); go_simp; (try with_reducible rfl))
                try simp only [Act.put, List.setIfInBounds_toArray, List.set_cons_zero, List.set_cons_succ]
                refine take_at 7 (some 57) (v := ?vx10_8) rfl rfl (by kernel_rfl) (by kernel_rfl) (by kernel_rfl) (fun _ _ _ h => h) (Or.inl ⟨by kernel_rfl, ?yx10_8⟩) hHeld ?zx10_8
                case yx10_8 => (intro wS hSw; (try dsimp only at hSw); go_simp; (try with_reducible rfl))
                try simp only [Act.put, List.setIfInBounds_toArray, List.set_cons_zero, List.set_cons_succ]
                refine wpAnyH_ready (rs := [8]) (by kernel_rfl) (by simp) ?_
                refine cons_at (some 58) rfl rfl (by kernel_rfl) (fun K hK => ?kx10_10) AllReadyH.nil
                go_simp
                (go_at_call 109; refine (HH.out _ (by first | exact hHeld.1 | (apply And.left; assumption))).mono ?_; rintro e w' ⟨rfl, hbel⟩)
                try go_wp2_with fail
                refine hK.out _ _ ?sx10_10 (fun hHeld => ?_)
                case sx10_10 => ((try dsimp only); first | exact keepB4 (by assumption) hbel | assumption)
                clear hK K
                try simp only [Act.put, List.setIfInBounds_toArray, List.set_cons_zero, List.set_cons_succ]
                refine wpAnyH_done (by kernel_rfl) ?_ _
                go_wp2
                go_ret
                exact ⟨ret_bool (by rw [HV.out, HX.out]; try rfl), hHeld.1⟩
            · obtain rfl : k = rq.length := by omega
              have HG : Hid (rq.any (fun q => haB ⟨nx, sl⟩ q.n) = false) := Lib.hid (by
                cases ha : rq.any (fun q => haB ⟨nx, sl⟩ q.n) with
                | false => rfl
                | true =>
                  obtain ⟨q, hm, hh⟩ := List.any_eq_true.1 ha
                  rw [HT.out q (by rw [List.take_length]; exact hm)] at hh; cases hh)
              go_wp2
              go_ret
              exact ⟨ret_bool (by rw [HV.out, HG.out]; try rfl), hB⟩
end Go.Proofs.YtihpibdodlgpaaaGreatDoor
