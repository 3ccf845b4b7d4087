/- Contracts on sources: the program's IsValidSource. -/
import Derived.Test.YtihpibdodlgpaaaGreatDoorNetX0
namespace Go.Proofs.YtihpibdodlgpaaaGreatDoor
open Go.RowKit

set_option maxRecDepth 100000 in
set_option maxHeartbeats 4000000 in
theorem nHeld_any (tr sz n : Int) (q : Option Addr) (len cq : Nat) (w : World) (h1 : inR tr 0 65535 = true) (h2 : inR n 0 65535 = true) :
    Calls Tryz.prog 87 #[.agg #[.int .i64 tr, .int .i64 sz, .slice q len cq], .int .i64 n] w fun e w' => e = .returned (.bool (decide (gp tr n < (len : Int)))) ∧ Below w.heap.size w w' := by
  have HG := Lib.hid (fun w => nGap_any tr n w (inR_true.1 h1).1 (inR_true.1 h1).2 (inR_true.1 h2).1 (inR_true.1 h2).2)
  clear h1 h2
  obtain ⟨g, hg⟩ : ∃ g, gp tr n = g := ⟨_, rfl⟩
  rw [hg] at HG ⊢
  clear hg
  have HQ := Lib.hid (fun m => (HG.out ((w.alloc (.cells #[.int .i64 tr, .int .i64 sz, .slice q len cq] 40)).drewN m)).mono (fun e w' h => (⟨h.1, ⟨m, h.2.symm⟩⟩ : e = .returned (.int .i64 g) ∧ ∃ q9, w' = (w.alloc (.cells #[.int .i64 tr, .int .i64 sz, .slice q len cq] 40)).drewN q9)))
  go_enter Tryz.func87, Tryz.ntmps87
  go_wp2_with fail
  go_quiet ((go_at_call 88; exact HQ.out _))
  go_wp2
  go_ret
  exact ⟨ret_bool (by first | rfl | simp), below_drewN (by go_grown) nq⟩
set_option maxRecDepth 100000 in
set_option maxHeartbeats 4000000 in
theorem nSource_any (x : NSr) (v0 v1 : Value) (w : World) (a0 : kS.At 0 w v0 x.sw.it) (a1 : kHd.At 0 w v1 x.hs) (hf : fitSr 1048576 x) :
    Calls Tryz.prog 51 #[.agg #[.int .i64 x.sw.tr, .int .i64 x.sw.sz, v0, .int .i64 x.ck, .int .i64 x.qt, v1]] w fun e w' => e = .returned (.bool (soB x)) ∧ Below w.heap.size w w' := by
  obtain ⟨⟨tr, sz, it⟩, ck, qt, hs⟩ := x
  obtain ⟨f0, f1⟩ := hf
  dsimp only at a0 a1 f0 f1 ⊢
  have A0 := Lib.hid a0
  obtain ⟨q, cq, _, _, rfl, hcq, _, _⟩ := a0.parts
  obtain ⟨p, cap, b, off, rfl, hcap, hp, hcell⟩ := a1.parts
  have HCe := Lib.hid hcell; clear hcell
  have HPt := Lib.hid hp; clear hp
  have HW := Lib.hid (fun W h => nSend_any ⟨tr, sz, it⟩ (.slice q it.length cq) W h f0)
  clear a0 a1 f0
  have hB : Below w.heap.size w (w.alloc (.cells #[.int .i64 tr, .int .i64 sz, .slice q it.length cq, .int .i64 ck, .int .i64 qt, .slice p hs.length cap] 43)) := below_alloc1 _ _
  have c0 : (w.alloc (.cells #[.int .i64 tr, .int .i64 sz, .slice q it.length cq, .int .i64 ck, .int .i64 qt, .slice p hs.length cap] 43)).cell? ⟨w.heap.size, 0, none⟩ = some (Value.int .i64 tr) := by simp
  have c1 : (w.alloc (.cells #[.int .i64 tr, .int .i64 sz, .slice q it.length cq, .int .i64 ck, .int .i64 qt, .slice p hs.length cap] 43)).cell? ⟨w.heap.size, 1, none⟩ = some (Value.int .i64 sz) := by simp
  have c2 : (w.alloc (.cells #[.int .i64 tr, .int .i64 sz, .slice q it.length cq, .int .i64 ck, .int .i64 qt, .slice p hs.length cap] 43)).cell? ⟨w.heap.size, 2, none⟩ = some (Value.slice q it.length cq) := by simp
  have c3 : (w.alloc (.cells #[.int .i64 tr, .int .i64 sz, .slice q it.length cq, .int .i64 ck, .int .i64 qt, .slice p hs.length cap] 43)).cell? ⟨w.heap.size, 3, none⟩ = some (Value.int .i64 ck) := by simp
  have c4 : (w.alloc (.cells #[.int .i64 tr, .int .i64 sz, .slice q it.length cq, .int .i64 ck, .int .i64 qt, .slice p hs.length cap] 43)).cell? ⟨w.heap.size, 4, none⟩ = some (Value.int .i64 qt) := by simp
  have c5 : (w.alloc (.cells #[.int .i64 tr, .int .i64 sz, .slice q it.length cq, .int .i64 ck, .int .i64 qt, .slice p hs.length cap] 43)).cell? ⟨w.heap.size, 5, none⟩ = some (Value.slice p hs.length cap) := by simp
  cases h1 : swB ⟨tr, sz, it⟩
  · have HX : Hid (soB ⟨⟨tr, sz, it⟩, ck, qt, hs⟩ = false) := Lib.hid (by simp [soB, h1])
    rw [h1] at HW
    clear h1
    go_enter Tryz.func51, Tryz.ntmps51
    go_wp2_with (go_at_call 84; refine (HW.out _ (A0.out.below hB)).mono ?_; rintro e w1 ⟨rfl, hbel⟩; have hB := hB.trans (hbel.mono hB.size); have c0 := cell_on hbel c0; have c1 := cell_on hbel c1; have c2 := cell_on hbel c2; have c3 := cell_on hbel c3; have c4 := cell_on hbel c4; have c5 := cell_on hbel c5)
    go_ret
    exact ⟨ret_bool HX.out.symm, hB⟩
  · rw [h1] at HW
    cases h2 : inR ck 0 9999
    · have HX : Hid (soB ⟨⟨tr, sz, it⟩, ck, qt, hs⟩ = false) := Lib.hid (by simp [soB, h2])
      have HCk : Hid (∀ w, Calls Tryz.prog 85 #[.int .i64 ck] w fun e w' => e = .returned (.bool false) ∧ w = w') := Lib.hid (fun w => h2 ▸ nClock_any ck w)
      clear h1 h2
      go_enter Tryz.func51, Tryz.ntmps51
      go_wp2_with (first | (go_at_call 84; refine (HW.out _ (A0.out.below hB)).mono ?_; rintro e w1 ⟨rfl, hbel⟩; have hB := hB.trans (hbel.mono hB.size); have c0 := cell_on hbel c0; have c1 := cell_on hbel c1; have c2 := cell_on hbel c2; have c3 := cell_on hbel c3; have c4 := cell_on hbel c4; have c5 := cell_on hbel c5) | (go_at_call 85; refine (HCk.out _).mono ?_; rintro e w' ⟨rfl, rfl⟩) | (go_at_call 83; refine (within_any _ _ _ _).mono ?_; rintro e w' ⟨rfl, rfl⟩))
      go_ret
      exact ⟨ret_bool HX.out.symm, hB⟩
    · have HCk : Hid (∀ w, Calls Tryz.prog 85 #[.int .i64 ck] w fun e w' => e = .returned (.bool true) ∧ w = w') := Lib.hid (fun w => h2 ▸ nClock_any ck w)
      cases h3 : inR qt 0 3
      · have HX : Hid (soB ⟨⟨tr, sz, it⟩, ck, qt, hs⟩ = false) := Lib.hid (by simp [soB, h3])
        have HWn : Hid (∀ w, Calls Tryz.prog 83 #[.int .i64 qt, .int .i64 0, .int .i64 3] w fun e w' => e = .returned (.bool false) ∧ w = w') := Lib.hid (fun w => h3 ▸ within_any qt 0 3 w)
        clear h1 h2 h3
        go_enter Tryz.func51, Tryz.ntmps51
        go_wp2_with (first | (go_at_call 84; refine (HW.out _ (A0.out.below hB)).mono ?_; rintro e w1 ⟨rfl, hbel⟩; have hB := hB.trans (hbel.mono hB.size); have c0 := cell_on hbel c0; have c1 := cell_on hbel c1; have c2 := cell_on hbel c2; have c3 := cell_on hbel c3; have c4 := cell_on hbel c4; have c5 := cell_on hbel c5) | (go_at_call 85; refine (HCk.out _).mono ?_; rintro e w' ⟨rfl, rfl⟩) | (go_at_call 83; refine (HWn.out _).mono ?_; rintro e w' ⟨rfl, rfl⟩))
        go_ret
        exact ⟨ret_bool HX.out.symm, hB⟩
      · have HWn : Hid (∀ w, Calls Tryz.prog 83 #[.int .i64 qt, .int .i64 0, .int .i64 3] w fun e w' => e = .returned (.bool true) ∧ w = w') := Lib.hid (fun w => h3 ▸ within_any qt 0 3 w)
        have hck := inR_true.1 h2
        have htr := swB_serial h1
        dsimp only at htr
        have HV : Hid ((∀ k, k < hs.length → hkB tr it.length ck hs k = true) → soB ⟨⟨tr, sz, it⟩, ck, qt, hs⟩ = true) := Lib.hid (fun h => soB_good h1 h2 h3 h)
        clear h1 h2 h3
        obtain ⟨lo, hlo⟩ : ∃ lo, ck + 1 = lo := ⟨_, rfl⟩
        obtain ⟨hi, hhi⟩ : ∃ hi, ck + 3 = hi := ⟨_, rfl⟩
        have l1 : IntKind.i64.wrap (ck + 1) = lo := by rw [IntKind.wrap_i64]; omega
        have l2 : wrap64 (ck + 1) = lo := by simp only [wrap64]; omega
        have l3 : IntKind.i64.wrap (ck + 3) = hi := by rw [IntKind.wrap_i64]; omega
        have l4 : wrap64 (ck + 3) = hi := by simp only [wrap64]; omega
        have l5 : IntKind.i64.wrap lo = lo := by rw [IntKind.wrap_i64]; omega
        have l6 : wrap64 lo = lo := by simp only [wrap64]; omega
        have l7 : IntKind.i64.wrap hi = hi := by rw [IntKind.wrap_i64]; omega
        have l8 : wrap64 hi = hi := by simp only [wrap64]; omega
        clear hck
        go_enter Tryz.func51, Tryz.ntmps51
        go_wp2_with (first | (go_at_call 84; refine (HW.out _ (A0.out.below hB)).mono ?_; rintro e w1 ⟨rfl, hbel⟩; have hB := hB.trans (hbel.mono hB.size); have c0 := cell_on hbel c0; have c1 := cell_on hbel c1; have c2 := cell_on hbel c2; have c3 := cell_on hbel c3; have c4 := cell_on hbel c4; have c5 := cell_on hbel c5) | (go_at_call 85; refine (HCk.out _).mono ?_; rintro e w' ⟨rfl, rfl⟩) | (go_at_call 83; refine (HWn.out _).mono ?_; rintro e w' ⟨rfl, rfl⟩))
        have HC0 := Lib.hid (And.intro c0 (And.intro c1 (And.intro c2 (And.intro c3 c5))))
        have HB0 := Lib.hid hB
        have hz0 : w.heap.size < w1.heap.size := by have := hbel.size; simp at this; omega
        clear hB hbel c0 c1 c2 c3 c4 c5 HW
        clear hB c0 c1 c2 c3 c4 c5
        go_loopw [3, 24] (fun _ i wr => ∃ k : Nat, k ≤ hs.length ∧ i = .int .i64 k ∧ Hid (∀ j, j < k → hkB tr it.length ck hs j = true) ∧ Hid (Below w1.heap.size w1 wr)) (fun _ i _ => hs.length - (intOf i).toNat)
        case atStart => exact ⟨0, Nat.zero_le _, rfl, Lib.hid fun j h => absurd h (by omega), Lib.hid (Below.refl _ _)⟩
        case round =>
          obtain ⟨k, hk, rfl, HF, HBr⟩ := hrel
          have hB := HB0.out.trans (HBr.out.mono HB0.out.size)
          have c0 := cell_on HBr.out HC0.out.1
          have c1 := cell_on HBr.out HC0.out.2.1
          have c2 := cell_on HBr.out HC0.out.2.2.1
          have c3 := cell_on HBr.out HC0.out.2.2.2.1
          have c5 := cell_on HBr.out HC0.out.2.2.2.2
          have hzs : w.heap.size < wr.heap.size := Nat.lt_of_lt_of_le hz0 HBr.out.size
          by_cases hlt : k < hs.length
          · have c5 : wr.cell? ⟨w.heap.size, 5, none⟩ = some (.slice p hs.length cap) := c5
            obtain rfl := HPt.out (by omega)
            obtain ⟨c, hC, hcl⟩ := HCe.out k hlt
            have HN : Hid (hkB tr it.length ck hs k = true → ∀ j, j < k + 1 → hkB tr it.length ck hs j = true) := Lib.hid (fun h j hj => by
              by_cases he : j = k
              · subst he; exact h
              · exact HF.out j (by omega))
            have HBd : Hid (hkB tr it.length ck hs k = false → soB ⟨⟨tr, sz, it⟩, ck, qt, hs⟩ = false) := Lib.hid (fun h => soB_bad (sw := ⟨tr, sz, it⟩) k hlt h)
            have HB1 : Hid (hdB tr it.length ck hs[k] = false → hkB tr it.length ck hs k = false) := Lib.hid (fun h => hkB_bad1 hlt h)
            by_cases h00 : k = 0
            · subst h00
              have HK := Lib.hid (hkB_zero (tr := tr) (len := it.length) (ck := ck) hlt)
              obtain rfl : c = [.int .i64 hs[0].n, .int .i64 hs[0].u] := hC
              have d0 := cell_on hB (hcl 0 _ rfl)
              rw [show off + 0 * kHd.sz + 0 = off + 0 * 2 from rfl] at d0
              have d1 := cell_on hB (hcl 1 _ rfl)
              rw [show off + 0 * kHd.sz + 1 = off + 0 * 2 + 1 from rfl] at d1
              simp only [Nat.zero_mul, Nat.add_zero] at d0 d1
              clear hcl
              generalize hs[0] = x at *
              obtain ⟨n, u⟩ := x
              dsimp only at d0 d1
              have HB2 : Hid (Below w.heap.size w (wr.alloc (.cells #[.int .i64 n, .int .i64 u] 130))) := Lib.hid (hB.trans ((below_alloc1 _ _).mono hB.size))
              have c0b := cell_on (below_alloc1 wr (.cells #[.int .i64 n, .int .i64 u] 130)) c0
              have c1b := cell_on (below_alloc1 wr (.cells #[.int .i64 n, .int .i64 u] 130)) c1
              have c2b := cell_on (below_alloc1 wr (.cells #[.int .i64 n, .int .i64 u] 130)) c2
              have c3b := cell_on (below_alloc1 wr (.cells #[.int .i64 n, .int .i64 u] 130)) c3
              have c5b := cell_on (below_alloc1 wr (.cells #[.int .i64 n, .int .i64 u] 130)) c5
              have x0 : (wr.alloc (.cells #[.int .i64 n, .int .i64 u] 130)).cell? ⟨wr.heap.size, 0, none⟩ = some (.int .i64 n) := by simp
              have x1 : (wr.alloc (.cells #[.int .i64 n, .int .i64 u] 130)).cell? ⟨wr.heap.size, 1, none⟩ = some (.int .i64 u) := by simp
              cases q1 : inR n 0 65535
              · have HX := Lib.hid (HBd.out (HB1.out (by first | (simp [hdB, hlo, hhi, q1]; done) | (simp [hdB, hlo, hhi, q1]; intros; omega))))
                clear HN
                go_wp2_with (first | (go_at_call 86; refine (nSerial_any _ _).mono ?_; rintro e w' ⟨rfl, rfl⟩) | (go_at_call 83; refine (within_any _ _ _ _).mono ?_; rintro e w' ⟨rfl, rfl⟩))
                go_ret
                exact ⟨ret_bool HX.out.symm, HB2.out⟩
              · by_cases q2 : gp tr n < (it.length : Int)
                · cases q3 : inR u lo hi
                  · have HHe := Lib.hid (fun w => nHeld_any tr sz n q it.length cq w htr q1)
                    rw [decide_eq_true q2] at HHe
                    have HX := Lib.hid (HBd.out (HB1.out (by first | (simp [hdB, hlo, hhi, q1, q2, q3]; done) | (simp [hdB, hlo, hhi, q1, q2, q3]; intros; omega))))
                    clear HN
                    go_wp2_with (first | (go_at_call 86; refine (nSerial_any _ _).mono ?_; rintro e w' ⟨rfl, rfl⟩) | (go_at_call 83; refine (within_any _ _ _ _).mono ?_; rintro e w' ⟨rfl, rfl⟩) | (go_at_call 87; refine (HHe.out _).mono ?_; rintro e w9 ⟨rfl, hbel⟩; have HB3 := Lib.hid (HB2.out.trans (hbel.mono HB2.out.size)); have x0 := cell_on hbel x0; have x1 := cell_on hbel x1; have c0 := cell_on hbel c0b; have c1 := cell_on hbel c1b; have c2 := cell_on hbel c2b; have c3 := cell_on hbel c3b; have c5 := cell_on hbel c5b))
                    go_ret
                    exact ⟨ret_bool HX.out.symm, HB3.out⟩
                  · have HHe := Lib.hid (fun w => nHeld_any tr sz n q it.length cq w htr q1)
                    rw [decide_eq_true q2] at HHe
                    have hq : hdB tr it.length ck ⟨n, u⟩ = true := by simp [hdB, hlo, hhi, q1, q2, q3]
                    clear q2
                    go_wp2_with (first | (go_at_call 86; refine (nSerial_any _ _).mono ?_; rintro e w' ⟨rfl, rfl⟩) | (go_at_call 83; refine (within_any _ _ _ _).mono ?_; rintro e w' ⟨rfl, rfl⟩) | (go_at_call 87; refine (HHe.out _).mono ?_; rintro e w9 ⟨rfl, hbel⟩; have HB3 := Lib.hid (HB2.out.trans (hbel.mono HB2.out.size)); have x0 := cell_on hbel x0; have x1 := cell_on hbel x1; have c0 := cell_on hbel c0b; have c1 := cell_on hbel c1b; have c2 := cell_on hbel c2b; have c3 := cell_on hbel c3b; have c5 := cell_on hbel c5b))
                    have hnn := q1
                    clear q1 q3
                    have HX := Lib.hid (HN.out (by rw [HK.out]; exact hq))
                    have hd0 : decide ((0 : Int) < ((0 : Nat) : Int)) = false := rfl
                    clear hq
                    go_quiet (fail)
                    go_wp2
                    go_roundw
                    case rel => exact ⟨0 + 1, by omega, by go_num, HX, Lib.hid (HBr.out.trans ((below_drewN (Below.trans (below_alloc1 wr (.cells #[.int .i64 n, .int .i64 u] 130)) (hbel.mono (by simp))) nq).mono HBr.out.size))⟩
                    case measure => simp [intOf]; omega
                · have HHe := Lib.hid (fun w => nHeld_any tr sz n q it.length cq w htr q1)
                  rw [decide_eq_false q2] at HHe
                  have HX := Lib.hid (HBd.out (HB1.out (by first | (simp [hdB, hlo, hhi, q1, q2]; done) | (simp [hdB, hlo, hhi, q1, q2]; intros; omega))))
                  clear q2
                  clear HN
                  go_wp2_with (first | (go_at_call 86; refine (nSerial_any _ _).mono ?_; rintro e w' ⟨rfl, rfl⟩) | (go_at_call 83; refine (within_any _ _ _ _).mono ?_; rintro e w' ⟨rfl, rfl⟩) | (go_at_call 87; refine (HHe.out _).mono ?_; rintro e w9 ⟨rfl, hbel⟩; have HB3 := Lib.hid (HB2.out.trans (hbel.mono HB2.out.size)); have x0 := cell_on hbel x0; have x1 := cell_on hbel x1; have c0 := cell_on hbel c0b; have c1 := cell_on hbel c1b; have c2 := cell_on hbel c2b; have c3 := cell_on hbel c3b; have c5 := cell_on hbel c5b))
                  go_ret
                  exact ⟨ret_bool HX.out.symm, HB3.out⟩
            · obtain ⟨m, hm⟩ : ∃ m, k = m + 1 := ⟨k - 1, by omega⟩
              have hm1 : m < hs.length := by omega
              have HK : Hid (hkB tr it.length ck hs k = (hdB tr it.length ck hs[k] && decide (gp tr hs[m].n < gp tr hs[k].n))) := Lib.hid (by subst hm; exact hkB_succ hlt)
              have hys := hkB_serial hm1 (HF.out m (by omega))
              obtain ⟨cy, hCy, hcy⟩ := HCe.out m hm1
              obtain rfl : c = [.int .i64 hs[k].n, .int .i64 hs[k].u] := hC
              have d0 := cell_on hB (hcl 0 _ rfl)
              rw [show off + k * kHd.sz + 0 = off + k * 2 from rfl] at d0
              have d1 := cell_on hB (hcl 1 _ rfl)
              rw [show off + k * kHd.sz + 1 = off + k * 2 + 1 from rfl] at d1
              obtain rfl : cy = [.int .i64 hs[m].n, .int .i64 hs[m].u] := hCy
              have g0 := cell_on hB (hcy 0 _ rfl)
              rw [show off + m * kHd.sz + 0 = off + m * 2 from rfl] at g0
              clear hcl hcy
              have e1 : IntKind.i64.wrap ((k : Int) - 1) = (m : Int) := by rw [IntKind.wrap_i64]; omega
              have e2 : wrap64 ((k : Int) - 1) = (m : Int) := by simp only [wrap64]; omega
              have e3 : (k : Int) - 1 = (m : Int) := by omega
              have e4 : (m : Int) < (hs.length : Int) := by omega
              have e5 : 0 < k := by omega
              have e7 : IntKind.i64.wrap (m : Int) = (m : Int) := by rw [IntKind.wrap_i64]; omega
              have e6 : (0 : Int) < (k : Int) := by omega
              clear hm
              generalize hs[k] = x at *
              generalize hs[m] = y at *
              obtain ⟨n, u⟩ := x
              obtain ⟨yn, yu⟩ := y
              dsimp only at d0 d1 g0 hys
              have g0 := cell_on (below_alloc1 wr (.cells #[.int .i64 n, .int .i64 u] 130)) g0
              have HB2 : Hid (Below w.heap.size w (wr.alloc (.cells #[.int .i64 n, .int .i64 u] 130))) := Lib.hid (hB.trans ((below_alloc1 _ _).mono hB.size))
              have c0b := cell_on (below_alloc1 wr (.cells #[.int .i64 n, .int .i64 u] 130)) c0
              have c1b := cell_on (below_alloc1 wr (.cells #[.int .i64 n, .int .i64 u] 130)) c1
              have c2b := cell_on (below_alloc1 wr (.cells #[.int .i64 n, .int .i64 u] 130)) c2
              have c3b := cell_on (below_alloc1 wr (.cells #[.int .i64 n, .int .i64 u] 130)) c3
              have c5b := cell_on (below_alloc1 wr (.cells #[.int .i64 n, .int .i64 u] 130)) c5
              have x0 : (wr.alloc (.cells #[.int .i64 n, .int .i64 u] 130)).cell? ⟨wr.heap.size, 0, none⟩ = some (.int .i64 n) := by simp
              have x1 : (wr.alloc (.cells #[.int .i64 n, .int .i64 u] 130)).cell? ⟨wr.heap.size, 1, none⟩ = some (.int .i64 u) := by simp
              cases q1 : inR n 0 65535
              · have HX := Lib.hid (HBd.out (HB1.out (by first | (simp [hdB, hlo, hhi, q1]; done) | (simp [hdB, hlo, hhi, q1]; intros; omega))))
                clear HN
                go_wp2_with (first | (go_at_call 86; refine (nSerial_any _ _).mono ?_; rintro e w' ⟨rfl, rfl⟩) | (go_at_call 83; refine (within_any _ _ _ _).mono ?_; rintro e w' ⟨rfl, rfl⟩))
                go_ret
                exact ⟨ret_bool HX.out.symm, HB2.out⟩
              · by_cases q2 : gp tr n < (it.length : Int)
                · cases q3 : inR u lo hi
                  · have HHe := Lib.hid (fun w => nHeld_any tr sz n q it.length cq w htr q1)
                    rw [decide_eq_true q2] at HHe
                    have HX := Lib.hid (HBd.out (HB1.out (by first | (simp [hdB, hlo, hhi, q1, q2, q3]; done) | (simp [hdB, hlo, hhi, q1, q2, q3]; intros; omega))))
                    clear HN
                    go_wp2_with (first | (go_at_call 86; refine (nSerial_any _ _).mono ?_; rintro e w' ⟨rfl, rfl⟩) | (go_at_call 83; refine (within_any _ _ _ _).mono ?_; rintro e w' ⟨rfl, rfl⟩) | (go_at_call 87; refine (HHe.out _).mono ?_; rintro e w9 ⟨rfl, hbel⟩; have HB3 := Lib.hid (HB2.out.trans (hbel.mono HB2.out.size)); have x0 := cell_on hbel x0; have x1 := cell_on hbel x1; have c0 := cell_on hbel c0b; have c1 := cell_on hbel c1b; have c2 := cell_on hbel c2b; have c3 := cell_on hbel c3b; have c5 := cell_on hbel c5b; have g0 := cell_on hbel g0))
                    go_ret
                    exact ⟨ret_bool HX.out.symm, HB3.out⟩
                  · have HHe := Lib.hid (fun w => nHeld_any tr sz n q it.length cq w htr q1)
                    rw [decide_eq_true q2] at HHe
                    have hq : hdB tr it.length ck ⟨n, u⟩ = true := by simp [hdB, hlo, hhi, q1, q2, q3]
                    clear q2
                    go_wp2_with (first | (go_at_call 86; refine (nSerial_any _ _).mono ?_; rintro e w' ⟨rfl, rfl⟩) | (go_at_call 83; refine (within_any _ _ _ _).mono ?_; rintro e w' ⟨rfl, rfl⟩) | (go_at_call 87; refine (HHe.out _).mono ?_; rintro e w9 ⟨rfl, hbel⟩; have HB3 := Lib.hid (HB2.out.trans (hbel.mono HB2.out.size)); have x0 := cell_on hbel x0; have x1 := cell_on hbel x1; have c0 := cell_on hbel c0b; have c1 := cell_on hbel c1b; have c2 := cell_on hbel c2b; have c3 := cell_on hbel c3b; have c5 := cell_on hbel c5b; have g0 := cell_on hbel g0))
                    have hnn := q1
                    clear q1 q3
                    have HG1 := Lib.hid (fun w => nGap_any tr yn w (inR_true.1 htr).1 (inR_true.1 htr).2 (inR_true.1 hys).1 (inR_true.1 hys).2)
                    have HG2 := Lib.hid (fun w => nGap_any tr n w (inR_true.1 htr).1 (inR_true.1 htr).2 (inR_true.1 hnn).1 (inR_true.1 hnn).2)
                    have HQ1 := Lib.hid (fun m => (HG1.out (w9.drewN m)).mono (fun e w' h => (⟨h.1, ⟨m, h.2.symm⟩⟩ : e = .returned (.int .i64 (gp tr yn)) ∧ ∃ q9, w' = w9.drewN q9)))
                    have HQ2 := Lib.hid (fun m => (HG2.out (w9.drewN m)).mono (fun e w' h => (⟨h.1, ⟨m, h.2.symm⟩⟩ : e = .returned (.int .i64 (gp tr n)) ∧ ∃ q9, w' = w9.drewN q9)))
                    by_cases hgt : gp tr yn < gp tr n
                    · have HX := Lib.hid (HN.out (by rw [HK.out, hq]; simp [hgt]))
                      clear hq
                      go_quiet ((first | (go_at_call 88; exact HQ1.out _) | (go_at_call 88; exact HQ2.out _)))
                      go_wp2
                      go_roundw
                      case rel => exact ⟨k + 1, by omega, by go_num, HX, Lib.hid (HBr.out.trans ((below_drewN (Below.trans (below_alloc1 wr (.cells #[.int .i64 n, .int .i64 u] 130)) (hbel.mono (by simp))) nq).mono HBr.out.size))⟩
                      case measure => simp [intOf]; omega
                    · have HX := Lib.hid (HBd.out (by rw [HK.out, hq]; simp [hgt]))
                      have hgt2 : gp tr n ≤ gp tr yn := by omega
                      clear hq
                      go_quiet ((first | (go_at_call 88; exact HQ1.out _) | (go_at_call 88; exact HQ2.out _)))
                      go_wp2
                      go_ret
                      exact ⟨ret_bool HX.out.symm, below_drewN HB3.out nq⟩
                · have HHe := Lib.hid (fun w => nHeld_any tr sz n q it.length cq w htr q1)
                  rw [decide_eq_false q2] at HHe
                  have HX := Lib.hid (HBd.out (HB1.out (by first | (simp [hdB, hlo, hhi, q1, q2]; done) | (simp [hdB, hlo, hhi, q1, q2]; intros; omega))))
                  clear q2
                  clear HN
                  go_wp2_with (first | (go_at_call 86; refine (nSerial_any _ _).mono ?_; rintro e w' ⟨rfl, rfl⟩) | (go_at_call 83; refine (within_any _ _ _ _).mono ?_; rintro e w' ⟨rfl, rfl⟩) | (go_at_call 87; refine (HHe.out _).mono ?_; rintro e w9 ⟨rfl, hbel⟩; have HB3 := Lib.hid (HB2.out.trans (hbel.mono HB2.out.size)); have x0 := cell_on hbel x0; have x1 := cell_on hbel x1; have c0 := cell_on hbel c0b; have c1 := cell_on hbel c1b; have c2 := cell_on hbel c2b; have c3 := cell_on hbel c3b; have c5 := cell_on hbel c5b; have g0 := cell_on hbel g0))
                  go_ret
                  exact ⟨ret_bool HX.out.symm, HB3.out⟩
          · obtain rfl : k = hs.length := by omega
            have HG := Lib.hid (HV.out (fun j hj => HF.out j (by omega)))
            go_wp2
            go_ret
            exact ⟨ret_bool HG.out.symm, hB⟩
end Go.Proofs.YtihpibdodlgpaaaGreatDoor
