/- Contracts on receivers: the program's IsValidReceiver. -/
import Derived.Test.YtihpibdodlgpaaaGreatDoorNetG
namespace Go.Proofs.YtihpibdodlgpaaaGreatDoor
open Go.RowKit

/-- a valid receiver -/
def rcB (x : NRc) : Bool := inR x.ck 0 9999 && (if x.st = true then rwB x.rw && qsB x.rq x.rw.nx && !(x.rq.any (fun q => haB x.rw q.n)) else x.rw.nx == 0 && (x.rw.sl.length : Int) == 0 && (x.rq.length : Int) == 0)
theorem qsB_mem {xs : List NRq} {b : Int} (h : qsB xs b = true) {q : NRq} (hq : q ∈ xs) : inR q.n 0 65535 = true ∧ gp b q.n < 8 := by
  simp only [qsB, Bool.and_eq_true] at h
  obtain ⟨k, hk, rfl⟩ := List.getElem_of_mem hq
  have h2 := List.all_eq_true.1 h.2 k (List.mem_range.2 hk)
  simp only [qkB, List.getElem?_eq_getElem hk, Bool.and_eq_true] at h2
  have h3 := h2.1
  simp only [q1B, Bool.and_eq_true, decide_eq_true_eq] at h3
  exact ⟨h3.1.1.1.1, h3.1.1.1.2⟩
theorem rwB_serial {x : NRw} (h : rwB x = true) : inR x.nx 0 65535 = true := by
  simp only [rwB, Bool.and_eq_true] at h; exact h.1.1.1
set_option maxRecDepth 100000 in
set_option maxHeartbeats 4000000 in
theorem clRc_any (x : NRw) (q : NRq) (A : Nat) (v0 : Value) (w : World) (c2 : w.cell? ⟨A, 2, none⟩ = some (.int .i64 x.nx)) (c3 : w.cell? ⟨A, 3, none⟩ = some v0) (h : kSl.At 0 w v0 x.sl) (hn : x.sl.length ≤ 1048576) (h1 : inR x.nx 0 65535 = true) (h2 : inR q.n 0 65535 = true) :
    Calls Tryz.prog 121 #[.agg #[.int .i64 q.n, .int .i64 q.s, .int .i64 q.u, .int .i64 q.t], .pointer (some ⟨A, 0, none⟩)] w fun e w' => e = .returned (.bool (haB x q.n)) ∧ Below w.heap.size w w' := by
  have H := Lib.hid (fun w h => nHas_any x q.n v0 w h hn h1 h2)
  have HA := Lib.hid h
  obtain ⟨p, cap, b, off, rfl, _, _, _⟩ := h.parts
  obtain ⟨n, s, u, t⟩ := q
  have c2 := cell_on (below_alloc1 w (.cells #[.int .i64 n, .int .i64 s, .int .i64 u, .int .i64 t] 164)) c2
  have c3 := cell_on (below_alloc1 w (.cells #[.int .i64 n, .int .i64 s, .int .i64 u, .int .i64 t] 164)) c3
  clear h
  go_enter Tryz.func121, Tryz.ntmps121
  go_wp2_with fail
  refine (H.out _ (HA.out.below (by go_grown))).mono ?_
  rintro e w1 ⟨rfl, hb⟩
  go_wp2
  go_ret
  exact ⟨rfl, Below.trans (by go_grown) (hb.mono (by simp <;> omega))⟩
set_option maxRecDepth 100000 in
set_option maxHeartbeats 4000000 in
theorem nRecvr_any (x : NRc) (v0 v1 : Value) (w : World) (a0 : kSl.At 0 w v0 x.rw.sl) (a1 : kRq.At 0 w v1 x.rq) (hf : fitRc 1048576 x) :
    Calls Tryz.prog 94 #[.agg #[.bool x.st, .int .i64 x.ck, .int .i64 x.rw.nx, v0, v1]] w fun e w' => e = .returned (.bool (rcB x)) ∧ Below w.heap.size w w' := by
  obtain ⟨st, ck, ⟨nx, sl⟩, rq⟩ := x
  obtain ⟨f0, f1⟩ := hf
  have hlen := f0.1
  dsimp only at a0 a1 f0 f1 hlen ⊢
  have A0 := Lib.hid a0
  have A1 := Lib.hid a1
  obtain ⟨p, cp, _, _, rfl, hcp, _, _⟩ := a0.parts
  obtain ⟨r, cr, _, _, rfl, hcr, _, _⟩ := a1.parts
  have hB : Below w.heap.size w (w.alloc (.cells #[.bool st, .int .i64 ck, .int .i64 nx, .slice p sl.length cp, .slice r rq.length cr] 77)) := below_alloc1 _ _
  have c0 : (w.alloc (.cells #[.bool st, .int .i64 ck, .int .i64 nx, .slice p sl.length cp, .slice r rq.length cr] 77)).cell? ⟨w.heap.size, 0, none⟩ = some (Value.bool st) := by simp
  have c1 : (w.alloc (.cells #[.bool st, .int .i64 ck, .int .i64 nx, .slice p sl.length cp, .slice r rq.length cr] 77)).cell? ⟨w.heap.size, 1, none⟩ = some (Value.int .i64 ck) := by simp
  have c2 : (w.alloc (.cells #[.bool st, .int .i64 ck, .int .i64 nx, .slice p sl.length cp, .slice r rq.length cr] 77)).cell? ⟨w.heap.size, 2, none⟩ = some (Value.int .i64 nx) := by simp
  have c3 : (w.alloc (.cells #[.bool st, .int .i64 ck, .int .i64 nx, .slice p sl.length cp, .slice r rq.length cr] 77)).cell? ⟨w.heap.size, 3, none⟩ = some (Value.slice p sl.length cp) := by simp
  have c4 : (w.alloc (.cells #[.bool st, .int .i64 ck, .int .i64 nx, .slice p sl.length cp, .slice r rq.length cr] 77)).cell? ⟨w.heap.size, 4, none⟩ = some (Value.slice r rq.length cr) := by simp
  have HW := Lib.hid (fun W h => nRecv_any ⟨nx, sl⟩ (.slice p sl.length cp) W h f0)
  have HQ := Lib.hid (fun W h => nReqs_any rq (.slice r rq.length cr) nx W h f1)
  have HC := Lib.hid (fun (g1 : rwB ⟨nx, sl⟩ = true) (g2 : qsB rq nx = true) W (hb : Below w.heap.size w W) (e2 : W.cell? ⟨w.heap.size, 2, none⟩ = some (.int .i64 nx)) (e3 : W.cell? ⟨w.heap.size, 3, none⟩ = some (.slice p sl.length cp)) => conC_any (fun q => haB ⟨nx, sl⟩ q.n) w.heap.size (.slice r rq.length cr) rq W (A1.out.below hb) f1 (fun q hq W' hb' => clRc_any ⟨nx, sl⟩ q w.heap.size (.slice p sl.length cp) W' (cell_on hb' e2) (cell_on hb' e3) ((A0.out.below hb).below hb') hlen (rwB_serial g1) (qsB_mem g2 hq).1))
  clear a0 a1 f0 f1
  cases h1 : inR ck 0 9999
  · clear HC
    go_enter Tryz.func94, Tryz.ntmps94
    go_wp2_with (first | (go_at_call 85; refine (nClock_any _ _).mono ?_; rintro e w' ⟨rfl, rfl⟩))
    go_ret
    exact ⟨ret_bool (by first | (simp [rcB, h1]; done) | (simp [rcB, h1]; intros; omega) | (simp [rcB, h1]; done)), by go_grown⟩
  · cases st
    · by_cases e1 : nx = 0
      · subst e1
        by_cases e2 : sl.length = 0
        · have e4 : (sl.length : Int) = 0 := by omega
          clear HC
          go_enter Tryz.func94, Tryz.ntmps94
          go_wp2_with (first | (go_at_call 85; refine (nClock_any _ _).mono ?_; rintro e w' ⟨rfl, rfl⟩))
          go_ret
          exact ⟨ret_bool (by first | (simp [rcB, h1, e2]; done) | (simp [rcB, h1, e2]; intros; omega) | (simp [rcB, h1, e2]; done)), by go_grown⟩
        · have e4 : ¬ (sl.length : Int) = 0 := by omega
          clear HC
          go_enter Tryz.func94, Tryz.ntmps94
          go_wp2_with (first | (go_at_call 85; refine (nClock_any _ _).mono ?_; rintro e w' ⟨rfl, rfl⟩))
          go_ret
          exact ⟨ret_bool (by first | (simp [rcB, h1, e2]; done) | (simp [rcB, h1, e2]; intros; omega) | (simp [rcB, h1, e2]; done)), by go_grown⟩
      · clear HC
        go_enter Tryz.func94, Tryz.ntmps94
        go_wp2_with (first | (go_at_call 85; refine (nClock_any _ _).mono ?_; rintro e w' ⟨rfl, rfl⟩))
        go_ret
        exact ⟨ret_bool (by first | (simp [rcB, h1, e1]; done) | (simp [rcB, h1, e1]; intros; omega) | (simp [rcB, h1, e1]; done)), by go_grown⟩
    · cases h3 : rwB ⟨nx, sl⟩
      · clear HC
        go_enter Tryz.func94, Tryz.ntmps94
        go_wp2_with (first | (go_at_call 85; refine (nClock_any _ _).mono ?_; rintro e w' ⟨rfl, rfl⟩) | (go_at_call 118; refine (HW.out _ (A0.out.below hB)).mono ?_; rintro e w1 ⟨rfl, hbel⟩; have hB := hB.trans (hbel.mono hB.size); have c0 := cell_on hbel c0; have c1 := cell_on hbel c1; have c2 := cell_on hbel c2; have c3 := cell_on hbel c3; have c4 := cell_on hbel c4))
        go_ret
        exact ⟨ret_bool (by first | (simp [rcB, h1, h3]; done) | (simp [rcB, h1, h3]; intros; omega) | (simp [rcB, h1, h3]; done)), hB⟩
      · cases h4 : qsB rq nx
        · clear HC
          go_enter Tryz.func94, Tryz.ntmps94
          go_wp2_with (first | (go_at_call 85; refine (nClock_any _ _).mono ?_; rintro e w' ⟨rfl, rfl⟩) | (go_at_call 118; refine (HW.out _ (A0.out.below hB)).mono ?_; rintro e w1 ⟨rfl, hbel⟩; have hB := hB.trans (hbel.mono hB.size); have c0 := cell_on hbel c0; have c1 := cell_on hbel c1; have c2 := cell_on hbel c2; have c3 := cell_on hbel c3; have c4 := cell_on hbel c4) | (go_at_call 119; refine (HQ.out _ (A1.out.below hB)).mono ?_; rintro e w1 ⟨rfl, hbel⟩; have hB := hB.trans (hbel.mono hB.size); have c0 := cell_on hbel c0; have c1 := cell_on hbel c1; have c2 := cell_on hbel c2; have c3 := cell_on hbel c3; have c4 := cell_on hbel c4))
          go_ret
          exact ⟨ret_bool (by first | (simp [rcB, h1, h3, h4]; done) | (simp [rcB, h1, h3, h4]; intros; omega) | (simp [rcB, h1, h3, h4]; done)), hB⟩
        · have HC2 := Lib.hid (HC.out h3 h4)
          go_enter Tryz.func94, Tryz.ntmps94
          go_wp2_with (first | (go_at_call 85; refine (nClock_any _ _).mono ?_; rintro e w' ⟨rfl, rfl⟩) | (go_at_call 118; refine (HW.out _ (A0.out.below hB)).mono ?_; rintro e w1 ⟨rfl, hbel⟩; have hB := hB.trans (hbel.mono hB.size); have c0 := cell_on hbel c0; have c1 := cell_on hbel c1; have c2 := cell_on hbel c2; have c3 := cell_on hbel c3; have c4 := cell_on hbel c4) | (go_at_call 119; refine (HQ.out _ (A1.out.below hB)).mono ?_; rintro e w1 ⟨rfl, hbel⟩; have hB := hB.trans (hbel.mono hB.size); have c0 := cell_on hbel c0; have c1 := cell_on hbel c1; have c2 := cell_on hbel c2; have c3 := cell_on hbel c3; have c4 := cell_on hbel c4) | (go_at_call 120; refine (HC2.out _ hB c2 c3).mono ?_; rintro e w1 ⟨rfl, hbel⟩; have hB := hB.trans (hbel.mono hB.size); have c0 := cell_on hbel c0; have c1 := cell_on hbel c1; have c2 := cell_on hbel c2; have c3 := cell_on hbel c3; have c4 := cell_on hbel c4))
          go_ret
          exact ⟨ret_bool (by first | (simp [rcB, h1, h3, h4]; done) | (simp [rcB, h1, h3, h4]; intros; omega) | (simp [rcB, h1, h3, h4]; done)), hB⟩
end Go.Proofs.YtihpibdodlgpaaaGreatDoor
