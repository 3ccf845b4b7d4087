/- Contracts: zero elements and receivers, settled receivers, the leads of windows. -/
import Derived.Test.YtihpibdodlgpaaaGreatDoorNetW
namespace Go.Proofs.YtihpibdodlgpaaaGreatDoor
open Go.RowKit

def zeB (x : NEl) : Bool := x.ck == 0 && (x.en.length : Int) == 0
def zrB (x : NRc) : Bool := !x.st && x.ck == 0 && x.rw.nx == 0 && (x.rw.sl.length : Int) == 0 && (x.rq.length : Int) == 0
def sdB (x : NRc) : Bool := x.st && (x.rq.length : Int) == 0 && (x.rw.sl.length : Int) == 0
set_option maxRecDepth 100000 in
set_option maxHeartbeats 4000000 in
theorem nZeroEl_any (x : NEl) (v0 : Value) (w : World) (h : kEn.At 0 w v0 x.en) :
    Calls Tryz.prog 92 #[.agg #[.int .i64 x.ck, v0]] w fun e w' => e = .returned (.bool (zeB x)) ∧ Below w.heap.size w w' := by
  obtain ⟨ck, en⟩ := x
  dsimp only at h ⊢
  obtain ⟨p, cap, _, _, rfl, hcap, _, _⟩ := h.parts
  clear h
  by_cases e1 : ck = 0
  · subst e1
    go_enter Tryz.func92, Tryz.ntmps92
    go_wp2
    go_ret
    exact ⟨ret_bool (by simp [zeB]), by go_grown⟩
  · go_enter Tryz.func92, Tryz.ntmps92
    go_wp2
    go_ret
    exact ⟨ret_bool (by simp [zeB, e1]), by go_grown⟩
set_option maxRecDepth 100000 in
set_option maxHeartbeats 4000000 in
theorem nZeroRc_any (x : NRc) (v0 v1 : Value) (w : World) (h0 : kSl.At 0 w v0 x.rw.sl) (h1 : kRq.At 0 w v1 x.rq) :
    Calls Tryz.prog 93 #[.agg #[.bool x.st, .int .i64 x.ck, .int .i64 x.rw.nx, v0, v1]] w fun e w' => e = .returned (.bool (zrB x)) ∧ Below w.heap.size w w' := by
  obtain ⟨st, ck, ⟨nx, sl⟩, rq⟩ := x
  dsimp only at h0 h1 ⊢
  obtain ⟨p, cp, _, _, rfl, hcp, _, _⟩ := h0.parts
  obtain ⟨r, cr, _, _, rfl, hcr, _, _⟩ := h1.parts
  clear h0 h1
  cases st
  · by_cases e1 : ck = 0
    · subst e1
      by_cases e2 : nx = 0
      · subst e2
        by_cases e3 : (sl.length : Int) = 0
        · have e4 : sl.length = 0 := by omega
          obtain rfl := List.length_eq_zero_iff.1 e4
          go_enter Tryz.func93, Tryz.ntmps93
          go_wp2
          go_ret
          exact ⟨ret_bool (by simp [zrB]), by go_grown⟩
        · have e4 : ¬ sl = [] := fun h => e3 (by rw [h]; rfl)
          go_enter Tryz.func93, Tryz.ntmps93
          go_wp2
          go_ret
          exact ⟨ret_bool (by simp [zrB, e4]), by go_grown⟩
      · go_enter Tryz.func93, Tryz.ntmps93
        go_wp2
        go_ret
        exact ⟨ret_bool (by simp [zrB, e2]), by go_grown⟩
    · go_enter Tryz.func93, Tryz.ntmps93
      go_wp2
      go_ret
      exact ⟨ret_bool (by simp [zrB, e1]), by go_grown⟩
  · go_enter Tryz.func93, Tryz.ntmps93
    go_wp2
    go_ret
    exact ⟨ret_bool (by simp [zrB]), by go_grown⟩
set_option maxRecDepth 100000 in
set_option maxHeartbeats 4000000 in
theorem nSettled_any (x : NRc) (v0 v1 : Value) (w : World) (h0 : kSl.At 0 w v0 x.rw.sl) (h1 : kRq.At 0 w v1 x.rq) :
    Calls Tryz.prog 33 #[.agg #[.bool x.st, .int .i64 x.ck, .int .i64 x.rw.nx, v0, v1]] w fun e w' => e = .returned (.bool (sdB x)) ∧ Below w.heap.size w w' := by
  obtain ⟨st, ck, ⟨nx, sl⟩, rq⟩ := x
  dsimp only at h0 h1 ⊢
  obtain ⟨p, cp, _, _, rfl, hcp, _, _⟩ := h0.parts
  obtain ⟨r, cr, _, _, rfl, hcr, _, _⟩ := h1.parts
  clear h0 h1
  cases st
  · go_enter Tryz.func33, Tryz.ntmps33
    go_wp2
    go_ret
    exact ⟨ret_bool (by simp [sdB]), by go_grown⟩
  · by_cases e3 : (rq.length : Int) = 0
    · have e4 : rq.length = 0 := by omega
      obtain rfl := List.length_eq_zero_iff.1 e4
      go_enter Tryz.func33, Tryz.ntmps33
      go_wp2
      go_ret
      exact ⟨ret_bool (by simp [sdB]), by go_grown⟩
    · have e4 : ¬ rq = [] := fun h => e3 (by rw [h]; rfl)
      go_enter Tryz.func33, Tryz.ntmps33
      go_wp2
      go_ret
      exact ⟨ret_bool (by simp [sdB, e4]), by go_grown⟩
set_option maxRecDepth 100000 in
set_option maxHeartbeats 4000000 in
theorem nLead_any (x : NSw) (v0 : Value) (w : World) (h : kS.At 0 w v0 x.it) (hs : swB x = true) :
    Calls Tryz.prog 34 #[.agg #[.int .i64 x.tr, .int .i64 x.sz, v0]] w fun e w' => e = .returned (.int .i64 ((x.tr + x.it.length) % 65536)) ∧ Below w.heap.size w w' := by
  obtain ⟨tr, sz, it⟩ := x
  dsimp only at h ⊢
  simp only [swB, Bool.and_eq_true, decide_eq_true_eq] at hs
  obtain ⟨⟨⟨q1, q2⟩, q3⟩, _⟩ := hs
  obtain ⟨q4, q5⟩ := inR_true.1 q1
  obtain ⟨q6, q7⟩ := inR_true.1 q2
  have HA := Lib.hid (fun w => nAfter_any tr it.length w q4 q5 (by omega) (by omega))
  obtain ⟨p, cap, _, _, rfl, hcap, _, _⟩ := h.parts
  clear h q1 q2
  go_enter Tryz.func34, Tryz.ntmps34
  go_wp2_with ((go_at_call 62; refine (HA.out _).mono ?_; rintro e w' ⟨rfl, rfl⟩))
  go_ret
  exact ⟨rfl, by go_grown⟩
set_option maxRecDepth 100000 in
set_option maxHeartbeats 4000000 in
theorem sLead_any (x : NSw) (v0 : Value) (w : World) (h : kS.At 0 w v0 x.it) (hs : swB x = true) :
    Calls Tryz.prog 31 #[.agg #[.int .i64 x.tr, .int .i64 x.sz, v0]] w fun e w' => e = .returned (.int .i64 ((x.tr + x.it.length) % 65536)) ∧ Below w.heap.size w w' := by
  obtain ⟨tr, sz, it⟩ := x
  dsimp only at h ⊢
  simp only [swB, Bool.and_eq_true, decide_eq_true_eq] at hs
  obtain ⟨⟨⟨q1, q2⟩, q3⟩, _⟩ := hs
  obtain ⟨q4, q5⟩ := inR_true.1 q1
  obtain ⟨q6, q7⟩ := inR_true.1 q2
  have HA := Lib.hid (fun w => sAfter_any tr it.length w q4 q5 (by omega) (by omega))
  obtain ⟨p, cap, _, _, rfl, hcap, _, _⟩ := h.parts
  clear h q1 q2
  go_enter Tryz.func31, Tryz.ntmps31
  go_wp2_with ((go_at_call 60; refine (HA.out _).mono ?_; rintro e w' ⟨rfl, rfl⟩))
  go_ret
  exact ⟨rfl, by go_grown⟩
end Go.Proofs.YtihpibdodlgpaaaGreatDoor
