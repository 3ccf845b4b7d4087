/- Contracts of filling, taking and waiting on one bucket: for all arguments of the public functions; the helpers where their callers have tested. -/
import Derived.Test.YtgiigcpodinpoaaRate2
import Derived.Deep.RegionHeld3
namespace Go.Proofs.Ytgiigcpodinpoaa
open Go.RowKit

/-- the block that a bucket lies in -/
abbrev Bk.o (k : Bk) : Obj := .cells #[.int .i64 k.n, .int .i64 k.d, .int .i64 k.b, .int .i64 k.l, .int .i64 k.t] 25

theorem filled_ex (k : Bk) (now : Int) (w : World) (h : canFill k now = true) :
    Calls Try.prog 56 #[k.v, .int .i64 now] w fun e w' => e = .returned (.agg #[.int .i64 k.n, .int .i64 k.d, .int .i64 k.b, .int .i64 (k.fill now).l, .int .i64 now]) ∧ (w.alloc (k.fill now).o).alloc (k.fill now).o = w' := by
  have hw := fill_wf h
  clear h
  obtain ⟨n, d, b, l, t⟩ := k
  obtain ⟨⟨l1, l2⟩, ⟨t1, t2⟩, ⟨p1, p2⟩, q1, q2⟩ := hw
  simp only at l1 l2 t1 t2 p1 p2 q1 q2
  go_enter Try.func56, Try.ntmps56
  go_wp2
  · go_returns
    have e : min (l + (now - t) * n) (b * d) = b * d := by omega
    exact ⟨by simp [Bk.fill, e], by simp [Bk.fill, e]⟩
  · go_returns
    have e : min (l + (now - t) * n) (b * d) = l + (now - t) * n := by omega
    exact ⟨by simp [Bk.fill, e], by simp [Bk.fill, e]⟩
theorem l19Fill_ex (k : Bk) (now : Int) (w : World) (h : canFill k now = true) :
    Calls Try.prog 54 #[k.v, .int .i64 now] w fun e w' => e = .returned (.agg #[.int .i64 k.n, .int .i64 k.d, .int .i64 k.b, .int .i64 (k.fill now).l, .int .i64 now]) ∧ (w.alloc k.o).alloc (k.fill now).o = w' := by
  have hw := fill_wf h
  clear h
  obtain ⟨n, d, b, l, t⟩ := k
  obtain ⟨⟨l1, l2⟩, ⟨t1, t2⟩, ⟨p1, p2⟩, q1, q2⟩ := hw
  simp only at l1 l2 t1 t2 p1 p2 q1 q2
  go_enter Try.func54, Try.ntmps54
  go_wp2_with ((go_at_call 76; refine (l1Least_any _ _ _).mono ?_; rintro e w' ⟨rfl, rfl⟩))
  go_returns
  exact ⟨by simp [Bk.fill], by simp [Bk.fill]⟩

theorem isLoad_any (x : Ld) (w : World) :
    Calls Try.prog 62 #[x.v] w fun e w' => e = .returned (.bool (ldB x)) ∧ Below w.heap.size w w' := by
  obtain ⟨t, s⟩ := x
  cases h1 : inR t 0 10000
  · go_enter Try.func62, Try.ntmps62
    go_wp2_with (first | (go_at_call 51; refine (within_any _ _ _ _).mono ?_; rintro e w' ⟨rfl, rfl⟩) | (go_at_call 52; refine (isTick_any _ _).mono ?_; rintro e w' ⟨rfl, rfl⟩))
    go_ret
    exact ⟨by simp [ldB, h1], by go_grown⟩
  · go_enter Try.func62, Try.ntmps62
    go_wp2_with (first | (go_at_call 51; refine (within_any _ _ _ _).mono ?_; rintro e w' ⟨rfl, rfl⟩) | (go_at_call 52; refine (isTick_any _ _).mono ?_; rintro e w' ⟨rfl, rfl⟩))
    go_ret
    exact ⟨by simp [ldB, h1], by go_grown⟩
theorem l19Load_any (x : Ld) (w : World) :
    Calls Try.prog 59 #[x.v] w fun e w' => e = .returned (.bool (ldB x)) ∧ Below w.heap.size w w' := by
  obtain ⟨t, s⟩ := x
  cases h1 : inR t 0 10000
  · go_enter Try.func59, Try.ntmps59
    go_wp2_with (first | (go_at_call 75; refine (l1In_any _ _ _ _).mono ?_; rintro e w' ⟨rfl, rfl⟩) | (go_at_call 61; refine (l8Tick_any _ _).mono ?_; rintro e w' ⟨rfl, rfl⟩))
    go_ret
    exact ⟨by simp [ldB, h1], by go_grown⟩
  · go_enter Try.func59, Try.ntmps59
    go_wp2_with (first | (go_at_call 75; refine (l1In_any _ _ _ _).mono ?_; rintro e w' ⟨rfl, rfl⟩) | (go_at_call 61; refine (l8Tick_any _ _).mono ?_; rintro e w' ⟨rfl, rfl⟩))
    go_ret
    exact ⟨by simp [ldB, h1], by go_grown⟩

def fiK (k : Bk) (now : Int) : Bk := if canFill k now = true then k.fill now else Bk.zero

set_option maxHeartbeats 2000000 in
theorem implFill_any (k : Bk) (now : Int) (w : World) :
    Calls Try.prog 21 #[k.v, .int .i64 now] w fun e w' => e = .returned (.tuple #[(fiK k now).v, .bool (canFill k now)]) ∧ Below w.heap.size w w' := by
  cases h : canFill k now
  · have hz : fiK k now = Bk.zero := by simp [fiK, h]
    have HZ := Lib.hid hz; clear hz
    have HC := Lib.hid (canFill_any k now); have H := Lib.hid h; clear h
    obtain ⟨n, d, b, l, t⟩ := k
    go_enter Try.func21, Try.ntmps21
    go_wp2_with fail
    refine (HC.out _).mono ?_
    rintro e w1 ⟨rfl, hb⟩
    rw [H.out]
    have kh := ((hb.block w.heap.size (by simp <;> omega)).trans (heap_alloc2_old w _ _)); have k0 := cell_of_row w1 (w.heap.size) 0 _ _ _ kh; simp at k0; have kf0 := frozen_of_row w1 (w.heap.size) 0 _ _ kh; have k1 := cell_of_row w1 (w.heap.size) 1 _ _ _ kh; simp at k1; have kf1 := frozen_of_row w1 (w.heap.size) 1 _ _ kh; have k2 := cell_of_row w1 (w.heap.size) 2 _ _ _ kh; simp at k2; have kf2 := frozen_of_row w1 (w.heap.size) 2 _ _ kh; have k3 := cell_of_row w1 (w.heap.size) 3 _ _ _ kh; simp at k3; have kf3 := frozen_of_row w1 (w.heap.size) 3 _ _ kh; have k4 := cell_of_row w1 (w.heap.size) 4 _ _ _ kh; simp at k4; have kf4 := frozen_of_row w1 (w.heap.size) 4 _ _ kh; clear kh
    have jh := ((hb.block (w.heap.size + 1) (by simp <;> omega)).trans (heap_alloc2_new w _ _)); have j0 := cell_of_row w1 (w.heap.size + 1) 0 _ _ _ jh; simp at j0; have jf0 := frozen_of_row w1 (w.heap.size + 1) 0 _ _ jh; have j1 := cell_of_row w1 (w.heap.size + 1) 1 _ _ _ jh; simp at j1; have jf1 := frozen_of_row w1 (w.heap.size + 1) 1 _ _ jh; have j2 := cell_of_row w1 (w.heap.size + 1) 2 _ _ _ jh; simp at j2; have jf2 := frozen_of_row w1 (w.heap.size + 1) 2 _ _ jh; have j3 := cell_of_row w1 (w.heap.size + 1) 3 _ _ _ jh; simp at j3; have jf3 := frozen_of_row w1 (w.heap.size + 1) 3 _ _ jh; have j4 := cell_of_row w1 (w.heap.size + 1) 4 _ _ _ jh; simp at j4; have jf4 := frozen_of_row w1 (w.heap.size + 1) 4 _ _ jh; clear jh
    have HBel := Lib.hid hb; clear hb
    go_wp2
    refine bodyPost_ret (v := (.tuple #[.agg #[.int .i64 0, .int .i64 0, .int .i64 0, .int .i64 0, .int .i64 0], .bool false])) (by simp [results, Try.results21, go_sem, *]) rfl ?_
    exact ⟨by rw [HZ.out]; rfl, (((((Below.trans (by go_grown) (HBel.out.mono (by simp <;> omega))).setCell (by simp) _).setCell (by simp) _).setCell (by simp) _).setCell (by simp) _).setCell (by simp) _⟩
  · have hz : fiK k now = k.fill now := by simp [fiK, h]
    have HZ := Lib.hid hz; clear hz
    have HC := Lib.hid (canFill_any k now); have H := Lib.hid h
    have HF := Lib.hid (fun w => filled_any k now w h); clear h
    obtain ⟨n, d, b, l, t⟩ := k
    go_enter Try.func21, Try.ntmps21
    go_wp2_with fail
    refine (HC.out _).mono ?_
    rintro e w1 ⟨rfl, hb⟩
    rw [H.out]
    have kh := ((hb.block w.heap.size (by simp <;> omega)).trans (heap_alloc2_old w _ _)); have k0 := cell_of_row w1 (w.heap.size) 0 _ _ _ kh; simp at k0; have kf0 := frozen_of_row w1 (w.heap.size) 0 _ _ kh; have k1 := cell_of_row w1 (w.heap.size) 1 _ _ _ kh; simp at k1; have kf1 := frozen_of_row w1 (w.heap.size) 1 _ _ kh; have k2 := cell_of_row w1 (w.heap.size) 2 _ _ _ kh; simp at k2; have kf2 := frozen_of_row w1 (w.heap.size) 2 _ _ kh; have k3 := cell_of_row w1 (w.heap.size) 3 _ _ _ kh; simp at k3; have kf3 := frozen_of_row w1 (w.heap.size) 3 _ _ kh; have k4 := cell_of_row w1 (w.heap.size) 4 _ _ _ kh; simp at k4; have kf4 := frozen_of_row w1 (w.heap.size) 4 _ _ kh; clear kh
    have hj := (hb.block (w.heap.size + 1) (by simp <;> omega)).trans (heap_alloc2_new w _ _)
    have HJ := Lib.hid hj; clear hj
    have hlt : w.heap.size + 1 < w1.heap.size := by have := hb.size; simp at this; omega
    have HBel := Lib.hid hb; clear hb
    go_wp2_with fail
    refine (HF.out _).mono ?_
    rintro e w2 ⟨rfl, hb2⟩
    have jh := ((hb2.block (w.heap.size + 1) hlt).trans HJ.out); have j0 := cell_of_row w2 (w.heap.size + 1) 0 _ _ _ jh; simp at j0; have jf0 := frozen_of_row w2 (w.heap.size + 1) 0 _ _ jh; have j1 := cell_of_row w2 (w.heap.size + 1) 1 _ _ _ jh; simp at j1; have jf1 := frozen_of_row w2 (w.heap.size + 1) 1 _ _ jh; have j2 := cell_of_row w2 (w.heap.size + 1) 2 _ _ _ jh; simp at j2; have jf2 := frozen_of_row w2 (w.heap.size + 1) 2 _ _ jh; have j3 := cell_of_row w2 (w.heap.size + 1) 3 _ _ _ jh; simp at j3; have jf3 := frozen_of_row w2 (w.heap.size + 1) 3 _ _ jh; have j4 := cell_of_row w2 (w.heap.size + 1) 4 _ _ _ jh; simp at j4; have jf4 := frozen_of_row w2 (w.heap.size + 1) 4 _ _ jh; clear jh
    have HB2 := Lib.hid hb2; clear hb2
    go_wp2
    refine bodyPost_ret (v := (.tuple #[(Bk.fill ⟨n, d, b, l, t⟩ now).v, .bool true])) (by simp [results, Try.results21, go_sem, *]) rfl ?_
    exact ⟨by rw [HZ.out], ((((((Below.trans (by go_grown) (HBel.out.mono (by simp <;> omega))).trans (HB2.out.mono (by omega))).setCell (by simp) _).setCell (by simp) _).setCell (by simp) _).setCell (by simp) _).setCell (by simp) _⟩
set_option maxHeartbeats 2000000 in
theorem specFill_any (k : Bk) (now : Int) (w : World) :
    Calls Try.prog 20 #[k.v, .int .i64 now] w fun e w' => e = .returned (.tuple #[(fiK k now).v, .bool (canFill k now)]) ∧ Below w.heap.size w w' := by
  cases h : canFill k now
  · have hz : fiK k now = Bk.zero := by simp [fiK, h]
    have HZ := Lib.hid hz; clear hz
    have HC := Lib.hid (l19Asked_any k now); have H := Lib.hid h; clear h
    obtain ⟨n, d, b, l, t⟩ := k
    go_enter Try.func20, Try.ntmps20
    go_wp2_with fail
    refine (HC.out _).mono ?_
    rintro e w1 ⟨rfl, hb⟩
    rw [H.out]
    have kh := ((hb.block w.heap.size (by simp <;> omega)).trans (heap_alloc2_old w _ _)); have k0 := cell_of_row w1 (w.heap.size) 0 _ _ _ kh; simp at k0; have kf0 := frozen_of_row w1 (w.heap.size) 0 _ _ kh; have k1 := cell_of_row w1 (w.heap.size) 1 _ _ _ kh; simp at k1; have kf1 := frozen_of_row w1 (w.heap.size) 1 _ _ kh; have k2 := cell_of_row w1 (w.heap.size) 2 _ _ _ kh; simp at k2; have kf2 := frozen_of_row w1 (w.heap.size) 2 _ _ kh; have k3 := cell_of_row w1 (w.heap.size) 3 _ _ _ kh; simp at k3; have kf3 := frozen_of_row w1 (w.heap.size) 3 _ _ kh; have k4 := cell_of_row w1 (w.heap.size) 4 _ _ _ kh; simp at k4; have kf4 := frozen_of_row w1 (w.heap.size) 4 _ _ kh; clear kh
    have jh := ((hb.block (w.heap.size + 1) (by simp <;> omega)).trans (heap_alloc2_new w _ _)); have j0 := cell_of_row w1 (w.heap.size + 1) 0 _ _ _ jh; simp at j0; have jf0 := frozen_of_row w1 (w.heap.size + 1) 0 _ _ jh; have j1 := cell_of_row w1 (w.heap.size + 1) 1 _ _ _ jh; simp at j1; have jf1 := frozen_of_row w1 (w.heap.size + 1) 1 _ _ jh; have j2 := cell_of_row w1 (w.heap.size + 1) 2 _ _ _ jh; simp at j2; have jf2 := frozen_of_row w1 (w.heap.size + 1) 2 _ _ jh; have j3 := cell_of_row w1 (w.heap.size + 1) 3 _ _ _ jh; simp at j3; have jf3 := frozen_of_row w1 (w.heap.size + 1) 3 _ _ jh; have j4 := cell_of_row w1 (w.heap.size + 1) 4 _ _ _ jh; simp at j4; have jf4 := frozen_of_row w1 (w.heap.size + 1) 4 _ _ jh; clear jh
    have HBel := Lib.hid hb; clear hb
    go_wp2
    refine bodyPost_ret (v := (.tuple #[.agg #[.int .i64 0, .int .i64 0, .int .i64 0, .int .i64 0, .int .i64 0], .bool false])) (by simp [results, Try.results20, go_sem, *]) rfl ?_
    exact ⟨by rw [HZ.out]; rfl, (((((Below.trans (by go_grown) (HBel.out.mono (by simp <;> omega))).setCell (by simp) _).setCell (by simp) _).setCell (by simp) _).setCell (by simp) _).setCell (by simp) _⟩
  · have hz : fiK k now = k.fill now := by simp [fiK, h]
    have HZ := Lib.hid hz; clear hz
    have HC := Lib.hid (l19Asked_any k now); have H := Lib.hid h
    have HF := Lib.hid (fun w => l19Fill_any k now w h); clear h
    obtain ⟨n, d, b, l, t⟩ := k
    go_enter Try.func20, Try.ntmps20
    go_wp2_with fail
    refine (HC.out _).mono ?_
    rintro e w1 ⟨rfl, hb⟩
    rw [H.out]
    have kh := ((hb.block w.heap.size (by simp <;> omega)).trans (heap_alloc2_old w _ _)); have k0 := cell_of_row w1 (w.heap.size) 0 _ _ _ kh; simp at k0; have kf0 := frozen_of_row w1 (w.heap.size) 0 _ _ kh; have k1 := cell_of_row w1 (w.heap.size) 1 _ _ _ kh; simp at k1; have kf1 := frozen_of_row w1 (w.heap.size) 1 _ _ kh; have k2 := cell_of_row w1 (w.heap.size) 2 _ _ _ kh; simp at k2; have kf2 := frozen_of_row w1 (w.heap.size) 2 _ _ kh; have k3 := cell_of_row w1 (w.heap.size) 3 _ _ _ kh; simp at k3; have kf3 := frozen_of_row w1 (w.heap.size) 3 _ _ kh; have k4 := cell_of_row w1 (w.heap.size) 4 _ _ _ kh; simp at k4; have kf4 := frozen_of_row w1 (w.heap.size) 4 _ _ kh; clear kh
    have hj := (hb.block (w.heap.size + 1) (by simp <;> omega)).trans (heap_alloc2_new w _ _)
    have HJ := Lib.hid hj; clear hj
    have hlt : w.heap.size + 1 < w1.heap.size := by have := hb.size; simp at this; omega
    have HBel := Lib.hid hb; clear hb
    go_wp2_with fail
    refine (HF.out _).mono ?_
    rintro e w2 ⟨rfl, hb2⟩
    have jh := ((hb2.block (w.heap.size + 1) hlt).trans HJ.out); have j0 := cell_of_row w2 (w.heap.size + 1) 0 _ _ _ jh; simp at j0; have jf0 := frozen_of_row w2 (w.heap.size + 1) 0 _ _ jh; have j1 := cell_of_row w2 (w.heap.size + 1) 1 _ _ _ jh; simp at j1; have jf1 := frozen_of_row w2 (w.heap.size + 1) 1 _ _ jh; have j2 := cell_of_row w2 (w.heap.size + 1) 2 _ _ _ jh; simp at j2; have jf2 := frozen_of_row w2 (w.heap.size + 1) 2 _ _ jh; have j3 := cell_of_row w2 (w.heap.size + 1) 3 _ _ _ jh; simp at j3; have jf3 := frozen_of_row w2 (w.heap.size + 1) 3 _ _ jh; have j4 := cell_of_row w2 (w.heap.size + 1) 4 _ _ _ jh; simp at j4; have jf4 := frozen_of_row w2 (w.heap.size + 1) 4 _ _ jh; clear jh
    have HB2 := Lib.hid hb2; clear hb2
    go_wp2
    refine bodyPost_ret (v := (.tuple #[(Bk.fill ⟨n, d, b, l, t⟩ now).v, .bool true])) (by simp [results, Try.results20, go_sem, *]) rfl ?_
    exact ⟨by rw [HZ.out], ((((((Below.trans (by go_grown) (HBel.out.mono (by simp <;> omega))).trans (HB2.out.mono (by omega))).setCell (by simp) _).setCell (by simp) _).setCell (by simp) _).setCell (by simp) _).setCell (by simp) _⟩

theorem size_wf {k : Bk} {now s : Int} (h : canFill k now = true) (h0 : 0 ≤ s) (h1 : s ≤ 1000) : 0 ≤ s * k.d ∧ s * k.d ≤ 100000 := by
  simp only [canFill, Bool.and_eq_true, bkB_iff, inR_true] at h
  exact prod_bound s k.d 1000 100 h0 h1 (by omega) (by omega)

set_option maxHeartbeats 4000000 in
theorem take_any (k : Bk) (now s : Int) (w : World) (h : canFill k now = true) (h0 : 0 ≤ s) (h1 : s ≤ 1000) :
    Calls Try.prog 64 #[k.v, .int .i64 now, .int .i64 s] w fun e w' => e = .returned (.tuple #[.agg #[.int .i64 k.n, .int .i64 k.d, .int .i64 k.b, .int .i64 (k.take now s).l, .int .i64 now], .bool (k.fits now s)]) ∧ Below w.heap.size w w' := by
  have hb := fill_bound h
  obtain ⟨l1, l2, l3, _, _⟩ := hb
  obtain ⟨s1, s2⟩ := size_wf h h0 h1
  have HF := Lib.hid (fun w => filled_ex k now w h); clear h
  obtain ⟨n, d, b, l, t⟩ := k
  go_enter Try.func64, Try.ntmps64
  go_wp2_with fail
  refine (HF.out _).mono ?_
  rintro e w1 ⟨rfl, rfl⟩
  go_wp2_with fail
  go_region
  go_wp2
  go_returns
  exact ⟨rfl, by go_grown⟩

/-- the field Level of a bucket that lies in no memory -/
theorem field_level (n d b l t : Int) (w : World) : Sem.run Try.prog (Instr.field 25 (.agg #[.int .i64 n, .int .i64 d, .int .i64 b, .int .i64 l, .int .i64 t]) 3) w = .ok (.int .i64 l) w := by kernel_rfl
set_option maxRecDepth 100000 in
set_option maxHeartbeats 4000000 in
theorem wait_any (k : Bk) (x : Ld) (w : World) (h : canFill k x.t = true) (hx : ldB x = true) :
    Calls Try.prog 63 #[k.v, x.v] w fun e w' => e = .returned (.tuple #[.int .i64 (k.waitT x), .bool (k.waitB x)]) ∧ Below w.heap.size w w' := by
  have hb := fill_bound h
  obtain ⟨l1, l2, l3, _, _⟩ := hb
  rw [ldB_iff] at hx
  obtain ⟨⟨t1, t2⟩, z1, z2⟩ := hx
  obtain ⟨s1, s2⟩ := size_wf h (s := x.s) (by omega) z2
  have h' := h
  simp only [canFill, Bool.and_eq_true, bkB_iff, inR_true] at h'
  obtain ⟨⟨⟨a1, a2⟩, _, _, _, _⟩, _, _⟩ := h'
  have HW := Lib.hid (wait_trunc (x.s * k.d - (k.fill x.t).l) k.n a1)
  have hw0 : 0 ≤ k.waitT x ∧ k.waitT x ≤ 101000 := by
    have e1 := ceil_nonneg (max 0 (x.s * k.d - (k.fill x.t).l)) k.n a1 (by omega)
    have e2 := ceil_le (max 0 (x.s * k.d - (k.fill x.t).l)) k.n a1 (by omega)
    exact ⟨e1, by show (max 0 (x.s * k.d - (k.fill x.t).l) + k.n - 1) / k.n ≤ _; omega⟩
  obtain ⟨w1, w2⟩ := hw0
  have HF := Lib.hid (fun w => filled_ex k x.t w h); clear h
  obtain ⟨n, d, b, l, t⟩ := k
  obtain ⟨xt, xs⟩ := x
  simp only at l1 l2 l3 t1 t2 z1 z2 s1 s2 a1 a2
  have hfd := field_level
  go_enter Try.func63, Try.ntmps63
  go_wp2_with fail
  go_region_held3 (fun w' => w'.cell? ⟨w.heap.size, 0, none⟩ = some (.int .i64 n) ∧ w'.cell? ⟨w.heap.size, 1, none⟩ = some (.int .i64 d) ∧ w'.cell? ⟨w.heap.size, 2, none⟩ = some (.int .i64 b) ∧ w'.cell? ⟨w.heap.size, 3, none⟩ = some (.int .i64 l) ∧ w'.cell? ⟨w.heap.size, 4, none⟩ = some (.int .i64 t) ∧
      w'.cell? ⟨w.heap.size + 1, 0, none⟩ = some (.int .i64 xt) ∧ w'.cell? ⟨w.heap.size + 1, 1, none⟩ = some (.int .i64 xs)) (go_keep)
    (first | (go_at_call 56; refine (HF.out _).mono ?_; rintro e w' ⟨rfl, rfl⟩))
  go_wp2_with fail
  all_goals
    have hcase : max 0 ((xs * d - (Bk.fill ⟨n, d, b, l, t⟩ xt).l + n - 1).tdiv n) = Bk.waitT ⟨n, d, b, l, t⟩ ⟨xt, xs⟩ := HW.out
    have HC := Lib.hid hcase; clear hcase
  · have e7 : (xs * d - (Bk.fill ⟨n, d, b, l, t⟩ xt).l + n - 1).tdiv n = Bk.waitT ⟨n, d, b, l, t⟩ ⟨xt, xs⟩ := by rw [← HC.out]; omega
    rw [e7]
    clear e7
    by_cases hs : xs ≤ b
    · by_cases ht : xt + Bk.waitT ⟨n, d, b, l, t⟩ ⟨xt, xs⟩ ≤ 10000
      · go_quiet (fail)
        go_wp2
        go_ret2
        exact ⟨by simp [Bk.waitB, hs, ht], by first | exact below_drewN (by go_grown) _ | go_grown⟩
      · go_quiet (fail)
        go_wp2
        go_ret2
        exact ⟨by simp [Bk.waitB, hs, ht], by first | exact below_drewN (by go_grown) _ | go_grown⟩
    · have hd : decide (xs ≤ b) = false := by simpa using hs
      go_quiet (fail)
      go_wp2
      go_ret2
      exact ⟨by simp [Bk.waitB]; omega, by first | exact below_drewN (by go_grown) _ | go_grown⟩
  · have e7 : Bk.waitT ⟨n, d, b, l, t⟩ ⟨xt, xs⟩ = 0 := by rw [← HC.out]; omega
    have HE := Lib.hid e7; clear e7
    by_cases hs : xs ≤ b
    · have ht : xt ≤ 10000 := t2
      go_quiet (fail)
      go_wp2
      go_ret2
      exact ⟨by simp [Bk.waitB, HE.out, hs, ht], by first | exact below_drewN (by go_grown) _ | go_grown⟩
    · have hd : decide (xs ≤ b) = false := by simpa using hs
      go_quiet (fail)
      go_wp2
      go_ret2
      exact ⟨by simp [Bk.waitB, HE.out]; omega, by first | exact below_drewN (by go_grown) _ | go_grown⟩
end Go.Proofs.Ytgiigcpodinpoaa
