/- Contracts of filling, taking and waiting on one bucket: for all arguments of the public functions; the helpers where their callers have tested. -/
import Derived.Test.YtgmccafmopgjaaaRate2
import Derived.Deep.RegionHeld3
namespace Go.Proofs.Ytgmccafmopgjaaa
open Go.RowKit

/-- the block that a bucket lies in -/
abbrev Bk.o (k : Bk) : Obj := .cells #[.int .i64 k.n, .int .i64 k.d, .int .i64 k.b, .int .i64 k.l, .int .i64 k.t] 45

theorem filled_ex (k : Bk) (now : Int) (w : World) (h : canFill k now = true) :
    Calls Try.prog 79 #[k.v, .int .i64 now] w fun e w' => e = .returned (.agg #[.int .i64 k.n, .int .i64 k.d, .int .i64 k.b, .int .i64 (k.fill now).l, .int .i64 now]) ∧ (w.alloc (k.fill now).o).alloc (k.fill now).o = w' := by
  have hw := fill_wf h
  clear h
  obtain ⟨n, d, b, l, t⟩ := k
  obtain ⟨⟨l1, l2⟩, ⟨t1, t2⟩, ⟨p1, p2⟩, q1, q2⟩ := hw
  simp only at l1 l2 t1 t2 p1 p2 q1 q2
  go_enter Try.func79, Try.ntmps79
  go_wp2
  · go_returns
    have e : min (l + (now - t) * n) (b * d) = b * d := by omega
    exact ⟨by simp [Bk.fill, e], by simp [Bk.fill, e]⟩
  · go_returns
    have e : min (l + (now - t) * n) (b * d) = l + (now - t) * n := by omega
    exact ⟨by simp [Bk.fill, e], by simp [Bk.fill, e]⟩
theorem l19Fill_ex (k : Bk) (now : Int) (w : World) (h : canFill k now = true) :
    Calls Try.prog 83 #[k.v, .int .i64 now] w fun e w' => e = .returned (.agg #[.int .i64 k.n, .int .i64 k.d, .int .i64 k.b, .int .i64 (k.fill now).l, .int .i64 now]) ∧ (w.alloc k.o).alloc (k.fill now).o = w' := by
  have hw := fill_wf h
  clear h
  obtain ⟨n, d, b, l, t⟩ := k
  obtain ⟨⟨l1, l2⟩, ⟨t1, t2⟩, ⟨p1, p2⟩, q1, q2⟩ := hw
  simp only at l1 l2 t1 t2 p1 p2 q1 q2
  go_enter Try.func83, Try.ntmps83
  go_wp2_with ((go_at_call 76; refine (l1Least_any _ _ _).mono ?_; rintro e w' ⟨rfl, rfl⟩))
  go_returns
  exact ⟨by simp [Bk.fill], by simp [Bk.fill]⟩

theorem isLoad_any (x : Ld) (w : World) :
    Calls Try.prog 88 #[x.v] w fun e w' => e = .returned (.bool (ldB x)) ∧ Below w.heap.size w w' := by
  obtain ⟨t, s⟩ := x
  cases h1 : inR t 0 10000
  · go_enter Try.func88, Try.ntmps88
    go_wp2_with (first | (go_at_call 38; refine (within_any _ _ _ _).mono ?_; rintro e w' ⟨rfl, rfl⟩) | (go_at_call 72; refine (isTick_any _ _).mono ?_; rintro e w' ⟨rfl, rfl⟩))
    go_ret
    exact ⟨by simp [ldB, h1], by go_grown⟩
  · go_enter Try.func88, Try.ntmps88
    go_wp2_with (first | (go_at_call 38; refine (within_any _ _ _ _).mono ?_; rintro e w' ⟨rfl, rfl⟩) | (go_at_call 72; refine (isTick_any _ _).mono ?_; rintro e w' ⟨rfl, rfl⟩))
    go_ret
    exact ⟨by simp [ldB, h1], by go_grown⟩
theorem l19Load_any (x : Ld) (w : World) :
    Calls Try.prog 81 #[x.v] w fun e w' => e = .returned (.bool (ldB x)) ∧ Below w.heap.size w w' := by
  obtain ⟨t, s⟩ := x
  cases h1 : inR t 0 10000
  · go_enter Try.func81, Try.ntmps81
    go_wp2_with (first | (go_at_call 71; refine (l1In_any _ _ _ _).mono ?_; rintro e w' ⟨rfl, rfl⟩) | (go_at_call 84; refine (l8Tick_any _ _).mono ?_; rintro e w' ⟨rfl, rfl⟩))
    go_ret
    exact ⟨by simp [ldB, h1], by go_grown⟩
  · go_enter Try.func81, Try.ntmps81
    go_wp2_with (first | (go_at_call 71; refine (l1In_any _ _ _ _).mono ?_; rintro e w' ⟨rfl, rfl⟩) | (go_at_call 84; refine (l8Tick_any _ _).mono ?_; rintro e w' ⟨rfl, rfl⟩))
    go_ret
    exact ⟨by simp [ldB, h1], by go_grown⟩

def fiK (k : Bk) (now : Int) : Bk := if canFill k now = true then k.fill now else Bk.zero


theorem size_wf {k : Bk} {now s : Int} (h : canFill k now = true) (h0 : 0 ≤ s) (h1 : s ≤ 1000) : 0 ≤ s * k.d ∧ s * k.d ≤ 100000 := by
  simp only [canFill, Bool.and_eq_true, bkB_iff, inR_true] at h
  exact prod_bound s k.d 1000 100 h0 h1 (by omega) (by omega)

set_option maxHeartbeats 4000000 in
theorem take_any (k : Bk) (now s : Int) (w : World) (h : canFill k now = true) (h0 : 0 ≤ s) (h1 : s ≤ 1000) :
    Calls Try.prog 60 #[k.v, .int .i64 now, .int .i64 s] w fun e w' => e = .returned (.tuple #[.agg #[.int .i64 k.n, .int .i64 k.d, .int .i64 k.b, .int .i64 (k.take now s).l, .int .i64 now], .bool (k.fits now s)]) ∧ Below w.heap.size w w' := by
  have hb := fill_bound h
  obtain ⟨l1, l2, l3, _, _⟩ := hb
  obtain ⟨s1, s2⟩ := size_wf h h0 h1
  have HF := Lib.hid (fun w => filled_ex k now w h); clear h
  obtain ⟨n, d, b, l, t⟩ := k
  go_enter Try.func60, Try.ntmps60
  go_wp2_with fail
  refine (HF.out _).mono ?_
  rintro e w1 ⟨rfl, rfl⟩
  go_wp2_with fail
  go_region
  go_wp2
  go_returns
  exact ⟨rfl, by go_grown⟩

/-- the field Level of a bucket that lies in no memory -/
theorem field_level (n d b l t : Int) (w : World) : Sem.run Try.prog (Instr.field 45 (.agg #[.int .i64 n, .int .i64 d, .int .i64 b, .int .i64 l, .int .i64 t]) 3) w = .ok (.int .i64 l) w := by kernel_rfl
set_option maxRecDepth 100000 in
set_option maxHeartbeats 4000000 in
theorem wait_any (k : Bk) (x : Ld) (w : World) (h : canFill k x.t = true) (hx : ldB x = true) :
    Calls Try.prog 59 #[k.v, x.v] w fun e w' => e = .returned (.tuple #[.int .i64 (k.waitT x), .bool (k.waitB x)]) ∧ Below w.heap.size w w' := by
  have hb := fill_bound h
  obtain ⟨l1, l2, l3, _, _⟩ := hb
  rw [ldB_iff] at hx
  obtain ⟨⟨t1, t2⟩, z1, z2⟩ := hx
  obtain ⟨s1, s2⟩ := size_wf h (s := x.s) (by omega) z2
  have h' := h
  simp only [canFill, Bool.and_eq_true, bkB_iff, inR_true] at h'
  obtain ⟨⟨⟨a1, a2⟩, _, _, _, _⟩, _, _⟩ := h'
  have HW := Lib.hid (wait_trunc (x.s * k.d - (k.fill x.t).l) k.n a1)
  have hw0 : 0 ≤ k.waitT x ∧ k.waitT x ≤ 101000 := by
    have e1 := ceil_nonneg (max 0 (x.s * k.d - (k.fill x.t).l)) k.n a1 (by omega)
    have e2 := ceil_le (max 0 (x.s * k.d - (k.fill x.t).l)) k.n a1 (by omega)
    exact ⟨e1, by show (max 0 (x.s * k.d - (k.fill x.t).l) + k.n - 1) / k.n ≤ _; omega⟩
  obtain ⟨w1, w2⟩ := hw0
  have HF := Lib.hid (fun w => filled_ex k x.t w h); clear h
  obtain ⟨n, d, b, l, t⟩ := k
  obtain ⟨xt, xs⟩ := x
  simp only at l1 l2 l3 t1 t2 z1 z2 s1 s2 a1 a2
  have hfd := field_level
  go_enter Try.func59, Try.ntmps59
  go_wp2_with fail
  go_region_held3 (fun w' => w'.cell? ⟨w.heap.size, 0, none⟩ = some (.int .i64 n) ∧ w'.cell? ⟨w.heap.size, 1, none⟩ = some (.int .i64 d) ∧ w'.cell? ⟨w.heap.size, 2, none⟩ = some (.int .i64 b) ∧ w'.cell? ⟨w.heap.size, 3, none⟩ = some (.int .i64 l) ∧ w'.cell? ⟨w.heap.size, 4, none⟩ = some (.int .i64 t) ∧
      w'.cell? ⟨w.heap.size + 1, 0, none⟩ = some (.int .i64 xt) ∧ w'.cell? ⟨w.heap.size + 1, 1, none⟩ = some (.int .i64 xs)) (go_keep)
    (first | (go_at_call 79; refine (HF.out _).mono ?_; rintro e w' ⟨rfl, rfl⟩))
  go_wp2_with fail
  all_goals
    have hcase : max 0 ((xs * d - (Bk.fill ⟨n, d, b, l, t⟩ xt).l + n - 1).tdiv n) = Bk.waitT ⟨n, d, b, l, t⟩ ⟨xt, xs⟩ := HW.out
    have HC := Lib.hid hcase; clear hcase
  · have e7 : (xs * d - (Bk.fill ⟨n, d, b, l, t⟩ xt).l + n - 1).tdiv n = Bk.waitT ⟨n, d, b, l, t⟩ ⟨xt, xs⟩ := by rw [← HC.out]; omega
    rw [e7]
    clear e7
    by_cases hs : xs ≤ b
    · by_cases ht : xt + Bk.waitT ⟨n, d, b, l, t⟩ ⟨xt, xs⟩ ≤ 10000
      · go_quiet (fail)
        go_wp2
        go_ret2
        exact ⟨by simp [Bk.waitB, hs, ht], by first | exact below_drewN (by go_grown) _ | go_grown⟩
      · go_quiet (fail)
        go_wp2
        go_ret2
        exact ⟨by simp [Bk.waitB, hs, ht], by first | exact below_drewN (by go_grown) _ | go_grown⟩
    · have hd : decide (xs ≤ b) = false := by simpa using hs
      go_quiet (fail)
      go_wp2
      go_ret2
      exact ⟨by simp [Bk.waitB]; omega, by first | exact below_drewN (by go_grown) _ | go_grown⟩
  · have e7 : Bk.waitT ⟨n, d, b, l, t⟩ ⟨xt, xs⟩ = 0 := by rw [← HC.out]; omega
    have HE := Lib.hid e7; clear e7
    by_cases hs : xs ≤ b
    · have ht : xt ≤ 10000 := t2
      go_quiet (fail)
      go_wp2
      go_ret2
      exact ⟨by simp [Bk.waitB, HE.out, hs, ht], by first | exact below_drewN (by go_grown) _ | go_grown⟩
    · have hd : decide (xs ≤ b) = false := by simpa using hs
      go_quiet (fail)
      go_wp2
      go_ret2
      exact ⟨by simp [Bk.waitB, HE.out]; omega, by first | exact below_drewN (by go_grown) _ | go_grown⟩
end Go.Proofs.Ytgmccafmopgjaaa
