/- Contracts of the functions that make a bucket. Conditions: where a product must not wrap, the bucket's ranges. -/
import Derived.Test.YtgmccafmopgjaaaRate1
namespace Go.Proofs.Ytgmccafmopgjaaa
open Go.RowKit


def fbB (n d b : Int) : Bool := inR n 1 1000 && inR d 1 100 && inR b 1 1000
def fbK (n d b : Int) : Bk := if fbB n d b = true then ⟨n, d, b, b * d, 0⟩ else Bk.zero

set_option maxHeartbeats 1000000 in
theorem implFull_any (n d b : Int) (w : World) :
    Calls Try.prog 29 #[.int .i64 n, .int .i64 d, .int .i64 b] w fun e w' => e = .returned (.tuple #[(fbK n d b).v, .bool (fbB n d b)]) ∧ Below w.heap.size w w' := by
  cases h1 : inR n 1 1000
  · have hB : fbB n d b = false := by simp [fbB, h1]
    go_enter Try.func29, Try.ntmps29
    go_wp2_with ((go_at_call 38; refine (within_any _ _ _ _).mono ?_; rintro e w' ⟨rfl, rfl⟩))
    go_returns
    exact ⟨by simp [fbK, hB, Bk.zero], by go_grown⟩
  · cases h2 : inR d 1 100
    · have hB : fbB n d b = false := by simp [fbB, h2]
      go_enter Try.func29, Try.ntmps29
      go_wp2_with ((go_at_call 38; refine (within_any _ _ _ _).mono ?_; rintro e w' ⟨rfl, rfl⟩))
      go_returns
      exact ⟨by simp [fbK, hB, Bk.zero], by go_grown⟩
    · cases h3 : inR b 1 1000
      · have hB : fbB n d b = false := by simp [fbB, h3]
        go_enter Try.func29, Try.ntmps29
        go_wp2_with ((go_at_call 38; refine (within_any _ _ _ _).mono ?_; rintro e w' ⟨rfl, rfl⟩))
        go_returns
        exact ⟨by simp [fbK, hB, Bk.zero], by go_grown⟩
      · have hB : fbB n d b = true := by simp [fbB, h1, h2, h3]
        have HB := Lib.hid hB; clear hB
        obtain ⟨a1, a2⟩ := inR_true.1 h2
        obtain ⟨b1, b2⟩ := inR_true.1 h3
        obtain ⟨c1, c2⟩ := prod_bound b d 1000 100 (by omega) b2 (by omega) a2
        go_enter Try.func29, Try.ntmps29
        go_wp2_with ((go_at_call 38; refine (within_any _ _ _ _).mono ?_; rintro e w' ⟨rfl, rfl⟩))
        go_returns
        exact ⟨by simp [fbK, HB.out], by go_grown⟩

theorem fill_wf {k : Bk} {now : Int} (h : canFill k now = true) : (0 ≤ k.l ∧ k.l ≤ 100000) ∧ (0 ≤ now - k.t ∧ now - k.t ≤ 10000) ∧ (0 ≤ (now - k.t) * k.n ∧ (now - k.t) * k.n ≤ 10000000) ∧ 0 ≤ k.b * k.d ∧ k.b * k.d ≤ 100000 := by
  have hb := fill_bound h
  simp only [canFill, Bool.and_eq_true, bkB_iff, inR_true] at h
  omega

theorem filled_any (k : Bk) (now : Int) (w : World) (h : canFill k now = true) :
    Calls Try.prog 79 #[k.v, .int .i64 now] w fun e w' => e = .returned (k.fill now).v ∧ Below w.heap.size w w' := by
  have hw := fill_wf h
  clear h
  obtain ⟨n, d, b, l, t⟩ := k
  obtain ⟨⟨l1, l2⟩, ⟨t1, t2⟩, ⟨p1, p2⟩, q1, q2⟩ := hw
  simp only at l1 l2 t1 t2 p1 p2 q1 q2
  go_enter Try.func79, Try.ntmps79
  go_wp2
  all_goals
    go_returns
    exact ⟨by simp [Bk.fill]; omega, by go_grown⟩

theorem l1Least_any (a b : Int) (w : World) :
    Calls Try.prog 76 #[.int .i64 a, .int .i64 b] w fun e w' => e = .returned (.int .i64 (min a b)) ∧ w = w' := by
  by_cases h : a < b
  · go_enter Try.func76, Try.ntmps76
    go_wp2
    go_ret
    exact ⟨ret_int (by omega), rfl⟩
  · go_enter Try.func76, Try.ntmps76
    go_wp2
    go_ret
    exact ⟨ret_int (by omega), rfl⟩
theorem l1Most_any (a b : Int) (w : World) :
    Calls Try.prog 62 #[.int .i64 a, .int .i64 b] w fun e w' => e = .returned (.int .i64 (max a b)) ∧ w = w' := by
  by_cases h : b < a
  · go_enter Try.func62, Try.ntmps62
    go_wp2
    go_ret
    exact ⟨ret_int (by omega), rfl⟩
  · go_enter Try.func62, Try.ntmps62
    go_wp2
    go_ret
    exact ⟨ret_int (by omega), rfl⟩
theorem l19Fill_any (k : Bk) (now : Int) (w : World) (h : canFill k now = true) :
    Calls Try.prog 83 #[k.v, .int .i64 now] w fun e w' => e = .returned (k.fill now).v ∧ Below w.heap.size w w' := by
  have hw := fill_wf h
  clear h
  obtain ⟨n, d, b, l, t⟩ := k
  obtain ⟨⟨l1, l2⟩, ⟨t1, t2⟩, ⟨p1, p2⟩, q1, q2⟩ := hw
  simp only at l1 l2 t1 t2 p1 p2 q1 q2
  go_enter Try.func83, Try.ntmps83
  go_wp2_with ((go_at_call 76; refine (l1Least_any _ _ _).mono ?_; rintro e w' ⟨rfl, rfl⟩))
  go_returns
  exact ⟨by simp [Bk.fill], by go_grown⟩
theorem l19Asked_any (k : Bk) (now : Int) (w : World) :
    Calls Try.prog 82 #[k.v, .int .i64 now] w fun e w' => e = .returned (.bool (canFill k now)) ∧ Below w.heap.size w w' := by
  cases h1 : bkB k
  · obtain ⟨n, d, b, l, t⟩ := k
    go_enter Try.func82, Try.ntmps82
    go_wp2_with fail
    refine (l19Good_any ⟨n, d, b, l, t⟩ _).mono ?_
    rintro e w1 ⟨rfl, hb⟩
    obtain ⟨hc, hf⟩ := bcell hb
    go_wp2_with ((go_at_call 71; refine (l1In_any _ _ _ _).mono ?_; rintro e w' ⟨rfl, rfl⟩))
    go_ret
    exact ⟨by simp [canFill, h1], (below_alloc1 _ _).trans (hb.mono (by simp))⟩
  · obtain ⟨n, d, b, l, t⟩ := k
    go_enter Try.func82, Try.ntmps82
    go_wp2_with fail
    refine (l19Good_any ⟨n, d, b, l, t⟩ _).mono ?_
    rintro e w1 ⟨rfl, hb⟩
    obtain ⟨hc, hf⟩ := bcell hb
    go_wp2_with ((go_at_call 71; refine (l1In_any _ _ _ _).mono ?_; rintro e w' ⟨rfl, rfl⟩))
    go_ret
    exact ⟨by simp [canFill, h1], (below_alloc1 _ _).trans (hb.mono (by simp))⟩

theorem fb_good (n d b : Int) : bkB ⟨n, d, b, wrap64 (b * d), 0⟩ = fbB n d b := by
  cases h : fbB n d b
  · cases h' : bkB ⟨n, d, b, wrap64 (b * d), 0⟩
    · rfl
    · rw [bkB_iff] at h'
      simp only at h'
      have : fbB n d b = true := by simp only [fbB, Bool.and_eq_true, inR_true]; omega
      rw [h] at this; cases this
  · rw [bkB_iff]
    simp only [fbB, Bool.and_eq_true, inR_true] at h
    have c := prod_bound b d 1000 100 (by omega) (by omega) (by omega) (by omega)
    rw [IntWalk.wrap64_in _ (by omega)]
    simp only
    omega
theorem fb_level {n d b : Int} (h : fbB n d b = true) : wrap64 (b * d) = b * d := by
  simp only [fbB, Bool.and_eq_true, inR_true] at h
  have c := prod_bound b d 1000 100 (by omega) (by omega) (by omega) (by omega)
  exact IntWalk.wrap64_in _ (by omega)

set_option maxHeartbeats 1000000 in
theorem specFull_any (n d b : Int) (w : World) :
    Calls Try.prog 69 #[.int .i64 n, .int .i64 d, .int .i64 b] w fun e w' => e = .returned (.tuple #[(fbK n d b).v, .bool (fbB n d b)]) ∧ Below w.heap.size w w' := by
  have HG := Lib.hid (fb_good n d b)
  cases hB : fbB n d b
  · go_enter Try.func69, Try.ntmps69
    go_wp2_with fail
    refine (l19Good_any ⟨n, d, b, wrap64 (b * d), 0⟩ _).mono ?_
    rintro e w1 ⟨rfl, hb⟩
    have kh := ((hb.block w.heap.size (by simp <;> omega)).trans (heap_alloc2_old w _ _)); have k0 := cell_of_row w1 (w.heap.size) 0 _ _ _ kh; simp at k0; have kf0 := frozen_of_row w1 (w.heap.size) 0 _ _ kh; have k1 := cell_of_row w1 (w.heap.size) 1 _ _ _ kh; simp at k1; have kf1 := frozen_of_row w1 (w.heap.size) 1 _ _ kh; have k2 := cell_of_row w1 (w.heap.size) 2 _ _ _ kh; simp at k2; have kf2 := frozen_of_row w1 (w.heap.size) 2 _ _ kh; have k3 := cell_of_row w1 (w.heap.size) 3 _ _ _ kh; simp at k3; have kf3 := frozen_of_row w1 (w.heap.size) 3 _ _ kh; have k4 := cell_of_row w1 (w.heap.size) 4 _ _ _ kh; simp at k4; have kf4 := frozen_of_row w1 (w.heap.size) 4 _ _ kh; clear kh
    have jh := ((hb.block (w.heap.size + 1) (by simp <;> omega)).trans (heap_alloc2_new w _ _)); have j0 := cell_of_row w1 (w.heap.size + 1) 0 _ _ _ jh; simp at j0; have jf0 := frozen_of_row w1 (w.heap.size + 1) 0 _ _ jh; have j1 := cell_of_row w1 (w.heap.size + 1) 1 _ _ _ jh; simp at j1; have jf1 := frozen_of_row w1 (w.heap.size + 1) 1 _ _ jh; have j2 := cell_of_row w1 (w.heap.size + 1) 2 _ _ _ jh; simp at j2; have jf2 := frozen_of_row w1 (w.heap.size + 1) 2 _ _ jh; have j3 := cell_of_row w1 (w.heap.size + 1) 3 _ _ _ jh; simp at j3; have jf3 := frozen_of_row w1 (w.heap.size + 1) 3 _ _ jh; have j4 := cell_of_row w1 (w.heap.size + 1) 4 _ _ _ jh; simp at j4; have jf4 := frozen_of_row w1 (w.heap.size + 1) 4 _ _ jh; clear jh
    have hs := hb.size
    simp at hs
    have HBel := Lib.hid hb; clear hb
    rw [HG.out, hB]
    go_wp2
    refine bodyPost_ret (v := (.tuple #[.agg #[.int .i64 0, .int .i64 0, .int .i64 0, .int .i64 0, .int .i64 0], .bool false])) (by simp [results, Try.results69, go_sem, *]) rfl ?_
    exact ⟨by simp [fbK, hB, Bk.zero], (((((Below.trans (by go_grown) (HBel.out.mono (by simp <;> omega))).setCell (by simp) _).setCell (by simp) _).setCell (by simp) _).setCell (by simp) _).setCell (by simp) _⟩
  · have HL := Lib.hid (fb_level hB)
    go_enter Try.func69, Try.ntmps69
    go_wp2_with fail
    refine (l19Good_any ⟨n, d, b, wrap64 (b * d), 0⟩ _).mono ?_
    rintro e w1 ⟨rfl, hb⟩
    have kh := ((hb.block w.heap.size (by simp <;> omega)).trans (heap_alloc2_old w _ _)); have k0 := cell_of_row w1 (w.heap.size) 0 _ _ _ kh; simp at k0; have kf0 := frozen_of_row w1 (w.heap.size) 0 _ _ kh; have k1 := cell_of_row w1 (w.heap.size) 1 _ _ _ kh; simp at k1; have kf1 := frozen_of_row w1 (w.heap.size) 1 _ _ kh; have k2 := cell_of_row w1 (w.heap.size) 2 _ _ _ kh; simp at k2; have kf2 := frozen_of_row w1 (w.heap.size) 2 _ _ kh; have k3 := cell_of_row w1 (w.heap.size) 3 _ _ _ kh; simp at k3; have kf3 := frozen_of_row w1 (w.heap.size) 3 _ _ kh; have k4 := cell_of_row w1 (w.heap.size) 4 _ _ _ kh; simp at k4; have kf4 := frozen_of_row w1 (w.heap.size) 4 _ _ kh; clear kh
    have jh := ((hb.block (w.heap.size + 1) (by simp <;> omega)).trans (heap_alloc2_new w _ _)); have j0 := cell_of_row w1 (w.heap.size + 1) 0 _ _ _ jh; simp at j0; have jf0 := frozen_of_row w1 (w.heap.size + 1) 0 _ _ jh; have j1 := cell_of_row w1 (w.heap.size + 1) 1 _ _ _ jh; simp at j1; have jf1 := frozen_of_row w1 (w.heap.size + 1) 1 _ _ jh; have j2 := cell_of_row w1 (w.heap.size + 1) 2 _ _ _ jh; simp at j2; have jf2 := frozen_of_row w1 (w.heap.size + 1) 2 _ _ jh; have j3 := cell_of_row w1 (w.heap.size + 1) 3 _ _ _ jh; simp at j3; have jf3 := frozen_of_row w1 (w.heap.size + 1) 3 _ _ jh; have j4 := cell_of_row w1 (w.heap.size + 1) 4 _ _ _ jh; simp at j4; have jf4 := frozen_of_row w1 (w.heap.size + 1) 4 _ _ jh; clear jh
    have hs := hb.size
    simp at hs
    have HBel := Lib.hid hb; clear hb
    rw [HG.out, hB]
    go_wp2
    refine bodyPost_ret (v := (.tuple #[.agg #[.int .i64 n, .int .i64 d, .int .i64 b, .int .i64 (wrap64 (b * d)), .int .i64 0], .bool true])) (by simp [results, Try.results69, go_sem, *]) rfl ?_
    exact ⟨by simp [fbK, hB, HL.out], (((((Below.trans (by go_grown) (HBel.out.mono (by simp <;> omega))).setCell (by simp) _).setCell (by simp) _).setCell (by simp) _).setCell (by simp) _).setCell (by simp) _⟩
end Go.Proofs.Ytgmccafmopgjaaa
