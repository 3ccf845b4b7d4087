/- Contracts of the functions on one bucket that answer yes or no, or a bucket. Conditions: where a product must not wrap, the bucket's ranges. -/
import Derived.Test.YtgiigcpodinpoaaMem
import Derived.Test.YtgiigcpodinpoaaRateMath
import Derived.Handy
namespace Go.Proofs.Ytgiigcpodinpoaa
open Go.RowKit

theorem bcell {W w1 : World} (hb : Below W.heap.size W w1) : (∀ b o, b < W.heap.size → w1.cell? ⟨b, o, none⟩ = W.cell? ⟨b, o, none⟩) ∧ (∀ b o, b < W.heap.size → w1.frozen? ⟨b, o, none⟩ = W.frozen? ⟨b, o, none⟩) :=
  ⟨fun b o h => hb.cell (p := ⟨b, o, none⟩) h, fun b o h => hb.frozen (p := ⟨b, o, none⟩) h⟩
abbrev Bk.v (k : Bk) : Value := .agg #[.int .i64 k.n, .int .i64 k.d, .int .i64 k.b, .int .i64 k.l, .int .i64 k.t]
abbrev Ld.v (x : Ld) : Value := .agg #[.int .i64 x.t, .int .i64 x.s]

theorem isTick_any (n : Int) (w : World) :
    Calls Try.prog 52 #[.int .i64 n] w fun e w' => e = .returned (.bool (inR n 0 10000)) ∧ w = w' := by
  go_enter Try.func52, Try.ntmps52
  go_wp2_with ((go_at_call 51; refine (within_any _ _ _ _).mono ?_; rintro e w' ⟨rfl, rfl⟩))
  go_ret
  exact ⟨rfl, rfl⟩
theorem l8Tick_any (n : Int) (w : World) :
    Calls Try.prog 61 #[.int .i64 n] w fun e w' => e = .returned (.bool (inR n 0 10000)) ∧ w = w' := by
  go_enter Try.func61, Try.ntmps61
  go_wp2_with ((go_at_call 75; refine (l1In_any _ _ _ _).mono ?_; rintro e w' ⟨rfl, rfl⟩))
  go_ret
  exact ⟨rfl, rfl⟩

set_option maxHeartbeats 2000000 in
theorem isValid_any (k : Bk) (w : World) :
    Calls Try.prog 16 #[k.v] w fun e w' => e = .returned (.bool (bkB k)) ∧ Below w.heap.size w w' := by
  obtain ⟨n, d, b, l, t⟩ := k
  cases h1 : inR n 1 1000
  · go_enter Try.func16, Try.ntmps16
    go_wp2_with (first | (go_at_call 51; refine (within_any _ _ _ _).mono ?_; rintro e w' ⟨rfl, rfl⟩) | (go_at_call 52; refine (isTick_any _ _).mono ?_; rintro e w' ⟨rfl, rfl⟩))
    go_ret
    exact ⟨by simp [bkB, h1], below_alloc1 _ _⟩
  · cases h2 : inR d 1 100
    · go_enter Try.func16, Try.ntmps16
      go_wp2_with (first | (go_at_call 51; refine (within_any _ _ _ _).mono ?_; rintro e w' ⟨rfl, rfl⟩) | (go_at_call 52; refine (isTick_any _ _).mono ?_; rintro e w' ⟨rfl, rfl⟩))
      go_ret
      exact ⟨by simp [bkB, h2], below_alloc1 _ _⟩
    · cases h3 : inR b 1 1000
      · go_enter Try.func16, Try.ntmps16
        go_wp2_with (first | (go_at_call 51; refine (within_any _ _ _ _).mono ?_; rintro e w' ⟨rfl, rfl⟩) | (go_at_call 52; refine (isTick_any _ _).mono ?_; rintro e w' ⟨rfl, rfl⟩))
        go_ret
        exact ⟨by simp [bkB, h3], below_alloc1 _ _⟩
      · obtain ⟨a1, a2⟩ := inR_true.1 h2
        obtain ⟨b1, b2⟩ := inR_true.1 h3
        obtain ⟨c1, c2⟩ := prod_bound b d 1000 100 (by omega) b2 (by omega) a2
        cases h4 : inR l 0 (b * d)
        · go_enter Try.func16, Try.ntmps16
          go_wp2_with (first | (go_at_call 51; refine (within_any _ _ _ _).mono ?_; rintro e w' ⟨rfl, rfl⟩) | (go_at_call 52; refine (isTick_any _ _).mono ?_; rintro e w' ⟨rfl, rfl⟩))
          go_ret
          exact ⟨by simp [bkB, h4], below_alloc1 _ _⟩
        · go_enter Try.func16, Try.ntmps16
          go_wp2_with (first | (go_at_call 51; refine (within_any _ _ _ _).mono ?_; rintro e w' ⟨rfl, rfl⟩) | (go_at_call 52; refine (isTick_any _ _).mono ?_; rintro e w' ⟨rfl, rfl⟩))
          go_ret
          exact ⟨by simp [bkB, h1, h2, h3, h4], below_alloc1 _ _⟩

set_option maxHeartbeats 2000000 in
theorem l19Good_any (k : Bk) (w : World) :
    Calls Try.prog 50 #[k.v] w fun e w' => e = .returned (.bool (bkB k)) ∧ Below w.heap.size w w' := by
  obtain ⟨n, d, b, l, t⟩ := k
  cases h1 : inR n 1 1000
  · go_enter Try.func50, Try.ntmps50
    go_wp2_with (first | (go_at_call 75; refine (l1In_any _ _ _ _).mono ?_; rintro e w' ⟨rfl, rfl⟩) | (go_at_call 61; refine (l8Tick_any _ _).mono ?_; rintro e w' ⟨rfl, rfl⟩))
    go_ret
    exact ⟨by simp [bkB, h1], below_alloc1 _ _⟩
  · cases h2 : inR d 1 100
    · go_enter Try.func50, Try.ntmps50
      go_wp2_with (first | (go_at_call 75; refine (l1In_any _ _ _ _).mono ?_; rintro e w' ⟨rfl, rfl⟩) | (go_at_call 61; refine (l8Tick_any _ _).mono ?_; rintro e w' ⟨rfl, rfl⟩))
      go_ret
      exact ⟨by simp [bkB, h2], below_alloc1 _ _⟩
    · cases h3 : inR b 1 1000
      · go_enter Try.func50, Try.ntmps50
        go_wp2_with (first | (go_at_call 75; refine (l1In_any _ _ _ _).mono ?_; rintro e w' ⟨rfl, rfl⟩) | (go_at_call 61; refine (l8Tick_any _ _).mono ?_; rintro e w' ⟨rfl, rfl⟩))
        go_ret
        exact ⟨by simp [bkB, h3], below_alloc1 _ _⟩
      · obtain ⟨a1, a2⟩ := inR_true.1 h2
        obtain ⟨b1, b2⟩ := inR_true.1 h3
        obtain ⟨c1, c2⟩ := prod_bound b d 1000 100 (by omega) b2 (by omega) a2
        cases h4 : inR l 0 (b * d)
        · go_enter Try.func50, Try.ntmps50
          go_wp2_with (first | (go_at_call 75; refine (l1In_any _ _ _ _).mono ?_; rintro e w' ⟨rfl, rfl⟩) | (go_at_call 61; refine (l8Tick_any _ _).mono ?_; rintro e w' ⟨rfl, rfl⟩))
          go_ret
          exact ⟨by simp [bkB, h4], below_alloc1 _ _⟩
        · go_enter Try.func50, Try.ntmps50
          go_wp2_with (first | (go_at_call 75; refine (l1In_any _ _ _ _).mono ?_; rintro e w' ⟨rfl, rfl⟩) | (go_at_call 61; refine (l8Tick_any _ _).mono ?_; rintro e w' ⟨rfl, rfl⟩))
          go_ret
          exact ⟨by simp [bkB, h1, h2, h3, h4], below_alloc1 _ _⟩

theorem l19IsValid_any (k : Bk) (w : World) :
    Calls Try.prog 14 #[k.v] w fun e w' => e = .returned (.bool (bkB k)) ∧ Below w.heap.size w w' := by
  have HG := Lib.hid (l19Good_any k)
  obtain ⟨n, d, b, l, t⟩ := k
  go_enter Try.func14, Try.ntmps14
  go_wp2_with fail
  refine (HG.out _).mono ?_
  rintro e w1 ⟨rfl, hb⟩
  go_wp2
  go_ret
  exact ⟨rfl, (below_alloc1 _ _).trans (hb.mono (by simp))⟩

theorem canFill_any (k : Bk) (now : Int) (w : World) :
    Calls Try.prog 55 #[k.v, .int .i64 now] w fun e w' => e = .returned (.bool (canFill k now)) ∧ Below w.heap.size w w' := by
  cases h1 : bkB k
  · obtain ⟨n, d, b, l, t⟩ := k
    go_enter Try.func55, Try.ntmps55
    go_wp2_with fail
    refine (isValid_any ⟨n, d, b, l, t⟩ _).mono ?_
    rintro e w1 ⟨rfl, hb⟩
    obtain ⟨hc, hf⟩ := bcell hb
    go_wp2_with ((go_at_call 51; refine (within_any _ _ _ _).mono ?_; rintro e w' ⟨rfl, rfl⟩))
    go_ret
    exact ⟨by simp [canFill, h1], (below_alloc1 _ _).trans (hb.mono (by simp))⟩
  · obtain ⟨n, d, b, l, t⟩ := k
    go_enter Try.func55, Try.ntmps55
    go_wp2_with fail
    refine (isValid_any ⟨n, d, b, l, t⟩ _).mono ?_
    rintro e w1 ⟨rfl, hb⟩
    obtain ⟨hc, hf⟩ := bcell hb
    go_wp2_with ((go_at_call 51; refine (within_any _ _ _ _).mono ?_; rintro e w' ⟨rfl, rfl⟩))
    go_ret
    exact ⟨by simp [canFill, h1], (below_alloc1 _ _).trans (hb.mono (by simp))⟩
end Go.Proofs.Ytgiigcpodinpoaa
