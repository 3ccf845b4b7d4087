/- Contracts of the functions on one bucket that answer yes or no, or a bucket. Conditions: where a product must not wrap, the bucket's ranges. -/
import Derived.Test.YtgmccafmopgjaaaMem
import Derived.Test.YtgmccafmopgjaaaRateMath
import Derived.Handy
namespace Go.Proofs.Ytgmccafmopgjaaa
open Go.RowKit

theorem bcell {W w1 : World} (hb : Below W.heap.size W w1) : (∀ b o, b < W.heap.size → w1.cell? ⟨b, o, none⟩ = W.cell? ⟨b, o, none⟩) ∧ (∀ b o, b < W.heap.size → w1.frozen? ⟨b, o, none⟩ = W.frozen? ⟨b, o, none⟩) :=
  ⟨fun b o h => hb.cell (p := ⟨b, o, none⟩) h, fun b o h => hb.frozen (p := ⟨b, o, none⟩) h⟩
abbrev Bk.v (k : Bk) : Value := .agg #[.int .i64 k.n, .int .i64 k.d, .int .i64 k.b, .int .i64 k.l, .int .i64 k.t]
abbrev Ld.v (x : Ld) : Value := .agg #[.int .i64 x.t, .int .i64 x.s]

theorem isTick_any (n : Int) (w : World) :
    Calls Try.prog 72 #[.int .i64 n] w fun e w' => e = .returned (.bool (inR n 0 10000)) ∧ w = w' := by
  go_enter Try.func72, Try.ntmps72
  go_wp2_with ((go_at_call 38; refine (within_any _ _ _ _).mono ?_; rintro e w' ⟨rfl, rfl⟩))
  go_ret
  exact ⟨rfl, rfl⟩
theorem l8Tick_any (n : Int) (w : World) :
    Calls Try.prog 84 #[.int .i64 n] w fun e w' => e = .returned (.bool (inR n 0 10000)) ∧ w = w' := by
  go_enter Try.func84, Try.ntmps84
  go_wp2_with ((go_at_call 71; refine (l1In_any _ _ _ _).mono ?_; rintro e w' ⟨rfl, rfl⟩))
  go_ret
  exact ⟨rfl, rfl⟩

set_option maxHeartbeats 2000000 in
theorem isValid_any (k : Bk) (w : World) :
    Calls Try.prog 78 #[k.v] w fun e w' => e = .returned (.bool (bkB k)) ∧ Below w.heap.size w w' := by
  obtain ⟨n, d, b, l, t⟩ := k
  cases h1 : inR n 1 1000
  · go_enter Try.func78, Try.ntmps78
    go_wp2_with (first | (go_at_call 38; refine (within_any _ _ _ _).mono ?_; rintro e w' ⟨rfl, rfl⟩) | (go_at_call 72; refine (isTick_any _ _).mono ?_; rintro e w' ⟨rfl, rfl⟩))
    go_ret
    exact ⟨by simp [bkB, h1], below_alloc1 _ _⟩
  · cases h2 : inR d 1 100
    · go_enter Try.func78, Try.ntmps78
      go_wp2_with (first | (go_at_call 38; refine (within_any _ _ _ _).mono ?_; rintro e w' ⟨rfl, rfl⟩) | (go_at_call 72; refine (isTick_any _ _).mono ?_; rintro e w' ⟨rfl, rfl⟩))
      go_ret
      exact ⟨by simp [bkB, h2], below_alloc1 _ _⟩
    · cases h3 : inR b 1 1000
      · go_enter Try.func78, Try.ntmps78
        go_wp2_with (first | (go_at_call 38; refine (within_any _ _ _ _).mono ?_; rintro e w' ⟨rfl, rfl⟩) | (go_at_call 72; refine (isTick_any _ _).mono ?_; rintro e w' ⟨rfl, rfl⟩))
        go_ret
        exact ⟨by simp [bkB, h3], below_alloc1 _ _⟩
      · obtain ⟨a1, a2⟩ := inR_true.1 h2
        obtain ⟨b1, b2⟩ := inR_true.1 h3
        obtain ⟨c1, c2⟩ := prod_bound b d 1000 100 (by omega) b2 (by omega) a2
        cases h4 : inR l 0 (b * d)
        · go_enter Try.func78, Try.ntmps78
          go_wp2_with (first | (go_at_call 38; refine (within_any _ _ _ _).mono ?_; rintro e w' ⟨rfl, rfl⟩) | (go_at_call 72; refine (isTick_any _ _).mono ?_; rintro e w' ⟨rfl, rfl⟩))
          go_ret
          exact ⟨by simp [bkB, h4], below_alloc1 _ _⟩
        · go_enter Try.func78, Try.ntmps78
          go_wp2_with (first | (go_at_call 38; refine (within_any _ _ _ _).mono ?_; rintro e w' ⟨rfl, rfl⟩) | (go_at_call 72; refine (isTick_any _ _).mono ?_; rintro e w' ⟨rfl, rfl⟩))
          go_ret
          exact ⟨by simp [bkB, h1, h2, h3, h4], below_alloc1 _ _⟩

set_option maxHeartbeats 2000000 in
theorem l19Good_any (k : Bk) (w : World) :
    Calls Try.prog 80 #[k.v] w fun e w' => e = .returned (.bool (bkB k)) ∧ Below w.heap.size w w' := by
  obtain ⟨n, d, b, l, t⟩ := k
  cases h1 : inR n 1 1000
  · go_enter Try.func80, Try.ntmps80
    go_wp2_with (first | (go_at_call 71; refine (l1In_any _ _ _ _).mono ?_; rintro e w' ⟨rfl, rfl⟩) | (go_at_call 84; refine (l8Tick_any _ _).mono ?_; rintro e w' ⟨rfl, rfl⟩))
    go_ret
    exact ⟨by simp [bkB, h1], below_alloc1 _ _⟩
  · cases h2 : inR d 1 100
    · go_enter Try.func80, Try.ntmps80
      go_wp2_with (first | (go_at_call 71; refine (l1In_any _ _ _ _).mono ?_; rintro e w' ⟨rfl, rfl⟩) | (go_at_call 84; refine (l8Tick_any _ _).mono ?_; rintro e w' ⟨rfl, rfl⟩))
      go_ret
      exact ⟨by simp [bkB, h2], below_alloc1 _ _⟩
    · cases h3 : inR b 1 1000
      · go_enter Try.func80, Try.ntmps80
        go_wp2_with (first | (go_at_call 71; refine (l1In_any _ _ _ _).mono ?_; rintro e w' ⟨rfl, rfl⟩) | (go_at_call 84; refine (l8Tick_any _ _).mono ?_; rintro e w' ⟨rfl, rfl⟩))
        go_ret
        exact ⟨by simp [bkB, h3], below_alloc1 _ _⟩
      · obtain ⟨a1, a2⟩ := inR_true.1 h2
        obtain ⟨b1, b2⟩ := inR_true.1 h3
        obtain ⟨c1, c2⟩ := prod_bound b d 1000 100 (by omega) b2 (by omega) a2
        cases h4 : inR l 0 (b * d)
        · go_enter Try.func80, Try.ntmps80
          go_wp2_with (first | (go_at_call 71; refine (l1In_any _ _ _ _).mono ?_; rintro e w' ⟨rfl, rfl⟩) | (go_at_call 84; refine (l8Tick_any _ _).mono ?_; rintro e w' ⟨rfl, rfl⟩))
          go_ret
          exact ⟨by simp [bkB, h4], below_alloc1 _ _⟩
        · go_enter Try.func80, Try.ntmps80
          go_wp2_with (first | (go_at_call 71; refine (l1In_any _ _ _ _).mono ?_; rintro e w' ⟨rfl, rfl⟩) | (go_at_call 84; refine (l8Tick_any _ _).mono ?_; rintro e w' ⟨rfl, rfl⟩))
          go_ret
          exact ⟨by simp [bkB, h1, h2, h3, h4], below_alloc1 _ _⟩


end Go.Proofs.Ytgmccafmopgjaaa
