/- Contracts of the functions that draw many times: the lists of draws lie in new memory. Conditions: the ranges that the callers have tested. -/
import Derived.Test.YtbkkggbpekhenaaDraw2
import Derived.Test.YtbkkggbpekhenaaIntS
namespace Go.Proofs.Ytbkkggbpekhenaa
open Go.RowKit

/-- the state k steps on -/
def stN (s : Int) : Nat → Int
  | 0 => s
  | k + 1 => nextV (stN s k)
/-- the first k draws below n -/
def rollsL (s n : Int) : Nat → List Int
  | 0 => []
  | k + 1 => rollsL s n k ++ [drawV (stN s k) n]
theorem rollsL_length (s n : Int) (k : Nat) : (rollsL s n k).length = k := by
  induction k with
  | zero => rfl
  | succ k ih => simp [rollsL, ih]
theorem rollsL_get (s n : Int) (c k : Nat) (h : k < c) : (rollsL s n c)[k]'(by rw [rollsL_length]; exact h) = drawV (stN s k) n := by
  induction c with
  | zero => omega
  | succ c ih =>
    simp only [rollsL]
    by_cases hk : k < c
    · rw [List.getElem_append_left (by rw [rollsL_length]; exact hk)]; exact ih hk
    · have : k = c := by omega
      subst this
      simp [List.getElem_append_right, rollsL_length]
theorem stN_range (s : Int) (k : Nat) (h0 : 0 ≤ s) (h : s < 2147483647) : 0 ≤ stN s k ∧ stN s k < 2147483647 := by
  cases k with
  | zero => exact ⟨h0, h⟩
  | succ k => exact nextV_range _
theorem stN_zero (s : Int) : stN s 0 = s := rfl
theorem stN_succ (s : Int) (k : Nat) : stN s (k + 1) = nextV (stN s k) := rfl

set_option maxHeartbeats 1000000 in
theorem l20Draws_any (s n : Int) (c : Nat) (w : World) (h1 : 0 ≤ s) (h2 : s < 2147483647) (h0 : 0 ≤ n) (hn : n ≤ 1000000) (hc : c ≤ 1000) :
    Calls Try.prog 28 #[.int .i64 s, .int .i64 n, .int .i64 c] w fun e w' => ∃ v, e = .returned (.tuple #[.int .i64 (stN s c), v]) ∧ OwI w.heap.size w' v (rollsL s n c) ∧ Below w.heap.size w w' := by
  obtain ⟨i0, hi, hz0, hz1, hz2⟩ := info_parts infoInt
  go_enter Try.func28, Try.ntmps28
  go_wp2
  go_loopw [0, 8, 9] (fun a v i wr => ∃ k : Nat, k ≤ c ∧ i = .int .i64 k ∧ a = .int .i64 (stN s k) ∧ OwI w.heap.size wr v (rollsL s n k) ∧ Below w.heap.size w wr) (fun _ _ i _ => c - (intOf i).toNat)
  case atStart => exact ⟨0, Nat.zero_le _, rfl, rfl, ⟨World.ownsRow_lit w #[] 0 (Nat.le_refl _) (Nat.zero_le _) rfl, by simp [rollsL]⟩, below_alloc1 _ _⟩
  case round =>
    obtain ⟨k, hk, rfl, rfl, hown, hb⟩ := hrel
    have hlen := rollsL_length s n k
    have hsz := hb.size
    obtain ⟨r1, r2⟩ := stN_range s k h1 h2
    by_cases hlt : k < c
    · have hO := hown.1
      rw [hlen] at hO
      have HL := Lib.hid hlen; clear hlen
      go_wp2_with (first
        | (go_at_call 39; refine (l20Draw_any _ _ _ (by omega) (by omega) (by omega) (by omega)).mono ?_; rintro e w' ⟨rfl, rfl⟩)
        | (at_builtin; refine wpList_append_own _ rfl _ _ 22 rfl w.heap.size 3 i0 (.int .i64 0) 1 8 Try.underlying22 hi hz0 hz1 hz2 rfl (by decide) _ _ _ rfl (hO.alloc _) ⟨wr.heap.size, 0, none⟩ 1 1 [.int .i64 (drawV (stN s k) n)] rfl rfl ?c1 ?c2 ?c3 ?c4 ?c5 ?_))
      case c1 => exact cells_new _ #[_] _
      case c2 => intro u hu; simp at hu; subst hu; rfl
      case c3 => unfold maxLen; omega
      case c4 => omega
      case c5 => simp; omega
      intro v' w1 hown' hgrow _
      go_wp2
      go_roundw
      case rel => exact ⟨k + 1, by omega, by go_num, rfl, ⟨by rw [rollsL_length]; simpa [rollsL] using hown', by rw [rollsL_length]; omega⟩, (hb.alloc hsz _).grown hgrow (by simp; omega) (fun j hj => (hO.lt j hj).1)⟩
      case measure => simp [intOf]; omega
    · obtain rfl : k = c := by omega
      go_wp2
      go_ret2
      exact ⟨_, rfl, hown, hb⟩
end Go.Proofs.Ytbkkggbpekhenaa
