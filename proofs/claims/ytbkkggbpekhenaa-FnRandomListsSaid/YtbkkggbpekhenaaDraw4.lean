/- Contracts of RollsBelow and RollFates, program and reference alike: for all arguments. -/
import Derived.Test.YtbkkggbpekhenaaDraw3
namespace Go.Proofs.Ytbkkggbpekhenaa
open Go.RowKit

def rbB (s n c : Int) : Bool := inR s 1 2147483646 && inR n 1 1000000 && inR c 0 50
def rbS (s n c : Int) : Int := if rbB s n c = true then stN s c.toNat else 0
def rbL (s n c : Int) : List Int := if rbB s n c = true then rollsL s n c.toNat else []

theorem owI_nil (B : Nat) (w : World) : OwI B w (.slice none 0 0) [] := ⟨World.ownsRow_nil _ _ _ _, by simp⟩
theorem owI_empty (w : World) : OwI w.heap.size (w.alloc (.cells #[] 3)) (.slice (some ⟨w.heap.size, 0, none⟩) 0 0) [] := ⟨World.ownsRow_lit w #[] 0 (Nat.le_refl _) (Nat.zero_le _) rfl, by simp⟩

theorem specRolls_any (s n c : Int) (w : World) :
    Calls Try.prog 17 #[.int .i64 s, .int .i64 n, .int .i64 c] w fun e w' => ∃ v, e = .returned (.tuple #[.int .i64 (rbS s n c), v, .bool (rbB s n c)]) ∧ OwI w.heap.size w' v (rbL s n c) ∧ Below w.heap.size w w' := by
  cases h1 : inR s 1 2147483646
  · go_enter Try.func17, Try.ntmps17
    go_wp2_with (first | (go_at_call 26; refine (l20State_any _ _).mono ?_; rintro e w' ⟨rfl, rfl⟩) | (go_at_call 42; refine (l20Below_any _ _).mono ?_; rintro e w' ⟨rfl, rfl⟩) | (go_at_call 27; refine (l1In_any _ _ _ _).mono ?_; rintro e w' ⟨rfl, rfl⟩))
    go_ret3
    exact ⟨_, by simp [rbS, rbB, h1]; rfl, by simp [rbL, rbB, h1]; exact owI_empty w, below_alloc1 _ _⟩
  · cases h2 : inR n 1 1000000
    · go_enter Try.func17, Try.ntmps17
      go_wp2_with (first | (go_at_call 26; refine (l20State_any _ _).mono ?_; rintro e w' ⟨rfl, rfl⟩) | (go_at_call 42; refine (l20Below_any _ _).mono ?_; rintro e w' ⟨rfl, rfl⟩) | (go_at_call 27; refine (l1In_any _ _ _ _).mono ?_; rintro e w' ⟨rfl, rfl⟩))
      go_ret3
      exact ⟨_, by simp [rbS, rbB, h1, h2]; rfl, by simp [rbL, rbB, h1, h2]; exact owI_empty w, below_alloc1 _ _⟩
    · cases h3 : inR c 0 50
      · go_enter Try.func17, Try.ntmps17
        go_wp2_with (first | (go_at_call 26; refine (l20State_any _ _).mono ?_; rintro e w' ⟨rfl, rfl⟩) | (go_at_call 42; refine (l20Below_any _ _).mono ?_; rintro e w' ⟨rfl, rfl⟩) | (go_at_call 27; refine (l1In_any _ _ _ _).mono ?_; rintro e w' ⟨rfl, rfl⟩))
        go_ret3
        exact ⟨_, by simp [rbS, rbB, h1, h2, h3]; rfl, by simp [rbL, rbB, h1, h2, h3]; exact owI_empty w, below_alloc1 _ _⟩
      · obtain ⟨a1, a2⟩ := inR_true.1 h1
        obtain ⟨b1, b2⟩ := inR_true.1 h2
        obtain ⟨c1, c2⟩ := inR_true.1 h3
        obtain ⟨c, rfl⟩ := Int.eq_ofNat_of_zero_le c1
        go_enter Try.func17, Try.ntmps17
        go_wp2_with (first | (go_at_call 26; refine (l20State_any _ _).mono ?_; rintro e w' ⟨rfl, rfl⟩) | (go_at_call 42; refine (l20Below_any _ _).mono ?_; rintro e w' ⟨rfl, rfl⟩) | (go_at_call 27; refine (l1In_any _ _ _ _).mono ?_; rintro e w' ⟨rfl, rfl⟩) | (go_at_call 28; refine (l20Draws_any _ _ _ _ (by omega) (by omega) (by omega) (by omega) (by omega)).mono ?_; rintro e w1 ⟨v, rfl, hown, hb⟩))
        go_ret3
        exact ⟨v, by simp [rbS, rbB, h1, h2, h3], by simpa [rbL, rbB, h1, h2, h3] using hown, hb⟩

set_option maxHeartbeats 1000000 in
theorem implRolls_any (s n c : Int) (w : World) :
    Calls Try.prog 16 #[.int .i64 s, .int .i64 n, .int .i64 c] w fun e w' => ∃ v, e = .returned (.tuple #[.int .i64 (rbS s n c), v, .bool (rbB s n c)]) ∧ OwI w.heap.size w' v (rbL s n c) ∧ Below w.heap.size w w' := by
  cases h1 : inR s 1 2147483646
  · go_enter Try.func16, Try.ntmps16
    go_wp2_with (first | (go_at_call 35; refine (isState_any _ _).mono ?_; rintro e w' ⟨rfl, rfl⟩) | (go_at_call 41; refine (isBound_any _ _).mono ?_; rintro e w' ⟨rfl, rfl⟩) | (go_at_call 29; refine (within_any _ _ _ _).mono ?_; rintro e w' ⟨rfl, rfl⟩))
    go_ret3
    exact ⟨_, by simp [rbS, rbB, h1]; rfl, by simp [rbL, rbB, h1]; exact owI_nil _ _, Below.refl _ _⟩
  · cases h2 : inR n 1 1000000
    · go_enter Try.func16, Try.ntmps16
      go_wp2_with (first | (go_at_call 35; refine (isState_any _ _).mono ?_; rintro e w' ⟨rfl, rfl⟩) | (go_at_call 41; refine (isBound_any _ _).mono ?_; rintro e w' ⟨rfl, rfl⟩) | (go_at_call 29; refine (within_any _ _ _ _).mono ?_; rintro e w' ⟨rfl, rfl⟩))
      go_ret3
      exact ⟨_, by simp [rbS, rbB, h1, h2]; rfl, by simp [rbL, rbB, h1, h2]; exact owI_nil _ _, Below.refl _ _⟩
    · cases h3 : inR c 0 50
      · go_enter Try.func16, Try.ntmps16
        go_wp2_with (first | (go_at_call 35; refine (isState_any _ _).mono ?_; rintro e w' ⟨rfl, rfl⟩) | (go_at_call 41; refine (isBound_any _ _).mono ?_; rintro e w' ⟨rfl, rfl⟩) | (go_at_call 29; refine (within_any _ _ _ _).mono ?_; rintro e w' ⟨rfl, rfl⟩))
        go_ret3
        exact ⟨_, by simp [rbS, rbB, h1, h2, h3]; rfl, by simp [rbL, rbB, h1, h2, h3]; exact owI_nil _ _, Below.refl _ _⟩
      · obtain ⟨a1, a2⟩ := inR_true.1 h1
        obtain ⟨b1, b2⟩ := inR_true.1 h2
        obtain ⟨c1, c2⟩ := inR_true.1 h3
        obtain ⟨c, rfl⟩ := Int.eq_ofNat_of_zero_le c1
        obtain ⟨i0, hi, hz0, hz1, hz2⟩ := info_parts infoInt
        go_enter Try.func16, Try.ntmps16
        go_wp2_with (first | (go_at_call 35; refine (isState_any _ _).mono ?_; rintro e w' ⟨rfl, rfl⟩) | (go_at_call 41; refine (isBound_any _ _).mono ?_; rintro e w' ⟨rfl, rfl⟩) | (go_at_call 29; refine (within_any _ _ _ _).mono ?_; rintro e w' ⟨rfl, rfl⟩) | (at_make; refine wpList_make_full _ rfl _ _ 22 rfl w.heap.size 3 i0 (.int .i64 0) 1 Try.underlying22 hi hz0 hz1 _ _ _ _ c rfl rfl rfl rfl ?b2 ?b3 (Nat.le_refl _) ?_))
        case b2 => rw [hz2]; omega
        case b3 => unfold maxLen; omega
        intro w0 hown0 hgrow0
        go_wp2
        go_loopw [0, 28] (fun a i wr => ∃ (k : Nat) (L : List Value), k ≤ c ∧ i = .int .i64 k ∧ a = .int .i64 (stN s k) ∧ wr.ownsRow w.heap.size 3 1 (.slice (some ⟨w.heap.size, 0, none⟩) c c) c L ∧ Hid (L.take k = (rollsL s n k).map (Value.int .i64)) ∧ Below w.heap.size w wr)
          (fun _ i _ => c - (intOf i).toNat)
        case atStart => exact ⟨0, _, Nat.zero_le _, rfl, rfl, hown0, Lib.hid rfl, (Below.refl _ _).grown hgrow0 (Nat.le_refl _) (fun k h => by cases h)⟩
        case round =>
          obtain ⟨k, L, hk, rfl, rfl, hown, HL, hb⟩ := hrel
          obtain ⟨r1, r2⟩ := stN_range s k (by omega) (by omega)
          by_cases hlt : k < c
          · have hLl : c ≤ L.length := by have := hown.1; omega
            have c2 : wr.cell? ⟨w.heap.size, k, none⟩ = some L[k] := by rw [hown.cellAt k (by omega), List.getElem?_eq_getElem (by omega)]
            have c3 := hown.frozenAt k
            have hst := hown.stored k (.int .i64 (drawV (stN s k) n))
            go_wp2_with (go_at_call 37; refine (draw_any _ _ _ (by omega) (by omega) (by omega) (by omega)).mono ?_; rintro e w' ⟨rfl, rfl⟩)
            go_roundw
            case rel => exact ⟨k + 1, L.set k (.int .i64 (drawV (stN s k) n)), by omega, by go_num, rfl, hst.1, Lib.hid (by rw [take_set_succ L k _ (by omega), HL.out]; simp [rollsL]), hb.grown hst.2 (hb.size) (fun j hj => by cases hj; exact Nat.le_refl _)⟩
            case measure => simp [intOf]; omega
          · obtain rfl : k = c := by omega
            have hL : L = (rollsL s n k).map (Value.int .i64) := by
              have h1 := HL.out
              have h2 := hown.1
              rwa [List.take_of_length_le (by omega)] at h1
            have HX := Lib.hid hL; clear hL
            go_wp2
            go_ret3
            refine ⟨_, by simp [rbS, rbB, h1, h2, h3]; rfl, ?_, hb⟩
            simp only [rbL, rbB, h1, h2, h3, Bool.and_true, if_true]
            exact ⟨by simp only [Int.toNat_natCast, rollsL_length]; rw [← HX.out]; exact hown, by simp only [Int.toNat_natCast, rollsL_length]; omega⟩
end Go.Proofs.Ytbkkggbpekhenaa
