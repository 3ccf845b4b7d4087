/- Contracts of RollFates, program and reference alike: for all arguments. -/
import Derived.Test.YtbkkggbpekhenaaDraw4
namespace Go.Proofs.Ytbkkggbpekhenaa
open Go.RowKit

/-- the letters of the first k draws -/
def fatesL (s p : Int) : Nat → List UInt8
  | 0 => []
  | k + 1 => fatesL s p k ++ [if drawV (stN s k) 100 < p then 108 else 107]
theorem fatesL_length (s p : Int) (k : Nat) : (fatesL s p k).length = k := by
  induction k with
  | zero => rfl
  | succ k ih => simp [fatesL, ih]
abbrev str (l : List UInt8) : Value := .string ⟨l.toArray⟩
def rfB (s n p : Int) : Bool := inR s 1 2147483646 && inR n 0 40 && inR p 0 100
def rfS (s n p : Int) : Int := if rfB s n p = true then stN s n.toNat else 0
def rfL (s n p : Int) : List UInt8 := if rfB s n p = true then fatesL s p n.toNat else []

set_option maxHeartbeats 1000000 in
theorem implFates_any (s n p : Int) (w : World) :
    Calls Try.prog 24 #[.int .i64 s, .int .i64 n, .int .i64 p] w fun e w' => e = .returned (.tuple #[.int .i64 (rfS s n p), str (rfL s n p), .bool (rfB s n p)]) ∧ w = w' := by
  cases h1 : inR s 1 2147483646
  · go_enter Try.func24, Try.ntmps24
    go_wp2_with (first | (go_at_call 35; refine (isState_any _ _).mono ?_; rintro e w' ⟨rfl, rfl⟩) | (go_at_call 29; refine (within_any _ _ _ _).mono ?_; rintro e w' ⟨rfl, rfl⟩))
    go_ret3
    exact ⟨by simp [rfS, rfB, rfL, h1], rfl⟩
  · cases h2 : inR n 0 40
    · go_enter Try.func24, Try.ntmps24
      go_wp2_with (first | (go_at_call 35; refine (isState_any _ _).mono ?_; rintro e w' ⟨rfl, rfl⟩) | (go_at_call 29; refine (within_any _ _ _ _).mono ?_; rintro e w' ⟨rfl, rfl⟩))
      go_ret3
      exact ⟨by simp [rfS, rfB, rfL, h1, h2], rfl⟩
    · cases h3 : inR p 0 100
      · go_enter Try.func24, Try.ntmps24
        go_wp2_with (first | (go_at_call 35; refine (isState_any _ _).mono ?_; rintro e w' ⟨rfl, rfl⟩) | (go_at_call 29; refine (within_any _ _ _ _).mono ?_; rintro e w' ⟨rfl, rfl⟩))
        go_ret3
        exact ⟨by simp [rfS, rfB, rfL, h1, h2, h3], rfl⟩
      · obtain ⟨a1, a2⟩ := inR_true.1 h1
        obtain ⟨b1, b2⟩ := inR_true.1 h2
        obtain ⟨c1, c2⟩ := inR_true.1 h3
        obtain ⟨n, rfl⟩ := Int.eq_ofNat_of_zero_le b1
        go_enter Try.func24, Try.ntmps24
        go_wp2_with (first | (go_at_call 35; refine (isState_any _ _).mono ?_; rintro e w' ⟨rfl, rfl⟩) | (go_at_call 29; refine (within_any _ _ _ _).mono ?_; rintro e w' ⟨rfl, rfl⟩))
        go_loop [0, 9, 25] (fun a t i => ∃ (k : Nat), k ≤ n ∧ i = .int .i64 k ∧ a = .int .i64 (stN s k) ∧ t = .string ⟨(fatesL s p k).toArray⟩)
          (fun _ _ i => n - (intOf i).toNat)
        case atStart => exact ⟨0, Nat.zero_le _, rfl, rfl, rfl⟩
        case round =>
          obtain ⟨k, hk, rfl, rfl, rfl⟩ := hrel
          obtain ⟨r1, r2⟩ := stN_range s k (by omega) (by omega)
          have hfl : (fatesL s p k).length ≤ 40 := by rw [fatesL_length]; omega
          by_cases hlt : k < n
          · by_cases hp : drawV (stN s k) 100 < p
            · have hsn : fatesL s p (k + 1) = fatesL s p k ++ [108] := by simp [fatesL, hp]
              have HS := Lib.hid hsn; clear hsn
              go_wp2_with (go_at_call 37; refine (draw_any _ _ _ (by omega) (by omega) (by omega) (by omega)).mono ?_; rintro e w' ⟨rfl, rfl⟩)
              go_round
              case rel => exact ⟨k + 1, by omega, by go_num, rfl, by rw [HS.out, ← bytes_append]⟩
              case measure => simp [intOf]; omega
            · have hsn : fatesL s p (k + 1) = fatesL s p k ++ [107] := by simp [fatesL, hp]
              have HS := Lib.hid hsn; clear hsn
              go_wp2_with (go_at_call 37; refine (draw_any _ _ _ (by omega) (by omega) (by omega) (by omega)).mono ?_; rintro e w' ⟨rfl, rfl⟩)
              go_round
              case rel => exact ⟨k + 1, by omega, by go_num, rfl, by rw [HS.out, ← bytes_append]⟩
              case measure => simp [intOf]; omega
          · obtain rfl : k = n := by omega
            go_wp2
            go_ret3
            exact ⟨by simp [rfS, rfB, rfL, h1, h2, h3, str], rfl⟩

set_option maxHeartbeats 1000000 in
theorem specFates_any (s n p : Int) (w : World) :
    Calls Try.prog 25 #[.int .i64 s, .int .i64 n, .int .i64 p] w fun e w' => e = .returned (.tuple #[.int .i64 (rfS s n p), str (rfL s n p), .bool (rfB s n p)]) ∧ Below w.heap.size w w' := by
  cases h1 : inR s 1 2147483646
  · go_enter Try.func25, Try.ntmps25
    go_wp2_with (first | (go_at_call 26; refine (l20State_any _ _).mono ?_; rintro e w' ⟨rfl, rfl⟩) | (go_at_call 27; refine (l1In_any _ _ _ _).mono ?_; rintro e w' ⟨rfl, rfl⟩))
    go_ret3
    exact ⟨by simp [rfS, rfB, rfL, h1], Below.refl _ _⟩
  · cases h2 : inR n 0 40
    · go_enter Try.func25, Try.ntmps25
      go_wp2_with (first | (go_at_call 26; refine (l20State_any _ _).mono ?_; rintro e w' ⟨rfl, rfl⟩) | (go_at_call 27; refine (l1In_any _ _ _ _).mono ?_; rintro e w' ⟨rfl, rfl⟩))
      go_ret3
      exact ⟨by simp [rfS, rfB, rfL, h1, h2], Below.refl _ _⟩
    · cases h3 : inR p 0 100
      · go_enter Try.func25, Try.ntmps25
        go_wp2_with (first | (go_at_call 26; refine (l20State_any _ _).mono ?_; rintro e w' ⟨rfl, rfl⟩) | (go_at_call 27; refine (l1In_any _ _ _ _).mono ?_; rintro e w' ⟨rfl, rfl⟩))
        go_ret3
        exact ⟨by simp [rfS, rfB, rfL, h1, h2, h3], Below.refl _ _⟩
      · obtain ⟨a1, a2⟩ := inR_true.1 h1
        obtain ⟨b1, b2⟩ := inR_true.1 h2
        obtain ⟨c1, c2⟩ := inR_true.1 h3
        obtain ⟨n, rfl⟩ := Int.eq_ofNat_of_zero_le b1
        go_enter Try.func25, Try.ntmps25
        go_wp2_with (first | (go_at_call 26; refine (l20State_any _ _).mono ?_; rintro e w' ⟨rfl, rfl⟩) | (go_at_call 27; refine (l1In_any _ _ _ _).mono ?_; rintro e w' ⟨rfl, rfl⟩) | (go_at_call 28; refine (l20Draws_any _ _ _ _ (by omega) (by omega) (by omega) (by omega) (by omega)).mono ?_; rintro e w1 ⟨v, rfl, hown, hb⟩))
        obtain ⟨pp, cap, b, off, rfl, hcap, hp, hcell0⟩ := hown.rd.parts
        rw [rollsL_length] at hcap hp
        have hcell : ∀ k, k < n → w1.cell? ⟨b, off + k, none⟩ = some (.int .i64 (drawV (stN s k) 100)) := fun k hk => by
          rw [hcell0 k (by rw [rollsL_length]; exact hk), rollsL_get s 100 n k hk]
        have HC := Lib.hid hcell; clear hcell hcell0
        have HP := Lib.hid hp; clear hp
        rw [rollsL_length]
        clear hown
        go_wp2
        go_loop [11, 12] (fun t i => ∃ (k : Nat), k ≤ n ∧ i = .int .i64 k ∧ t = .string ⟨(fatesL s p k).toArray⟩) (fun _ i => n - (intOf i).toNat)
        case atStart => exact ⟨0, Nat.zero_le _, rfl, rfl⟩
        case round =>
          obtain ⟨k, hk, rfl, rfl⟩ := hrel
          have hfl : (fatesL s p k).length ≤ 40 := by rw [fatesL_length]; omega
          by_cases hlt : k < n
          · obtain rfl := HP.out (by omega)
            have c1 := HC.out k hlt
            by_cases hp : drawV (stN s k) 100 < p
            · have hsn : fatesL s p (k + 1) = fatesL s p k ++ [108] := by simp [fatesL, hp]
              have HS := Lib.hid hsn; clear hsn
              go_wp2
              go_round
              case rel => exact ⟨k + 1, by omega, by go_num, by rw [HS.out, ← bytes_append]⟩
              case measure => simp [intOf]; omega
            · have hsn : fatesL s p (k + 1) = fatesL s p k ++ [107] := by simp [fatesL, hp]
              have HS := Lib.hid hsn; clear hsn
              go_wp2
              go_round
              case rel => exact ⟨k + 1, by omega, by go_num, by rw [HS.out, ← bytes_append]⟩
              case measure => simp [intOf]; omega
          · obtain rfl : k = n := by omega
            go_wp2
            go_ret3
            exact ⟨by simp [rfS, rfB, rfL, h1, h2, h3, str], hb⟩
end Go.Proofs.Ytbkkggbpekhenaa
