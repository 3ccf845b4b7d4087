/- Contracts of PickWeighted, program and reference alike: for every list of at most 2^30 weights. -/
import Derived.Test.YtbkkggbpekhenaaDraw3
import Derived.Test.YtbkkggbpekhenaaPickMath
namespace Go.Proofs.Ytbkkggbpekhenaa
open Go.RowKit

def pwB (s : Int) (xs : List Int) : Bool := inR s 1 2147483646 && inR xs.length 1 20 && allR 0 1000 xs && !(sumI xs == 0)
def pwS (s : Int) (xs : List Int) : Int := if pwB s xs = true then nextV s else 0
def pwI (s : Int) (xs : List Int) : Int := if pwB s xs = true then pickI xs (drawV s (sumI xs)) else 0
def pickAt (xs : List Int) (r : Int) (k : Nat) : Prop := pickI xs r = k + pickI (xs.drop k) (r - sumI (xs.take k))
theorem pickAt_zero (xs : List Int) (r : Int) : pickAt xs r 0 := by simp [pickAt, sumI]
theorem pickAt_succ {xs : List Int} {r : Int} {k : Nat} (h : pickAt xs r k) (hk : k < xs.length) (hx : xs[k] ≤ r - sumI (xs.take k)) : pickAt xs r (k + 1) := by
  unfold pickAt at *
  rw [h, pickI_step xs k _ hk hx, sumI_take_succ xs k hk, Int.sub_sub]; omega
theorem pickAt_stop {xs : List Int} {r : Int} {k : Nat} (h : pickAt xs r k) (hk : k < xs.length) (hx : r - sumI (xs.take k) < xs[k]) : pickI xs r = k := by
  unfold pickAt at *
  rw [h, pickI_stop xs k _ hk hx]; rfl
theorem pw_no {s : Int} {xs : List Int} (h : pwB s xs = false) : pwS s xs = 0 ∧ pwI s xs = 0 := by simp [pwS, pwI, h]
theorem take_bound {xs : List Int} {k : Nat} (h : allR 0 1000 (xs.take k) = true) (hn : xs.length ≤ 1073741824) : 0 ≤ sumI (xs.take k) ∧ sumI (xs.take k) ≤ 1073741824000 := by
  obtain ⟨a, b⟩ := sumI_bound (by omega) _ h
  have := List.length_take_le k xs
  have := List.length_take_le' k xs
  exact ⟨a, by omega⟩

set_option maxHeartbeats 2000000 in
theorem implPick_any (s : Int) (v : Value) (xs : List Int) (w : World) (h : RdI w v xs) :
    Calls Try.prog 21 #[.int .i64 s, v] w fun e w' => e = .returned (.tuple #[.int .i64 (pwS s xs), .int .i64 (pwI s xs), .bool (pwB s xs)]) ∧ w = w' := by
  have hlen := h.2
  obtain ⟨p, cap, b, off, rfl, hcap, hp, hcell⟩ := h.parts
  have HC := Lib.hid hcell; clear hcell
  have HP := Lib.hid hp; clear hp
  cases h1 : inR s 1 2147483646
  · have hB : pwB s xs = false := by simp [pwB, h1]
    obtain ⟨e1, e2⟩ := pw_no hB
    go_enter Try.func21, Try.ntmps21
    go_wp2_with (first | (go_at_call 35; refine (isState_any _ _).mono ?_; rintro e w' ⟨rfl, rfl⟩) | (go_at_call 29; refine (within_any _ _ _ _).mono ?_; rintro e w' ⟨rfl, rfl⟩))
    go_ret3
    exact ⟨by simp [hB, e1, e2], rfl⟩
  · cases h2 : inR xs.length 1 20
    · have hB : pwB s xs = false := by simp [pwB, h2]
      obtain ⟨e1, e2⟩ := pw_no hB
      go_enter Try.func21, Try.ntmps21
      go_wp2_with (first | (go_at_call 35; refine (isState_any _ _).mono ?_; rintro e w' ⟨rfl, rfl⟩) | (go_at_call 29; refine (within_any _ _ _ _).mono ?_; rintro e w' ⟨rfl, rfl⟩))
      go_ret3
      exact ⟨by simp [hB, e1, e2], rfl⟩
    · obtain ⟨a1, a2⟩ := inR_true.1 h1
      obtain ⟨b1, b2⟩ := inR_true.1 h2
      go_enter Try.func21, Try.ntmps21
      go_wp2_with (first | (go_at_call 35; refine (isState_any _ _).mono ?_; rintro e w' ⟨rfl, rfl⟩) | (go_at_call 29; refine (within_any _ _ _ _).mono ?_; rintro e w' ⟨rfl, rfl⟩))
      go_loop [7, 25] (fun t i => ∃ k : Nat, k ≤ xs.length ∧ i = .int .i64 k ∧ t = .int .i64 (sumI (xs.take k)) ∧ Hid (allR 0 1000 (xs.take k) = true)) (fun _ i => xs.length - (intOf i).toNat)
      case atStart => exact ⟨0, Nat.zero_le _, rfl, rfl, Lib.hid rfl⟩
      case round =>
        obtain ⟨k, hk, rfl, rfl, HA⟩ := hrel
        obtain ⟨s1, s2⟩ := take_bound HA.out hlen
        by_cases hlt : k < xs.length
        · obtain rfl := HP.out (by omega)
          have c1 := HC.out k hlt
          cases hx : inR xs[k] 0 1000
          · have hB : pwB s xs = false := by simp [pwB, allR_not k hlt hx]
            obtain ⟨e1, e2⟩ := pw_no hB
            go_wp2_with ((go_at_call 29; refine (within_any _ _ _ _).mono ?_; rintro e w' ⟨rfl, rfl⟩))
            go_ret3
            exact ⟨by simp [hB, e1, e2], rfl⟩
          · obtain ⟨x1, x2⟩ := inR_true.1 hx
            go_wp2_with ((go_at_call 29; refine (within_any _ _ _ _).mono ?_; rintro e w' ⟨rfl, rfl⟩))
            go_round
            case rel => exact ⟨k + 1, by omega, by go_num, by rw [sumI_take_succ xs k hlt], Lib.hid (by rw [List.take_succ_eq_append_getElem hlt, allR_append, HA.out]; simp [allR, hx])⟩
            case measure => simp [intOf]; omega
        · have hkl : xs.take k = xs := List.take_of_length_le (by omega)
          have hall : allR 0 1000 xs = true := by rw [← hkl]; exact HA.out
          have HALL := Lib.hid hall; clear hall
          rw [hkl] at s1 s2 ⊢
          clear hkl
          by_cases hz : sumI xs = 0
          · have hB : pwB s xs = false := by simp [pwB, hz]
            obtain ⟨e1, e2⟩ := pw_no hB
            have hz' : (sumI xs == 0) = true := by simpa using hz
            clear hz
            go_wp2
            go_ret3
            exact ⟨by simp, rfl⟩
          · have hB : pwB s xs = true := by simp [pwB, h1, h2, HALL.out, hz]
            have hz' : (sumI xs == 0) = false := by simpa using hz
            have hz0 : 1 ≤ sumI xs := by omega
            have hb20 : sumI xs ≤ 20000 := by have := (sumI_bound (by omega) _ HALL.out).2; omega
            obtain ⟨d1, d2⟩ := drawV_range s (sumI xs) hz0 (by omega)
            have HB := Lib.hid hB; clear hB
            clear hz
            go_wp2_with (go_at_call 37; refine (draw_any _ _ _ (by omega) (by omega) (by omega) (by omega)).mono ?_; rintro e w' ⟨rfl, rfl⟩)
            go_loop [7, 46] (fun t i => ∃ k : Nat, k ≤ xs.length ∧ i = .int .i64 k ∧ t = .int .i64 (sumI (xs.take k)) ∧ sumI (xs.take k) ≤ drawV s (sumI xs) ∧ Hid (pickAt xs (drawV s (sumI xs)) k)) (fun _ i => xs.length - (intOf i).toNat)
            case atStart => exact ⟨0, Nat.zero_le _, rfl, rfl, d1, Lib.hid (pickAt_zero _ _)⟩
            case round =>
              obtain ⟨k, hk, rfl, rfl, hle, HK⟩ := hrel
              obtain ⟨s1, s2⟩ := take_bound (allR_take HALL.out k) hlen
              by_cases hlt : k < xs.length
              · obtain rfl := HP.out (by omega)
                have c1 := HC.out k hlt
                obtain ⟨x1, x2⟩ := allR_get HALL.out k hlt
                by_cases hgt : drawV s (sumI xs) < sumI (xs.take k) + xs[k]
                · go_wp2
                  go_ret3
                  exact ⟨by simp [pwS, pwI, HB.out, pickAt_stop HK.out hlt (by omega)], rfl⟩
                · go_wp2
                  go_round
                  case rel => exact ⟨k + 1, by omega, by go_num, by rw [sumI_take_succ xs k hlt], by rw [sumI_take_succ xs k hlt]; omega, Lib.hid (pickAt_succ HK.out hlt (by omega))⟩
                  case measure => simp [intOf]; omega
              · rw [List.take_of_length_le (by omega)] at hle
                omega

set_option maxHeartbeats 2000000 in
theorem specPick_any (s : Int) (v : Value) (xs : List Int) (w : World) (h : RdI w v xs) :
    Calls Try.prog 22 #[.int .i64 s, v] w fun e w' => e = .returned (.tuple #[.int .i64 (pwS s xs), .int .i64 (pwI s xs), .bool (pwB s xs)]) ∧ w = w' := by
  have hlen := h.2
  obtain ⟨p, cap, b, off, rfl, hcap, hp, hcell⟩ := h.parts
  have HC := Lib.hid hcell; clear hcell
  have HP := Lib.hid hp; clear hp
  go_enter Try.func22, Try.ntmps22
  go_wp2
  go_loop [7, 8] (fun t i => ∃ k : Nat, k ≤ xs.length ∧ i = .int .i64 k ∧ t = .int .i64 (sumI (xs.take k)) ∧ Hid (allR 0 1000 (xs.take k) = true)) (fun _ i => xs.length - (intOf i).toNat)
  case atStart => exact ⟨0, Nat.zero_le _, rfl, rfl, Lib.hid rfl⟩
  case round =>
    obtain ⟨k, hk, rfl, rfl, HA⟩ := hrel
    obtain ⟨s1, s2⟩ := take_bound HA.out hlen
    by_cases hlt : k < xs.length
    · obtain rfl := HP.out (by omega)
      have c1 := HC.out k hlt
      cases hx : inR xs[k] 0 1000
      · have hB : pwB s xs = false := by simp [pwB, allR_not k hlt hx]
        obtain ⟨e1, e2⟩ := pw_no hB
        go_wp2_with ((go_at_call 27; refine (l1In_any _ _ _ _).mono ?_; rintro e w' ⟨rfl, rfl⟩))
        go_ret3
        exact ⟨by simp [hB, e1, e2], rfl⟩
      · obtain ⟨x1, x2⟩ := inR_true.1 hx
        go_wp2_with ((go_at_call 27; refine (l1In_any _ _ _ _).mono ?_; rintro e w' ⟨rfl, rfl⟩))
        go_round
        case rel => exact ⟨k + 1, by omega, by go_num, by rw [sumI_take_succ xs k hlt], Lib.hid (by rw [List.take_succ_eq_append_getElem hlt, allR_append, HA.out]; simp [allR, hx])⟩
        case measure => simp [intOf]; omega
    · have hkl : xs.take k = xs := List.take_of_length_le (by omega)
      have hall : allR 0 1000 xs = true := by rw [← hkl]; exact HA.out
      have HALL := Lib.hid hall; clear hall
      rw [hkl] at s1 s2 ⊢
      clear hkl
      cases h1 : inR s 1 2147483646
      · have hB : pwB s xs = false := by simp [pwB, h1]
        obtain ⟨e1, e2⟩ := pw_no hB
        go_wp2_with (first | (go_at_call 26; refine (l20State_any _ _).mono ?_; rintro e w' ⟨rfl, rfl⟩) | (go_at_call 27; refine (l1In_any _ _ _ _).mono ?_; rintro e w' ⟨rfl, rfl⟩))
        go_ret3
        exact ⟨by simp [hB, e1, e2], rfl⟩
      · cases h2 : inR xs.length 1 20
        · have hB : pwB s xs = false := by simp [pwB, h2]
          obtain ⟨e1, e2⟩ := pw_no hB
          go_wp2_with (first | (go_at_call 26; refine (l20State_any _ _).mono ?_; rintro e w' ⟨rfl, rfl⟩) | (go_at_call 27; refine (l1In_any _ _ _ _).mono ?_; rintro e w' ⟨rfl, rfl⟩))
          go_ret3
          exact ⟨by simp [hB, e1, e2], rfl⟩
        · obtain ⟨a1, a2⟩ := inR_true.1 h1
          obtain ⟨b1, b2⟩ := inR_true.1 h2
          by_cases hz : sumI xs = 0
          · have hB : pwB s xs = false := by simp [pwB, hz]
            obtain ⟨e1, e2⟩ := pw_no hB
            have hz' : (sumI xs == 0) = true := by simpa using hz
            clear hz
            go_wp2_with (first | (go_at_call 26; refine (l20State_any _ _).mono ?_; rintro e w' ⟨rfl, rfl⟩) | (go_at_call 27; refine (l1In_any _ _ _ _).mono ?_; rintro e w' ⟨rfl, rfl⟩))
            go_ret3
            exact ⟨by simp [hB, e1, e2], rfl⟩
          · have hB : pwB s xs = true := by simp [pwB, h1, h2, HALL.out, hz]
            have hz' : (sumI xs == 0) = false := by simpa using hz
            have hz0 : 1 ≤ sumI xs := by omega
            have hb20 : sumI xs ≤ 20000 := by have := (sumI_bound (by omega) _ HALL.out).2; omega
            obtain ⟨d1, d2⟩ := drawV_range s (sumI xs) hz0 (by omega)
            have HB := Lib.hid hB; clear hB
            clear hz
            go_wp2_with (first | (go_at_call 26; refine (l20State_any _ _).mono ?_; rintro e w' ⟨rfl, rfl⟩) | (go_at_call 27; refine (l1In_any _ _ _ _).mono ?_; rintro e w' ⟨rfl, rfl⟩) | (go_at_call 39; refine (l20Draw_any _ _ _ (by omega) (by omega) (by omega) (by omega)).mono ?_; rintro e w' ⟨rfl, rfl⟩))
            go_loop [10, 11] (fun t i => ∃ k : Nat, k < xs.length ∧ i = .int .i64 k ∧ t = .int .i64 (drawV s (sumI xs) - sumI (xs.take k)) ∧ sumI (xs.take k) ≤ drawV s (sumI xs) ∧ Hid (pickAt xs (drawV s (sumI xs)) k)) (fun _ i => xs.length - (intOf i).toNat)
            case atStart => exact ⟨0, by omega, rfl, by simp [sumI], d1, Lib.hid (pickAt_zero _ _)⟩
            case round =>
              obtain ⟨k, hlt, rfl, rfl, hle, HK⟩ := hrel
              obtain ⟨s1, s2⟩ := take_bound (allR_take HALL.out k) hlen
              obtain rfl := HP.out (by omega)
              have c1 := HC.out k hlt
              obtain ⟨x1, x2⟩ := allR_get HALL.out k hlt
              by_cases hgt : drawV s (sumI xs) - sumI (xs.take k) < xs[k]
              · go_wp2
                go_ret3
                exact ⟨by simp [pwS, pwI, HB.out, pickAt_stop HK.out hlt (by omega)], rfl⟩
              · have hnext : k + 1 < xs.length := by
                  rcases Nat.lt_or_ge (k + 1) xs.length with h5 | h5
                  · exact h5
                  · have h6 := sumI_take_succ xs k hlt
                    rw [List.take_of_length_le (by omega)] at h6
                    omega
                go_wp2
                go_round
                case rel => exact ⟨k + 1, hnext, by go_num, by rw [sumI_take_succ xs k hlt, Int.sub_sub], by rw [sumI_take_succ xs k hlt]; omega, Lib.hid (pickAt_succ HK.out hlt (by omega))⟩
                case measure => simp [intOf]; omega
end Go.Proofs.Ytbkkggbpekhenaa
