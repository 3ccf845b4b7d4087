/- The groups of a node: the program's GroupsOf and the reference's, for all lists of at most 2^30 groups. Condition: names of at most 2^20 bytes. -/
import Derived.Test.YtpgonlfaeejakaaDoorGr4
import Derived.Test.YtpgonlfaeejakaaDoorStrS
import Derived.Test.YtpgonlfaeejakaaDoorSelMath
namespace Go.Proofs.YtpgonlfaeejakaaDoor
open Go.RowKit

def hasB (xs : List Int) (n : Int) : Bool := xs.any (fun x => decide (x = n))
theorem hasB_at {xs : List Int} {n : Int} (k : Nat) (h : k < xs.length) (he : xs[k] = n) : hasB xs n = true := by
  rw [hasB, List.any_eq_true]
  exact ⟨_, List.getElem_mem h, decide_eq_true he⟩
theorem hasB_no {xs : List Int} {n : Int} (h : ∀ k (h : k < xs.length), xs[k] ≠ n) : hasB xs n = false := by
  cases hb : hasB xs n with
  | false => rfl
  | true =>
    rw [hasB, List.any_eq_true] at hb
    obtain ⟨x, hx, he⟩ := hb
    obtain ⟨k, hk, rfl⟩ := List.getElem_of_mem hx
    exact absurd (of_decide_eq_true he) (h k hk)
set_option maxHeartbeats 1000000 in
theorem indexI_any (v : Value) (xs : List Int) (n : Int) (w : World) (h : RdI w v xs) :
    Calls Tryd.prog 35 #[v, .int .i64 n] w fun e w' => ∃ r : Int, e = .returned (.int .i64 r) ∧ decide (0 ≤ r) = hasB xs n ∧ -1 ≤ r ∧ w = w' := by
  have hlen := h.2
  obtain ⟨p, cap, b, off, rfl, hcap, hp, hcell⟩ := h.parts
  have HC := Lib.hid hcell; clear hcell
  have HP := Lib.hid hp; clear hp h
  go_enter Tryd.func35, Tryd.ntmps35
  go_wp2
  go_loopw [8] (fun i wr => ∃ (k : Nat), k ≤ xs.length ∧ i = .int .i64 k ∧ w = wr ∧ Hid (∀ j (h : j < xs.length), j < k → xs[j] ≠ n)) (fun i _ => xs.length - (intOf i).toNat)
  case atStart => exact ⟨0, Nat.zero_le _, rfl, rfl, Lib.hid fun j _ h => absurd h (by omega)⟩
  case round =>
    obtain ⟨k, hk, rfl, rfl, HF⟩ := hrel
    by_cases hlt : k < xs.length
    · obtain rfl := HP.out (by omega)
      have c1 := HC.out k hlt
      have HY := Lib.hid (fun h => hasB_at (n := n) k hlt h)
      have HN : Hid (xs[k] ≠ n → ∀ j (h : j < xs.length), j < k + 1 → xs[j] ≠ n) := Lib.hid (fun hh j h hj => by
        by_cases he : j = k
        · subst he; exact hh
        · exact HF.out j h (by omega))
      generalize xs[k] = x at *
      by_cases hx : n = x
      · have hx1 : (n == x) = true := by rw [beq_iff_eq]; exact hx
        have HY2 := Lib.hid (HY.out hx.symm)
        clear hx HN HY
        go_wp2
        go_ret
        exact ⟨_, rfl, by rw [HY2.out]; exact decide_eq_true (by omega), by omega, rfl⟩
      · have hx1 : (n == x) = false := by rw [beq_eq_false_iff_ne]; exact hx
        have HN2 := Lib.hid (HN.out (fun e => hx e.symm))
        clear hx HN HY
        go_wp2
        go_roundw
        case rel => exact ⟨k + 1, by omega, by go_num, by first | rfl | trivial, HN2⟩
        case measure => simp [intOf]; omega
    · have HE := Lib.hid (hasB_no (xs := xs) (n := n) fun j hj => HF.out j hj (by omega))
      go_wp2
      go_ret
      exact ⟨_, rfl, by rw [HE.out]; decide, by omega, rfl⟩
theorem containsI_any (v : Value) (xs : List Int) (n : Int) (w : World) (h : RdI w v xs) :
    Calls Tryd.prog 24 #[v, .int .i64 n] w fun e w' => e = .returned (.bool (hasB xs n)) ∧ w = w' := by
  have H := Lib.hid (indexI_any v xs n w h)
  obtain ⟨p, cap, b, off, rfl, _⟩ := h.parts
  clear h
  go_enter Tryd.func24, Tryd.ntmps24
  go_wp2_with fail
  refine H.out.mono ?_
  rintro e w1 ⟨r, rfl, hr, h1, rfl⟩
  go_wp2
  go_ret
  exact ⟨by first | rfl | exact ret_bool hr, rfl⟩
set_option maxHeartbeats 1000000 in
theorem l1Has_any (v : Value) (xs : List Int) (n : Int) (w : World) (h : RdI w v xs) :
    Calls Tryd.prog 22 #[v, .int .i64 n] w fun e w' => e = .returned (.bool (hasB xs n)) ∧ w = w' := by
  have hlen := h.2
  obtain ⟨p, cap, b, off, rfl, hcap, hp, hcell⟩ := h.parts
  have HC := Lib.hid hcell; clear hcell
  have HP := Lib.hid hp; clear hp h
  go_enter Tryd.func22, Tryd.ntmps22
  go_wp2
  go_loopw [5] (fun i wr => ∃ (k : Nat), k ≤ xs.length ∧ i = .int .i64 k ∧ w = wr ∧ Hid (∀ j (h : j < xs.length), j < k → xs[j] ≠ n)) (fun i _ => xs.length - (intOf i).toNat)
  case atStart => exact ⟨0, Nat.zero_le _, rfl, rfl, Lib.hid fun j _ h => absurd h (by omega)⟩
  case round =>
    obtain ⟨k, hk, rfl, rfl, HF⟩ := hrel
    by_cases hlt : k < xs.length
    · obtain rfl := HP.out (by omega)
      have c1 := HC.out k hlt
      have HY := Lib.hid (fun h => hasB_at (n := n) k hlt h)
      have HN : Hid (xs[k] ≠ n → ∀ j (h : j < xs.length), j < k + 1 → xs[j] ≠ n) := Lib.hid (fun hh j h hj => by
        by_cases he : j = k
        · subst he; exact hh
        · exact HF.out j h (by omega))
      generalize xs[k] = x at *
      by_cases hx : x = n
      · have hx1 : (x == n) = true := by rw [beq_iff_eq]; exact hx
        have HY2 := Lib.hid (HY.out hx)
        clear hx HN HY
        go_wp2
        go_ret
        exact ⟨ret_bool HY2.out.symm, rfl⟩
      · have hx1 : (x == n) = false := by rw [beq_eq_false_iff_ne]; exact hx
        have HN2 := Lib.hid (HN.out hx)
        clear hx HN HY
        go_wp2
        go_roundw
        case rel => exact ⟨k + 1, by omega, by go_num, by first | rfl | trivial, HN2⟩
        case measure => simp [intOf]; omega
    · have HE := Lib.hid (hasB_no (xs := xs) (n := n) fun j hj => HF.out j hj (by omega))
      go_wp2
      go_ret
      exact ⟨ret_bool HE.out.symm, rfl⟩
theorem l21Node_any (n : Int) (w : World) : Calls Tryd.prog 21 #[.int .i64 n] w fun e w' => e = .returned (.bool (inR n 1 7)) ∧ w = w' := by
  go_enter Tryd.func21, Tryd.ntmps21
  go_wp2_with ((go_at_call 33; refine (l1In_any _ _ _ _).mono ?_; rintro e w' ⟨rfl, rfl⟩))
  go_ret
  exact ⟨rfl, rfl⟩
end Go.Proofs.YtpgonlfaeejakaaDoor
