/- Contracts on trees: the program's IsValidTree, the reference's l6Good. -/
import Derived.Test.YtihpibdodlgpaaaGreatDoorNetI
namespace Go.Proofs.YtihpibdodlgpaaaGreatDoor
open Go.RowKit

/-- node k's parent is right -/
def tkB (xs : List Int) (k : Nat) : Bool := match xs[k]? with
  | none => true
  | some x => if k = 0 then x == -1 else inR x 0 ((k : Int) - 1)
def trB (xs : List Int) : Bool := inR (xs.length : Int) 2 8 && (List.range xs.length).all (tkB xs)
theorem trB_bad {xs : List Int} (k : Nat) (h : k < xs.length) (hb : tkB xs k = false) : trB xs = false := by
  have : (List.range xs.length).all (tkB xs) = false := by
    cases hr : (List.range xs.length).all (tkB xs) with
    | false => rfl
    | true =>
      have := List.all_eq_true.1 hr k (List.mem_range.2 h)
      rw [hb] at this; cases this
  rw [trB, this, Bool.and_false]
theorem trB_good {xs : List Int} (h : ∀ k, k < xs.length → tkB xs k = true) : trB xs = inR (xs.length : Int) 2 8 := by
  rw [trB, List.all_eq_true.2 fun k hk => h k (List.mem_range.1 hk), Bool.and_true]
theorem tkB_zero {xs : List Int} (h : 0 < xs.length) : tkB xs 0 = (xs[0] == -1) := by
  simp only [tkB, List.getElem?_eq_getElem h, if_true]
theorem tkB_succ {xs : List Int} {k : Nat} (h : k < xs.length) (h0 : k ≠ 0) : tkB xs k = inR xs[k] 0 ((k : Int) - 1) := by
  simp only [tkB, List.getElem?_eq_getElem h, if_neg h0]
set_option maxRecDepth 100000 in
set_option maxHeartbeats 4000000 in
theorem nTree_any (xs : List Int) (v : Value) (w : World) (h : kI.At 0 w v xs) (hn : xs.length ≤ 1048576) :
    Calls Tryz.prog 50 #[.agg #[v]] w fun e w' => e = .returned (.bool (trB xs)) ∧ Below w.heap.size w w' := by
  have hR := rdI_of h hn
  obtain ⟨p, cap, b, off, rfl, hcap, hp, hcell⟩ := hR.parts
  clear h hR
  have HC := Lib.hid (fun k (hk : k < xs.length) => cell_on (below_alloc1 w (.cells #[.slice p xs.length cap] 39)) (hcell k hk)); clear hcell
  have HPt := Lib.hid hp; clear hp
  go_enter Tryz.func50, Tryz.ntmps50
  go_wp2
  go_loopw [3, 4, 8] (fun _ _ i wr => ∃ k : Nat, k ≤ xs.length ∧ i = .int .i64 k ∧ wr = w.alloc (.cells #[.slice p xs.length cap] 39) ∧ Hid (∀ j, j < k → tkB xs j = true)) (fun _ _ i _ => xs.length - (intOf i).toNat)
  case atStart => exact ⟨0, Nat.zero_le _, rfl, rfl, Lib.hid fun j h => absurd h (by omega)⟩
  case round =>
    obtain ⟨k, hk, rfl, rfl, HF⟩ := hrel
    by_cases hlt : k < xs.length
    · obtain rfl := HPt.out (by omega)
      have c1 := HC.out k hlt
      have HN : Hid (tkB xs k = true → ∀ j, j < k + 1 → tkB xs j = true) := Lib.hid (fun h j hj => by
        by_cases he : j = k
        · subst he; exact h
        · exact HF.out j (by omega))
      have HB := Lib.hid (fun h => trB_bad k hlt h)
      by_cases h00 : k = 0
      · subst h00
        have HK := Lib.hid (tkB_zero hlt)
        simp only [Nat.add_zero] at c1
        generalize xs[0] = x at *
        by_cases hx : x = -1
        · subst hx
          go_wp2
          go_roundw
          case rel => exact ⟨0 + 1, by omega, by go_num, by first | rfl | trivial, Lib.hid (HN.out (by rw [HK.out]; rfl))⟩
          case measure => simp [intOf]; omega
        · have HX := Lib.hid (HB.out (by rw [HK.out]; simp [hx]))
          go_wp2
          go_ret
          exact ⟨ret_bool HX.out.symm, by go_grown⟩
      · have HK := Lib.hid (tkB_succ hlt h00)
        generalize xs[k] = x at *
        have hp0 : 0 < k := by omega
        have hp1 : (0 : Int) < (k : Int) := by omega
        have hw1 : IntKind.i64.wrap ((k : Int) - 1) = (k : Int) - 1 := by rw [IntKind.wrap_i64]; omega
        have hw2 : wrap64 ((k : Int) - 1) = (k : Int) - 1 := by simp only [wrap64]; omega
        have HW := Lib.hid (fun w => within_any x 0 ((k : Int) - 1) w)
        cases hx : inR x 0 ((k : Int) - 1)
        · rw [hx] at HW
          have HX := Lib.hid (HB.out (by rw [HK.out, hx]))
          clear hx
          go_wp2_with ((go_at_call 83; refine (HW.out _).mono ?_; rintro e w' ⟨rfl, rfl⟩))
          go_ret
          exact ⟨ret_bool HX.out.symm, by go_grown⟩
        · rw [hx] at HW
          have HX := Lib.hid (HN.out (by rw [HK.out, hx]))
          clear hx
          go_wp2_with ((go_at_call 83; refine (HW.out _).mono ?_; rintro e w' ⟨rfl, rfl⟩))
          go_roundw
          case rel => exact ⟨k + 1, by omega, by go_num, by first | rfl | trivial, HX⟩
          case measure => simp [intOf]; omega
    · have HG := Lib.hid (trB_good (xs := xs) (fun j hj => HF.out j (by omega)))
      go_wp2_with ((go_at_call 83; refine (within_any _ _ _ _).mono ?_; rintro e w' ⟨rfl, rfl⟩))
      go_ret
      exact ⟨ret_bool HG.out.symm, by go_grown⟩
set_option maxRecDepth 100000 in
set_option maxHeartbeats 4000000 in
theorem sTree_any (xs : List Int) (v : Value) (w : World) (h : kI.At 0 w v xs) (hn : xs.length ≤ 1048576) :
    Calls Tryz.prog 41 #[.agg #[v]] w fun e w' => e = .returned (.bool (trB xs)) ∧ Below w.heap.size w w' := by
  have hR := rdI_of h hn
  obtain ⟨p, cap, b, off, rfl, hcap, hp, hcell⟩ := hR.parts
  clear h hR
  have HC := Lib.hid (fun k (hk : k < xs.length) => cell_on (below_alloc1 w (.cells #[.slice p xs.length cap] 39)) (hcell k hk)); clear hcell
  have HPt := Lib.hid hp; clear hp
  cases h1 : inR (xs.length : Int) 2 8
  · have HV : Hid (trB xs = false) := Lib.hid (by rw [trB, h1]; rfl)
    go_enter Tryz.func41, Tryz.ntmps41
    go_wp2_with ((go_at_call 68; refine (l1In_any _ _ _ _).mono ?_; rintro e w' ⟨rfl, rfl⟩))
    go_ret
    exact ⟨ret_bool HV.out.symm, by go_grown⟩
  · have h0 : 0 < xs.length := by have := (inR_true.1 h1).1; omega
    have h8 : xs.length ≤ 8 := by have := (inR_true.1 h1).2; omega
    obtain rfl := HPt.out h0
    have c0 := HC.out 0 h0
    have HK0 := Lib.hid (tkB_zero h0)
    have HB0 := Lib.hid (fun h => trB_bad 0 h0 h)
    have h0i : (0 : Int) < (xs.length : Int) := by omega
    simp only [Nat.add_zero] at c0
    generalize hx0 : xs[0] = x0 at *
    clear hx0
    by_cases hx : x0 = -1
    · subst hx
      go_enter Tryz.func41, Tryz.ntmps41
      go_wp2_with ((go_at_call 68; refine (l1In_any _ _ _ _).mono ?_; rintro e w' ⟨rfl, rfl⟩))
      go_loopw [4] (fun i wr => ∃ k : Nat, 1 ≤ k ∧ k ≤ xs.length ∧ i = .int .i64 k ∧ wr = w.alloc (.cells #[.slice (some ⟨b, off, none⟩) xs.length cap] 39) ∧ Hid (∀ j, j < k → tkB xs j = true)) (fun i _ => xs.length - (intOf i).toNat)
      case atStart => exact ⟨1, Nat.le_refl _, by omega, rfl, rfl, Lib.hid fun j h => (by have e : j = 0 := (by omega); subst e; rw [HK0.out]; rfl)⟩
      case round =>
        obtain ⟨k, hk1, hk, rfl, rfl, HF⟩ := hrel
        by_cases hlt : k < xs.length
        · have c1 := HC.out k hlt
          have HN : Hid (tkB xs k = true → ∀ j, j < k + 1 → tkB xs j = true) := Lib.hid (fun h j hj => by
            by_cases he : j = k
            · subst he; exact h
            · exact HF.out j (by omega))
          have HB := Lib.hid (fun h => trB_bad k hlt h)
          have HK := Lib.hid (tkB_succ hlt (by omega))
          generalize xs[k] = x at *
          have hw1 : IntKind.i64.wrap ((k : Int) - 1) = (k : Int) - 1 := by rw [IntKind.wrap_i64]; omega
          have hw2 : wrap64 ((k : Int) - 1) = (k : Int) - 1 := by simp only [wrap64]; omega
          have HW := Lib.hid (fun w => l1In_any x 0 ((k : Int) - 1) w)
          cases hx : inR x 0 ((k : Int) - 1)
          · rw [hx] at HW
            have HX := Lib.hid (HB.out (by rw [HK.out, hx]))
            clear hx
            go_wp2_with ((go_at_call 68; refine (HW.out _).mono ?_; rintro e w' ⟨rfl, rfl⟩))
            go_ret
            exact ⟨ret_bool HX.out.symm, by go_grown⟩
          · rw [hx] at HW
            have HX := Lib.hid (HN.out (by rw [HK.out, hx]))
            clear hx
            go_wp2_with ((go_at_call 68; refine (HW.out _).mono ?_; rintro e w' ⟨rfl, rfl⟩))
            go_roundw
            case rel => exact ⟨k + 1, by omega, by omega, by go_num, by first | rfl | trivial, HX⟩
            case measure => simp [intOf]; omega
        · have HG := Lib.hid ((trB_good (xs := xs) (fun j hj => HF.out j (by omega))).trans h1)
          go_wp2
          go_ret
          exact ⟨ret_bool HG.out.symm, by go_grown⟩
    · have HX := Lib.hid (HB0.out (by rw [HK0.out]; simp [hx]))
      go_enter Tryz.func41, Tryz.ntmps41
      go_wp2_with ((go_at_call 68; refine (l1In_any _ _ _ _).mono ?_; rintro e w' ⟨rfl, rfl⟩))
      go_ret
      exact ⟨ret_bool HX.out.symm, by go_grown⟩
end Go.Proofs.YtihpibdodlgpaaaGreatDoor
