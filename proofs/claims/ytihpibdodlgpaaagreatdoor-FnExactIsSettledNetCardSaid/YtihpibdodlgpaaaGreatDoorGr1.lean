/- Names of groups and lists of members: the program's and the reference's tests. Condition: texts of at most 2^20 bytes. -/
import Derived.Test.YtihpibdodlgpaaaGreatDoorLet
import Derived.Test.YtihpibdodlgpaaaGreatDoorIntS
import Derived.Test.YtihpibdodlgpaaaGreatDoorKeep
import Derived.BigQuiet
namespace Go.Proofs.YtihpibdodlgpaaaGreatDoor
open Go.RowKit

/-- a group's name -/
def gnB (s : ByteArray) : Bool := inR s.size 1 8 && letB s
/-- member k of a list is a face, and above the one before it -/
def fcB (xs : List Int) (k : Nat) : Bool := match xs[k]? with
  | none => true
  | some x => inR x 1 7 && (match k with
    | 0 => true
    | m + 1 => match xs[m]? with
      | none => true
      | some y => decide (y < x))
def riB (xs : List Int) : Bool := (List.range xs.length).all (fcB xs)
theorem riB_bad {xs : List Int} (k : Nat) (h : k < xs.length) (hb : fcB xs k = false) : riB xs = false := by
  cases hr : riB xs with
  | false => rfl
  | true =>
    have := List.all_eq_true.1 hr k (List.mem_range.2 h)
    rw [hb] at this; cases this
theorem riB_good {xs : List Int} (h : ∀ k, k < xs.length → fcB xs k = true) : riB xs = true :=
  List.all_eq_true.2 fun k hk => h k (List.mem_range.1 hk)
theorem fcB_zero {xs : List Int} (h : 0 < xs.length) : fcB xs 0 = inR xs[0] 1 7 := by
  simp only [fcB, List.getElem?_eq_getElem h, Bool.and_true]
theorem fcB_succ {xs : List Int} {m : Nat} (h : m + 1 < xs.length) : fcB xs (m + 1) = (inR xs[m + 1] 1 7 && decide (xs[m] < xs[m + 1])) := by
  simp only [fcB, List.getElem?_eq_getElem h, List.getElem?_eq_getElem (show m < xs.length by omega)]
theorem gFace_any (n : Int) (w : World) : Calls Tryz.prog 141 #[.int .i64 n] w fun e w' => e = .returned (.bool (inR n 1 7)) ∧ w = w' := by
  go_enter Tryz.func141, Tryz.ntmps141
  go_wp2_with ((go_at_call 83; refine (within_any _ _ _ _).mono ?_; rintro e w' ⟨rfl, rfl⟩))
  go_ret
  exact ⟨rfl, rfl⟩
set_option maxRecDepth 100000 in
set_option maxHeartbeats 2000000 in
theorem areFaces_any (v : Value) (xs : List Int) (w : World) (h : RdI w v xs) :
    Calls Tryz.prog 123 #[v] w fun e w' => e = .returned (.bool (riB xs)) ∧ w = w' := by
  have hlen := h.2
  obtain ⟨p, cap, b, off, rfl, hcap, hp, hcell⟩ := h.parts
  have HC := Lib.hid hcell; clear hcell
  have HP := Lib.hid hp; clear hp h
  go_enter Tryz.func123, Tryz.ntmps123
  go_wp2
  go_loopw [7] (fun i wr => ∃ (k : Nat), k ≤ xs.length ∧ i = .int .i64 k ∧ w = wr ∧ Hid (∀ j, j < k → fcB xs j = true)) (fun i _ => xs.length - (intOf i).toNat)
  case atStart => exact ⟨0, Nat.zero_le _, rfl, rfl, Lib.hid fun j h => absurd h (by omega)⟩
  case round =>
    obtain ⟨k, hk, rfl, rfl, HF⟩ := hrel
    by_cases hlt : k < xs.length
    · obtain rfl := HP.out (by omega)
      have c1 := HC.out k hlt
      have HN : Hid (fcB xs k = true → ∀ j, j < k + 1 → fcB xs j = true) := Lib.hid (fun h j hj => by
        by_cases he : j = k
        · subst he; exact h
        · exact HF.out j (by omega))
      have HB := Lib.hid (fun h => riB_bad k hlt h)
      have HFa := Lib.hid (fun w => gFace_any xs[k] w)
      by_cases h00 : k = 0
      · subst h00
        have HK := Lib.hid (fcB_zero hlt)
        simp only [Nat.add_zero] at c1
        generalize xs[0] = x at *
        cases hx : inR x 1 7
        · rw [hx] at HFa HK
          go_wp2_with fail
          refine (HFa.out _).mono ?_
          rintro e w1 ⟨rfl, rfl⟩
          go_wp2
          go_ret
          exact ⟨ret_bool (HB.out HK.out).symm, rfl⟩
        · rw [hx] at HFa HK
          go_wp2_with fail
          refine (HFa.out _).mono ?_
          rintro e w1 ⟨rfl, rfl⟩
          go_wp2
          go_roundw
          case rel => exact ⟨0 + 1, by omega, by go_num, by first | rfl | trivial, Lib.hid (HN.out HK.out)⟩
          case measure => simp [intOf]; omega
      · obtain ⟨m, hm⟩ : ∃ m, k = m + 1 := ⟨k - 1, by omega⟩
        have hm1 : m < xs.length := by omega
        have c2 := HC.out m hm1
        have HK : Hid (fcB xs k = (inR xs[k] 1 7 && decide (xs[m] < xs[k]))) := Lib.hid (by subst hm; exact fcB_succ hlt)
        have w1' : IntKind.i64.wrap ((k : Int) - 1) = m := by rw [IntKind.wrap_i64]; omega
        have w2' : wrap64 ((k : Int) - 1) = m := by simp only [wrap64]; omega
        have hpos : (0 : Int) < (k : Int) := by omega
        have hpos2 : 0 < k := by omega
        clear hm
        generalize xs[k] = x at *
        generalize xs[m] = y at *
        cases hx : inR x 1 7
        · rw [hx] at HFa HK
          go_wp2_with fail
          refine (HFa.out _).mono ?_
          rintro e w1 ⟨rfl, rfl⟩
          go_wp2
          go_ret
          exact ⟨ret_bool (HB.out (by rw [HK.out]; rfl)).symm, rfl⟩
        · rw [hx] at HFa HK
          by_cases hyx : y < x
          · go_wp2_with fail
            refine (HFa.out _).mono ?_
            rintro e w1 ⟨rfl, rfl⟩
            go_wp2
            go_roundw
            case rel => exact ⟨k + 1, by omega, by go_num, by first | rfl | trivial, Lib.hid (HN.out (by rw [HK.out, decide_eq_true hyx]; rfl))⟩
            case measure => simp [intOf]; omega
          · have hxy : x ≤ y := by omega
            go_wp2_with fail
            refine (HFa.out _).mono ?_
            rintro e w1 ⟨rfl, rfl⟩
            go_wp2
            go_ret
            exact ⟨ret_bool (HB.out (by rw [HK.out, decide_eq_false (by omega)]; rfl)).symm, rfl⟩
    · have HE : Hid (riB xs = true) := Lib.hid (riB_good fun j hj => HF.out j (by omega))
      go_wp2
      go_ret
      exact ⟨ret_bool HE.out.symm, rfl⟩
set_option maxRecDepth 100000 in
set_option maxHeartbeats 4000000 in
theorem l1Rising_any (v : Value) (xs : List Int) (w : World) (h : RdI w v xs) :
    Calls Tryz.prog 131 #[v, .int .i64 1, .int .i64 7] w fun e w' => e = .returned (.bool (riB xs)) ∧ ∃ n, w' = w.drewN n := by
  have hlen := h.2
  obtain ⟨p, cap, b, off, rfl, hcap, hp, hcell⟩ := h.parts
  have HC := Lib.hid hcell; clear hcell
  have HP := Lib.hid hp; clear hp h
  go_enter Tryz.func131, Tryz.ntmps131
  go_wp2
  go_loopw [7] (fun i wr => ∃ (k n : Nat), k ≤ xs.length ∧ i = .int .i64 k ∧ wr = w.drewN n ∧ Hid (∀ j, j < k → fcB xs j = true)) (fun i _ => xs.length - (intOf i).toNat)
  case atStart => exact ⟨0, 0, Nat.zero_le _, rfl, rfl, Lib.hid fun j h => absurd h (by omega)⟩
  case round =>
    obtain ⟨k, n, hk, rfl, hwr, HF⟩ := hrel
    have HWr := Lib.hid hwr; clear hwr
    by_cases hlt : k < xs.length
    · obtain rfl := HP.out (by omega)
      have c1 := cell_on (below_eq ⟨n, HWr.out⟩) (HC.out k hlt)
      have HN : Hid (fcB xs k = true → ∀ j, j < k + 1 → fcB xs j = true) := Lib.hid (fun h j hj => by
        by_cases he : j = k
        · subst he; exact h
        · exact HF.out j (by omega))
      have HB := Lib.hid (fun h => riB_bad k hlt h)
      have HFa := Lib.hid (fun w => l1In_any xs[k] 1 7 w)
      by_cases h00 : k = 0
      · subst h00
        have HK := Lib.hid (fcB_zero hlt)
        simp only [Nat.add_zero] at c1
        generalize xs[0] = x at *
        cases hx : inR x 1 7
        · rw [hx] at HFa HK
          have HFw := Lib.hid (fun m => (HFa.out (wr.drewN m)).mono (fun e w' h => (⟨h.1, ⟨m, h.2.symm⟩⟩ : e = .returned (.bool false) ∧ ∃ q, w' = wr.drewN q)))
          clear hx
          go_wp2_with fail
          go_quiet ((go_at_call 68; exact HFw.out _))
          go_wp2
          go_ret
          exact ⟨ret_bool (HB.out HK.out).symm, n + nq, by rw [HWr.out]; simp⟩
        · rw [hx] at HFa HK
          have HFw := Lib.hid (fun m => (HFa.out (wr.drewN m)).mono (fun e w' h => (⟨h.1, ⟨m, h.2.symm⟩⟩ : e = .returned (.bool true) ∧ ∃ q, w' = wr.drewN q)))
          clear hx
          go_wp2_with fail
          go_quiet ((go_at_call 68; exact HFw.out _))
          go_wp2
          go_roundw
          case rel => exact ⟨0 + 1, n + nq, by omega, by go_num, by rw [HWr.out]; simp, Lib.hid (HN.out HK.out)⟩
          case measure => simp [intOf]; omega
      · obtain ⟨m, hm⟩ : ∃ m, k = m + 1 := ⟨k - 1, by omega⟩
        have hm1 : m < xs.length := by omega
        have c2 := cell_on (below_eq ⟨n, HWr.out⟩) (HC.out m hm1)
        have HK : Hid (fcB xs k = (inR xs[k] 1 7 && decide (xs[m] < xs[k]))) := Lib.hid (by subst hm; exact fcB_succ hlt)
        have w1' : IntKind.i64.wrap ((k : Int) - 1) = m := by rw [IntKind.wrap_i64]; omega
        have w2' : wrap64 ((k : Int) - 1) = m := by simp only [wrap64]; omega
        have hpos : (0 : Int) < (k : Int) := by omega
        have hpos2 : 0 < k := by omega
        clear hm
        generalize xs[k] = x at *
        generalize xs[m] = y at *
        cases hx : inR x 1 7
        · rw [hx] at HFa HK
          have HFw := Lib.hid (fun m => (HFa.out (wr.drewN m)).mono (fun e w' h => (⟨h.1, ⟨m, h.2.symm⟩⟩ : e = .returned (.bool false) ∧ ∃ q, w' = wr.drewN q)))
          clear hx
          go_wp2_with fail
          go_quiet ((go_at_call 68; exact HFw.out _))
          go_wp2
          go_ret
          exact ⟨ret_bool (HB.out (by rw [HK.out]; rfl)).symm, n + nq, by rw [HWr.out]; simp⟩
        · rw [hx] at HFa HK
          have HFw := Lib.hid (fun m => (HFa.out (wr.drewN m)).mono (fun e w' h => (⟨h.1, ⟨m, h.2.symm⟩⟩ : e = .returned (.bool true) ∧ ∃ q, w' = wr.drewN q)))
          clear hx
          have hge : decide (x ≤ y) = !decide (y < x) := by
            by_cases h : y < x
            · rw [decide_eq_true h, decide_eq_false (by omega)]; rfl
            · rw [decide_eq_false h, decide_eq_true (by omega)]; rfl
          cases hyx : decide (y < x)
          · rw [hyx] at HK hge
            have hge' : decide (x ≤ y) = true := hge
            clear hge hyx
            go_wp2_with fail
            go_quiet ((go_at_call 68; exact HFw.out _))
            go_wp2
            go_ret
            exact ⟨ret_bool (HB.out (by rw [HK.out]; rfl)).symm, n + nq, by rw [HWr.out]; simp⟩
          · rw [hyx] at HK hge
            have hge' : decide (x ≤ y) = false := hge
            clear hge hyx
            go_wp2_with fail
            go_quiet ((go_at_call 68; exact HFw.out _))
            go_wp2
            go_roundw
            case rel => exact ⟨k + 1, n + nq, by omega, by go_num, by rw [HWr.out]; simp, Lib.hid (HN.out (by rw [HK.out]; rfl))⟩
            case measure => simp [intOf]; omega
    · have HE : Hid (riB xs = true) := Lib.hid (riB_good fun j hj => HF.out j (by omega))
      go_wp2
      go_ret
      exact ⟨ret_bool HE.out.symm, n, HWr.out⟩
end Go.Proofs.YtihpibdodlgpaaaGreatDoor
