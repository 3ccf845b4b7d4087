/- Contracts of the law's own helpers on lists of numbers, and plain facts of the law on releases. -/
import Derived.Test.YtgmccafmopgjaaaEvOrd
import Derived.Test.YtgmccafmopgjaaaEvLoss
import Derived.Test.YtgmccafmopgjaaaEvTicks
import Derived.BigQuiet
namespace Go.Proofs.Ytgmccafmopgjaaa
open Go.RowKit

theorem rInts_same (v v' : Value) (xs : List Int) (w : World) (h : RdI w v xs) (h' : RdI w v' xs) :
    Calls Try.prog 11 #[v, v'] w fun e w' => e = .returned (.bool true) ∧ Below w.heap.size w w' := by
  have hlen := h.2
  obtain ⟨p, cap, b, off, rfl, hcap, hp, hcell⟩ := h.parts
  obtain ⟨p', cap', b', off', rfl, hcap', hp', hcell'⟩ := h'.parts
  have HC := Lib.hid hcell; clear hcell
  have HC' := Lib.hid hcell'; clear hcell'
  have HP := Lib.hid hp; clear hp h
  have HP' := Lib.hid hp'; clear hp' h'
  go_enter Try.func11, Try.ntmps11
  go_wp2
  go_loopw [5] (fun i wr => ∃ k : Nat, k ≤ xs.length ∧ i = .int .i64 k ∧ wr.heap = w.heap ∧ Below w.heap.size w wr) (fun i _ => xs.length - (intOf i).toNat)
  case atStart => exact ⟨0, Nat.zero_le _, rfl, rfl, Below.refl _ _⟩
  case round =>
    obtain ⟨k, hk, rfl, hh, hb⟩ := hrel
    by_cases hlt : k < xs.length
    · obtain rfl := HP.out (by omega)
      obtain rfl := HP'.out (by omega)
      have c1 := cell_on hb (HC.out k hlt)
      have c2 := cell_on hb (HC'.out k hlt)
      go_wp2
      go_quiet (fail)
      go_wp2
      go_roundw
      case rel => exact ⟨k + 1, by omega, by go_num, hh, hb.trans (below_eq ⟨_, rfl⟩)⟩
      case measure => (simp [intOf]; try omega)
    · go_wp2
      go_ret
      exact ⟨rfl, hb⟩
def sumI (xs : List Int) (n : Nat) : Int := (xs.take n).sum
theorem sumI_succ (xs : List Int) (n : Nat) (h : n < xs.length) : sumI xs (n + 1) = sumI xs n + xs[n] := by
  rw [sumI, List.take_succ_eq_append_getElem h, List.sum_append]; simp [sumI]
theorem sumI_range (xs : List Int) (hx : ∀ x ∈ xs, 0 ≤ x ∧ x ≤ 1000) (n : Nat) (hn : n ≤ xs.length) : 0 ≤ sumI xs n ∧ sumI xs n ≤ n * 1000 := by
  induction n with
  | zero => simp [sumI]
  | succ n ih =>
    have := ih (by omega)
    have := hx _ (List.getElem_mem (by omega : n < xs.length))
    rw [sumI_succ xs n (by omega)]
    omega
theorem rSum_any (v : Value) (xs : List Int) (w : World) (h : RdI w v xs) (hx : ∀ x ∈ xs, 0 ≤ x ∧ x ≤ 1000) (h8 : xs.length ≤ 100) :
    Calls Try.prog 17 #[v] w fun e w' => e = .returned (.int .i64 (sumI xs xs.length)) ∧ w = w' := by
  obtain ⟨p, cap, b, off, rfl, hcap, hp, hcell⟩ := h.parts
  have HC := Lib.hid hcell; clear hcell
  have HP := Lib.hid hp; clear hp h
  have HR := Lib.hid (sumI_range xs hx)
  have HX := Lib.hid hx; clear hx
  go_enter Try.func17, Try.ntmps17
  go_wp2
  go_loopw [3, 4] (fun s i wr => ∃ k : Nat, k ≤ xs.length ∧ i = .int .i64 k ∧ s = .int .i64 (sumI xs k) ∧ wr = w) (fun _ i _ => xs.length - (intOf i).toNat)
  case atStart => exact ⟨0, Nat.zero_le _, rfl, rfl, rfl⟩
  case round =>
    obtain ⟨k, hk, rfl, rfl, rfl⟩ := hrel
    by_cases hlt : k < xs.length
    · obtain rfl := HP.out (by omega)
      have c1 := HC.out k hlt
      obtain ⟨r1, r2⟩ := HR.out k (by omega)
      obtain ⟨x1, x2⟩ := HX.out _ (List.getElem_mem hlt)
      have HS := Lib.hid (sumI_succ xs k hlt)
      go_wp2
      go_roundw
      case rel => exact ⟨k + 1, by omega, by go_num, by (rw [HS.out]; try rfl), by first | rfl | trivial⟩
      case measure => (simp [intOf]; try omega)
    · obtain rfl : k = xs.length := by omega
      go_wp2
      go_ret
      exact ⟨rfl, rfl⟩
theorem afterSerial_any (x : Int) (w : World) (h0 : 0 ≤ x) (h1 : x ≤ 65535) :
    Calls Try.prog 12 #[.int .i64 x, .int .i64 1] w fun e w' => e = .returned (.tuple #[.int .i64 ((x + 1) % 65536), .bool true]) ∧ w = w' := by
  have hx : inR x 0 65535 = true := inR_true.2 ⟨h0, h1⟩
  have h11 : inR 1 (-65536) 65536 = true := by decide
  have HA : Hid (∀ w, Calls Try.prog 39 #[.int .i64 x, .int .i64 1] w fun e w' => e = .returned (.int .i64 ((x + 1) % 65536)) ∧ w = w') := by
    refine Lib.hid fun w => ?_
    go_enter Try.func39, Try.ntmps39
    go_wp2
    go_ret
    exact ⟨ret_int (by omega), rfl⟩
  go_enter Try.func12, Try.ntmps12
  go_wp2_with (first | (go_at_call 37; refine (isSerial_any _ _).mono ?_; rintro e w' ⟨rfl, rfl⟩) | (go_at_call 38; refine (within_any _ _ _ _).mono ?_; rintro e w' ⟨rfl, rfl⟩) | (go_at_call 39; refine (HA.out _).mono ?_; rintro e w' ⟨rfl, rfl⟩))
  go_ret2
  exact ⟨rfl, rfl⟩
/-- losses of all nodes are all losses -/
theorem cntL_sum (xs : List Ev) (hx : ∀ k (h : k < xs.length), evB xs[k] = true) (n : Nat) (hn : n ≤ xs.length) : (cntL xs n).sum = ((cntN (fun x => decide (x.k = 3)) xs n : Nat) : Int) := by
  induction n with
  | zero => simp [cntL_zero, cntN]
  | succ n ih =>
    have hv := evB_iff.1 (hx n (by omega))
    obtain ⟨m, hm⟩ := Int.eq_ofNat_of_zero_le hv.2.1.1
    rw [cntN_succ _ _ _ (by omega)]
    by_cases hk : xs[n].k = 3
    · obtain ⟨c, hc, h0, h1, hs⟩ := cntL_step xs n m (by omega) hk hm (by omega)
      rw [hs, if_pos (by simp [hk])]
      have hl := cntL_length xs n
      have hsum : ((cntL xs n).set m (c + 1)).sum = (cntL xs n).sum + 1 := by
        have hm8 : m < (cntL xs n).length := by omega
        have hcm : (cntL xs n)[m] = c := by rw [List.getElem?_eq_getElem hm8] at hc; exact Option.some.inj hc
        rw [List.set_eq_take_append_cons_drop, if_pos hm8]
        conv => rhs; rw [← List.take_append_drop m (cntL xs n), List.drop_eq_getElem_cons hm8, hcm]
        simp only [List.sum_append, List.sum_cons]
        omega
      rw [hsum, ih (by omega)]
      omega
    · rw [cntL_same xs n (by omega) hk, if_neg (by simp [hk]), ih (by omega)]
      omega
theorem tbV_nonneg (xs : List Ev) (number a b : Int) : 0 ≤ (tbV xs number a b).1 := by
  unfold tbV
  split
  · rename_i h
    have hs := (tsB_true.1 h.1).2.2
    have mono : ∀ i j (hij : i ≤ j) (hj : j < xs.length), (xs[i]'(by omega)).t ≤ xs[j].t := by
      intro i j hij hj
      induction j with
      | zero => obtain rfl : i = 0 := by omega
                exact Int.le_refl _
      | succ j ih =>
        by_cases he : i = j + 1
        · subst he; exact Int.le_refl _
        · have h1 := ih (by omega) (by omega)
          have h2 := hs j hj
          omega
    unfold tbW
    by_cases h1 : ∃ i, FirstAt (sentP number a) xs 0 i
    · obtain ⟨i, h1⟩ := h1
      rw [fiO_some h1]
      by_cases h2 : ∃ k, FirstAt (relP number b) xs i k
      · obtain ⟨k, h2⟩ := h2
        simp only [fiO_some h2]
        have hi := h1.2.1
        have hk := h2.2.1
        have := mono i k h2.1 hk
        rw [getElem!_pos xs k hk, getElem!_pos xs i hi]
        omega
      · simp [fiO, h2]
    · simp [fiO, h1]
  · simp
end Go.Proofs.Ytgmccafmopgjaaa
