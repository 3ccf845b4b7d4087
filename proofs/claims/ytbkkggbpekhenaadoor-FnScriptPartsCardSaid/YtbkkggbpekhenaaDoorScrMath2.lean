/- Plain laws for the law on scripts' parts: repeated scripts, and the first difference from either side. -/
import Derived.Test.YtbkkggbpekhenaaDoorScrMath
import Derived.Test.YtbkkggbpekhenaaDoorScr6
namespace Go.Proofs.YtbkkggbpekhenaaDoor
open Go.RowKit

theorem fdN_sym : ∀ xs ys : List St, fdN ys xs = fdN xs ys
  | [], [] => rfl
  | [], _ :: _ => rfl
  | _ :: _, [] => rfl
  | x :: xs, y :: ys => by
    rw [fdN, fdN]
    by_cases h : x = y
    · rw [if_pos h.symm, if_pos h, fdN_sym xs ys]
    · rw [if_neg (fun e => h e.symm), if_neg h]
theorem fdB_sym (xs ys : List St) : fdB ys xs = fdB xs ys := by
  rw [fdB, fdB, Bool.and_comm (scB ys)]
  congr 2
  by_cases h : xs = ys
  · rw [h]
  · rw [decide_eq_false h, decide_eq_false (fun e => h e.symm)]
theorem fdV_sym (xs ys : List St) : fdV ys xs = fdV xs ys := by rw [fdV, fdV, fdB_sym, fdN_sym]
theorem fdN_facts : ∀ xs ys : List St, fdN xs ys ≤ xs.length ∧ fdN xs ys ≤ ys.length ∧ xs.take (fdN xs ys) = ys.take (fdN xs ys) ∧ ∀ (h : fdN xs ys < xs.length) (h' : fdN xs ys < ys.length), xs[fdN xs ys] ≠ ys[fdN xs ys]
  | [], [] => ⟨Nat.le_refl _, Nat.le_refl _, rfl, fun h => by cases h⟩
  | [], _ :: _ => ⟨Nat.le_refl _, Nat.zero_le _, rfl, fun h => by cases h⟩
  | _ :: _, [] => ⟨Nat.zero_le _, Nat.le_refl _, rfl, fun _ h => by cases h⟩
  | x :: xs, y :: ys => by
    by_cases h : x = y
    · have e : fdN (x :: xs) (y :: ys) = fdN xs ys + 1 := by rw [fdN, if_pos h]
      obtain ⟨h1, h2, h3, h4⟩ := fdN_facts xs ys
      refine ⟨by rw [e]; simpa using h1, by rw [e]; simpa using h2, by rw [e, List.take_succ_cons, List.take_succ_cons, h, h3], fun g g' => ?_⟩
      simp only [e, List.getElem_cons_succ]
      exact h4 (by rw [e] at g; simpa using g) (by rw [e] at g'; simpa using g')
    · have e : fdN (x :: xs) (y :: ys) = 0 := by rw [fdN, if_neg h]
      refine ⟨by rw [e]; exact Nat.zero_le _, by rw [e]; exact Nat.zero_le _, by rw [e]; rfl, fun g g' => ?_⟩
      simp only [e, List.getElem_cons_zero]
      exact h
theorem fd_facts {xs ys : List St} (h : fdB xs ys = true) : ∃ k : Nat, fdV xs ys = k ∧ k ≤ xs.length ∧ k ≤ ys.length ∧ xs.take k = ys.take k ∧ ∀ (h : k < xs.length) (h' : k < ys.length), xs[k] ≠ ys[k] := by
  obtain ⟨h1, h2, h3, h4⟩ := fdN_facts xs ys
  exact ⟨fdN xs ys, fd_yes h, h1, h2, h3, h4⟩
theorem siL_len (xs : List St) : (siL xs).length ≤ xs.length := by
  unfold siL
  split
  · show (selN (fun _ (x : St) => if x.kd = 1 then some x.dt else none) _ _).length ≤ _
    rw [selN_pick, List.take_length]
    exact List.length_filterMap_le _ _
  · exact Nat.zero_le _
theorem rep_facts {xs : List St} {t : Int} (h : repB xs t = true) : ∃ n : Nat, t = n ∧ n ≤ 30 ∧ xs.length ≤ 30 ∧ scB xs = true ∧ scB (repV xs t) = true ∧ (repV xs t).length = n * xs.length ∧ (siL (repV xs t)).length = n * (siL xs).length ∧ (siL xs).length ≤ 30 ∧
    ∀ i (hi : i < (siL (repV xs t)).length), ∃ h2 : i % (siL xs).length < (siL xs).length, (siL (repV xs t))[i] = (siL xs)[i % (siL xs).length] := by
  have h' := h
  rw [repB, Bool.and_eq_true, Bool.and_eq_true, inR_true, decide_eq_true_eq] at h'
  obtain ⟨hs, ⟨h0, h1⟩, h2⟩ := h'
  obtain ⟨n, rfl⟩ := Int.eq_ofNat_of_zero_le h0
  have hm : n * xs.length ≤ 30 := by omega
  obtain ⟨r1, r2⟩ := siL_rep hs hm
  have hv : repV xs (n : Int) = repL xs n := by rw [repV, if_pos h]; rfl
  have hl := (scB_true.1 hs).1
  have hsl := siL_len xs
  rw [hv, r2]
  refine ⟨n, rfl, by omega, hl, hs, r1, repL_length _ _, repL_length _ _, by omega, fun i hi => ?_⟩
  rw [repL_length] at hi
  have hp : 0 < (siL xs).length := by
    rcases Nat.eq_zero_or_pos (siL xs).length with e | e
    · rw [e, Nat.mul_zero] at hi; omega
    · exact e
  refine ⟨Nat.mod_lt _ hp, ?_⟩
  have hg := repL_get (siL xs) n i hi
  rw [List.getElem?_eq_getElem (by rw [repL_length]; exact hi), List.getElem?_eq_getElem (Nat.mod_lt _ hp)] at hg
  exact Option.some.inj hg
theorem RdSt.take {w : World} {p : Option Addr} {cap : Nat} {xs : List St} (h : RdSt w (.slice p xs.length cap) xs) (k : Nat) (hk : k ≤ xs.length) : RdSt w (.slice p k cap) (xs.take k) := by
  obtain ⟨⟨hl, q, cap', b, off, hv, hcap, hnil, hc⟩, h1, h2⟩ := h
  obtain ⟨rfl, -, rfl⟩ := Value.slice.inj hv
  have hkl : (xs.take k).length = k := by rw [List.length_take]; omega
  refine ⟨⟨by rw [flat_length St.cells 3 St.cells_length], p, cap, b, off, by rw [hkl], by omega, hnil, fun hn => ⟨(hc (by omega)).1, fun j hj => ?_⟩⟩, by omega, fun x hx => h2 x (List.mem_of_mem_take hx)⟩
  rw [hkl] at hj
  rw [(hc (by omega)).2 j (by omega)]
  have e : xs.flatMap St.cells = (xs.take k).flatMap St.cells ++ (xs.drop k).flatMap St.cells := by rw [← List.flatMap_append, List.take_append_drop]
  rw [e, List.getElem?_append_left (by rw [flat_length St.cells 3 St.cells_length, hkl]; exact hj)]
end Go.Proofs.YtbkkggbpekhenaaDoor
