/- Plain laws for the law on random lists: a shuffled list has the same numbers, draws lie below their limit, an index is drawn by a weight that is not 0, letters at 0 and at 100 per cent. No program's text is walked here. -/
import Derived.Test.YtbkkggbpekhenaaDraw2
import Derived.Test.YtbkkggbpekhenaaDraw4
import Derived.Test.YtbkkggbpekhenaaDraw5
import Derived.Test.YtbkkggbpekhenaaDraw6
import Derived.Test.YtbkkggbpekhenaaDraw7
namespace Go.Proofs.Ytbkkggbpekhenaa
open Go.RowKit

theorem swapL_perm (L : List Int) (i k : Nat) (hi : i < L.length) (hk : k < L.length) : (swapL L i k).Perm L := by
  unfold swapL
  rw [List.getD_eq_getElem?_getD, List.getD_eq_getElem?_getD, List.getElem?_eq_getElem hi, List.getElem?_eq_getElem hk]
  exact List.set_set_perm hi hk
theorem shufL_perm (i : Nat) (s : Int) (L : List Int) (hi : i ≤ L.length) (hl : L.length ≤ 50) : (shufL i s L).2.Perm L := by
  induction i generalizing s L with
  | zero => exact List.Perm.refl _
  | succ i ih =>
    rw [shufL]
    split
    · exact List.Perm.refl _
    · have hd := drawV_range s ((i : Int) + 1) (by omega) (by omega)
      refine (ih _ _ (by rw [swapL_length]; omega) (by rw [swapL_length]; omega)).trans (swapL_perm L i _ (by omega) (by omega))
theorem shL_perm {s : Int} {xs : List Int} (h : shB s xs = true) : (shL s xs).Perm xs := by
  unfold shL
  rw [if_pos h]
  simp only [shB, Bool.and_eq_true, decide_eq_true_eq] at h
  exact shufL_perm _ _ _ (Nat.le_refl _) h.2
/-- how often y stands among the first k -/
def cntI (xs : List Int) (y : Int) (k : Nat) : Nat := (xs.take k).count y
theorem cntI_zero (xs : List Int) (y : Int) : cntI xs y 0 = 0 := rfl
theorem cntI_succ (xs : List Int) (y : Int) (k : Nat) (h : k < xs.length) : cntI xs y (k + 1) = cntI xs y k + (if xs[k] = y then 1 else 0) := by
  rw [cntI, List.take_succ_eq_append_getElem h, List.count_append, cntI, List.count_singleton]
  by_cases e : xs[k] = y
  · simp [e]
  · simp [e, beq_eq_false_iff_ne.2 e]
theorem cntI_le (xs : List Int) (y : Int) (k : Nat) : cntI xs y k ≤ k := Nat.le_trans List.count_le_length (List.length_take_le _ _)
theorem cntI_end {s : Int} {xs : List Int} (h : shB s xs = true) (y : Int) : cntI (shL s xs) y xs.length = cntI xs y xs.length := by
  have hp := shL_perm h
  rw [cntI, cntI, List.take_length, ← hp.length_eq, List.take_length]
  exact hp.count_eq y
theorem shL_len {s : Int} {xs : List Int} (h : shB s xs = true) : (shL s xs).length = xs.length := (shL_perm h).length_eq
theorem stN_mp (s : Int) (h0 : 0 ≤ s) (h1 : s < 2147483647) (k : Nat) : stN s k = DM.mp s 16807 k := by
  induction k with
  | zero => rw [stN_zero, DM.mp_zero s 16807 h0 h1]
  | succ k ih => rw [stN_succ, ih, nextV_mp, DM.mp_mp]
theorem rb_skip {s n c : Int} (h : rbB s n c = true) : skipB s c = true ∧ skipV s c = rbS s n c ∧ 0 ≤ c ∧ c ≤ 50 ∧ (rbL s n c).length = c.toNat ∧ 1 ≤ n ∧ n ≤ 1000000 := by
  have h' := h
  rw [rbB, Bool.and_eq_true, Bool.and_eq_true, inR_true, inR_true, inR_true] at h'
  obtain ⟨⟨h1, h2⟩, h3⟩ := h'
  have hs : inR s 1 2147483646 = true := inR_true.2 h1
  have hc : inR c 0 1000000000000 = true := inR_true.2 ⟨h3.1, by omega⟩
  refine ⟨by rw [skipB_in s c hc]; exact hs, ?_, h3.1, h3.2, by rw [rbL, if_pos h, rollsL_length], h2.1, h2.2⟩
  rw [skipV_ok hs hc, rbS, if_pos h, stN_mp s (by omega) (by omega)]
theorem rolls_mem {s n : Int} (h0 : 1 ≤ n) (hn : n ≤ 1000000) : ∀ k, ∀ x ∈ rollsL s n k, 0 ≤ x ∧ x < n
  | 0, x, h => by cases h
  | k + 1, x, h => by
    rcases List.mem_append.1 h with h | h
    · exact rolls_mem h0 hn k x h
    · rw [List.mem_singleton] at h
      subst h
      exact drawV_range _ n h0 hn
theorem rb_range {s n c : Int} (h : rbB s n c = true) (i : Nat) (hi : i < (rbL s n c).length) : 0 ≤ (rbL s n c)[i] ∧ (rbL s n c)[i] < n := by
  obtain ⟨_, _, _, _, _, h1, h2⟩ := rb_skip h
  have hm := List.getElem_mem hi
  have e : rbL s n c = rollsL s n c.toNat := by rw [rbL, if_pos h]
  generalize (rbL s n c)[i] = y at *
  rw [e] at hm
  exact rolls_mem h1 h2 c.toNat y hm
theorem pick_lt : ∀ (xs : List Int) (r : Int), 0 ≤ r → r < sumI xs → ∃ h : pickI xs r < xs.length, 0 < xs[pickI xs r]
  | [], r, h0, h1 => by simp [sumI] at h1; omega
  | y :: xs, r, h0, h1 => by
    by_cases h : r < y
    · have e : pickI (y :: xs) r = 0 := by rw [pickI, if_pos h]
      refine ⟨by rw [e]; simp, ?_⟩
      simp only [e, List.getElem_cons_zero]; omega
    · have e : pickI (y :: xs) r = pickI xs (r - y) + 1 := by rw [pickI, if_neg h]
      obtain ⟨h2, h3⟩ := pick_lt xs (r - y) (by omega) (by simp only [sumI] at h1; omega)
      refine ⟨by rw [e, List.length_cons]; omega, ?_⟩
      simp only [e, List.getElem_cons_succ]
      exact h3
theorem pw_weight {s : Int} {xs : List Int} (h : pwB s xs = true) : ∃ k : Nat, ∃ hk : k < xs.length, pwI s xs = k ∧ 0 < xs[k] := by
  have h' := h
  rw [pwB, Bool.and_eq_true, Bool.and_eq_true, Bool.and_eq_true, inR_true, inR_true] at h'
  obtain ⟨⟨⟨h1, h2⟩, h3⟩, h4⟩ := h'
  have hb := sumI_bound (by omega) xs h3
  have hz : sumI xs ≠ 0 := by simpa using h4
  have hd := drawV_range s (sumI xs) (by omega) (by omega)
  obtain ⟨hk, hp⟩ := pick_lt xs _ hd.1 hd.2
  exact ⟨_, hk, by rw [pwI, if_pos h], hp⟩
theorem rf_letters {s n p : Int} : (rfB s n p = true → (rfL s n p).length ≤ 40) ∧ ∀ i (hi : i < (rfL s n p).length), (p = 0 → (rfL s n p)[i] = 107) ∧ (p = 100 → (rfL s n p)[i] = 108) := by
  have key : ∀ k, ∀ x ∈ fatesL s p k, (p = 0 → x = 107) ∧ (p = 100 → x = 108) := by
    intro k
    induction k with
    | zero => intro x h; cases h
    | succ k ih =>
      intro x h
      rcases List.mem_append.1 h with h | h
      · exact ih x h
      · rw [List.mem_singleton] at h
        subst h
        have hd := drawV_range (stN s k) 100 (by omega) (by omega)
        exact ⟨fun e => if_neg (by omega), fun e => if_pos (by omega)⟩
  refine ⟨fun h => ?_, fun i hi => ?_⟩
  · rw [rfL, if_pos h, fatesL_length]
    rw [rfB, Bool.and_eq_true, Bool.and_eq_true, inR_true, inR_true] at h
    omega
  · have hm := List.getElem_mem hi
    by_cases h : rfB s n p = true
    · have e : rfL s n p = fatesL s p n.toNat := by rw [rfL, if_pos h]
      generalize (rfL s n p)[i] = y at *
      rw [e] at hm
      exact key _ y hm
    · have e : rfL s n p = [] := by rw [rfL, if_neg h]
      rw [e] at hi; simp at hi
end Go.Proofs.Ytbkkggbpekhenaa
