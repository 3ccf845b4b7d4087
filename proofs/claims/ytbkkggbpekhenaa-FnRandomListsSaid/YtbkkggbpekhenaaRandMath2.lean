/- Plain laws for the law on random lists: ticks are in order and within their span; what the law's comparisons come to. No program's text is walked here. -/
import Derived.Test.YtbkkggbpekhenaaRandMath
import Derived.Test.YtbkkggbpekhenaaSp2
namespace Go.Proofs.Ytbkkggbpekhenaa
open Go.RowKit

theorem sp_facts {s f c n : Int} (h : spB s f c n = true) : c = ((spT s f c n).length : Int) ∧ (spT s f c n).length ≤ 50 := by
  have h' := h
  rw [spB, Bool.and_eq_true, Bool.and_eq_true, rbB, Bool.and_eq_true, Bool.and_eq_true, inR_true, inR_true, inR_true, inR_true, inR_true] at h'
  have e : (spT s f c n).length = c.toNat := by rw [spT, if_pos h, putN_length _ _ (by rw [mvL_length]; exact Nat.le_refl _)]
  omega
theorem sp_mem {s f c n : Int} : ∀ x ∈ spT s f c n, f ≤ x ∧ x < f + n ∧ 0 ≤ f ∧ f ≤ 1000000 ∧ 1 ≤ n ∧ n ≤ 1000 := by
  intro x hx
  by_cases h : spB s f c n = true
  · have h' := h
    rw [spB, Bool.and_eq_true, Bool.and_eq_true, rbB, Bool.and_eq_true, Bool.and_eq_true, inR_true, inR_true, inR_true, inR_true, inR_true] at h'
    rw [spT, if_pos h] at hx
    have hp := (putN_perm (mvL s f n c.toNat) c.toNat (by rw [mvL_length]; exact Nat.le_refl _)).mem_iff.1 hx
    have hm := List.mem_of_mem_take hp
    obtain ⟨y, hy, rfl⟩ := List.mem_map.1 hm
    have := rolls_mem (s := s) (n := n) (by omega) (by omega) _ y hy
    omega
  · rw [spT, if_neg h] at hx; cases hx
theorem sp_asc {s f c n : Int} : Asc (spT s f c n) := by
  by_cases h : spB s f c n = true
  · rw [spT, if_pos h]
    exact putN_asc _ _ (by rw [mvL_length]; exact Nat.le_refl _)
  · rw [spT, if_neg h]; exact List.Pairwise.nil
/-- at each index: within the span, and no less than the one before -/
theorem sp_at {s f c n : Int} (i : Nat) (hi : i < (spT s f c n).length) : ¬ (spT s f c n)[i] < f ∧ ¬ f + n ≤ (spT s f c n)[i] ∧ 0 ≤ f ∧ f ≤ 1000000 ∧ 1 ≤ n ∧ n ≤ 1000 ∧ ∀ j, i = j + 1 → ∃ hj : j < (spT s f c n).length, ¬ (spT s f c n)[i] < (spT s f c n)[j] := by
  have h := sp_mem _ (List.getElem_mem hi)
  refine ⟨by omega, by omega, by omega, by omega, by omega, by omega, fun j hj => ⟨by omega, ?_⟩⟩
  have := List.pairwise_iff_getElem.1 (sp_asc (s := s) (f := f) (c := c) (n := n)) j i (by omega) hi (by omega)
  omega
end Go.Proofs.Ytbkkggbpekhenaa
