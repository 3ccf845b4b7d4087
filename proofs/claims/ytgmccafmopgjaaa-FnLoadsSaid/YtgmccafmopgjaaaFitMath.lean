/- Plain laws on a bucket that takes what fits of a list of loads, one after another. No program in sight. -/
import Derived.Test.YtgmccafmopgjaaaRateBegin
namespace Go.Proofs.Ytgmccafmopgjaaa

/-- the bucket and the indices taken after the first n loads -/
def fitN (k : Bk) (xs : List Ld) : Nat → Bk × List Int
  | 0 => (k, [])
  | n + 1 => match xs[n]? with
    | none => fitN k xs n
    | some x => if (fitN k xs n).1.fits x.t x.s = true then ((fitN k xs n).1.take x.t x.s, (fitN k xs n).2 ++ [(n : Int)]) else fitN k xs n
theorem fitN_succ (k : Bk) (xs : List Ld) (n : Nat) (h : n < xs.length) :
    fitN k xs (n + 1) = if (fitN k xs n).1.fits xs[n].t xs[n].s = true then ((fitN k xs n).1.take xs[n].t xs[n].s, (fitN k xs n).2 ++ [(n : Int)]) else fitN k xs n := by
  rw [fitN, List.getElem?_eq_getElem h]
theorem fitN_length (k : Bk) (xs : List Ld) (n : Nat) : (fitN k xs n).2.length ≤ n := by
  induction n with
  | zero => exact Nat.le_refl _
  | succ n ih =>
    rw [fitN]
    split
    · omega
    · split
      · simp; omega
      · omega
theorem ls_mono {xs : List Ld} (h : LsP xs) (i j : Nat) (hij : i ≤ j) (hj : j < xs.length) : (xs[i]'(by omega)).t ≤ xs[j].t := by
  induction j with
  | zero => obtain rfl : i = 0 := by omega
            exact Int.le_refl _
  | succ j ih =>
    by_cases he : i = j + 1
    · subst he; exact Int.le_refl _
    · have h1 := ih (by omega) (by omega)
      have h2 := h.2.2 j hj
      omega
theorem begB_iff {k : Bk} {xs : List Ld} : begB k xs = true ↔ bkB k = true ∧ LsP xs ∧ ∀ h : 0 < xs.length, k.t ≤ xs[0].t := by
  unfold begB
  rw [Bool.and_eq_true, Bool.and_eq_true, lsB_true, and_assoc]
  by_cases h : 0 < xs.length
  · simp [h]
  · simp [h]
theorem can_of {k : Bk} {x : Ld} (hk : bkB k = true) (hx : ldB x = true) (ht : k.t ≤ x.t) : canFill k x.t = true := by
  have := ldB_iff.1 hx
  simp only [canFill, hk, Bool.true_and, inR_true]
  omega
theorem fitN_good {k : Bk} {xs : List Ld} (h : begB k xs = true) (n : Nat) (hn : n ≤ xs.length) :
    bkB (fitN k xs n).1 = true ∧ ∀ j (hj : j < xs.length), n ≤ j → (fitN k xs n).1.t ≤ xs[j].t := by
  obtain ⟨h1, h2, h3⟩ := begB_iff.1 h
  induction n with
  | zero => exact ⟨h1, fun j hj _ => Int.le_trans (h3 (by omega)) (ls_mono h2 0 j (by omega) hj)⟩
  | succ n ih =>
    obtain ⟨i1, i2⟩ := ih (by omega)
    rw [fitN_succ k xs n (by omega)]
    split
    · rename_i hf
      have hx := h2.2.1 n (by omega)
      exact ⟨take_valid (can_of i1 hx (i2 n (by omega) (Nat.le_refl _))) (ldB_iff.1 hx).2.1 hf, fun j hj hnj => ls_mono h2 n j (by omega) hj⟩
    · exact ⟨i1, fun j hj hnj => i2 j hj (by omega)⟩
theorem fitN_can {k : Bk} {xs : List Ld} (h : begB k xs = true) (n : Nat) (hn : n < xs.length) : canFill (fitN k xs n).1 xs[n].t = true :=
  can_of (fitN_good h n (by omega)).1 ((begB_iff.1 h).2.1.2.1 n hn) ((fitN_good h n (by omega)).2 n hn (Nat.le_refl _))
noncomputable def fitL (k : Bk) (xs : List Ld) : List Int := if begB k xs = true then (fitN k xs xs.length).2 else []
end Go.Proofs.Ytgmccafmopgjaaa
