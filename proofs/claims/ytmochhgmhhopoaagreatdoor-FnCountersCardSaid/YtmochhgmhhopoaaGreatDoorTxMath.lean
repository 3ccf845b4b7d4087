/- The texts of counters, joined by spaces. No program's text is walked here. -/
import Derived.Test.YtmochhgmhhopoaaGreatDoorNumT
import Derived.Test.YtmochhgmhhopoaaGreatDoorCntMath
namespace Go.Proofs.YtmochhgmhhopoaaGreatDoor
open Go.RowKit

def oneT (x : Ct) : ByteArray := x.nm ++ ⟨#[61]⟩ ++ numT x.vl.toNat
def txN (xs : List Ct) : Nat → ByteArray
  | 0 => ⟨#[]⟩
  | n + 1 => match xs[n]? with
    | none => txN xs n
    | some x => if 0 < n then txN xs n ++ ⟨#[32]⟩ ++ oneT x else oneT x
theorem txN_one (xs : List Ct) (h : 0 < xs.length) : txN xs 1 = oneT xs[0] := by
  rw [txN, List.getElem?_eq_getElem h]; rfl
theorem txN_succ (xs : List Ct) (n : Nat) (h : n < xs.length) (h0 : 0 < n) : txN xs (n + 1) = txN xs n ++ ⟨#[32]⟩ ++ oneT xs[n] := by
  rw [txN, List.getElem?_eq_getElem h]; simp [h0]
theorem ct_small {xs : List Ct} (h : ctB xs = true) : ∀ x ∈ xs, x.nm.size ≤ 20 ∧ 0 ≤ x.vl ∧ x.vl ≤ 1000000 := by
  intro x hx
  obtain ⟨k, hk, rfl⟩ := List.getElem_of_mem hx
  have h1 := (ctB_true h).2.1 k hk
  rw [goodCt, Bool.and_eq_true, inR_true] at h1
  obtain ⟨h1, h2, h3⟩ := h1
  refine ⟨?_, h2, h3⟩
  rw [nameB, Bool.and_eq_true, decide_eq_true_iff] at h1
  exact h1.1
theorem oneT_size {x : Ct} (h : x.nm.size ≤ 20) (h1 : x.vl ≤ 1000000) : (oneT x).size ≤ 1000022 := by
  have h2 : (⟨#[61]⟩ : ByteArray).size = 1 := rfl
  have h3 := numT_le x.vl.toNat
  rw [oneT, ByteArray.size_append, ByteArray.size_append, h2]
  omega
theorem txN_size {xs : List Ct} (h : ∀ x ∈ xs, x.nm.size ≤ 20 ∧ 0 ≤ x.vl ∧ x.vl ≤ 1000000) (n : Nat) (hn : n ≤ xs.length) : (txN xs n).size ≤ 1000023 * n := by
  have h2 : (⟨#[32]⟩ : ByteArray).size = 1 := rfl
  induction n with
  | zero => exact Nat.le_refl _
  | succ n ih =>
    have h1 := h xs[n] (List.getElem_mem _)
    have h3 := oneT_size h1.1 h1.2.2
    have h4 := ih (by omega)
    by_cases h0 : 0 < n
    · rw [txN_succ xs n (by omega) h0, ByteArray.size_append, ByteArray.size_append, h2]; omega
    · obtain rfl : n = 0 := by omega
      rw [txN_one xs (by omega)]; omega
/-- the library's join lays the same text -/
theorem join_snoc (l : List (List UInt8)) (x s : List UInt8) (h : l ≠ []) : Lib.join (l ++ [x]) s = Lib.join l s ++ s ++ x := by
  unfold Lib.join
  induction l with
  | nil => exact absurd rfl h
  | cons a l ih =>
    cases l with
    | nil => simp [List.intercalate, List.intersperse]
    | cons b l =>
      have h1 := ih (by simp)
      simp only [List.intercalate, List.cons_append, List.intersperse_cons_cons, List.flatten_cons] at h1 ⊢
      rw [h1]
      simp only [List.append_assoc]
theorem txN_join (xs : List Ct) (n : Nat) (hn : n ≤ xs.length) : (⟨(Lib.join (((xs.take n).map oneT).map (fun x => x.data.toList)) [32]).toArray⟩ : ByteArray) = txN xs n := by
  induction n with
  | zero => rfl
  | succ n ih =>
    rw [List.take_succ_eq_append_getElem (by omega), List.map_append, List.map_append]
    by_cases h0 : 0 < n
    · rw [txN_succ xs n (by omega) h0, ← ih (by omega)]
      simp only [List.map_cons, List.map_nil]
      rw [join_snoc _ _ _ (by intro e; have := congrArg List.length e; simp only [List.length_map, List.length_take, List.length_nil] at this; omega)]
      exact ByteArray.ext (by simp)
    · obtain rfl : n = 0 := by omega
      rw [txN_one xs (by omega)]
      exact ByteArray.ext (by simp [Lib.join, List.intercalate])
end Go.Proofs.YtmochhgmhhopoaaGreatDoor
