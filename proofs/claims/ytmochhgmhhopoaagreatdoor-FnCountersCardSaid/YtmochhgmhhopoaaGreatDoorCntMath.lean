/- Lists of counters: what they mean, in plain Lean. -/
import Derived.Test.YtmochhgmhhopoaaGreatDoorCtS
import Derived.Test.YtmochhgmhhopoaaGreatDoorSpl
import Derived.Test.YtmochhgmhhopoaaGreatDoorOrd
import Derived.Test.YtmochhgmhhopoaaGreatDoorSelMath
namespace Go.Proofs.YtmochhgmhhopoaaGreatDoor
open Go.RowKit

abbrev Ct.k (x : Ct) : List UInt8 := x.nm.toList
def goodCt (x : Ct) : Bool := nameB x.nm && inR x.vl 0 1000000
/-- the list's item i is good, and greater than the one ahead of it -/
def okAt (xs : List Ct) (i : Nat) : Bool := match xs[i]? with
  | none => true
  | some x => goodCt x && (match i with
    | 0 => true
    | j + 1 => match xs[j]? with
      | none => true
      | some y => Op.bytesLess y.k x.k)
/-- a list of counters -/
def ctB (xs : List Ct) : Bool := decide (xs.length ≤ 12) && (List.range xs.length).all (okAt xs)
theorem okAt_zero (xs : List Ct) (h : 0 < xs.length) : okAt xs 0 = goodCt xs[0] := by simp [okAt, h]
theorem okAt_succ (xs : List Ct) (k : Nat) (h : k + 1 < xs.length) : okAt xs (k + 1) = (goodCt xs[k + 1] && Op.bytesLess xs[k].k xs[k + 1].k) := by
  simp [okAt, h, show k < xs.length by omega]
theorem ctB_bad {xs : List Ct} (k : Nat) (h : k < xs.length) (hp : okAt xs k = false) : ctB xs = false := by
  cases hb : ctB xs with
  | false => rfl
  | true =>
    rw [ctB, Bool.and_eq_true] at hb
    rw [List.all_eq_true.1 hb.2 k (List.mem_range.2 h)] at hp
    cases hp
theorem ctB_end {xs : List Ct} (h : ∀ k, k < xs.length → okAt xs k = true) : ctB xs = decide (xs.length ≤ 12) := by
  rw [ctB, List.all_eq_true.2 (fun k hk => h k (List.mem_range.1 hk)), Bool.and_true]
/-- strictly rising names -/
def Ups (xs : List Ct) : Prop := ∀ k (h : k + 1 < xs.length), Op.bytesLess xs[k].k xs[k + 1].k = true
theorem ctB_true {xs : List Ct} (h : ctB xs = true) : xs.length ≤ 12 ∧ (∀ k (h : k < xs.length), goodCt xs[k] = true) ∧ Ups xs := by
  rw [ctB, Bool.and_eq_true, decide_eq_true_eq, List.all_eq_true] at h
  refine ⟨h.1, fun k hk => ?_, fun k hk => ?_⟩
  · have h1 := h.2 k (List.mem_range.2 hk)
    cases k with
    | zero => rwa [okAt_zero xs hk] at h1
    | succ k => rw [okAt_succ xs k hk, Bool.and_eq_true] at h1; exact h1.1
  · have h1 := h.2 (k + 1) (List.mem_range.2 hk)
    rw [okAt_succ xs k hk, Bool.and_eq_true] at h1
    exact h1.2
theorem Ups.lt {xs : List Ct} (h : Ups xs) : ∀ (i j : Nat) (hi : i < j) (hj : j < xs.length), Op.bytesLess (xs[i]'(by omega)).k xs[j].k = true := by
  intro i j hi hj
  induction j with
  | zero => omega
  | succ j ih =>
    by_cases he : i = j
    · subst he; exact h i hj
    · exact bl_trans (ih (by omega) (by omega)) (h j hj)
/-- where a name stands, or would stand -/
def posN (xs : List Ct) (s : List UInt8) : Nat := (xs.takeWhile fun x => Op.bytesLess x.k s).length
theorem takeWhile_len {α : Type} (p : α → Bool) : ∀ (xs : List α) (i : Nat), i ≤ xs.length → (∀ j (h : j < xs.length), j < i → p xs[j] = true) → (∀ h : i < xs.length, p xs[i] = false) → (xs.takeWhile p).length = i
  | [], i, hi, _, _ => by simp at hi; simp [hi]
  | x :: xs, 0, _, _, h2 => by
    have := h2 (by simp)
    simp at this
    rw [List.takeWhile_cons, this]; rfl
  | x :: xs, i + 1, hi, h1, h2 => by
    have h0 := h1 0 (by simp) (by omega)
    simp at h0
    rw [List.takeWhile_cons, h0]
    simp only [if_true, List.length_cons]
    rw [takeWhile_len p xs i (by simpa using hi) (fun j h hj => h1 (j + 1) (by simpa using h) (by omega)) (fun h => h2 (by simpa using h))]
theorem posN_eq (xs : List Ct) (s : List UInt8) (i : Nat) (hi : i ≤ xs.length) (h1 : ∀ j (h : j < xs.length), j < i → Op.bytesLess xs[j].k s = true) (h2 : ∀ h : i < xs.length, Op.bytesLess xs[i].k s = false) : posN xs s = i :=
  takeWhile_len _ xs i hi h1 h2
theorem posN_le (xs : List Ct) (s : List UInt8) : posN xs s ≤ xs.length := (List.takeWhile_prefix _).length_le
/-- is the name there, where it would stand? -/
def hitB (xs : List Ct) (s : List UInt8) : Bool := match xs[posN xs s]? with
  | none => false
  | some x => x.k == s
/-- the value of the first counter of a name, or 0 -/
def valN (xs : List Ct) (s : List UInt8) : Int := match xs.find? (fun x => x.k == s) with
  | none => 0
  | some x => x.vl
theorem pos_lt (xs : List Ct) (s : List UInt8) (j : Nat) (h : j < xs.length) (hj : j < posN xs s) : Op.bytesLess xs[j].k s = true := by
  have hp : (xs.takeWhile fun x => Op.bytesLess x.k s) <+: xs := List.takeWhile_prefix _
  have h1 : (xs.takeWhile fun x => Op.bytesLess x.k s)[j]'hj = xs[j] := hp.getElem hj
  have h2 : (xs.takeWhile fun x => Op.bytesLess x.k s)[j]'hj ∈ (xs.takeWhile fun x => Op.bytesLess x.k s) := List.getElem_mem _
  have h3 := List.all_eq_true.1 (List.all_takeWhile (l := xs) (p := fun x => Op.bytesLess x.k s)) _ h2
  rwa [h1] at h3
theorem pos_at : ∀ (xs : List Ct) (s : List UInt8) (h : posN xs s < xs.length), Op.bytesLess xs[posN xs s].k s = false
  | [], s, h => by simp at h
  | x :: xs, s, h => by
    by_cases hx : Op.bytesLess x.k s = true
    · have e : posN (x :: xs) s = posN xs s + 1 := by
        unfold posN; rw [List.takeWhile_cons, if_pos hx]; rfl
      have ih := pos_at xs s (by rw [e] at h; simpa using h)
      simp only [e, List.getElem_cons_succ]
      exact ih
    · have e : posN (x :: xs) s = 0 := by
        unfold posN; rw [List.takeWhile_cons, if_neg hx]; rfl
      simp only [e, List.getElem_cons_zero]
      simpa using hx
theorem find_at {α : Type} (p : α → Bool) (xs : List α) (k : Nat) (h : k < xs.length) (h1 : p xs[k] = true) (h2 : ∀ j (h : j < xs.length), j < k → p xs[j] = false) : xs.find? p = some xs[k] := by
  induction xs generalizing k with
  | nil => simp at h
  | cons x xs ih =>
    cases k with
    | zero => rw [List.find?_cons]; simp at h1; rw [h1]; rfl
    | succ k =>
      have h0 := h2 0 (by simp) (by omega)
      simp at h0
      rw [List.find?_cons, h0]
      simp only [List.getElem_cons_succ] at h1 ⊢
      exact ih k (by simpa using h) h1 (fun j h hj => h2 (j + 1) (by simpa using h) (by omega))
theorem find_no {α : Type} (p : α → Bool) (xs : List α) (h2 : ∀ j (h : j < xs.length), p xs[j] = false) : xs.find? p = none := by
  rw [List.find?_eq_none]
  intro x hx
  obtain ⟨j, hj, rfl⟩ := List.getElem_of_mem hx
  rw [h2 j hj]; exact Bool.false_ne_true
theorem valN_hit {xs : List Ct} {s : List UInt8} (h : posN xs s < xs.length) (he : xs[posN xs s].k = s) : valN xs s = xs[posN xs s].vl := by
  rw [valN, find_at _ xs (posN xs s) h (by simp [he]) (fun j hj hl => by
    have := pos_lt xs s j hj hl
    rw [beq_eq_false_iff_ne]
    intro e
    rw [e, bl_irrefl] at this; cases this)]
theorem valN_miss {xs : List Ct} {s : List UInt8} (hu : Ups xs) (he : ∀ h : posN xs s < xs.length, xs[posN xs s].k ≠ s) : valN xs s = 0 := by
  rw [valN, find_no _ xs (fun j hj => by
    rw [beq_eq_false_iff_ne]
    intro e
    rcases Nat.lt_trichotomy j (posN xs s) with hl | hl | hl
    · have := pos_lt xs s j hj hl
      rw [e, bl_irrefl] at this; cases this
    · subst hl; exact he hj e
    · have h1 := pos_at xs s (by omega)
      have h2 := hu.lt _ _ hl hj
      rw [e, h1] at h2; cases h2)]
theorem hitB_true {xs : List Ct} {s : List UInt8} : hitB xs s = true ↔ ∃ h : posN xs s < xs.length, xs[posN xs s].k = s := by
  unfold hitB
  by_cases h : posN xs s < xs.length
  · rw [List.getElem?_eq_getElem h]; simp [h]
  · rw [List.getElem?_eq_none (by omega)]; simp [h]
/-- is a name below a prefix? -/
def belB (name pre : List UInt8) : Bool := pre.isEmpty || (name == pre || (pre ++ [46]).isPrefixOf name)
def preB (s : ByteArray) : Bool := s.toList.isEmpty || nameB s
/-- the sum of the first n values below a prefix -/
def totN (pre : List UInt8) (xs : List Ct) : Nat → Int
  | 0 => 0
  | n + 1 => match xs[n]? with
    | none => totN pre xs n
    | some x => totN pre xs n + (if belB x.k pre = true then x.vl else 0)
theorem totN_succ (pre : List UInt8) (xs : List Ct) (n : Nat) (h : n < xs.length) : totN pre xs (n + 1) = totN pre xs n + (if belB xs[n].k pre = true then xs[n].vl else 0) := by
  rw [totN, List.getElem?_eq_getElem h]
theorem totN_bound (pre : List UInt8) (xs : List Ct) (hg : ∀ k (h : k < xs.length), goodCt xs[k] = true) (n : Nat) (h : n ≤ xs.length) : 0 ≤ totN pre xs n ∧ totN pre xs n ≤ 1000000 * n := by
  induction n with
  | zero => simp [totN]
  | succ n ih =>
    have ih := ih (by omega)
    have h1 := hg n (by omega)
    rw [goodCt, Bool.and_eq_true, inR_true] at h1
    rw [totN_succ pre xs n (by omega)]
    split <;> omega
end Go.Proofs.YtmochhgmhhopoaaGreatDoor
