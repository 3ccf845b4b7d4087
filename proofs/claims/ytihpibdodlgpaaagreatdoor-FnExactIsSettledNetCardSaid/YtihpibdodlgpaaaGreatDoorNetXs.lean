/- Settled networks, in plain words: the program's tests (each leaf; all queues) and the reference's (each node but the first) agree for valid networks. No program's text is walked here. -/
import Derived.Test.YtihpibdodlgpaaaGreatDoorNetX
import Derived.Test.YtihpibdodlgpaaaGreatDoorNetL
namespace Go.Proofs.YtihpibdodlgpaaaGreatDoor
open Go.RowKit

/-- the receiver of node k is settled, and at the source's lead -/
def lsB (x : NNet) (k : Nat) : Bool := match x.rc[k]? with
  | none => true
  | some r => sdB r && (r.rw.nx == (x.sr.sw.tr + x.sr.sw.it.length) % 65536)
theorem lsB_at {x : NNet} {k : Nat} (h : k < x.rc.length) : lsB x k = (sdB x.rc[k] && (x.rc[k].rw.nx == (x.sr.sw.tr + x.sr.sw.it.length) % 65536)) := by
  simp only [lsB, List.getElem?_eq_getElem h]
/-- a settled network -/
def stB (x : NNet) : Bool := (List.range x.tr.pa.length).all (fun k => hasB x.tr.pa (k : Int) || lsB x k) && (((tqN x.dn : Nat) : Int) + ((tqN x.up : Nat) : Int) == 0)
theorem stB_bad {x : NNet} {k : Nat} (h : k < x.tr.pa.length) (h1 : hasB x.tr.pa (k : Int) = false) (h2 : lsB x k = false) : stB x = false := by
  rw [stB, rng_bad h (by rw [h1, h2]; rfl), Bool.false_and]
theorem stB_good {x : NNet} (h : ∀ y ∈ lvL x.tr.pa x.tr.pa.length, lsB x y.toNat = true) : stB x = (((tqN x.dn : Nat) : Int) + ((tqN x.up : Nat) : Int) == 0) := by
  rw [stB, rng_good (fun k hk => ?_), Bool.true_and]
  cases hh : hasB x.tr.pa (k : Int) with
  | true => rfl
  | false =>
    have := h (k : Int) (lvL_mem.2 ⟨k, hk, rfl, hh⟩)
    simpa using this
/-- the reference's test at node k -/
def spB (x : NNet) (k : Nat) : Bool := match x.dn[k]?, x.up[k]? with
  | some d, some u => ((d.length : Int) + (u.length : Int) == 0) && (!lfB x.tr.pa (k : Int) || lsB x k)
  | _, _ => true
theorem spB_at {x : NNet} {k : Nat} (h1 : k < x.dn.length) (h2 : k < x.up.length) : spB x k = (((x.dn[k].length : Int) + (x.up[k].length : Int) == 0) && (!lfB x.tr.pa (k : Int) || lsB x k)) := by
  simp only [spB, List.getElem?_eq_getElem h1, List.getElem?_eq_getElem h2]
theorem tqN_zero {xs : List (List NPk)} : tqN xs = 0 ↔ ∀ k (h : k < xs.length), xs[k].length = 0 := by
  induction xs with
  | nil => simp [tqN]
  | cons x xs ih =>
    have e : tqN (x :: xs) = x.length + tqN xs := by simp [tqN]
    rw [e]
    constructor
    · intro h k hk
      cases k with
      | zero => simp; exact List.length_eq_zero_iff.1 (by omega)
      | succ k => have h1 := ih.1 (by omega) k (by simpa using hk); simpa using h1
    · intro h
      have h0 := h 0 (by simp)
      have h1 := ih.2 (fun k hk => by have := h (k + 1) (by simpa using hk); simpa using this)
      simp only [List.getElem_cons_zero] at h0
      omega
structure Lens (x : NNet) : Prop where
  tr : trB x.tr.pa = true
  so : soB x.sr = true
  el : x.el.length = x.tr.pa.length
  rc : x.rc.length = x.tr.pa.length
  dn : x.dn.length = x.tr.pa.length
  up : x.up.length = x.tr.pa.length
  two : 2 ≤ x.tr.pa.length
  sw : swB x.sr.sw = true
  z0 : ∀ (h : 0 < x.dn.length) (h' : 0 < x.up.length), x.dn[0].length = 0 ∧ x.up[0].length = 0
  root : hasB x.tr.pa 0 = true
theorem ntB_lens {x : NNet} (h : ntB x = true) : Lens x := by
  simp only [ntB, Bool.and_eq_true, decide_eq_true_eq] at h
  obtain ⟨⟨⟨⟨⟨⟨h1, h2⟩, h3⟩, h4⟩, h5⟩, h6⟩, h7⟩ := h
  have h8 : 2 ≤ x.tr.pa.length := by
    simp only [trB, Bool.and_eq_true] at h1
    have := (inR_true.1 h1.1).1
    omega
  have h9 : swB x.sr.sw = true := by
    simp only [soB, Bool.and_eq_true] at h2
    exact h2.1.1.1
  refine ⟨h1, h2, h3, h4, h5, h6, h8, h9, fun h h' => ?_, ?_⟩
  · have hz := rng_at (k := 0) h7 (by omega)
    rw [nodeB_at (by omega) (by omega) h h', niB, if_pos rfl] at hz
    simp only [Bool.and_eq_true, beq_iff_eq] at hz
    omega
  · simp only [trB, Bool.and_eq_true] at h1
    have hz := rng_at (k := 1) h1.2 (by omega)
    rw [tkB_succ (by omega) (by decide)] at hz
    obtain ⟨q1, q2⟩ := inR_true.1 hz
    exact hasB_at 1 (by omega) (by omega)
theorem stB_spec {x : NNet} (h : Lens x) : stB x = (List.range x.tr.pa.length).all (fun k => k == 0 || spB x k) := by
  have e : ∀ (a b : Bool), (a = true ↔ b = true) → a = b := by decide
  apply e
  constructor
  · intro hs
    simp only [stB, Bool.and_eq_true, beq_iff_eq] at hs
    obtain ⟨h1, h2⟩ := hs
    have hd := tqN_zero.1 (show tqN x.dn = 0 by omega)
    have hu := tqN_zero.1 (show tqN x.up = 0 by omega)
    refine rng_good fun k hk => ?_
    by_cases h0 : k = 0
    · subst h0; rfl
    · have l1 : k < x.dn.length := by rw [h.dn]; exact hk
      have l2 : k < x.up.length := by rw [h.up]; exact hk
      have h3 := rng_at h1 hk
      rw [spB_at l1 l2, hd k l1, hu k l2, lfB_has h.tr (by omega)]
      simpa using Or.inr h3
  · intro hs
    have hall : ∀ k, k < x.tr.pa.length → ∀ (l1 : k < x.dn.length) (l2 : k < x.up.length), x.dn[k].length = 0 ∧ x.up[k].length = 0 := by
      intro k hk l1 l2
      by_cases h0 : k = 0
      · subst h0; exact h.z0 l1 l2
      · have h3 := rng_at hs hk
        rw [spB_at l1 l2] at h3
        simp only [Bool.or_eq_true, beq_iff_eq, Bool.and_eq_true] at h3
        rcases h3 with h3 | h3
        · exact absurd h3 h0
        · have := h3.1; omega
    have hd : tqN x.dn = 0 := tqN_zero.2 fun k hk => (hall k (by rw [← h.dn]; exact hk) hk (by rw [h.up, ← h.dn]; exact hk)).1
    have hu : tqN x.up = 0 := tqN_zero.2 fun k hk => (hall k (by rw [← h.up]; exact hk) (by rw [h.dn, ← h.up]; exact hk) hk).2
    rw [stB, hd, hu, rng_good (fun k hk => ?_)]
    · rfl
    · by_cases h0 : k = 0
      · subst h0
        have hr := h.root
        show (hasB x.tr.pa 0 || lsB x 0) = true
        rw [hr]; rfl
      · have l1 : k < x.dn.length := by rw [h.dn]; exact hk
        have l2 : k < x.up.length := by rw [h.up]; exact hk
        have h3 := rng_at hs hk
        rw [spB_at l1 l2, lfB_has h.tr (by omega)] at h3
        simp only [Bool.or_eq_true, beq_iff_eq, Bool.and_eq_true, Bool.not_not] at h3
        rcases h3 with h3 | h3
        · exact absurd h3 h0
        · rcases h3.2 with h4 | h4
          · rw [h4]; rfl
          · rw [h4, Bool.or_true]
/-- what the calls give -/
def qaI (x : NNet) : Int := if ntB x = true then (tqN x.dn : Nat) else 0
def qbI (x : NNet) : Int := if ntB x = true then (tqN x.up : Nat) else 0
def seB (x : NNet) : Bool := ntB x && stB x
end Go.Proofs.YtihpibdodlgpaaaGreatDoor
