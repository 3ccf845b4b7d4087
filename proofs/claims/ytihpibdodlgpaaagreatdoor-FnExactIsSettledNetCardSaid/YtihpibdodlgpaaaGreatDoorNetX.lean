/- Whole networks: what it is for them to be valid, in plain words; the program's and the reference's tests at a node agree. No program's text is walked here. -/
import Derived.Test.YtihpibdodlgpaaaGreatDoorNetX0
import Derived.Test.YtihpibdodlgpaaaGreatDoorNetV
namespace Go.Proofs.YtihpibdodlgpaaaGreatDoor
open Go.RowKit

/-- what is at a node is valid: the program's tests, and the reference's -/
def niB (pa : List Int) (ck : Int) (e : NEl) (r : NRc) (dn up : List NPk) (k : Nat) : Bool :=
  quB dn && quB up && rqB up && (if k = 0 then zeB e && zrB r && (dn.length : Int) == 0 && (up.length : Int) == 0
    else if hasB pa (k : Int) = true then elB e && e.ck == ck && zrB r else zeB e && rcB r && r.ck == ck)
def nsB (pa : List Int) (ck : Int) (e : NEl) (r : NRc) (dn up : List NPk) (k : Nat) : Bool :=
  elB e && rcB r && quB dn && (quB up && rqB up) && (if k = 0 then zeB e && (!r.st && r.ck == 0) && ((dn.length : Int) + (up.length : Int) == 0)
    else if lfB pa (k : Int) = true then zeB e && r.ck == ck else (!r.st && r.ck == 0) && e.ck == ck)
theorem zeB_el {e : NEl} : zeB e = (zeB e && elB e) := by
  cases h : zeB e with
  | false => rfl
  | true =>
    obtain ⟨ck, en⟩ := e
    simp only [zeB, Bool.and_eq_true, beq_iff_eq] at h
    obtain ⟨rfl, h2⟩ := h
    have h3 : en.length = 0 := by omega
    obtain rfl := List.length_eq_zero_iff.1 h3
    rfl
theorem zrB_rc {r : NRc} : zrB r = (!r.st && r.ck == 0 && rcB r) := by
  obtain ⟨st, ck, ⟨nx, sl⟩, rq⟩ := r
  cases st
  · by_cases h : ck = 0
    · subst h; simp [zrB, rcB, inR, Bool.and_assoc]
    · have h2 : (ck == 0) = false := beq_eq_false_iff_ne.2 h
      simp only [zrB, h2, Bool.and_false, Bool.false_and, Bool.not_false, Bool.true_and]
  · simp [zrB]
theorem sum_zero (a b : Nat) : ((a : Int) + (b : Int) == 0) = ((a : Int) == 0 && (b : Int) == 0) := by
  by_cases h : a = 0
  · subst h
    by_cases h2 : b = 0
    · subst h2; rfl
    · have e1 : ((0 : Nat) : Int) + (b : Int) ≠ 0 := by omega
      have e2 : (b : Int) ≠ 0 := by omega
      rw [beq_eq_false_iff_ne.2 e1, beq_eq_false_iff_ne.2 e2]; simp
  · have e1 : (a : Int) + (b : Int) ≠ 0 := by omega
    have e2 : (a : Int) ≠ 0 := by omega
    rw [beq_eq_false_iff_ne.2 e1, beq_eq_false_iff_ne.2 e2]; simp
theorem node_eq {pa : List Int} (h : trB pa = true) (ck : Int) (e : NEl) (r : NRc) (dn up : List NPk) (k : Nat) : nsB pa ck e r dn up k = niB pa ck e r dn up k := by
  have hl := lfB_has h (k := (k : Int)) (by omega)
  rw [nsB, niB, hl, zeB_el, zrB_rc, sum_zero]
  generalize quB dn = a1
  generalize quB up = a2
  generalize rqB up = a3
  generalize elB e = a4
  generalize rcB r = a5
  generalize zeB e = a6
  generalize (r.ck == 0) = a7
  generalize r.st = a8
  generalize (e.ck == ck) = a9
  generalize (r.ck == ck) = a10
  generalize ((dn.length : Int) == 0) = a11
  generalize ((up.length : Int) == 0) = a12
  generalize hasB pa (k : Int) = a13
  by_cases hk : k = 0
  · rw [if_pos hk, if_pos hk]
    cases a1 <;> cases a2 <;> cases a3 <;> cases a4 <;> cases a5 <;> cases a6 <;> simp [Bool.and_assoc]
  · rw [if_neg hk, if_neg hk]
    cases a13 <;> cases a1 <;> cases a2 <;> cases a3 <;> cases a4 <;> cases a5 <;> cases a6 <;> simp [Bool.and_comm, Bool.and_left_comm]
/-- what is at node k is valid, as the program tests it -/
def nodeB (x : NNet) (k : Nat) : Bool := match x.el[k]?, x.rc[k]?, x.dn[k]?, x.up[k]? with
  | some e, some r, some d, some u => niB x.tr.pa x.sr.ck e r d u k
  | _, _, _, _ => true
theorem nodeB_at {x : NNet} {k : Nat} (h1 : k < x.el.length) (h2 : k < x.rc.length) (h3 : k < x.dn.length) (h4 : k < x.up.length) : nodeB x k = niB x.tr.pa x.sr.ck x.el[k] x.rc[k] x.dn[k] x.up[k] k := by
  simp only [nodeB, List.getElem?_eq_getElem h1, List.getElem?_eq_getElem h2, List.getElem?_eq_getElem h3, List.getElem?_eq_getElem h4]
/-- a valid network -/
def ntB (x : NNet) : Bool := trB x.tr.pa && soB x.sr && decide (x.el.length = x.tr.pa.length) && decide (x.rc.length = x.tr.pa.length) && decide (x.dn.length = x.tr.pa.length) && decide (x.up.length = x.tr.pa.length) && (List.range x.tr.pa.length).all (nodeB x)
end Go.Proofs.YtihpibdodlgpaaaGreatDoor
