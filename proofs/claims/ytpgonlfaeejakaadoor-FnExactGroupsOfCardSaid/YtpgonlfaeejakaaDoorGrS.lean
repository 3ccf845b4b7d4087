/- Lists of groups: how they lie in memory, and what a valid one is. -/
import Derived.Test.YtpgonlfaeejakaaDoorGr1
import Derived.Test.YtpgonlfaeejakaaDoorOpenSl
namespace Go.Proofs.YtpgonlfaeejakaaDoor
open Go.RowKit

structure Gr where
  nm : ByteArray
  ms : List Int
abbrev GrC (p : Gr × Value) : List Value := [.string p.1.nm, p.2]
/-- v holds the groups, their members' slices beside them -/
def GrAt (w : World) (v : Value) (ps : List (Gr × Value)) : Prop := Rd w v 2 ps.length (ps.flatMap GrC) ∧ ps.length ≤ 1073741824 ∧ ∀ p ∈ ps, p.1.nm.size ≤ 1048576 ∧ RdI w p.2 p.1.ms
theorem GrAt.below {w w' : World} {v : Value} {ps : List (Gr × Value)} (h : GrAt w v ps) (hb : Below w.heap.size w w') : GrAt w' v ps := ⟨h.1.below hb, h.2.1, fun p hp => ⟨(h.2.2 p hp).1, (h.2.2 p hp).2.below hb⟩⟩
theorem GrAt.parts {w : World} {v : Value} {ps : List (Gr × Value)} (h : GrAt w v ps) : ∃ (p : Option Addr) (cap b off : Nat), v = .slice p ps.length cap ∧ ps.length ≤ cap ∧ (0 < ps.length → p = some ⟨b, off, none⟩) ∧
    (∀ k (hk : k < ps.length), w.cell? ⟨b, off + k * 2, none⟩ = some (.string ps[k].1.nm) ∧ w.cell? ⟨b, off + k * 2 + 1, none⟩ = some ps[k].2) := by
  obtain ⟨⟨hl, p, cap, b, off, hv, hcap, _, hc⟩, _⟩ := h
  refine ⟨p, cap, b, off, hv, hcap, fun h => (hc h).1, fun k hk => ⟨?_, ?_⟩⟩
  · rw [(hc (by omega)).2 (k * 2) (by omega)]
    exact flat_get GrC 2 (fun _ => rfl) ps k 0 hk (by omega)
  · rw [show off + k * 2 + 1 = off + (k * 2 + 1) from by omega, (hc (by omega)).2 (k * 2 + 1) (by omega)]
    exact flat_get GrC 2 (fun _ => rfl) ps k 1 hk (by omega)
def grB (g : Gr) : Bool := gnB g.nm && (decide (0 < g.ms.length) && riB g.ms)
def gaB (ps : List (Gr × Value)) (k : Nat) : Bool := match ps[k]? with
  | none => true
  | some g => grB g.1 && (match k with
    | 0 => true
    | m + 1 => match ps[m]? with
      | none => true
      | some h => Op.bytesLess h.1.nm.toList g.1.nm.toList)
def gsB (ps : List (Gr × Value)) : Bool := (List.range ps.length).all (gaB ps) && decide (ps.length ≤ 8)
theorem gsB_bad {ps : List (Gr × Value)} (k : Nat) (h : k < ps.length) (hb : gaB ps k = false) : gsB ps = false := by
  cases hr : (List.range ps.length).all (gaB ps) with
  | false => rw [gsB, hr]; rfl
  | true =>
    have := List.all_eq_true.1 hr k (List.mem_range.2 h)
    rw [hb] at this; cases this
theorem gsB_end {ps : List (Gr × Value)} (h : ∀ k, k < ps.length → gaB ps k = true) : gsB ps = decide (ps.length ≤ 8) := by
  rw [gsB, List.all_eq_true.2 fun k hk => h k (List.mem_range.1 hk), Bool.true_and]
theorem gaB_bad {ps : List (Gr × Value)} {k : Nat} (h : k < ps.length) (hg : grB ps[k].1 = false) : gaB ps k = false := by
  simp only [gaB, List.getElem?_eq_getElem h, hg, Bool.false_and]
theorem gaB_zero {ps : List (Gr × Value)} (h : 0 < ps.length) : gaB ps 0 = grB ps[0].1 := by
  simp only [gaB, List.getElem?_eq_getElem h, Bool.and_true]
theorem gaB_succ {ps : List (Gr × Value)} {m : Nat} (h : m + 1 < ps.length) : gaB ps (m + 1) = (grB ps[m + 1].1 && Op.bytesLess ps[m].1.nm.toList ps[m + 1].1.nm.toList) := by
  simp only [gaB, List.getElem?_eq_getElem h, List.getElem?_eq_getElem (show m < ps.length by omega)]
end Go.Proofs.YtpgonlfaeejakaaDoor
