/- Contracts of the harness's functions on slices of loads: copy, compare (equal ones), mark. Condition: at most 2^30 elements. -/
import Derived.Test.YtgmccafmopgjaaaRate2
import Derived.Test.YtgmccafmopgjaaaOpenRate
import Derived.Test.YtgmccafmopgjaaaCur
import Derived.Deep.RegionHeld3
namespace Go.Proofs.Ytgmccafmopgjaaa
open Go.RowKit

theorem infoLd : (Try.prog.info? 51).map (fun i => (i.zero, i.size, i.bytes)) = some (some (.agg #[.int .i64 0, .int .i64 0]), 2, 16) := by kernel_rfl
abbrev Ld.cells (x : Ld) : List Value := [.int .i64 x.t, .int .i64 x.s]
theorem Ld.cells_length (x : Ld) : x.cells.length = 2 := rfl

def RdLd (w : World) (v : Value) (xs : List Ld) : Prop := Rd w v 2 xs.length (xs.flatMap Ld.cells) ∧ xs.length ≤ 1073741824
def OwLd (B : Nat) (w : World) (v : Value) (xs : List Ld) : Prop := w.ownsRow B 51 2 v xs.length (xs.flatMap Ld.cells) ∧ xs.length ≤ 1073741824
theorem OwLd.rd {B : Nat} {w : World} {v : Value} {xs : List Ld} (h : OwLd B w v xs) : RdLd w v xs := ⟨rd_of_own h.1, h.2⟩
theorem RdLd.below {w w' : World} {v : Value} {xs : List Ld} (h : RdLd w v xs) (hb : Below w.heap.size w w') : RdLd w' v xs := ⟨h.1.below hb, h.2⟩
theorem OwLd.below {B : Nat} {w w' : World} {v : Value} {xs : List Ld} (h : OwLd B w v xs) (hb : Below w.heap.size w w') : OwLd B w' v xs := ⟨own_below h.1 hb, h.2⟩
theorem OwLd.grown {B : Nat} {w w' : World} {v : Value} {xs : List Ld} {row : Option Nat} (h : OwLd B w v xs) (hg : w.grownBy w' row) (hne : v.ownBlock = none ∨ v.ownBlock ≠ row) : OwLd B w' v xs := ⟨h.1.kept hg hne, h.2⟩
theorem OwLd.lt {B : Nat} {w : World} {v : Value} {xs : List Ld} (h : OwLd B w v xs) : ∀ k, v.ownBlock = some k → B ≤ k ∧ k < w.heap.size := h.1.lt

/-- What is known of a slice of loads, taken apart for a walk. -/
theorem RdLd.parts {w : World} {v : Value} {xs : List Ld} (h : RdLd w v xs) : ∃ (p : Option Addr) (cap b off : Nat), v = .slice p xs.length cap ∧ xs.length ≤ cap ∧ (0 < xs.length → p = some ⟨b, off, none⟩) ∧
    (∀ k (hk : k < xs.length), w.cell? ⟨b, off + k * 2, none⟩ = some (.int .i64 xs[k].t) ∧ w.cell? ⟨b, off + k * 2 + 1, none⟩ = some (.int .i64 xs[k].s)) := by
  obtain ⟨⟨hl, p, cap, b, off, hv, hcap, _, hc⟩, _⟩ := h
  refine ⟨p, cap, b, off, hv, hcap, fun h => (hc h).1, fun k hk => ⟨?_, ?_⟩⟩
  · rw [(hc (by omega)).2 (k * 2) (by omega)]
    exact flat_get Ld.cells 2 Ld.cells_length xs k 0 hk (by omega)
  · rw [Nat.add_assoc, (hc (by omega)).2 (k * 2 + 1) (by omega)]
    exact flat_get Ld.cells 2 Ld.cells_length xs k 1 hk (by omega)
theorem flat_take_succ (xs : List Ld) (k : Nat) (h : k < xs.length) : (xs.take (k + 1)).flatMap Ld.cells = (xs.take k).flatMap Ld.cells ++ xs[k].cells := by
  rw [List.take_succ_eq_append_getElem h, List.flatMap_append]; simp




/-- The marks of n loads from c on. -/
def marksLd (c : Int) : Nat → List Ld
  | 0 => []
  | n + 1 => marksLd c n ++ [⟨c + 2 * n, c + 2 * n + 1⟩]
theorem marksLd_length (c : Int) (n : Nat) : (marksLd c n).length = n := by
  induction n with
  | zero => rfl
  | succ n ih => simp [marksLd, ih]


/-- loads that came in -/
def AsLd (w : World) (v : Value) (xs : List Ld) : Prop := Rd w v 2 xs.length (xs.flatMap Ld.cells) ∧ xs.length ≤ 9223372036854775807
theorem AsLd.rd {w : World} {v : Value} {xs : List Ld} (h : AsLd w v xs) (hl : xs.length ≤ 1073741824) : RdLd w v xs := ⟨h.1, hl⟩
def ArgLdS (w : World) (v : Value) : Prop := ∃ xs : List Ld, AsLd w v xs
def szLdS (xs : List Ld) (left : Int) : Int := if left - xs.length < 0 then -1 else left - xs.length
end Go.Proofs.Ytgmccafmopgjaaa
