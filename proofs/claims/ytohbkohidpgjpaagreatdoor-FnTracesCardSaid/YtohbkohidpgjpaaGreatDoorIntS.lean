/- Contracts of the harness's functions on slices of integers: copy, compare (equal ones), mark, look for the marks. Condition: at most 2^30 elements. -/
import Derived.Test.YtohbkohidpgjpaaGreatDoorMem
namespace Go.Proofs.YtohbkohidpgjpaaGreatDoor
open Go.RowKit

theorem infoInt : (Tryz.prog.info? 3).map (fun i => (i.zero, i.size, i.bytes)) = some (some (.int .i64 0), 1, 8) := by kernel_rfl

def RdI (w : World) (v : Value) (xs : List Int) : Prop := Rd w v 1 xs.length (xs.map (Value.int .i64)) ∧ xs.length ≤ 1073741824
def OwI (B : Nat) (w : World) (v : Value) (xs : List Int) : Prop := w.ownsRow B 3 1 v xs.length (xs.map (Value.int .i64)) ∧ xs.length ≤ 1073741824
theorem OwI.rd {B : Nat} {w : World} {v : Value} {xs : List Int} (h : OwI B w v xs) : RdI w v xs := ⟨rd_of_own h.1, h.2⟩
theorem RdI.below {w w' : World} {v : Value} {xs : List Int} (h : RdI w v xs) (hb : Below w.heap.size w w') : RdI w' v xs := ⟨h.1.below hb, h.2⟩
theorem OwI.below {B : Nat} {w w' : World} {v : Value} {xs : List Int} (h : OwI B w v xs) (hb : Below w.heap.size w w') : OwI B w' v xs := ⟨own_below h.1 hb, h.2⟩
theorem OwI.base {B B' : Nat} {w : World} {v : Value} {xs : List Int} (h : OwI B w v xs) (hb : B' ≤ B) : OwI B' w v xs := ⟨own_base h.1 hb, h.2⟩

theorem RdI.grown {w w' : World} {v : Value} {xs : List Int} {row : Option Nat} (h : RdI w v xs) (hg : w.grownBy w' row) (hne : v.ownBlock = none ∨ v.ownBlock ≠ row) : RdI w' v xs := ⟨h.1.grown hg hne, h.2⟩
theorem OwI.lt {B : Nat} {w : World} {v : Value} {xs : List Int} (h : OwI B w v xs) : ∀ k, v.ownBlock = some k → B ≤ k ∧ k < w.heap.size := h.1.lt
theorem OwI.grown {B : Nat} {w w' : World} {v : Value} {xs : List Int} {row : Option Nat} (h : OwI B w v xs) (hg : w.grownBy w' row) (hne : v.ownBlock = none ∨ v.ownBlock ≠ row) : OwI B w' v xs := ⟨h.1.kept hg hne, h.2⟩
/-- What is known of a slice of integers, taken apart for a walk. -/
theorem RdI.parts {w : World} {v : Value} {xs : List Int} (h : RdI w v xs) : ∃ (p : Option Addr) (cap b off : Nat), v = .slice p xs.length cap ∧ xs.length ≤ cap ∧ (0 < xs.length → p = some ⟨b, off, none⟩) ∧
    (∀ k (hk : k < xs.length), w.cell? ⟨b, off + k, none⟩ = some (.int .i64 xs[k])) := by
  obtain ⟨⟨hl, p, cap, b, off, hv, hcap, _, hc⟩, _⟩ := h
  refine ⟨p, cap, b, off, hv, hcap, fun h => (hc h).1, fun k hk => ?_⟩
  rw [(hc (by omega)).2 k (by omega)]
  simp [hk]



/-- The marks k, k + 1, ... -/
def marksI (k : Int) : Nat → List Int
  | 0 => []
  | n + 1 => marksI k n ++ [k + n]
theorem marksI_length (k : Int) (n : Nat) : (marksI k n).length = n := by
  induction n with
  | zero => rfl
  | succ n ih => simp [marksI, ih]
theorem marksI_get (k : Int) (n j : Nat) (h : j < n) : (marksI k n)[j]'(by rw [marksI_length]; exact h) = k + j := by
  induction n with
  | zero => omega
  | succ n ih =>
    simp only [marksI]
    by_cases hj : j < n
    · rw [List.getElem_append_left (by rw [marksI_length]; exact hj)]; exact ih hj
    · have : j = n := by omega
      subst this
      simp [List.getElem_append_right, marksI_length]


end Go.Proofs.YtohbkohidpgjpaaGreatDoor
