/- The struct Event (4 integers) and slices of it: how they read, and contracts of the harness's functions on them: copy, compare (equal ones), mark, look for marks, count. Condition: at most 2^30 elements. -/
import Derived.Test.YtohbkohidpgjpaaGreatDoorOpenSl
import Derived.Test.YtohbkohidpgjpaaGreatDoorOpenInts
import Derived.Deep.RegionHeld3
import Derived.Handy
namespace Go.Proofs.YtohbkohidpgjpaaGreatDoor
open Go.ChangeShapes Go.WideShapes Go.ChangeAt Go.RowKit Go.Deep

structure Ev where
  t : Int
  n : Int
  k : Int
  m : Int
instance : Inhabited Ev := ⟨⟨0, 0, 0, 0⟩⟩
abbrev Ev.v (x : Ev) : Value := .agg #[.int .i64 x.t, .int .i64 x.n, .int .i64 x.k, .int .i64 x.m]
abbrev Ev.cells (x : Ev) : List Value := [.int .i64 x.t, .int .i64 x.n, .int .i64 x.k, .int .i64 x.m]
abbrev Ev.o (x : Ev) : Obj := .cells #[.int .i64 x.t, .int .i64 x.n, .int .i64 x.k, .int .i64 x.m] 25
theorem Ev.cells_length (x : Ev) : x.cells.length = 4 := rfl
theorem infoEv : (Tryz.prog.info? 25).map (fun i => (i.zero, i.size, i.bytes)) = some (some (.agg #[.int .i64 0, .int .i64 0, .int .i64 0, .int .i64 0]), 4, 32) := by kernel_rfl
def RdEv (w : World) (v : Value) (xs : List Ev) : Prop := Rd w v 4 xs.length (xs.flatMap Ev.cells) ∧ xs.length ≤ 1073741824
def OwEv (B : Nat) (w : World) (v : Value) (xs : List Ev) : Prop := w.ownsRow B 25 4 v xs.length (xs.flatMap Ev.cells) ∧ xs.length ≤ 1073741824
theorem OwEv.rd {B : Nat} {w : World} {v : Value} {xs : List Ev} (h : OwEv B w v xs) : RdEv w v xs := ⟨rd_of_own h.1, h.2⟩
theorem RdEv.below {w w' : World} {v : Value} {xs : List Ev} (h : RdEv w v xs) (hb : Below w.heap.size w w') : RdEv w' v xs := ⟨h.1.below hb, h.2⟩
theorem RdEv.grown {w w' : World} {v : Value} {xs : List Ev} {row : Option Nat} (h : RdEv w v xs) (hg : w.grownBy w' row) (hne : v.ownBlock = none ∨ v.ownBlock ≠ row) : RdEv w' v xs := ⟨h.1.grown hg hne, h.2⟩
theorem OwEv.below {B : Nat} {w w' : World} {v : Value} {xs : List Ev} (h : OwEv B w v xs) (hb : Below w.heap.size w w') : OwEv B w' v xs := ⟨own_below h.1 hb, h.2⟩
theorem OwEv.base {B B' : Nat} {w : World} {v : Value} {xs : List Ev} (h : OwEv B w v xs) (hb : B' ≤ B) : OwEv B' w v xs := ⟨own_base h.1 hb, h.2⟩
theorem OwEv.grown {B : Nat} {w w' : World} {v : Value} {xs : List Ev} {row : Option Nat} (h : OwEv B w v xs) (hg : w.grownBy w' row) (hne : v.ownBlock = none ∨ v.ownBlock ≠ row) : OwEv B w' v xs := ⟨h.1.kept hg hne, h.2⟩
theorem OwEv.lt {B : Nat} {w : World} {v : Value} {xs : List Ev} (h : OwEv B w v xs) : ∀ k, v.ownBlock = some k → B ≤ k ∧ k < w.heap.size := h.1.lt
/-- What is known of such a slice, taken apart for a walk. -/
theorem RdEv.parts {w : World} {v : Value} {xs : List Ev} (h : RdEv w v xs) : ∃ (p : Option Addr) (cap b off : Nat), v = .slice p xs.length cap ∧ xs.length ≤ cap ∧ (0 < xs.length → p = some ⟨b, off, none⟩) ∧
    (∀ k (hk : k < xs.length), w.cell? ⟨b, off + k * 4, none⟩ = some (.int .i64 xs[k].t) ∧ w.cell? ⟨b, off + k * 4 + 1, none⟩ = some (.int .i64 xs[k].n) ∧ w.cell? ⟨b, off + k * 4 + 2, none⟩ = some (.int .i64 xs[k].k) ∧ w.cell? ⟨b, off + k * 4 + 3, none⟩ = some (.int .i64 xs[k].m)) := by
  obtain ⟨⟨hl, p, cap, b, off, hv, hcap, _, hc⟩, _⟩ := h
  refine ⟨p, cap, b, off, hv, hcap, fun h => (hc h).1, fun k hk => ⟨?_, ?_, ?_, ?_⟩⟩
  · rw [(hc (by omega)).2 (k * 4) (by omega)]
    exact flat_get Ev.cells 4 Ev.cells_length xs k 0 hk (by omega)
  · rw [Nat.add_assoc, (hc (by omega)).2 (k * 4 + 1) (by omega)]
    exact flat_get Ev.cells 4 Ev.cells_length xs k 1 hk (by omega)
  · rw [Nat.add_assoc, (hc (by omega)).2 (k * 4 + 2) (by omega)]
    exact flat_get Ev.cells 4 Ev.cells_length xs k 2 hk (by omega)
  · rw [Nat.add_assoc, (hc (by omega)).2 (k * 4 + 3) (by omega)]
    exact flat_get Ev.cells 4 Ev.cells_length xs k 3 hk (by omega)
theorem flatEv_succ (xs : List Ev) (k : Nat) (h : k < xs.length) : (xs.take (k + 1)).flatMap Ev.cells = (xs.take k).flatMap Ev.cells ++ xs[k].cells := by
  rw [List.take_succ_eq_append_getElem h, List.flatMap_append]; simp



/-- The marks of n such structs from c on. -/
def marksEv (c : Int) : Nat → List Ev
  | 0 => []
  | n + 1 => marksEv c n ++ [⟨c + 4 * n, c + 4 * n + 1, c + 4 * n + 1 + 1, c + 4 * n + 1 + 1 + 1⟩]
theorem marksEv_length (c : Int) (n : Nat) : (marksEv c n).length = n := by
  induction n with
  | zero => rfl
  | succ n ih => simp [marksEv, ih]
theorem marksEv_get (c : Int) (n j : Nat) (h : j < n) : (marksEv c n)[j]'(by rw [marksEv_length]; exact h) = ⟨c + 4 * j, c + 4 * j + 1, c + 4 * j + 1 + 1, c + 4 * j + 1 + 1 + 1⟩ := by
  induction n with
  | zero => omega
  | succ n ih =>
    simp only [marksEv]
    by_cases hj : j < n
    · rw [List.getElem_append_left (by rw [marksEv_length]; exact hj)]; exact ih hj
    · have : j = n := by omega
      subst this
      simp [List.getElem_append_right, marksEv_length]



end Go.Proofs.YtohbkohidpgjpaaGreatDoor
