/- The struct Step (3 integers) and slices of it: how they read, and contracts of the harness's functions on them: copy, compare (equal ones), mark, look for marks, count. Condition: at most 2^30 elements. -/
import Derived.Test.YtgmccafmopgjaaaGreatDoorOpenSl
import Derived.Test.YtgmccafmopgjaaaGreatDoorOpenInts
import Derived.Test.YtgmccafmopgjaaaGreatDoorTxt
import Derived.Test.YtgmccafmopgjaaaGreatDoorKeep
import Derived.Deep.RegionHeld3
import Derived.Handy
namespace Go.Proofs.YtgmccafmopgjaaaGreatDoor
open Go.ChangeShapes Go.WideShapes Go.ChangeAt Go.RowKit Go.Deep

structure St where
  kd : Int
  nd : Int
  dt : ByteArray
instance : Inhabited St := ⟨⟨0, 0, ⟨#[]⟩⟩⟩
abbrev St.v (x : St) : Value := .agg #[.int .i64 x.kd, .int .i64 x.nd, .string x.dt]
abbrev St.cells (x : St) : List Value := [.int .i64 x.kd, .int .i64 x.nd, .string x.dt]
abbrev St.o (x : St) : Obj := .cells #[.int .i64 x.kd, .int .i64 x.nd, .string x.dt] 25
theorem St.cells_length (x : St) : x.cells.length = 3 := rfl
/-- the strings are no longer than a string may be -/
def St.ok (x : St) : Prop := x.dt.size ≤ 9223372036854775807
theorem infoSt : (Tryz.prog.info? 25).map (fun i => (i.zero, i.size, i.bytes)) = some (some (.agg #[.int .i64 0, .int .i64 0, .string ⟨#[]⟩]), 3, 32) := by kernel_rfl
def RdSt (w : World) (v : Value) (xs : List St) : Prop := Rd w v 3 xs.length (xs.flatMap St.cells) ∧ xs.length ≤ 1073741824 ∧ ∀ x ∈ xs, x.ok
def OwSt (B : Nat) (w : World) (v : Value) (xs : List St) : Prop := w.ownsRow B 25 3 v xs.length (xs.flatMap St.cells) ∧ xs.length ≤ 1073741824 ∧ ∀ x ∈ xs, x.ok
theorem OwSt.rd {B : Nat} {w : World} {v : Value} {xs : List St} (h : OwSt B w v xs) : RdSt w v xs := ⟨rd_of_own h.1, h.2⟩
theorem RdSt.below {w w' : World} {v : Value} {xs : List St} (h : RdSt w v xs) (hb : Below w.heap.size w w') : RdSt w' v xs := ⟨h.1.below hb, h.2⟩
theorem RdSt.grown {w w' : World} {v : Value} {xs : List St} {row : Option Nat} (h : RdSt w v xs) (hg : w.grownBy w' row) (hne : v.ownBlock = none ∨ v.ownBlock ≠ row) : RdSt w' v xs := ⟨h.1.grown hg hne, h.2⟩
theorem OwSt.below {B : Nat} {w w' : World} {v : Value} {xs : List St} (h : OwSt B w v xs) (hb : Below w.heap.size w w') : OwSt B w' v xs := ⟨own_below h.1 hb, h.2⟩
theorem OwSt.base {B B' : Nat} {w : World} {v : Value} {xs : List St} (h : OwSt B w v xs) (hb : B' ≤ B) : OwSt B' w v xs := ⟨own_base h.1 hb, h.2⟩
theorem OwSt.grown {B : Nat} {w w' : World} {v : Value} {xs : List St} {row : Option Nat} (h : OwSt B w v xs) (hg : w.grownBy w' row) (hne : v.ownBlock = none ∨ v.ownBlock ≠ row) : OwSt B w' v xs := ⟨h.1.kept hg hne, h.2⟩
theorem OwSt.lt {B : Nat} {w : World} {v : Value} {xs : List St} (h : OwSt B w v xs) : ∀ k, v.ownBlock = some k → B ≤ k ∧ k < w.heap.size := h.1.lt
/-- What is known of such a slice, taken apart for a walk. -/
theorem RdSt.parts {w : World} {v : Value} {xs : List St} (h : RdSt w v xs) : ∃ (p : Option Addr) (cap b off : Nat), v = .slice p xs.length cap ∧ xs.length ≤ cap ∧ (0 < xs.length → p = some ⟨b, off, none⟩) ∧
    (∀ k (hk : k < xs.length), w.cell? ⟨b, off + k * 3, none⟩ = some (.int .i64 xs[k].kd) ∧ w.cell? ⟨b, off + k * 3 + 1, none⟩ = some (.int .i64 xs[k].nd) ∧ w.cell? ⟨b, off + k * 3 + 2, none⟩ = some (.string xs[k].dt)) := by
  obtain ⟨⟨hl, p, cap, b, off, hv, hcap, _, hc⟩, _⟩ := h
  refine ⟨p, cap, b, off, hv, hcap, fun h => (hc h).1, fun k hk => ⟨?_, ?_, ?_⟩⟩
  · rw [(hc (by omega)).2 (k * 3) (by omega)]
    exact flat_get St.cells 3 St.cells_length xs k 0 hk (by omega)
  · rw [Nat.add_assoc, (hc (by omega)).2 (k * 3 + 1) (by omega)]
    exact flat_get St.cells 3 St.cells_length xs k 1 hk (by omega)
  · rw [Nat.add_assoc, (hc (by omega)).2 (k * 3 + 2) (by omega)]
    exact flat_get St.cells 3 St.cells_length xs k 2 hk (by omega)
theorem flatSt_succ (xs : List St) (k : Nat) (h : k < xs.length) : (xs.take (k + 1)).flatMap St.cells = (xs.take k).flatMap St.cells ++ xs[k].cells := by
  rw [List.take_succ_eq_append_getElem h, List.flatMap_append]; simp



/-- The marks of n such structs from c on. -/
def marksSt (c : Int) : Nat → List St
  | 0 => []
  | n + 1 => marksSt c n ++ [⟨c + 3 * n, c + 3 * n + 1, mkText (c + 3 * n + 1 + 1)⟩]
theorem marksSt_length (c : Int) (n : Nat) : (marksSt c n).length = n := by
  induction n with
  | zero => rfl
  | succ n ih => simp [marksSt, ih]
theorem marksSt_get (c : Int) (n j : Nat) (h : j < n) : (marksSt c n)[j]'(by rw [marksSt_length]; exact h) = ⟨c + 3 * j, c + 3 * j + 1, mkText (c + 3 * j + 1 + 1)⟩ := by
  induction n with
  | zero => omega
  | succ n ih =>
    simp only [marksSt]
    by_cases hj : j < n
    · rw [List.getElem_append_left (by rw [marksSt_length]; exact hj)]; exact ih hj
    · have : j = n := by omega
      subst this
      simp [List.getElem_append_right, marksSt_length]

theorem marksSt_ok (c : Int) (n : Nat) (h1 : c + 3 * n ≤ 4611686018427387904) : ∀ x ∈ marksSt c n, x.ok := by
  induction n with
  | zero => intro x hx; cases hx
  | succ n ih =>
    intro x hx
    rcases List.mem_append.1 hx with h | h
    · exact ih (by omega) x h
    · rw [List.mem_singleton] at h
      subst h
      exact mkText_size _ (by omega)



def AsSt (w : World) (v : Value) (xs : List St) : Prop := Rd w v 3 xs.length (xs.flatMap St.cells) ∧ xs.length ≤ 9223372036854775807 ∧ ∀ x ∈ xs, x.ok
theorem AsSt.rd {w : World} {v : Value} {xs : List St} (h : AsSt w v xs) (hl : xs.length ≤ 1073741824) : RdSt w v xs := ⟨h.1, hl, h.2.2⟩
theorem AsSt.below {w w' : World} {v : Value} {xs : List St} (h : AsSt w v xs) (hb : Below w.heap.size w w') : AsSt w' v xs := ⟨h.1.below hb, h.2⟩
theorem AsSt.parts {w : World} {v : Value} {xs : List St} (h : AsSt w v xs) : ∃ (p : Option Addr) (cap b off : Nat), v = .slice p xs.length cap ∧ xs.length ≤ cap ∧ (0 < xs.length → p = some ⟨b, off, none⟩) ∧
    (∀ k (hk : k < xs.length), w.cell? ⟨b, off + k * 3, none⟩ = some (.int .i64 xs[k].kd) ∧ w.cell? ⟨b, off + k * 3 + 1, none⟩ = some (.int .i64 xs[k].nd) ∧ w.cell? ⟨b, off + k * 3 + 2, none⟩ = some (.string xs[k].dt)) := by
  obtain ⟨⟨hl, p, cap, b, off, hv, hcap, _, hc⟩, _⟩ := h
  refine ⟨p, cap, b, off, hv, hcap, fun h => (hc h).1, fun k hk => ⟨?_, ?_, ?_⟩⟩
  · rw [(hc (by omega)).2 (k * 3) (by omega)]
    exact flat_get St.cells 3 St.cells_length xs k 0 hk (by omega)
  · rw [Nat.add_assoc, (hc (by omega)).2 (k * 3 + 1) (by omega)]
    exact flat_get St.cells 3 St.cells_length xs k 1 hk (by omega)
  · rw [Nat.add_assoc, (hc (by omega)).2 (k * 3 + 2) (by omega)]
    exact flat_get St.cells 3 St.cells_length xs k 2 hk (by omega)
def ArgSt (w : World) (v : Value) : Prop := ∃ xs : List St, AsSt w v xs
/-- how many letters are left behind one, behind all -/
def szSt1 (x : St) (left : Int) : Int := if left - x.dt.size < 0 then -1 else left - x.dt.size
def szStL : List St → Int → Int
  | [], left => left
  | x :: xs, left => if szSt1 x left < 0 then -1 else szStL xs (szSt1 x left)
def szSt (xs : List St) (left : Int) : Int := if left - xs.length < 0 then -1 else szStL xs (left - xs.length)
theorem szSt1_le (x : St) (left : Int) : szSt1 x left < 0 ∨ szSt1 x left ≤ left := by unfold szSt1; split <;> omega
theorem szStL_le (xs : List St) (left : Int) : szStL xs left < 0 ∨ szStL xs left ≤ left := by
  induction xs generalizing left with
  | nil => exact .inr (Int.le_refl _)
  | cons x xs ih =>
    unfold szStL
    have h1 := szSt1_le x left
    have h2 := ih (szSt1 x left)
    split <;> omega
theorem szSt_ge (xs : List St) (left : Int) (h : ¬ szSt xs left < 0) : (xs.length : Int) ≤ left ∧ szSt xs left ≤ left - xs.length := by
  have h1 := szStL_le xs (left - xs.length)
  unfold szSt at *
  split at h <;> simp_all <;> omega
theorem szStL_step (xs : List St) (k : Nat) (left : Int) (h : k < xs.length) : szStL (xs.drop k) left = if szSt1 xs[k] left < 0 then -1 else szStL (xs.drop (k + 1)) (szSt1 xs[k] left) := by
  rw [List.drop_eq_getElem_cons h]; rfl
end Go.Proofs.YtgmccafmopgjaaaGreatDoor
