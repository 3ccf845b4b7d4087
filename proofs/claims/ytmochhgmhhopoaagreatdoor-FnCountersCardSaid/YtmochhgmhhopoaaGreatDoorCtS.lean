/- The struct Counter (2 integers) and slices of it: how they read, and contracts of the harness's functions on them: copy, compare (equal ones), mark, look for marks, count. Condition: at most 2^30 elements. -/
import Derived.Test.YtmochhgmhhopoaaGreatDoorOpenSl
import Derived.Test.YtmochhgmhhopoaaGreatDoorOpenInts
import Derived.Test.YtmochhgmhhopoaaGreatDoorTxt
import Derived.Test.YtmochhgmhhopoaaGreatDoorKeep
import Derived.Deep.RegionHeld3
import Derived.Handy
namespace Go.Proofs.YtmochhgmhhopoaaGreatDoor
open Go.ChangeShapes Go.WideShapes Go.ChangeAt Go.RowKit Go.Deep

structure Ct where
  nm : ByteArray
  vl : Int
instance : Inhabited Ct := ⟨⟨⟨#[]⟩, 0⟩⟩
abbrev Ct.v (x : Ct) : Value := .agg #[.string x.nm, .int .i64 x.vl]
abbrev Ct.cells (x : Ct) : List Value := [.string x.nm, .int .i64 x.vl]
abbrev Ct.o (x : Ct) : Obj := .cells #[.string x.nm, .int .i64 x.vl] 55
theorem Ct.cells_length (x : Ct) : x.cells.length = 2 := rfl
/-- the strings are no longer than a string may be -/
def Ct.ok (x : Ct) : Prop := x.nm.size ≤ 9223372036854775807
theorem infoCt : (Tryz.prog.info? 55).map (fun i => (i.zero, i.size, i.bytes)) = some (some (.agg #[.string ⟨#[]⟩, .int .i64 0]), 2, 24) := by kernel_rfl
def RdCt (w : World) (v : Value) (xs : List Ct) : Prop := Rd w v 2 xs.length (xs.flatMap Ct.cells) ∧ xs.length ≤ 1073741824 ∧ ∀ x ∈ xs, x.ok
def OwCt (B : Nat) (w : World) (v : Value) (xs : List Ct) : Prop := w.ownsRow B 55 2 v xs.length (xs.flatMap Ct.cells) ∧ xs.length ≤ 1073741824 ∧ ∀ x ∈ xs, x.ok
theorem OwCt.rd {B : Nat} {w : World} {v : Value} {xs : List Ct} (h : OwCt B w v xs) : RdCt w v xs := ⟨rd_of_own h.1, h.2⟩
theorem RdCt.below {w w' : World} {v : Value} {xs : List Ct} (h : RdCt w v xs) (hb : Below w.heap.size w w') : RdCt w' v xs := ⟨h.1.below hb, h.2⟩
theorem RdCt.grown {w w' : World} {v : Value} {xs : List Ct} {row : Option Nat} (h : RdCt w v xs) (hg : w.grownBy w' row) (hne : v.ownBlock = none ∨ v.ownBlock ≠ row) : RdCt w' v xs := ⟨h.1.grown hg hne, h.2⟩
theorem OwCt.below {B : Nat} {w w' : World} {v : Value} {xs : List Ct} (h : OwCt B w v xs) (hb : Below w.heap.size w w') : OwCt B w' v xs := ⟨own_below h.1 hb, h.2⟩
theorem OwCt.base {B B' : Nat} {w : World} {v : Value} {xs : List Ct} (h : OwCt B w v xs) (hb : B' ≤ B) : OwCt B' w v xs := ⟨own_base h.1 hb, h.2⟩
theorem OwCt.grown {B : Nat} {w w' : World} {v : Value} {xs : List Ct} {row : Option Nat} (h : OwCt B w v xs) (hg : w.grownBy w' row) (hne : v.ownBlock = none ∨ v.ownBlock ≠ row) : OwCt B w' v xs := ⟨h.1.kept hg hne, h.2⟩
theorem OwCt.lt {B : Nat} {w : World} {v : Value} {xs : List Ct} (h : OwCt B w v xs) : ∀ k, v.ownBlock = some k → B ≤ k ∧ k < w.heap.size := h.1.lt
/-- What is known of such a slice, taken apart for a walk. -/
theorem RdCt.parts {w : World} {v : Value} {xs : List Ct} (h : RdCt w v xs) : ∃ (p : Option Addr) (cap b off : Nat), v = .slice p xs.length cap ∧ xs.length ≤ cap ∧ (0 < xs.length → p = some ⟨b, off, none⟩) ∧
    (∀ k (hk : k < xs.length), w.cell? ⟨b, off + k * 2, none⟩ = some (.string xs[k].nm) ∧ w.cell? ⟨b, off + k * 2 + 1, none⟩ = some (.int .i64 xs[k].vl)) := by
  obtain ⟨⟨hl, p, cap, b, off, hv, hcap, _, hc⟩, _⟩ := h
  refine ⟨p, cap, b, off, hv, hcap, fun h => (hc h).1, fun k hk => ⟨?_, ?_⟩⟩
  · rw [(hc (by omega)).2 (k * 2) (by omega)]
    exact flat_get Ct.cells 2 Ct.cells_length xs k 0 hk (by omega)
  · rw [Nat.add_assoc, (hc (by omega)).2 (k * 2 + 1) (by omega)]
    exact flat_get Ct.cells 2 Ct.cells_length xs k 1 hk (by omega)
theorem flatCt_succ (xs : List Ct) (k : Nat) (h : k < xs.length) : (xs.take (k + 1)).flatMap Ct.cells = (xs.take k).flatMap Ct.cells ++ xs[k].cells := by
  rw [List.take_succ_eq_append_getElem h, List.flatMap_append]; simp



/-- The marks of n such structs from c on. -/
def marksCt (c : Int) : Nat → List Ct
  | 0 => []
  | n + 1 => marksCt c n ++ [⟨mkText (c + 2 * n), c + 2 * n + 1⟩]
theorem marksCt_length (c : Int) (n : Nat) : (marksCt c n).length = n := by
  induction n with
  | zero => rfl
  | succ n ih => simp [marksCt, ih]
theorem marksCt_get (c : Int) (n j : Nat) (h : j < n) : (marksCt c n)[j]'(by rw [marksCt_length]; exact h) = ⟨mkText (c + 2 * j), c + 2 * j + 1⟩ := by
  induction n with
  | zero => omega
  | succ n ih =>
    simp only [marksCt]
    by_cases hj : j < n
    · rw [List.getElem_append_left (by rw [marksCt_length]; exact hj)]; exact ih hj
    · have : j = n := by omega
      subst this
      simp [List.getElem_append_right, marksCt_length]

theorem marksCt_ok (c : Int) (n : Nat) (h1 : c + 2 * n ≤ 4611686018427387904) : ∀ x ∈ marksCt c n, x.ok := by
  induction n with
  | zero => intro x hx; cases hx
  | succ n ih =>
    intro x hx
    rcases List.mem_append.1 hx with h | h
    · exact ih (by omega) x h
    · rw [List.mem_singleton] at h
      subst h
      exact mkText_size _ (by omega)



def AsCt (w : World) (v : Value) (xs : List Ct) : Prop := Rd w v 2 xs.length (xs.flatMap Ct.cells) ∧ xs.length ≤ 9223372036854775807 ∧ ∀ x ∈ xs, x.ok
theorem AsCt.rd {w : World} {v : Value} {xs : List Ct} (h : AsCt w v xs) (hl : xs.length ≤ 1073741824) : RdCt w v xs := ⟨h.1, hl, h.2.2⟩
theorem AsCt.below {w w' : World} {v : Value} {xs : List Ct} (h : AsCt w v xs) (hb : Below w.heap.size w w') : AsCt w' v xs := ⟨h.1.below hb, h.2⟩
theorem AsCt.parts {w : World} {v : Value} {xs : List Ct} (h : AsCt w v xs) : ∃ (p : Option Addr) (cap b off : Nat), v = .slice p xs.length cap ∧ xs.length ≤ cap ∧ (0 < xs.length → p = some ⟨b, off, none⟩) ∧
    (∀ k (hk : k < xs.length), w.cell? ⟨b, off + k * 2, none⟩ = some (.string xs[k].nm) ∧ w.cell? ⟨b, off + k * 2 + 1, none⟩ = some (.int .i64 xs[k].vl)) := by
  obtain ⟨⟨hl, p, cap, b, off, hv, hcap, _, hc⟩, _⟩ := h
  refine ⟨p, cap, b, off, hv, hcap, fun h => (hc h).1, fun k hk => ⟨?_, ?_⟩⟩
  · rw [(hc (by omega)).2 (k * 2) (by omega)]
    exact flat_get Ct.cells 2 Ct.cells_length xs k 0 hk (by omega)
  · rw [Nat.add_assoc, (hc (by omega)).2 (k * 2 + 1) (by omega)]
    exact flat_get Ct.cells 2 Ct.cells_length xs k 1 hk (by omega)
def ArgCt (w : World) (v : Value) : Prop := ∃ xs : List Ct, AsCt w v xs
/-- how many letters are left behind one, behind all -/
def szCt1 (x : Ct) (left : Int) : Int := if left - x.nm.size < 0 then -1 else left - x.nm.size
def szCtL : List Ct → Int → Int
  | [], left => left
  | x :: xs, left => if szCt1 x left < 0 then -1 else szCtL xs (szCt1 x left)
def szCt (xs : List Ct) (left : Int) : Int := if left - xs.length < 0 then -1 else szCtL xs (left - xs.length)
theorem szCt1_le (x : Ct) (left : Int) : szCt1 x left < 0 ∨ szCt1 x left ≤ left := by unfold szCt1; split <;> omega
theorem szCtL_le (xs : List Ct) (left : Int) : szCtL xs left < 0 ∨ szCtL xs left ≤ left := by
  induction xs generalizing left with
  | nil => exact .inr (Int.le_refl _)
  | cons x xs ih =>
    unfold szCtL
    have h1 := szCt1_le x left
    have h2 := ih (szCt1 x left)
    split <;> omega
theorem szCt_ge (xs : List Ct) (left : Int) (h : ¬ szCt xs left < 0) : (xs.length : Int) ≤ left ∧ szCt xs left ≤ left - xs.length := by
  have h1 := szCtL_le xs (left - xs.length)
  unfold szCt at *
  split at h <;> simp_all <;> omega
theorem szCtL_step (xs : List Ct) (k : Nat) (left : Int) (h : k < xs.length) : szCtL (xs.drop k) left = if szCt1 xs[k] left < 0 then -1 else szCtL (xs.drop (k + 1)) (szCt1 xs[k] left) := by
  rw [List.drop_eq_getElem_cons h]; rfl
end Go.Proofs.YtmochhgmhhopoaaGreatDoor
