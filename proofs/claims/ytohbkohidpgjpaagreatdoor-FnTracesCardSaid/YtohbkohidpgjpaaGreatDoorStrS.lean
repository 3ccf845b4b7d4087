/- Slices of strings: how they read, and contracts of the harness's functions on them: compare (equal ones), mark, look for marks. Condition: at most 2^30 elements. -/
import Derived.Test.YtohbkohidpgjpaaGreatDoorOpenSl
import Derived.Test.YtohbkohidpgjpaaGreatDoorTxt
import Derived.Test.YtohbkohidpgjpaaGreatDoorKeep
import Derived.Deep.RegionHeld3
import Derived.Handy
namespace Go.Proofs.YtohbkohidpgjpaaGreatDoor
open Go.RowKit

theorem infoStr : (Tryz.prog.info? 9).map (fun i => (i.zero, i.size, i.bytes)) = some (some (.string ⟨#[]⟩), 1, 16) := by kernel_rfl
def RdS (w : World) (v : Value) (xs : List ByteArray) : Prop := Rd w v 1 xs.length (xs.map Value.string) ∧ xs.length ≤ 1073741824 ∧ ∀ x ∈ xs, x.size ≤ 9223372036854775807
def OwS (B : Nat) (w : World) (v : Value) (xs : List ByteArray) : Prop := w.ownsRow B 9 1 v xs.length (xs.map Value.string) ∧ xs.length ≤ 1073741824 ∧ ∀ x ∈ xs, x.size ≤ 9223372036854775807
theorem OwS.rd {B : Nat} {w : World} {v : Value} {xs : List ByteArray} (h : OwS B w v xs) : RdS w v xs := ⟨rd_of_own h.1, h.2⟩
theorem RdS.below {w w' : World} {v : Value} {xs : List ByteArray} (h : RdS w v xs) (hb : Below w.heap.size w w') : RdS w' v xs := ⟨h.1.below hb, h.2⟩
theorem OwS.below {B : Nat} {w w' : World} {v : Value} {xs : List ByteArray} (h : OwS B w v xs) (hb : Below w.heap.size w w') : OwS B w' v xs := ⟨own_below h.1 hb, h.2⟩
theorem OwS.base {B B' : Nat} {w : World} {v : Value} {xs : List ByteArray} (h : OwS B w v xs) (hb : B' ≤ B) : OwS B' w v xs := ⟨own_base h.1 hb, h.2⟩
theorem RdS.grown {w w' : World} {v : Value} {xs : List ByteArray} {row : Option Nat} (h : RdS w v xs) (hg : w.grownBy w' row) (hne : v.ownBlock = none ∨ v.ownBlock ≠ row) : RdS w' v xs := ⟨h.1.grown hg hne, h.2⟩
theorem OwS.lt {B : Nat} {w : World} {v : Value} {xs : List ByteArray} (h : OwS B w v xs) : ∀ k, v.ownBlock = some k → B ≤ k ∧ k < w.heap.size := h.1.lt
theorem OwS.grown {B : Nat} {w w' : World} {v : Value} {xs : List ByteArray} {row : Option Nat} (h : OwS B w v xs) (hg : w.grownBy w' row) (hne : v.ownBlock = none ∨ v.ownBlock ≠ row) : OwS B w' v xs := ⟨h.1.kept hg hne, h.2⟩
theorem owS_nil (B : Nat) (w : World) : OwS B w (.slice none 0 0) [] := ⟨World.ownsRow_nil _ _ _ _, by simp, by simp⟩
theorem RdS.parts {w : World} {v : Value} {xs : List ByteArray} (h : RdS w v xs) : ∃ (p : Option Addr) (cap b off : Nat), v = .slice p xs.length cap ∧ xs.length ≤ cap ∧ (0 < xs.length → p = some ⟨b, off, none⟩) ∧
    (∀ k (hk : k < xs.length), w.cell? ⟨b, off + k, none⟩ = some (.string xs[k])) := by
  obtain ⟨⟨hl, p, cap, b, off, hv, hcap, _, hc⟩, _⟩ := h
  refine ⟨p, cap, b, off, hv, hcap, fun h => (hc h).1, fun k hk => ?_⟩
  rw [(hc (by omega)).2 k (by omega)]
  simp [hk]
def marksS (c : Int) : Nat → List ByteArray
  | 0 => []
  | n + 1 => marksS c n ++ [mkText (c + n)]
theorem marksS_length (c : Int) (n : Nat) : (marksS c n).length = n := by
  induction n with
  | zero => rfl
  | succ n ih => simp [marksS, ih]
theorem marksS_get (c : Int) (n j : Nat) (h : j < n) : (marksS c n)[j]'(by rw [marksS_length]; exact h) = mkText (c + j) := by
  induction n with
  | zero => omega
  | succ n ih =>
    simp only [marksS]
    by_cases hj : j < n
    · rw [List.getElem_append_left (by rw [marksS_length]; exact hj)]; exact ih hj
    · have : j = n := by omega
      subst this
      simp [List.getElem_append_right, marksS_length]
theorem marksS_ok (c : Int) (n : Nat) (h1 : c + n ≤ 4611686018427387904) : ∀ x ∈ marksS c n, x.size ≤ 9223372036854775807 := by
  induction n with
  | zero => intro x hx; cases hx
  | succ n ih =>
    intro x hx
    rcases List.mem_append.1 hx with h | h
    · exact ih (by omega) x h
    · rw [List.mem_singleton] at h
      subst h
      exact mkText_size _ (by omega)
end Go.Proofs.YtohbkohidpgjpaaGreatDoor
