/- The text that the harness marks strings with (markText), and its contract. Condition: numbers of at most 2^62. -/
import Derived.Test.YtihpibdodlgpaaaGreatDoorMem
import Derived.Laws.IdiomStrings
import Derived.WalkLawsBesides
import Derived.WalkSpells
import Derived.Handy
namespace Go.Proofs.YtihpibdodlgpaaaGreatDoor
open Go.RowKit

theorem own_has {w : World} {base : Nat} {e : TypeId} {sz n cap g : Nat} {cs : List Value} (h : w.ownsRow base e sz (.slice (some ⟨g, 0, none⟩) n cap) n cs) (i : Nat) (hi : i < n * sz) : ∃ u, w.cell? ⟨g, i, none⟩ = some u :=
  ⟨_, (h.cellAt i hi).trans (List.getElem?_eq_getElem (by rw [h.1]; exact hi))⟩
theorem grown_of_below {w w' : World} {row : Option Nat} (h : Below w.heap.size w w') : w.grownBy w' row := ⟨h.os, h.tape, h.output, h.size, fun i hi _ => h.block i hi⟩
theorem str_same {a b : ByteArray} (h : a = b) : Ending.returned (.string a) = .returned (.string b) := by rw [h]
def dg (k : Nat) : UInt8 := UInt8.ofNat (48 + k % 10)
theorem dg_nat (k : Nat) : ((dg k).toNat : Int) = 48 + (k : Int) % 10 := by
  unfold dg
  rw [UInt8.toNat_ofNat']
  omega
/-- the digits of k ahead of l; f: more rounds than k has digits -/
def mkD : Nat → Nat → List UInt8 → List UInt8
  | 0, _, l => l
  | f + 1, k, l => if k = 0 then l else mkD f (k / 10) (dg k :: l)
def mkText (k : Int) : ByteArray := if k ≤ 0 then ⟨#[109, 48]⟩ else ⟨(109 :: mkD k.toNat k.toNat []).toArray⟩
theorem mkD_zero (f : Nat) (l : List UInt8) : mkD f 0 l = l := by cases f <;> simp [mkD]
theorem mkD_step (f k : Nat) (l : List UInt8) (h : 0 < k) : mkD (f + 1) k l = mkD f (k / 10) (dg k :: l) := by
  rw [mkD, if_neg (by omega)]
theorem mkD_length (f k : Nat) (l : List UInt8) : (mkD f k l).length ≤ l.length + f := by
  induction f generalizing k l with
  | zero => simp [mkD]
  | succ f ih =>
    unfold mkD
    split
    · omega
    · have := ih (k / 10) (dg k :: l)
      simp at this
      omega
theorem mkText_size (k : Int) (h : k ≤ 4611686018427387904) : (mkText k).size ≤ 9223372036854775807 := by
  unfold mkText
  split
  · simp [ByteArray.size]
  · have := mkD_length k.toNat k.toNat []
    simp [ByteArray.size] at this ⊢
    omega
end Go.Proofs.YtihpibdodlgpaaaGreatDoor
