/- The text of an event: the program's and the reference's EventText, for every event, where the table of words and the library's table of powers hold what is laid. -/
import Derived.Test.YtohbkohidpgjpaaGreatDoorEv1
import Derived.Test.YtohbkohidpgjpaaGreatDoorPInt
namespace Go.Proofs.YtohbkohidpgjpaaGreatDoor
open Go.RowKit

/-- the words of the kinds of events, as the table holds them -/
def trW : Nat → ByteArray
  | 0 => ⟨#[]⟩
  | 1 => ⟨#[115, 101, 110, 116]⟩
  | 2 => ⟨#[114, 101, 99, 101, 105, 118, 101, 100]⟩
  | 3 => ⟨#[108, 111, 115, 116]⟩
  | _ => ⟨#[114, 101, 108, 101, 97, 115, 101, 100]⟩
def TrAt (w : World) : Prop := ∀ k, k < 5 → w.cell? ⟨0, k, none⟩ = some (.string (trW k))
theorem TrAt.below {w w' : World} (h : TrAt w) (hb : Below w.heap.size w w') : TrAt w' := fun k hk => (hb.cell (World.block_lt_of_cell? w _ (h k hk))).trans (h k hk)
/-- the text of a valid event -/
def evT (x : Ev) : ByteArray := numT x.t.toNat ++ ⟨#[58, 32, 110, 111, 100, 101, 32]⟩ ++ numT x.n.toNat ++ ⟨#[32]⟩ ++ trW x.k.toNat ++ ⟨#[32]⟩ ++ numT x.m.toNat
def evtV (x : Ev) : ByteArray := if evB x = true then evT x else ⟨#[]⟩
theorem numT_small {n : Nat} (h : n < 1000000) : (numT n).size ≤ 6 := by
  have := dec_len 5 n (by omega)
  have h2 : (numT n).size = (Lib.decDigits n).length := List.size_toArray
  omega
theorem trW_size (k : Nat) : (trW k).size ≤ 8 := by
  match k with
  | 0 => decide
  | 1 => decide
  | 2 => decide
  | 3 => decide
  | _ + 4 => show (⟨#[114, 101, 108, 101, 97, 115, 101, 100]⟩ : ByteArray).size ≤ 8; decide
/-- an event with the text s -/
def EvIs (s : ByteArray) (x : Ev) : Prop := evB x = true ∧ evT x = s
def PeIs (s : ByteArray) : Option Ev → Prop
  | some x => EvIs s x
  | none => ∀ x, ¬ EvIs s x
theorem num_no32 (n : Nat) : (32 : UInt8) ∉ (numT n).data.toList := by
  rw [numT_list]
  intro h
  have := dec_digits n _ h
  revert this
  decide
theorem num_no58 (n : Nat) : (58 : UInt8) ∉ (numT n).data.toList := by
  rw [numT_list]
  intro h
  have := dec_digits n _ h
  revert this
  decide
theorem trW_no (k : Nat) : (32 : UInt8) ∉ (trW k).data.toList := by
  match k with
  | 0 => decide
  | 1 => decide
  | 2 => decide
  | 3 => decide
  | _ + 4 => show (32 : UInt8) ∉ (⟨#[114, 101, 108, 101, 97, 115, 101, 100]⟩ : ByteArray).data.toList; decide
end Go.Proofs.YtohbkohidpgjpaaGreatDoor
