/- A slice of integers that came in as an argument, opened: its length and, if it is short, how it reads. -/
import Derived.Test.YtohbkohidpgjpaaGreatDoorIntS
import Derived.ProofKit
import Derived.OpenShut
namespace Go.Proofs.YtohbkohidpgjpaaGreatDoor
open Go.ChangeShapes Go.WideShapes Go.ChangeAt Go.RowKit

def AsI (w : World) (v : Value) (xs : List Int) : Prop :=
  (xs.length ≤ 1073741824 → RdI w v xs) ∧ xs.length ≤ 9223372036854775807 ∧ ∃ (p : Option Addr) (cap : Nat), v = .slice p xs.length cap
theorem AsI.rd {w : World} {v : Value} {xs : List Int} (h : AsI w v xs) (hl : xs.length ≤ 1073741824) : RdI w v xs := h.1 hl
theorem AsI.shape {w : World} {v : Value} {xs : List Int} (h : AsI w v xs) : ∃ (p : Option Addr) (cap : Nat), v = .slice p xs.length cap := h.2.2
def ArgI (w : World) (v : Value) : Prop := ∃ xs : List Int, AsI w v xs

set_option maxRecDepth 100000 in
theorem open_argI {H : Type} {enc : TypeId × Value → H} {W : World} {base : Nat} {v : Value} {d : DataW H} {p : List MemPlace}
    (hok : Value.okWide Tryz.prog W .any base 44 v) (h : DataW.Trod enc Tryz.prog W 0 (fun _ => true) true 44 v d p) : ArgI W v := by
  obtain ⟨a0, len, cap, rfl⟩ := okWide_slice Tryz.underlying44 hok
  obtain ⟨fuel, hf⟩ := h
  rcases open_ints Tryz.underlying44 Tryz.underlying3 (by kernel_rfl) hf with ⟨hcs, _⟩ | ⟨a, len', cap', zs, hcs, _, hl, hm, hz, _, hcell, _⟩
  · simp [Value.cells] at hcs
    obtain ⟨rfl, rfl, rfl⟩ := hcs
    exact ⟨[], fun _ => ⟨⟨rfl, none, 0, 0, 0, rfl, Nat.le_refl _, fun _ => rfl, fun h => by cases h⟩, by simp⟩, by simp, none, 0, rfl⟩
  · simp [Value.cells] at hcs
    obtain ⟨rfl, rfl, rfl⟩ := hcs
    have hz' : zs.length = cap := by simpa using hz
    have hlen : (zs.take len).length = len := by rw [List.length_take]; omega
    refine ⟨zs.take len, fun hs => ⟨?_, hs⟩, by rw [hlen]; unfold maxLen at hm; omega, some a, cap, by rw [hlen]⟩
    rw [hlen]
    by_cases h0 : 0 < len
    · obtain ⟨b, off, rfl, hc⟩ := ints_at hcell (by omega)
      refine ⟨by simp; omega, some ⟨b, off, none⟩, cap, b, off, rfl, hl, (by intro h; cases h), fun _ => ⟨rfl, fun k hk => ?_⟩⟩
      have h1 := hc k (by omega)
      have hk1 : k < zs.length := by omega
      have hk2 : k < len := by omega
      rw [h1]
      simp [hk1, hk2]
    · have h00 : len = 0 := by omega
      subst h00
      exact ⟨by simp, some a, cap, 0, 0, rfl, hl, (by intro h; cases h), fun h => by omega⟩
end Go.Proofs.YtohbkohidpgjpaaGreatDoor
