/- The table of words: what a row's list of variables says of its cells. -/
import Derived.Test.YtgmccafmopgjaaaGreatDoorLawKit
import Derived.Test.YtgmccafmopgjaaaGreatDoorScr7
import Derived.Lib.LaidU8
namespace Go.Proofs.YtgmccafmopgjaaaGreatDoor
open Go.ChangeShapes Go.WideShapes Go.ChangeAt Go.RowKit

theorem word_eq {s : ByteArray} {k : Nat} (hk : k < 7) (h : some (DataW.lit (.string s.data.toList) : DataW Unit) = [(DataW.lit (.string []) : DataW Unit), .lit (.string [115, 101, 110, 100]), .lit (.string [100, 101, 108, 105, 118, 101, 114]), .lit (.string [108, 111, 115, 101]), .lit (.string [116, 105, 99, 107]), .lit (.string [117, 112]), .lit (.string [108, 111, 115, 101, 32, 117, 112])][k]?) : s = stW k := by
  have hk' : k = 0 ∨ k = 1 ∨ k = 2 ∨ k = 3 ∨ k = 4 ∨ k = 5 ∨ k = 6 := by omega
  rcases hk' with rfl | rfl | rfl | rfl | rfl | rfl | rfl <;>
  · simp at h
    exact bytes_inj (by rw [h]; rfl)
theorem words_at {W : World} {L : List (String × DataW Unit)} (h : laidMet Tryz.prog L W) (n : String) (hg : Tryz.prog.globalNamed n = some 0) (ht : (Tryz.prog.globals[(0 : Nat)]?).map (·.type) = some 54) (hm : (n, Rows.laid_loop_example_g00840_impl_stepWords) ∈ L) : WordsAt W := by
  obtain ⟨g, t, cs, fuel, p, hg', ht', hv, hd⟩ := Lib.laidMet.reads h hm
  obtain rfl := Option.some.inj (hg.symm.trans hg')
  obtain rfl := Option.some.inj (ht.symm.trans ht')
  intro k hk
  obtain ⟨xs, m, _, ex, _, hl, hel⟩ := DataW.trod_array Tryz.underlying54 hd
  have c9 : Tryz.prog.cellsOf 9 = 1 := by kernel_rfl
  have hE := hel k hk
  rw [c9, Nat.mul_one, List.getElem?_eq_getElem (by omega)] at hE
  obtain ⟨s, e1, e2, _⟩ := DataW.trod_string Tryz.underlying9 hE
  have e3 : xs.map (·.1) = _ := (DataW.agg.inj (Prod.mk.inj ex).1).symm
  have e4 := congrArg (fun l => l[k]?) e3
  simp only [List.getElem?_map, List.getElem?_eq_getElem (show k < xs.length by omega), e2, Option.map_some] at e4
  have hs := word_eq hk e4
  rw [World.var?_cell hg hv k, ← hs]
  have : cs.toList[k]? = some (.string s) := by
    have h0 : ((cs.toList.drop k).take 1)[0]? = some (.string s) := by rw [e1]; rfl
    simpa using h0
  simpa using this
theorem words_of {W : World} {L : List (String × DataW Unit)} (h : laidMet Tryz.prog L W) (hm : ("loop.example/g00840/impl.stepWords", Rows.laid_loop_example_g00840_impl_stepWords) ∈ L) : WordsAt W :=
  words_at h _ (by kernel_rfl) (by kernel_rfl) hm
end Go.Proofs.YtgmccafmopgjaaaGreatDoor
