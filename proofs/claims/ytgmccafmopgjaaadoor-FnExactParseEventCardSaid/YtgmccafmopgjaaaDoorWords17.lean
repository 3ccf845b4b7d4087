/- The table of the words of events: what a row's list of variables says of its cells. -/
import Derived.Test.YtgmccafmopgjaaaDoorLawKit
import Derived.Test.YtgmccafmopgjaaaDoorEvTx
import Derived.Lib.LaidU8
namespace Go.Proofs.YtgmccafmopgjaaaDoor
open Go.ChangeShapes Go.WideShapes Go.ChangeAt Go.RowKit

theorem trword_eq {s : ByteArray} {k : Nat} (hk : k < 5) (h : some (DataW.lit (.string s.data.toList) : DataW Unit) = [(DataW.lit (.string []) : DataW Unit), .lit (.string [115, 101, 110, 116]), .lit (.string [114, 101, 99, 101, 105, 118, 101, 100]), .lit (.string [108, 111, 115, 116]), .lit (.string [114, 101, 108, 101, 97, 115, 101, 100])][k]?) : s = trW k := by
  have hk' : k = 0 ∨ k = 1 ∨ k = 2 ∨ k = 3 ∨ k = 4 := by omega
  rcases hk' with rfl | rfl | rfl | rfl | rfl <;>
  · simp at h
    exact bytes_inj (by rw [h]; rfl)
theorem trwords_at {W : World} {L : List (String × DataW Unit)} (h : laidMet Tryd.prog L W) (n : String) (hg : Tryd.prog.globalNamed n = some 0) (ht : (Tryd.prog.globals[(0 : Nat)]?).map (·.type) = some 46) (hm : (n, Rows.laid_loop_example_g00840_impl_traceWords) ∈ L) : TrAt W := by
  obtain ⟨g, t, cs, fuel, p, hg', ht', hv, hd⟩ := Lib.laidMet.reads h hm
  obtain rfl := Option.some.inj (hg.symm.trans hg')
  obtain rfl := Option.some.inj (ht.symm.trans ht')
  intro k hk
  obtain ⟨xs, m, _, ex, _, hl, hel⟩ := DataW.trod_array Tryd.underlying46 hd
  have c9 : Tryd.prog.cellsOf 9 = 1 := by kernel_rfl
  have hE := hel k hk
  rw [c9, Nat.mul_one, List.getElem?_eq_getElem (by omega)] at hE
  obtain ⟨s, e1, e2, _⟩ := DataW.trod_string Tryd.underlying9 hE
  have e3 : xs.map (·.1) = _ := (DataW.agg.inj (Prod.mk.inj ex).1).symm
  have e4 := congrArg (fun l => l[k]?) e3
  simp only [List.getElem?_map, List.getElem?_eq_getElem (show k < xs.length by omega), e2, Option.map_some] at e4
  have hs := trword_eq hk e4
  rw [World.var?_cell hg hv k, ← hs]
  have : cs.toList[k]? = some (.string s) := by
    have h0 : ((cs.toList.drop k).take 1)[0]? = some (.string s) := by rw [e1]; rfl
    simpa using h0
  simpa using this
theorem trwords_of {W : World} {L : List (String × DataW Unit)} (h : laidMet Tryd.prog L W) (hm : ("loop.example/g00840/impl.traceWords", Rows.laid_loop_example_g00840_impl_traceWords) ∈ L) : TrAt W :=
  trwords_at h _ (by kernel_rfl) (by kernel_rfl) hm
end Go.Proofs.YtgmccafmopgjaaaDoor
