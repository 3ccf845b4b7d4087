/- Lists of loads that came in as arguments, opened; names by which the laws' texts call the harness's contracts. -/
import Derived.Test.YtgmccafmopgjaaaLoadS
namespace Go.Proofs.Ytgmccafmopgjaaa
open Go.ChangeShapes Go.WideShapes Go.ChangeAt Go.RowKit Go.Deep

instance : Inhabited Ld := ⟨⟨0, 0⟩⟩
theorem szLdS_ge (xs : List Ld) (left : Int) (h : ¬ szLdS xs left < 0) : (xs.length : Int) ≤ left ∧ szLdS xs left = left - xs.length := by
  unfold szLdS at *; split at h <;> simp_all <;> omega
theorem AsLd.below {w w' : World} {v : Value} {xs : List Ld} (h : AsLd w v xs) (hb : Below w.heap.size w w') : AsLd w' v xs := ⟨h.1.below hb, h.2⟩
end Go.Proofs.Ytgmccafmopgjaaa
