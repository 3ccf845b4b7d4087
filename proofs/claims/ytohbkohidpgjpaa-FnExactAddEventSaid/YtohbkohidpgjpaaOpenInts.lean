/- A slice of integers that came in as an argument, opened: its length and, if it is short, how it reads. -/
import Derived.Test.YtohbkohidpgjpaaIntS
import Derived.ProofKit
import Derived.OpenShut
namespace Go.Proofs.Ytohbkohidpgjpaa
open Go.ChangeShapes Go.WideShapes Go.ChangeAt Go.RowKit

def AsI (w : World) (v : Value) (xs : List Int) : Prop :=
  (xs.length ≤ 1073741824 → RdI w v xs) ∧ xs.length ≤ 9223372036854775807 ∧ ∃ (p : Option Addr) (cap : Nat), v = .slice p xs.length cap
theorem AsI.rd {w : World} {v : Value} {xs : List Int} (h : AsI w v xs) (hl : xs.length ≤ 1073741824) : RdI w v xs := h.1 hl
theorem AsI.shape {w : World} {v : Value} {xs : List Int} (h : AsI w v xs) : ∃ (p : Option Addr) (cap : Nat), v = .slice p xs.length cap := h.2.2
def ArgI (w : World) (v : Value) : Prop := ∃ xs : List Int, AsI w v xs

end Go.Proofs.Ytohbkohidpgjpaa
