/- Buckets and loads that came in as arguments, opened. -/
import Derived.Test.YtgmccafmopgjaaaRate1
import Derived.Test.YtgmccafmopgjaaaOpenSl
namespace Go.Proofs.Ytgmccafmopgjaaa
open Go.ChangeShapes Go.WideShapes Go.ChangeAt Go.RowKit Go.Deep

def ArgBk (_w : World) (v : Value) : Prop := ∃ k : Bk, v = k.v
def ArgLd (_w : World) (v : Value) : Prop := ∃ x : Ld, v = x.v
end Go.Proofs.Ytgmccafmopgjaaa
