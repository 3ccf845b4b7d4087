/- A small helper for laws on events: an argument stays what it is. -/
import Derived.Test.YtohbkohidpgjpaaEvS
namespace Go.Proofs.Ytohbkohidpgjpaa
open Go.RowKit
theorem AsEv.below {w w' : World} {v : Value} {xs : List Ev} (h : AsEv w v xs) (hb : Below w.heap.size w w') : AsEv w' v xs := ⟨h.1.below hb, h.2⟩
end Go.Proofs.Ytohbkohidpgjpaa
