/- A bucket's box in memory. -/
import Derived.Test.YtgmccafmopgjaaaFitMath
import Derived.Test.YtgmccafmopgjaaaRate3
namespace Go.Proofs.Ytgmccafmopgjaaa
open Go.RowKit

/-- a bucket's box in memory -/
def BoxBk (w : World) (g : Nat) (k : Bk) : Prop := w.heap[g]? = some (.cells #[.int .i64 k.n, .int .i64 k.d, .int .i64 k.b, .int .i64 k.l, .int .i64 k.t] 45 (0, 0))
theorem BoxBk.below {w w' : World} {g : Nat} {k : Bk} (h : BoxBk w g k) (hb : Below w.heap.size w w') : BoxBk w' g k := (hb.block g (Array.getElem?_eq_some_iff.1 h).1).trans h
theorem BoxBk.lt {w : World} {g : Nat} {k : Bk} (h : BoxBk w g k) : g < w.heap.size := (Array.getElem?_eq_some_iff.1 h).1
end Go.Proofs.Ytgmccafmopgjaaa
