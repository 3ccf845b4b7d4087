/- Contracts on what is picked of a trace: the program's and the reference's EventsAt, for all arguments. -/
import Derived.Test.YtgmccafmopgjaaaEvList
import Derived.Test.YtgmccafmopgjaaaSelMath
import Derived.Test.YtgmccafmopgjaaaMem
import Derived.Deep.DeepCutAuto
namespace Go.Proofs.Ytgmccafmopgjaaa
open Go.RowKit

noncomputable def eaB (xs : List Ev) (node : Int) : Bool := tsB xs && inR node 0 7
def eaF (node : Int) (i : Nat) (x : Ev) : Option Int := if x.n = node then some (i : Int) else none
noncomputable def eaL (xs : List Ev) (node : Int) : List Int := if eaB xs node = true then selN (eaF node) xs xs.length else []

/-- an empty literal that was laid first -/
theorem lit0 (w : World) {w1 : World} (hb : Below (w.alloc (.cells #[] 3)).heap.size (w.alloc (.cells #[] 3)) w1) : OwI w.heap.size w1 (.slice (some ⟨w.heap.size, 0, none⟩) 0 0) [] :=
  OwI.below ⟨World.ownsRow_lit w #[] 0 (Nat.le_refl _) (Nat.zero_le _) rfl, Nat.zero_le _⟩ hb

end Go.Proofs.Ytgmccafmopgjaaa
