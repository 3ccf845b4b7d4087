/- A step read from its text by the reference's ParseStep, for every text of at most 2^20 bytes. -/
import Derived.Test.YtgmccafmopgjaaaDoorScr10
namespace Go.Proofs.YtgmccafmopgjaaaDoor
open Go.RowKit

theorem psEnd_eq (o : Option St) : psEnd o = .returned (.tuple #[(o.getD ⟨0, 0, ⟨#[]⟩⟩).v, .bool o.isSome]) := by cases o <;> rfl
end Go.Proofs.YtgmccafmopgjaaaDoor
