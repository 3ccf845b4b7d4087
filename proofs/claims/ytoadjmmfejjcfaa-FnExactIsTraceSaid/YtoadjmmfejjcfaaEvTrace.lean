/- Contract: the reference's IsTrace, for all lists of at most 2^30 events. -/
import Derived.Test.YtoadjmmfejjcfaaEvList
namespace Go.Proofs.Ytoadjmmfejjcfaa
open Go.RowKit
theorem specIsTrace_any (v : Value) (xs : List Ev) (w : World) (h : RdEv w v xs) :
    Calls Try.prog 13 #[v] w fun e w' => e = .returned (.bool (tsB xs)) ∧ Below w.heap.size w w' := by
  have HT := Lib.hid (l17Good_any v xs w h)
  obtain ⟨p, cap, b, off, rfl, _⟩ := h.parts
  go_enter Try.func13, Try.ntmps13
  go_wp2_with fail
  refine HT.out.mono ?_
  rintro e w1 ⟨rfl, hb⟩
  go_wp2
  go_ret
  exact ⟨rfl, hb⟩
end Go.Proofs.Ytoadjmmfejjcfaa
