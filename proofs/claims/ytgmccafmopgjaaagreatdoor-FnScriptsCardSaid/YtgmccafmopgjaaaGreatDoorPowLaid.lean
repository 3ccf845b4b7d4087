/- The table of powers: what a row's list of variables says of its cells. -/
import Derived.Test.YtgmccafmopgjaaaGreatDoorLawKit
import Derived.Test.YtgmccafmopgjaaaGreatDoorNumT
import Derived.Lib.LaidU8
import Derived.Lib.LaidTab
namespace Go.Proofs.YtgmccafmopgjaaaGreatDoor
open Go.ChangeShapes Go.WideShapes Go.ChangeAt Go.RowKit

theorem pow10_at {W : World} {L : List (String × DataW Unit)} (h : laidMet Tryz.prog L W) (hg : Tryz.prog.globalNamed "internal/strconv.uint64pow10" = some 4) (ht : (Tryz.prog.globals[(4 : Nat)]?).map (·.type) = some 114) (hm : ("internal/strconv.uint64pow10", Rows.laid_internal_strconv_uint64pow10) ∈ L) : PowAt W := by
  obtain ⟨g, t, cs, fuel, p, hg', ht', hv, hd⟩ := Lib.laidMet.reads h hm
  obtain rfl := Option.some.inj (hg.symm.trans hg')
  obtain rfl := Option.some.inj (ht.symm.trans ht')
  rw [show (Rows.laid_internal_strconv_uint64pow10 : DataW Unit) = Lib.tabData .u64 Lib.pow10Tab from rfl] at hd
  unfold PowAt Lib.TabIs
  rw [hv, ← Lib.cells_of_tab Tryz.underlying114 Tryz.underlying46 (by kernel_rfl) (by kernel_rfl) hd]
theorem pow10_of {W : World} {L : List (String × DataW Unit)} (h : laidMet Tryz.prog L W) (hm : ("internal/strconv.uint64pow10", Rows.laid_internal_strconv_uint64pow10) ∈ L) : PowAt W :=
  pow10_at h (by kernel_rfl) (by kernel_rfl) hm
end Go.Proofs.YtgmccafmopgjaaaGreatDoor
