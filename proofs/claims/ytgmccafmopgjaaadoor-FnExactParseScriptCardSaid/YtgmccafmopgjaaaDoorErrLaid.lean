/- The library's two errors: what a row's list of variables says of their cells. -/
import Derived.Test.YtgmccafmopgjaaaDoorLawKit
import Derived.Test.YtgmccafmopgjaaaDoorAtoiT
import Derived.Stop.LaidErr
namespace Go.Proofs.YtgmccafmopgjaaaDoor
open Go.ChangeShapes Go.WideShapes Go.ChangeAt Go.RowKit

theorem laid_head {P : Program} {W : World} {x : String × DataW Unit} : ∀ {L : List (String × DataW Unit)}, laidMet P L W → x ∈ L → ∃ r, laidMet P (x :: r) W
  | [], _, hm => by cases hm
  | y :: L, h, hm => by
    rcases List.mem_cons.1 hm with rfl | hm
    · exact ⟨L, h⟩
    · exact laid_head h.tail hm
theorem star_err : "*" ++ "errors.errorString" = "*errors.errorString" := by decide
theorem row_err (u : TypeId) (h : Tryd.prog.typeName? 3 u = some "*errors.errorString") : u = 125 :=
  typeName_ptr_named (nm := "errors.errorString") (by rw [star_err]; kernel_rfl) (by kernel_rfl) (by decide) u (by rw [star_err]; exact h)
theorem errs_of {W : World} {L : List (String × DataW Unit)} (h : laidMet Tryd.prog L W) (hm : ("strconv.ErrSyntax", Rows.laid_strconv_ErrSyntax) ∈ L ∧ ("strconv.ErrRange", Rows.laid_strconv_ErrRange) ∈ L) : ErrAt W := by
  obtain ⟨r1, h1⟩ := laid_head h hm.1
  obtain ⟨r2, h2⟩ := laid_head h hm.2
  obtain ⟨a0, s0, hv0, -, -, -⟩ := laid_sentinel h1 (g := 5) (by kernel_rfl) (by kernel_rfl) Tryd.underlying73 (tp := 125) row_err Tryd.underlying125 Tryd.underlying127 rfl rfl Tryd.underlying9 (by kernel_rfl) (by kernel_rfl)
  obtain ⟨a1, s1, hv1, -, -, -⟩ := laid_sentinel h2 (g := 6) (by kernel_rfl) (by kernel_rfl) Tryd.underlying73 (tp := 125) row_err Tryd.underlying125 Tryd.underlying127 rfl rfl Tryd.underlying9 (by kernel_rfl) (by kernel_rfl)
  exact ⟨⟨_, _, hv0⟩, _, _, hv1⟩
end Go.Proofs.YtgmccafmopgjaaaDoor
