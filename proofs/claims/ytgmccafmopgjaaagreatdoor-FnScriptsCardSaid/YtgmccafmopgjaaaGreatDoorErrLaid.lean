/- The library's two errors: what a row's list of variables says of their cells. -/
import Derived.Test.YtgmccafmopgjaaaGreatDoorLawKit
import Derived.Test.YtgmccafmopgjaaaGreatDoorAtoiT
import Derived.Stop.LaidErr
namespace Go.Proofs.YtgmccafmopgjaaaGreatDoor
open Go.ChangeShapes Go.WideShapes Go.ChangeAt Go.RowKit

theorem laid_head {P : Program} {W : World} {x : String × DataW Unit} : ∀ {L : List (String × DataW Unit)}, laidMet P L W → x ∈ L → ∃ r, laidMet P (x :: r) W
  | [], _, hm => by cases hm
  | y :: L, h, hm => by
    rcases List.mem_cons.1 hm with rfl | hm
    · exact ⟨L, h⟩
    · exact laid_head h.tail hm
theorem star_err : "*" ++ "errors.errorString" = "*errors.errorString" := by decide
theorem row_err (u : TypeId) (h : Tryz.prog.typeName? 3 u = some "*errors.errorString") : u = 126 :=
  typeName_ptr_named (nm := "errors.errorString") (by rw [star_err]; kernel_rfl) (by kernel_rfl) (by decide) u (by rw [star_err]; exact h)
theorem errs_of {W : World} {L : List (String × DataW Unit)} (h : laidMet Tryz.prog L W) (hm : ("strconv.ErrSyntax", Rows.laid_strconv_ErrSyntax) ∈ L ∧ ("strconv.ErrRange", Rows.laid_strconv_ErrRange) ∈ L) : ErrAt W := by
  obtain ⟨r1, h1⟩ := laid_head h hm.1
  obtain ⟨r2, h2⟩ := laid_head h hm.2
  obtain ⟨a0, s0, hv0, -, -, -⟩ := laid_sentinel h1 (g := 1) (by kernel_rfl) (by kernel_rfl) Tryz.underlying73 (tp := 126) row_err Tryz.underlying126 Tryz.underlying128 rfl rfl Tryz.underlying9 (by kernel_rfl) (by kernel_rfl)
  obtain ⟨a1, s1, hv1, -, -, -⟩ := laid_sentinel h2 (g := 2) (by kernel_rfl) (by kernel_rfl) Tryz.underlying73 (tp := 126) row_err Tryz.underlying126 Tryz.underlying128 rfl rfl Tryz.underlying9 (by kernel_rfl) (by kernel_rfl)
  exact ⟨⟨_, _, hv0⟩, _, _, hv1⟩
end Go.Proofs.YtgmccafmopgjaaaGreatDoor
