/- The library's Join laid at this program. Condition: a text of at most 2^47 bytes. -/
import Derived.Test.YtmochhgmhhopoaaGreatDoorShelf2
import Derived.Test.YtmochhgmhhopoaaGreatDoorStrS
namespace Go.Proofs.YtmochhgmhhopoaaGreatDoor
open Go.RowKit

theorem builderX : Builder.Extra Tryz.prog Tryz.lays156_ren where
  sizeBuilder := by kernel_rfl
  liesBuilder := by kernel_rfl
  t5 := Tryz.underlying5
  a5 := Tryz.isAgg5
  z5 := Tryz.sizeOf5
  v5 := Tryz.zeroValue5
  infoByte := by kernel_rfl
  cellsByte := by kernel_rfl
  sizeByte := by kernel_rfl
  neB5 := by decide
def joinB (L : List ByteArray) (s : ByteArray) : ByteArray := ⟨(Lib.join (L.map (fun x => x.data.toList)) s.data.toList).toArray⟩
theorem joinB_any (v : Value) (L : List ByteArray) (s : ByteArray) (w : World) (h : RdS w v L) (hl : (joinB L s).size ≤ 140737488355328) :
    Calls Tryz.prog 43 #[v, .string s] w fun e w' => e = .returned (.string (joinB L s)) ∧ Below w.heap.size w w' := by
  have hlen := h.2.1
  obtain ⟨p, cap, b, off, rfl, hcap, hp, hcell⟩ := h.parts
  by_cases h0 : 0 < L.length
  · obtain rfl := hp h0
    refine (Any.strings_Join Tryz.lays156 builderX b off cap L s w (fun j x hx => ?_) ?_ (by omega) hcap hl).mono (fun e w' h => h)
    · obtain ⟨hj, rfl⟩ := List.getElem?_eq_some_iff.1 hx
      exact hcell j hj
    · exact World.block_lt_of_cell? w _ (hcell 0 h0)
  · obtain rfl : L = [] := List.eq_nil_of_length_eq_zero (by omega)
    refine (Any.strings_Join_none Tryz.lays156 builderX p cap s w).mono ?_
    rintro e w' ⟨rfl, rfl⟩
    exact ⟨rfl, Below.refl _ _⟩
end Go.Proofs.YtmochhgmhhopoaaGreatDoor
