/- Lists of loads that came in as arguments, opened; names by which the laws' texts call the harness's contracts. -/
import Derived.Test.YtgiigcpodinpoaaLoadS
namespace Go.Proofs.Ytgiigcpodinpoaa
open Go.ChangeShapes Go.WideShapes Go.ChangeAt Go.RowKit Go.Deep

instance : Inhabited Ld := ⟨⟨0, 0⟩⟩
theorem open_argLdS {H : Type} {enc : TypeId × Value → H} {W : World} {base : Nat} {v : Value} {d : DataW H} {p : List MemPlace}
    (hok : Value.okWide Try.prog W .any base 44 v) (h : DataW.Trod enc Try.prog W 0 (fun _ => true) true 44 v d p) : ArgLdS W v := by
  obtain ⟨xs, h1, h2, _, _⟩ := open_sl Ld.cells 2 (fun _ => True) (by omega) Ld.cells_length Try.underlying44 (by kernel_rfl) (fun n cs y h => by obtain ⟨x, hx⟩ := trod_ld h; exact ⟨x, hx, trivial⟩) hok h
  exact ⟨xs, h1, h2⟩
theorem szLdS_ge (xs : List Ld) (left : Int) (h : ¬ szLdS xs left < 0) : (xs.length : Int) ≤ left ∧ szLdS xs left = left - xs.length := by
  unfold szLdS at *; split at h <;> simp_all <;> omega
theorem AsLd.below {w w' : World} {v : Value} {xs : List Ld} (h : AsLd w v xs) (hb : Below w.heap.size w w') : AsLd w' v xs := ⟨h.1.below hb, h.2⟩
abbrev toLdS_any := @toLd_S
abbrev eqLdS_below := @eqLd_below
abbrev markLdS_any := @markLd_any
end Go.Proofs.Ytgiigcpodinpoaa
