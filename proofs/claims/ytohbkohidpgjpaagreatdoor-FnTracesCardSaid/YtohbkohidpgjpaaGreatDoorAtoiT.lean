/- The library's Atoi laid at this program. Condition: the library's two errors lie where they are laid; texts of at most 2^20 bytes. -/
import Derived.Test.YtohbkohidpgjpaaGreatDoorShelf3
import Derived.Test.YtohbkohidpgjpaaGreatDoorKeep
namespace Go.Proofs.YtohbkohidpgjpaaGreatDoor
open Go.RowKit

theorem var_on {w w' : World} (hb : Below w.heap.size w w') {n : String} {cs : Array Value} (h : w.var? Tryz.prog n = some cs) : w'.var? Tryz.prog n = some cs := by
  unfold World.var? at *
  cases hg : Tryz.prog.globalNamed n with
  | none => simp [hg] at h
  | some g =>
    simp only [hg, Option.bind_some] at h ⊢
    by_cases hlt : g < w.heap.size
    · rw [hb.block g hlt]; exact h
    · rw [Array.getElem?_eq_none (by omega)] at h; simp at h
/-- the library's two errors -/
def ErrAt (w : World) : Prop := (∃ t p, w.var? Tryz.prog "strconv.ErrSyntax" = some #[.iface t p]) ∧ ∃ t p, w.var? Tryz.prog "strconv.ErrRange" = some #[.iface t p]
theorem ErrAt.below {w w' : World} (h : ErrAt w) (hb : Below w.heap.size w w') : ErrAt w' := by
  obtain ⟨⟨t, p, h1⟩, t2, p2, h2⟩ := h
  exact ⟨⟨t, p, var_on hb h1⟩, t2, p2, var_on hb h2⟩
def atoiO (l : List UInt8) : Option Int := match Lib.atoiAll l with
  | .ok v => some v
  | _ => none
theorem atoi_some {s : ByteArray} {v : Int} (h : atoiO s.data.toList = some v) (w : World) (hs : s.size ≤ 1048576) :
    Calls Tryz.prog 74 #[.string s] w fun e w' => e = .returned (.tuple #[.int .i64 v, .nilIface]) ∧ Below w.heap.size w w' := by
  unfold atoiO at h
  cases hx : Lib.atoiAll s.data.toList with
  | ok u =>
    rw [hx] at h
    obtain rfl := Option.some.inj h
    refine (Any.strconv_Atoi_ok Tryz.lays172LaysC s (by omega) u hx w).mono ?_
    rintro e w' ⟨rfl, rfl | ⟨t, rfl⟩⟩
    · exact ⟨rfl, Below.refl _ _⟩
    · exact ⟨rfl, Lib.bytesWorld_below _ _ _⟩
  | _ => rw [hx] at h; cases h
theorem atoi_none {s : ByteArray} (h : atoiO s.data.toList = none) (w : World) (hs : s.size ≤ 1048576) (he : ErrAt w) :
    Calls Tryz.prog 74 #[.string s] w fun e w' => ∃ x t p, e = .returned (.tuple #[.int .i64 x, .iface t p]) ∧ Below w.heap.size w w' := by
  obtain ⟨⟨t, p, h1⟩, t2, p2, h2⟩ := he
  unfold atoiO at h
  cases hx : Lib.atoiAll s.data.toList with
  | ok u => rw [hx] at h; cases h
  | «syntax» =>
    refine (Any.strconv_Atoi_syntax_var Tryz.lays172LaysC s (by omega) hx t p w h1).mono ?_
    rintro e w' ⟨N, rfl, _, _, hb⟩
    exact ⟨_, _, _, rfl, hb⟩
  | range =>
    refine (Any.strconv_Atoi_range_var Tryz.lays172LaysC s (by omega) hx t2 p2 w h2).mono ?_
    rintro e w' ⟨N, rfl, _, _, hb⟩
    exact ⟨_, _, _, rfl, hb⟩
end Go.Proofs.YtohbkohidpgjpaaGreatDoor
