/- Contracts of the reference's drawings for the laws on buckets: each answers some bucket and some load (or numbers), in new memory. -/
import Derived.Test.YtgmccafmopgjaaaBuckDraw
import Derived.Deep.RegionWith
import Derived.Deep.DeepCutAuto
namespace Go.Proofs.Ytgmccafmopgjaaa
open Go.RowKit

theorem new_dr {w w' : World} {o : Obj} {u : Nat} (h : Dr (w.alloc o) w' w.heap.size u) : Below w.heap.size w w' := new_grown h.grown
def SomeBL (w : World) (e : Ending) (w' : World) : Prop := ∃ (k : Bk) (x : Ld), e = .returned (.tuple #[k.v, x.v]) ∧ Below w.heap.size w w'
def SomeBI (w : World) (e : Ending) (w' : World) : Prop := ∃ (k : Bk) (n : Int), e = .returned (.tuple #[k.v, .int .i64 n]) ∧ Below w.heap.size w w'
def SomeIII (w : World) (e : Ending) (w' : World) : Prop := ∃ a b c : Int, e = .returned (.tuple #[.int .i64 a, .int .i64 b, .int .i64 c]) ∧ Below w.heap.size w w'


/-- A block that is not the reader's stands behind a drawing. -/
theorem later {w1 W w2 : World} {B u g : Nat} {x : Obj} (hb : Below w1.heap.size w1 W) (D : Dr W w2 B u) (hne : g ≠ B) (h : w1.heap[g]? = some x) : w2.heap[g]? = some x :=
  have hlt := (Array.getElem?_eq_some_iff.1 h).1
  (D.grown.block g (Nat.lt_of_lt_of_le hlt hb.size) (fun e => hne (Option.some.inj e))).trans ((hb.block g hlt).trans h)
theorem heap_alloc3_0 (w : World) (a b c : Obj) : (((w.alloc a).alloc b).alloc c).heap[w.heap.size]? = some a := (Below.heap_alloc _ _ _ (by simp; omega)).trans (heap_alloc2_old w a b)
theorem heap_alloc3_1 (w : World) (a b c : Obj) : (((w.alloc a).alloc b).alloc c).heap[w.heap.size + 1]? = some b := (Below.heap_alloc _ _ _ (by simp)).trans (heap_alloc2_new w a b)
theorem Dr.mk' {w w' : World} {B u : Nat} (hc : Cur w' B u) (hg : w.grownBy w' (some B)) (hl : B < w.heap.size) : Dr w w' B u := ⟨hc, hg, hl⟩
/-- A drawing in a world that has come of w by growth alone, with a reader of its own. -/
theorem dr_below {w W w' : World} {B u : Nat} (D : Dr W w' B u) (hb : Below w.heap.size w W) (hB : w.heap.size ≤ B) : Below w.heap.size w w' := below_of_grown hb D.grown hB



/-- among over a list that was laid right ahead, an order drawn in between -/
theorem among_litD (B u : Nat) (xs : List Int) (N : Nat) (w : World) {A : Array Value} {g : Nat} (h : Cur w B u) (hu : u ≤ 1000000000000) (hg : g = w.heap.size) (hA : A = (xs.map (Value.int .i64)).toArray) (hN : xs.length = N) (h1 : 1 ≤ N) (hn : N ≤ 1073741824) :
    Calls Try.prog 50 #[.pointer (some ⟨B, 0, none⟩), .slice (some ⟨g, 0, none⟩) N N] (w.alloc (.cells A 3)).drew fun e w' => ∃ x : Int, e = .returned (.int .i64 x) ∧ Cur w' B (u + 2) ∧ w.grownBy w' (some B) := by
  subst hA hg
  have hr := lit_rd w xs N hN N (Nat.le_refl _) hn
  have hlt := h.lt
  rw [show xs.take N = xs by rw [← hN]; exact List.take_length] at hr
  have hd : Below (w.alloc (.cells (xs.map (Value.int .i64)).toArray 3)).heap.size (w.alloc (.cells (xs.map (Value.int .i64)).toArray 3)) (w.alloc (.cells (xs.map (Value.int .i64)).toArray 3)).drew := (Below.refl _ _).drew
  refine (among_any B u _ xs _ ((h.below (below_alloc1 _ _)).below hd) hu (hr.below hd) (by omega) (.inr (by simp [Value.ownBlock]; omega))).mono ?_
  rintro e w' ⟨x, _, rfl, hc, hg⟩
  exact ⟨x, rfl, hc, grown_trans (grown_trans (World.grownBy_alloc w _ _) (grown_below hd)) hg⟩


end Go.Proofs.Ytgmccafmopgjaaa
