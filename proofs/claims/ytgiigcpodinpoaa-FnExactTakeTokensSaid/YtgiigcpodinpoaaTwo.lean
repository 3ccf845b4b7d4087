/- What the laws on a bucket and a load share: the two boxes of their arguments stand while other memory grows. -/
import Derived.Test.YtgiigcpodinpoaaRate5
import Derived.Test.YtgiigcpodinpoaaOpenRate
import Derived.Deep.RegionHeld3
namespace Go.Proofs.Ytgiigcpodinpoaa
open Go.RowKit

/-- In w' the boxes of a bucket and of a load lie at blocks b and b + 1; what lay in w below b stands. -/
def SX (w : World) (k : Bk) (x : Ld) (w' : World) : Prop :=
  Below w.heap.size w w' ∧
  w'.heap[w.heap.size]? = some (.cells #[.int .i64 k.n, .int .i64 k.d, .int .i64 k.b, .int .i64 k.l, .int .i64 k.t] 23 (0, 0)) ∧ w'.heap[w.heap.size + 1]? = some (.cells #[.int .i64 x.t, .int .i64 x.s] 37 (0, 0)) ∧
  w'.cell? ⟨w.heap.size, 0, none⟩ = some (.int .i64 k.n) ∧ w'.cell? ⟨w.heap.size, 1, none⟩ = some (.int .i64 k.d) ∧ w'.cell? ⟨w.heap.size, 2, none⟩ = some (.int .i64 k.b) ∧ w'.cell? ⟨w.heap.size, 3, none⟩ = some (.int .i64 k.l) ∧ w'.cell? ⟨w.heap.size, 4, none⟩ = some (.int .i64 k.t) ∧
  w'.cell? ⟨w.heap.size + 1, 0, none⟩ = some (.int .i64 x.t) ∧ w'.cell? ⟨w.heap.size + 1, 1, none⟩ = some (.int .i64 x.s)
theorem SX.mk {w w' : World} {k : Bk} {x : Ld} (hb : Below w.heap.size w w')
    (h1 : w'.heap[w.heap.size]? = some (.cells #[.int .i64 k.n, .int .i64 k.d, .int .i64 k.b, .int .i64 k.l, .int .i64 k.t] 23 (0, 0))) (h2 : w'.heap[w.heap.size + 1]? = some (.cells #[.int .i64 x.t, .int .i64 x.s] 37 (0, 0))) : SX w k x w' := by
  refine ⟨hb, h1, h2, ?_, ?_, ?_, ?_, ?_, ?_, ?_⟩
  all_goals first | (rw [cell_of_row _ _ _ _ _ _ h1]; rfl) | (rw [cell_of_row _ _ _ _ _ _ h2]; rfl)
theorem SX.below {w W w' : World} {k : Bk} {x : Ld} (h : SX w k x W) (hb : Below W.heap.size W w') : SX w k x w' := by
  obtain ⟨h0, h1, h2, _⟩ := h
  have l1 := (Array.getElem?_eq_some_iff.1 h1).1
  have l2 := (Array.getElem?_eq_some_iff.1 h2).1
  exact SX.mk (h0.trans (hb.mono h0.size)) ((hb.block _ l1).trans h1) ((hb.block _ l2).trans h2)
theorem SX.start (w : World) (k : Bk) (x : Ld) : SX w k x ((w.alloc (.cells #[.int .i64 k.n, .int .i64 k.d, .int .i64 k.b, .int .i64 k.l, .int .i64 k.t] 23)).alloc (.cells #[.int .i64 x.t, .int .i64 x.s] 37)) :=
  SX.mk (by go_grown) (heap_alloc2_old w _ _) (heap_alloc2_new w _ _)
theorem SX.base {w W : World} {k : Bk} {x : Ld} (h : SX w k x W) : Below w.heap.size w W := h.1
theorem SX.drew {w W : World} {k : Bk} {x : Ld} (h : SX w k x W) : SX w k x W.drew := SX.mk h.1.drew h.2.1 h.2.2.1
end Go.Proofs.Ytgiigcpodinpoaa
