/- What a drawing leaves: the reader, the old memory, blocks of the drawing's own. -/
import Derived.Test.YtohbkohidpgjpaaGreatDoorCur
namespace Go.Proofs.YtohbkohidpgjpaaGreatDoor
open Go.RowKit

/-- In W, which came from w, block B is a reader that has read at most u times, and the old memory is as it was but for B. -/
structure Dr (w W : World) (B u : Nat) : Prop where
  cur : Cur W B u
  grown : w.grownBy W (some B)
  lt : B < w.heap.size
theorem Dr.start {w : World} {B u : Nat} (h : Cur w B u) : Dr w w B u := ⟨h, World.grownBy.refl _ _, h.lt⟩
theorem Dr.size {w W : World} {B u : Nat} (h : Dr w W B u) : w.heap.size ≤ W.heap.size := h.grown.size
theorem Dr.alloc {w W : World} {B u : Nat} (h : Dr w W B u) (x : Obj) : Dr w (W.alloc x) B u := ⟨h.cur.below (below_alloc1 _ _), grown_trans h.grown (World.grownBy_alloc _ _ _), h.lt⟩
theorem Dr.set {w W : World} {B u g : Nat} (h : Dr w W B u) (hg : w.heap.size ≤ g) (i : Nat) (v : Value) : Dr w (W.setCell ⟨g, i, none⟩ v) B u :=
  ⟨h.cur.set (by have := h.lt; omega) i v, ⟨h.grown.os, h.grown.tape, h.grown.output, by simpa using h.grown.size, fun k hk hne => (heap_setCell_other _ ⟨g, i, none⟩ k _ (by simp; omega)).trans (h.grown.block k hk hne)⟩, h.lt⟩
theorem Dr.call {w W W' : World} {B u u' : Nat} (h : Dr w W B u) (hc : Cur W' B u') (hg : W.grownBy W' (some B)) : Dr w W' B u' := ⟨hc, grown_trans h.grown hg, h.lt⟩
theorem Dr.mono {w W : World} {B u u' : Nat} (h : Dr w W B u) (hu : u ≤ u') : Dr w W B u' := ⟨h.cur.mono hu, h.grown, h.lt⟩
theorem stands {W W' : World} {B g : Nat} {x : _} (hg : W.grownBy W' (some B)) (hB : B < g) (h : W.heap[g]? = some x) : W'.heap[g]? = some x :=
  (hg.block g (Array.getElem?_eq_some_iff.1 h).1 (fun e => by have := Option.some.inj e; omega)).trans h
end Go.Proofs.YtohbkohidpgjpaaGreatDoor
