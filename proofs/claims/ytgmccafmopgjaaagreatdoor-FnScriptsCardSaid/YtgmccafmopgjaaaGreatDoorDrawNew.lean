/- What a drawing leaves that laid its reader first. -/
import Derived.Test.YtgmccafmopgjaaaGreatDoorDrawKit
namespace Go.Proofs.YtgmccafmopgjaaaGreatDoor
open Go.RowKit

theorem new_dr {w w' : World} {o : Obj} {u : Nat} (h : Dr (w.alloc o) w' w.heap.size u) : Below w.heap.size w w' := new_grown h.grown
/-- the memory behind a drawing that laid its reader first -/
def Dn (w W : World) (u : Nat) : Prop := ∃ o, Dr (w.alloc o) W w.heap.size u
theorem Dn.cur {w W : World} {u : Nat} (h : Dn w W u) : Cur W w.heap.size u := h.elim fun _ h => h.cur
theorem Dn.call {w W W' : World} {u u' : Nat} (h : Dn w W u) (hc : Cur W' w.heap.size u') (hg : W.grownBy W' (some w.heap.size)) : Dn w W' u' := h.elim fun o h => ⟨o, h.call hc hg⟩
theorem Dn.alloc {w W : World} {u : Nat} (h : Dn w W u) (x : Obj) : Dn w (W.alloc x) u := h.elim fun o h => ⟨o, h.alloc x⟩
theorem Dn.mono {w W : World} {u u' : Nat} (h : Dn w W u) (hu : u ≤ u') : Dn w W u' := h.elim fun o h => ⟨o, h.mono hu⟩
theorem Dn.size {w W : World} {u : Nat} (h : Dn w W u) : w.heap.size + 1 ≤ W.heap.size := by
  obtain ⟨o, h⟩ := h
  simpa using h.size
theorem Dn.below {w W : World} {u : Nat} (h : Dn w W u) : Below w.heap.size w W := h.elim fun _ h => new_dr h
theorem Dn.set {w W : World} {u g : Nat} (h : Dn w W u) (hg : w.heap.size + 1 ≤ g) (i : Nat) (v : Value) : Dn w (W.setCell ⟨g, i, none⟩ v) u := h.elim fun o h => ⟨o, h.set (by simpa using hg) i v⟩
theorem Dn.app {w W W' : World} {u B : Nat} {v : Value} (h : Dn w W u) (hlt : ∀ k, v.ownBlock = some k → B ≤ k ∧ k < W.heap.size) (hB : w.heap.size + 1 ≤ B) (hg : W.grownBy W' v.ownBlock) : Dn w W' u := by
  obtain ⟨o, h⟩ := h
  refine ⟨o, ?_⟩
  have hs := h.size
  simp at hs
  cases hv : v.ownBlock with
  | none =>
    rw [hv] at hg
    exact ⟨h.cur.below ⟨hg.os, hg.tape, hg.output, hg.size, fun k hk => hg.block k hk (by simp)⟩, grown_trans h.grown ⟨hg.os, hg.tape, hg.output, hg.size, fun k hk _ => hg.block k hk (by simp)⟩, h.lt⟩
  | some g =>
    rw [hv] at hg
    have hge := (hlt g hv).1
    refine ⟨?_, ⟨hg.os.trans h.grown.os, hg.tape.trans h.grown.tape, hg.output.trans h.grown.output, Nat.le_trans h.size hg.size, fun k hk hne => (hg.block k (by simp at hk; omega) (by simp at hk; intro e; have := Option.some.inj e; omega)).trans (h.grown.block k hk hne)⟩, h.lt⟩
    obtain ⟨cv, bs, n, sd, hh, hn, hr, hne⟩ := h.cur
    exact ⟨cv, bs, n, sd, (hg.block w.heap.size (by omega) (by intro e; have := Option.some.inj e; omega)).trans hh, hn, hr.grown hg (ne_row hne (by omega)), hne⟩
theorem lt_ne {v : Value} {B C : Nat} {W : World} (h : ∀ k, v.ownBlock = some k → B ≤ k ∧ k < W.heap.size) (hC : C < B) : v.ownBlock = none ∨ v.ownBlock ≠ some C := by
  cases hv : v.ownBlock with
  | none => exact .inl rfl
  | some k => exact .inr fun e => by have := (h k hv).1; have := Option.some.inj e; omega
theorem lt_ne' {v : Value} {B C : Nat} {W : World} (h : ∀ k, v.ownBlock = some k → B ≤ k ∧ k < W.heap.size) (hC : W.heap.size ≤ C) : v.ownBlock = none ∨ v.ownBlock ≠ some C := by
  cases hv : v.ownBlock with
  | none => exact .inl rfl
  | some k => exact .inr fun e => by have := (h k hv).2; have := Option.some.inj e; omega
end Go.Proofs.YtgmccafmopgjaaaGreatDoor
