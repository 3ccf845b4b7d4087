/- Slices in memory: what it means that a slice reads as a list of cells (Rd), and how this is kept when the world grows. No program's text is walked here. -/
import Derived.Test.YtihpibdodlgpaaaGreatDoorNum
import Derived.WalkSmall
import Derived.BigQuiet
import Derived.Deep.QuietTactic
namespace Go.Proofs.YtihpibdodlgpaaaGreatDoor
open Go.RowKit

/-- v is a slice of n elements of sz cells each; in the world w they read cs. -/
def Rd (w : World) (v : Value) (sz n : Nat) (cs : List Value) : Prop :=
  cs.length = n * sz ∧ ∃ (p : Option Addr) (cap b off : Nat), v = .slice p n cap ∧ n ≤ cap ∧ (p = none → cap = 0) ∧ (0 < n → p = some ⟨b, off, none⟩ ∧ ∀ k, k < n * sz → w.cell? ⟨b, off + k, none⟩ = cs[k]?)

theorem Rd.below {w w' : World} {v : Value} {sz n : Nat} {cs : List Value} (h : Rd w v sz n cs) (hb : Below w.heap.size w w') : Rd w' v sz n cs := by
  obtain ⟨hl, p, cap, b, off, hv, hcap, hnil, hc⟩ := h
  refine ⟨hl, p, cap, b, off, hv, hcap, hnil, fun hn => ⟨(hc hn).1, fun k hk => ?_⟩⟩
  have h1 := (hc hn).2 k hk
  have h2 : cs[k]? = some cs[k] := List.getElem?_eq_getElem (by omega)
  rw [h2] at h1 ⊢
  have hlt := World.block_lt_of_cell? w ⟨b, off + k, none⟩ h1
  rw [hb.cell hlt, h1]

theorem Rd.grown0 {w w' : World} {v : Value} {sz n : Nat} {cs : List Value} {row : Option Nat} (h : Rd w v sz n cs) (hg : w.grownBy w' row) (hne : 0 < n → v.ownBlock = none ∨ v.ownBlock ≠ row) : Rd w' v sz n cs := by
  obtain ⟨hl, p, cap, b, off, hv, hcap, hnil, hc⟩ := h
  refine ⟨hl, p, cap, b, off, hv, hcap, hnil, fun hn => ⟨(hc hn).1, fun k hk => ?_⟩⟩
  have hne := hne hn
  have h0 := (hc hn).1
  have h1 := (hc hn).2 k hk
  have h2 : cs[k]? = some cs[k] := List.getElem?_eq_getElem (by omega)
  rw [h2] at h1 ⊢
  subst hv; subst h0
  exact hg.cell h1 (by simpa [Value.ownBlock] using hne)
theorem Rd.grown {w w' : World} {v : Value} {sz n : Nat} {cs : List Value} {row : Option Nat} (h : Rd w v sz n cs) (hg : w.grownBy w' row) (hne : v.ownBlock = none ∨ v.ownBlock ≠ row) : Rd w' v sz n cs := h.grown0 hg fun _ => hne
/-- The block that a slice with elements lies in is there. -/
theorem Rd.lt {w : World} {v : Value} {sz n : Nat} {cs : List Value} (h : Rd w v sz n cs) (hsz : 0 < sz) (hn : 0 < n) : ∀ k, v.ownBlock = some k → k < w.heap.size := by
  intro k hk
  obtain ⟨hl, p, cap, b, off, hv, hcap, hnil, hc⟩ := h
  obtain ⟨h0, h1⟩ := hc hn
  subst hv; subst h0
  have hpos : 0 < n * sz := Nat.mul_pos hn hsz
  have h2 := h1 0 hpos
  rw [List.getElem?_eq_getElem (by omega)] at h2
  have h3 := World.block_lt_of_cell? w _ h2
  simp [Value.ownBlock] at hk
  rw [← hk]; exact h3

theorem Rd.same {w w' : World} {v : Value} {sz n : Nat} {cs : List Value} (h : Rd w v sz n cs) (hh : w'.heap = w.heap) : Rd w' v sz n cs := by
  obtain ⟨hl, p, cap, b, off, hv, hcap, hnil, hc⟩ := h
  refine ⟨hl, p, cap, b, off, hv, hcap, hnil, fun hn => ⟨(hc hn).1, fun k hk => ?_⟩⟩
  rw [← (hc hn).2 k hk]; simp [World.cell?, hh]

theorem rd_of_own {w : World} {base : Nat} {e : TypeId} {sz : Nat} {v : Value} {n : Nat} {cs : List Value} (h : w.ownsRow base e sz v n cs) : Rd w v sz n cs := by
  have h0 := h
  obtain ⟨hl, h⟩ := h
  rcases h with ⟨rfl, rfl⟩ | ⟨g, cap, cur, rfl, _, _, hn, _⟩
  · exact ⟨hl, none, 0, 0, 0, rfl, Nat.le_refl _, fun _ => rfl, fun h => by omega⟩
  · refine ⟨hl, some ⟨g, 0, none⟩, cap, g, 0, rfl, hn, (by intro h; cases h), fun hn => ⟨rfl, fun k hk => ?_⟩⟩
    rw [Nat.zero_add]; exact h0.cellAt k hk

/-- A slice that is handed to append: nil, or the cells from an address on. -/
theorem Rd.source {w : World} {v : Value} {sz n : Nat} {cs : List Value} (h : Rd w v sz n cs) :
    (v = .slice none 0 0 ∧ n = 0 ∧ cs = []) ∨ ∃ (a : Addr) (cap : Nat), v = .slice (some a) n cap ∧ n ≤ cap ∧ ∀ j u, cs[j]? = some u → w.cell? (a.add j) = some u := by
  obtain ⟨hl, p, cap, b, off, rfl, hcap, hnil, hc⟩ := h
  cases p with
  | none =>
    have h1 := hnil rfl
    have h2 : n = 0 := by omega
    subst h1; subst h2
    exact .inl ⟨rfl, rfl, List.length_eq_zero_iff.1 (by simpa using hl)⟩
  | some a =>
    refine .inr ⟨a, cap, rfl, hcap, fun j u hu => ?_⟩
    have hj : j < cs.length := (List.getElem?_eq_some_iff.1 hu).1
    have hn : 0 < n := by
      rcases Nat.eq_zero_or_pos n with h0 | h0
      · subst h0; simp at hl; simp [hl] at hj
      · exact h0
    obtain ⟨h1, h2⟩ := hc hn
    have h1 := Option.some.inj h1
    subst h1
    rw [show (⟨b, off, none⟩ : Addr).add j = ⟨b, off + j, none⟩ from by unfold Addr.add; split <;> simp_all, h2 j (by omega), hu]

theorem below_eq {B : Nat} {w w' : World} (h : ∃ n, w' = w.drewN n) : Below B w w' := by
  obtain ⟨n, rfl⟩ := h; exact below_drewN (Below.refl _ _) n
theorem below_alloc1 (w : World) (o : Obj) : Below w.heap.size w (w.alloc o) := (Below.refl _ _).alloc (Nat.le_refl _) _

theorem cells_kept {w w' : World} {a : Addr} {cs : List Value} (hb : Below w.heap.size w w') (h : ∀ j u, cs[j]? = some u → w.cell? (a.add j) = some u) : ∀ j u, cs[j]? = some u → w'.cell? (a.add j) = some u := by
  intro j u hu
  have h1 := h j u hu
  rw [hb.cell (World.block_lt_of_cell? w _ h1), h1]
/-- Two owned values, the one below a block number, the other from it on: no block in common. -/
theorem own_apart {B : Nat} {v u : Value} (hv : ∀ k, v.ownBlock = some k → k < B) (hu : ∀ k, u.ownBlock = some k → B ≤ k) : v.ownBlock = none ∨ v.ownBlock ≠ u.ownBlock := by
  cases h : v.ownBlock with
  | none => exact .inl rfl
  | some k =>
    refine .inr fun e => ?_
    have h1 := hv k h
    have h2 := hu k e.symm
    omega
theorem own_apart' {B : Nat} {v u : Value} (hv : ∀ k, v.ownBlock = some k → B ≤ k) (hu : ∀ k, u.ownBlock = some k → k < B) : v.ownBlock = none ∨ v.ownBlock ≠ u.ownBlock := by
  cases h : v.ownBlock with
  | none => exact .inl rfl
  | some k =>
    refine .inr fun e => ?_
    have h1 := hv k h
    have h2 := hu k e.symm
    omega
theorem own_shape {w : World} {base : Nat} {e : TypeId} {sz : Nat} {v : Value} {n : Nat} {cs : List Value} (h : w.ownsRow base e sz v n cs) :
    ∃ (p : Option Addr) (cap g : Nat), v = .slice p n cap ∧ n ≤ cap ∧ (0 < n → p = some ⟨g, 0, none⟩ ∧ base ≤ g) := by
  rcases h.2 with ⟨rfl, rfl⟩ | ⟨g, cap, cur, rfl, hg, _, hn, _⟩
  · exact ⟨none, 0, 0, rfl, Nat.le_refl _, fun h => by omega⟩
  · exact ⟨_, cap, g, rfl, hn, fun _ => ⟨rfl, hg⟩⟩
theorem own_below {w w' : World} {base : Nat} {e : TypeId} {sz : Nat} {v : Value} {n : Nat} {cs : List Value} (h : w.ownsRow base e sz v n cs) (hb : Below w.heap.size w w') : w'.ownsRow base e sz v n cs := by
  obtain ⟨hl, h⟩ := h
  refine ⟨hl, ?_⟩
  rcases h with h | ⟨g, cap, cur, hv, hg, hh, r⟩
  · exact .inl h
  · exact .inr ⟨g, cap, cur, hv, hg, by rw [hb.block g (Array.getElem?_eq_some_iff.1 hh).1]; exact hh, r⟩

theorem own_base {w : World} {base base' : Nat} {e : TypeId} {sz : Nat} {v : Value} {n : Nat} {cs : List Value} (h : w.ownsRow base e sz v n cs) (hb : base' ≤ base) : w.ownsRow base' e sz v n cs := by
  obtain ⟨hl, h⟩ := h
  refine ⟨hl, ?_⟩
  rcases h with h | ⟨g, cap, cur, hv, hg, r⟩
  · exact .inl h
  · exact .inr ⟨g, cap, cur, hv, by omega, r⟩

/-- A callee that leaves the world alone, called in a region that draws. -/
theorem quiet_eq {P : Program} {f : FuncId} {args : Array Value} {w : World} {n : Nat} {v : Value}
    (h : Calls P f args (w.drewN n) fun e w' => e = .returned v ∧ w.drewN n = w') : Calls P f args (w.drewN n) fun e w'' => e = .returned v ∧ ∃ m, w'' = w.drewN m :=
  h.mono fun _ _ ⟨he, hm⟩ => ⟨he, n, hm.symm⟩

/-- The cells of a block that has just been laid. -/
theorem cells_new (w : World) (cs : Array Value) (t : TypeId) : ∀ j u, cs.toList[j]? = some u → (w.alloc (.cells cs t)).cell? ((⟨w.heap.size, 0, none⟩ : Addr).add j) = some u := by
  intro j u hu
  rw [show (⟨w.heap.size, 0, none⟩ : Addr).add j = ⟨w.heap.size, j, none⟩ from by unfold Addr.add; split <;> simp_all, cell_of_row _ w.heap.size j cs t (0, 0) (heap_alloc_new w _)]
  simpa using hu
/-- Strings are lists of bytes. -/
theorem bytes_append (a b : List UInt8) : (⟨a.toArray⟩ : ByteArray) ++ ⟨b.toArray⟩ = ⟨(a ++ b).toArray⟩ := by
  apply ByteArray.ext
  simp
theorem str_eq {a b : List UInt8} (h : a = b) : Value.string ⟨a.toArray⟩ = .string ⟨b.toArray⟩ := by rw [h]
/-- Three new blocks, each read back. -/
theorem a30 (w : World) (A B C : Obj) : (((w.alloc A).alloc B).alloc C).heap[w.heap.size]? = some A := (Below.heap_alloc _ _ _ (by simp <;> omega)).trans (heap_alloc2_old w A B)
theorem a31 (w : World) (A B C : Obj) : (((w.alloc A).alloc B).alloc C).heap[w.heap.size + 1]? = some B := (Below.heap_alloc _ _ _ (by simp <;> omega)).trans (heap_alloc2_new w A B)
theorem a32 (w : World) (A B C : Obj) : (((w.alloc A).alloc B).alloc C).heap[w.heap.size + 1 + 1]? = some C := by
  have h := heap_alloc_new ((w.alloc A).alloc B) C
  rwa [World.size_alloc, World.size_alloc] at h
theorem grown_trans {a b c : World} {row : Option Nat} (h : a.grownBy b row) (k : b.grownBy c row) : a.grownBy c row :=
  ⟨k.os.trans h.os, k.tape.trans h.tape, k.output.trans h.output, Nat.le_trans h.size k.size, fun i hi hne => (k.block i (Nat.lt_of_lt_of_le hi h.size) hne).trans (h.block i hi hne)⟩
theorem take_set_succ {α : Type} (L : List α) (k : Nat) (u : α) (h : k < L.length) : (L.set k u).take (k + 1) = L.take k ++ [u] := by
  rw [List.take_add_one, List.take_set_of_le (Nat.le_refl _), List.getElem?_set_self h]; rfl
theorem take_map_succ {α β : Type} (f : α → β) (xs : List α) (k : Nat) (h : k < xs.length) : (xs.take (k + 1)).map f = (xs.take k).map f ++ [f xs[k]] := by
  rw [List.take_succ_eq_append_getElem h, List.map_append]; rfl
end Go.Proofs.YtihpibdodlgpaaaGreatDoor
