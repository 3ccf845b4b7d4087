/- How nested values lie in memory, told by relations: a kind of elements (how many cells, what they hold), a slice of such elements, in blocks from a number on. No program's text is walked here. -/
import Derived.Test.YtihpibdodlgpaaaGreatDoorKeep
namespace Go.Proofs.YtihpibdodlgpaaaGreatDoor
open Go.RowKit

/-- a kind of values: so many cells; what the cells c hold in world w, whose own slices lie in blocks from B on -/
structure Kd (α : Type) where
  sz : Nat
  C : Nat → World → List Value → α → Prop
  len : ∀ {B w c x}, C B w c x → c.length = sz
  below : ∀ {B w w' c x}, C B w c x → Below w.heap.size w w' → C B w' c x
  grown : ∀ {B w w' c x g}, C B w c x → w.grownBy w' (some g) → g < B → C B w' c x
  base : ∀ {B B' w c x}, C B w c x → B' ≤ B → C B' w c x
/-- a slice of such values -/
def Kd.At {α : Type} (K : Kd α) (B : Nat) (w : World) (v : Value) (xs : List α) : Prop :=
  ∃ cs : List (List Value), Rd w v K.sz xs.length cs.flatten ∧ (∀ k, v.ownBlock = some k → B ≤ k) ∧ cs.length = xs.length ∧ ∀ (k : Nat) (c : List Value) (x : α), cs[k]? = some c → xs[k]? = some x → K.C B w c x
section
variable {α : Type} {K : Kd α}
theorem Kd.At.below {B : Nat} {w w' : World} {v : Value} {xs : List α} (h : K.At B w v xs) (hb : Below w.heap.size w w') : K.At B w' v xs := by
  obtain ⟨cs, h1, h2, h3, h5⟩ := h
  exact ⟨cs, h1.below hb, h2, h3, fun k c x hc hx => K.below (h5 k c x hc hx) hb⟩
theorem ne_of_lt {B g : Nat} {v : Value} (h : ∀ k, v.ownBlock = some k → B ≤ k) (hg : g < B) : v.ownBlock = none ∨ v.ownBlock ≠ some g := by
  cases hv : v.ownBlock with
  | none => exact .inl rfl
  | some k =>
    refine .inr fun e => ?_
    have := h k hv
    have := Option.some.inj e
    omega
theorem Kd.At.grown {B g : Nat} {w w' : World} {v : Value} {xs : List α} (h : K.At B w v xs) (hg : w.grownBy w' (some g)) (hlt : g < B) : K.At B w' v xs := by
  obtain ⟨cs, h1, h2, h3, h5⟩ := h
  exact ⟨cs, h1.grown hg (ne_of_lt h2 hlt), h2, h3, fun k c x hc hx => K.grown (h5 k c x hc hx) hg hlt⟩
theorem Kd.At.base {B B' : Nat} {w : World} {v : Value} {xs : List α} (h : K.At B w v xs) (hb : B' ≤ B) : K.At B' w v xs := by
  obtain ⟨cs, h1, h2, h3, h5⟩ := h
  exact ⟨cs, h1, fun k hk => Nat.le_trans hb (h2 k hk), h3, fun k c x hc hx => K.base (h5 k c x hc hx) hb⟩
theorem grown_setg (W : World) (b i : Nat) (v : Value) : W.grownBy (W.setCell ⟨b, i, none⟩ v) (some b) :=
  ⟨rfl, rfl, rfl, by simp, fun k _ hk => Below.heap_setCell _ _ _ k (fun e => hk (by rw [e]))⟩
theorem Kd.At.setg {B g : Nat} {w : World} {v : Value} {xs : List α} (h : K.At B w v xs) (hg : g < B) (i : Nat) (u : Value) : K.At B (w.setCell ⟨g, i, none⟩ u) v xs := h.grown (grown_setg w g i u) hg
theorem flatten_get {sz : Nat} : ∀ {cs : List (List Value)}, (∀ c ∈ cs, c.length = sz) → ∀ {k j : Nat} {c : List Value} {u : Value}, cs[k]? = some c → c[j]? = some u → cs.flatten[k * sz + j]? = some u
  | [], _, k, _, _, _, hk, _ => by simp at hk
  | c :: cs, hl, 0, j, c', u, hk, hj => by
    simp at hk; subst hk
    rw [List.flatten_cons, Nat.zero_mul, Nat.zero_add, List.getElem?_append_left (List.getElem?_eq_some_iff.1 hj).1, hj]
  | c :: cs, hl, k + 1, j, c', u, hk, hj => by
    have hc := hl c List.mem_cons_self
    rw [List.flatten_cons, List.getElem?_append_right (by rw [hc, Nat.add_mul]; omega), show (k + 1) * sz + j - c.length = k * sz + j from by rw [hc, Nat.add_mul]; omega]
    exact flatten_get (fun c h => hl c (List.mem_cons_of_mem _ h)) (by simpa using hk) hj
theorem flatten_len {sz : Nat} {cs : List (List Value)} (h : ∀ c ∈ cs, c.length = sz) : cs.flatten.length = cs.length * sz := by
  induction cs with
  | nil => simp
  | cons c cs ih =>
    rw [List.flatten_cons, List.length_append, ih (fun c hc => h c (List.mem_cons_of_mem _ hc)), h c List.mem_cons_self, List.length_cons, Nat.add_mul]; omega
theorem Kd.lens {B : Nat} {w : World} {cs : List (List Value)} {xs : List α} (h3 : cs.length = xs.length) (h5 : ∀ (k : Nat) (c : List Value) (x : α), cs[k]? = some c → xs[k]? = some x → K.C B w c x) : ∀ c ∈ cs, c.length = K.sz := by
  intro c hc
  obtain ⟨k, hk⟩ := List.getElem?_of_mem hc
  have hl := (List.getElem?_eq_some_iff.1 hk).1
  exact K.len (h5 k c _ hk (List.getElem?_eq_getElem (by omega)))
/-- such a slice, taken apart for a walk -/
theorem Kd.At.parts {B : Nat} {w : World} {v : Value} {xs : List α} (h : K.At B w v xs) : ∃ (p : Option Addr) (cap b off : Nat), v = .slice p xs.length cap ∧ xs.length ≤ cap ∧ (0 < xs.length → p = some ⟨b, off, none⟩) ∧
    (∀ k (hk : k < xs.length), ∃ c, K.C B w c xs[k] ∧ ∀ j u, c[j]? = some u → w.cell? ⟨b, off + k * K.sz + j, none⟩ = some u) := by
  obtain ⟨cs, h1, h2, h3, h5⟩ := h
  obtain ⟨hl, p, cap, b, off, hv, hcap, _, hc⟩ := h1
  refine ⟨p, cap, b, off, hv, hcap, fun h => (hc h).1, fun k hk => ?_⟩
  have hk2 : k < cs.length := by omega
  refine ⟨cs[k], h5 k _ _ (List.getElem?_eq_getElem hk2) (List.getElem?_eq_getElem hk), fun j u hj => ?_⟩
  have hls := Kd.lens h3 h5
  have hj2 := (List.getElem?_eq_some_iff.1 hj).1
  have hj3 : j < K.sz := by rw [← hls _ (List.getElem_mem hk2)]; exact hj2
  have hlt : k * K.sz + j < xs.length * K.sz := by
    have : (k + 1) * K.sz ≤ xs.length * K.sz := Nat.mul_le_mul_right _ hk
    rw [Nat.add_mul] at this; omega
  rw [Nat.add_assoc, (hc (by omega)).2 (k * K.sz + j) hlt]
  exact flatten_get hls (List.getElem?_eq_getElem hk2) hj
/-- a slice that the call has filled, element by element -/
theorem Kd.At.of_own {B : Nat} {w : World} {base : Nat} {e : TypeId} {v : Value} {n : Nat} {xs : List α} {cs : List (List Value)} (h : w.ownsRow base e K.sz v n cs.flatten) (hn : n = xs.length) (hB : B ≤ base) (h3 : cs.length = xs.length)
    (h5 : ∀ (k : Nat) (c : List Value) (x : α), cs[k]? = some c → xs[k]? = some x → K.C B w c x) : K.At B w v xs := by
  subst hn
  exact ⟨cs, rd_of_own h, fun k hk => Nat.le_trans hB (h.lt k hk).1, h3, h5⟩
theorem Kd.At.nil (w : World) (B : Nat) : K.At B w (.slice none 0 0) [] := ⟨[], ⟨by simp, none, 0, 0, 0, rfl, Nat.le_refl _, fun _ => rfl, fun h => by simp at h⟩, fun k h => by simp [Value.ownBlock] at h, rfl, fun k c x h => by simp at h⟩
end
/-- kinds of elements without slices: their cells tell it all -/
def Kd.flat {α : Type} (sz : Nat) (f : α → List Value) (hf : ∀ x, (f x).length = sz) : Kd α where
  sz := sz
  C := fun _ _ c x => c = f x
  len := fun h => by rw [h]; exact hf _
  below := fun h _ => h
  grown := fun h _ _ => h
  base := fun h _ => h
end Go.Proofs.YtihpibdodlgpaaaGreatDoor
