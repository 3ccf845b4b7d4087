/- Arguments that are structs of one-cell fields, and slices of them, opened: what their cells hold. -/
import Derived.Test.YtihpibdodlgpaaaGreatDoorMem
import Derived.ProofKit
import Derived.OpenShut
import Derived.Deep.Slices
import Derived.Deep.Fields
namespace Go.Proofs.YtihpibdodlgpaaaGreatDoor
open Go.ChangeShapes Go.WideShapes Go.ChangeAt Go.RowKit Go.Deep

/-- Each field of a struct that reads as data reads by itself. -/
theorem trod_fields {H : Type} {enc : TypeId × Value → H} {P : Program} {w : World} {base : Nat} {spare : Nat → Bool} {held : Bool} {t : TypeId} {fs : Array Field} {fuel : Nat} {cs : List Value} {x : DataW H × List MemPlace}
    (ht : P.underlying t = some (.struct fs)) (hone : oneCellFields P fs = true) (hC : P.cellsOf t = fs.size) (h : DataW.trod enc P w base spare held fuel t cs = some x) :
    cs.length = fs.size ∧ ∀ (i : Nat) (f : Field) (v : Value), fs[i]? = some f → cs[i]? = some v → ∃ (n : Nat) (y : DataW H × List MemPlace), DataW.trod enc P w base spare held n f.type [v] = some y := by
  obtain ⟨ys, n, _, _, hlen, hyl, hf⟩ := DataW.trod_struct ht h
  refine ⟨by rw [hlen, hC], fun i f v hi hv => ?_⟩
  obtain ⟨ho, hk⟩ := hone_of hone i f hi
  have h1 := hf i f hi
  have hil : i < fs.size := (Array.getElem?_eq_some_iff.1 hi).1
  obtain ⟨hl, hve⟩ := List.getElem?_eq_some_iff.1 hv
  rw [ho, hk, List.drop_eq_getElem_cons hl, hve] at h1
  refine ⟨n, ys[i]'(by omega), ?_⟩
  rw [List.getElem?_eq_getElem (by omega)] at h1
  exact h1

theorem flat_length {α : Type} (c : α → List Value) (m : Nat) (hc : ∀ x, (c x).length = m) (xs : List α) : (xs.flatMap c).length = xs.length * m := by
  induction xs with
  | nil => simp
  | cons x r ih => simp [ih, hc, Nat.add_mul]; omega
theorem flat_get {α : Type} (c : α → List Value) (m : Nat) (hc : ∀ x, (c x).length = m) (xs : List α) (k j : Nat) (hk : k < xs.length) (hj : j < m) : (xs.flatMap c)[k * m + j]? = (c xs[k])[j]? := by
  induction xs generalizing k with
  | nil => simp at hk
  | cons x r ih =>
    rw [List.flatMap_cons]
    cases k with
    | zero => rw [List.getElem?_append_left (by rw [hc]; omega)]; simp
    | succ k =>
      rw [List.getElem?_append_right (by rw [hc, Nat.succ_mul]; omega), hc, show (k + 1) * m + j - m = k * m + j from by rw [Nat.succ_mul]; omega, ih k (by simpa using hk)]
      rfl

/-- A slice of structs that came in. -/
theorem open_sl {α : Type} [Inhabited α] (c : α → List Value) (m : Nat) (Good : α → Prop) (hm : 0 < m) (hc : ∀ x, (c x).length = m) {H : Type} {enc : TypeId × Value → H} {P : Program} {W : World} {b0 : Nat} {t e : TypeId} {v : Value} {d : DataW H} {ps : List MemPlace}
    (ht : P.underlying t = some (.slice e)) (hC : P.cellsOf e = m)
    (hopen : ∀ (n : Nat) (cs : List Value) (y : DataW H × List MemPlace), DataW.trod enc P W 0 (fun _ => true) true n e cs = some y → ∃ x : α, cs = c x ∧ Good x)
    (hok : Value.okWide P W .any b0 t v) (h : DataW.Trod enc P W 0 (fun _ => true) true t v d ps) :
    ∃ xs : List α, Rd W v m xs.length (xs.flatMap c) ∧ xs.length ≤ 9223372036854775807 ∧ (∀ x ∈ xs, Good x) ∧ ∃ (p : Option Addr) (cap : Nat), v = .slice p xs.length cap := by
  obtain ⟨a0, len, cap, rfl⟩ := okWide_slice ht hok
  obtain ⟨fuel, hf⟩ := h
  rcases open_slice ht hf with ⟨hcs, _⟩ | ⟨a, len', cap', m', n, D, Pl, hcs, _, hl, hmx, hmm, _, hel⟩
  · simp [Value.cells] at hcs
    obtain ⟨rfl, rfl, rfl⟩ := hcs
    exact ⟨[], ⟨by simp, none, 0, 0, 0, rfl, Nat.le_refl _, fun _ => rfl, fun h => by cases h⟩, by simp, by simp, none, 0, rfl⟩
  · simp [Value.cells] at hcs
    obtain ⟨rfl, rfl, rfl⟩ := hcs
    rw [hC] at hel
    have hm' : len ≤ m' := by rw [hmm]; split <;> omega
    have hex : ∀ i, ∃ x : α, i < len → Good x ∧ ∀ j, j < m → W.cell? (a.add (i * m + j)) = (c x)[j]? := by
      intro i
      by_cases hi : i < len
      · obtain ⟨cs', hcells, htr⟩ := hel i (by omega)
        obtain ⟨x, rfl, hg⟩ := hopen _ _ _ htr
        obtain ⟨_, _, hat⟩ := World.cells?_some hcells
        refine ⟨x, fun _ => ⟨hg, fun j hj => ?_⟩⟩
        have h1 := hat j hj
        rw [← h1, Go.Deep.add_add]
      · exact ⟨default, fun h => absurd h hi⟩
    obtain ⟨f, hf'⟩ := Classical.axiomOfChoice hex
    have hlen : ((List.range len).map f).length = len := by simp
    refine ⟨(List.range len).map f, ?_, by rw [hlen]; unfold maxLen at hmx; omega, ?_, some a, cap, by rw [hlen]⟩
    · rw [hlen]
      by_cases h0 : 0 < len
      · have hc0 := (hf' 0 h0).2 0 hm
        have hsome : (c (f 0))[0]? = some ((c (f 0))[0]'(by rw [hc]; exact hm)) := List.getElem?_eq_getElem _
        rw [hsome] at hc0
        obtain ⟨b, off, spot⟩ := a
        have hspot : spot = none := by simpa [Addr.add] using World.cell?_spot hc0
        subst hspot
        refine ⟨by rw [flat_length c m hc, hlen], some ⟨b, off, none⟩, cap, b, off, rfl, hl, (by intro h; cases h), fun _ => ⟨rfl, fun k hk => ?_⟩⟩
        have hk1 : k / m < len := Nat.div_lt_of_lt_mul (by rw [Nat.mul_comm]; exact hk)
        have hk2 : k / m * m + k % m = k := by rw [Nat.mul_comm]; exact Nat.div_add_mod k m
        have h1 := (hf' (k / m) hk1).2 (k % m) (Nat.mod_lt _ hm)
        rw [hk2] at h1
        have h2 := flat_get c m hc ((List.range len).map f) (k / m) (k % m) (by rw [hlen]; exact hk1) (Nat.mod_lt _ hm)
        rw [hk2] at h2
        rw [h2, ← Go.WideShapes.add_plain, h1]
        simp
      · have h00 : len = 0 := by omega
        subst h00
        exact ⟨by simp, some a, cap, 0, 0, rfl, hl, (by intro h; cases h), fun h => by omega⟩
    · intro x hx
      obtain ⟨i, hi, rfl⟩ := List.mem_map.1 hx
      exact (hf' i (by simpa using hi)).1
end Go.Proofs.YtihpibdodlgpaaaGreatDoor
