/- A network that came in as an argument, opened: what its cells hold; what bounds there are. -/
import Derived.Test.YtihpibdodlgpaaaGreatDoorNetD
import Derived.Test.YtihpibdodlgpaaaGreatDoorOpenSl
namespace Go.Proofs.YtihpibdodlgpaaaGreatDoor
open Go.ChangeShapes Go.WideShapes Go.ChangeAt Go.RowKit Go.Deep

abbrev BIG : Nat := 9223372036854775807
/-- a slice that came in, element by element -/
theorem open_cellK {α : Type} [Inhabited α] (K : Kd α) (Good : α → Prop) (hsz : 0 < K.sz) {H : Type} {enc : TypeId × Value → H} {W : World} {t e : TypeId} {n : Nat} {v : Value} {y : DataW H × List MemPlace}
    (ht : Tryz.prog.underlying t = some (.slice e)) (hC : Tryz.prog.cellsOf e = K.sz)
    (hopen : ∀ (n : Nat) (cs : List Value) (y : DataW H × List MemPlace), DataW.trod enc Tryz.prog W 0 (fun _ => true) true n e cs = some y → ∃ x : α, K.C 0 W cs x ∧ Good x)
    (hf : DataW.trod enc Tryz.prog W 0 (fun _ => true) true n t [v] = some y) : ∃ xs : List α, K.At 0 W v xs ∧ xs.length ≤ BIG ∧ ∀ x ∈ xs, Good x := by
  rcases open_slice ht hf with ⟨hcs, _⟩ | ⟨a, len, cap, m', n, D, Pl, hcs, _, hl, hmx, hmm, _, hel⟩
  · obtain rfl : v = .slice none 0 0 := by simpa using hcs
    exact ⟨[], Kd.At.nil _ _, by simp, by simp⟩
  · obtain rfl : v = .slice (some a) len cap := by simpa using hcs
    rw [hC] at hel
    have hm' : len ≤ m' := by rw [hmm]; split <;> omega
    have hex : ∀ i, ∃ p : List Value × α, i < len → K.C 0 W p.1 p.2 ∧ Good p.2 ∧ ∀ j, j < K.sz → W.cell? (a.add (i * K.sz + j)) = p.1[j]? := by
      intro i
      by_cases hi : i < len
      · obtain ⟨cs', hcells, htr⟩ := hel i (by omega)
        obtain ⟨x, hx, hg⟩ := hopen _ _ _ htr
        obtain ⟨_, _, hat⟩ := World.cells?_some hcells
        refine ⟨(cs', x), fun _ => ⟨hx, hg, fun j hj => ?_⟩⟩
        have h1 := hat j hj
        rw [← h1, Go.Deep.add_add]
      · exact ⟨([], default), fun h => absurd h hi⟩
    obtain ⟨f, hf'⟩ := Classical.axiomOfChoice hex
    have hlen : ((List.range len).map (fun i => (f i).2)).length = len := by simp
    have hlen2 : ((List.range len).map (fun i => (f i).1)).length = len := by simp
    have hcl : ∀ c ∈ (List.range len).map (fun i => (f i).1), c.length = K.sz := by
      intro c hc
      obtain ⟨i, hi, rfl⟩ := List.mem_map.1 hc
      exact K.len (hf' i (by simpa using hi)).1
    refine ⟨(List.range len).map (fun i => (f i).2), ⟨(List.range len).map (fun i => (f i).1), ?_, fun k _ => Nat.zero_le _, by rw [hlen, hlen2], fun k c x hc hx => ?_⟩, by rw [hlen]; unfold maxLen at hmx; unfold BIG; omega, ?_⟩
    · rw [hlen]
      refine ⟨by rw [flatten_len hcl, hlen2], ?_⟩
      by_cases h0 : 0 < len
      · have hc0 := (hf' 0 h0).2.2 0 hsz
        have hl0 := K.len (hf' 0 h0).1
        rw [List.getElem?_eq_getElem (by omega)] at hc0
        obtain ⟨b, off, spot⟩ := a
        have hspot : spot = none := by simpa [Addr.add] using World.cell?_spot hc0
        subst hspot
        refine ⟨some ⟨b, off, none⟩, cap, b, off, rfl, hl, (by intro h; cases h), fun _ => ⟨rfl, fun k hk => ?_⟩⟩
        have hk1 : k / K.sz < len := Nat.div_lt_of_lt_mul (by rw [Nat.mul_comm]; exact hk)
        have hk2 : k / K.sz * K.sz + k % K.sz = k := by rw [Nat.mul_comm]; exact Nat.div_add_mod k K.sz
        have hk3 := Nat.mod_lt k hsz
        have h1 := (hf' (k / K.sz) hk1).2.2 (k % K.sz) hk3
        have h4 := K.len (hf' (k / K.sz) hk1).1
        rw [List.getElem?_eq_getElem (by omega)] at h1
        have h2 := flatten_get hcl (k := k / K.sz) (j := k % K.sz) (c := (f (k / K.sz)).1) (u := (f (k / K.sz)).1[k % K.sz]'(by omega)) (by simp [hk1]) (List.getElem?_eq_getElem _)
        rw [hk2] at h1 h2
        rw [h2, ← Go.WideShapes.add_plain, h1]
      · have h00 : len = 0 := by omega
        subst h00
        exact ⟨some a, cap, 0, 0, rfl, hl, (by intro h; cases h), fun h => by omega⟩
    · simp only [List.getElem?_map] at hc hx
      by_cases hk : k < len
      · rw [List.getElem?_range hk] at hc hx
        simp at hc hx
        subst hc; subst hx
        exact (hf' k hk).1
      · rw [List.getElem?_eq_none (by simpa using hk)] at hc
        simp at hc
    · intro x hx
      obtain ⟨i, hi, rfl⟩ := List.mem_map.1 hx
      exact (hf' i (by simpa using hi)).2.1
end Go.Proofs.YtihpibdodlgpaaaGreatDoor
