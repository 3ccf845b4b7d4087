/- A step read from its text: what both readers look for, in plain Lean. No program's text is walked here. -/
import Derived.Test.YtgmccafmopgjaaaGreatDoorScr8
import Derived.Test.YtgmccafmopgjaaaGreatDoorPInt
import Derived.Test.YtgmccafmopgjaaaGreatDoorSpl
namespace Go.Proofs.YtgmccafmopgjaaaGreatDoor
open Go.RowKit

/-- x is a valid step of kind k with the text s -/
def StIs (k : Int) (s : ByteArray) (x : St) : Prop := stB x = true ∧ x.kd = k ∧ stT x = s
/-- o is the step that is found for s: of the least kind that has one -/
def PsIs (s : ByteArray) : Option St → Prop
  | some x => ∃ k : Nat, k ≤ 6 ∧ StIs k s x ∧ ∀ j : Nat, j < k → ∀ y, ¬ StIs j s y
  | none => ∀ j : Nat, j ≤ 6 → ∀ y, ¬ StIs j s y
theorem empty_of {d : ByteArray} (h : d.toList.isEmpty = true) : d = ⟨#[]⟩ := by
  rw [ByteArray.toList_eq, List.isEmpty_iff] at h
  exact ByteArray.ext (Array.toList_inj.1 h)
theorem empty_size {d : ByteArray} (h : d.toList.isEmpty = false) : 0 < d.size := by
  rw [ByteArray.toList_eq, List.isEmpty_eq_false_iff] at h
  have h1 : d.data.toList.length = d.size := Array.length_toList
  have := List.length_pos_iff.2 h
  omega
theorem ba_cancel {a b c : ByteArray} (h : a ++ b = a ++ c) : b = c := by
  have h1 := congrArg (fun x : ByteArray => x.data.toList) h
  simp only [ByteArray.data_append, Array.toList_append] at h1
  exact ByteArray.ext (Array.toList_inj.1 (List.append_cancel_left h1))
theorem dig1_inj {n m : Int} (h1 : 1 ≤ n) (h2 : n ≤ 7) (h3 : 1 ≤ m) (h4 : m ≤ 7) (h : dig1 n = dig1 m) : n = m := by
  rcases dig1_eq h1 h2 with rfl | rfl | rfl | rfl | rfl | rfl | rfl <;> rcases dig1_eq h3 h4 with rfl | rfl | rfl | rfl | rfl | rfl | rfl <;> first | rfl | exact absurd h (by decide)
/-- the kinds' three shapes -/
theorem stIs_cases {k : Int} {s : ByteArray} {x : St} (h : StIs k s x) :
    (k = 1 ∧ x = ⟨1, 0, ⟨#[]⟩⟩ ∧ s = stW 1) ∨ (k = 1 ∧ ∃ d : ByteArray, d.size ≤ 8 ∧ 0 < d.size ∧ letB d = true ∧ x = ⟨1, 0, d⟩ ∧ s = stW 1 ++ (⟨#[32]⟩ ++ d)) ∨ (k = 4 ∧ x = ⟨4, 0, ⟨#[]⟩⟩ ∧ s = stW 4) ∨
    ((k = 2 ∨ k = 3 ∨ k = 5 ∨ k = 6) ∧ ∃ n : Int, 1 ≤ n ∧ n ≤ 7 ∧ x = ⟨k, n, ⟨#[]⟩⟩ ∧ s = stW k.toNat ++ (⟨#[32]⟩ ++ dig1 n)) := by
  obtain ⟨a, n, d⟩ := x
  obtain ⟨h1, rfl, rfl⟩ := h
  rcases stB_cases h1 with ⟨rfl, rfl, h8⟩ | ⟨rfl, rfl, he⟩ | ⟨hk, hn1, hn2, he⟩
  · cases he : d.toList.isEmpty
    · rw [stB_one rfl, Bool.and_eq_true, Bool.and_eq_true] at h1
      exact .inr (.inl ⟨rfl, d, h8, empty_size he, h1.2.2, rfl, stT_data he⟩)
    · obtain rfl := empty_of he
      exact .inl ⟨rfl, rfl, stT_send he⟩
  · obtain rfl := empty_of he
    exact .inr (.inr (.inl ⟨rfl, rfl, stT_tick⟩))
  · obtain rfl := empty_of he
    exact .inr (.inr (.inr ⟨hk, n, hn1, hn2, rfl, stT_node (by omega) (by omega)⟩))
theorem stIs_kd {k : Int} {s : ByteArray} {x : St} (h : StIs k s x) : 1 ≤ k ∧ k ≤ 6 := by
  have := stB_kd h.1
  rw [h.2.1] at this; exact this
theorem stIs_uniq {k : Int} {s : ByteArray} {x y : St} (h : StIs k s x) (h' : StIs k s y) : x = y := by
  have z4 : (stW 1).size = 4 := rfl
  have z1 : (⟨#[32]⟩ : ByteArray).size = 1 := rfl
  rcases stIs_cases h with ⟨rfl, rfl, e⟩ | ⟨rfl, d, _, hp, _, rfl, e⟩ | ⟨rfl, rfl, e⟩ | ⟨hk, n, h1, h2, rfl, e⟩ <;>
    rcases stIs_cases h' with ⟨e0, rfl, e'⟩ | ⟨e0, d', _, hp', _, rfl, e'⟩ | ⟨e0, rfl, e'⟩ | ⟨hk', n', h1', h2', rfl, e'⟩ <;> try (first | omega | rfl)
  · exfalso
    have := congrArg ByteArray.size (e.symm.trans e')
    rw [ByteArray.size_append, ByteArray.size_append] at this
    omega
  · exfalso
    have := congrArg ByteArray.size (e.symm.trans e')
    rw [ByteArray.size_append, ByteArray.size_append] at this
    omega
  · rw [ba_cancel (ba_cancel (e.symm.trans e'))]
  · rw [dig1_inj h1 h2 h1' h2' (ba_cancel (ba_cancel (e.symm.trans e')))]
theorem PsIs.uniq {s : ByteArray} {o o' : Option St} (h : PsIs s o) (h' : PsIs s o') : o = o' := by
  match o, o', h, h' with
  | none, none, _, _ => rfl
  | none, some y, h, ⟨k, hk, hy, _⟩ => exact absurd hy (h k hk y)
  | some x, none, ⟨k, hk, hx, _⟩, h' => exact absurd hx (h' k hk x)
  | some x, some y, ⟨k, hk, hx, hl⟩, ⟨k', hk', hy, hl'⟩ =>
    rcases Nat.lt_trichotomy k k' with hlt | rfl | hlt
    · exact absurd hx (hl' k hlt x)
    · rw [stIs_uniq hx hy]
    · exact absurd hy (hl k' hlt y)
/-- a step is recovered from its text -/
theorem psIs_text {x : St} (h : stB x = true) : PsIs (stT x) (some x) := by
  have hk := stB_kd h
  have hx : StIs x.kd (stT x) x := ⟨h, rfl, rfl⟩
  refine ⟨x.kd.toNat, by omega, by rw [show ((x.kd.toNat : Nat) : Int) = x.kd from by omega]; exact hx, fun j hj y hy => ?_⟩
  have hjk : (j : Int) ≠ x.kd := by omega
  have first : ∀ {k : Int} {s : ByteArray} {y : St}, StIs k s y → s.data.toList.head? = some (if k = 1 then 115 else if k = 2 then 100 else if k = 4 then 116 else if k = 5 then 117 else 108) := by
    intro k s y h
    rcases stIs_cases h with ⟨rfl, rfl, rfl⟩ | ⟨rfl, d, _, hp, _, rfl, rfl⟩ | ⟨rfl, rfl, rfl⟩ | ⟨hk, n, h1, h2, rfl, rfl⟩
    · rfl
    · rfl
    · rfl
    · rcases hk with rfl | rfl | rfl | rfl <;> rfl
  have f1 := first hx
  have f2 := first hy
  have hj2 := stIs_kd hy
  rw [f1] at f2
  have h36 : (x.kd = 3 ∧ (j : Int) = 6) ∨ (x.kd = 6 ∧ (j : Int) = 3) := by
    have e := Option.some.inj f2
    have hc : (j : Int) = 1 ∨ (j : Int) = 2 ∨ (j : Int) = 3 ∨ (j : Int) = 4 ∨ (j : Int) = 5 ∨ (j : Int) = 6 := by omega
    have hd : x.kd = 1 ∨ x.kd = 2 ∨ x.kd = 3 ∨ x.kd = 4 ∨ x.kd = 5 ∨ x.kd = 6 := by omega
    rcases hc with h1 | h1 | h1 | h1 | h1 | h1 <;> rcases hd with h2 | h2 | h2 | h2 | h2 | h2 <;> rw [h1, h2] at e hjk <;> first | exact .inl ⟨h2, h1⟩ | exact .inr ⟨h2, h1⟩ | (exact absurd rfl hjk) | (exact absurd e (by decide))
  have sz : ∀ {k : Int} {s : ByteArray} {y : St}, StIs k s y → k = 3 ∨ k = 6 → s.size = if k = 3 then 6 else 9 := by
    intro k s y h h0
    rcases stIs_cases h with ⟨rfl, rfl, rfl⟩ | ⟨rfl, d, _, hp, _, rfl, rfl⟩ | ⟨rfl, rfl, rfl⟩ | ⟨hk, n, h1, h2, rfl, rfl⟩
    · omega
    · omega
    · omega
    · rcases h0 with rfl | rfl
      · rfl
      · rfl
  rcases h36 with ⟨e1, e2⟩ | ⟨e1, e2⟩
  · have a := sz hx (.inl e1)
    have b := sz hy (.inr e2)
    rw [e1] at a; rw [e2] at b
    simp at a b; omega
  · have a := sz hx (.inr e1)
    have b := sz hy (.inl e2)
    rw [e1] at a; rw [e2] at b
    simp at a b; omega
theorem psIs_size {s : ByteArray} {x : St} (h : PsIs s (some x)) : stB x = true ∧ stT x = s := by
  obtain ⟨k, _, hx, _⟩ := h
  exact ⟨hx.1, hx.2.2⟩
end Go.Proofs.YtgmccafmopgjaaaGreatDoor
