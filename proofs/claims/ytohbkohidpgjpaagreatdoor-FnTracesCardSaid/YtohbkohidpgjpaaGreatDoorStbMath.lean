/- Stably sorted lists: there is one alone; two sorted lists merged by parts, one element put in, two parts turned. Plain laws. -/
namespace Go.Proofs.YtohbkohidpgjpaaGreatDoor

section
variable {α : Type} (key : α → Int)
def Srt (L : List α) : Prop := L.Pairwise (fun a b => key a ≤ key b)
def fk (k : Int) (L : List α) : List α := L.filter (fun a => decide (key a = k))
/-- M is L, stably sorted -/
def Stb (L M : List α) : Prop := Srt key M ∧ ∀ k, fk key k M = fk key k L
variable {key}
theorem fk_app (k : Int) (A B : List α) : fk key k (A ++ B) = fk key k A ++ fk key k B := List.filter_append ..
theorem fk_mem {k : Int} {L : List α} {x : α} : x ∈ fk key k L ↔ x ∈ L ∧ key x = k := by
  rw [fk, List.mem_filter, decide_eq_true_eq]
theorem Stb.mem {L M : List α} (h : Stb key L M) (x : α) : x ∈ M ↔ x ∈ L := by
  have := h.2 (key x)
  constructor
  · intro hx
    have h1 : x ∈ fk key (key x) M := fk_mem.2 ⟨hx, rfl⟩
    rw [this] at h1
    exact (fk_mem.1 h1).1
  · intro hx
    have h1 : x ∈ fk key (key x) L := fk_mem.2 ⟨hx, rfl⟩
    rw [← this] at h1
    exact (fk_mem.1 h1).1
theorem fk_cons_eq {k : Int} {x : α} {L : List α} (h : key x = k) : fk key k (x :: L) = x :: fk key k L := by
  rw [fk, List.filter_cons, if_pos (by simpa using h)]; rfl
theorem fk_cons_ne {k : Int} {x : α} {L : List α} (h : key x ≠ k) : fk key k (x :: L) = fk key k L := by
  rw [fk, List.filter_cons, if_neg (by simpa using h)]; rfl
theorem fk_none {k : Int} {L : List α} (h : ∀ x ∈ L, key x ≠ k) : fk key k L = [] := by
  rw [fk, List.filter_eq_nil_iff]
  intro x hx
  simpa using h x hx
theorem srt_uniq : ∀ {A B : List α}, Srt key A → Srt key B → (∀ k, fk key k A = fk key k B) → A = B
  | [], [], _, _, _ => rfl
  | [], y :: B, _, _, h => by
    have := h (key y)
    rw [fk_cons_eq rfl] at this
    cases this
  | x :: A, [], _, _, h => by
    have := h (key x)
    rw [fk_cons_eq rfl] at this
    cases this
  | x :: A, y :: B, ha, hb, h => by
    obtain ⟨hx, hA⟩ := List.pairwise_cons.1 ha
    obtain ⟨hy, hB⟩ := List.pairwise_cons.1 hb
    have hk : key x = key y := by
      rcases Int.lt_trichotomy (key x) (key y) with hlt | he | hlt
      · have h1 := h (key x)
        rw [fk_cons_eq rfl, fk_none (L := y :: B) (fun z hz => by
          rcases List.mem_cons.1 hz with rfl | hz
          · omega
          · have := hy z hz; omega)] at h1
        cases h1
      · exact he
      · have h1 := h (key y)
        rw [fk_cons_eq (x := y) rfl, fk_none (L := x :: A) (fun z hz => by
          rcases List.mem_cons.1 hz with rfl | hz
          · omega
          · have := hx z hz; omega)] at h1
        cases h1
    have h1 := h (key x)
    rw [fk_cons_eq rfl, fk_cons_eq hk.symm, List.cons.injEq] at h1
    obtain ⟨rfl, h2⟩ := h1
    rw [srt_uniq hA hB (fun k => by
      by_cases he : key x = k
      · subst he; exact h2
      · have := h k
        rwa [fk_cons_ne he, fk_cons_ne he] at this)]
theorem Stb.uniq {L A B : List α} (ha : Stb key L A) (hb : Stb key L B) : A = B := srt_uniq ha.1 hb.1 (fun k => (ha.2 k).trans (hb.2 k).symm)
theorem Stb.self {L : List α} (h : Srt key L) : Stb key L L := ⟨h, fun _ => rfl⟩

theorem Stb.trans {L M K : List α} (h : Stb key L M) (k : Stb key M K) : Stb key L K := ⟨k.1, fun j => (k.2 j).trans (h.2 j)⟩
/-- stability carries over parts that are sorted by themselves -/
theorem Stb.parts {A B A' B' M : List α} (ha : Stb key A A') (hb : Stb key B B') (h : Stb key (A' ++ B') M) : Stb key (A ++ B) M :=
  ⟨h.1, fun k => by rw [h.2 k, fk_app, fk_app, ha.2 k, hb.2 k]⟩
/-- two sorted lists, merged by parts -/
theorem Stb.split {u1 u2 v1 v2 M1 M2 : List α} (hu : Srt key (u1 ++ u2)) (hv : Srt key (v1 ++ v2)) (h12 : ∀ x ∈ u1, ∀ y ∈ v2, key x ≤ key y) (h21 : ∀ y ∈ v1, ∀ x ∈ u2, key y < key x)
    (m1 : Stb key (u1 ++ v1) M1) (m2 : Stb key (u2 ++ v2) M2) : Stb key ((u1 ++ u2) ++ (v1 ++ v2)) (M1 ++ M2) := by
  obtain ⟨hu1, hu2, hu12⟩ := List.pairwise_append.1 hu
  obtain ⟨hv1, hv2, hv12⟩ := List.pairwise_append.1 hv
  refine ⟨List.pairwise_append.2 ⟨m1.1, m2.1, fun x hx y hy => ?_⟩, fun k => ?_⟩
  · rw [m1.mem, List.mem_append] at hx
    rw [m2.mem, List.mem_append] at hy
    rcases hx with hx | hx <;> rcases hy with hy | hy
    · exact hu12 x hx y hy
    · exact h12 x hx y hy
    · exact Int.le_of_lt (h21 x hx y hy)
    · exact hv12 x hx y hy
  · have hc : fk key k u2 ++ fk key k v1 = fk key k v1 ++ fk key k u2 := by
      cases hf : fk key k v1 with
      | nil => rw [List.append_nil, List.nil_append]
      | cons y r =>
        have hy : y ∈ fk key k v1 := by rw [hf]; exact List.mem_cons_self ..
        obtain ⟨hy1, hy2⟩ := fk_mem.1 hy
        rw [fk_none (L := u2) (fun x hx he => by have := h21 y hy1 x hx; omega), List.nil_append, List.append_nil]
    rw [fk_app, m1.2 k, m2.2 k, fk_app, fk_app, fk_app, fk_app, fk_app]
    simp only [List.append_assoc]
    rw [← List.append_assoc (fk key k u2), hc, List.append_assoc]
/-- one element put behind all that are not greater -/
theorem Stb.snoc {A B : List α} {e : α} (h : Srt key (A ++ B)) (ha : ∀ x ∈ A, key x ≤ key e) (hb : ∀ x ∈ B, key e < key x) : Stb key ((A ++ B) ++ [e]) (A ++ e :: B) := by
  obtain ⟨hA, hB, hAB⟩ := List.pairwise_append.1 h
  refine ⟨List.pairwise_append.2 ⟨hA, List.pairwise_cons.2 ⟨fun x hx => Int.le_of_lt (hb x hx), hB⟩, fun x hx y hy => ?_⟩, fun k => ?_⟩
  · rcases List.mem_cons.1 hy with rfl | hy
    · exact ha x hx
    · exact hAB x hx y hy
  · rw [fk_app, fk_app, fk_app, List.append_assoc]
    congr 1
    by_cases he : key e = k
    · rw [fk_cons_eq he, fk_none (L := B) (fun x hx h => by have := hb x hx; omega), List.nil_append, fk_cons_eq he]; rfl
    · rw [fk_cons_ne he, fk_cons_ne he]; exact (List.append_nil _).symm
/-- one element put ahead of all that are not smaller -/
theorem Stb.cons {A B : List α} {e : α} (h : Srt key (A ++ B)) (ha : ∀ x ∈ A, key x < key e) (hb : ∀ x ∈ B, key e ≤ key x) : Stb key (e :: (A ++ B)) (A ++ e :: B) := by
  obtain ⟨hA, hB, hAB⟩ := List.pairwise_append.1 h
  refine ⟨List.pairwise_append.2 ⟨hA, List.pairwise_cons.2 ⟨hb, hB⟩, fun x hx y hy => ?_⟩, fun k => ?_⟩
  · rcases List.mem_cons.1 hy with rfl | hy
    · exact Int.le_of_lt (ha x hx)
    · exact hAB x hx y hy
  · rw [fk_app]
    by_cases he : key e = k
    · rw [fk_cons_eq he, fk_cons_eq he, fk_app, fk_none (L := A) (fun x hx h => by have := ha x hx; omega)]; rfl
    · rw [fk_cons_ne he, fk_cons_ne he, fk_app]
end
/-- two parts of equal length changed for each other: what swapRange does -/
def swapR {α : Type} (L : List α) (a b n : Nat) : List α := (List.range L.length).filterMap (fun i => if a ≤ i ∧ i < a + n then L[b + (i - a)]? else if b ≤ i ∧ i < b + n then L[a + (i - b)]? else L[i]?)
theorem swap_parts {α : Type} (X p Y q Z : List α) (h : p.length = q.length) : ∀ i, (X ++ q ++ Y ++ p ++ Z)[i]? = if X.length ≤ i ∧ i < X.length + p.length then (X ++ p ++ Y ++ q ++ Z)[X.length + p.length + Y.length + (i - X.length)]? else if X.length + p.length + Y.length ≤ i ∧ i < X.length + p.length + Y.length + p.length then (X ++ p ++ Y ++ q ++ Z)[X.length + (i - (X.length + p.length + Y.length))]? else (X ++ p ++ Y ++ q ++ Z)[i]? := by
  intro i
  simp only [List.append_assoc]
  split
  · rename_i h1
    rw [List.getElem?_append_right (by omega), List.getElem?_append_left (by omega), List.getElem?_append_right (by omega), List.getElem?_append_right (by omega), List.getElem?_append_right (by omega), List.getElem?_append_left (by omega)]
    congr 1; omega
  · split
    · rename_i h1 h2
      rw [List.getElem?_append_right (by omega), List.getElem?_append_right (by omega), List.getElem?_append_right (by omega), List.getElem?_append_left (by omega), List.getElem?_append_right (by omega), List.getElem?_append_left (by omega)]
      congr 1; omega
    · rename_i h1 h2
      by_cases hx : i < X.length
      · rw [List.getElem?_append_left hx, List.getElem?_append_left hx]
      · obtain ⟨j, rfl⟩ : ∃ j, i = X.length + (q.length + j) := ⟨i - X.length - q.length, by omega⟩
        have hr : ∀ (u w V : List α), u.length = w.length → (X ++ (u ++ V))[X.length + (w.length + j)]? = V[j]? := by
          intro u w V hu
          rw [List.getElem?_append_right (by omega), List.getElem?_append_right (by omega)]
          congr 1; omega
        rw [hr q q _ rfl, hr p q _ h]
        by_cases hy : j < Y.length
        · rw [List.getElem?_append_left hy, List.getElem?_append_left hy]
        · rw [List.getElem?_append_right (by omega), List.getElem?_append_right (by omega), List.getElem?_append_right (by omega), List.getElem?_append_right (by omega), h]
end Go.Proofs.YtohbkohidpgjpaaGreatDoor
