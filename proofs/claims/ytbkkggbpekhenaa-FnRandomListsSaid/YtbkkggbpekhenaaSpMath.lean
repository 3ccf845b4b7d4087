/- Numbers sorted: by the library's sort, and by putting one after the other to its place. Plain laws, no program in sight. -/
namespace Go.Proofs.Ytbkkggbpekhenaa

/-- ascending numbers -/
def Asc (l : List Int) : Prop := l.Pairwise fun a b => a ≤ b
theorem asc_perm_eq : ∀ {l l' : List Int}, Asc l → Asc l' → l.Perm l' → l = l'
  | [], l', _, _, h => (h.nil_eq)
  | a :: l, l', h1, h2, h => by
    match l', h2, h with
    | [], _, h => exact absurd h.length_eq (by simp)
    | b :: l', h2, h =>
      have h1' := List.pairwise_cons.1 h1
      have h2' := List.pairwise_cons.1 h2
      have hab : a = b := by
        rcases List.mem_cons.1 (h.subset (List.mem_cons_self ..)) with e | e
        · exact e
        · rcases List.mem_cons.1 (h.symm.subset (List.mem_cons_self ..)) with e' | e'
          · exact e'.symm
          · have := h2'.1 a e
            have := h1'.1 b e'
            omega
      subst hab
      rw [asc_perm_eq h1'.2 h2'.2 h.cons_inv]
theorem asc_merge (l : List Int) : Asc (l.mergeSort fun x y => decide (x ≤ y)) := by
  have h := List.pairwise_mergeSort (le := fun x y : Int => decide (x ≤ y)) (fun a b c h1 h2 => by simp at *; omega) (fun a b => by simp; omega) l
  exact h.imp (fun h => by simpa using h)
/-- the place of x among ascending numbers, looked for from place k down -/
def plc (acc : List Int) (x : Int) : Nat → Nat
  | 0 => 0
  | k + 1 => match acc[k]? with
    | some y => if x < y then plc acc x k else k + 1
    | none => k + 1
theorem plc_le (acc : List Int) (x : Int) (k : Nat) : plc acc x k ≤ k := by
  induction k with
  | zero => exact Nat.le_refl _
  | succ k ih =>
    unfold plc
    split
    · split <;> omega
    · exact Nat.le_refl _
theorem plc_down {acc : List Int} {x : Int} {k : Nat} (h : k < acc.length) (hlt : x < acc[k]) : plc acc x (k + 1) = plc acc x k := by
  rw [plc, List.getElem?_eq_getElem h]; simp [hlt]
theorem plc_stay {acc : List Int} {x : Int} {k : Nat} (h : k < acc.length) (hlt : ¬ x < acc[k]) : plc acc x (k + 1) = k + 1 := by
  rw [plc, List.getElem?_eq_getElem h]; simp [hlt]
def putL (acc : List Int) (x : Int) : List Int := acc.take (plc acc x acc.length) ++ x :: acc.drop (plc acc x acc.length)
/-- the first n numbers, each put to its place -/
def putN (xs : List Int) : Nat → List Int
  | 0 => []
  | n + 1 => match xs[n]? with
    | none => putN xs n
    | some x => putL (putN xs n) x
theorem putN_succ (xs : List Int) (n : Nat) (h : n < xs.length) : putN xs (n + 1) = putL (putN xs n) xs[n] := by
  rw [putN, List.getElem?_eq_getElem h]
theorem putL_perm (acc : List Int) (x : Int) : (putL acc x).Perm (acc ++ [x]) := by
  unfold putL
  have h := List.take_append_drop (plc acc x acc.length) acc
  generalize acc.take (plc acc x acc.length) = A at *
  generalize acc.drop (plc acc x acc.length) = B at *
  subst h
  rw [List.append_assoc]
  exact (List.perm_append_left_iff A).2 (List.perm_append_singleton x B).symm
theorem putL_length (acc : List Int) (x : Int) : (putL acc x).length = acc.length + 1 := by
  have := (putL_perm acc x).length_eq
  simpa using this
theorem putN_length (xs : List Int) (n : Nat) (h : n ≤ xs.length) : (putN xs n).length = n := by
  induction n with
  | zero => rfl
  | succ n ih => rw [putN_succ xs n (by omega), putL_length, ih (by omega)]
theorem plc_spec (acc : List Int) (x : Int) (hf : Asc acc) : ∀ k, k ≤ acc.length → (∀ j (h : j < acc.length), k ≤ j → x ≤ acc[j]) → (∀ j (h : j < acc.length), plc acc x k ≤ j → x ≤ acc[j]) ∧ (∀ j (h : j < acc.length), j < plc acc x k → acc[j] ≤ x)
  | 0, _, h => ⟨fun j hj _ => h j hj (Nat.zero_le _), fun j _ hl => by simp [plc] at hl⟩
  | k + 1, hk, h => by
    by_cases hl : x < acc[k]
    · rw [plc_down (by omega) hl]
      exact plc_spec acc x hf k (by omega) (fun j hj hkj => by
        by_cases he : j = k
        · subst he; omega
        · exact h j hj (by omega))
    · rw [plc_stay (by omega) hl]
      refine ⟨h, fun j hj hjk => ?_⟩
      by_cases he : j = k
      · subst he; omega
      · have := List.pairwise_iff_getElem.1 hf j k hj (by omega) (by omega)
        omega
theorem putL_asc {acc : List Int} (x : Int) (ih : Asc acc) : Asc (putL acc x) := by
  obtain ⟨p1, p2⟩ := plc_spec acc x ih acc.length (Nat.le_refl _) (fun j hj hn => by omega)
  unfold putL
  generalize plc acc x acc.length = k at *
  have hL : acc = acc.take k ++ acc.drop k := (List.take_append_drop _ _).symm
  have ih' := ih
  unfold Asc at ih' ⊢
  rw [hL, List.pairwise_append] at ih'
  rw [List.pairwise_append, List.pairwise_cons]
  refine ⟨ih'.1, ⟨fun y hy => ?_, ih'.2.1⟩, fun a ha b hb => ?_⟩
  · obtain ⟨j, hj, rfl⟩ := List.getElem_of_mem hy
    rw [List.length_drop] at hj
    rw [List.getElem_drop]
    exact p1 _ (by omega) (by omega)
  · rcases List.mem_cons.1 hb with rfl | hb
    · obtain ⟨j, hj, rfl⟩ := List.getElem_of_mem ha
      rw [List.length_take] at hj
      rw [List.getElem_take]
      exact p2 _ (by omega) (by omega)
    · exact ih'.2.2 a ha b hb
theorem putN_asc (xs : List Int) : ∀ n, n ≤ xs.length → Asc (putN xs n)
  | 0, _ => List.Pairwise.nil
  | n + 1, h => by rw [putN_succ xs n h]; exact putL_asc _ (putN_asc xs n (by omega))
theorem putN_perm (xs : List Int) : ∀ n, n ≤ xs.length → (putN xs n).Perm (xs.take n)
  | 0, _ => by rw [List.take_zero]; exact List.Perm.refl _
  | n + 1, h => by
    rw [putN_succ xs n h, List.take_succ_eq_append_getElem h]
    exact (putL_perm _ _).trans ((putN_perm xs n (by omega)).append_right _)
/-- both sorts agree -/
theorem put_merge (xs : List Int) : putN xs xs.length = xs.mergeSort fun x y => decide (x ≤ y) := by
  refine asc_perm_eq (putN_asc xs _ (Nat.le_refl _)) (asc_merge xs) ?_
  have h := putN_perm xs xs.length (Nat.le_refl _)
  rw [List.take_length] at h
  exact h.trans (List.mergeSort_perm xs _).symm
end Go.Proofs.Ytbkkggbpekhenaa
