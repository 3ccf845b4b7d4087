/- Plain laws on what a loop over a list picks and appends. No program in sight. -/
namespace Go.Proofs.YtpgonlfaeejakaaDoor

/-- what is appended at the first n elements of a list -/
def selN {α β : Type} (f : Nat → α → Option β) (xs : List α) : Nat → List β
  | 0 => []
  | n + 1 => match xs[n]? with
    | none => selN f xs n
    | some x => match f n x with
      | none => selN f xs n
      | some r => selN f xs n ++ [r]
theorem selN_none {α β : Type} (f : Nat → α → Option β) (xs : List α) (n : Nat) (h : n < xs.length) (hf : f n xs[n] = none) : selN f xs (n + 1) = selN f xs n := by
  rw [selN, List.getElem?_eq_getElem h]; simp only [hf]
theorem selN_some {α β : Type} (f : Nat → α → Option β) (xs : List α) (n : Nat) (r : β) (h : n < xs.length) (hf : f n xs[n] = some r) : selN f xs (n + 1) = selN f xs n ++ [r] := by
  rw [selN, List.getElem?_eq_getElem h]; simp only [hf]
theorem selN_length {α β : Type} (f : Nat → α → Option β) (xs : List α) (n : Nat) : (selN f xs n).length ≤ n := by
  induction n with
  | zero => exact Nat.le_refl _
  | succ n ih =>
    rw [selN]
    split
    · omega
    · split
      · omega
      · simp; omega
/-- what holds for all that is picked -/
theorem selN_all {α β : Type} (f : Nat → α → Option β) (xs : List α) (P : β → Prop) (hP : ∀ i (h : i < xs.length) r, f i xs[i] = some r → P r) (n : Nat) : ∀ r ∈ selN f xs n, P r := by
  induction n with
  | zero => intro r h; simp [selN] at h
  | succ n ih =>
    by_cases hn : n < xs.length
    · cases hf : f n xs[n] with
      | none => rw [selN_none f xs n hn hf]; exact ih
      | some x =>
        rw [selN_some f xs n x hn hf]
        intro r h
        rcases List.mem_append.1 h with h | h
        · exact ih r h
        · obtain rfl := List.mem_singleton.1 h
          exact hP n hn _ hf
    · rw [selN, List.getElem?_eq_none (by omega)]; exact ih
/-- how many times something is seen in the first n elements -/
def cntN {α : Type} (p : α → Bool) (xs : List α) (n : Nat) : Nat := (xs.take n).countP p
theorem cntN_succ {α : Type} (p : α → Bool) (xs : List α) (n : Nat) (h : n < xs.length) : cntN p xs (n + 1) = cntN p xs n + (if p xs[n] = true then 1 else 0) := by
  rw [cntN, List.take_succ_eq_append_getElem h, List.countP_append]
  simp [cntN, List.countP_cons]
theorem cntN_le {α : Type} (p : α → Bool) (xs : List α) (n : Nat) : cntN p xs n ≤ n := by
  unfold cntN
  exact Nat.le_trans List.countP_le_length (by simp; omega)
end Go.Proofs.YtpgonlfaeejakaaDoor
