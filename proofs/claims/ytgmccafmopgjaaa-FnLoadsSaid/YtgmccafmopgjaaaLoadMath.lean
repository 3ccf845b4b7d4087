/- Plain laws of the laws on lists of loads: shaped loads all fit and none goes early; the smallest burst is the smallest. No program in sight. -/
import Derived.Test.YtgmccafmopgjaaaShapeMath
namespace Go.Proofs.Ytgmccafmopgjaaa

theorem shN_at (k : Bk) (xs : List Ld) (n : Nat) (hn : n ≤ xs.length) (i : Nat) (hi : i < n) : (shN k xs n).2[i]? = some ((shN k xs i).1.goes (xs[i]'(by omega))) := by
  induction n with
  | zero => omega
  | succ n ih =>
    rw [shN_succ k xs n (by omega)]
    have hl := shN_length k xs n (by omega)
    by_cases he : i = n
    · subst he
      rw [List.getElem?_append_right (by omega), hl]
      simp
    · rw [List.getElem?_append_left (by omega)]
      exact ih (by omega) (by omega)
/-- the first n loads at the ticks at which they go -/
def shD (k : Bk) (xs : List Ld) : Nat → List Ld
  | 0 => []
  | n + 1 => match xs[n]? with
    | none => shD k xs n
    | some x => shD k xs n ++ [⟨(shN k xs n).1.goes x, x.s⟩]
theorem shD_succ (k : Bk) (xs : List Ld) (n : Nat) (h : n < xs.length) : shD k xs (n + 1) = shD k xs n ++ [⟨(shN k xs n).1.goes xs[n], xs[n].s⟩] := by
  rw [shD, List.getElem?_eq_getElem h]
theorem shD_length (k : Bk) (xs : List Ld) (n : Nat) (hn : n ≤ xs.length) : (shD k xs n).length = n := by
  induction n with
  | zero => rfl
  | succ n ih => rw [shD_succ k xs n (by omega)]; simp [ih (by omega)]
theorem shD_at (k : Bk) (xs : List Ld) (n : Nat) (hn : n ≤ xs.length) (i : Nat) (hi : i < n) : (shD k xs n)[i]? = some ⟨(shN k xs i).1.goes (xs[i]'(by omega)), (xs[i]'(by omega)).s⟩ := by
  induction n with
  | zero => omega
  | succ n ih =>
    rw [shD_succ k xs n (by omega)]
    have hl := shD_length k xs n (by omega)
    by_cases he : i = n
    · subst he
      rw [List.getElem?_append_right (by omega), hl]
      simp
    · rw [List.getElem?_append_left (by omega)]
      exact ih (by omega) (by omega)
theorem late_ge2 (k : Bk) (x : Ld) : x.t ≤ (k.late x).t ∧ k.t ≤ (k.late x).t := by
  simp only [Bk.late]; omega
/-- None goes early, and none ahead of the one before it. -/
theorem goes_ge {k : Bk} {x : Ld} (hk : bkB k = true) : x.t ≤ k.goes x ∧ k.t ≤ k.goes x := by
  have h := late_ge2 k x
  have hw : 0 ≤ k.waitT (k.late x) := ceil_nonneg _ _ (bkB_iff.1 hk).1.1 (by omega)
  simp only [Bk.goes]; omega
structure ShOk (k : Bk) (xs : List Ld) : Prop where
  beg : begB k xs = true
  all : shB k xs xs.length = true
theorem shOk {k : Bk} {xs : List Ld} (h : shapeB k xs = true) : ShOk k xs := by
  simp only [shapeB, Bool.and_eq_true] at h
  exact ⟨h.1, h.2⟩
theorem ShOk.good {k : Bk} {xs : List Ld} (h : ShOk k xs) (n : Nat) (hn : n ≤ xs.length) : bkB (shN k xs n).1 = true :=
  shN_good h.beg n hn (shB_le h.all n hn (Nat.le_refl _))
theorem ShOk.step {k : Bk} {xs : List Ld} (h : ShOk k xs) (n : Nat) (hn : n < xs.length) :
    (shN k xs n).1.fits ((shN k xs n).1.goes xs[n]) xs[n].s = true ∧ ldB ⟨(shN k xs n).1.goes xs[n], xs[n].s⟩ = true ∧ xs[n].t ≤ (shN k xs n).1.goes xs[n] ∧ (shN k xs n).1.t ≤ (shN k xs n).1.goes xs[n] := by
  have hg := h.good n (by omega)
  have h1 := shB_le h.all (n + 1) (by omega) (Nat.le_refl _)
  rw [shB_succ k xs n hn, Bool.and_eq_true] at h1
  obtain ⟨_, h2, h3⟩ := begB_iff.1 h.beg
  obtain ⟨a, b, c, d⟩ := shN_step hg (h2.2.1 n hn) h1.2
  exact ⟨b, d, goes_ge hg⟩
theorem shN_last (k : Bk) (xs : List Ld) (n : Nat) (h : n < xs.length) : (shN k xs (n + 1)).1.t = (shN k xs n).1.goes xs[n] := by
  rw [shN_succ k xs n h]; rfl
theorem ShOk.asc {k : Bk} {xs : List Ld} (h : ShOk k xs) (n : Nat) (hn : n + 1 < xs.length) : (shN k xs n).1.goes xs[n] ≤ (shN k xs (n + 1)).1.goes xs[n + 1] := by
  rw [← shN_last k xs n (by omega)]
  exact (h.step (n + 1) hn).2.2.2
theorem ShOk.list {k : Bk} {xs : List Ld} (h : ShOk k xs) : LsP (shD k xs xs.length) := by
  have hl := shD_length k xs xs.length (Nat.le_refl _)
  obtain ⟨_, h2, _⟩ := begB_iff.1 h.beg
  have at' : ∀ i (hi : i < (shD k xs xs.length).length), (shD k xs xs.length)[i] = ⟨(shN k xs i).1.goes (xs[i]'(by omega)), (xs[i]'(by omega)).s⟩ := fun i hi =>
    Option.some.inj ((List.getElem?_eq_getElem hi).symm.trans (shD_at k xs xs.length (Nat.le_refl _) i (by omega)))
  refine ⟨by rw [hl]; exact h2.1, fun i hi => ?_, fun i hi => ?_⟩
  · rw [at' i hi]; exact (h.step i (by omega)).2.1
  · rw [at' i (by omega), at' (i + 1) hi]; exact h.asc i (by omega)
theorem ShOk.begins {k : Bk} {xs : List Ld} (h : ShOk k xs) : begB k (shD k xs xs.length) = true := by
  have hl := shD_length k xs xs.length (Nat.le_refl _)
  refine begB_iff.2 ⟨(begB_iff.1 h.beg).1, h.list, fun h0 => ?_⟩
  rw [Option.some.inj ((List.getElem?_eq_getElem h0).symm.trans (shD_at k xs xs.length (Nat.le_refl _) 0 (by omega)))]
  exact (h.step 0 (by omega)).2.2.2
theorem ShOk.fit {k : Bk} {xs : List Ld} (h : ShOk k xs) (n : Nat) (hn : n ≤ xs.length) : (fitN k (shD k xs xs.length) n).1 = (shN k xs n).1 ∧ (fitN k (shD k xs xs.length) n).2.length = n := by
  have hl := shD_length k xs xs.length (Nat.le_refl _)
  induction n with
  | zero => exact ⟨rfl, rfl⟩
  | succ n ih =>
    obtain ⟨i1, i2⟩ := ih (by omega)
    have hs := (h.step n (by omega)).1
    rw [fitN_succ k _ n (by omega), shN_succ k xs n (by omega),
      Option.some.inj ((List.getElem?_eq_getElem (by omega)).symm.trans (shD_at k xs xs.length (Nat.le_refl _) n (by omega))), i1, if_pos hs]
    exact ⟨rfl, by simp [i2]⟩
/-- Shaped loads all fit. -/
theorem ShOk.fits_all {k : Bk} {xs : List Ld} (h : ShOk k xs) : (fitL k (shD k xs xs.length)).length = xs.length := by
  have hl := shD_length k xs xs.length (Nat.le_refl _)
  rw [fitL, if_pos h.begins, hl]
  exact (h.fit xs.length (Nat.le_refl _)).2

theorem fitL_length (k : Bk) (xs : List Ld) : (fitL k xs).length ≤ xs.length := by
  unfold fitL
  split
  · exact fitN_length k xs _
  · simp
theorem full_begins {n d b : Int} {xs : List Ld} (h : fbB n d b = true) (hx : lsB xs = true) : begB (fbK n d b) xs = true := by
  have hls := lsB_true.1 hx
  have hb : bkB (fbK n d b) = true := by
    simp only [fbK, if_pos h]
    simp only [fbB, Bool.and_eq_true, inR_true] at h
    have c := prod_bound b d 1000 100 (by omega) (by omega) (by omega) (by omega)
    rw [bkB_iff]
    simp only
    omega
  refine begB_iff.2 ⟨hb, hls, fun h0 => ?_⟩
  have := (ldB_iff.1 (hls.2.1 0 h0)).1.1
  simp only [fbK, if_pos h]
  omega
/-- The smallest burst is one with which all fit, and with one less not all do. -/
theorem sbN_least (n d : Int) (xs : List Ld) (f : Nat) (b r : Int) (h : sbN n d xs f b = (r, true)) :
    b ≤ r ∧ r < b + f ∧ fbB n d r = true ∧ (fitL (fbK n d r) xs).length = xs.length ∧ (b < r → (fitL (fbK n d (r - 1)) xs).length ≠ xs.length) := by
  induction f generalizing b with
  | zero => simp [sbN] at h
  | succ f ih =>
    rw [sbN] at h
    split at h
    · simp at h
    · rename_i hb
      split at h
      · rename_i he
        simp only [Prod.mk.injEq, and_true] at h
        subst h
        exact ⟨Int.le_refl _, by omega, by simpa using hb, he, fun h => absurd h (by omega)⟩
      · rename_i he
        obtain ⟨h1, h2, h3, h4, h5⟩ := ih (b + 1) h
        refine ⟨by omega, by omega, h3, h4, fun _ => ?_⟩
        by_cases hr : r = b + 1
        · subst hr
          rwa [show b + 1 - 1 = b by omega]
        · exact h5 (by omega)
theorem sbV_least {n d r : Int} {xs : List Ld} (h : sbV n d xs = (r, true)) :
    lsB xs = true ∧ 1 ≤ r ∧ r ≤ 1000 ∧ fbB n d r = true ∧ (fitL (fbK n d r) xs).length = xs.length ∧ (1 < r → (fitL (fbK n d (r - 1)) xs).length < xs.length) := by
  unfold sbV at h
  split at h
  · rename_i hx
    obtain ⟨h1, h2, h3, h4, h5⟩ := sbN_least n d xs 1000 1 r h
    refine ⟨hx.1, h1, by omega, h3, h4, fun h => ?_⟩
    have := fitL_length (fbK n d (r - 1)) xs
    have := h5 h
    omega
  · simp at h
end Go.Proofs.Ytgmccafmopgjaaa
