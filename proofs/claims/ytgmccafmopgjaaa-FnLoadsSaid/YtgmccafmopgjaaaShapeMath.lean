/- Plain laws on loads that are delayed until they fit, and on the smallest burst with which all fit. No program in sight. -/
import Derived.Test.YtgmccafmopgjaaaFitMath
namespace Go.Proofs.Ytgmccafmopgjaaa

/-- a load that is not ahead of the bucket's last tick -/
def Bk.late (k : Bk) (x : Ld) : Ld := ⟨max x.t k.t, x.s⟩
/-- the tick at which it goes -/
def Bk.goes (k : Bk) (x : Ld) : Int := (k.late x).t + k.waitT (k.late x)
/-- the bucket and the ticks behind the first n loads -/
def shN (k : Bk) (xs : List Ld) : Nat → Bk × List Int
  | 0 => (k, [])
  | n + 1 => match xs[n]? with
    | none => shN k xs n
    | some x => ((shN k xs n).1.take ((shN k xs n).1.goes x) x.s, (shN k xs n).2 ++ [(shN k xs n).1.goes x])
/-- all of the first n loads can be delayed so that they fit -/
def shB (k : Bk) (xs : List Ld) : Nat → Bool
  | 0 => true
  | n + 1 => match xs[n]? with
    | none => shB k xs n
    | some x => shB k xs n && (shN k xs n).1.waitB ((shN k xs n).1.late x)
theorem shN_succ (k : Bk) (xs : List Ld) (n : Nat) (h : n < xs.length) :
    shN k xs (n + 1) = ((shN k xs n).1.take ((shN k xs n).1.goes xs[n]) xs[n].s, (shN k xs n).2 ++ [(shN k xs n).1.goes xs[n]]) := by
  rw [shN, List.getElem?_eq_getElem h]
theorem shB_succ (k : Bk) (xs : List Ld) (n : Nat) (h : n < xs.length) :
    shB k xs (n + 1) = (shB k xs n && (shN k xs n).1.waitB ((shN k xs n).1.late xs[n])) := by
  rw [shB, List.getElem?_eq_getElem h]
theorem shN_length (k : Bk) (xs : List Ld) (n : Nat) (hn : n ≤ xs.length) : (shN k xs n).2.length = n := by
  induction n with
  | zero => rfl
  | succ n ih =>
    rw [shN_succ k xs n (by omega)]
    simp [ih (by omega)]
theorem shB_le {k : Bk} {xs : List Ld} {m : Nat} (h : shB k xs m = true) (n : Nat) (hn : n ≤ m) (hm : m ≤ xs.length) : shB k xs n = true := by
  induction m with
  | zero => obtain rfl : n = 0 := by omega
            rfl
  | succ m ih =>
    by_cases he : n = m + 1
    · subst he; exact h
    · rw [shB_succ k xs m (by omega), Bool.and_eq_true] at h
      exact ih h.1 (by omega) (by omega)
theorem late_ld {k : Bk} {x : Ld} (hk : bkB k = true) (hx : ldB x = true) : ldB (k.late x) = true := by
  have h1 := ldB_iff.1 hx
  have h2 := bkB_iff.1 hk
  refine ldB_iff.2 ⟨?_, h1.2⟩
  simp only [Bk.late]
  omega
theorem late_can {k : Bk} {x : Ld} (hk : bkB k = true) (hx : ldB x = true) : canFill k (k.late x).t = true :=
  can_of hk (late_ld hk hx) (by simp only [Bk.late]; omega)
theorem shN_step {k : Bk} {x : Ld} (hk : bkB k = true) (hx : ldB x = true) (hw : k.waitB (k.late x) = true) :
    canFill k (k.goes x) = true ∧ k.fits (k.goes x) x.s = true ∧ bkB (k.take (k.goes x) x.s) = true ∧ ldB ⟨k.goes x, x.s⟩ = true := by
  obtain ⟨h1, h2⟩ := wait_fits (late_can hk hx) (late_ld hk hx) hw
  have h3 := ldB_iff.1 hx
  refine ⟨h1, h2, take_valid h1 h3.2.1 h2, ldB_iff.2 ⟨?_, h3.2⟩⟩
  have h4 := h1
  simp only [canFill, Bool.and_eq_true, bkB_iff, inR_true] at h4
  simp only [Bk.goes]
  omega
theorem shN_good {k : Bk} {xs : List Ld} (h : begB k xs = true) (n : Nat) (hn : n ≤ xs.length) (hs : shB k xs n = true) : bkB (shN k xs n).1 = true := by
  obtain ⟨h1, h2, h3⟩ := begB_iff.1 h
  induction n with
  | zero => exact h1
  | succ n ih =>
    rw [shB_succ k xs n (by omega), Bool.and_eq_true] at hs
    rw [shN_succ k xs n (by omega)]
    exact (shN_step (ih (by omega) hs.1) (h2.2.1 n (by omega)) hs.2).2.2.1
/-- what ShapeLoads answers -/
noncomputable def shapeB (k : Bk) (xs : List Ld) : Bool := begB k xs && shB k xs xs.length
noncomputable def shapeL (k : Bk) (xs : List Ld) : List Int := if shapeB k xs = true then (shN k xs xs.length).2 else []

/-- the smallest burst from b on, within f tries -/
noncomputable def sbN (n d : Int) (xs : List Ld) : Nat → Int → Int × Bool
  | 0, _ => (0, false)
  | f + 1, b => if fbB n d b = false then (0, false) else if (fitL (fbK n d b) xs).length = xs.length then (b, true) else sbN n d xs f (b + 1)
noncomputable def sbV (n d : Int) (xs : List Ld) : Int × Bool := if lsB xs = true ∧ xs ≠ [] then sbN n d xs 1000 1 else (0, false)
end Go.Proofs.Ytgmccafmopgjaaa
