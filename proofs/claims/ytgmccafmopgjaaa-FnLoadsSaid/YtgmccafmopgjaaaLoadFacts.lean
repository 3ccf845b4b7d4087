/- What the law on loads needs of shaped loads and of the smallest burst, in plain Lean. No program in sight. -/
import Derived.Test.YtgmccafmopgjaaaLoadMath
namespace Go.Proofs.Ytgmccafmopgjaaa

theorem shape_facts {k : Bk} {xs : List Ld} (h : shapeB k xs = true) : (shapeL k xs).length = xs.length ∧ xs.length ≤ 20 ∧
    (∀ n (h : n < xs.length) (h' : n < (shapeL k xs).length), xs[n].t ≤ (shapeL k xs)[n] ∧ shD k xs (n + 1) = shD k xs n ++ [⟨(shapeL k xs)[n], xs[n].s⟩] ∧ ∀ m (_ : n = m + 1) (h2 : m < (shapeL k xs).length), (shapeL k xs)[m] ≤ (shapeL k xs)[n]) ∧
    (∀ n, n ≤ xs.length → (shD k xs n).length = n) ∧ begB k (shD k xs xs.length) = true ∧ (fitL k (shD k xs xs.length)).length = xs.length := by
  have ho := shOk h
  have hL : shapeL k xs = (shN k xs xs.length).2 := if_pos h
  have hl : (shapeL k xs).length = xs.length := by rw [hL]; exact shN_length k xs _ (Nat.le_refl _)
  have hg : ∀ n (h : n < xs.length) (h' : n < (shapeL k xs).length), (shapeL k xs)[n] = (shN k xs n).1.goes xs[n] := by
    intro n h h'
    have h1 := shN_at k xs xs.length (Nat.le_refl _) n h
    rw [← hL, List.getElem?_eq_getElem h'] at h1
    exact Option.some.inj h1
  refine ⟨hl, (begB_iff.1 ho.beg).2.1.1, fun n h h' => ?_, fun n hn => shD_length k xs n hn, ho.begins, ho.fits_all⟩
  have hs := ho.step n h
  rw [hg n h h']
  refine ⟨hs.2.2.1, shD_succ k xs n h, ?_⟩
  rintro m rfl h2
  rw [hg m (by omega) h2]
  exact ho.asc m h
end Go.Proofs.Ytgmccafmopgjaaa
