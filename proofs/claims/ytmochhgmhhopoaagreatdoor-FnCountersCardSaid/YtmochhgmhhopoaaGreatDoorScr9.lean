/- Small laws on lists that meet a test. No program in sight. -/
namespace Go.Proofs.YtmochhgmhhopoaaGreatDoor
theorem all_bad {α : Type} {p : α → Bool} {xs : List α} (k : Nat) (h : k < xs.length) (hp : p xs[k] = false) : xs.all p = false := by
  cases hb : xs.all p with
  | false => rfl
  | true => rw [List.all_eq_true.1 hb _ (List.getElem_mem h)] at hp; cases hp
theorem all_good {α : Type} {p : α → Bool} {xs : List α} (h : ∀ k (h : k < xs.length), p xs[k] = true) : xs.all p = true :=
  List.all_eq_true.2 fun x hx => by obtain ⟨k, hk, rfl⟩ := List.getElem_of_mem hx; exact h k hk
end Go.Proofs.YtmochhgmhhopoaaGreatDoor
