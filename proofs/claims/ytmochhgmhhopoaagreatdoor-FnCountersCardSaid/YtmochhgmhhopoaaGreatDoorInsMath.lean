/- A row into which a value is inserted, by copies: plain laws. -/
import Derived.Test.YtmochhgmhhopoaaGreatDoorCopyK
namespace Go.Proofs.YtmochhgmhhopoaaGreatDoor

theorem ins_new {α : Type} (cur X V : List α) (a b : Nat) (hX : X.length = b) (ha : a ≤ b) (hV : V.length = 2) (hc : b + 2 ≤ cur.length) (ht : cur.take a = X.take a) :
    (splice (splice cur a V) (a + 2) (X.drop a)).take (b + 2) = X.take a ++ (V ++ X.drop a) := by
  have l1 : (cur.take a).length = a := by rw [List.length_take]; omega
  have h1 : (splice cur a V).take (a + 2) = cur.take a ++ V := by
    rw [splice, ← List.append_assoc, List.take_append_of_le_length (by rw [List.length_append, l1, hV]; omega), List.take_of_length_le (by rw [List.length_append, l1, hV]; omega)]
  rw [splice, h1, ← List.append_assoc, List.take_append_of_le_length (by rw [List.length_append, List.length_append, l1, hV, List.length_drop]; omega), List.take_of_length_le (by rw [List.length_append, List.length_append, l1, hV, List.length_drop]; omega), ht, List.append_assoc]
theorem ins_in {α : Type} (cur X V : List α) (a b : Nat) (hX : X.length = b) (ha : a + 2 ≤ b) (hV : V.length = 2) (hc : b + 2 ≤ cur.length) (ht : cur.take b = X) :
    (splice (splice cur (a + 2) (X.drop a)) a V).take (b + 2) = X.take a ++ (V ++ X.drop a) := by
  have l1 : (cur.take a).length = a := by rw [List.length_take]; omega
  have l2 : (cur.take (a + 2)).length = a + 2 := by rw [List.length_take]; omega
  have h0 : cur.take a = X.take a := by rw [← ht, List.take_take, Nat.min_eq_left (by omega)]
  have h1 : (splice cur (a + 2) (X.drop a)).take a = cur.take a := by
    rw [splice, List.take_append_of_le_length (by omega), List.take_take, Nat.min_eq_left (by omega)]
  have h2 : (splice cur (a + 2) (X.drop a)).drop (a + V.length) = X.drop a ++ cur.drop (a + 2 + (X.drop a).length) := by
    rw [hV, splice, List.drop_append_of_le_length (by omega), List.drop_of_length_le (by omega), List.nil_append]
  rw [splice, h1, h2, h0]
  have l3 : (X.take a).length = a := by rw [List.length_take]; omega
  rw [← List.append_assoc V, ← List.append_assoc, List.take_append_of_le_length (by rw [List.length_append, List.length_append, l3, hV, List.length_drop]; omega), List.take_of_length_le (by rw [List.length_append, List.length_append, l3, hV, List.length_drop]; omega)]
theorem flat_ins {α β : Type} (f : α → List β) (k : Nat) (hf : ∀ x, (f x).length = k) (xs : List α) (x : α) (i : Nat) (hi : i ≤ xs.length) : (xs.flatMap f).take (i * k) ++ (f x ++ (xs.flatMap f).drop (i * k)) = (xs.take i ++ x :: xs.drop i).flatMap f := by
  have hl : ((xs.take i).flatMap f).length = i * k := by
    have h : ∀ l : List α, (l.flatMap f).length = l.length * k := fun l => by
      induction l with
      | nil => simp
      | cons y l ih => rw [List.flatMap_cons, List.length_append, hf, ih, List.length_cons, Nat.succ_mul, Nat.add_comm]
    rw [h, List.length_take, Nat.min_eq_left hi]
  have h1 : xs.flatMap f = (xs.take i).flatMap f ++ (xs.drop i).flatMap f := by rw [← List.flatMap_append, List.take_append_drop]
  rw [List.flatMap_append, List.flatMap_cons]
  conv => lhs; rw [h1]
  rw [List.take_append_of_le_length (by omega), List.take_of_length_le (by omega), List.drop_append_of_le_length (by omega), List.drop_of_length_le (by omega), List.nil_append]
end Go.Proofs.YtmochhgmhhopoaaGreatDoor
