/- Strings of small letters: the program's isItem (by strings.Trim), the reference's l4Letters, for every string. -/
import Derived.Test.YtohbkohidpgjpaaGreatDoorTxt
import Derived.Test.YtohbkohidpgjpaaGreatDoorShelf
import Derived.Lib.SlTrimSet
namespace Go.Proofs.YtohbkohidpgjpaaGreatDoor
open Go.RowKit Go.Shelf

/-- the letters a to z -/
def azs : List UInt8 := [97, 98, 99, 100, 101, 102, 103, 104, 105, 106, 107, 108, 109, 110, 111, 112, 113, 114, 115, 116, 117, 118, 119, 120, 121, 122]
def letter (b : UInt8) : Bool := decide (97 ≤ b.toNat) && decide (b.toNat ≤ 122)
def letB (s : ByteArray) : Bool := s.data.toList.all letter
theorem az_iff (b : UInt8) : azs.contains b = letter b := by
  have h : ∀ n, n < 256 → azs.contains (UInt8.ofNat n) = letter (UInt8.ofNat n) := by decide +kernel
  have h1 := h b.toNat b.toNat_lt
  rwa [UInt8.ofNat_toNat] at h1
theorem dropWhile_nil {α : Type} (p : α → Bool) (l : List α) : (l.dropWhile p).isEmpty = l.all p := by
  induction l with
  | nil => rfl
  | cons x l ih =>
    rw [List.dropWhile_cons]
    cases hp : p x <;> simp [hp, ih]
theorem all_dropWhile {α : Type} (p : α → Bool) (l : List α) : (l.dropWhile p).all p = l.all p := by
  induction l with
  | nil => rfl
  | cons x l ih =>
    rw [List.dropWhile_cons]
    cases hp : p x <;> simp [hp, ih]
theorem trim_all (l : List UInt8) : (Lib.trimS l azs).isEmpty = l.all letter := by
  unfold Lib.trimS Lib.trimLeftS Lib.trimRightS
  rw [dropWhile_nil, List.all_reverse, all_dropWhile, List.all_reverse]
  congr 1
  funext b
  exact az_iff b
theorem letB_false {s : ByteArray} (k : Nat) (h : k < s.size) (hn : s[k].toNat < 97 ∨ 122 < s[k].toNat) : letB s = false := by
  cases hb : letB s with
  | false => rfl
  | true =>
    have hm : s[k] ∈ s.data.toList := List.mem_iff_getElem.2 ⟨k, by rw [Array.length_toList]; exact h, by rw [Array.getElem_toList]; rfl⟩
    have h1 := List.all_eq_true.1 hb s[k] hm
    rw [letter, Bool.and_eq_true, decide_eq_true_eq, decide_eq_true_eq] at h1
    omega
theorem letB_true {s : ByteArray} (h : ∀ k (hk : k < s.size), 97 ≤ s[k].toNat ∧ s[k].toNat ≤ 122) : letB s = true := by
  refine List.all_eq_true.2 fun x hx => ?_
  obtain ⟨k, hk, rfl⟩ := List.getElem_of_mem hx
  rw [Array.length_toList] at hk
  have h1 := h k hk
  have h2 : s.data.toList[k] = s[k]'hk := by rw [Array.getElem_toList]; rfl
  rw [h2, letter, Bool.and_eq_true, decide_eq_true_eq, decide_eq_true_eq]
  exact h1
end Go.Proofs.YtohbkohidpgjpaaGreatDoor
