/- Strings of small letters: the program's isItem (by strings.Trim), the reference's l4Letters, for every string. -/
import Derived.Test.YtihpibdodlgpaaaGreatDoorTxt
import Derived.Test.YtihpibdodlgpaaaGreatDoorShelf
import Derived.Lib.SlTrimSet
namespace Go.Proofs.YtihpibdodlgpaaaGreatDoor
open Go.RowKit Go.Shelf

/-- the letters a to z -/
def azs : List UInt8 := [97, 98, 99, 100, 101, 102, 103, 104, 105, 106, 107, 108, 109, 110, 111, 112, 113, 114, 115, 116, 117, 118, 119, 120, 121, 122]
def letter (b : UInt8) : Bool := decide (97 ≤ b.toNat) && decide (b.toNat ≤ 122)
def letB (s : ByteArray) : Bool := s.data.toList.all letter
theorem az_iff (b : UInt8) : azs.contains b = letter b := by
  have h : ∀ n, n < 256 → azs.contains (UInt8.ofNat n) = letter (UInt8.ofNat n) := by decide +kernel
  have h1 := h b.toNat b.toNat_lt
  rwa [UInt8.ofNat_toNat] at h1
theorem dropWhile_nil {α : Type} (p : α → Bool) (l : List α) : (l.dropWhile p).isEmpty = l.all p := by
  induction l with
  | nil => rfl
  | cons x l ih =>
    rw [List.dropWhile_cons]
    cases hp : p x <;> simp [hp, ih]
theorem all_dropWhile {α : Type} (p : α → Bool) (l : List α) : (l.dropWhile p).all p = l.all p := by
  induction l with
  | nil => rfl
  | cons x l ih =>
    rw [List.dropWhile_cons]
    cases hp : p x <;> simp [hp, ih]
theorem trim_all (l : List UInt8) : (Lib.trimS l azs).isEmpty = l.all letter := by
  unfold Lib.trimS Lib.trimLeftS Lib.trimRightS
  rw [dropWhile_nil, List.all_reverse, all_dropWhile, List.all_reverse]
  congr 1
  funext b
  exact az_iff b
theorem letB_false {s : ByteArray} (k : Nat) (h : k < s.size) (hn : s[k].toNat < 97 ∨ 122 < s[k].toNat) : letB s = false := by
  cases hb : letB s with
  | false => rfl
  | true =>
    have hm : s[k] ∈ s.data.toList := List.mem_iff_getElem.2 ⟨k, by rw [Array.length_toList]; exact h, by rw [Array.getElem_toList]; rfl⟩
    have h1 := List.all_eq_true.1 hb s[k] hm
    rw [letter, Bool.and_eq_true, decide_eq_true_eq, decide_eq_true_eq] at h1
    omega
theorem letB_true {s : ByteArray} (h : ∀ k (hk : k < s.size), 97 ≤ s[k].toNat ∧ s[k].toNat ≤ 122) : letB s = true := by
  refine List.all_eq_true.2 fun x hx => ?_
  obtain ⟨k, hk, rfl⟩ := List.getElem_of_mem hx
  rw [Array.length_toList] at hk
  have h1 := h k hk
  have h2 : s.data.toList[k] = s[k]'hk := by rw [Array.getElem_toList]; rfl
  rw [h2, letter, Bool.and_eq_true, decide_eq_true_eq, decide_eq_true_eq]
  exact h1
theorem trim_any (s : ByteArray) (w : World) (hs : s.size ≤ 9223372036854775807) :
    Calls Tryz.prog 145 #[.string s, .string ⟨#[97, 98, 99, 100, 101, 102, 103, 104, 105, 106, 107, 108, 109, 110, 111, 112, 113, 114, 115, 116, 117, 118, 119, 120, 121, 122]⟩] w fun e w' => ∃ r : ByteArray, e = .returned (.string r) ∧ r.toList.isEmpty = letB s ∧ Below w.heap.size w w' := by
  refine (Any.strings_Trim_laid Tryz.lays160 (by kernel_rfl) s ⟨#[97, 98, 99, 100, 101, 102, 103, 104, 105, 106, 107, 108, 109, 110, 111, 112, 113, 114, 115, 116, 117, 118, 119, 120, 121, 122]⟩ w hs (by decide) (ascii_of_all (by decide))).mono ?_
  rintro e w' ⟨rfl, hb⟩
  exact ⟨_, rfl, by rw [ByteArray.toList_mk]; exact trim_all s.data.toList, hb⟩
theorem isItem_any (s : ByteArray) (w : World) (hs : s.size ≤ 9223372036854775807) :
    Calls Tryz.prog 136 #[.string s] w fun e w' => e = .returned (.bool (decide (s.size ≤ 8) && letB s)) ∧ Below w.heap.size w w' := by
  by_cases h8 : s.size ≤ 8
  · have HT := Lib.hid (fun w => trim_any s w hs)
    rw [show (decide (s.size ≤ 8) && letB s) = letB s from by simp [h8]]
    cases hl : letB s
    · rw [hl] at HT
      go_enter Tryz.func136, Tryz.ntmps136
      go_wp2_with fail
      refine (HT.out _).mono ?_
      rintro e w1 ⟨r, rfl, hr, hb⟩
      go_wp2
      go_ret
      exact ⟨rfl, hb⟩
    · rw [hl] at HT
      go_enter Tryz.func136, Tryz.ntmps136
      go_wp2_with fail
      refine (HT.out _).mono ?_
      rintro e w1 ⟨r, rfl, hr, hb⟩
      go_wp2
      go_ret
      exact ⟨rfl, hb⟩
  · rw [show (decide (s.size ≤ 8) && letB s) = false from by simp [h8]]
    go_enter Tryz.func136, Tryz.ntmps136
    go_wp2
    go_ret
    exact ⟨rfl, Below.refl _ _⟩
set_option maxHeartbeats 1000000 in
theorem l4Letters_any (s : ByteArray) (w : World) (hs : s.size ≤ 9223372036854775807) :
    Calls Tryz.prog 105 #[.string s, .int .i64 8] w fun e w' => e = .returned (.bool (decide (s.size ≤ 8) && letB s)) ∧ Below w.heap.size w w' := by
  go_enter Tryz.func105, Tryz.ntmps105
  go_wp2
  go_loop [5] (fun i => ∃ (k : Nat), k ≤ s.size ∧ i = .int .i64 k ∧ Hid (∀ j (h : j < s.size), j < k → 97 ≤ s[j].toNat ∧ s[j].toNat ≤ 122))
    (fun i => s.size - (intOf i).toNat)
  case atStart => exact ⟨0, Nat.zero_le _, rfl, Lib.hid fun j _ h => absurd h (by omega)⟩
  case round =>
    obtain ⟨k, hk, rfl, HF⟩ := hrel
    by_cases hlt : k < s.size
    · go_wp2
      case roundEnd =>
        go_round
        case rel => exact ⟨k + 1, by omega, by go_num, Lib.hid fun j h hj => (by
          by_cases he : j = k
          · subst he; omega
          · exact HF.out j h (by omega))⟩
        case measure => simp [intOf]; omega
      all_goals (go_ret; exact ⟨ret_bool (by rw [letB_false k hlt (by omega), Bool.and_false]), Below.refl _ _⟩)
    · have HL := Lib.hid (letB_true (s := s) (fun j h => HF.out j h (by omega)))
      go_wp2
      go_ret
      exact ⟨ret_bool (by rw [HL.out, Bool.and_true]; congr 1; exact propext (by omega)), Below.refl _ _⟩
end Go.Proofs.YtihpibdodlgpaaaGreatDoor
