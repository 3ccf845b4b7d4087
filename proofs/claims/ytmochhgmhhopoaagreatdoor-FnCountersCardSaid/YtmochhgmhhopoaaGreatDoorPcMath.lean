/- A list of counters is recovered from its text, by the reference's reader and by the program's. No program's text is walked here. -/
import Derived.Test.YtmochhgmhhopoaaGreatDoorNumBack
import Derived.Test.YtmochhgmhhopoaaGreatDoorTxMath
import Derived.Test.YtmochhgmhhopoaaGreatDoorCutT
namespace Go.Proofs.YtmochhgmhhopoaaGreatDoor
open Go.RowKit

theorem spl_snoc (c : UInt8) (a b : List UInt8) : spl c (a ++ c :: b) = spl c a ++ spl c b := by
  induction a with
  | nil =>
    show (if c = c then [] :: spl c b else _) = [] :: spl c b
    rw [if_pos rfl]
  | cons x a ih =>
    obtain ⟨p, ps, hp⟩ := spl_ne c a
    rw [List.cons_append, spl, spl, ih, hp]
    split <;> rfl
theorem spl_mem {c b : UInt8} : ∀ {l : List UInt8}, b ∈ l → b = c ∨ ∃ p ∈ spl c l, b ∈ p
  | [], h => by cases h
  | x :: l, h => by
    obtain ⟨p, ps, hp⟩ := spl_ne c l
    unfold spl
    rw [hp]
    by_cases hx : x = c
    · rw [if_pos hx]
      rcases List.mem_cons.1 h with rfl | h
      · exact .inl hx
      · rcases spl_mem (c := c) h with h | ⟨q, hq, hb⟩
        · exact .inl h
        · rw [hp] at hq; exact .inr ⟨q, List.mem_cons_of_mem _ hq, hb⟩
    · rw [if_neg hx]
      simp only [List.headD_cons, List.tail_cons]
      rcases List.mem_cons.1 h with rfl | h
      · exact .inr ⟨_, List.mem_cons_self .., List.mem_cons_self ..⟩
      · rcases spl_mem (c := c) h with h | ⟨q, hq, hb⟩
        · exact .inl h
        · rw [hp] at hq
          rcases List.mem_cons.1 hq with rfl | hq
          · exact .inr ⟨_, List.mem_cons_self .., List.mem_cons_of_mem _ hb⟩
          · exact .inr ⟨q, List.mem_cons_of_mem _ hq, hb⟩
/-- a name's bytes are letters and points -/
theorem name_bytes {s : ByteArray} (h : nameB s = true) : ∀ b ∈ s.data.toList, b = 46 ∨ letter b = true := by
  intro b hb
  rw [nameB, Bool.and_eq_true] at h
  rcases spl_mem (c := 46) hb with h1 | ⟨p, hp, hbp⟩
  · exact .inl h1
  · have h2 := List.all_eq_true.1 h.2 p hp
    rw [partL, Bool.and_eq_true] at h2
    exact .inr (List.all_eq_true.1 h2.2 b hbp)
theorem name_no {s : ByteArray} (h : nameB s = true) {c : UInt8} (hc : c = 32 ∨ c = 61) : c ∉ s.data.toList := by
  intro hm
  rcases name_bytes h c hm with h1 | h1
  · rcases hc with rfl | rfl <;> exact absurd h1 (by decide)
  · rcases hc with rfl | rfl <;> exact absurd h1 (by decide)
theorem num_no (n : Nat) {c : UInt8} (hc : c = 32 ∨ c = 61) : c ∉ (numT n).data.toList := by
  intro hm
  have h1 := dec_digits n c hm
  rcases hc with rfl | rfl
  · exact absurd h1.1 (by decide)
  · exact absurd h1.2 (by decide)
theorem oneT_list (x : Ct) : (oneT x).data.toList = x.nm.data.toList ++ 61 :: (numT x.vl.toNat).data.toList := by
  rw [oneT]; simp
theorem oneT_no {x : Ct} (h : nameB x.nm = true) : (32 : UInt8) ∉ (oneT x).data.toList := by
  rw [oneT_list]
  intro hm
  rcases List.mem_append.1 hm with hm | hm
  · exact name_no h (.inl rfl) hm
  · rcases List.mem_cons.1 hm with hm | hm
    · exact absurd hm (by decide)
    · exact num_no _ (.inl rfl) hm
/-- the words of a list's text -/
theorem spl_text {xs : List Ct} (h : ∀ x ∈ xs, nameB x.nm = true) : ∀ n, 0 < n → n ≤ xs.length → spl 32 (txN xs n).data.toList = (xs.take n).map fun x => (oneT x).data.toList
  | 0, h0, _ => absurd h0 (by omega)
  | n + 1, _, hn => by
    have hx := h xs[n] (List.getElem_mem _)
    by_cases h0 : 0 < n
    · rw [txN_succ xs n (by omega) h0, List.take_succ_eq_append_getElem (by omega), List.map_append, ← spl_text h n h0 (by omega)]
      have e : (txN xs n ++ ⟨#[32]⟩ ++ oneT xs[n]).data.toList = (txN xs n).data.toList ++ 32 :: (oneT xs[n]).data.toList := by simp
      rw [e, spl_snoc, spl_miss (oneT_no hx)]
      rfl
    · obtain rfl : n = 0 := by omega
      rw [txN_one xs (by omega), spl_miss (oneT_no hx), List.take_succ_eq_append_getElem (by omega)]
      rfl
/-- the parts of a word -/
theorem spl_one {x : Ct} (h : nameB x.nm = true) : spl 61 (oneT x).data.toList = [x.nm.data.toList, (numT x.vl.toNat).data.toList] := by
  rw [oneT_list, spl_hit _ (name_no h (.inr rfl)), spl_miss (num_no _ (.inr rfl))]
/-- a list's text is short -/
theorem oneT_short {x : Ct} (h : x.nm.size ≤ 20) (h1 : x.vl ≤ 1000000) : (oneT x).size ≤ 28 := by
  have h2 : (⟨#[61]⟩ : ByteArray).size = 1 := rfl
  have h3 : (numT x.vl.toNat).size ≤ 7 := by rw [numT_size, ← Lib.decDigits_length]; exact dec_len 6 _ (by omega)
  rw [oneT, ByteArray.size_append, ByteArray.size_append, h2]
  omega
theorem txN_short {xs : List Ct} (h : ctB xs = true) : (txN xs xs.length).size ≤ 360 := by
  have h12 := (ctB_true h).1
  have hs := ct_small h
  have h2 : (⟨#[32]⟩ : ByteArray).size = 1 := rfl
  have key : ∀ n, n ≤ xs.length → (txN xs n).size ≤ 29 * n := by
    intro n hn
    induction n with
    | zero => exact Nat.le_refl _
    | succ n ih =>
      have h1 := hs xs[n] (List.getElem_mem _)
      have h3 := oneT_short h1.1 h1.2.2
      have h4 := ih (by omega)
      by_cases h0 : 0 < n
      · rw [txN_succ xs n (by omega) h0, ByteArray.size_append, ByteArray.size_append, h2]; omega
      · obtain rfl : n = 0 := by omega
        rw [txN_one xs (by omega)]; omega
  have := key xs.length (Nat.le_refl _)
  omega
end Go.Proofs.YtmochhgmhhopoaaGreatDoor
