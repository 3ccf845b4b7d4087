/- Texts split at a byte: the program's strings.Split, the reference's l1Split. Condition: texts of at most 2^20 bytes. -/
import Derived.Test.YtohbkohidpgjpaaGreatDoorSpl
import Derived.Test.YtohbkohidpgjpaaGreatDoorStrS
import Derived.Test.YtohbkohidpgjpaaGreatDoorShelf
import Derived.Shelf.Strings.SplitCore
import Derived.Shelf.Strings.Search3
import Derived.Shelf.Strings.Count
namespace Go.Proofs.YtohbkohidpgjpaaGreatDoor
open Go.RowKit Go.Shelf

theorem spl_le (c : UInt8) (l : List UInt8) : ∀ p ∈ spl c l, p.length ≤ l.length := by
  induction l with
  | nil => intro p hp; simp [spl] at hp; simp [hp]
  | cons b l ih =>
    intro p hp
    unfold spl at hp
    split at hp
    · rcases List.mem_cons.1 hp with rfl | hp
      · simp
      · exact Nat.le_succ_of_le (ih p hp)
    · obtain ⟨q, qs, hq⟩ := spl_ne c l
      rw [hq] at hp ih
      rcases List.mem_cons.1 hp with rfl | hp
      · simpa using ih q (List.mem_cons_self ..)
      · exact Nat.le_succ_of_le (ih p (List.mem_cons_of_mem _ (by simpa using hp)))
theorem parts_ok {s : ByteArray} {c : UInt8} {xs : List ByteArray} (h : xs.map (·.data.toList) = spl c s.data.toList) (hs : s.size ≤ 1048576) : xs.length ≤ 1073741824 ∧ (∀ x ∈ xs, x.size ≤ 9223372036854775807) ∧ ∀ x ∈ xs, x.size ≤ s.size := by
  have h0 : ∀ x ∈ xs, x.size ≤ s.size := fun x hx => by
    have h1 := spl_le c s.data.toList x.data.toList (by rw [← h]; exact List.mem_map_of_mem hx)
    simpa using h1
  refine ⟨?_, fun x hx => Nat.le_trans (h0 x hx) (by omega), h0⟩
  have h1 := congrArg List.length h
  rw [List.length_map, spl_length] at h1
  have h2 : s.data.toList.count c ≤ s.data.toList.length := List.count_le_length
  have h3 : s.data.toList.length = s.size := by simp
  omega
theorem extract_list (s : ByteArray) (a b : Nat) : (s.extract a b).data.toList = (s.data.toList.drop a).take (b - a) := by
  simp [ByteArray.data_extract, Array.toList_extract, List.extract]
theorem index1_eq (x : ByteArray) (c : UInt8) : Lib.indexB x ⟨#[c]⟩ = Lib.indexByte x.data.toList c := by
  have h : ∀ l : List UInt8, Lib.index l [c] = Lib.indexByte l c := by
    intro l
    induction l with
    | nil => rfl
    | cons b l ih =>
      unfold Lib.index Lib.indexByte
      rw [ih]
      by_cases hb : b = c
      · subst hb; simp [List.isPrefixOf]
      · have h1 : (c == b) = false := by rw [beq_eq_false_iff_ne]; exact fun e => hb e.symm
        have h2 : (b == c) = false := by rw [beq_eq_false_iff_ne]; exact hb
        simp [List.isPrefixOf, h1, h2]
  exact h x.data.toList
theorem count1_eq (x : ByteArray) (c : UInt8) : Lib.countB x ⟨#[c]⟩ = Lib.countByte x.data.toList c := Lib.count_one c x.data.toList
set_option maxRecDepth 100000 in
theorem split1_any (s : ByteArray) (c : UInt8) (w : World) (hs : s.size ≤ 1048576) :
    Calls Tryz.prog 29 #[.string s, .string ⟨#[c]⟩] w fun e w' => ∃ (v : Value) (xs : List ByteArray), e = .returned v ∧ xs.map (·.data.toList) = spl c s.data.toList ∧ OwS w.heap.size w' v xs ∧ Below w.heap.size w w' := by
  have h1 : 1 ≤ (⟨#[c]⟩ : ByteArray).size := Nat.le_refl 1
  have hlen := Lib.splitB_all ⟨#[c]⟩ h1 0 _ s rfl
  have hle := Lib.countB_le ⟨#[c]⟩ h1 s.size s (Nat.le_refl _)
  have K := Any.strings_genSplit_core Tryz.lays221 (by kernel_rfl) s ⟨#[c]⟩ 0 (-1) (Lib.countB s ⟨#[c]⟩ + 1) w (by omega) h1 (Nat.zero_le _)
    (fun x cc hx => (Any.strings_Index_one { Tryz.lays221 with } x c _).mono fun e w' ⟨he, hw⟩ => ⟨by rw [he, index1_eq], hw⟩)
    ((Any.strings_Count_one { Tryz.lays221 with } s c w).mono fun e w' ⟨he, hw⟩ => ⟨by rw [he, count1_eq], hw⟩)
    (by decide) (by decide) (by rw [if_pos (by decide)]; omega)
  rw [Nat.add_sub_cancel, hlen] at K
  have e2 : Lib.cellsOf (Lib.splitB ⟨#[c]⟩ 0 (Lib.countB s ⟨#[c]⟩) s) (Lib.countB s ⟨#[c]⟩ + 1) = ((Lib.splitB ⟨#[c]⟩ 0 (Lib.countB s ⟨#[c]⟩) s).map Value.string).toArray := by rw [← hlen]; exact Lib.cellsOf_full _
  rw [e2] at K
  have hm : (Lib.splitB ⟨#[c]⟩ 0 (Lib.countB s ⟨#[c]⟩) s).map (·.data.toList) = spl c s.data.toList := by
    rw [Lib.splitB_data, count1_eq]; exact splitK_spl c _ _ rfl
  have hok := parts_ok hm hs
  generalize Lib.splitB ⟨#[c]⟩ 0 (Lib.countB s ⟨#[c]⟩) s = xs at *
  rw [← hlen] at K
  have HK := Lib.hid K; clear K hle
  go_enter Tryz.func29, Tryz.ntmps29
  go_wp2_with fail
  refine HK.out.mono ?_
  rintro e w1 ⟨rfl, hw⟩
  go_wp2
  go_ret
  subst hw
  refine ⟨.slice (some ⟨w.heap.size, 0, none⟩) (Lib.countB s ⟨#[c]⟩ + 1) (Lib.countB s ⟨#[c]⟩ + 1), xs, rfl, hm, ⟨?_, hok.1, hok.2.1⟩, below_alloc1 _ _⟩
  have h2 := World.ownsRow_lit (e := 9) (size := 1) w (xs.map Value.string).toArray xs.length (Nat.le_refl _) (by unfold maxLen; omega) (by simp)
  rw [List.toList_toArray] at h2
  rw [← hlen]
  exact h2
theorem spl_at {c : UInt8} {l : List UInt8} {f k : Nat} (hk : k < l.length) (hfk : f ≤ k) (hc : l[k] = c) (hn : c ∉ (l.drop f).take (k - f)) : spl c (l.drop f) = (l.drop f).take (k - f) :: spl c (l.drop (k + 1)) := by
  have h1 : l.drop f = (l.drop f).take (k - f) ++ c :: l.drop (k + 1) := by
    have h2 : (l.drop f).drop (k - f) = l.drop k := by rw [List.drop_drop]; congr 1; omega
    rw [← hc, ← List.drop_eq_getElem_cons hk, ← h2, List.take_append_drop]
  conv => lhs; rw [h1]
  exact spl_hit _ hn
theorem notin_next {c : UInt8} {l : List UInt8} {f k : Nat} (hk : k < l.length) (hfk : f ≤ k) (hc : l[k] ≠ c) (hn : c ∉ (l.drop f).take (k - f)) : c ∉ (l.drop f).take (k + 1 - f) := by
  rw [show k + 1 - f = (k - f) + 1 by omega, List.take_add_one, List.mem_append, not_or]
  refine ⟨hn, ?_⟩
  rw [List.getElem?_drop, show f + (k - f) = k by omega, List.getElem?_eq_getElem hk]
  simp only [Option.toList_some, List.mem_singleton]
  exact fun e => hc e.symm
set_option maxRecDepth 100000 in
set_option maxHeartbeats 2000000 in
theorem l1Split_any (s : ByteArray) (c : UInt8) (w : World) (hs : s.size ≤ 1048576) :
    Calls Tryz.prog 35 #[.string s, .int .u8 c.toNat] w fun e w' => ∃ (v : Value) (xs : List ByteArray), e = .returned v ∧ xs.map (·.data.toList) = spl c s.data.toList ∧ OwS w.heap.size w' v xs ∧ Below w.heap.size w w' := by
  have hsl : s.data.toList.length = s.size := by simp
  obtain ⟨i0, hi, hz0, hz1, hz2⟩ := info_parts infoStr
  go_enter Tryz.func35, Tryz.ntmps35
  go_wp2
  go_loopw [5, 6, 7] (fun v f i wr => ∃ (k from_ : Nat) (xs : List ByteArray), k ≤ s.size ∧ from_ ≤ k ∧ i = .int .i64 k ∧ f = .int .i64 from_ ∧ xs.length ≤ from_ ∧ Hid (wr.ownsRow w.heap.size 9 1 v xs.length (xs.map Value.string)) ∧ Hid (xs.map (·.data.toList) ++ spl c (s.data.toList.drop from_) = spl c s.data.toList ∧ c ∉ (s.data.toList.drop from_).take (k - from_)) ∧ Hid (Below w.heap.size w wr))
    (fun _ _ i _ => s.size - (intOf i).toNat)
  case atStart => exact ⟨0, 0, [], Nat.zero_le _, Nat.le_refl _, rfl, rfl, Nat.zero_le _, Lib.hid (World.ownsRow_lit w #[] 0 (Nat.le_refl _) (Nat.zero_le _) rfl), Lib.hid ⟨rfl, by simp⟩, Lib.hid (below_alloc1 _ _)⟩
  case round =>
    obtain ⟨k, fr, xs, hk, hfk, rfl, rfl, hxl, HO, HX, HB⟩ := hrel
    have hz := HB.out.size
    by_cases hlt : k < s.size
    · have hlk : s.data.toList[k]'(by omega) = s[k] := by rw [Array.getElem_toList]; rfl
      by_cases hc : s[k] = c
      · have HN : Hid ((xs ++ [s.extract fr k]).map (·.data.toList) ++ spl c (s.data.toList.drop (k + 1)) = spl c s.data.toList) := Lib.hid (by
          rw [← HX.out.1, spl_at (by omega) hfk (by rw [hlk]; exact hc) HX.out.2, List.map_append, List.append_assoc]
          simp only [List.map_cons, List.map_nil, List.singleton_append, extract_list])
        have hcn : ((s[k].toNat : Int) == (c.toNat : Int)) = true := by rw [hc]; simp
        go_wp2_with (first | (at_builtin; go_loud (refine wpList_append_own _ rfl _ _ 58 rfl w.heap.size 9 i0 (.string ⟨#[]⟩) 1 16 Tryz.underlying58 hi hz0 hz1 hz2 rfl (by decide) _ _ _ rfl (HO.out.alloc _) ⟨wr.heap.size, 0, none⟩ 1 1 [.string (s.extract fr k)] rfl rfl ?c1 ?c2 ?c3 ?c4 ?c5 ?_)))
        try (case c1 => first | exact cells_new _ #[_] _ | rfl)
        try (case c2 => first | rfl | (intro u hu; simp at hu; subst hu; rfl))
        try (case c3 => first | omega | (unfold maxLen; omega))
        try (case c4 => first | omega | ((try simp only [World.heap_size_alloc]); omega))
        try (case c5 => first | omega | (simp; omega))
        intro v' w2 hown' hgrow
        try intro _
        have HB2 : Hid (Below w.heap.size w w2) := Lib.hid (Below.grown (Below.trans HB.out (by go_grown)) hgrow (by simp; omega) (fun j hj => (HO.out.lt j hj).1))
        go_wp2
        go_roundw
        case rel => exact ⟨k + 1, k + 1, xs ++ [s.extract fr k], by omega, by omega, by go_num, by go_num, by simp; omega, Lib.hid (by simpa using hown'), Lib.hid ⟨HN.out, by simp⟩, HB2⟩
        case measure => simp [intOf]; omega
      · have HN := Lib.hid (notin_next (show k < s.data.toList.length by omega) hfk (by rw [hlk]; exact hc) HX.out.2)
        have hcn : ((s[k].toNat : Int) == (c.toNat : Int)) = false := by rw [beq_eq_false_iff_ne]; exact fun e => hc (UInt8.toNat_inj.1 (by omega))
        go_wp2
        go_roundw
        case rel => exact ⟨k + 1, fr, xs, by omega, by omega, by go_num, rfl, hxl, HO, Lib.hid ⟨HX.out.1, HN.out⟩, HB⟩
        case measure => simp [intOf]; omega
    · have hks : k = s.size := by omega
      have HN : Hid ((xs ++ [s.extract fr s.size]).map (·.data.toList) = spl c s.data.toList) := Lib.hid (by
        have h1 := HX.out.2
        rw [hks, List.take_of_length_le (by simp)] at h1
        rw [← HX.out.1, spl_miss h1, List.map_append]
        simp only [List.map_cons, List.map_nil, extract_list]
        rw [List.take_of_length_le (by simp)])
      go_wp2_with (first | (at_builtin; go_loud (refine wpList_append_own _ rfl _ _ 58 rfl w.heap.size 9 i0 (.string ⟨#[]⟩) 1 16 Tryz.underlying58 hi hz0 hz1 hz2 rfl (by decide) _ _ _ rfl (HO.out.alloc _) ⟨wr.heap.size, 0, none⟩ 1 1 [.string (s.extract fr s.size)] rfl rfl ?d1 ?d2 ?d3 ?d4 ?d5 ?_)))
      try (case d1 => first | exact cells_new _ #[_] _ | rfl)
      try (case d2 => first | rfl | (intro u hu; simp at hu; subst hu; rfl))
      try (case d3 => first | omega | (unfold maxLen; omega))
      try (case d4 => first | omega | ((try simp only [World.heap_size_alloc]); omega))
      try (case d5 => first | omega | (simp; omega))
      intro v' w2 hown' hgrow
      try intro _
      have HB2 : Hid (Below w.heap.size w w2) := Lib.hid (Below.grown (Below.trans HB.out (by go_grown)) hgrow (by simp; omega) (fun j hj => (HO.out.lt j hj).1))
      have HOW : Hid (w2.ownsRow w.heap.size 9 1 v' (xs ++ [s.extract fr s.size]).length ((xs ++ [s.extract fr s.size]).map Value.string)) := Lib.hid (by simpa using hown')
      have HOK := Lib.hid (parts_ok HN.out hs)
      clear hown' hgrow
      go_wp2
      refine bodyPost_ret (v := v') (by simp [results, Tryz.results35, go_sem, *]) rfl ?_
      exact ⟨v', xs ++ [s.extract fr s.size], rfl, HN.out, ⟨HOW.out, HOK.out.1, HOK.out.2.1⟩, HB2.out⟩
end Go.Proofs.YtohbkohidpgjpaaGreatDoor
