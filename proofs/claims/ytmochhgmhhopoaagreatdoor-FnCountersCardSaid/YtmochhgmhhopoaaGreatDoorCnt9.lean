/- A counter bumped by the reference (l18Bump), on any list of counters. Condition: at most 900 counters, values of at most 10^9. -/
import Derived.Test.YtmochhgmhhopoaaGreatDoorCnt8
import Derived.Test.YtmochhgmhhopoaaGreatDoorAppK
namespace Go.Proofs.YtmochhgmhhopoaaGreatDoor
open Go.RowKit

theorem flat_take (xs : List Ct) (i : Nat) (hi : i ≤ xs.length) : (xs.flatMap Ct.cells).take (i * 2) = (xs.take i).flatMap Ct.cells := by
  conv => lhs; rw [← List.take_append_drop i xs, List.flatMap_append]
  rw [List.take_append_of_le_length (by rw [flat_length Ct.cells 2 Ct.cells_length, List.length_take]; omega), List.take_of_length_le (by rw [flat_length Ct.cells 2 Ct.cells_length, List.length_take]; omega)]
theorem flat_drop (xs : List Ct) (i : Nat) (hi : i ≤ xs.length) : (xs.flatMap Ct.cells).drop (i * 2) = (xs.drop i).flatMap Ct.cells := by
  conv => lhs; rw [← List.take_append_drop i xs, List.flatMap_append]
  rw [List.drop_append_of_le_length (by rw [flat_length Ct.cells 2 Ct.cells_length, List.length_take]; omega), List.drop_of_length_le (by rw [flat_length Ct.cells 2 Ct.cells_length, List.length_take]; omega), List.nil_append]
theorem get_of_take {α : Type} {L : List α} {m j : Nat} {u : α} (h : (L.take m)[j]? = some u) : L[j]? = some u := by
  rw [List.getElem?_take] at h
  split at h
  · exact h
  · cases h
set_option maxRecDepth 100000 in
set_option maxHeartbeats 8000000 in
theorem l18Bump_some (b off cap : Nat) (xs : List Ct) (s : ByteArray) (n : Int) (w : World) (h : RdCt w (.slice (some ⟨b, off, none⟩) xs.length cap) xs) (h0 : 0 < xs.length) (hlen : xs.length ≤ 900) (hV : Vls 1000000000 xs) (hn0 : 0 ≤ n) (hn1 : n ≤ 1000000) :
    Calls Tryz.prog 32 #[.slice (some ⟨b, off, none⟩) xs.length cap, .string s, .int .i64 n] w fun e w' => ∃ v', e = .returned v' ∧ w'.ownsRow w.heap.size 55 2 v' (bumpL xs s n).length ((bumpL xs s n).flatMap Ct.cells) ∧ Below w.heap.size w w' := by
  obtain ⟨i0, hi, hz0, hz1, hz2⟩ := info_parts infoCt
  obtain ⟨p', cap', b', off', hv', hcap, hp, hcell⟩ := h.parts
  simp only [Value.slice.injEq, true_and] at hv'
  obtain ⟨rfl, rfl⟩ := hv'
  have hp := hp h0
  simp only [Option.some.injEq, Addr.mk.injEq, and_true] at hp
  obtain ⟨rfl, rfl⟩ := hp
  have HC := Lib.hid hcell; clear hcell
  have HCS : Hid (∀ j u, (xs.flatMap Ct.cells)[j]? = some u → w.cell? ⟨b, off + j, none⟩ = some u) := Lib.hid (fun j u hj => by
    rcases h.1.source with ⟨_, h2, _⟩ | ⟨a, c2, h2, _, h3⟩
    · omega
    · simp only [Value.slice.injEq, Option.some.injEq] at h2
      rw [← add_at, h2.1]; exact h3 j u hj)
  have hlc : (xs.flatMap Ct.cells).length = xs.length * 2 := flat_length Ct.cells 2 Ct.cells_length xs
  have HONE := Lib.hid (oneCt xs)
  have HE : Hid ((w.alloc (.cells #[] 55)).ownsRow w.heap.size 55 2 (.slice (some ⟨w.heap.size, 0, none⟩) 0 0) 0 []) := Lib.hid (World.ownsRow_lit w #[] 0 (Nat.le_refl _) (Nat.zero_le _) rfl)
  have hbl : b < w.heap.size := World.block_lt_of_cell? w _ (HC.out 0 h0).1
  clear h
  go_enter Tryz.func32, Tryz.ntmps32
  go_wp2
  go_loop [7] (fun i => ∃ (k : Nat), k ≤ xs.length ∧ i = .int .i64 k ∧ Hid (∀ j (h : j < xs.length), j < k → Op.bytesLess xs[j].k s.toList = true))
    (fun i => xs.length - (intOf i).toNat)
  case atStart => exact ⟨0, Nat.zero_le _, rfl, Lib.hid fun j _ h => absurd h (by omega)⟩
  case round =>
    obtain ⟨k, hk, rfl, HF⟩ := hrel
    by_cases hlt : k < xs.length
    · obtain ⟨c1, c2⟩ := HC.out k hlt
      cases hb : Op.bytesLess xs[k].nm.toList s.toList
      · have HPos : Hid (posN xs s.toList = k) := Lib.hid (posN_eq xs s.toList k hk HF.out (fun _ => hb))
        go_wp2_with (first | (at_builtin; go_loud (refine wpList_appK _ rfl _ _ 24 rfl w.heap.size 55 i0 (.agg #[.string ⟨#[]⟩, .int .i64 0]) 2 24 Tryz.underlying24 hi hz0 hz1 hz2 rfl (by decide) _ 0 [] rfl HE.out _ k cap ((xs.flatMap Ct.cells).take (k * 2)) rfl ?p1 ?p2 ?p3 ?p4 ?p5 ?p6 ?p7 ?_)))
        try (case p1 => rw [List.length_take]; omega)
        try (case p2 => first | exact fun _ j u hj => HCS.out j u (get_of_take hj) | exact fun j u hj => HCS.out j u (get_of_take hj) | exact fun _ => ⟨_, rfl, fun j u hj => by rw [add_at]; exact cell_on (below_alloc1 _ _) (HCS.out j u (get_of_take hj))⟩)
        try (case p4 => exact fun u hu => HONE.out u (List.mem_of_mem_take hu))
        try (case p5 => unfold maxLen; omega)
        try (case p6 => omega)
        try (case p7 => (simp <;> omega))
        intro v1 w1 hown1 hgrow1
        try intro _
        have HB1 : Hid (Below w.heap.size w w1) := Lib.hid (Below.grown (below_alloc1 w (.cells #[] 55)) hgrow1 (by simp) (fun j hj => by first | exact (HE.out.lt j hj).1 | (simp [Value.ownBlock] at hj; omega)))
        have HO1 : Hid (w1.ownsRow w.heap.size 55 2 v1 k ((xs.flatMap Ct.cells).take (k * 2))) := Lib.hid (by simpa using hown1)
        clear hown1 hgrow1
        have hsz1 := HB1.out.size
        have d1 := cell_on HB1.out c1
        have d2 := cell_on HB1.out c2
        cases he : (xs[k].nm.toList == s.toList)
        · have HBm : Hid (bumpL xs s n = xs.take k ++ (⟨s, n⟩ : Ct) :: xs.drop k) := Lib.hid (by
            rw [bumpL_miss n (by rw [hitB, HPos.out, List.getElem?_eq_getElem hlt]; exact he), HPos.out])
          have HP59 : Hid (∀ W : World, Below w.heap.size w W → 0 < xs.length - k → ∃ ad, (if cap = k then some (⟨b, off, none⟩ : Addr) else some ⟨b, off + k * 2, none⟩) = some ad ∧ ∀ j u, ((xs.flatMap Ct.cells).drop (k * 2))[j]? = some u → W.cell? (ad.add j) = some u) := Lib.hid (fun W hW hm => ⟨⟨b, off + k * 2, none⟩, if_neg (by omega), fun j u hj => by rw [add_at, Nat.add_assoc]; exact cell_on hW (HCS.out _ u (by rwa [List.getElem?_drop] at hj))⟩)
          have HN59 : Hid ((if cap = k then some (⟨b, off, none⟩ : Addr) else some ⟨b, off + k * 2, none⟩) = none → cap - k = 0) := Lib.hid (fun e => by split at e <;> cases e)
          have HL59 : Hid (((xs.flatMap Ct.cells).drop (k * 2)).length = (xs.length - k) * 2) := Lib.hid (by rw [List.length_drop]; omega)
          have HD59 : Hid (∀ u ∈ (xs.flatMap Ct.cells).drop (k * 2), u.oneCell' = true) := Lib.hid (fun u hu => HONE.out u (List.mem_of_mem_drop hu))
          have HO1L : Hid ((w1.alloc (.cells #[.string s, .int .i64 n] 55)).drew.ownsRow w.heap.size 55 2 v1 k ((xs.flatMap Ct.cells).take (k * 2))) := Lib.hid (HO1.out.alloc _)
          have HB1L : Hid (Below w.heap.size w (w1.alloc (.cells #[.string s, .int .i64 n] 55)).drew) := Lib.hid (HB1.out.trans (((below_alloc1 _ _).mono HB1.out.size))).drew
          have HS55 : Hid (∀ j u, ([.string s, .int .i64 n] : List Value)[j]? = some u → (w1.alloc (.cells #[.string s, .int .i64 n] 55)).drew.cell? ((⟨w1.heap.size, 0, none⟩ : Addr).add j) = some u) := Lib.hid (World.news_of_block (heap_alloc_new w1 _))
          have HV55 : Hid (∀ u ∈ ([.string s, .int .i64 n] : List Value), u.oneCell' = true) := Lib.hid (by intro u hu; simp at hu; rcases hu with rfl | rfl <;> rfl)
          have hkL : k + 1 ≤ maxLen := by unfold maxLen; omega
          have hkL2 : k + 1 + (xs.length - k) ≤ maxLen := by unfold maxLen; omega
          go_wp2_with fail
          go_region_law (first | ((refine step_appK _ rfl (.tmp 51) (.tmp 55) 24 rfl w.heap.size 55 i0 (.agg #[.string ⟨#[]⟩, .int .i64 0]) 2 24 Tryz.underlying24 hi hz0 hz1 hz2 rfl (by decide) v1 k _ (by simp [Act.eval, Act.put]) HO1L.out (some ⟨w1.heap.size, 0, none⟩) 1 1 [.string s, .int .i64 n] (by simp [Act.eval, Act.put]) rfl (fun _ => ⟨_, rfl, HS55.out⟩) (fun e => by cases e) HV55.out hkL (by omega) (HB1L.out.size) ?_); intro v2 w2 hown2 hgrow2; have HB2 := Lib.hid (HB1L.out.grown hgrow2 HB1L.out.size (fun j hj => (HO1L.out.lt j hj).1)); have HO2 := Lib.hid hown2; clear hown2 hgrow2) | ((refine step_appK _ rfl (.tmp 56) (.tmp 59) 24 rfl w.heap.size 55 i0 (.agg #[.string ⟨#[]⟩, .int .i64 0]) 2 24 Tryz.underlying24 hi hz0 hz1 hz2 rfl (by decide) v2 (k + 1) _ (by simp [Act.eval, Act.put]) HO2.out (if cap = k then some ⟨b, off, none⟩ else some ⟨b, off + k * 2, none⟩) (xs.length - k) (cap - k) ((xs.flatMap Ct.cells).drop (k * 2)) (by simp [Act.eval, Act.put]) HL59.out (HP59.out _ HB2.out) HN59.out HD59.out hkL2 (by omega) HB2.out.size ?_); intro v3 w3 hown3 hgrow3; have HB3 := Lib.hid (HB2.out.grown hgrow3 HB2.out.size (fun j hj => (HO2.out.lt j hj).1)); have HO3 := Lib.hid hown3; clear hown3 hgrow3))
          clear HP59
          have e1 := HO3.out
          rw [flat_take xs k (by omega), flat_drop xs (k) (by omega)] at e1
          have e2 : (xs.take (k) ++ (⟨s, n⟩ : Ct) :: xs.drop (k)).length = k + 1 + (xs.length - (k)) := by (simp <;> omega)
          have e3 : (xs.take (k) ++ (⟨s, n⟩ : Ct) :: xs.drop (k)).flatMap Ct.cells = (xs.take (k)).flatMap Ct.cells ++ [.string s, .int .i64 (n)] ++ (xs.drop (k)).flatMap Ct.cells := by rw [List.flatMap_append, List.flatMap_cons, List.append_assoc]; try rfl
          have HFIN : Hid (w3.ownsRow w.heap.size 55 2 v3 (bumpL xs s n).length ((bumpL xs s n).flatMap Ct.cells)) := Lib.hid (by rw [HBm.out, e2, e3]; exact e1)
          clear e1 e2 e3
          go_wp2
          all_goals refine bodyPost_ret (v := v3) (by simp [results, Tryz.results32, go_sem, *]) rfl ?_
          all_goals exact ⟨v3, rfl, HFIN.out, HB3.out⟩
        · have hvl := hV xs[k] (List.getElem_mem hlt)
          have hwr : IntKind.i64.wrap (n + xs[k].vl) = n + xs[k].vl := by rw [IntKind.wrap_i64]; omega
          have HBm : Hid (bumpL xs s n = xs.take k ++ (⟨s, n + xs[k].vl⟩ : Ct) :: xs.drop (k + 1)) := Lib.hid (by
            rw [bumpL_hit n (by rw [hitB, HPos.out, List.getElem?_eq_getElem hlt]; exact he), HPos.out, vlAt_eq xs k hlt])
          have hwk : IntKind.i64.wrap ((k : Int) + 1) = (k : Int) + 1 := by rw [IntKind.wrap_i64]; omega
          have hwk0 : (0 : Int) ≤ (k : Int) + 1 := by omega
          have hwk1 : ((k : Int) + 1).toNat = k + 1 := by omega
          have hwk2 : (k : Int) + 1 ≤ (xs.length : Int) := by omega
          have hwk3 : (k : Int) + 1 ≤ (cap : Int) := by omega
          have HP59 : Hid (∀ W : World, Below w.heap.size w W → 0 < xs.length - (k + 1) → ∃ ad, (if cap = (k + 1) then some (⟨b, off, none⟩ : Addr) else some ⟨b, off + (k + 1) * 2, none⟩) = some ad ∧ ∀ j u, ((xs.flatMap Ct.cells).drop ((k + 1) * 2))[j]? = some u → W.cell? (ad.add j) = some u) := Lib.hid (fun W hW hm => ⟨⟨b, off + (k + 1) * 2, none⟩, if_neg (by omega), fun j u hj => by rw [add_at, Nat.add_assoc]; exact cell_on hW (HCS.out _ u (by rwa [List.getElem?_drop] at hj))⟩)
          have HN59 : Hid ((if cap = (k + 1) then some (⟨b, off, none⟩ : Addr) else some ⟨b, off + (k + 1) * 2, none⟩) = none → cap - (k + 1) = 0) := Lib.hid (fun e => by split at e <;> cases e)
          have HL59 : Hid (((xs.flatMap Ct.cells).drop ((k + 1) * 2)).length = (xs.length - (k + 1)) * 2) := Lib.hid (by rw [List.length_drop]; omega)
          have HD59 : Hid (∀ u ∈ (xs.flatMap Ct.cells).drop ((k + 1) * 2), u.oneCell' = true) := Lib.hid (fun u hu => HONE.out u (List.mem_of_mem_drop hu))
          have HO1L : Hid ((w1.alloc (.cells #[.string s, .int .i64 (n + xs[k].vl)] 55)).drew.ownsRow w.heap.size 55 2 v1 k ((xs.flatMap Ct.cells).take (k * 2))) := Lib.hid (HO1.out.alloc _)
          have HB1L : Hid (Below w.heap.size w (w1.alloc (.cells #[.string s, .int .i64 (n + xs[k].vl)] 55)).drew) := Lib.hid (HB1.out.trans (((below_alloc1 _ _).mono HB1.out.size))).drew
          have HS55 : Hid (∀ j u, ([.string s, .int .i64 (n + xs[k].vl)] : List Value)[j]? = some u → (w1.alloc (.cells #[.string s, .int .i64 (n + xs[k].vl)] 55)).drew.cell? ((⟨w1.heap.size, 0, none⟩ : Addr).add j) = some u) := Lib.hid (World.news_of_block (heap_alloc_new w1 _))
          have HV55 : Hid (∀ u ∈ ([.string s, .int .i64 (n + xs[k].vl)] : List Value), u.oneCell' = true) := Lib.hid (by intro u hu; simp at hu; rcases hu with rfl | rfl <;> rfl)
          have hkL : k + 1 ≤ maxLen := by unfold maxLen; omega
          have hkL2 : k + 1 + (xs.length - (k + 1)) ≤ maxLen := by unfold maxLen; omega
          go_wp2_with fail
          go_region_law (first | ((refine step_appK _ rfl (.tmp 51) (.tmp 55) 24 rfl w.heap.size 55 i0 (.agg #[.string ⟨#[]⟩, .int .i64 0]) 2 24 Tryz.underlying24 hi hz0 hz1 hz2 rfl (by decide) v1 k _ (by simp [Act.eval, Act.put]) HO1L.out (some ⟨w1.heap.size, 0, none⟩) 1 1 [.string s, .int .i64 (n + xs[k].vl)] (by simp [Act.eval, Act.put]) rfl (fun _ => ⟨_, rfl, HS55.out⟩) (fun e => by cases e) HV55.out hkL (by omega) (HB1L.out.size) ?_); intro v2 w2 hown2 hgrow2; have HB2 := Lib.hid (HB1L.out.grown hgrow2 HB1L.out.size (fun j hj => (HO1L.out.lt j hj).1)); have HO2 := Lib.hid hown2; clear hown2 hgrow2) | ((refine step_appK _ rfl (.tmp 56) (.tmp 59) 24 rfl w.heap.size 55 i0 (.agg #[.string ⟨#[]⟩, .int .i64 0]) 2 24 Tryz.underlying24 hi hz0 hz1 hz2 rfl (by decide) v2 (k + 1) _ (by simp [Act.eval, Act.put]) HO2.out (if cap = (k + 1) then some ⟨b, off, none⟩ else some ⟨b, off + (k + 1) * 2, none⟩) (xs.length - (k + 1)) (cap - (k + 1)) ((xs.flatMap Ct.cells).drop ((k + 1) * 2)) (by simp [Act.eval, Act.put]) HL59.out (HP59.out _ HB2.out) HN59.out HD59.out hkL2 (by omega) HB2.out.size ?_); intro v3 w3 hown3 hgrow3; have HB3 := Lib.hid (HB2.out.grown hgrow3 HB2.out.size (fun j hj => (HO2.out.lt j hj).1)); have HO3 := Lib.hid hown3; clear hown3 hgrow3))
          clear hwk hwk0 hwk1 hwk2 hwk3
          have e1 := HO3.out
          rw [flat_take xs k (by omega), flat_drop xs ((k + 1)) (by omega)] at e1
          have e2 : (xs.take (k) ++ (⟨s, (n + xs[k].vl)⟩ : Ct) :: xs.drop ((k + 1))).length = k + 1 + (xs.length - ((k + 1))) := by (simp <;> omega)
          have e3 : (xs.take (k) ++ (⟨s, (n + xs[k].vl)⟩ : Ct) :: xs.drop ((k + 1))).flatMap Ct.cells = (xs.take (k)).flatMap Ct.cells ++ [.string s, .int .i64 ((n + xs[k].vl))] ++ (xs.drop ((k + 1))).flatMap Ct.cells := by rw [List.flatMap_append, List.flatMap_cons, List.append_assoc]; try rfl
          have HFIN : Hid (w3.ownsRow w.heap.size 55 2 v3 (bumpL xs s n).length ((bumpL xs s n).flatMap Ct.cells)) := Lib.hid (by rw [HBm.out, e2, e3]; exact e1)
          clear e1 e2 e3
          go_wp2
          all_goals refine bodyPost_ret (v := v3) (by simp [results, Tryz.results32, go_sem, *]) rfl ?_
          all_goals exact ⟨v3, rfl, HFIN.out, HB3.out⟩
      · have HG : Hid (∀ j (h : j < xs.length), j < k + 1 → Op.bytesLess xs[j].k s.toList = true) := Lib.hid (fun j h hj => by
          by_cases hjk : j = k
          · subst hjk; exact hb
          · exact HF.out j h (by omega))
        go_wp2
        go_round
        case rel => exact ⟨k + 1, by omega, by go_num, HG⟩
        case measure => simp [intOf]; omega
    · obtain rfl : k = xs.length := by omega
      have HPos : Hid (posN xs s.toList = xs.length) := Lib.hid (posN_eq xs s.toList _ hk HF.out (fun h => absurd h (by omega)))
      go_wp2_with (first | (at_builtin; go_loud (refine wpList_appK _ rfl _ _ 24 rfl w.heap.size 55 i0 (.agg #[.string ⟨#[]⟩, .int .i64 0]) 2 24 Tryz.underlying24 hi hz0 hz1 hz2 rfl (by decide) _ 0 [] rfl HE.out _ xs.length cap ((xs.flatMap Ct.cells).take (xs.length * 2)) rfl ?q1 ?q2 ?q3 ?q4 ?q5 ?q6 ?q7 ?_)))
      try (case q1 => rw [List.length_take]; omega)
      try (case q2 => first | exact fun _ j u hj => HCS.out j u (get_of_take hj) | exact fun j u hj => HCS.out j u (get_of_take hj) | exact fun _ => ⟨_, rfl, fun j u hj => by rw [add_at]; exact cell_on (below_alloc1 _ _) (HCS.out j u (get_of_take hj))⟩)
      try (case q4 => exact fun u hu => HONE.out u (List.mem_of_mem_take hu))
      try (case q5 => unfold maxLen; omega)
      try (case q6 => omega)
      try (case q7 => (simp <;> omega))
      intro v1 w1 hown1 hgrow1
      try intro _
      have HB1 : Hid (Below w.heap.size w w1) := Lib.hid (Below.grown (below_alloc1 w (.cells #[] 55)) hgrow1 (by simp) (fun j hj => by first | exact (HE.out.lt j hj).1 | (simp [Value.ownBlock] at hj; omega)))
      have HO1 : Hid (w1.ownsRow w.heap.size 55 2 v1 xs.length ((xs.flatMap Ct.cells).take (xs.length * 2))) := Lib.hid (by simpa using hown1)
      clear hown1 hgrow1
      have hsz1 := HB1.out.size
      have HBm : Hid (bumpL xs s n = xs.take xs.length ++ (⟨s, n⟩ : Ct) :: xs.drop xs.length) := Lib.hid (by
        rw [bumpL_miss n (by rw [hitB, HPos.out, List.getElem?_eq_none (Nat.le_refl _)]), HPos.out])
      have HP59 : Hid (∀ W : World, Below w.heap.size w W → 0 < xs.length - xs.length → ∃ ad, (if cap = xs.length then some (⟨b, off, none⟩ : Addr) else some ⟨b, off + xs.length * 2, none⟩) = some ad ∧ ∀ j u, ((xs.flatMap Ct.cells).drop (xs.length * 2))[j]? = some u → W.cell? (ad.add j) = some u) := Lib.hid (fun W hW hm => ⟨⟨b, off + xs.length * 2, none⟩, if_neg (by omega), fun j u hj => by rw [add_at, Nat.add_assoc]; exact cell_on hW (HCS.out _ u (by rwa [List.getElem?_drop] at hj))⟩)
      have HN59 : Hid ((if cap = xs.length then some (⟨b, off, none⟩ : Addr) else some ⟨b, off + xs.length * 2, none⟩) = none → cap - xs.length = 0) := Lib.hid (fun e => by split at e <;> cases e)
      have HL59 : Hid (((xs.flatMap Ct.cells).drop (xs.length * 2)).length = (xs.length - xs.length) * 2) := Lib.hid (by rw [List.length_drop]; omega)
      have HD59 : Hid (∀ u ∈ (xs.flatMap Ct.cells).drop (xs.length * 2), u.oneCell' = true) := Lib.hid (fun u hu => HONE.out u (List.mem_of_mem_drop hu))
      have HO1L : Hid ((w1.alloc (.cells #[.string s, .int .i64 n] 55)).drew.ownsRow w.heap.size 55 2 v1 xs.length ((xs.flatMap Ct.cells).take (xs.length * 2))) := Lib.hid (HO1.out.alloc _)
      have HB1L : Hid (Below w.heap.size w (w1.alloc (.cells #[.string s, .int .i64 n] 55)).drew) := Lib.hid (HB1.out.trans (((below_alloc1 _ _).mono HB1.out.size))).drew
      have HS55 : Hid (∀ j u, ([.string s, .int .i64 n] : List Value)[j]? = some u → (w1.alloc (.cells #[.string s, .int .i64 n] 55)).drew.cell? ((⟨w1.heap.size, 0, none⟩ : Addr).add j) = some u) := Lib.hid (World.news_of_block (heap_alloc_new w1 _))
      have HV55 : Hid (∀ u ∈ ([.string s, .int .i64 n] : List Value), u.oneCell' = true) := Lib.hid (by intro u hu; simp at hu; rcases hu with rfl | rfl <;> rfl)
      have hkL : xs.length + 1 ≤ maxLen := by unfold maxLen; omega
      have hkL2 : xs.length + 1 + (xs.length - xs.length) ≤ maxLen := by unfold maxLen; omega
      go_wp2_with fail
      go_region_law (first | ((refine step_appK _ rfl (.tmp 51) (.tmp 55) 24 rfl w.heap.size 55 i0 (.agg #[.string ⟨#[]⟩, .int .i64 0]) 2 24 Tryz.underlying24 hi hz0 hz1 hz2 rfl (by decide) v1 xs.length _ (by simp [Act.eval, Act.put]) HO1L.out (some ⟨w1.heap.size, 0, none⟩) 1 1 [.string s, .int .i64 n] (by simp [Act.eval, Act.put]) rfl (fun _ => ⟨_, rfl, HS55.out⟩) (fun e => by cases e) HV55.out hkL (by omega) (HB1L.out.size) ?_); intro v2 w2 hown2 hgrow2; have HB2 := Lib.hid (HB1L.out.grown hgrow2 HB1L.out.size (fun j hj => (HO1L.out.lt j hj).1)); have HO2 := Lib.hid hown2; clear hown2 hgrow2) | ((refine step_appK _ rfl (.tmp 56) (.tmp 59) 24 rfl w.heap.size 55 i0 (.agg #[.string ⟨#[]⟩, .int .i64 0]) 2 24 Tryz.underlying24 hi hz0 hz1 hz2 rfl (by decide) v2 (xs.length + 1) _ (by simp [Act.eval, Act.put]) HO2.out (if cap = xs.length then some ⟨b, off, none⟩ else some ⟨b, off + xs.length * 2, none⟩) (xs.length - xs.length) (cap - xs.length) ((xs.flatMap Ct.cells).drop (xs.length * 2)) (by simp [Act.eval, Act.put]) HL59.out (HP59.out _ HB2.out) HN59.out HD59.out hkL2 (by omega) HB2.out.size ?_); intro v3 w3 hown3 hgrow3; have HB3 := Lib.hid (HB2.out.grown hgrow3 HB2.out.size (fun j hj => (HO2.out.lt j hj).1)); have HO3 := Lib.hid hown3; clear hown3 hgrow3))
      clear HP59
      have e1 := HO3.out
      rw [flat_take xs xs.length (by omega), flat_drop xs (xs.length) (by omega)] at e1
      have e2 : (xs.take (xs.length) ++ (⟨s, n⟩ : Ct) :: xs.drop (xs.length)).length = xs.length + 1 + (xs.length - (xs.length)) := by (simp <;> omega)
      have e3 : (xs.take (xs.length) ++ (⟨s, n⟩ : Ct) :: xs.drop (xs.length)).flatMap Ct.cells = (xs.take (xs.length)).flatMap Ct.cells ++ [.string s, .int .i64 (n)] ++ (xs.drop (xs.length)).flatMap Ct.cells := by rw [List.flatMap_append, List.flatMap_cons, List.append_assoc]; try rfl
      have HFIN : Hid (w3.ownsRow w.heap.size 55 2 v3 (bumpL xs s n).length ((bumpL xs s n).flatMap Ct.cells)) := Lib.hid (by rw [HBm.out, e2, e3]; exact e1)
      clear e1 e2 e3
      go_wp2
      all_goals refine bodyPost_ret (v := v3) (by simp [results, Tryz.results32, go_sem, *]) rfl ?_
      all_goals exact ⟨v3, rfl, HFIN.out, HB3.out⟩
set_option maxRecDepth 100000 in
set_option maxHeartbeats 4000000 in
theorem l18Bump_none (p : Option Addr) (cap : Nat) (s : ByteArray) (n : Int) (w : World) (hnil : p = none → cap = 0) :
    Calls Tryz.prog 32 #[.slice p 0 cap, .string s, .int .i64 n] w fun e w' => ∃ v', e = .returned v' ∧ w'.ownsRow w.heap.size 55 2 v' 1 [.string s, .int .i64 n] ∧ Below w.heap.size w w' := by
  obtain ⟨i0, hi, hz0, hz1, hz2⟩ := info_parts infoCt
  have HE : Hid ((w.alloc (.cells #[] 55)).ownsRow w.heap.size 55 2 (.slice (some ⟨w.heap.size, 0, none⟩) 0 0) 0 []) := Lib.hid (World.ownsRow_lit w #[] 0 (Nat.le_refl _) (Nat.zero_le _) rfl)
  have hV55 : ∀ u ∈ ([.string s, .int .i64 n] : List Value), u.oneCell' = true := by intro u hu; simp at hu; rcases hu with rfl | rfl <;> rfl
  have HV55 := Lib.hid hV55; clear hV55
  have HNil := Lib.hid hnil; clear hnil
  go_enter Tryz.func32, Tryz.ntmps32
  go_wp2
  go_loop [7] (fun i => i = .int .i64 0) (fun _ => 0)
  case atStart => rfl
  case round =>
    obtain rfl := hrel
    cases p with
    | none =>
      obtain rfl := HNil.out rfl
      have HO1L : Hid (((w.alloc (.cells #[] 55)).alloc (.cells #[.string s, .int .i64 n] 55)).drew.ownsRow w.heap.size 55 2 (.slice (some ⟨w.heap.size, 0, none⟩) 0 0) 0 []) := Lib.hid (HE.out.alloc _)
      have HB1L : Hid (Below w.heap.size w ((w.alloc (.cells #[] 55)).alloc (.cells #[.string s, .int .i64 n] 55)).drew) := Lib.hid (Below.drew (by go_grown))
      have HS55 : Hid (∀ j u, ([.string s, .int .i64 n] : List Value)[j]? = some u → ((w.alloc (.cells #[] 55)).alloc (.cells #[.string s, .int .i64 n] 55)).drew.cell? ((⟨w.heap.size + 1, 0, none⟩ : Addr).add j) = some u) := Lib.hid (World.news_of_block (heap_alloc2_new w _ _))
      go_wp2_with fail
      go_region_law (first | ((refine step_appK _ rfl (.tmp 51) (.tmp 55) 24 rfl w.heap.size 55 i0 (.agg #[.string ⟨#[]⟩, .int .i64 0]) 2 24 Tryz.underlying24 hi hz0 hz1 hz2 rfl (by decide) (.slice (some ⟨w.heap.size, 0, none⟩) 0 0) 0 _ (by simp [Act.eval, Act.put]) HO1L.out (some ⟨w.heap.size + 1, 0, none⟩) 1 1 [.string s, .int .i64 n] (by simp [Act.eval, Act.put]) rfl (fun _ => ⟨_, rfl, HS55.out⟩) (fun e => by cases e) HV55.out (by unfold maxLen; omega) (by omega) (HB1L.out.size) ?_); intro v2 w2 hown2 hgrow2; have HB2 := Lib.hid (HB1L.out.grown hgrow2 HB1L.out.size (fun j hj => (HO1L.out.lt j hj).1)); have HO2 : Hid (w2.ownsRow w.heap.size 55 2 v2 1 [.string s, .int .i64 n]) := Lib.hid (by simpa using hown2); clear hown2 hgrow2) | ((refine step_appK _ rfl (.tmp 56) (.tmp 59) 24 rfl w.heap.size 55 i0 (.agg #[.string ⟨#[]⟩, .int .i64 0]) 2 24 Tryz.underlying24 hi hz0 hz1 hz2 rfl (by decide) v2 1 _ (by simp [Act.eval, Act.put]) HO2.out (none) 0 (0) [] (by simp [Act.eval, Act.put]) rfl (fun h => absurd h (by omega)) (fun _ => rfl) (by simp) (by unfold maxLen; omega) (by omega) HB2.out.size ?_); intro v3 w3 hown3 hgrow3; have HB3 := Lib.hid (HB2.out.grown hgrow3 HB2.out.size (fun j hj => (HO2.out.lt j hj).1)); have HO3 := Lib.hid hown3; clear hown3 hgrow3))
      go_wp2
      all_goals refine bodyPost_ret (v := v3) (by simp [results, Tryz.results32, go_sem, *]) rfl ?_
      all_goals exact ⟨v3, rfl, by simpa using HO3.out, HB3.out⟩
    | some a =>
      have HO1L : Hid (((w.alloc (.cells #[] 55)).alloc (.cells #[.string s, .int .i64 n] 55)).drew.ownsRow w.heap.size 55 2 (.slice (some ⟨w.heap.size, 0, none⟩) 0 0) 0 []) := Lib.hid (HE.out.alloc _)
      have HB1L : Hid (Below w.heap.size w ((w.alloc (.cells #[] 55)).alloc (.cells #[.string s, .int .i64 n] 55)).drew) := Lib.hid (Below.drew (by go_grown))
      have HS55 : Hid (∀ j u, ([.string s, .int .i64 n] : List Value)[j]? = some u → ((w.alloc (.cells #[] 55)).alloc (.cells #[.string s, .int .i64 n] 55)).drew.cell? ((⟨w.heap.size + 1, 0, none⟩ : Addr).add j) = some u) := Lib.hid (World.news_of_block (heap_alloc2_new w _ _))
      go_wp2_with fail
      go_region_law (first | ((refine step_appK _ rfl (.tmp 51) (.tmp 55) 24 rfl w.heap.size 55 i0 (.agg #[.string ⟨#[]⟩, .int .i64 0]) 2 24 Tryz.underlying24 hi hz0 hz1 hz2 rfl (by decide) (.slice (some ⟨w.heap.size, 0, none⟩) 0 0) 0 _ (by simp [Act.eval, Act.put]) HO1L.out (some ⟨w.heap.size + 1, 0, none⟩) 1 1 [.string s, .int .i64 n] (by simp [Act.eval, Act.put]) rfl (fun _ => ⟨_, rfl, HS55.out⟩) (fun e => by cases e) HV55.out (by unfold maxLen; omega) (by omega) (HB1L.out.size) ?_); intro v2 w2 hown2 hgrow2; have HB2 := Lib.hid (HB1L.out.grown hgrow2 HB1L.out.size (fun j hj => (HO1L.out.lt j hj).1)); have HO2 : Hid (w2.ownsRow w.heap.size 55 2 v2 1 [.string s, .int .i64 n]) := Lib.hid (by simpa using hown2); clear hown2 hgrow2) | ((refine step_appK _ rfl (.tmp 56) (.tmp 59) 24 rfl w.heap.size 55 i0 (.agg #[.string ⟨#[]⟩, .int .i64 0]) 2 24 Tryz.underlying24 hi hz0 hz1 hz2 rfl (by decide) v2 1 _ (by simp [Act.eval, Act.put]) HO2.out (some a) 0 (cap) [] (by simp [Act.eval, Act.put]) rfl (fun h => absurd h (by omega)) (fun e => by cases e) (by simp) (by unfold maxLen; omega) (by omega) HB2.out.size ?_); intro v3 w3 hown3 hgrow3; have HB3 := Lib.hid (HB2.out.grown hgrow3 HB2.out.size (fun j hj => (HO2.out.lt j hj).1)); have HO3 := Lib.hid hown3; clear hown3 hgrow3))
      go_wp2
      all_goals refine bodyPost_ret (v := v3) (by simp [results, Tryz.results32, go_sem, *]) rfl ?_
      all_goals exact ⟨v3, rfl, by simpa using HO3.out, HB3.out⟩
end Go.Proofs.YtmochhgmhhopoaaGreatDoor
