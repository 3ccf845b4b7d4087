/- A list of counters read from its text by the program's ParseCounters, for every text of at most 2^20 bytes. Conditions: the library's table of powers and its two errors lie where they are laid. -/
import Derived.Test.YtmochhgmhhopoaaGreatDoorCnt16
import Derived.Test.YtmochhgmhhopoaaGreatDoorPcSame
namespace Go.Proofs.YtmochhgmhhopoaaGreatDoor
open Go.RowKit

def pcI (s : ByteArray) : Option (List Ct) := if s.size = 0 then some [] else pcR rdI s
theorem owCt_nil2 (B : Nat) (w : World) : OwCt B w (.slice none 0 0) [] := ⟨⟨rfl, .inl ⟨rfl, rfl⟩⟩, by simp, by simp⟩
theorem words_eq {s : ByteArray} {ws : List ByteArray} (h : ws.map (·.data.toList) = spl 32 s.data.toList) : ws = wordsOf s := by
  rw [wordsOf, ← h, List.map_map]
  exact (List.map_id ws).symm.trans (List.map_congr_left fun x _ => (ba_mk x).symm)
theorem rdI_cut {x a b : ByteArray} (h : CutP 61 x a b) : rdI x = (atoiO b.data.toList).map fun v => ⟨a, v⟩ := by
  rw [rdI, ← h.eq.1, ← h.eq.2, ba_mk]
theorem pcR_bad {f : ByteArray → Option Ct} {s : ByteArray} (n : Nat) (h : n < (wordsOf s).length) (hn : f (wordsOf s)[n] = none) : pcR f s = none := by
  rw [pcR, if_neg]
  intro ha
  have := List.all_eq_true.1 ha _ (List.getElem_mem h)
  rw [hn] at this
  cases this
theorem pcR_end {f : ByteArray → Option Ct} {s : ByteArray} (h : ∀ j (h : j < (wordsOf s).length), (f (wordsOf s)[j]).isSome = true) : pcR f s = if ctB ((wordsOf s).filterMap f) = true ∧ txN ((wordsOf s).filterMap f) ((wordsOf s).filterMap f).length = s then some ((wordsOf s).filterMap f) else none := by
  rw [pcR, if_pos]
  rw [List.all_eq_true]
  intro w hw
  obtain ⟨j, hj, rfl⟩ := List.getElem_of_mem hw
  exact h j hj
theorem CutP.sizes {c : UInt8} {s a b : ByteArray} (h : CutP c s a b) : a.size ≤ s.size ∧ b.size ≤ s.size := by
  have ea : a.data.toList.length = a.size := Array.length_toList
  have eb : b.data.toList.length = b.size := Array.length_toList
  have es : s.data.toList.length = s.size := Array.length_toList
  rcases h with ⟨rfl, rfl, _⟩ | ⟨h, _⟩
  · exact ⟨Nat.le_refl _, Nat.zero_le _⟩
  · have := congrArg List.length h
    rw [List.length_append, List.length_cons] at this
    omega
set_option maxRecDepth 100000 in
set_option maxHeartbeats 4000000 in
theorem implParse_any (s : ByteArray) (w : World) (hs : s.size ≤ 1048576) (hP : PowAt w) (hE : ErrAt w) :
    Calls Tryz.prog 19 #[.string s] w fun e w' => ∃ u, e = .returned (.tuple #[u, .bool (pcI s).isSome]) ∧ OwCt w.heap.size w' u ((pcI s).getD []) ∧ Below w.heap.size w w' := by
  by_cases h0 : s.size = 0
  · obtain rfl : s = ⟨#[]⟩ := ByteArray.ext (Array.eq_empty_of_size_eq_zero h0)
    go_enter Tryz.func19, Tryz.ntmps19
    go_wp2
    refine bodyPost_ret (v := (.tuple #[.slice none 0 0, .bool true])) (by simp [results, Tryz.results19, go_sem, *]) rfl ?_
    exact ⟨_, rfl, owCt_nil2 _ _, Below.refl _ _⟩
  · have HPw := Lib.hid hP; clear hP
    have HEr := Lib.hid hE; clear hE
    have HPc : Hid (pcI s = pcR rdI s) := Lib.hid (if_neg h0)
    have hne : s.toList.isEmpty = false := by
      rw [ByteArray.toList_eq, List.isEmpty_eq_false_iff]
      intro e
      have h1 : s.data.toList.length = s.size := Array.length_toList
      rw [e] at h1
      exact h0 h1.symm
    obtain ⟨i0, hi, hz0, hz1, hz2⟩ := info_parts infoCt
    have HSp := Lib.hid (split1_any s 32 w hs)
    go_enter Tryz.func19, Tryz.ntmps19
    go_wp2_with fail
    refine HSp.out.mono ?_
    rintro e w1 ⟨v, ws, rfl, hws, hO, hb⟩
    have hok := parts_ok hws hs
    have hW := words_eq hws
    have HSz := Lib.hid hok.2.2
    have hwl := hok.1
    obtain ⟨p, cap, g, rfl, hcap, hq⟩ := own_shape hO.1
    have HQ := Lib.hid hq; clear hq
    have HO := Lib.hid hO; clear hO
    have HB := Lib.hid hb; clear hb
    have HWs := Lib.hid hW; clear hW hws hok hne
    go_wp2
    go_loopw [4, 6, 7, 8, 9, 10, 11, 19] (fun u _ _ _ _ _ _ i wr => ∃ n : Nat, n ≤ ws.length ∧ i = .int .i64 n ∧ Hid (OwCt w1.heap.size wr u ((ws.take n).filterMap rdI)) ∧ Hid (∀ j (h : j < ws.length), j < n → (rdI ws[j]).isSome = true) ∧ Hid (∀ x ∈ (ws.take n).filterMap rdI, x.nm.size ≤ 1048576) ∧ Hid (Below w1.heap.size w1 wr)) (fun _ _ _ _ _ _ _ i _ => ws.length - (intOf i).toNat)
    case atStart => exact ⟨0, Nat.zero_le _, rfl, Lib.hid (owCt_nil2 _ _), Lib.hid fun j _ h => absurd h (by omega), Lib.hid (by simp), Lib.hid (Below.refl _ _)⟩
    case round =>
      obtain ⟨n, hn, rfl, HOn, HF, HNm, HBn⟩ := hrel
      have HBw : Hid (Below w.heap.size w wr) := Lib.hid (HB.out.trans (HBn.out.mono HB.out.size))
      by_cases hlt : n < ws.length
      · obtain ⟨rfl, _⟩ := HQ.out (by omega)
        have c0 : wr.cell? ⟨g, n, none⟩ = some (.string ws[n]) := cell_on HBn.out (by rw [HO.out.1.cellAt n (by omega), List.getElem?_map, List.getElem?_eq_getElem hlt]; rfl)
        have hx := HSz.out ws[n] (List.getElem_mem hlt)
        have HCt := Lib.hid (fun w => cut1_any ws[n] 61 w (by omega))
        go_wp2_with fail
        refine (HCt.out _).mono ?_
        rintro e w2 ⟨a, b, f, rfl, hC, hb2⟩
        have HB2 := Lib.hid (HBw.out.trans (hb2.mono HBw.out.size))
        have HO2 := Lib.hid (HOn.out.below hb2)
        have HBn2 := Lib.hid (HBn.out.trans (hb2.mono HBn.out.size)); clear hb2
        have hcs := hC.sizes
        have HRd := Lib.hid (rdI_cut hC); clear hC
        cases hat : atoiO b.data.toList with
        | none =>
          have HX : Hid (pcI s = none) := Lib.hid (by
            rw [HPc.out]
            have hW := HWs.out
            subst hW
            exact pcR_bad n hlt (by rw [HRd.out, hat]; rfl))
          have HAt := Lib.hid (fun w h => atoi_none hat w (by omega) h)
          clear hat
          go_wp2_with fail
          refine (HAt.out _ (HEr.out.below HB2.out)).mono ?_
          rintro e w3 ⟨x, t, p, rfl, hb3⟩
          have HB3 := Lib.hid (HB2.out.trans (hb3.mono HB2.out.size)); clear hb3
          go_wp2
          refine bodyPost_ret (v := (.tuple #[.slice none 0 0, .bool false])) (by simp [results, Tryz.results19, go_sem, *]) rfl ?_
          exact ⟨_, by rw [HX.out]; rfl, by rw [HX.out]; exact owCt_nil2 _ _, HB3.out⟩
        | some v =>
          have HRv : Hid (rdI ws[n] = some ⟨a, v⟩) := Lib.hid (by rw [HRd.out, hat]; rfl)
          have HFt : Hid ((ws.take (n + 1)).filterMap rdI = (ws.take n).filterMap rdI ++ [⟨a, v⟩]) := Lib.hid (by
            rw [List.take_succ_eq_append_getElem hlt, List.filterMap_append, List.filterMap_cons, HRv.out]; rfl)
          have HF2 : Hid (∀ j (h : j < ws.length), j < n + 1 → (rdI ws[j]).isSome = true) := Lib.hid (fun j h hj => by
            by_cases he : j = n
            · subst he; rw [HRv.out]; rfl
            · exact HF.out j h (by omega))
          have HN2 : Hid (∀ x ∈ (ws.take n).filterMap rdI ++ [⟨a, v⟩], x.nm.size ≤ 1048576) := Lib.hid (fun x hx => by
            rcases List.mem_append.1 hx with hx | hx
            · exact HNm.out x hx
            · rw [List.mem_singleton] at hx; subst hx; simp only; omega)
          have hll : ((ws.take n).filterMap rdI).length ≤ n := Nat.le_trans (List.length_filterMap_le _ _) (List.length_take_le _ _)
          have HAt := Lib.hid (fun w => atoi_some hat w (by omega))
          clear hat
          generalize (ws.take n).filterMap rdI = L at *
          go_wp2_with fail
          refine (HAt.out _).mono ?_
          rintro e w3 ⟨rfl, hb3⟩
          have HB3 := Lib.hid (HB2.out.trans (hb3.mono HB2.out.size))
          have HO3 := Lib.hid (HO2.out.below hb3)
          have HBn3 := Lib.hid (HBn2.out.trans (hb3.mono HBn2.out.size)); clear hb3
          have hO := HO3.out.1
          have hLl := HO3.out.2.1
          have hsz := HBn3.out.size
          have HOK : Hid (∀ x ∈ L ++ [(⟨a, v⟩ : Ct)], x.ok) := Lib.hid (fun x hx => by have := HN2.out x hx; unfold Ct.ok; omega)
          go_wp2_with (first | (at_builtin; go_loud (refine wpList_append_own _ rfl _ _ 24 rfl (w1.heap.size) 55 i0 (.agg #[.string ⟨#[]⟩, .int .i64 0]) 2 24 Tryz.underlying24 hi hz0 hz1 hz2 rfl (by decide) _ _ _ rfl (hO.alloc _) ⟨_, 0, none⟩ 1 1 [.string a, .int .i64 v] rfl rfl ?c1 ?c2 ?c3 ?c4 ?c5 ?_)))
          try (case c1 => first | exact cells_new _ #[.string a, .int .i64 v] _ | exact cells_at _ #[.string a, .int .i64 v] _ (by simp) | rfl)
          try (case c2 => first | rfl | exact ⟨rfl, rfl, rfl⟩ | exact ⟨rfl, rfl⟩ | (intro u hu; simp at hu; rcases hu with rfl | rfl | rfl | rfl <;> rfl) | (intro u hu; simp at hu; rcases hu with rfl | rfl | rfl <;> rfl) | (intro u hu; simp at hu; rcases hu with rfl | rfl <;> rfl) | (intro u hu; simp at hu; subst hu; rfl))
          try (case c3 => first | omega | (unfold maxLen; omega))
          try (case c4 => first | omega | ((try simp only [World.heap_size_alloc]); omega))
          try (case c5 => first | omega | (simp; omega))
          intro v' w2 hown' hgrow
          try intro _
          go_wp2
          go_roundw
          case rel => exact ⟨n + 1, by omega, by go_num, Lib.hid (by rw [HFt.out]; exact ⟨by simpa using hown', by simp; omega, HOK.out⟩), HF2, Lib.hid (by rw [HFt.out]; exact HN2.out), Lib.hid (Below.grown (Below.trans HBn3.out (by go_grown)) hgrow (by simp; omega) (fun j hj => (HO3.out.1.lt j hj).1))⟩
          case measure => simp [intOf]; omega
      · obtain rfl : n = ws.length := by omega
        rw [List.take_length] at HOn HNm
        have HEnd : Hid (pcI s = if ctB (ws.filterMap rdI) = true ∧ txN (ws.filterMap rdI) (ws.filterMap rdI).length = s then some (ws.filterMap rdI) else none) := Lib.hid (by
          rw [HPc.out]
          have hW := HWs.out
          subst hW
          exact pcR_end (fun j h => HF.out j h h))
        generalize ws.filterMap rdI = xs at *
        have HT := Lib.hid (fun w h => implText_any u4 xs w h HNm.out)
        cases hB : ctB xs
        · have HX : Hid (pcI s = none) := Lib.hid (by rw [HEnd.out, if_neg (by rw [hB]; exact fun h => Bool.false_ne_true h.1)])
          rw [hB] at HT
          go_wp2_with fail
          refine (HT.out _ HOn.out.rd (HPw.out.below HBw.out)).mono ?_
          rintro e w2 ⟨rfl, hb2⟩
          have HB2 := Lib.hid (HBw.out.trans (hb2.mono HBw.out.size)); clear hb2
          go_wp2
          refine bodyPost_ret (v := (.tuple #[.slice none 0 0, .bool false])) (by simp [results, Tryz.results19, go_sem, *]) rfl ?_
          exact ⟨_, by rw [HX.out]; rfl, by rw [HX.out]; exact owCt_nil2 _ _, HB2.out⟩
        · have hV : ctxV xs = txN xs xs.length := by rw [ctxV, if_pos hB]
          rw [hB, hV] at HT
          cases hc : ((txN xs xs.length).toList == s.toList)
          · have HX : Hid (pcI s = none) := Lib.hid (by
              rw [HEnd.out, if_neg]
              rintro ⟨_, e⟩
              rw [e] at hc
              simp at hc)
            go_wp2_with fail
            refine (HT.out _ HOn.out.rd (HPw.out.below HBw.out)).mono ?_
            rintro e w2 ⟨rfl, hb2⟩
            have HB2 := Lib.hid (HBw.out.trans (hb2.mono HBw.out.size)); clear hb2
            go_wp2
            refine bodyPost_ret (v := (.tuple #[.slice none 0 0, .bool false])) (by simp [results, Tryz.results19, go_sem, *]) rfl ?_
            exact ⟨_, by rw [HX.out]; rfl, by rw [HX.out]; exact owCt_nil2 _ _, HB2.out⟩
          · have HX : Hid (pcI s = some xs) := Lib.hid (by
              rw [HEnd.out, if_pos]
              refine ⟨hB, ByteArray.ext (Array.toList_inj.1 ?_)⟩
              have := beq_iff_eq.1 hc
              rwa [ByteArray.toList_eq, ByteArray.toList_eq] at this)
            go_wp2_with fail
            refine (HT.out _ HOn.out.rd (HPw.out.below HBw.out)).mono ?_
            rintro e w2 ⟨rfl, hb2⟩
            have HB2 := Lib.hid (HBw.out.trans (hb2.mono HBw.out.size))
            have HO2 := Lib.hid (HOn.out.below hb2); clear hb2
            go_wp2
            refine bodyPost_ret (v := (.tuple #[u4, .bool true])) (by simp [results, Tryz.results19, go_sem, *]) rfl ?_
            exact ⟨_, by rw [HX.out]; rfl, by rw [HX.out]; exact ⟨own_base HO2.out.1 HB.out.size, HO2.out.2⟩, HB2.out⟩
end Go.Proofs.YtmochhgmhhopoaaGreatDoor
