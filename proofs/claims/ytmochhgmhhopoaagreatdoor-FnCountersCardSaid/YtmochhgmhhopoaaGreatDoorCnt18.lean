/- A list of counters read from its text by the reference's ParseCounters, for every text of at most 2^20 bytes. -/
import Derived.Test.YtmochhgmhhopoaaGreatDoorCnt17
import Derived.Test.YtmochhgmhhopoaaGreatDoorCnt7
namespace Go.Proofs.YtmochhgmhhopoaaGreatDoor
open Go.RowKit

theorem pcI_ref (s : ByteArray) : pcI s = if s.size = 0 then some [] else if 360 < s.size then none else pcR rdS s := by
  unfold pcI
  split
  · rfl
  · split
    · exact pcR_long (fun x h => rdI_one h) (by assumption)
    · exact (pcR_same (by assumption)).symm
theorem rdS_two {x a b : ByteArray} (h : [a, b].map (·.data.toList) = spl 61 x.data.toList) : rdS x = (valS b).map fun v => ⟨a, v⟩ := by
  rw [rdS, ← h]
  simp only [List.map_cons, List.map_nil, ba_mk]
theorem rdS_not {x : ByteArray} {ps : List ByteArray} (h : ps.map (·.data.toList) = spl 61 x.data.toList) (hn : ps.length ≠ 2) : rdS x = none := by
  rw [rdS, ← h]
  match ps, hn with
  | [], _ => rfl
  | [_], _ => rfl
  | [_, _], hn => exact absurd rfl hn
  | _ :: _ :: _ :: _, _ => rfl
theorem m7L : m7T.toList = [49, 48, 48, 48, 48, 48, 48] := by rw [ByteArray.toList_eq]; rfl
theorem below_dn {B : Nat} {a w : World} (h : Below B a w) (n : Nat) : Below B a (w.drewN n) := ⟨h.os, h.tape, h.output, h.size, h.block⟩
/-- two own slices of different cells lie in different blocks -/
theorem own_types {w : World} {B B' n n' cap cap' g g' sz sz' : Nat} {e e' : TypeId} {cs cs' : List Value} (h : w.ownsRow B e sz (.slice (some ⟨g, 0, none⟩) n cap) n cs) (h' : w.ownsRow B' e' sz' (.slice (some ⟨g', 0, none⟩) n' cap') n' cs') (hne : e ≠ e') : g ≠ g' := by
  rintro rfl
  obtain ⟨_, h1, _⟩ := own_open h
  obtain ⟨_, h2, _⟩ := own_open h'
  rw [h1] at h2
  cases h2
  exact hne rfl
theorem own_other {w w' : World} {B n cap g sz : Nat} {e : TypeId} {cs : List Value} {j : Option Nat} (h : w.ownsRow B e sz (.slice (some ⟨g, 0, none⟩) n cap) n cs) (hg : w.grownBy w' j) (hj : j ≠ some g) : w'.ownsRow B e sz (.slice (some ⟨g, 0, none⟩) n cap) n cs := by
  obtain ⟨cur, h1, h2, h3, h4, h5, h6⟩ := own_open h
  exact own_close (by rw [hg.block g (Array.getElem?_eq_some_iff.1 h1).1 (fun e => hj e.symm)]; exact h1) h2 h3 h4 h5 h6 h.1
theorem owCt_lit (B : Nat) (w : World) (h : B ≤ w.heap.size) : OwCt B (w.alloc (.cells #[] 55)) (.slice (some ⟨w.heap.size, 0, none⟩) 0 0) [] := ⟨World.ownsRow_lit w #[] 0 h (Nat.zero_le _) rfl, by simp, by simp⟩
set_option maxRecDepth 100000 in
set_option maxHeartbeats 4000000 in
theorem specParse_any (s : ByteArray) (w : World) (hs : s.size ≤ 1048576) :
    Calls Tryz.prog 21 #[.string s] w fun e w' => ∃ u, e = .returned (.tuple #[u, .bool (pcI s).isSome]) ∧ OwCt w.heap.size w' u ((pcI s).getD []) ∧ Below w.heap.size w w' := by
  have HL0 := Lib.hid (owCt_lit w.heap.size w (Nat.le_refl _))
  by_cases h0 : s.size = 0
  · obtain rfl : s = ⟨#[]⟩ := ByteArray.ext (Array.eq_empty_of_size_eq_zero h0)
    go_enter Tryz.func21, Tryz.ntmps21
    go_wp2
    refine bodyPost_ret (v := (.tuple #[.slice (some ⟨w.heap.size, 0, none⟩) 0 0, .bool true])) (by simp [results, Tryz.results21, go_sem, *]) rfl ?_
    exact ⟨_, rfl, HL0.out, below_alloc1 _ _⟩
  · have hne : s.toList.isEmpty = false := by
      rw [ByteArray.toList_eq, List.isEmpty_eq_false_iff]
      intro e
      have h1 : s.data.toList.length = s.size := Array.length_toList
      rw [e] at h1
      exact h0 h1.symm
    have HB0 := Lib.hid (below_alloc1 w (.cells #[] 55))
    by_cases h360 : 360 < s.size
    · have HX : Hid (pcI s = none) := Lib.hid (by rw [pcI_ref, if_neg h0, if_pos h360])
      go_enter Tryz.func21, Tryz.ntmps21
      go_wp2
      refine bodyPost_ret (v := (.tuple #[.slice (some ⟨w.heap.size, 0, none⟩) 0 0, .bool false])) (by simp [results, Tryz.results21, go_sem, *]) rfl ?_
      exact ⟨_, by rw [HX.out]; rfl, by rw [HX.out]; exact HL0.out, HB0.out⟩
    · have HPc : Hid (pcI s = pcR rdS s) := Lib.hid (by rw [pcI_ref, if_neg h0, if_neg h360])
      obtain ⟨i0, hi, hz0, hz1, hz2⟩ := info_parts infoCt
      have HSp := Lib.hid (fun w => l1Split_any s 32 w hs)
      go_enter Tryz.func21, Tryz.ntmps21
      go_wp2_with fail
      refine (HSp.out _).mono ?_
      rintro e w1 ⟨v, ws, rfl, hws, hO, hb⟩
      have hok := parts_ok hws hs
      have hW := words_eq hws
      have HSz := Lib.hid hok.2.2
      have hw0 : 0 < ws.length := by
        obtain ⟨p0, ps0, hp0⟩ := spl_ne 32 s.data.toList
        have := congrArg List.length hws
        rw [hp0, List.length_map, List.length_cons] at this
        omega
      have hwl := hok.1
      have HLo := Lib.hid ((HL0.out.below hb))
      obtain ⟨p, cap, g, rfl, hcap, hq⟩ := own_shape hO.1
      obtain ⟨rfl, _⟩ := hq hw0
      have HO := Lib.hid hO; clear hO hq
      have HB := Lib.hid (HB0.out.trans (hb.mono HB0.out.size)); clear hb
      have HWs := Lib.hid hW; clear hW hws hok hne
      go_wp2
      go_loopw [4, 6, 7, 8, 9] (fun u i _ _ _ wr => ∃ (n g2 cap2 : Nat), n ≤ ws.length ∧ i = .int .i64 n ∧ u = .slice (some ⟨g2, 0, none⟩) ((ws.take n).filterMap rdS).length cap2 ∧ Hid (OwCt w.heap.size wr u ((ws.take n).filterMap rdS)) ∧ Hid (∀ j (h : j < ws.length), j < n → (rdS ws[j]).isSome = true) ∧ Hid (∀ x ∈ (ws.take n).filterMap rdS, x.nm.size ≤ 1048576) ∧ Hid (OwS (w.heap.size + 1) wr (.slice (some ⟨g, 0, none⟩) ws.length cap) ws) ∧ Hid (Below w.heap.size w wr)) (fun _ i _ _ _ _ => ws.length - (intOf i).toNat)
      case atStart => exact ⟨0, w.heap.size, 0, Nat.zero_le _, rfl, rfl, HLo, Lib.hid fun j _ h => absurd h (by omega), Lib.hid (by simp), Lib.hid (by simpa using HO.out), HB⟩
      case round =>
        obtain ⟨n, g2, cap2, hn, rfl, rfl, HOn, HF, HNm, HWo, HBw⟩ := hrel
        by_cases hlt : n < ws.length
        · have c0 : wr.cell? ⟨g, n, none⟩ = some (.string ws[n]) := by rw [HWo.out.1.cellAt n (by omega), List.getElem?_map, List.getElem?_eq_getElem hlt]; rfl
          have hx := HSz.out ws[n] (List.getElem_mem hlt)
          have HSq := Lib.hid (fun w => l1Split_any ws[n] 61 w (by omega))
          go_wp2_with fail
          refine (HSq.out _).mono ?_
          rintro e w2 ⟨v2, ps, rfl, hps, hO2, hb2⟩
          have hok2 := parts_ok hps (by omega : ws[n].size ≤ 1048576)
          have hpl := hok2.1
          have HPs := Lib.hid hok2.2.2
          obtain ⟨p2, cap3, g3, rfl, hcap3, hq3⟩ := own_shape hO2.1
          have HQ3 := Lib.hid hq3; clear hq3 hok2
          have HB2 := Lib.hid (HBw.out.trans (hb2.mono HBw.out.size))
          have HOu := Lib.hid (HOn.out.below hb2)
          have HWo2 := Lib.hid (HWo.out.below hb2); clear hb2
          have HO2 := Lib.hid hO2.1; clear hO2
          by_cases hp2 : ps.length = 2
          · skip
            obtain ⟨a, b, rfl⟩ : ∃ a b, ps = [a, b] := by
              match ps, hp2 with
              | [a, b], _ => exact ⟨a, b, rfl⟩
            have HRd := Lib.hid (rdS_two hps); clear hps
            obtain ⟨rfl, hg3⟩ := HQ3.out (by simp)
            have ca : w2.cell? ⟨g3, 0, none⟩ = some (.string a) := by rw [HO2.out.cellAt 0 (by simp)]; rfl
            have cb : w2.cell? ⟨g3, 1, none⟩ = some (.string b) := by rw [HO2.out.cellAt 1 (by simp)]; rfl
            have ha := HPs.out a (by simp)
            have hb := HPs.out b (by simp)
            simp only [List.length_cons, List.length_nil] at hcap3
            have HMv : Hid (valS b = if (b.toList == m7T.toList) = true then some 1000000 else readO b) := Lib.hid rfl
            cases hm : (b.toList == m7T.toList)
            · have HV0 : Hid (valS b = readO b) := Lib.hid (by rw [HMv.out, hm, if_neg Bool.false_ne_true])
              have hm2 : (b.toList == [49, 48, 48, 48, 48, 48, 48]) = false := by rw [← m7L]; exact hm
              have HRe := Lib.hid (fun w => read_any b w (by omega))
              clear hm HMv
              cases hr : readO b with
              | none =>
                have HX : Hid (pcI s = none) := Lib.hid (by
                  rw [HPc.out]
                  have hW := HWs.out
                  subst hW
                  exact pcR_bad n hlt (by rw [HRd.out, HV0.out, hr]; rfl))
                rw [hr] at HRe
                rw [show rdEnd none = .returned (.tuple #[.int .i64 0, .bool false]) from rfl] at HRe
                go_wp2_with fail
                go_quiet (fail)
                have ca := cell_on (below_dn (Below.refl _ _) nq) ca
                have cb := cell_on (below_dn (Below.refl _ _) nq) cb
                have HBq := Lib.hid (below_dn HB2.out nq)
                have HOq := Lib.hid (HOu.out.below (below_dn (Below.refl _ _) nq))
                have HWq := Lib.hid (HWo2.out.below (below_dn (Below.refl _ _) nq))
                generalize w2.drewN nq = wq at *
                go_wp2_with fail
                refine (HRe.out _).mono ?_
                rintro e w3 ⟨rfl, hb3⟩
                have ca := cell_on hb3 ca
                have cb := cell_on hb3 cb
                have HB3 := Lib.hid (HBq.out.trans (hb3.mono HBq.out.size))
                have HO3 := Lib.hid (HOq.out.below hb3)
                have HW3 := Lib.hid (HWq.out.below hb3); clear hb3
                go_wp2
                refine bodyPost_ret (v := (.tuple #[.slice (some ⟨w3.heap.size, 0, none⟩) 0 0, .bool false])) (by simp [results, Tryz.results21, go_sem, *]) rfl ?_
                exact ⟨_, by rw [HX.out]; rfl, by rw [HX.out]; exact owCt_lit _ _ HB3.out.size, HB3.out.trans ((below_alloc1 _ _).mono HB3.out.size)⟩
              | some v =>
                have HVal : Hid (valS b = some v) := Lib.hid (by rw [HV0.out, hr])
                rw [hr, show rdEnd (some v) = .returned (.tuple #[.int .i64 v, .bool true]) from rfl] at HRe
                clear hr HV0
                go_wp2_with fail
                go_quiet (fail)
                have ca := cell_on (below_dn (Below.refl _ _) nq) ca
                have cb := cell_on (below_dn (Below.refl _ _) nq) cb
                have HBq := Lib.hid (below_dn HB2.out nq)
                have HOq := Lib.hid (HOu.out.below (below_dn (Below.refl _ _) nq))
                have HWq := Lib.hid (HWo2.out.below (below_dn (Below.refl _ _) nq))
                generalize w2.drewN nq = wq at *
                go_wp2_with fail
                refine (HRe.out _).mono ?_
                rintro e w3 ⟨rfl, hb3⟩
                have ca := cell_on hb3 ca
                have cb := cell_on hb3 cb
                have HB3 := Lib.hid (HBq.out.trans (hb3.mono HBq.out.size))
                have HO3 := Lib.hid (HOq.out.below hb3)
                have HW3 := Lib.hid (HWq.out.below hb3); clear hb3
                have HRv : Hid (rdS ws[n] = some ⟨a, v⟩) := Lib.hid (by rw [HRd.out, HVal.out]; rfl)
                have HFt : Hid ((ws.take (n + 1)).filterMap rdS = (ws.take n).filterMap rdS ++ [⟨a, v⟩]) := Lib.hid (by
                  rw [List.take_succ_eq_append_getElem hlt, List.filterMap_append, List.filterMap_cons, HRv.out]; rfl)
                have HF2 : Hid (∀ j (h : j < ws.length), j < n + 1 → (rdS ws[j]).isSome = true) := Lib.hid (fun j h hj => by
                  by_cases he : j = n
                  · subst he; rw [HRv.out]; rfl
                  · exact HF.out j h (by omega))
                have HN2 : Hid (∀ x ∈ (ws.take n).filterMap rdS ++ [⟨a, v⟩], x.nm.size ≤ 1048576) := Lib.hid (fun x hx => by
                  rcases List.mem_append.1 hx with hx | hx
                  · exact HNm.out x hx
                  · rw [List.mem_singleton] at hx; subst hx; simp only; omega)
                have hll : ((ws.take n).filterMap rdS).length ≤ n := Nat.le_trans (List.length_filterMap_le _ _) (List.length_take_le _ _)
                have HOK : Hid (∀ x ∈ (ws.take n).filterMap rdS ++ [(⟨a, v⟩ : Ct)], x.ok) := Lib.hid (fun x hx => by have := HN2.out x hx; unfold Ct.ok; omega)
                have hty : (55 : Nat) ≠ 9 := by decide
                generalize (ws.take n).filterMap rdS = L at *
                have hO := HO3.out.1
                have hLl := HO3.out.2.1
                have hsz := HB3.out.size
                go_wp2_with (first | (at_builtin; go_loud (refine wpList_append_own _ rfl _ _ 24 rfl (w.heap.size) 55 i0 (.agg #[.string ⟨#[]⟩, .int .i64 0]) 2 24 Tryz.underlying24 hi hz0 hz1 hz2 rfl (by decide) _ _ _ rfl (hO.alloc _) ⟨_, 0, none⟩ 1 1 [.string a, .int .i64 v] rfl rfl ?c1B ?c2B ?c3B ?c4B ?c5B ?_)))
                try (case c1B => first | exact cells_new _ #[.string a, .int .i64 v] _ | exact cells_at _ #[.string a, .int .i64 v] _ (by simp) | rfl)
                try (case c2B => first | rfl | exact ⟨rfl, rfl, rfl⟩ | exact ⟨rfl, rfl⟩ | (intro u hu; simp at hu; rcases hu with rfl | rfl | rfl | rfl <;> rfl) | (intro u hu; simp at hu; rcases hu with rfl | rfl | rfl <;> rfl) | (intro u hu; simp at hu; rcases hu with rfl | rfl <;> rfl) | (intro u hu; simp at hu; subst hu; rfl))
                try (case c3B => first | omega | (unfold maxLen; omega))
                try (case c4B => first | omega | ((try simp only [World.heap_size_alloc]); omega))
                try (case c5B => first | omega | (simp; omega))
                intro v' w2 hown' hgrow
                try intro _
                have HWo4 := Lib.hid (own_other (HW3.out.1.alloc _) hgrow (fun e => own_types hO HW3.out.1 hty (Option.some.inj e)))
                have HB4 : Hid (Below w.heap.size w w2) := Lib.hid (Below.grown (Below.trans HB3.out (by go_grown)) hgrow (by simp; omega) (fun j hj => (hO.lt j hj).1))
                have HOw4 : Hid (w2.ownsRow w.heap.size 55 2 v' (L ++ [(⟨a, v⟩ : Ct)]).length ((L ++ [(⟨a, v⟩ : Ct)]).flatMap Ct.cells)) := Lib.hid (by simpa using hown')
                obtain ⟨p4, cap4, g4, rfl, _, hq4⟩ := own_shape HOw4.out
                obtain ⟨rfl, _⟩ := hq4 (by simp)
                clear hq4 hown' hgrow
                go_wp2
                go_roundw
                case rel => exact ⟨n + 1, g4, cap4, by omega, by go_num, by rw [HFt.out], Lib.hid (by rw [HFt.out]; exact ⟨HOw4.out, by simp; omega, HOK.out⟩), HF2, Lib.hid (by rw [HFt.out]; exact HN2.out), Lib.hid ⟨HWo4.out, HW3.out.2⟩, HB4⟩
                case measure => simp [intOf]; omega
            · have HVal : Hid (valS b = some 1000000) := Lib.hid (by rw [HMv.out, hm, if_pos rfl])
              have hm2 : (b.toList == [49, 48, 48, 48, 48, 48, 48]) = true := by rw [← m7L]; exact hm
              clear hm HMv
              go_wp2_with fail
              go_quiet (fail)
              have ca := cell_on (below_dn (Below.refl _ _) nq) ca
              have cb := cell_on (below_dn (Below.refl _ _) nq) cb
              have HBq := Lib.hid (below_dn HB2.out nq)
              have HOq := Lib.hid (HOu.out.below (below_dn (Below.refl _ _) nq))
              have HWq := Lib.hid (HWo2.out.below (below_dn (Below.refl _ _) nq))
              generalize w2.drewN nq = wq at *
              have HRv : Hid (rdS ws[n] = some ⟨a, 1000000⟩) := Lib.hid (by rw [HRd.out, HVal.out]; rfl)
              have HFt : Hid ((ws.take (n + 1)).filterMap rdS = (ws.take n).filterMap rdS ++ [⟨a, 1000000⟩]) := Lib.hid (by
                rw [List.take_succ_eq_append_getElem hlt, List.filterMap_append, List.filterMap_cons, HRv.out]; rfl)
              have HF2 : Hid (∀ j (h : j < ws.length), j < n + 1 → (rdS ws[j]).isSome = true) := Lib.hid (fun j h hj => by
                by_cases he : j = n
                · subst he; rw [HRv.out]; rfl
                · exact HF.out j h (by omega))
              have HN2 : Hid (∀ x ∈ (ws.take n).filterMap rdS ++ [⟨a, 1000000⟩], x.nm.size ≤ 1048576) := Lib.hid (fun x hx => by
                rcases List.mem_append.1 hx with hx | hx
                · exact HNm.out x hx
                · rw [List.mem_singleton] at hx; subst hx; simp only; omega)
              have hll : ((ws.take n).filterMap rdS).length ≤ n := Nat.le_trans (List.length_filterMap_le _ _) (List.length_take_le _ _)
              have HOK : Hid (∀ x ∈ (ws.take n).filterMap rdS ++ [(⟨a, 1000000⟩ : Ct)], x.ok) := Lib.hid (fun x hx => by have := HN2.out x hx; unfold Ct.ok; omega)
              have hty : (55 : Nat) ≠ 9 := by decide
              generalize (ws.take n).filterMap rdS = L at *
              have hO := HOq.out.1
              have hLl := HOq.out.2.1
              have hsz := HBq.out.size
              go_wp2_with (first | (at_builtin; go_loud (refine wpList_append_own _ rfl _ _ 24 rfl (w.heap.size) 55 i0 (.agg #[.string ⟨#[]⟩, .int .i64 0]) 2 24 Tryz.underlying24 hi hz0 hz1 hz2 rfl (by decide) _ _ _ rfl (hO.alloc _) ⟨_, 0, none⟩ 1 1 [.string a, .int .i64 1000000] rfl rfl ?c1A ?c2A ?c3A ?c4A ?c5A ?_)))
              try (case c1A => first | exact cells_new _ #[.string a, .int .i64 1000000] _ | exact cells_at _ #[.string a, .int .i64 1000000] _ (by simp) | rfl)
              try (case c2A => first | rfl | exact ⟨rfl, rfl, rfl⟩ | exact ⟨rfl, rfl⟩ | (intro u hu; simp at hu; rcases hu with rfl | rfl | rfl | rfl <;> rfl) | (intro u hu; simp at hu; rcases hu with rfl | rfl | rfl <;> rfl) | (intro u hu; simp at hu; rcases hu with rfl | rfl <;> rfl) | (intro u hu; simp at hu; subst hu; rfl))
              try (case c3A => first | omega | (unfold maxLen; omega))
              try (case c4A => first | omega | ((try simp only [World.heap_size_alloc]); omega))
              try (case c5A => first | omega | (simp; omega))
              intro v' w2 hown' hgrow
              try intro _
              have HWo4 := Lib.hid (own_other (HWq.out.1.alloc _) hgrow (fun e => own_types hO HWq.out.1 hty (Option.some.inj e)))
              have HB4 : Hid (Below w.heap.size w w2) := Lib.hid (Below.grown (Below.trans HBq.out (by go_grown)) hgrow (by simp; omega) (fun j hj => (hO.lt j hj).1))
              have HOw4 : Hid (w2.ownsRow w.heap.size 55 2 v' (L ++ [(⟨a, 1000000⟩ : Ct)]).length ((L ++ [(⟨a, 1000000⟩ : Ct)]).flatMap Ct.cells)) := Lib.hid (by simpa using hown')
              obtain ⟨p4, cap4, g4, rfl, _, hq4⟩ := own_shape HOw4.out
              obtain ⟨rfl, _⟩ := hq4 (by simp)
              clear hq4 hown' hgrow
              go_wp2
              go_roundw
              case rel => exact ⟨n + 1, g4, cap4, by omega, by go_num, by rw [HFt.out], Lib.hid (by rw [HFt.out]; exact ⟨HOw4.out, by simp; omega, HOK.out⟩), HF2, Lib.hid (by rw [HFt.out]; exact HN2.out), Lib.hid ⟨HWo4.out, HWq.out.2⟩, HB4⟩
              case measure => simp [intOf]; omega
          · have HX : Hid (pcI s = none) := Lib.hid (by
              rw [HPc.out]
              have hW := HWs.out
              subst hW
              exact pcR_bad n hlt (rdS_not hps hp2))
            have hp2i : ((ps.length : Int) == 2) = false := by rw [beq_eq_false_iff_ne]; omega
            go_wp2
            refine bodyPost_ret (v := (.tuple #[.slice (some ⟨w2.heap.size, 0, none⟩) 0 0, .bool false])) (by simp [results, Tryz.results21, go_sem, *]) rfl ?_
            exact ⟨_, by rw [HX.out]; rfl, by rw [HX.out]; exact owCt_lit _ _ HB2.out.size, HB2.out.trans ((below_alloc1 _ _).mono HB2.out.size)⟩
        · obtain rfl : n = ws.length := by omega
          rw [List.take_length] at HOn HNm ⊢
          have HEnd : Hid (pcI s = if ctB (ws.filterMap rdS) = true ∧ txN (ws.filterMap rdS) (ws.filterMap rdS).length = s then some (ws.filterMap rdS) else none) := Lib.hid (by
            rw [HPc.out]
            have hW := HWs.out
            subst hW
            exact pcR_end (fun j h => HF.out j h h))
          generalize ws.filterMap rdS = xs at *
          have HG := Lib.hid (fun w h => l18Good_any (.slice (some ⟨g2, 0, none⟩) xs.length cap2) xs w h HNm.out)
          cases hB : ctB xs
          · have HX : Hid (pcI s = none) := Lib.hid (by rw [HEnd.out, if_neg (by rw [hB]; exact fun h => Bool.false_ne_true h.1)])
            rw [hB] at HG
            go_wp2_with fail
            refine (HG.out _ HOn.out.rd).mono ?_
            rintro e w2 ⟨rfl, hb2⟩
            have HB2 := Lib.hid (HBw.out.trans (hb2.mono HBw.out.size))
            have HO2 := Lib.hid (HOn.out.below hb2); clear hb2
            go_wp2
            refine bodyPost_ret (v := (.tuple #[.slice (some ⟨w2.heap.size, 0, none⟩) 0 0, .bool false])) (by simp [results, Tryz.results21, go_sem, *]) rfl ?_
            exact ⟨_, by rw [HX.out]; rfl, by rw [HX.out]; exact owCt_lit _ _ HB2.out.size, HB2.out.trans ((below_alloc1 _ _).mono HB2.out.size)⟩
          · have HT := Lib.hid (fun w h => l18Text_any (.slice (some ⟨g2, 0, none⟩) xs.length cap2) xs w h hB)
            rw [hB] at HG
            cases hc : ((txN xs xs.length).toList == s.toList)
            · have HX : Hid (pcI s = none) := Lib.hid (by
                rw [HEnd.out, if_neg]
                rintro ⟨_, e⟩
                rw [e] at hc
                simp at hc)
              go_wp2_with fail
              refine (HG.out _ HOn.out.rd).mono ?_
              rintro e w2 ⟨rfl, hb2⟩
              have HB2 := Lib.hid (HBw.out.trans (hb2.mono HBw.out.size))
              have HO2 := Lib.hid (HOn.out.below hb2); clear hb2
              go_wp2_with fail
              refine (HT.out _ HO2.out.rd).mono ?_
              rintro e w3 ⟨rfl, hb3⟩
              have HB3 := Lib.hid (HB2.out.trans (hb3.mono HB2.out.size))
              have HO3 := Lib.hid (HO2.out.below hb3); clear hb3
              go_wp2
              refine bodyPost_ret (v := (.tuple #[.slice (some ⟨w3.heap.size, 0, none⟩) 0 0, .bool false])) (by simp [results, Tryz.results21, go_sem, *]) rfl ?_
              exact ⟨_, by rw [HX.out]; rfl, by rw [HX.out]; exact owCt_lit _ _ HB3.out.size, HB3.out.trans ((below_alloc1 _ _).mono HB3.out.size)⟩
            · have HX : Hid (pcI s = some xs) := Lib.hid (by
                rw [HEnd.out, if_pos]
                refine ⟨hB, ByteArray.ext (Array.toList_inj.1 ?_)⟩
                have := beq_iff_eq.1 hc
                rwa [ByteArray.toList_eq, ByteArray.toList_eq] at this)
              go_wp2_with fail
              refine (HG.out _ HOn.out.rd).mono ?_
              rintro e w2 ⟨rfl, hb2⟩
              have HB2 := Lib.hid (HBw.out.trans (hb2.mono HBw.out.size))
              have HO2 := Lib.hid (HOn.out.below hb2); clear hb2
              go_wp2_with fail
              refine (HT.out _ HO2.out.rd).mono ?_
              rintro e w3 ⟨rfl, hb3⟩
              have HB3 := Lib.hid (HB2.out.trans (hb3.mono HB2.out.size))
              have HO3 := Lib.hid (HO2.out.below hb3); clear hb3
              go_wp2
              refine bodyPost_ret (v := (.tuple #[.slice (some ⟨g2, 0, none⟩) xs.length cap2, .bool true])) (by simp [results, Tryz.results21, go_sem, *]) rfl ?_
              exact ⟨_, by rw [HX.out]; rfl, by rw [HX.out]; exact HO3.out, HB3.out⟩
end Go.Proofs.YtmochhgmhhopoaaGreatDoor
