/- A script read from its text by the reference's ParseScript, for every text of at most 2^20 bytes. -/
import Derived.Test.YtgmccafmopgjaaaGreatDoorLnMath
import Derived.Test.YtgmccafmopgjaaaGreatDoorScr11
namespace Go.Proofs.YtgmccafmopgjaaaGreatDoor
open Go.RowKit

theorem below_ds {B : Nat} {a w : World} (h : Below B a w) (n : Nat) : Below B a (w.drewN n) := ⟨h.os, h.tape, h.output, h.size, h.block⟩
theorem own_blk {w : World} {B n cap g sz : Nat} {e : TypeId} {cs : List Value} (h : w.ownsRow B e sz (.slice (some ⟨g, 0, none⟩) n cap) n cs) : ∃ cur, w.heap[g]? = some (.cells cur e (0, 0)) := by
  rcases h.2 with ⟨h0, _⟩ | ⟨g0, cap0, cur, e0, _, hgb, _⟩
  · cases h0
  · cases e0; exact ⟨cur, hgb⟩
theorem own_typ {w : World} {B B' n n' cap cap' g g' sz sz' : Nat} {e e' : TypeId} {cs cs' : List Value} (h : w.ownsRow B e sz (.slice (some ⟨g, 0, none⟩) n cap) n cs) (h' : w.ownsRow B' e' sz' (.slice (some ⟨g', 0, none⟩) n' cap') n' cs') (hne : e ≠ e') : g ≠ g' := by
  rintro rfl
  obtain ⟨_, h1⟩ := own_blk h
  obtain ⟨_, h2⟩ := own_blk h'
  rw [h1] at h2
  cases h2
  exact hne rfl
theorem own_oth {w w' : World} {B n cap g sz : Nat} {e : TypeId} {cs : List Value} {j : Option Nat} (h : w.ownsRow B e sz (.slice (some ⟨g, 0, none⟩) n cap) n cs) (hg : w.grownBy w' j) (hj : j ≠ some g) : w'.ownsRow B e sz (.slice (some ⟨g, 0, none⟩) n cap) n cs :=
  h.kept hg (.inr (fun e' => hj e'.symm))
theorem step_ok {y : St} (h : stB y = true) : y.ok := by
  obtain ⟨a, n, d⟩ := y
  unfold St.ok
  rcases stIs_cases (⟨h, rfl, rfl⟩ : StIs a _ ⟨a, n, d⟩) with ⟨_, e, _⟩ | ⟨_, d', h8, _, _, e, _⟩ | ⟨_, e, _⟩ | ⟨_, n', _, _, e, _⟩ <;> cases e
  · exact Nat.zero_le _
  · exact Nat.le_trans h8 (by decide)
  · exact Nat.zero_le _
  · exact Nat.zero_le _
theorem owSt_lit (B : Nat) (w : World) (h : B ≤ w.heap.size) : OwSt B (w.alloc (.cells #[] 25)) (.slice (some ⟨w.heap.size, 0, none⟩) 0 0) [] := ⟨World.ownsRow_lit w #[] 0 h (Nat.zero_le _) rfl, by simp, by simp⟩
def PsR (s : ByteArray) (w : World) (e : Ending) (w' : World) : Prop := ∃ u o, e = .returned (.tuple #[u, .bool o.isSome]) ∧ ScIs s o ∧ OwSt w.heap.size w' u (o.getD []) ∧ Below w.heap.size w w'
set_option maxRecDepth 100000 in
set_option maxHeartbeats 4000000 in
theorem specParseScript_any (s : ByteArray) (w : World) (hs : s.size ≤ 1048576) :
    Calls Tryz.prog 19 #[.string s] w (PsR s w) := by
  have HL0 := Lib.hid (owSt_lit w.heap.size w (Nat.le_refl _))
  have HB0 := Lib.hid (below_alloc1 w (.cells #[] 25))
  obtain ⟨i0, hi, hz0, hz1, hz2⟩ := info_parts infoSt
  have HSp := Lib.hid (fun w => l1Split_any s 10 w hs)
  go_enter Tryz.func19, Tryz.ntmps19
  go_wp2_with fail
  refine (HSp.out _).mono ?_
  rintro e w1 ⟨v, ws, rfl, hws, hO, hb⟩
  have hok := parts_ok hws hs
  have HSz := Lib.hid (fun x hx => Nat.le_trans (hok.2.2 x hx) hs)
  have hwl := hok.1
  have HWs := Lib.hid hws
  obtain ⟨k, hk⟩ : ∃ k, ws.length = k + 1 := by
    obtain ⟨p0, ps0, hp0⟩ := spl_ne 10 s.data.toList
    have := congrArg List.length hws
    rw [hp0, List.length_map, List.length_cons] at this
    exact ⟨_, this⟩
  have HLo := Lib.hid (HL0.out.below hb)
  obtain ⟨p, cap, g, rfl, hcap, hq⟩ := own_shape hO.1
  obtain ⟨rfl, _⟩ := hq (by omega)
  have HO := Lib.hid hO; clear hO hq
  have HB := Lib.hid (HB0.out.trans (hb.mono HB0.out.size)); clear hb hok hws HL0 HB0
  by_cases h450 : 450 < s.size
  · have HX := Lib.hid (parts_long h450)
    have h450' : decide ((450 : Int) < (s.size : Int)) = true := decide_eq_true (by omega)
    go_wp2
    refine bodyPost_ret (v := (.tuple #[.slice (some ⟨w.heap.size, 0, none⟩) 0 0, .bool false])) (by simp [results, Tryz.results19, go_sem, *]) rfl ?_
    exact ⟨_, none, rfl, HX.out, HLo.out, HB.out⟩
  have h450' : decide ((450 : Int) < (s.size : Int)) = false := decide_eq_false (by omega)
  have hlast : k < ws.length := by omega
  have cl : w1.cell? ⟨g, k, none⟩ = some (.string ws[k]) := by rw [HO.out.1.cellAt k (by simp; omega), List.getElem?_map, List.getElem?_eq_getElem hlast]; rfl
  rw [hk]
  have HSn : Hid (spl 10 s.data.toList = (ws.take k).map (·.data.toList) ++ [ws[k].data.toList]) := Lib.hid (by
    rw [← HWs.out]
    conv => lhs; rw [show ws = ws.take k ++ [ws[k]] from by rw [← List.take_succ_eq_append_getElem hlast, List.take_of_length_le (by omega)]]
    rw [List.map_append]; rfl)
  have w1e : IntKind.i64.wrap ((k : Int) + 1 - 1) = (k : Int) := by rw [IntKind.wrap_i64]; omega
  cases hl : ws[k].toList.isEmpty
  · have HX := Lib.hid (parts_last HSn.out (by
      intro e
      rw [ByteArray.toList_eq, e] at hl; cases hl))
    generalize ws[k] = lst at *
    go_wp2
    refine bodyPost_ret (v := (.tuple #[.slice (some ⟨w.heap.size, 0, none⟩) 0 0, .bool false])) (by simp [results, Tryz.results19, go_sem, *]) rfl ?_
    exact ⟨_, none, rfl, HX.out, HLo.out, HB.out⟩
  · have HLn : Hid (spl 10 s.data.toList = (ws.take k).map (·.data.toList) ++ [[]]) := Lib.hid (by
      rw [HSn.out]
      have : ws[k].data.toList = [] := by rw [ByteArray.toList_eq, List.isEmpty_iff] at hl; exact hl
      rw [this])
    clear HSn
    generalize ws[k] = lst at *
    go_wp2
    have HOw : Hid (OwS (w.heap.size + 1) w1 (.slice (some ⟨g, 0, none⟩) ws.length cap) ws) := Lib.hid (by simpa using HO.out)
    clear HO cl hl
    go_loopw [4, 6, 7, 8] (fun u i _ _ wr => ∃ (n g2 cap2 : Nat) (ys : List St), n ≤ k ∧ i = .int .i64 n ∧ u = .slice (some ⟨g2, 0, none⟩) ys.length cap2 ∧ Hid (OwSt w.heap.size wr u ys) ∧ Hid (ys.map stL = (ws.take n).map (·.data.toList)) ∧ Hid (OkL ys) ∧ Hid (OwS (w.heap.size + 1) wr (.slice (some ⟨g, 0, none⟩) ws.length cap) ws) ∧ Hid (Below w.heap.size w wr)) (fun _ i _ _ _ => k - (intOf i).toNat)
    case atStart => exact ⟨0, w.heap.size, 0, [], Nat.zero_le _, rfl, rfl, HLo, Lib.hid rfl, Lib.hid (by intro x hx; cases hx), HOw, HB⟩
    case round =>
      obtain ⟨n, g2, cap2, ys, hn, rfl, rfl, HOn, HM, HOk, HWo, HBw⟩ := hrel
      have hyl : Hid (ys.length = n) := Lib.hid (by
        have := congrArg List.length HM.out
        rw [List.length_map, List.length_map, List.length_take] at this; omega)
      by_cases hlt : n < k
      · have hnw : n < ws.length := by omega
        have c0 : wr.cell? ⟨g, n, none⟩ = some (.string ws[n]) := by rw [HWo.out.1.cellAt n (by simp; omega), List.getElem?_map, List.getElem?_eq_getElem hnw]; rfl
        have HP := Lib.hid (fun w => l16Parse_any ws[n] w (HSz.out ws[n] (List.getElem_mem hnw)))
        have HBd : Hid (PsIs ws[n] none → ScIs s none) := Lib.hid (fun h => by
          refine parts_bad (i := n) (p := ws[n].data.toList) (by rw [HLn.out]; simp; omega) ?_ ?_
          · rw [HLn.out, List.getElem?_append_left (by simp; omega), List.getElem?_map, List.getElem?_take, if_pos hlt, List.getElem?_eq_getElem hnw]; rfl
          · intro z hz e
            have e2 : ws[n] = stT z := ByteArray.ext (Array.toList_inj.1 e)
            rw [e2] at h
            exact absurd (h.uniq (psIs_text hz)) (by simp))
        have HNx : Hid (∀ y, stB y = true → stT y = ws[n] → (ys ++ [y]).map stL = (ws.take (n + 1)).map (·.data.toList)) := Lib.hid (fun y _ h => by
          rw [List.take_succ_eq_append_getElem hnw, List.map_append, List.map_append, HM.out, List.map_cons, List.map_nil, List.map_cons, List.map_nil, stL, h])
        generalize ws[n] = line at *
        go_wp2_with fail
        refine (HP.out _).mono ?_
        rintro e w5 ⟨o, rfl, ho, hb2⟩
        have HB2 := Lib.hid (HBw.out.trans (hb2.mono HBw.out.size))
        have HO2 := Lib.hid (HOn.out.below hb2)
        have HW2 := Lib.hid (HWo.out.below hb2); clear hb2
        cases o with
        | none =>
          have HX := Lib.hid (HBd.out ho)
          rw [show psEnd none = .returned (.tuple #[.agg #[.int .i64 0, .int .i64 0, .string ⟨#[]⟩], .bool false]) from rfl]
          go_wp2
          refine bodyPost_ret (v := (.tuple #[.slice (some ⟨w5.heap.size + 1, 0, none⟩) 0 0, .bool false])) (by simp [results, Tryz.results19, go_sem, *]) rfl ?_
          have h1 := HB2.out.alloc HB2.out.size (.cells #[.int .i64 0, .int .i64 0, .string ⟨#[]⟩] 25)
          have h2 := owSt_lit w.heap.size _ h1.size
          rw [World.size_alloc] at h2
          exact ⟨_, none, rfl, HX.out, h2, h1.alloc h1.size _⟩
        | some y =>
          have hps := psIs_size ho
          clear ho
          have HMn := Lib.hid (HNx.out y hps.1 hps.2)
          obtain ⟨a, b, d⟩ := y
          have HOk2 : Hid (OkL (ys ++ [⟨a, b, d⟩])) := Lib.hid (by
            intro z hz
            rcases List.mem_append.1 hz with hz | hz
            · exact HOk.out z hz
            · rw [List.mem_singleton.1 hz]; exact hps.1)
          have HOK : Hid (∀ x ∈ ys ++ [(⟨a, b, d⟩ : St)], x.ok) := Lib.hid (by
            intro z hz
            rcases List.mem_append.1 hz with hz | hz
            · exact HO2.out.2.2 z hz
            · rw [List.mem_singleton.1 hz]
              exact step_ok hps.1)
          clear hps HNx HBd HP
          rw [show psEnd (some ⟨a, b, d⟩) = .returned (.tuple #[.agg #[.int .i64 a, .int .i64 b, .string d], .bool true]) from rfl]
          have hty : (25 : Nat) ≠ 9 := by decide
          have hO := HO2.out.1
          have hLl : ys.length + 1 ≤ 1073741824 := by have := hyl.out; omega
          have HB3 : Hid (Below w.heap.size w (w5.alloc (.cells #[.int .i64 a, .int .i64 b, .string d] 25))) := Lib.hid (HB2.out.alloc HB2.out.size _)
          have hsz := HB2.out.size
          go_wp2_with (first | (at_builtin; go_loud (refine wpList_append_own _ rfl _ _ 33 rfl (w.heap.size) 25 i0 (.agg #[.int .i64 0, .int .i64 0, .string ⟨#[]⟩]) 3 32 Tryz.underlying33 hi hz0 hz1 hz2 rfl (by decide) _ _ _ rfl ((hO.alloc _).alloc _) ⟨_, 0, none⟩ 1 1 [.int .i64 a, .int .i64 b, .string d] rfl rfl ?c1 ?c2 ?c3 ?c4 ?c5 ?_)))
          try (case c1 => first | exact cells_new _ #[.int .i64 a, .int .i64 b, .string d] _ | exact cells_at _ #[.int .i64 a, .int .i64 b, .string d] _ (by simp) | rfl)
          try (case c2 => first | rfl | exact ⟨rfl, rfl, rfl⟩ | exact ⟨rfl, rfl⟩ | (intro u hu; simp at hu; rcases hu with rfl | rfl | rfl | rfl <;> rfl) | (intro u hu; simp at hu; rcases hu with rfl | rfl | rfl <;> rfl) | (intro u hu; simp at hu; rcases hu with rfl | rfl <;> rfl) | (intro u hu; simp at hu; subst hu; rfl))
          try (case c3 => first | omega | (unfold maxLen; omega))
          try (case c4 => first | omega | ((try simp only [World.heap_size_alloc]); omega))
          try (case c5 => first | omega | (simp; omega))
          intro v' w2 hown' hgrow
          try intro _
          have HWo4 := Lib.hid (own_oth ((HW2.out.1.alloc _).alloc _) hgrow (fun e => own_typ hO HW2.out.1 hty (Option.some.inj e)))
          have HB4 : Hid (Below w.heap.size w w2) := Lib.hid (Below.grown (HB3.out.alloc HB3.out.size _) hgrow (by simp; omega) (fun j hj => (hO.lt j hj).1))
          have HOw4 : Hid (w2.ownsRow w.heap.size 25 3 v' (ys ++ [(⟨a, b, d⟩ : St)]).length ((ys ++ [(⟨a, b, d⟩ : St)]).flatMap St.cells)) := Lib.hid (by rw [List.flatMap_append, List.length_append]; simpa using hown')
          obtain ⟨p4, cap4, g4, rfl, _, hq4⟩ := own_shape HOw4.out
          obtain ⟨rfl, _⟩ := hq4 (by simp)
          clear hq4 hown' hgrow
          go_wp2
          go_roundw
          case rel => exact ⟨n + 1, g4, cap4, ys ++ [⟨a, b, d⟩], by omega, by go_num, rfl, Lib.hid ⟨HOw4.out, by simp; omega, HOK.out⟩, HMn, HOk2, Lib.hid ⟨HWo4.out, HW2.out.2⟩, HB4⟩
          case measure => simp [intOf]; omega
      · obtain rfl : n = k := by omega
        have HE : Hid (ScIs s (if scB ys = true then some ys else none)) := Lib.hid (parts_end (by rw [HLn.out, HM.out]) HOk.out)
        have HG := Lib.hid (fun w h => l16Good_any (.slice (some ⟨g2, 0, none⟩) ys.length cap2) ys w h)
        cases hB : scB ys
        · rw [hB] at HE HG
          go_wp2_with fail
          refine (HG.out _ HOn.out.rd).mono ?_
          rintro e w5 ⟨rfl, hb2⟩
          have HB2 := Lib.hid (HBw.out.trans (hb2.mono HBw.out.size)); clear hb2
          go_wp2
          refine bodyPost_ret (v := (.tuple #[.slice (some ⟨w5.heap.size, 0, none⟩) 0 0, .bool false])) (by simp [results, Tryz.results19, go_sem, *]) rfl ?_
          exact ⟨_, none, rfl, HE.out, owSt_lit _ _ HB2.out.size, HB2.out.alloc HB2.out.size _⟩
        · rw [hB] at HE HG
          go_wp2_with fail
          refine (HG.out _ HOn.out.rd).mono ?_
          rintro e w5 ⟨rfl, hb2⟩
          have HB2 := Lib.hid (HBw.out.trans (hb2.mono HBw.out.size))
          have HO2 := Lib.hid (HOn.out.below hb2); clear hb2
          go_wp2
          refine bodyPost_ret (v := (.tuple #[.slice (some ⟨g2, 0, none⟩) ys.length cap2, .bool true])) (by simp [results, Tryz.results19, go_sem, *]) rfl ?_
          exact ⟨_, some ys, rfl, HE.out, HO2.out, HB2.out⟩
end Go.Proofs.YtgmccafmopgjaaaGreatDoor
