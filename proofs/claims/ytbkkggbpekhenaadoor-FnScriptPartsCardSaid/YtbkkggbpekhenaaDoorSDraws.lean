/- Contracts of the reference's drawings for the laws on scripts: each answers SOME scripts (nothing more is needed), reading at most 65536 bytes. -/
import Derived.Test.YtbkkggbpekhenaaDoorSDraw
import Derived.Test.YtbkkggbpekhenaaDoorDrawNew
namespace Go.Proofs.YtbkkggbpekhenaaDoor
open Go.RowKit

theorem flatSt_set (xs : List St) (k : Nat) (a b : Int) (c : ByteArray) (h : k < xs.length) : (((xs.flatMap St.cells).set (k * 3) (.int .i64 a)).set (k * 3 + 1) (.int .i64 b)).set (k * 3 + 2) (.string c) = (xs.set k ⟨a, b, c⟩).flatMap St.cells := by
  induction xs generalizing k with
  | nil => simp at h
  | cons x r ih =>
    obtain ⟨p, q, s⟩ := x
    cases k with
    | zero => rfl
    | succ k =>
      have h' := ih k (by simpa using h)
      show (((.int .i64 p :: .int .i64 q :: .string s :: r.flatMap St.cells).set ((k + 1) * 3) _).set ((k + 1) * 3 + 1) _).set ((k + 1) * 3 + 2) _ = _
      rw [show (k + 1) * 3 = k * 3 + 1 + 1 + 1 from by omega]
      simp only [List.set_cons_succ, show k * 3 + 1 + 1 + 1 + 1 = (k * 3 + 1) + 1 + 1 + 1 from rfl, show k * 3 + 1 + 1 + 1 + 2 = (k * 3 + 2) + 1 + 1 + 1 from rfl]
      rw [h']; rfl
def SomeScN (w : World) (e : Ending) (w' : World) : Prop := ∃ v xs, e = .returned v ∧ OwSt w.heap.size w' v xs ∧ xs.length ≤ 31 ∧ Sm xs ∧ Below w.heap.size w w'
def SomeScI (w : World) (e : Ending) (w' : World) : Prop := ∃ v xs n, e = .returned (.tuple #[v, .int .i64 n]) ∧ OwSt w.heap.size w' v xs ∧ xs.length ≤ 31 ∧ Sm xs ∧ Below w.heap.size w w'
def SomeScS (w : World) (e : Ending) (w' : World) : Prop := ∃ v u xs ys, e = .returned (.tuple #[v, u]) ∧ OwSt w.heap.size w' v xs ∧ OwSt w.heap.size w' u ys ∧ xs.length ≤ 31 ∧ ys.length ≤ 31 ∧ Sm xs ∧ Sm ys ∧ Below w.heap.size w w'
def litTimes : List Int := [0, 1, 2, 5, 30, -1, 31]
set_option maxRecDepth 100000 in
set_option maxHeartbeats 8000000 in
theorem drawScript_any (v : Value) (bs : List Int) (w : World) (h : RdY w v bs) :
    Calls Tryd.prog 68 #[v] w (SomeScN w) := by
  obtain ⟨i0, hi, hz0, hz1, hz2⟩ := info_parts infoSt
  obtain ⟨p, cap, b, off, rfl, _, _, _⟩ := h.parts
  have HC := Lib.hid (cur_new w _ bs h); clear h
  go_enter Tryd.func68, Tryd.ntmps68
  go_wp2_with fail
  refine (script16_any w.heap.size 0 _ HC.out (by omega)).mono ?_
  rintro e w1 ⟨va, xs, rfl, oa, hl, sa, d⟩
  have OA : Hid (OwSt (w.heap.size + 1) w1 va xs) := Lib.hid (oa.base (by simp))
  have SA := Lib.hid sa
  have D0 : Hid (Dn w w1 1000) := Lib.hid ⟨_, d.mono (by omega)⟩
  clear oa sa d HC
  go_wp2
  refine bodyPost_ret (v := va) (by simp [results, Tryd.results68, go_sem, *]) rfl ?_
  exact ⟨va, xs, rfl, OA.out.base (Nat.le_succ _), hl, SA.out, D0.out.below⟩
set_option maxRecDepth 100000 in
set_option maxHeartbeats 1000000 in
theorem drawCountSteps_any (v : Value) (bs : List Int) (w : World) (h : RdY w v bs) :
    Calls Tryd.prog 31 #[v] w (SomeScN w) := by
  go_enter Tryd.func31, Tryd.ntmps31
  go_wp2_with fail
  refine (drawScript_any v bs w h).mono ?_
  rintro e w1 ⟨va, xs, rfl, oa, hl, sa, b1⟩
  go_wp2
  refine bodyPost_ret (v := va) (by simp [results, Tryd.results31, go_sem, *]) rfl ?_
  exact ⟨va, xs, rfl, oa, hl, sa, b1⟩
set_option maxRecDepth 100000 in
set_option maxHeartbeats 1000000 in
theorem drawSentItems_any (v : Value) (bs : List Int) (w : World) (h : RdY w v bs) :
    Calls Tryd.prog 35 #[v] w (SomeScN w) := by
  go_enter Tryd.func35, Tryd.ntmps35
  go_wp2_with fail
  refine (drawScript_any v bs w h).mono ?_
  rintro e w1 ⟨va, xs, rfl, oa, hl, sa, b1⟩
  go_wp2
  refine bodyPost_ret (v := va) (by simp [results, Tryd.results35, go_sem, *]) rfl ?_
  exact ⟨va, xs, rfl, oa, hl, sa, b1⟩
set_option maxRecDepth 100000 in
set_option maxHeartbeats 8000000 in
theorem drawRepeat_any (v : Value) (bs : List Int) (w : World) (h : RdY w v bs) :
    Calls Tryd.prog 23 #[v] w (SomeScI w) := by
  obtain ⟨i0, hi, hz0, hz1, hz2⟩ := info_parts infoSt
  obtain ⟨p, cap, b, off, rfl, _, _, _⟩ := h.parts
  have HC := Lib.hid (cur_new w _ bs h); clear h
  go_enter Tryd.func23, Tryd.ntmps23
  go_wp2_with fail
  refine (script16_any w.heap.size 0 _ HC.out (by omega)).mono ?_
  rintro e w1 ⟨va, xs, rfl, oa, hl, sa, d⟩
  have OA : Hid (OwSt (w.heap.size + 1) w1 va xs) := Lib.hid (oa.base (by simp))
  have SA := Lib.hid sa
  have D0 : Hid (Dn w w1 1000) := Lib.hid ⟨_, d.mono (by omega)⟩
  clear oa sa d HC
  go_wp2_with fail
  refine (pick_any w.heap.size _ 24 _ (D0.out.alloc _).cur (by omega) (by omega) (by omega)).mono ?_
  rintro e wp ⟨kp, hkp, rfl, hcp, hgp⟩
  have zp := D0.out.size
  have HR := Lib.hid ((lit_rd w1 litTimes 7 rfl (5 + kp / 11) (by omega) (by omega)).grown hgp (.inr (by simp [Value.ownBlock]; omega)))
  have D1 := Lib.hid ((D0.out.alloc _).call hcp hgp)
  have OA1 := Lib.hid ((OA.out.below (below_alloc1 _ _)).grown hgp (lt_ne OA.out.lt (Nat.lt_succ_self _)))
  clear hcp hgp D0 OA
  go_wp2_with fail
  refine (among_any w.heap.size _ _ (litTimes.take (5 + kp / 11)) _ D1.out.cur (by omega) HR.out (by simp [litTimes]; omega) (.inr (by simp [Value.ownBlock]; omega))).mono ?_
  rintro e wq ⟨n, _, rfl, hcq, hgq⟩
  have D2 := Lib.hid (D1.out.call hcq hgq)
  have OA2 := Lib.hid (OA1.out.grown hgq (lt_ne OA1.out.lt (Nat.lt_succ_self _)))
  clear hcq hgq D1 HR OA1
  go_wp2
  refine bodyPost_ret (v := (.tuple #[va, .int .i64 n])) (by simp [results, Tryd.results23, go_sem, *]) rfl ?_
  exact ⟨va, xs, n, rfl, OA2.out.base (Nat.le_succ _), hl, SA.out, D2.out.below⟩
set_option maxRecDepth 100000 in
set_option maxHeartbeats 8000000 in
theorem drawDiff_any (v : Value) (bs : List Int) (w : World) (h : RdY w v bs) :
    Calls Tryd.prog 28 #[v] w (SomeScS w) := by
  obtain ⟨i0, hi, hz0, hz1, hz2⟩ := info_parts infoSt
  obtain ⟨p, cap, b, off, rfl, _, _, _⟩ := h.parts
  have HC := Lib.hid (cur_new w _ bs h); clear h
  go_enter Tryd.func28, Tryd.ntmps28
  go_wp2_with fail
  refine (script16_any w.heap.size 0 _ HC.out (by omega)).mono ?_
  rintro e w1 ⟨va, xs, rfl, oa, hl, sa, d⟩
  have OA : Hid (OwSt (w.heap.size + 1) w1 va xs) := Lib.hid (oa.base (by simp))
  have SA := Lib.hid sa
  have D0 : Hid (Dn w w1 1000) := Lib.hid ⟨_, d.mono (by omega)⟩
  clear oa sa d HC
  go_wp2_with fail
  refine (one_any w.heap.size _ 2 _ D0.out.cur (by omega) (by omega) (by omega)).mono ?_
  rintro e w2 ⟨b1, rfl, hc2, hg2⟩
  have D1 := Lib.hid (D0.out.call hc2 hg2)
  have OA1 := Lib.hid (OA.out.grown hg2 (lt_ne OA.out.lt (Nat.lt_succ_self _)))
  clear hc2 hg2 D0 OA
  obtain ⟨pa, capa, ba, offa, rfl, hcapa, hpa, hca⟩ := OA1.out.rd.parts
  clear hca
  cases b1
  · skip
    go_wp2_with fail
    refine (script16_any w.heap.size _ _ D1.out.cur (by omega)).mono ?_
    rintro e w3 ⟨vb, ys, rfl, ob, hlb, sb, d⟩
    have z1 := D1.out.size
    have D2 := Lib.hid (D1.out.call d.cur d.grown)
    have OA2 := Lib.hid (OA1.out.grown d.grown (lt_ne OA1.out.lt (Nat.lt_succ_self _)))
    have OB : Hid (OwSt w.heap.size w3 vb ys) := Lib.hid (ob.base (by omega))
    clear d ob D1 OA1
    go_wp2
    refine bodyPost_ret (v := (.tuple #[.slice pa xs.length capa, vb])) (by simp [results, Tryd.results28, go_sem, *]) rfl ?_
    exact ⟨_, vb, xs, ys, rfl, OA2.out.base (Nat.le_succ _), OB.out, hl, hlb, SA.out, sb, D2.out.below⟩
  · by_cases h0 : 0 < xs.length
    · obtain rfl := hpa h0
      have z1 := D1.out.size
      have OE0 : Hid (OwSt w2.heap.size (w2.alloc (.cells #[] 34)) (.slice (some ⟨w2.heap.size, 0, none⟩) 0 0) []) := Lib.hid ⟨World.ownsRow_lit w2 #[] 0 (Nat.le_refl _) (Nat.zero_le _) rfl, Nat.zero_le _, by simp⟩
      go_wp2_with fail
      refine (pick_any w.heap.size _ xs.length _ (D1.out.alloc _).cur (by omega) (by omega) (by omega)).mono ?_
      rintro e w3 ⟨k, hk, rfl, hc3, hg3⟩
      have D2 := Lib.hid ((D1.out.alloc _).call hc3 hg3)
      have OA2 := Lib.hid ((OA1.out.below (below_alloc1 _ _)).grown hg3 (lt_ne OA1.out.lt (Nat.lt_succ_self _)))
      have BaLt : Hid (ba < w2.heap.size) := Lib.hid (OA1.out.lt ba rfl).2
      have NE := Lib.hid (lt_ne' (C := w2.heap.size) OA1.out.lt (Nat.le_refl _))
      have OE := Lib.hid (OE0.out.grown hg3 (lt_ne OE0.out.lt z1))
      have z23 : w2.heap.size ≤ w3.heap.size := by have := hg3.size; simp at this; omega
      clear hc3 hg3 D1 OA1 OE0
      have z2 := D2.out.size
      have e1 : (0 : Int) ≤ 1 + (k : Int) := by omega
      have e2 : (1 : Int) + (k : Int) ≤ (capa : Int) := by omega
      have e3 : ((1 : Int) + (k : Int)).toNat = 1 + k := by omega
      have e4 : IntKind.i64.wrap ((1 : Int) + (k : Int)) = 1 + k := by rw [IntKind.wrap_i64]; omega
      have hyl : (xs.take (1 + k)).length = 1 + k := by rw [List.length_take]; omega
      have HCs : Hid (∀ j u, ((xs.take (1 + k)).flatMap St.cells)[j]? = some u → w3.cell? ((⟨ba, offa, none⟩ : Addr).add j) = some u) := Lib.hid (by
        rcases OA2.out.rd.1.source with ⟨hv, _, _⟩ | ⟨a, cap9, hv, _, hcells⟩
        · cases hv
        · obtain ⟨ha, _, _⟩ := Value.slice.inj hv
          obtain rfl := Option.some.inj ha
          intro j u hj
          refine hcells j u ?_
          rw [← List.take_append_drop (1 + k) xs, List.flatMap_append]
          rw [List.getElem?_append_left (List.getElem?_eq_some_iff.1 hj).1]
          exact hj)
      have HL : Hid (((xs.take (1 + k)).flatMap St.cells).length = (1 + k) * 3) := Lib.hid (by rw [flat_length St.cells 3 St.cells_length, hyl])
      have HOne : Hid (∀ u ∈ (xs.take (1 + k)).flatMap St.cells, u.oneCell' = true) := Lib.hid (by
        intro u hu
        obtain ⟨x, _, hx⟩ := List.mem_flatMap.1 hu
        simp only [St.cells, List.mem_cons, List.not_mem_nil, or_false] at hx
        rcases hx with rfl | rfl | rfl <;> rfl)
      have SB : Hid (Sm (xs.take (1 + k))) := Lib.hid (fun x hx => SA.out x (List.mem_of_mem_take hx))
      generalize xs.take (1 + k) = ys at *
      have HY := Lib.hid hyl
      have hy0 : 0 < ys.length := by omega
      have hy1 : ys.length ≤ 31 := by omega
      clear hyl
      go_wp2_with (first | (at_builtin; go_loud (refine wpList_append_own _ rfl _ _ 38 rfl w2.heap.size 34 i0 (.agg #[.int .i64 0, .int .i64 0, .string ⟨#[]⟩]) 3 32 Tryd.underlying38 hi hz0 hz1 hz2 rfl (by decide) _ 0 [] rfl OE.out.1 ⟨ba, offa, none⟩ (1 + k) capa (ys.flatMap St.cells) rfl HL.out HCs.out HOne.out ?c3 ?c4 ?c5 ?_)))
      try (case c3 => first | omega | (unfold maxLen; omega))
      try (case c4 => omega)
      try (case c5 => omega)
      intro v' w4 hown' hgrow
      try intro _
      have D3 := Lib.hid (D2.out.app OE.out.lt z1 hgrow)
      have OB : Hid (OwSt w2.heap.size w4 v' ys) := Lib.hid ⟨by rw [HY.out]; simpa using hown', by omega, SB.out.ok⟩
      have OA3 := Lib.hid (OA2.out.grown hgrow NE.out)
      have HBa : Hid (ba < w2.heap.size) := Lib.hid BaLt.out
      clear hown' hgrow OE OA2 D2 HCs HL HOne NE BaLt
      have z3 := D3.out.size
      clear e1 e2 e3 e4
      obtain ⟨pb, capb, gb, rfl, hcapb, hqb⟩ := own_shape OB.out.1
      obtain ⟨rfl, hgb⟩ := hqb (by omega)
      go_wp2_with fail
      refine (one_any w.heap.size _ 2 _ D3.out.cur (by omega) (by omega) (by omega)).mono ?_
      rintro e w5 ⟨b2, rfl, hc5, hg5⟩
      have D4 := Lib.hid (D3.out.call hc5 hg5)
      have OA4 := Lib.hid (OA3.out.grown hg5 (lt_ne OA3.out.lt (Nat.lt_succ_self _)))
      have OB4 := Lib.hid (OB.out.grown hg5 (lt_ne OB.out.lt z1))
      clear hc5 hg5 D3 OA3 OB
      cases b2
      · go_wp2
        refine bodyPost_ret (v := (.tuple #[.slice (some ⟨ba, offa, none⟩) xs.length capa, .slice (some ⟨gb, 0, none⟩) ys.length capb])) (by simp [results, Tryd.results28, go_sem, *]) rfl ?_
        exact ⟨_, _, xs, ys, rfl, OA4.out.base (Nat.le_succ _), OB4.out.base (by omega), hl, by omega, SA.out, SB.out, D4.out.below⟩
      · go_wp2_with fail
        refine (pick_any w.heap.size _ ys.length _ D4.out.cur (by omega) (by omega) (by omega)).mono ?_
        rintro e w6 ⟨m, hm, rfl, hc6, hg6⟩
        have D5 := Lib.hid (D4.out.call hc6 hg6)
        have OA5 := Lib.hid (OA4.out.grown hg6 (lt_ne OA4.out.lt (Nat.lt_succ_self _)))
        have OB5 := Lib.hid (OB4.out.grown hg6 (lt_ne OB4.out.lt z1))
        clear hc6 hg6 D4 OA4 OB4
        go_wp2_with fail
        refine (step16_any w.heap.size _ _ D5.out.cur (by omega)).mono ?_
        rintro e w7 ⟨⟨xk, xn, xd⟩, rfl, hsx, d⟩
        have D6 := Lib.hid (D5.out.call d.cur d.grown)
        have OA6 := Lib.hid (OA5.out.grown d.grown (lt_ne OA5.out.lt (Nat.lt_succ_self _)))
        have OB6 := Lib.hid (OB5.out.grown d.grown (lt_ne OB5.out.lt z1))
        clear d D5 OA5 OB5
        have ho := OB6.out.1
        obtain ⟨c0, d0⟩ := own_has ho (m * 3) (by omega)
        obtain ⟨c1, d1⟩ := own_has ho (m * 3 + 1) (by omega)
        obtain ⟨c2, d2⟩ := own_has ho (m * 3 + 2) (by omega)
        have f0 := ho.frozenAt (m * 3)
        have f1 := ho.frozenAt (m * 3 + 1)
        have f2 := ho.frozenAt (m * 3 + 2)
        have hs0 := ho.stored (m * 3) (.int .i64 xk)
        have hs1 := hs0.1.stored (m * 3 + 1) (.int .i64 xn)
        have hs2 := hs1.1.stored (m * 3 + 2) (.string xd)
        have hgb2 := (OB6.out.lt gb rfl).1
        have hba := HBa.out
        have hne : (Value.slice (some ⟨ba, offa, none⟩) xs.length capa).ownBlock = none ∨ (Value.slice (some ⟨ba, offa, none⟩) xs.length capa).ownBlock ≠ some gb := .inr (by simp [Value.ownBlock]; omega)
        have OA7 := Lib.hid (((OA6.out.grown hs0.2 hne).grown hs1.2 hne).grown hs2.2 hne)
        have D7 := Lib.hid (((D6.out.set (g := gb) (by omega) (m * 3) (.int .i64 xk)).set (g := gb) (by omega) (m * 3 + 1) (.int .i64 xn)).set (g := gb) (by omega) (m * 3 + 2) (.string xd))
        have SB2 : Hid (Sm (ys.set m ⟨xk, xn, xd⟩)) := Lib.hid (fun y hy => by
          rcases List.mem_or_eq_of_mem_set hy with hy | rfl
          · exact SB.out y hy
          · exact hsx)
        have OB7 := Lib.hid (show OwSt w.heap.size _ (.slice (some ⟨gb, 0, none⟩) ys.length capb) (ys.set m ⟨xk, xn, xd⟩) from ⟨by rw [List.length_set, ← flatSt_set ys m xk xn xd (by have := HY.out; omega)]; exact own_base hs2.1 (by omega), by rw [List.length_set]; omega, SB2.out.ok⟩)
        clear hs0 hs1 hs2 ho hne
        go_wp2_with fail
        refine bodyPost_ret (v := (.tuple #[.slice (some ⟨ba, offa, none⟩) xs.length capa, .slice (some ⟨gb, 0, none⟩) ys.length capb])) (by simp [results, Tryd.results28, go_sem, *]) rfl ?_
        exact ⟨_, _, xs, ys.set m ⟨xk, xn, xd⟩, rfl, OA7.out.base (Nat.le_succ _), OB7.out, hl, by rw [List.length_set]; omega, SA.out, SB2.out, D7.out.below⟩
    · skip
      go_wp2_with fail
      refine (script16_any w.heap.size _ _ D1.out.cur (by omega)).mono ?_
      rintro e w3 ⟨vb, ys, rfl, ob, hlb, sb, d⟩
      have z1 := D1.out.size
      have D2 := Lib.hid (D1.out.call d.cur d.grown)
      have OA2 := Lib.hid (OA1.out.grown d.grown (lt_ne OA1.out.lt (Nat.lt_succ_self _)))
      have OB : Hid (OwSt w.heap.size w3 vb ys) := Lib.hid (ob.base (by omega))
      clear d ob D1 OA1
      go_wp2
      refine bodyPost_ret (v := (.tuple #[.slice pa xs.length capa, vb])) (by simp [results, Tryd.results28, go_sem, *]) rfl ?_
      exact ⟨_, vb, xs, ys, rfl, OA2.out.base (Nat.le_succ _), OB.out, hl, hlb, SA.out, sb, D2.out.below⟩
end Go.Proofs.YtbkkggbpekhenaaDoor
