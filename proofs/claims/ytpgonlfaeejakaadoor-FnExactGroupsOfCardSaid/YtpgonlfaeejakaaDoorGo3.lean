/- A copy of a list of groups that is the call's own, and its marks. -/
import Derived.Test.YtpgonlfaeejakaaDoorGr4
namespace Go.Proofs.YtpgonlfaeejakaaDoor
open Go.RowKit

def GrDis (a b : Gr × Value) : Prop := a.2.ownBlock = none ∨ a.2.ownBlock ≠ b.2.ownBlock
/-- v is block B, the members' slices lie behind it, each by itself -/
structure GrOwn (B : Nat) (w : World) (v : Value) (qs : List (Gr × Value)) : Prop where
  shape : v = .slice (some ⟨B, 0, none⟩) qs.length qs.length
  own : w.ownsRow B 40 2 (.slice (some ⟨B, 0, none⟩) qs.length qs.length) qs.length (qs.flatMap GrC)
  inn : ∀ q ∈ qs, OwI (B + 1) w q.2 q.1.ms
  dis : qs.Pairwise GrDis
theorem GrOwn.below {B : Nat} {w w' : World} {v : Value} {qs : List (Gr × Value)} (h : GrOwn B w v qs) (hb : Below w.heap.size w w') : GrOwn B w' v qs := ⟨h.shape, own_below h.own hb, fun q hq => (h.inn q hq).below hb, h.dis⟩
/-- what lies outside the blocks from B up to N lies as it lay -/
structure Out (B N : Nat) (w w' : World) : Prop where
  os : w'.os = w.os
  tape : w'.tape = w.tape
  output : w'.output = w.output
  size : w.heap.size ≤ w'.heap.size
  same : ∀ g, g < w.heap.size → g < B ∨ N ≤ g → w'.heap[g]? = w.heap[g]?
theorem Out.trans {B N : Nat} {a b c : World} (h : Out B N a b) (k : Out B N b c) : Out B N a c := ⟨k.os.trans h.os, k.tape.trans h.tape, k.output.trans h.output, Nat.le_trans h.size k.size, fun g hg hr => (k.same g (Nat.lt_of_lt_of_le hg h.size) hr).trans (h.same g hg hr)⟩
theorem Out.of_below {B N : Nat} {w w' : World} (h : Below w.heap.size w w') : Out B N w w' := ⟨h.os, h.tape, h.output, h.size, fun g hg _ => h.block g hg⟩
theorem Out.of_grown {B N : Nat} {w w' : World} {row : Option Nat} (h : w.grownBy w' row) (hr : ∀ g, row = some g → B ≤ g ∧ g < N) : Out B N w w' := ⟨h.os, h.tape, h.output, h.size, fun g hg ho => h.block g hg (fun e => by have := hr g e.symm; omega)⟩
theorem Out.below {B N : Nat} {w w' : World} (h : Out B N w w') (hB : B ≤ w.heap.size) : Below B w w' := ⟨h.os, h.tape, h.output, h.size, fun g hg => h.same g (by omega) (.inl hg)⟩
set_option maxRecDepth 100000 in
set_option maxHeartbeats 4000000 in
theorem toGroupS_own (v : Value) (ps : List (Gr × Value)) (w : World) (h : GrAt w v ps) :
    Calls Tryd.prog 7 #[v] w fun e w' => ∃ v' qs, e = .returned v' ∧ GrAt w' v' qs ∧ qs.map Prod.fst = ps.map Prod.fst ∧ Below w.heap.size w w' ∧ GrOwn w.heap.size w' v' qs := by
  have hlen := h.2.1
  have HR := Lib.hid h.2.2
  obtain ⟨p, cap, b, off, rfl, hcap, hp, hcell⟩ := h.parts
  have HC := Lib.hid hcell; clear hcell
  have HP := Lib.hid hp; clear hp h
  obtain ⟨i0, hi, hz0, hz1, hz2⟩ := info_parts infoGr
  go_enter Tryd.func7, Tryd.ntmps7
  go_wp2_with (at_make; refine wpList_make_full _ rfl _ _ 25 rfl w.heap.size 40 i0 (.agg #[.string ⟨#[]⟩, .slice none 0 0]) 2 Tryd.underlying25 hi hz0 hz1 _ _ _ _ ps.length rfl rfl rfl rfl ?b2 ?b3 (Nat.le_refl _) ?_)
  case b2 => rw [hz2]; omega
  case b3 => unfold maxLen; omega
  intro w0 hown0 hgrow0
  go_wp2
  go_loopw [4] (fun i wr => ∃ (k : Nat) (L : List Value) (qs : List (Gr × Value)), k ≤ ps.length ∧ i = .int .i64 k ∧ wr.ownsRow w.heap.size 40 2 (.slice (some ⟨w.heap.size, 0, none⟩) ps.length ps.length) ps.length L ∧ Hid (L.take (k * 2) = qs.flatMap GrC) ∧ Hid (qs.map Prod.fst = (ps.take k).map Prod.fst) ∧ Hid (∀ q ∈ qs, q.1.nm.size ≤ 1048576 ∧ OwI (w.heap.size + 1) wr q.2 q.1.ms) ∧ Hid (qs.Pairwise GrDis) ∧ Below w.heap.size w wr ∧ w.heap.size < wr.heap.size)
    (fun i _ => ps.length - (intOf i).toNat)
  case atStart => exact ⟨0, _, [], Nat.zero_le _, rfl, hown0, Lib.hid rfl, Lib.hid rfl, Lib.hid (by simp), Lib.hid List.Pairwise.nil, (Below.refl _ _).grown hgrow0 (Nat.le_refl _) (fun k h => by cases h), (hown0.lt w.heap.size rfl).2⟩
  case round =>
    obtain ⟨k, L, qs, hk, rfl, hown, HL, HM, HQ, HD, hb, hlt0⟩ := hrel
    by_cases hlt : k < ps.length
    · obtain rfl := HP.out (by omega)
      have HLl := Lib.hid hown.1
      obtain ⟨c0, c1⟩ := HC.out k hlt
      have c0 := (hb.cell (World.block_lt_of_cell? w _ c0)).trans c0
      have c1 := (hb.cell (World.block_lt_of_cell? w _ c1)).trans c1
      have hrk := HR.out ps[k] (List.getElem_mem hlt)
      obtain ⟨q, qc, _, _, hq, _, _, _⟩ := hrk.2.parts
      rw [hq] at c1
      have hrq := hrk.2.below hb
      rw [hq] at hrq
      have HNs := Lib.hid hrk.1
      have HTk : Hid ((ps.take (k + 1)).map Prod.fst = (ps.take k).map Prod.fst ++ [ps[k].1]) := Lib.hid (by rw [List.take_succ_eq_append_getElem hlt, List.map_append]; rfl)
      clear hrk hq
      generalize ps[k].1 = g at *
      obtain ⟨nm, ms⟩ := g
      have HT := Lib.hid (toGroup_any nm ms (.slice q ms.length qc) wr hrq)
      clear hrq
      go_wp2_with fail
      refine HT.out.mono ?_
      rintro e w1 ⟨pm, cm, rfl, om, hb1⟩
      have hown1 := own_below hown hb1
      have d0 : w1.cell? ⟨w.heap.size, k * 2, none⟩ = some (L[k * 2]'(by have := HLl.out; omega)) := by rw [hown1.cellAt (k * 2) (by omega), List.getElem?_eq_getElem (by have := HLl.out; omega)]
      have d1 : w1.cell? ⟨w.heap.size, k * 2 + 1, none⟩ = some (L[k * 2 + 1]'(by have := HLl.out; omega)) := by rw [hown1.cellAt (k * 2 + 1) (by omega), List.getElem?_eq_getElem (by have := HLl.out; omega)]
      have f0 := hown1.frozenAt (k * 2)
      have f1 := hown1.frozenAt (k * 2 + 1)
      have hs0 := hown1.stored (k * 2) (.string nm)
      have hs1 := hs0.1.stored (k * 2 + 1) (.slice pm ms.length cm)
      have HS0 := Lib.hid hs0.2
      have HS1 := Lib.hid hs1
      clear hs0 hs1
      have HB1 := Lib.hid hb1
      have HOm := Lib.hid om
      have HQ1 : Hid (∀ q ∈ qs, q.1.nm.size ≤ 1048576 ∧ OwI (w.heap.size + 1) w1 q.2 q.1.ms) := Lib.hid (fun q hq => ⟨(HQ.out q hq).1, (HQ.out q hq).2.below hb1⟩)
      have HD1 : Hid ((qs ++ [((⟨nm, ms⟩ : Gr), (.slice pm ms.length cm : Value))]).Pairwise GrDis) := Lib.hid (by
        rw [List.pairwise_append]
        refine ⟨HD.out, List.pairwise_singleton _ _, fun a ha c hc => ?_⟩
        rw [List.mem_singleton.1 hc]
        cases hab : a.2.ownBlock with
        | none => exact .inl hab
        | some g =>
          refine .inr (fun e => ?_)
          have h1 := ((HQ.out a ha).2.lt g hab).2
          rw [hab] at e
          have h2 := (om.lt g e.symm).1
          omega)
      clear hb1 om c0 c1
      go_wp2
      go_roundw
      case rel =>
        have q0 : Below w.heap.size w w1 := hb.trans (HB1.out.mono hb.size)
        have q1 := q0.grown HS0.out q0.size (fun j hj => by cases hj; exact Nat.le_refl _)
        have q2 := q1.grown HS1.out.2 q1.size (fun j hj => by cases hj; exact Nat.le_refl _)
        refine ⟨k + 1, _, qs ++ [(⟨nm, ms⟩, .slice pm ms.length cm)], by omega, by go_num, HS1.out.1, Lib.hid ?_, Lib.hid ?_, Lib.hid ?_, HD1, q2, (HS1.out.1.lt w.heap.size rfl).2⟩
        · rw [List.flatMap_append, ← HL.out, Nat.add_mul, Nat.one_mul, take_set_succ _ (k * 2 + 1) _ (by simp; have := HLl.out; omega), take_set_succ _ (k * 2) _ (by have := HLl.out; omega)]
          simp
        · rw [List.map_append, HM.out, HTk.out]; rfl
        · intro q hq
          have lift : ∀ {mv xs}, OwI (w.heap.size + 1) w1 mv xs → OwI (w.heap.size + 1) ((w1.setCell ⟨w.heap.size, k * 2, none⟩ (.string nm)).setCell ⟨w.heap.size, k * 2 + 1, none⟩ (.slice pm ms.length cm)) mv xs := fun h => (h.setg (by omega) _ _).setg (by omega) _ _
          rcases List.mem_append.1 hq with hq | hq
          · exact ⟨(HQ1.out q hq).1, lift (HQ1.out q hq).2⟩
          · rw [List.mem_singleton.1 hq]
            exact ⟨HNs.out, lift (HOm.out.base hlt0)⟩
      case measure => simp [intOf]; omega
    · obtain rfl : k = ps.length := by omega
      have hql : qs.length = ps.length := by
        have := congrArg List.length HM.out
        simpa using this
      have HX : Hid (L = qs.flatMap GrC) := Lib.hid (by
        have h1 := HL.out
        have h2 := hown.1
        rwa [List.take_of_length_le (by omega)] at h1)
      have HM2 : Hid (qs.map Prod.fst = ps.map Prod.fst) := Lib.hid (by rw [HM.out, List.take_length])
      go_wp2
      go_ret
      refine ⟨_, qs, rfl, ⟨?_, by omega, fun q hq => ⟨(HQ.out q hq).1, (HQ.out q hq).2.rd⟩⟩, HM2.out, hb, ⟨by rw [hql]; rfl, by rw [hql, ← HX.out]; exact hown, fun q hq => (HQ.out q hq).2, HD.out⟩⟩
      rw [hql, ← HX.out]
      exact rd_of_own hown
theorem flatGr_get (qs : List (Gr × Value)) (j : Nat) (h : j < qs.length) : (qs.flatMap GrC)[j * 2 + 1]? = some qs[j].2 := flat_get GrC 2 (fun _ => rfl) qs j 1 h (by omega)
set_option maxRecDepth 100000 in
set_option maxHeartbeats 4000000 in
theorem markGroupS_any (v : Value) (qs : List (Gr × Value)) (B N : Nat) (w : World) (h : GrOwn B w v qs) (hs : qs.length ≤ 1048576 ∧ ∀ q ∈ qs, q.1.ms.length ≤ 1048576) (hN : ∀ q ∈ qs, ∀ g, q.2.ownBlock = some g → g < N) (hB : B < N) :
    Calls Tryd.prog 13 #[v, .int .i64 1] w fun e w' => ∃ r : Int, e = .returned (.int .i64 r) ∧ 0 ≤ r ∧ Out B N w w' := by
  obtain ⟨rfl, hown0, hinn, hdis⟩ := h
  have HI := Lib.hid hinn; have HD := Lib.hid hdis; have HSm := Lib.hid hs.2; have HNn := Lib.hid hN
  have hs1 := hs.1
  clear hinn hdis hs hN
  go_enter Tryd.func13, Tryd.ntmps13
  go_wp2
  go_loopw [1, 5] (fun c i wr => ∃ (k : Nat) (q : Int) (L : List Value), k ≤ qs.length ∧ i = .int .i64 k ∧ c = .int .i64 q ∧ 0 ≤ q ∧ q ≤ 1 + k * 1048577 ∧ wr.ownsRow B 40 2 (.slice (some ⟨B, 0, none⟩) qs.length qs.length) qs.length L ∧ Hid (∀ j (h : j < qs.length), L[j * 2 + 1]? = some qs[j].2) ∧ Hid (∀ p ∈ qs.drop k, OwI (B + 1) wr p.2 p.1.ms) ∧ Hid (Out B N w wr))
    (fun _ i _ => qs.length - (intOf i).toNat)
  case atStart => exact ⟨0, 1, _, Nat.zero_le _, rfl, rfl, by omega, by omega, hown0, Lib.hid (fun j h => (flatGr_get qs j h)), Lib.hid (by simpa using HI.out), Lib.hid (Out.of_below (Below.refl _ _))⟩
  case round =>
    obtain ⟨k, c, L, hk, rfl, rfl, hc0, hc1, hown, HL, HR, HO⟩ := hrel
    by_cases hlt : k < qs.length
    · have HLl := Lib.hid hown.1
      have hm := HR.out qs[k] (by rw [List.drop_eq_getElem_cons hlt]; exact List.mem_cons_self ..)
      have hml := HSm.out qs[k] (List.getElem_mem hlt)
      have HDk : Hid (∀ p ∈ qs.drop (k + 1), qs[k].2.ownBlock = none ∨ qs[k].2.ownBlock ≠ p.2.ownBlock) := Lib.hid (fun p hp => by
        have h1 := HD.out
        rw [← List.take_append_drop k qs, List.pairwise_append, List.drop_eq_getElem_cons hlt, List.pairwise_cons] at h1
        exact h1.2.1.1 p hp)
      have HRn : Hid (∀ p ∈ qs.drop (k + 1), OwI (B + 1) wr p.2 p.1.ms) := Lib.hid (fun p hp => HR.out p (by rw [List.drop_eq_getElem_cons hlt]; exact List.mem_cons_of_mem _ hp))
      have HNk := Lib.hid (HNn.out qs[k] (List.getElem_mem hlt))
      have HLk := Lib.hid (HL.out k hlt)
      generalize hqk : qs[k] = qk at *
      obtain ⟨⟨nm, ms⟩, mv⟩ := qk
      simp only at hm hml
      obtain ⟨p5, cap5, g5, hmv, hcap5, hq5⟩ := own_shape hm.1
      have HMk := Lib.hid hm
      clear hm hqk HR hq5
      go_wp2_with fail
      refine (markText_any c wr (by omega)).mono ?_
      rintro e w1 ⟨rfl, hb1⟩
      have hown1 := own_below hown hb1
      have d0 : w1.cell? ⟨B, k * 2, none⟩ = some (L[k * 2]'(by have := HLl.out; omega)) := by rw [hown1.cellAt (k * 2) (by omega), List.getElem?_eq_getElem (by have := HLl.out; omega)]
      have f0 := hown1.frozenAt (k * 2)
      have hs0 := hown1.stored (k * 2) (.string (mkText c))
      have HS0 := Lib.hid hs0
      clear hs0
      have e1 : (w1.setCell ⟨B, k * 2, none⟩ (.string (mkText c))).cell? ⟨B, k * 2 + 1, none⟩ = some mv := by
        rw [HS0.out.1.cellAt (k * 2 + 1) (by omega), List.getElem?_set_ne (by omega)]
        exact HLk.out
      have e0 : w1.cell? ⟨B, k * 2 + 1, none⟩ = some mv := by
        rw [hown1.cellAt (k * 2 + 1) (by omega)]
        exact HLk.out
      have HO1 : Hid (Out B N w (w1.setCell ⟨B, k * 2, none⟩ (.string (mkText c)))) := Lib.hid ((HO.out.trans (Out.of_below hb1)).trans (Out.of_grown HS0.out.2 (fun g e => by cases e; exact ⟨Nat.le_refl _, hB⟩)))
      have lift : ∀ {v xs}, OwI (B + 1) wr v xs → OwI (B + 1) (w1.setCell ⟨B, k * 2, none⟩ (.string (mkText c))) v xs := fun h => (h.below hb1).setg (by omega) _ _
      have HMk1 := Lib.hid (lift HMk.out)
      have HRn1 : Hid (∀ p ∈ qs.drop (k + 1), OwI (B + 1) (w1.setCell ⟨B, k * 2, none⟩ (.string (mkText c))) p.2 p.1.ms) := Lib.hid (fun p hp => lift (HRn.out p hp))
      have HMt := Lib.hid (fun w h => markIntS_any mv ms (c + 1) (B + 1) w h (by omega) (by omega))
      clear lift HMk HRn hb1 HO
      subst hmv
      go_wp2_with fail
      refine (HMt.out _ HMk1.out).mono ?_
      rintro e w2 ⟨rfl, om, hg⟩
      have HG := Lib.hid hg
      have hlt5 := HMk1.out.lt
      have HO2 := Lib.hid (HO1.out.trans (Out.of_grown hg (fun g e => ⟨by have := (hlt5 g e).1; omega, HNk.out g e⟩)))
      have HR2 : Hid (∀ p ∈ qs.drop (k + 1), OwI (B + 1) w2 p.2 p.1.ms) := Lib.hid (fun p hp => (HRn1.out p hp).grown hg (by
        rcases HDk.out p hp with h | h
        · rw [h]
          cases hpo : p.2.ownBlock with
          | none => exact .inl rfl
          | some g => exact .inr (by simp)
        · exact .inr (fun e => h e.symm)))
      have hown2 := HS0.out.1.kept hg (.inr (fun e => by
        have := (hlt5 B e.symm).1
        omega))
      clear om hg hlt5
      go_wp2
      go_roundw
      case rel =>
        refine ⟨k + 1, _, _, by omega, by go_num, rfl, ?_, ?_, hown2, Lib.hid (fun j hj => ?_), HR2, HO2⟩
        · omega
        · push_cast; omega
        · rw [List.getElem?_set_ne (by omega)]
          exact HL.out j hj
      case measure => simp [intOf]; omega
    · go_wp2
      go_ret
      exact ⟨_, rfl, hc0, HO.out⟩
end Go.Proofs.YtpgonlfaeejakaaDoor
