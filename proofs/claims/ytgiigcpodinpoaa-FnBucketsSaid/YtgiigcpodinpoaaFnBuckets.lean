/- The law FnBuckets: a load that is delayed as told fits and one tick earlier it does not, and filling in two steps is filling in one. No condition. -/
import Derived.Test.YtgiigcpodinpoaaBuckDraws
import Derived.Test.YtgiigcpodinpoaaBuckMath
import Derived.Test.YtgiigcpodinpoaaRate5
import Derived.Test.YtgiigcpodinpoaaBoxK
import Derived.Test.YtgiigcpodinpoaaOpenY
import Derived.Test.YtgiigcpodinpoaaLawKit
import Derived.Deep.DeepCutAuto
namespace Go.Proofs.Ytgiigcpodinpoaa.FnBuckets
open Go.ChangeShapes Go.WideShapes Go.ChangeAt Go.RowKit

theorem facts (k : Bk) (x : Ld) : (tfB k x = true → (0 ≤ x.t + tfV k x ∧ x.t + tfV k x ≤ 10000 ∧ 0 ≤ tfV k x) ∧ ttB k ⟨x.t + tfV k x, x.s⟩ = true ∧ bkB (ttK k ⟨x.t + tfV k x, x.s⟩) = true) ∧
    (tfB k x = true → 0 < tfV k x → ttB k ⟨x.t + tfV k x - 1, x.s⟩ = false) ∧ (ttB k x = true → tfB k x = true ∧ tfV k x = 0) := by
  have key : tfB k x = true → canFill k x.t = true ∧ ldB x = true ∧ k.waitB x = true ∧ tfV k x = k.waitT x := by
    intro h
    have h' := h
    simp only [tfB, Bool.and_eq_true] at h
    obtain ⟨h1, h2⟩ := ask_parts h.1
    exact ⟨h1, h2, h.2, by simp [tfV, h']⟩
  refine ⟨fun h => ?_, fun h h0 => ?_, fun h => ?_⟩
  · obtain ⟨h1, h2, h3, h4⟩ := key h
    rw [h4]
    have h5 := told_fits h1 h2 h3
    have h6 := wait_nonneg h1
    refine ⟨?_, h5⟩
    have h7 := h5.1
    simp only [ttB, Bool.and_eq_true] at h7
    have h8 := ldB_iff.1 (ask_parts h7.1).2
    simp only at h8
    omega
  · obtain ⟨h1, h2, h3, h4⟩ := key h
    rw [h4] at h0 ⊢
    exact early_not h1 h2 h3 h0
  · obtain ⟨h1, h2⟩ := fits_now h
    simp only [ttB, Bool.and_eq_true] at h
    have h3 : tfB k x = true := by simp [tfB, h.1, h1]
    exact ⟨h3, by simp [tfV, h3, h2]⟩

theorem fillFacts (k : Bk) (now : Int) : canFill k now = true → (0 ≤ k.t + now ∧ k.t + now ≤ 20000) ∧ canFill k ((k.t + now) / 2) = true ∧ canFill (fiK k ((k.t + now) / 2)) now = true ∧ fiK (fiK k ((k.t + now) / 2)) now = fiK k now ∧
    (taN k now * k.d != (fiK k now).l * taD k now) = false ∧ (0 ≤ taN k now * k.d ∧ taN k now * k.d ≤ 10000000) ∧ 0 ≤ (fiK k now).l * taD k now ∧ (fiK k now).l * taD k now ≤ 10000000 := by
  intro h
  obtain ⟨h1, h2, h3, h4, h5, h6⟩ := half_can h
  have h7 : fiK k ((k.t + now) / 2) = k.fill ((k.t + now) / 2) := by simp [fiK, h2]
  obtain ⟨t1, t2, t3⟩ := tokens_level h
  refine ⟨⟨h4, h5⟩, h2, by rw [h7]; exact h6, ?_, by rw [← t1]; exact bne_self_eq_false _, ⟨t2, t3⟩, by rw [← t1]; exact t2, by rw [← t1]; exact t3⟩
  rw [h7, fiK, if_pos h6, fiK, if_pos h, fill_fill h2 h3]

set_option maxRecDepth 100000 in
set_option maxHeartbeats 16000000 in
theorem walk (v : Value) (w : World) (hx : ArgY w v) :
    Calls Try.prog 11 #[v] w fun e w' => e = .returned (.bool true) ∧ Below w.heap.size w w' := by
  obtain ⟨bs, hbs⟩ := hx
  by_cases hbig : 65536 < bs.length
  · go_enter Try.func11, Try.ntmps11
    go_wp2_with fail
    refine (rBig_any v bs w hbs).mono ?_
    rintro e w' ⟨rfl, rfl⟩
    go_wp2_with fail
    go_ret
    exact ⟨rfl, Below.refl _ _⟩
  have R0 := Lib.hid (hbs.1 (by omega))
  go_enter Try.func11, Try.ntmps11
  go_wp2_with fail
  refine (rBig_any v bs w hbs).mono ?_
  rintro e w' ⟨rfl, rfl⟩
  go_wp2_with fail
  refine (drawTicks_any v bs w R0.out).mono ?_
  rintro e w1 ⟨k, x, rfl, b1⟩
  have hI := implTicks_any k x
  have hS := specTicks_any k x
  have hT := implTake_any k x
  have hU := specTake_any k x
  obtain ⟨f1, f2, f3⟩ := facts k x
  have hA := implTake_any k ⟨x.t + tfV k x, x.s⟩
  have hB := implTake_any k ⟨x.t + tfV k x - 1, x.s⟩
  obtain ⟨n, d, b, l, t⟩ := k
  obtain ⟨xt, xs⟩ := x
  simp only at f1 f2 f3 hA hB
  generalize tfV ⟨n, d, b, l, t⟩ ⟨xt, xs⟩ = tv at hI hS hA hB f1 f2 f3
  generalize tfB ⟨n, d, b, l, t⟩ ⟨xt, xs⟩ = tb at hI hS f1 f2 f3
  generalize ttK ⟨n, d, b, l, t⟩ ⟨xt, xs⟩ = uk at hT hU
  generalize ttB ⟨n, d, b, l, t⟩ ⟨xt, xs⟩ = ub at hT hU f3
  generalize ttK ⟨n, d, b, l, t⟩ ⟨xt + tv, xs⟩ = ak at hA f1
  generalize ttB ⟨n, d, b, l, t⟩ ⟨xt + tv, xs⟩ = ab at hA f1
  generalize ttK ⟨n, d, b, l, t⟩ ⟨xt + tv - 1, xs⟩ = bk at hB
  generalize ttB ⟨n, d, b, l, t⟩ ⟨xt + tv - 1, xs⟩ = bb at hB f2
  obtain ⟨e1, e2, e3, e4, e5⟩ := uk
  obtain ⟨v1, v2, v3, v4, v5⟩ := bk
  have HI := Lib.hid hI; have HS := Lib.hid hS; have HT := Lib.hid hT; have HU := Lib.hid hU
  have HF1 := Lib.hid f1; have HF2 := Lib.hid f2; have HF3 := Lib.hid f3; have HA := Lib.hid hA; have HB := Lib.hid hB
  clear hI hS hT hU f1 f2 f3 hA hB hbs
  have B1 := Lib.hid b1; clear b1
  have z1 := B1.out.size
  go_wp2_with fail
  refine (HI.out _).mono ?_
  rintro e w2 ⟨rfl, b2⟩
  have b2_ : Below w1.heap.size w1 w2 := Below.trans (by go_grown) (b2.mono (by simp <;> omega))
  have z2 : w1.heap.size + 2 ≤ w2.heap.size := by have := b2.size; (try simp at this); omega
  have Hp_2 := Lib.hid ((b2.block (w1.heap.size) (by simp <;> omega)).trans (heap_alloc2_old _ _ _))
  have Hq_2 := Lib.hid ((b2.block (w1.heap.size + 1) (by simp <;> omega)).trans (heap_alloc2_new _ _ _))
  have HB_2 := Lib.hid (B1.out.trans (b2_.mono B1.out.size))
  clear B1 b2 b2_
  have ph := Hp_2.out; have p0 := cell_of_row w2 (w1.heap.size) 0 _ _ _ ph; simp at p0; have pf0 := frozen_of_row w2 (w1.heap.size) 0 _ _ ph; have p1 := cell_of_row w2 (w1.heap.size) 1 _ _ _ ph; simp at p1; have pf1 := frozen_of_row w2 (w1.heap.size) 1 _ _ ph; have p2 := cell_of_row w2 (w1.heap.size) 2 _ _ _ ph; simp at p2; have pf2 := frozen_of_row w2 (w1.heap.size) 2 _ _ ph; have p3 := cell_of_row w2 (w1.heap.size) 3 _ _ _ ph; simp at p3; have pf3 := frozen_of_row w2 (w1.heap.size) 3 _ _ ph; have p4 := cell_of_row w2 (w1.heap.size) 4 _ _ _ ph; simp at p4; have pf4 := frozen_of_row w2 (w1.heap.size) 4 _ _ ph; clear ph
  have ltp : w1.heap.size < w2.heap.size := (Array.getElem?_eq_some_iff.1 Hp_2.out).1
  have qh := Hq_2.out; have q0 := cell_of_row w2 (w1.heap.size + 1) 0 _ _ _ qh; simp at q0; have qf0 := frozen_of_row w2 (w1.heap.size + 1) 0 _ _ qh; have q1 := cell_of_row w2 (w1.heap.size + 1) 1 _ _ _ qh; simp at q1; have qf1 := frozen_of_row w2 (w1.heap.size + 1) 1 _ _ qh; clear qh
  have ltq : w1.heap.size + 1 < w2.heap.size := (Array.getElem?_eq_some_iff.1 Hq_2.out).1
  go_wp2_with fail
  refine (HS.out _).mono ?_
  rintro e w3 ⟨rfl, b3⟩
  have b3_ := b3
  have z3 : w2.heap.size + 0 ≤ w3.heap.size := by have := b3.size; (try simp at this); omega
  clear p0 pf0 p1 pf1 p2 pf2 p3 pf3 p4 pf4 ltp
  have Hp_3 := Lib.hid ((b3_.block (w1.heap.size) (by omega)).trans Hp_2.out)
  clear Hp_2
  clear q0 qf0 q1 qf1 ltq
  have Hq_3 := Lib.hid ((b3_.block (w1.heap.size + 1) (by omega)).trans Hq_2.out)
  clear Hq_2
  have HB_3 := Lib.hid (HB_2.out.trans (b3_.mono HB_2.out.size))
  clear HB_2 b3 b3_
  have ph := Hp_3.out; have p0 := cell_of_row w3 (w1.heap.size) 0 _ _ _ ph; simp at p0; have pf0 := frozen_of_row w3 (w1.heap.size) 0 _ _ ph; have p1 := cell_of_row w3 (w1.heap.size) 1 _ _ _ ph; simp at p1; have pf1 := frozen_of_row w3 (w1.heap.size) 1 _ _ ph; have p2 := cell_of_row w3 (w1.heap.size) 2 _ _ _ ph; simp at p2; have pf2 := frozen_of_row w3 (w1.heap.size) 2 _ _ ph; have p3 := cell_of_row w3 (w1.heap.size) 3 _ _ _ ph; simp at p3; have pf3 := frozen_of_row w3 (w1.heap.size) 3 _ _ ph; have p4 := cell_of_row w3 (w1.heap.size) 4 _ _ _ ph; simp at p4; have pf4 := frozen_of_row w3 (w1.heap.size) 4 _ _ ph; clear ph
  have ltp : w1.heap.size < w3.heap.size := (Array.getElem?_eq_some_iff.1 Hp_3.out).1
  have qh := Hq_3.out; have q0 := cell_of_row w3 (w1.heap.size + 1) 0 _ _ _ qh; simp at q0; have qf0 := frozen_of_row w3 (w1.heap.size + 1) 0 _ _ qh; have q1 := cell_of_row w3 (w1.heap.size + 1) 1 _ _ _ qh; simp at q1; have qf1 := frozen_of_row w3 (w1.heap.size + 1) 1 _ _ qh; clear qh
  have ltq : w1.heap.size + 1 < w3.heap.size := (Array.getElem?_eq_some_iff.1 Hq_3.out).1
  clear HI HS
  go_upto_if 72 with (fail)
  go_cut [] (fun wx => Hid (Below w3.heap.size w3 wx))
  case first =>
    as_aux_lemma =>
      have BB := Lib.hid (Below.refl w3.heap.size w3)
      cases tb
      · go_wp2_with fail
        go_meet
        exact Lib.hid (Below.refl _ _)
      · obtain ⟨⟨g1, g2, g3⟩, hab, hak⟩ := HF1.out rfl
        have hA := HA.out
        rw [hab] at hA
        have hV := isValid_any ak
        simp only [hak] at hV
        obtain ⟨a1, a2, a3, a4, a5⟩ := ak
        have HA2 := Lib.hid hA
        have HV := Lib.hid hV
        clear hA hV hab hak HA
        go_wp2_with fail
        refine (HA2.out _).mono ?_
        rintro e w4 ⟨rfl, b4⟩
        have b4_ := b4
        have z4 : w3.heap.size + 0 ≤ w4.heap.size := by have := b4.size; (try simp at this); omega
        clear p0 pf0 p1 pf1 p2 pf2 p3 pf3 p4 pf4 ltp
        have Hp_4 := Lib.hid ((b4_.block (w1.heap.size) (by omega)).trans Hp_3.out)
        clear Hp_3
        clear q0 qf0 q1 qf1 ltq
        have Hq_4 := Lib.hid ((b4_.block (w1.heap.size + 1) (by omega)).trans Hq_3.out)
        clear Hq_3
        have HB_4 := Lib.hid (BB.out.trans (b4_.mono BB.out.size))
        clear BB b4 b4_
        have ph := Hp_4.out; have p0 := cell_of_row w4 (w1.heap.size) 0 _ _ _ ph; simp at p0; have pf0 := frozen_of_row w4 (w1.heap.size) 0 _ _ ph; have p1 := cell_of_row w4 (w1.heap.size) 1 _ _ _ ph; simp at p1; have pf1 := frozen_of_row w4 (w1.heap.size) 1 _ _ ph; have p2 := cell_of_row w4 (w1.heap.size) 2 _ _ _ ph; simp at p2; have pf2 := frozen_of_row w4 (w1.heap.size) 2 _ _ ph; have p3 := cell_of_row w4 (w1.heap.size) 3 _ _ _ ph; simp at p3; have pf3 := frozen_of_row w4 (w1.heap.size) 3 _ _ ph; have p4 := cell_of_row w4 (w1.heap.size) 4 _ _ _ ph; simp at p4; have pf4 := frozen_of_row w4 (w1.heap.size) 4 _ _ ph; clear ph
        have ltp : w1.heap.size < w4.heap.size := (Array.getElem?_eq_some_iff.1 Hp_4.out).1
        have qh := Hq_4.out; have q0 := cell_of_row w4 (w1.heap.size + 1) 0 _ _ _ qh; simp at q0; have qf0 := frozen_of_row w4 (w1.heap.size + 1) 0 _ _ qh; have q1 := cell_of_row w4 (w1.heap.size + 1) 1 _ _ _ qh; simp at q1; have qf1 := frozen_of_row w4 (w1.heap.size + 1) 1 _ _ qh; clear qh
        have ltq : w1.heap.size + 1 < w4.heap.size := (Array.getElem?_eq_some_iff.1 Hq_4.out).1
        go_wp2_with fail
        refine (HV.out _).mono ?_
        rintro e w5 ⟨rfl, b5⟩
        have b5_ : Below w4.heap.size w4 w5 := Below.trans (by go_grown) (b5.mono (by simp <;> omega))
        have z5 : w4.heap.size + 1 ≤ w5.heap.size := by have := b5.size; (try simp at this); omega
        clear p0 pf0 p1 pf1 p2 pf2 p3 pf3 p4 pf4 ltp
        have Hp_5 := Lib.hid ((b5_.block (w1.heap.size) (by omega)).trans Hp_4.out)
        clear Hp_4
        clear q0 qf0 q1 qf1 ltq
        have Hq_5 := Lib.hid ((b5_.block (w1.heap.size + 1) (by omega)).trans Hq_4.out)
        clear Hq_4
        have Ha_5 := Lib.hid ((b5.block (w4.heap.size) (by simp <;> omega)).trans (heap_alloc_new _ _))
        have HB_5 := Lib.hid (HB_4.out.trans (b5_.mono HB_4.out.size))
        clear HB_4 b5 b5_
        have ph := Hp_5.out; have p0 := cell_of_row w5 (w1.heap.size) 0 _ _ _ ph; simp at p0; have pf0 := frozen_of_row w5 (w1.heap.size) 0 _ _ ph; have p1 := cell_of_row w5 (w1.heap.size) 1 _ _ _ ph; simp at p1; have pf1 := frozen_of_row w5 (w1.heap.size) 1 _ _ ph; have p2 := cell_of_row w5 (w1.heap.size) 2 _ _ _ ph; simp at p2; have pf2 := frozen_of_row w5 (w1.heap.size) 2 _ _ ph; have p3 := cell_of_row w5 (w1.heap.size) 3 _ _ _ ph; simp at p3; have pf3 := frozen_of_row w5 (w1.heap.size) 3 _ _ ph; have p4 := cell_of_row w5 (w1.heap.size) 4 _ _ _ ph; simp at p4; have pf4 := frozen_of_row w5 (w1.heap.size) 4 _ _ ph; clear ph
        have ltp : w1.heap.size < w5.heap.size := (Array.getElem?_eq_some_iff.1 Hp_5.out).1
        have qh := Hq_5.out; have q0 := cell_of_row w5 (w1.heap.size + 1) 0 _ _ _ qh; simp at q0; have qf0 := frozen_of_row w5 (w1.heap.size + 1) 0 _ _ qh; have q1 := cell_of_row w5 (w1.heap.size + 1) 1 _ _ _ qh; simp at q1; have qf1 := frozen_of_row w5 (w1.heap.size + 1) 1 _ _ qh; clear qh
        have ltq : w1.heap.size + 1 < w5.heap.size := (Array.getElem?_eq_some_iff.1 Hq_5.out).1
        have ah := Ha_5.out; have a0 := cell_of_row w5 (w4.heap.size) 0 _ _ _ ah; simp at a0; have af0 := frozen_of_row w5 (w4.heap.size) 0 _ _ ah; have a1 := cell_of_row w5 (w4.heap.size) 1 _ _ _ ah; simp at a1; have af1 := frozen_of_row w5 (w4.heap.size) 1 _ _ ah; have a2 := cell_of_row w5 (w4.heap.size) 2 _ _ _ ah; simp at a2; have af2 := frozen_of_row w5 (w4.heap.size) 2 _ _ ah; have a3 := cell_of_row w5 (w4.heap.size) 3 _ _ _ ah; simp at a3; have af3 := frozen_of_row w5 (w4.heap.size) 3 _ _ ah; have a4 := cell_of_row w5 (w4.heap.size) 4 _ _ _ ah; simp at a4; have af4 := frozen_of_row w5 (w4.heap.size) 4 _ _ ah; clear ah
        have lta : w4.heap.size < w5.heap.size := (Array.getElem?_eq_some_iff.1 Ha_5.out).1
        clear a0 af0 a1 af1 a2 af2 a3 af3 a4 af4 lta
        clear Ha_5
        go_wp2_with fail
        refine (HB.out _).mono ?_
        rintro e w6 ⟨rfl, b6⟩
        have b6_ := b6
        have z6 : w5.heap.size + 0 ≤ w6.heap.size := by have := b6.size; (try simp at this); omega
        clear p0 pf0 p1 pf1 p2 pf2 p3 pf3 p4 pf4 ltp
        have Hp_6 := Lib.hid ((b6_.block (w1.heap.size) (by omega)).trans Hp_5.out)
        clear Hp_5
        clear q0 qf0 q1 qf1 ltq
        have Hq_6 := Lib.hid ((b6_.block (w1.heap.size + 1) (by omega)).trans Hq_5.out)
        clear Hq_5
        have HB_6 := Lib.hid (HB_5.out.trans (b6_.mono HB_5.out.size))
        clear HB_5 b6 b6_
        have ph := Hp_6.out; have p0 := cell_of_row w6 (w1.heap.size) 0 _ _ _ ph; simp at p0; have pf0 := frozen_of_row w6 (w1.heap.size) 0 _ _ ph; have p1 := cell_of_row w6 (w1.heap.size) 1 _ _ _ ph; simp at p1; have pf1 := frozen_of_row w6 (w1.heap.size) 1 _ _ ph; have p2 := cell_of_row w6 (w1.heap.size) 2 _ _ _ ph; simp at p2; have pf2 := frozen_of_row w6 (w1.heap.size) 2 _ _ ph; have p3 := cell_of_row w6 (w1.heap.size) 3 _ _ _ ph; simp at p3; have pf3 := frozen_of_row w6 (w1.heap.size) 3 _ _ ph; have p4 := cell_of_row w6 (w1.heap.size) 4 _ _ _ ph; simp at p4; have pf4 := frozen_of_row w6 (w1.heap.size) 4 _ _ ph; clear ph
        have ltp : w1.heap.size < w6.heap.size := (Array.getElem?_eq_some_iff.1 Hp_6.out).1
        have qh := Hq_6.out; have q0 := cell_of_row w6 (w1.heap.size + 1) 0 _ _ _ qh; simp at q0; have qf0 := frozen_of_row w6 (w1.heap.size + 1) 0 _ _ qh; have q1 := cell_of_row w6 (w1.heap.size + 1) 1 _ _ _ qh; simp at q1; have qf1 := frozen_of_row w6 (w1.heap.size + 1) 1 _ _ qh; clear qh
        have ltq : w1.heap.size + 1 < w6.heap.size := (Array.getElem?_eq_some_iff.1 Hq_6.out).1
        clear p0 pf0 p1 pf1 p2 pf2 p3 pf3 p4 pf4 ltp
        clear Hp_6
        clear q0 qf0 q1 qf1 ltq
        clear Hq_6
        clear HA2 HV HB
        by_cases h0 : 0 < tv
        · obtain rfl := HF2.out (by trivial) h0
          clear HF1 HF2 HF3
          go_wp2_with fail
          go_meet
          exact Lib.hid (HB_6.out.alloc HB_6.out.size _)
        · have h1 : tv ≤ 0 := by omega
          clear HF1 HF2 HF3
          go_wp2_with fail
          go_meet
          exact Lib.hid (HB_6.out.alloc HB_6.out.size _)
  case rest =>
    as_aux_lemma =>
      have hc := hcut.out; clear hcut HF1 HF2 HA HB
      have z4 := hc.size
      have Hp_4 := Lib.hid ((hc.block (w1.heap.size) ltp).trans Hp_3.out)
      have Hq_4 := Lib.hid ((hc.block (w1.heap.size + 1) ltq).trans Hq_3.out)
      clear p0 pf0 p1 pf1 p2 pf2 p3 pf3 p4 pf4 q0 qf0 q1 qf1 ltp ltq Hp_3 Hq_3
      have HB_4 := Lib.hid (HB_3.out.trans (hc.mono HB_3.out.size)); clear hc HB_3
      have ph := Hp_4.out; have p0 := cell_of_row wc (w1.heap.size) 0 _ _ _ ph; simp at p0; have pf0 := frozen_of_row wc (w1.heap.size) 0 _ _ ph; have p1 := cell_of_row wc (w1.heap.size) 1 _ _ _ ph; simp at p1; have pf1 := frozen_of_row wc (w1.heap.size) 1 _ _ ph; have p2 := cell_of_row wc (w1.heap.size) 2 _ _ _ ph; simp at p2; have pf2 := frozen_of_row wc (w1.heap.size) 2 _ _ ph; have p3 := cell_of_row wc (w1.heap.size) 3 _ _ _ ph; simp at p3; have pf3 := frozen_of_row wc (w1.heap.size) 3 _ _ ph; have p4 := cell_of_row wc (w1.heap.size) 4 _ _ _ ph; simp at p4; have pf4 := frozen_of_row wc (w1.heap.size) 4 _ _ ph; clear ph
      have ltp : w1.heap.size < wc.heap.size := (Array.getElem?_eq_some_iff.1 Hp_4.out).1
      have qh := Hq_4.out; have q0 := cell_of_row wc (w1.heap.size + 1) 0 _ _ _ qh; simp at q0; have qf0 := frozen_of_row wc (w1.heap.size + 1) 0 _ _ qh; have q1 := cell_of_row wc (w1.heap.size + 1) 1 _ _ _ qh; simp at q1; have qf1 := frozen_of_row wc (w1.heap.size + 1) 1 _ _ qh; clear qh
      have ltq : w1.heap.size + 1 < wc.heap.size := (Array.getElem?_eq_some_iff.1 Hq_4.out).1
      go_wp2_with fail
      refine (HT.out _).mono ?_
      rintro e w5 ⟨rfl, b5⟩
      have b5_ := b5
      have z5 : wc.heap.size + 0 ≤ w5.heap.size := by have := b5.size; (try simp at this); omega
      clear p0 pf0 p1 pf1 p2 pf2 p3 pf3 p4 pf4 ltp
      have Hp_5 := Lib.hid ((b5_.block (w1.heap.size) (by omega)).trans Hp_4.out)
      clear Hp_4
      clear q0 qf0 q1 qf1 ltq
      have Hq_5 := Lib.hid ((b5_.block (w1.heap.size + 1) (by omega)).trans Hq_4.out)
      clear Hq_4
      have HB_5 := Lib.hid (HB_4.out.trans (b5_.mono HB_4.out.size))
      clear HB_4 b5 b5_
      have ph := Hp_5.out; have p0 := cell_of_row w5 (w1.heap.size) 0 _ _ _ ph; simp at p0; have pf0 := frozen_of_row w5 (w1.heap.size) 0 _ _ ph; have p1 := cell_of_row w5 (w1.heap.size) 1 _ _ _ ph; simp at p1; have pf1 := frozen_of_row w5 (w1.heap.size) 1 _ _ ph; have p2 := cell_of_row w5 (w1.heap.size) 2 _ _ _ ph; simp at p2; have pf2 := frozen_of_row w5 (w1.heap.size) 2 _ _ ph; have p3 := cell_of_row w5 (w1.heap.size) 3 _ _ _ ph; simp at p3; have pf3 := frozen_of_row w5 (w1.heap.size) 3 _ _ ph; have p4 := cell_of_row w5 (w1.heap.size) 4 _ _ _ ph; simp at p4; have pf4 := frozen_of_row w5 (w1.heap.size) 4 _ _ ph; clear ph
      have ltp : w1.heap.size < w5.heap.size := (Array.getElem?_eq_some_iff.1 Hp_5.out).1
      have qh := Hq_5.out; have q0 := cell_of_row w5 (w1.heap.size + 1) 0 _ _ _ qh; simp at q0; have qf0 := frozen_of_row w5 (w1.heap.size + 1) 0 _ _ qh; have q1 := cell_of_row w5 (w1.heap.size + 1) 1 _ _ _ qh; simp at q1; have qf1 := frozen_of_row w5 (w1.heap.size + 1) 1 _ _ qh; clear qh
      have ltq : w1.heap.size + 1 < w5.heap.size := (Array.getElem?_eq_some_iff.1 Hq_5.out).1
      go_wp2_with fail
      refine (HU.out _).mono ?_
      rintro e w6 ⟨rfl, b6⟩
      have b6_ : Below w5.heap.size w5 w6 := Below.trans (by go_grown) (b6.mono (by simp <;> omega))
      have z6 : w5.heap.size + 1 ≤ w6.heap.size := by have := b6.size; (try simp at this); omega
      clear p0 pf0 p1 pf1 p2 pf2 p3 pf3 p4 pf4 ltp
      have Hp_6 := Lib.hid ((b6_.block (w1.heap.size) (by omega)).trans Hp_5.out)
      clear Hp_5
      clear q0 qf0 q1 qf1 ltq
      have Hq_6 := Lib.hid ((b6_.block (w1.heap.size + 1) (by omega)).trans Hq_5.out)
      clear Hq_5
      have Hm_6 := Lib.hid ((b6.block (w5.heap.size) (by simp <;> omega)).trans (heap_alloc_new _ _))
      have HB_6 := Lib.hid (HB_5.out.trans (b6_.mono HB_5.out.size))
      clear HB_5 b6 b6_
      have ph := Hp_6.out; have p0 := cell_of_row w6 (w1.heap.size) 0 _ _ _ ph; simp at p0; have pf0 := frozen_of_row w6 (w1.heap.size) 0 _ _ ph; have p1 := cell_of_row w6 (w1.heap.size) 1 _ _ _ ph; simp at p1; have pf1 := frozen_of_row w6 (w1.heap.size) 1 _ _ ph; have p2 := cell_of_row w6 (w1.heap.size) 2 _ _ _ ph; simp at p2; have pf2 := frozen_of_row w6 (w1.heap.size) 2 _ _ ph; have p3 := cell_of_row w6 (w1.heap.size) 3 _ _ _ ph; simp at p3; have pf3 := frozen_of_row w6 (w1.heap.size) 3 _ _ ph; have p4 := cell_of_row w6 (w1.heap.size) 4 _ _ _ ph; simp at p4; have pf4 := frozen_of_row w6 (w1.heap.size) 4 _ _ ph; clear ph
      have ltp : w1.heap.size < w6.heap.size := (Array.getElem?_eq_some_iff.1 Hp_6.out).1
      have qh := Hq_6.out; have q0 := cell_of_row w6 (w1.heap.size + 1) 0 _ _ _ qh; simp at q0; have qf0 := frozen_of_row w6 (w1.heap.size + 1) 0 _ _ qh; have q1 := cell_of_row w6 (w1.heap.size + 1) 1 _ _ _ qh; simp at q1; have qf1 := frozen_of_row w6 (w1.heap.size + 1) 1 _ _ qh; clear qh
      have ltq : w1.heap.size + 1 < w6.heap.size := (Array.getElem?_eq_some_iff.1 Hq_6.out).1
      have mh := Hm_6.out; have m0 := cell_of_row w6 (w5.heap.size) 0 _ _ _ mh; simp at m0; have mf0 := frozen_of_row w6 (w5.heap.size) 0 _ _ mh; have m1 := cell_of_row w6 (w5.heap.size) 1 _ _ _ mh; simp at m1; have mf1 := frozen_of_row w6 (w5.heap.size) 1 _ _ mh; have m2 := cell_of_row w6 (w5.heap.size) 2 _ _ _ mh; simp at m2; have mf2 := frozen_of_row w6 (w5.heap.size) 2 _ _ mh; have m3 := cell_of_row w6 (w5.heap.size) 3 _ _ _ mh; simp at m3; have mf3 := frozen_of_row w6 (w5.heap.size) 3 _ _ mh; have m4 := cell_of_row w6 (w5.heap.size) 4 _ _ _ mh; simp at m4; have mf4 := frozen_of_row w6 (w5.heap.size) 4 _ _ mh; clear mh
      have ltm : w5.heap.size < w6.heap.size := (Array.getElem?_eq_some_iff.1 Hm_6.out).1
      clear p0 pf0 p1 pf1 p2 pf2 p3 pf3 p4 pf4 ltp
      clear Hp_6
      clear q0 qf0 q1 qf1 ltq
      clear Hq_6
      clear HT HU
      have hf3 := HF3.out; clear HF3
      go_upto_region 17 with (fail)
      have HX := Lib.hid (HB_6.out.alloc HB_6.out.size (.cells #[.int .i64 e1, .int .i64 e2, .int .i64 e3, .int .i64 e4, .int .i64 e5] 25))
      go_cut [140] (fun s wx => s = .bool false ∧ Hid (Below w.heap.size w wx))
      case first =>
        as_aux_lemma =>
          cases ub
          · clear hf3
            go_wp2_with fail
            go_meet
            exact ⟨rfl, HX⟩
          · obtain ⟨rfl, rfl⟩ := hf3 rfl
            go_wp2_with fail
            go_meet
            exact ⟨rfl, HX⟩
      case rest =>
        as_aux_lemma =>
          obtain ⟨rfl, HB5⟩ := hcut
          clear HX hf3
          clear m0 mf0 m1 mf1 m2 mf2 m3 mf3 m4 mf4 ltm Hm_6
          clear HB_6
          go_wp2_with fail
          refine (drawFill_any v bs _ (R0.out.below HB5.out)).mono ?_
          rintro e w7 ⟨kc, now, rfl, b7⟩
          have b7_ := b7
          have z7 : wc.heap.size + 0 ≤ w7.heap.size := by have := b7.size; (try simp at this); omega
          have HB_7 := Lib.hid (HB5.out.trans (b7_.mono HB5.out.size))
          clear HB5 b7 b7_
          have hI := implFill_any kc now
          have hS := specFill_any kc now
          have hK := fillFacts kc now
          have hT := implTokens_any kc now
          have hH := implFill_any kc ((kc.t + now) / 2)
          have hA := implFill_any (fiK kc ((kc.t + now) / 2)) now
          obtain ⟨n, d, b, l, t⟩ := kc
          simp only at hH hA hK
          generalize fiK (fiK ⟨n, d, b, l, t⟩ ((t + now) / 2)) now = kA at hA hK
          generalize canFill (fiK ⟨n, d, b, l, t⟩ ((t + now) / 2)) now = bA at hA hK
          generalize fiK ⟨n, d, b, l, t⟩ ((t + now) / 2) = kH at hH hA
          generalize canFill ⟨n, d, b, l, t⟩ ((t + now) / 2) = bH at hH hK
          generalize canFill ⟨n, d, b, l, t⟩ now = bc at hI hS hK hT
          generalize fiK ⟨n, d, b, l, t⟩ now = kF at hI hS hK
          generalize taN ⟨n, d, b, l, t⟩ now = tN at hT hK
          generalize taD ⟨n, d, b, l, t⟩ now = tD at hT hK
          obtain ⟨f1, f2, f3, f4, f5⟩ := kF
          obtain ⟨h1, h2, h3, h4, h5⟩ := kH
          have HI := Lib.hid hI; have HS := Lib.hid hS; have HK := Lib.hid hK; have HT := Lib.hid hT; have HH := Lib.hid hH; have HA := Lib.hid hA
          clear hI hS hK hT hH hA
          go_wp2_with fail
          refine (HI.out _).mono ?_
          rintro e w8 ⟨rfl, b8⟩
          have b8_ : Below w7.heap.size w7 w8 := Below.trans (by go_grown) (b8.mono (by simp <;> omega))
          have z8 : w7.heap.size + 1 ≤ w8.heap.size := by have := b8.size; (try simp at this); omega
          have Hc_8 := Lib.hid ((b8.block (w7.heap.size) (by simp <;> omega)).trans (heap_alloc_new _ _))
          have HB_8 := Lib.hid (HB_7.out.trans (b8_.mono HB_7.out.size))
          clear HB_7 b8 b8_
          have ch := Hc_8.out; have c0 := cell_of_row w8 (w7.heap.size) 0 _ _ _ ch; simp at c0; have cf0 := frozen_of_row w8 (w7.heap.size) 0 _ _ ch; have c1 := cell_of_row w8 (w7.heap.size) 1 _ _ _ ch; simp at c1; have cf1 := frozen_of_row w8 (w7.heap.size) 1 _ _ ch; have c2 := cell_of_row w8 (w7.heap.size) 2 _ _ _ ch; simp at c2; have cf2 := frozen_of_row w8 (w7.heap.size) 2 _ _ ch; have c3 := cell_of_row w8 (w7.heap.size) 3 _ _ _ ch; simp at c3; have cf3 := frozen_of_row w8 (w7.heap.size) 3 _ _ ch; have c4 := cell_of_row w8 (w7.heap.size) 4 _ _ _ ch; simp at c4; have cf4 := frozen_of_row w8 (w7.heap.size) 4 _ _ ch; clear ch
          have ltc : w7.heap.size < w8.heap.size := (Array.getElem?_eq_some_iff.1 Hc_8.out).1
          go_wp2_with fail
          refine (HS.out _).mono ?_
          rintro e w9 ⟨rfl, b9⟩
          have b9_ : Below w8.heap.size w8 w9 := Below.trans (by go_grown) (b9.mono (by simp <;> omega))
          have z9 : w8.heap.size + 1 ≤ w9.heap.size := by have := b9.size; (try simp at this); omega
          clear c0 cf0 c1 cf1 c2 cf2 c3 cf3 c4 cf4 ltc
          have Hc_9 := Lib.hid ((b9_.block (w7.heap.size) (by omega)).trans Hc_8.out)
          clear Hc_8
          have Hx_9 := Lib.hid ((b9.block (w8.heap.size) (by simp <;> omega)).trans (heap_alloc_new _ _))
          have HB_9 := Lib.hid (HB_8.out.trans (b9_.mono HB_8.out.size))
          clear HB_8 b9 b9_
          have ch := Hc_9.out; have c0 := cell_of_row w9 (w7.heap.size) 0 _ _ _ ch; simp at c0; have cf0 := frozen_of_row w9 (w7.heap.size) 0 _ _ ch; have c1 := cell_of_row w9 (w7.heap.size) 1 _ _ _ ch; simp at c1; have cf1 := frozen_of_row w9 (w7.heap.size) 1 _ _ ch; have c2 := cell_of_row w9 (w7.heap.size) 2 _ _ _ ch; simp at c2; have cf2 := frozen_of_row w9 (w7.heap.size) 2 _ _ ch; have c3 := cell_of_row w9 (w7.heap.size) 3 _ _ _ ch; simp at c3; have cf3 := frozen_of_row w9 (w7.heap.size) 3 _ _ ch; have c4 := cell_of_row w9 (w7.heap.size) 4 _ _ _ ch; simp at c4; have cf4 := frozen_of_row w9 (w7.heap.size) 4 _ _ ch; clear ch
          have ltc : w7.heap.size < w9.heap.size := (Array.getElem?_eq_some_iff.1 Hc_9.out).1
          have xh := Hx_9.out; have x0 := cell_of_row w9 (w8.heap.size) 0 _ _ _ xh; simp at x0; have xf0 := frozen_of_row w9 (w8.heap.size) 0 _ _ xh; have x1 := cell_of_row w9 (w8.heap.size) 1 _ _ _ xh; simp at x1; have xf1 := frozen_of_row w9 (w8.heap.size) 1 _ _ xh; have x2 := cell_of_row w9 (w8.heap.size) 2 _ _ _ xh; simp at x2; have xf2 := frozen_of_row w9 (w8.heap.size) 2 _ _ xh; have x3 := cell_of_row w9 (w8.heap.size) 3 _ _ _ xh; simp at x3; have xf3 := frozen_of_row w9 (w8.heap.size) 3 _ _ xh; have x4 := cell_of_row w9 (w8.heap.size) 4 _ _ _ xh; simp at x4; have xf4 := frozen_of_row w9 (w8.heap.size) 4 _ _ xh; clear xh
          have ltx : w8.heap.size < w9.heap.size := (Array.getElem?_eq_some_iff.1 Hx_9.out).1
          clear HI HS
          go_upto_if 166 with (fail)
          have HX := Lib.hid (HB_9.out.alloc HB_9.out.size (.cells #[.int .i64 f1, .int .i64 f2, .int .i64 f3, .int .i64 f4, .int .i64 f5] 25))
          go_cut [] (fun wx => Hid (Below w.heap.size w wx))
          case first =>
            as_aux_lemma =>
              cases bc
              · go_wp2_with fail
                go_meet
                exact HX
              · obtain ⟨⟨g1, g2⟩, rfl, rfl, rfl, g3, ⟨g4, g5⟩, g6, g7⟩ := HK.out rfl
                go_wp2_with fail
                refine (HH.out _).mono ?_
                rintro e w10 ⟨rfl, b10⟩
                have b10_ : Below w9.heap.size w9 w10 := Below.trans (by go_grown) (b10.mono (by simp <;> omega))
                have z10 : w9.heap.size + 1 ≤ w10.heap.size := by have := b10.size; (try simp at this); omega
                clear c0 cf0 c1 cf1 c2 cf2 c3 cf3 c4 cf4 ltc
                have Hc_10 := Lib.hid ((b10_.block (w7.heap.size) (by omega)).trans Hc_9.out)
                clear Hc_9
                clear x0 xf0 x1 xf1 x2 xf2 x3 xf3 x4 xf4 ltx
                have Hx_10 := Lib.hid ((b10_.block (w8.heap.size) (by omega)).trans Hx_9.out)
                clear Hx_9
                have Hy_10 := Lib.hid ((b10.block (w9.heap.size) (by simp <;> omega)).trans (heap_alloc_new _ _))
                have HB_10 := Lib.hid (HB_9.out.trans (b10_.mono HB_9.out.size))
                clear HB_9 b10 b10_
                have ch := Hc_10.out; have c0 := cell_of_row w10 (w7.heap.size) 0 _ _ _ ch; simp at c0; have cf0 := frozen_of_row w10 (w7.heap.size) 0 _ _ ch; have c1 := cell_of_row w10 (w7.heap.size) 1 _ _ _ ch; simp at c1; have cf1 := frozen_of_row w10 (w7.heap.size) 1 _ _ ch; have c2 := cell_of_row w10 (w7.heap.size) 2 _ _ _ ch; simp at c2; have cf2 := frozen_of_row w10 (w7.heap.size) 2 _ _ ch; have c3 := cell_of_row w10 (w7.heap.size) 3 _ _ _ ch; simp at c3; have cf3 := frozen_of_row w10 (w7.heap.size) 3 _ _ ch; have c4 := cell_of_row w10 (w7.heap.size) 4 _ _ _ ch; simp at c4; have cf4 := frozen_of_row w10 (w7.heap.size) 4 _ _ ch; clear ch
                have ltc : w7.heap.size < w10.heap.size := (Array.getElem?_eq_some_iff.1 Hc_10.out).1
                have xh := Hx_10.out; have x0 := cell_of_row w10 (w8.heap.size) 0 _ _ _ xh; simp at x0; have xf0 := frozen_of_row w10 (w8.heap.size) 0 _ _ xh; have x1 := cell_of_row w10 (w8.heap.size) 1 _ _ _ xh; simp at x1; have xf1 := frozen_of_row w10 (w8.heap.size) 1 _ _ xh; have x2 := cell_of_row w10 (w8.heap.size) 2 _ _ _ xh; simp at x2; have xf2 := frozen_of_row w10 (w8.heap.size) 2 _ _ xh; have x3 := cell_of_row w10 (w8.heap.size) 3 _ _ _ xh; simp at x3; have xf3 := frozen_of_row w10 (w8.heap.size) 3 _ _ xh; have x4 := cell_of_row w10 (w8.heap.size) 4 _ _ _ xh; simp at x4; have xf4 := frozen_of_row w10 (w8.heap.size) 4 _ _ xh; clear xh
                have ltx : w8.heap.size < w10.heap.size := (Array.getElem?_eq_some_iff.1 Hx_10.out).1
                have yh := Hy_10.out; have y0 := cell_of_row w10 (w9.heap.size) 0 _ _ _ yh; simp at y0; have yf0 := frozen_of_row w10 (w9.heap.size) 0 _ _ yh; have y1 := cell_of_row w10 (w9.heap.size) 1 _ _ _ yh; simp at y1; have yf1 := frozen_of_row w10 (w9.heap.size) 1 _ _ yh; have y2 := cell_of_row w10 (w9.heap.size) 2 _ _ _ yh; simp at y2; have yf2 := frozen_of_row w10 (w9.heap.size) 2 _ _ yh; have y3 := cell_of_row w10 (w9.heap.size) 3 _ _ _ yh; simp at y3; have yf3 := frozen_of_row w10 (w9.heap.size) 3 _ _ yh; have y4 := cell_of_row w10 (w9.heap.size) 4 _ _ _ yh; simp at y4; have yf4 := frozen_of_row w10 (w9.heap.size) 4 _ _ yh; clear yh
                have lty : w9.heap.size < w10.heap.size := (Array.getElem?_eq_some_iff.1 Hy_10.out).1
                go_wp2_with fail
                refine (HA.out _).mono ?_
                rintro e w11 ⟨rfl, b11⟩
                have b11_ : Below w10.heap.size w10 w11 := Below.trans (by go_grown) (b11.mono (by simp <;> omega))
                have z11 : w10.heap.size + 1 ≤ w11.heap.size := by have := b11.size; (try simp at this); omega
                clear c0 cf0 c1 cf1 c2 cf2 c3 cf3 c4 cf4 ltc
                have Hc_11 := Lib.hid ((b11_.block (w7.heap.size) (by omega)).trans Hc_10.out)
                clear Hc_10
                clear x0 xf0 x1 xf1 x2 xf2 x3 xf3 x4 xf4 ltx
                have Hx_11 := Lib.hid ((b11_.block (w8.heap.size) (by omega)).trans Hx_10.out)
                clear Hx_10
                clear y0 yf0 y1 yf1 y2 yf2 y3 yf3 y4 yf4 lty
                have Hy_11 := Lib.hid ((b11_.block (w9.heap.size) (by omega)).trans Hy_10.out)
                clear Hy_10
                have Hh_11 := Lib.hid ((b11.block (w10.heap.size) (by simp <;> omega)).trans (heap_alloc_new _ _))
                have HB_11 := Lib.hid (HB_10.out.trans (b11_.mono HB_10.out.size))
                clear HB_10 b11 b11_
                have ch := Hc_11.out; have c0 := cell_of_row w11 (w7.heap.size) 0 _ _ _ ch; simp at c0; have cf0 := frozen_of_row w11 (w7.heap.size) 0 _ _ ch; have c1 := cell_of_row w11 (w7.heap.size) 1 _ _ _ ch; simp at c1; have cf1 := frozen_of_row w11 (w7.heap.size) 1 _ _ ch; have c2 := cell_of_row w11 (w7.heap.size) 2 _ _ _ ch; simp at c2; have cf2 := frozen_of_row w11 (w7.heap.size) 2 _ _ ch; have c3 := cell_of_row w11 (w7.heap.size) 3 _ _ _ ch; simp at c3; have cf3 := frozen_of_row w11 (w7.heap.size) 3 _ _ ch; have c4 := cell_of_row w11 (w7.heap.size) 4 _ _ _ ch; simp at c4; have cf4 := frozen_of_row w11 (w7.heap.size) 4 _ _ ch; clear ch
                have ltc : w7.heap.size < w11.heap.size := (Array.getElem?_eq_some_iff.1 Hc_11.out).1
                have xh := Hx_11.out; have x0 := cell_of_row w11 (w8.heap.size) 0 _ _ _ xh; simp at x0; have xf0 := frozen_of_row w11 (w8.heap.size) 0 _ _ xh; have x1 := cell_of_row w11 (w8.heap.size) 1 _ _ _ xh; simp at x1; have xf1 := frozen_of_row w11 (w8.heap.size) 1 _ _ xh; have x2 := cell_of_row w11 (w8.heap.size) 2 _ _ _ xh; simp at x2; have xf2 := frozen_of_row w11 (w8.heap.size) 2 _ _ xh; have x3 := cell_of_row w11 (w8.heap.size) 3 _ _ _ xh; simp at x3; have xf3 := frozen_of_row w11 (w8.heap.size) 3 _ _ xh; have x4 := cell_of_row w11 (w8.heap.size) 4 _ _ _ xh; simp at x4; have xf4 := frozen_of_row w11 (w8.heap.size) 4 _ _ xh; clear xh
                have ltx : w8.heap.size < w11.heap.size := (Array.getElem?_eq_some_iff.1 Hx_11.out).1
                have yh := Hy_11.out; have y0 := cell_of_row w11 (w9.heap.size) 0 _ _ _ yh; simp at y0; have yf0 := frozen_of_row w11 (w9.heap.size) 0 _ _ yh; have y1 := cell_of_row w11 (w9.heap.size) 1 _ _ _ yh; simp at y1; have yf1 := frozen_of_row w11 (w9.heap.size) 1 _ _ yh; have y2 := cell_of_row w11 (w9.heap.size) 2 _ _ _ yh; simp at y2; have yf2 := frozen_of_row w11 (w9.heap.size) 2 _ _ yh; have y3 := cell_of_row w11 (w9.heap.size) 3 _ _ _ yh; simp at y3; have yf3 := frozen_of_row w11 (w9.heap.size) 3 _ _ yh; have y4 := cell_of_row w11 (w9.heap.size) 4 _ _ _ yh; simp at y4; have yf4 := frozen_of_row w11 (w9.heap.size) 4 _ _ yh; clear yh
                have lty : w9.heap.size < w11.heap.size := (Array.getElem?_eq_some_iff.1 Hy_11.out).1
                have hh := Hh_11.out; have h0 := cell_of_row w11 (w10.heap.size) 0 _ _ _ hh; simp at h0; have hf0 := frozen_of_row w11 (w10.heap.size) 0 _ _ hh; have h1 := cell_of_row w11 (w10.heap.size) 1 _ _ _ hh; simp at h1; have hf1 := frozen_of_row w11 (w10.heap.size) 1 _ _ hh; have h2 := cell_of_row w11 (w10.heap.size) 2 _ _ _ hh; simp at h2; have hf2 := frozen_of_row w11 (w10.heap.size) 2 _ _ hh; have h3 := cell_of_row w11 (w10.heap.size) 3 _ _ _ hh; simp at h3; have hf3 := frozen_of_row w11 (w10.heap.size) 3 _ _ hh; have h4 := cell_of_row w11 (w10.heap.size) 4 _ _ _ hh; simp at h4; have hf4 := frozen_of_row w11 (w10.heap.size) 4 _ _ hh; clear hh
                have lth : w10.heap.size < w11.heap.size := (Array.getElem?_eq_some_iff.1 Hh_11.out).1
                go_wp2_with fail
                refine (HT.out _).mono ?_
                rintro e w12 ⟨rfl, b12⟩
                have b12_ : Below w11.heap.size w11 w12 := Below.trans (by go_grown) (b12.mono (by simp <;> omega))
                have z12 : w11.heap.size + 1 ≤ w12.heap.size := by have := b12.size; (try simp at this); omega
                clear c0 cf0 c1 cf1 c2 cf2 c3 cf3 c4 cf4 ltc
                have Hc_12 := Lib.hid ((b12_.block (w7.heap.size) (by omega)).trans Hc_11.out)
                clear Hc_11
                clear x0 xf0 x1 xf1 x2 xf2 x3 xf3 x4 xf4 ltx
                have Hx_12 := Lib.hid ((b12_.block (w8.heap.size) (by omega)).trans Hx_11.out)
                clear Hx_11
                clear y0 yf0 y1 yf1 y2 yf2 y3 yf3 y4 yf4 lty
                have Hy_12 := Lib.hid ((b12_.block (w9.heap.size) (by omega)).trans Hy_11.out)
                clear Hy_11
                clear h0 hf0 h1 hf1 h2 hf2 h3 hf3 h4 hf4 lth
                have Hh_12 := Lib.hid ((b12_.block (w10.heap.size) (by omega)).trans Hh_11.out)
                clear Hh_11
                have Ha_12 := Lib.hid ((b12.block (w11.heap.size) (by simp <;> omega)).trans (heap_alloc_new _ _))
                have HB_12 := Lib.hid (HB_11.out.trans (b12_.mono HB_11.out.size))
                clear HB_11 b12 b12_
                have ch := Hc_12.out; have c0 := cell_of_row w12 (w7.heap.size) 0 _ _ _ ch; simp at c0; have cf0 := frozen_of_row w12 (w7.heap.size) 0 _ _ ch; have c1 := cell_of_row w12 (w7.heap.size) 1 _ _ _ ch; simp at c1; have cf1 := frozen_of_row w12 (w7.heap.size) 1 _ _ ch; have c2 := cell_of_row w12 (w7.heap.size) 2 _ _ _ ch; simp at c2; have cf2 := frozen_of_row w12 (w7.heap.size) 2 _ _ ch; have c3 := cell_of_row w12 (w7.heap.size) 3 _ _ _ ch; simp at c3; have cf3 := frozen_of_row w12 (w7.heap.size) 3 _ _ ch; have c4 := cell_of_row w12 (w7.heap.size) 4 _ _ _ ch; simp at c4; have cf4 := frozen_of_row w12 (w7.heap.size) 4 _ _ ch; clear ch
                have ltc : w7.heap.size < w12.heap.size := (Array.getElem?_eq_some_iff.1 Hc_12.out).1
                have xh := Hx_12.out; have x0 := cell_of_row w12 (w8.heap.size) 0 _ _ _ xh; simp at x0; have xf0 := frozen_of_row w12 (w8.heap.size) 0 _ _ xh; have x1 := cell_of_row w12 (w8.heap.size) 1 _ _ _ xh; simp at x1; have xf1 := frozen_of_row w12 (w8.heap.size) 1 _ _ xh; have x2 := cell_of_row w12 (w8.heap.size) 2 _ _ _ xh; simp at x2; have xf2 := frozen_of_row w12 (w8.heap.size) 2 _ _ xh; have x3 := cell_of_row w12 (w8.heap.size) 3 _ _ _ xh; simp at x3; have xf3 := frozen_of_row w12 (w8.heap.size) 3 _ _ xh; have x4 := cell_of_row w12 (w8.heap.size) 4 _ _ _ xh; simp at x4; have xf4 := frozen_of_row w12 (w8.heap.size) 4 _ _ xh; clear xh
                have ltx : w8.heap.size < w12.heap.size := (Array.getElem?_eq_some_iff.1 Hx_12.out).1
                have yh := Hy_12.out; have y0 := cell_of_row w12 (w9.heap.size) 0 _ _ _ yh; simp at y0; have yf0 := frozen_of_row w12 (w9.heap.size) 0 _ _ yh; have y1 := cell_of_row w12 (w9.heap.size) 1 _ _ _ yh; simp at y1; have yf1 := frozen_of_row w12 (w9.heap.size) 1 _ _ yh; have y2 := cell_of_row w12 (w9.heap.size) 2 _ _ _ yh; simp at y2; have yf2 := frozen_of_row w12 (w9.heap.size) 2 _ _ yh; have y3 := cell_of_row w12 (w9.heap.size) 3 _ _ _ yh; simp at y3; have yf3 := frozen_of_row w12 (w9.heap.size) 3 _ _ yh; have y4 := cell_of_row w12 (w9.heap.size) 4 _ _ _ yh; simp at y4; have yf4 := frozen_of_row w12 (w9.heap.size) 4 _ _ yh; clear yh
                have lty : w9.heap.size < w12.heap.size := (Array.getElem?_eq_some_iff.1 Hy_12.out).1
                have hh := Hh_12.out; have h0 := cell_of_row w12 (w10.heap.size) 0 _ _ _ hh; simp at h0; have hf0 := frozen_of_row w12 (w10.heap.size) 0 _ _ hh; have h1 := cell_of_row w12 (w10.heap.size) 1 _ _ _ hh; simp at h1; have hf1 := frozen_of_row w12 (w10.heap.size) 1 _ _ hh; have h2 := cell_of_row w12 (w10.heap.size) 2 _ _ _ hh; simp at h2; have hf2 := frozen_of_row w12 (w10.heap.size) 2 _ _ hh; have h3 := cell_of_row w12 (w10.heap.size) 3 _ _ _ hh; simp at h3; have hf3 := frozen_of_row w12 (w10.heap.size) 3 _ _ hh; have h4 := cell_of_row w12 (w10.heap.size) 4 _ _ _ hh; simp at h4; have hf4 := frozen_of_row w12 (w10.heap.size) 4 _ _ hh; clear hh
                have lth : w10.heap.size < w12.heap.size := (Array.getElem?_eq_some_iff.1 Hh_12.out).1
                have ah := Ha_12.out; have a0 := cell_of_row w12 (w11.heap.size) 0 _ _ _ ah; simp at a0; have af0 := frozen_of_row w12 (w11.heap.size) 0 _ _ ah; have a1 := cell_of_row w12 (w11.heap.size) 1 _ _ _ ah; simp at a1; have af1 := frozen_of_row w12 (w11.heap.size) 1 _ _ ah; have a2 := cell_of_row w12 (w11.heap.size) 2 _ _ _ ah; simp at a2; have af2 := frozen_of_row w12 (w11.heap.size) 2 _ _ ah; have a3 := cell_of_row w12 (w11.heap.size) 3 _ _ _ ah; simp at a3; have af3 := frozen_of_row w12 (w11.heap.size) 3 _ _ ah; have a4 := cell_of_row w12 (w11.heap.size) 4 _ _ _ ah; simp at a4; have af4 := frozen_of_row w12 (w11.heap.size) 4 _ _ ah; clear ah
                have lta : w11.heap.size < w12.heap.size := (Array.getElem?_eq_some_iff.1 Ha_12.out).1
                clear HK HT HH HA
                go_wp2_with fail
                go_meet
                exact HB_12
          case rest =>
            as_aux_lemma =>
              clear HX HK HT HH HA
              clear c0 cf0 c1 cf1 c2 cf2 c3 cf3 c4 cf4 ltc Hc_9
              clear x0 xf0 x1 xf1 x2 xf2 x3 xf3 x4 xf4 ltx Hx_9
              clear HB_9
              go_wp2_with fail
              refine (drawTokens_any v bs _ (R0.out.below hcut.out)).mono ?_
              rintro e w10 ⟨kx, tick, rfl, b10⟩
              have b10_ := b10
              have z10 : wc.heap.size + 0 ≤ w10.heap.size := by have := b10.size; (try simp at this); omega
              have HB_10 := Lib.hid (hcut.out.trans (b10_.mono hcut.out.size))
              clear hcut b10 b10_
              have hI := implTokens_any kx tick
              have hS := specTokens_any kx tick
              generalize taN kx tick = tN at hI hS
              generalize taD kx tick = tD at hI hS
              generalize canFill kx tick = bc at hI hS
              obtain ⟨n, d, b, l, t⟩ := kx
              have HI := Lib.hid hI; have HS := Lib.hid hS
              clear hI hS
              go_wp2_with fail
              refine (HI.out _).mono ?_
              rintro e w11 ⟨rfl, b11⟩
              have b11_ : Below w10.heap.size w10 w11 := Below.trans (by go_grown) (b11.mono (by simp <;> omega))
              have z11 : w10.heap.size + 1 ≤ w11.heap.size := by have := b11.size; (try simp at this); omega
              have Hc_11 := Lib.hid ((b11.block (w10.heap.size) (by simp <;> omega)).trans (heap_alloc_new _ _))
              have HB_11 := Lib.hid (HB_10.out.trans (b11_.mono HB_10.out.size))
              clear HB_10 b11 b11_
              have ch := Hc_11.out; have c0 := cell_of_row w11 (w10.heap.size) 0 _ _ _ ch; simp at c0; have cf0 := frozen_of_row w11 (w10.heap.size) 0 _ _ ch; have c1 := cell_of_row w11 (w10.heap.size) 1 _ _ _ ch; simp at c1; have cf1 := frozen_of_row w11 (w10.heap.size) 1 _ _ ch; have c2 := cell_of_row w11 (w10.heap.size) 2 _ _ _ ch; simp at c2; have cf2 := frozen_of_row w11 (w10.heap.size) 2 _ _ ch; have c3 := cell_of_row w11 (w10.heap.size) 3 _ _ _ ch; simp at c3; have cf3 := frozen_of_row w11 (w10.heap.size) 3 _ _ ch; have c4 := cell_of_row w11 (w10.heap.size) 4 _ _ _ ch; simp at c4; have cf4 := frozen_of_row w11 (w10.heap.size) 4 _ _ ch; clear ch
              have ltc : w10.heap.size < w11.heap.size := (Array.getElem?_eq_some_iff.1 Hc_11.out).1
              go_wp2_with fail
              refine (HS.out _).mono ?_
              rintro e w12 ⟨rfl, b12⟩
              have b12_ := b12
              have z12 : w11.heap.size + 0 ≤ w12.heap.size := by have := b12.size; (try simp at this); omega
              clear c0 cf0 c1 cf1 c2 cf2 c3 cf3 c4 cf4 ltc
              have Hc_12 := Lib.hid ((b12_.block (w10.heap.size) (by omega)).trans Hc_11.out)
              clear Hc_11
              have HB_12 := Lib.hid (HB_11.out.trans (b12_.mono HB_11.out.size))
              clear HB_11 b12 b12_
              have ch := Hc_12.out; have c0 := cell_of_row w12 (w10.heap.size) 0 _ _ _ ch; simp at c0; have cf0 := frozen_of_row w12 (w10.heap.size) 0 _ _ ch; have c1 := cell_of_row w12 (w10.heap.size) 1 _ _ _ ch; simp at c1; have cf1 := frozen_of_row w12 (w10.heap.size) 1 _ _ ch; have c2 := cell_of_row w12 (w10.heap.size) 2 _ _ _ ch; simp at c2; have cf2 := frozen_of_row w12 (w10.heap.size) 2 _ _ ch; have c3 := cell_of_row w12 (w10.heap.size) 3 _ _ _ ch; simp at c3; have cf3 := frozen_of_row w12 (w10.heap.size) 3 _ _ ch; have c4 := cell_of_row w12 (w10.heap.size) 4 _ _ _ ch; simp at c4; have cf4 := frozen_of_row w12 (w10.heap.size) 4 _ _ ch; clear ch
              have ltc : w10.heap.size < w12.heap.size := (Array.getElem?_eq_some_iff.1 Hc_12.out).1
              clear c0 cf0 c1 cf1 c2 cf2 c3 cf3 c4 cf4 ltc Hc_12
              go_wp2_with fail
              refine (drawFull_any v bs _ (R0.out.below HB_12.out)).mono ?_
              rintro e w13 ⟨ua, ub, uc, rfl, b13⟩
              have b13_ := b13
              have z13 : w12.heap.size + 0 ≤ w13.heap.size := by have := b13.size; (try simp at this); omega
              have HB_13 := Lib.hid (HB_12.out.trans (b13_.mono HB_12.out.size))
              clear HB_12 b13 b13_
              have hI := implFull_any ua ub uc
              have hS := specFull_any ua ub uc
              generalize fbK ua ub uc = kF at hI hS
              generalize fbB ua ub uc = bF at hI hS
              obtain ⟨f1, f2, f3, f4, f5⟩ := kF
              have HI := Lib.hid hI; have HS := Lib.hid hS
              clear hI hS
              go_wp2_with fail
              refine (HI.out _).mono ?_
              rintro e w14 ⟨rfl, b14⟩
              have b14_ := b14
              have z14 : w13.heap.size + 0 ≤ w14.heap.size := by have := b14.size; (try simp at this); omega
              have HB_14 := Lib.hid (HB_13.out.trans (b14_.mono HB_13.out.size))
              clear HB_13 b14 b14_
              go_wp2_with fail
              refine (HS.out _).mono ?_
              rintro e w15 ⟨rfl, b15⟩
              have b15_ : Below w14.heap.size w14 w15 := Below.trans (by go_grown) (b15.mono (by simp <;> omega))
              have z15 : w14.heap.size + 1 ≤ w15.heap.size := by have := b15.size; (try simp at this); omega
              have Hm_15 := Lib.hid ((b15.block (w14.heap.size) (by simp <;> omega)).trans (heap_alloc_new _ _))
              have HB_15 := Lib.hid (HB_14.out.trans (b15_.mono HB_14.out.size))
              clear HB_14 b15 b15_
              have mh := Hm_15.out; have m0 := cell_of_row w15 (w14.heap.size) 0 _ _ _ mh; simp at m0; have mf0 := frozen_of_row w15 (w14.heap.size) 0 _ _ mh; have m1 := cell_of_row w15 (w14.heap.size) 1 _ _ _ mh; simp at m1; have mf1 := frozen_of_row w15 (w14.heap.size) 1 _ _ mh; have m2 := cell_of_row w15 (w14.heap.size) 2 _ _ _ mh; simp at m2; have mf2 := frozen_of_row w15 (w14.heap.size) 2 _ _ mh; have m3 := cell_of_row w15 (w14.heap.size) 3 _ _ _ mh; simp at m3; have mf3 := frozen_of_row w15 (w14.heap.size) 3 _ _ mh; have m4 := cell_of_row w15 (w14.heap.size) 4 _ _ _ mh; simp at m4; have mf4 := frozen_of_row w15 (w14.heap.size) 4 _ _ mh; clear mh
              have ltm : w14.heap.size < w15.heap.size := (Array.getElem?_eq_some_iff.1 Hm_15.out).1
              go_wp2_with fail
              go_ret
              exact ⟨by simp, HB_15.out.alloc HB_15.out.size _⟩
set_option maxRecDepth 100000 in
theorem lifted (os : Os) (started : os.Started) (H : Type) (enc : TypeId × Value → H) :
    ReturnsInHanded {} Try.checked os 11 .any (Rows.fnBucketsSpec.pre6 enc Try.prog Try.f11 Rows.fnBucketsRow.domain false) (Rows.fnBucketsSpec.post enc Try.prog Try.f11 false true false false) := by
  refine returnsInHanded_of_change_sized (C := Try.checked) lk_own started (by kernel_rfl) Try.func11
    (ChangeSpec.witness6 (enc := enc) (C := Try.checked) false ⟨#[], #[.slice none 0 0], []⟩ 8 (by kernel_rfl) (by kernel_rfl) (by kernel_rfl) (by kernel_rfl)) ?_
  intro W base args ds gs before hval0 hW _ _ _
  have hval : ∀ (j : Nat) t v, Try.f11.params[j]? = some t → args[j]? = some v → Value.okWide Try.prog W .any base t v := hval0
  have hW' := hW
  obtain ⟨p, q, hA0, hV, rfl, _, _⟩ := hW
  have hA : DataW.TrodAll enc Try.prog W 0 (fun _ => true) true Try.f11.params.toList args.toList ds p := hA0
  rw [Try.params11] at hA hval
  obtain ⟨v0, vs0, d0, ds0, p0, q0, hargs, rfl, rfl, h0, r0⟩ := trodAll_cons hA
  obtain ⟨rfl, rfl, rfl⟩ := trodAll_nil r0
  obtain rfl : args = #[v0] := by cases args; simp_all
  obtain ⟨rfl, rfl⟩ := trodVars_none hV
  clear hA0 hval0
  have x0 := open_argY (hval 0 58 v0 rfl rfl) h0
  simp only [List.append_nil] at hW'
  refine (walk v0 W x0).mono fun e W' ⟨he, hb⟩ => ?_
  subst he
  exact ⟨_, rfl, post_law hW' rfl rfl (by kernel_rfl) rfl rfl rfl hb⟩

theorem over : Rows.fnBucketsRow.holds Try.pinned (OpenSpec.ofChange Rows.fnBucketsSpec) :=
  OpenClaim.holds_of_wide 11 Try.f11 rfl rfl rfl rfl rfl rfl rfl ⟨rfl, rfl, rfl, rfl, rfl⟩ rfl rfl rfl rfl rfl (by kernel_rfl) Try.func11 (by kernel_rfl)
    (of_decide_eq_true (by kernel_rfl)) (by unfold Func.isWrapper; first | (rw [if_pos (by decide +kernel)]; kernel_rfl) | (rw [if_neg (by decide +kernel)]; exact ⟨rfl, rfl⟩))
    (fun os started H enc _ => lifted os started H enc)

theorem proved : Rows.FnBucketsSaid := over
#print axioms proved
end Go.Proofs.Ytgiigcpodinpoaa.FnBuckets
