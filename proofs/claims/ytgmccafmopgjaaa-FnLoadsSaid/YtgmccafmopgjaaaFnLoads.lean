/- The law FnLoads: shaped loads all fit and none goes early, and with the smallest burst all loads fit but not with one less. No condition. -/
import Derived.Test.YtgmccafmopgjaaaLoadDraws
import Derived.Test.YtgmccafmopgjaaaLoadFacts
import Derived.Test.YtgmccafmopgjaaaRate9
import Derived.Test.YtgmccafmopgjaaaRate11
import Derived.Test.YtgmccafmopgjaaaAppK
import Derived.Test.YtgmccafmopgjaaaRandKit
import Derived.Test.YtgmccafmopgjaaaOpenY
import Derived.Test.YtgmccafmopgjaaaLawKit
import Derived.Deep.CutBlock
import Derived.Deep.AppendLies
import Derived.Lib.AppendZerosOnto
import Derived.Deep.DeepCutAuto
namespace Go.Proofs.Ytgmccafmopgjaaa.FnLoads
open Go.ChangeShapes Go.WideShapes Go.ChangeAt Go.RowKit

theorem below_dn2 {B : Nat} {a w : World} (h : Below B a w) (n : Nat) : Below B a (w.drewN n) := ⟨h.os, h.tape, h.output, h.size, h.block⟩
set_option maxRecDepth 100000 in
set_option maxHeartbeats 16000000 in
theorem walk (v : Value) (w : World) (hx : ArgY w v) :
    Calls Try.prog 4 #[v] w fun e w' => e = .returned (.bool true) ∧ Below w.heap.size w w' := by
  obtain ⟨bs, hbs⟩ := hx
  obtain ⟨i0, hi, hz0, hz1, hz2⟩ := info_parts infoLd
  by_cases hbig : 65536 < bs.length
  · go_enter Try.func4, Try.ntmps4
    go_wp2_with fail
    refine (rBig_any v bs w hbs).mono ?_
    rintro e w' ⟨rfl, rfl⟩
    go_wp2_with fail
    go_ret
    exact ⟨rfl, Below.refl _ _⟩
  have R0 := Lib.hid (hbs.1 (by omega))
  go_enter Try.func4, Try.ntmps4
  go_wp2_with fail
  refine (rBig_any v bs w hbs).mono ?_
  rintro e w' ⟨rfl, rfl⟩
  go_wp2_with fail
  refine (drawShape_any v bs w R0.out).mono ?_
  rintro e w1 ⟨⟨kn, kd, kb, kl, kt⟩, vl, xs, rfl, ol, hxl, b1⟩
  clear hbs hbig
  have B1 : Hid (Below w.heap.size w (w1.alloc (.cells #[.int .i64 kn, .int .i64 kd, .int .i64 kb, .int .i64 kl, .int .i64 kt] 45))) := Lib.hid (b1.alloc b1.size _)
  have L1 : Hid (OwLd (w.heap.size + 1) (w1.alloc (.cells #[.int .i64 kn, .int .i64 kd, .int .i64 kb, .int .i64 kl, .int .i64 kt] 45)) vl xs) := Lib.hid (ol.below (by go_grown))
  clear ol b1
  have HI := Lib.hid (fun w h => implShape_any ⟨kn, kd, kb, kl, kt⟩ vl xs w h)
  have HS := Lib.hid (fun w h => specShape_any ⟨kn, kd, kb, kl, kt⟩ vl xs w h)
  have HFi := Lib.hid (fun w h => implFit_any ⟨kn, kd, kb, kl, kt⟩ vl xs w h)
  have HFs := Lib.hid (fun w h => specFit_any ⟨kn, kd, kb, kl, kt⟩ vl xs w h)
  have HF := Lib.hid (shape_facts (k := ⟨kn, kd, kb, kl, kt⟩) (xs := xs))
  have HFd := Lib.hid (fun v' ys w h => implFit_any ⟨kn, kd, kb, kl, kt⟩ v' ys w h)
  generalize shapeL ⟨kn, kd, kb, kl, kt⟩ xs = L at *
  generalize shapeB ⟨kn, kd, kb, kl, kt⟩ xs = sb at *
  go_wp2_with fail
  refine (HI.out _ L1.out.rd).mono ?_
  rintro e w2 ⟨g1, rfl, o2, b2⟩
  have X2 : Hid (w2.heap[w1.heap.size]? = some (.cells #[.int .i64 kn, .int .i64 kd, .int .i64 kb, .int .i64 kl, .int .i64 kt] 45 (0, 0))) := Lib.hid ((b2.block w1.heap.size (by simp)).trans (heap_alloc_new _ _))
  have B2 := Lib.hid (B1.out.trans (b2.mono B1.out.size))
  have L2 := Lib.hid (L1.out.below b2)
  have G2 := Lib.hid o2
  clear b2 B1 L1 o2 HI
  have xh := X2.out; have x0 := cell_of_row w2 (w1.heap.size) 0 _ _ _ xh; simp at x0; have xf0 := frozen_of_row w2 (w1.heap.size) 0 _ _ xh; have x1 := cell_of_row w2 (w1.heap.size) 1 _ _ _ xh; simp at x1; have xf1 := frozen_of_row w2 (w1.heap.size) 1 _ _ xh; have x2 := cell_of_row w2 (w1.heap.size) 2 _ _ _ xh; simp at x2; have xf2 := frozen_of_row w2 (w1.heap.size) 2 _ _ xh; have x3 := cell_of_row w2 (w1.heap.size) 3 _ _ _ xh; simp at x3; have xf3 := frozen_of_row w2 (w1.heap.size) 3 _ _ xh; have x4 := cell_of_row w2 (w1.heap.size) 4 _ _ _ xh; simp at x4; have xf4 := frozen_of_row w2 (w1.heap.size) 4 _ _ xh; clear xh
  have xl : w1.heap.size < w2.heap.size := (Array.getElem?_eq_some_iff.1 X2.out).1
  go_wp2_with fail
  refine (HS.out _ L2.out.rd).mono ?_
  rintro e w3 ⟨s1, rfl, o3, b3⟩
  have X3 : Hid (w3.heap[w1.heap.size]? = some (.cells #[.int .i64 kn, .int .i64 kd, .int .i64 kb, .int .i64 kl, .int .i64 kt] 45 (0, 0))) := Lib.hid ((b3.block w1.heap.size xl).trans X2.out)
  have B3 := Lib.hid (B2.out.trans (b3.mono B2.out.size))
  have L3 := Lib.hid (L2.out.below b3)
  have G3 := Lib.hid (G2.out.below b3)
  have S3 := Lib.hid o3
  clear b3 B2 L2 G2 o3 HS X2 x0 x1 x2 x3 x4 xf0 xf1 xf2 xf3 xf4 xl
  go_wp2_with fail
  refine (rInts_same g1 s1 L _ G3.out.rd S3.out.rd).mono ?_
  rintro e w4 ⟨rfl, b4⟩
  have X4 : Hid (w4.heap[w1.heap.size]? = some (.cells #[.int .i64 kn, .int .i64 kd, .int .i64 kb, .int .i64 kl, .int .i64 kt] 45 (0, 0))) := Lib.hid ((b4.block w1.heap.size (Array.getElem?_eq_some_iff.1 X3.out).1).trans X3.out)
  have B4 := Lib.hid (B3.out.trans (b4.mono B3.out.size))
  have L4 := Lib.hid (L3.out.below b4)
  have G4 := Lib.hid (G3.out.below b4)
  clear b4 B3 L3 G3 S3 X3
  have xh := X4.out; have x0 := cell_of_row w4 (w1.heap.size) 0 _ _ _ xh; simp at x0; have xf0 := frozen_of_row w4 (w1.heap.size) 0 _ _ xh; have x1 := cell_of_row w4 (w1.heap.size) 1 _ _ _ xh; simp at x1; have xf1 := frozen_of_row w4 (w1.heap.size) 1 _ _ xh; have x2 := cell_of_row w4 (w1.heap.size) 2 _ _ _ xh; simp at x2; have xf2 := frozen_of_row w4 (w1.heap.size) 2 _ _ xh; have x3 := cell_of_row w4 (w1.heap.size) 3 _ _ _ xh; simp at x3; have xf3 := frozen_of_row w4 (w1.heap.size) 3 _ _ xh; have x4 := cell_of_row w4 (w1.heap.size) 4 _ _ _ xh; simp at x4; have xf4 := frozen_of_row w4 (w1.heap.size) 4 _ _ xh; clear xh
  have xl : w1.heap.size < w4.heap.size := (Array.getElem?_eq_some_iff.1 X4.out).1
  go_wp2_with fail
  refine (HFi.out _ L4.out.rd).mono ?_
  rintro e w5 ⟨f1, rfl, o5, b5⟩
  have X5 : Hid (w5.heap[w1.heap.size]? = some (.cells #[.int .i64 kn, .int .i64 kd, .int .i64 kb, .int .i64 kl, .int .i64 kt] 45 (0, 0))) := Lib.hid ((b5.block w1.heap.size xl).trans X4.out)
  have B5 := Lib.hid (B4.out.trans (b5.mono B4.out.size))
  have L5 := Lib.hid (L4.out.below b5)
  have G5 := Lib.hid (G4.out.below b5)
  have F5 := Lib.hid o5
  clear b5 B4 L4 G4 o5 HFi X4 x0 x1 x2 x3 x4 xf0 xf1 xf2 xf3 xf4 xl
  have xh := X5.out; have x0 := cell_of_row w5 (w1.heap.size) 0 _ _ _ xh; simp at x0; have xf0 := frozen_of_row w5 (w1.heap.size) 0 _ _ xh; have x1 := cell_of_row w5 (w1.heap.size) 1 _ _ _ xh; simp at x1; have xf1 := frozen_of_row w5 (w1.heap.size) 1 _ _ xh; have x2 := cell_of_row w5 (w1.heap.size) 2 _ _ _ xh; simp at x2; have xf2 := frozen_of_row w5 (w1.heap.size) 2 _ _ xh; have x3 := cell_of_row w5 (w1.heap.size) 3 _ _ _ xh; simp at x3; have xf3 := frozen_of_row w5 (w1.heap.size) 3 _ _ xh; have x4 := cell_of_row w5 (w1.heap.size) 4 _ _ _ xh; simp at x4; have xf4 := frozen_of_row w5 (w1.heap.size) 4 _ _ xh; clear xh
  have xl : w1.heap.size < w5.heap.size := (Array.getElem?_eq_some_iff.1 X5.out).1
  go_wp2_with fail
  refine (HFs.out _ L5.out.rd).mono ?_
  rintro e w6 ⟨f2, rfl, o6, b6⟩
  have X6 : Hid (w6.heap[w1.heap.size]? = some (.cells #[.int .i64 kn, .int .i64 kd, .int .i64 kb, .int .i64 kl, .int .i64 kt] 45 (0, 0))) := Lib.hid ((b6.block w1.heap.size xl).trans X5.out)
  have B6 := Lib.hid (B5.out.trans (b6.mono B5.out.size))
  have L6 := Lib.hid (L5.out.below b6)
  have G6 := Lib.hid (G5.out.below b6)
  have F6 := Lib.hid (F5.out.below b6)
  have F6' := Lib.hid o6
  clear b6 B5 L5 G5 F5 o6 HFs X5 x0 x1 x2 x3 x4 xf0 xf1 xf2 xf3 xf4 xl
  go_wp2_with fail
  refine (rInts_same f1 f2 _ _ F6.out.rd F6'.out.rd).mono ?_
  rintro e w7 ⟨rfl, b7⟩
  have X7 : Hid (w7.heap[w1.heap.size]? = some (.cells #[.int .i64 kn, .int .i64 kd, .int .i64 kb, .int .i64 kl, .int .i64 kt] 45 (0, 0))) := Lib.hid ((b7.block w1.heap.size (Array.getElem?_eq_some_iff.1 X6.out).1).trans X6.out)
  have B7 := Lib.hid (B6.out.trans (b7.mono B6.out.size))
  have L7 := Lib.hid (L6.out.below b7)
  have G7 := Lib.hid (G6.out.below b7)
  clear b7 B6 L6 G6 F6 F6' X6
  obtain ⟨pl, capl, bl, ofl, rfl, hcapl, hpl, hcl⟩ := L7.out.rd.parts
  obtain ⟨pg, capg, bg, ofg, rfl, hcapg, hpg, hcg⟩ := G7.out.rd.parts
  have HPl := Lib.hid hpl; have HCl := Lib.hid hcl; clear hpl hcl
  have HPg := Lib.hid hpg; have HCg := Lib.hid hcg; clear hpg hcg
  clear L7 G7
  go_upto_if 81 with (fail)
  go_cut [] (fun wx => Hid (Below w.heap.size w wx))
  case first =>
    as_aux_lemma =>
    cases sb
    · go_wp2_with fail
      go_meet
      exact B7
    · obtain ⟨hLl, h20, hst, hDl, hbg, hfl⟩ := HF.out rfl
      have HSt := Lib.hid hst; clear hst
      have HDl := Lib.hid hDl; clear hDl
      have HBg := Lib.hid hbg; have HFl := Lib.hid hfl; have HLl := Lib.hid hLl; clear hbg hfl hLl HF
      have hLle : L.length ≤ 20 := by rw [HLl.out]; exact h20
      have hD0 : shD ⟨kn, kd, kb, kl, kt⟩ xs 0 = [] := rfl
      have HD0 := Lib.hid hD0; clear hD0
      have HFx := Lib.hid (fun v' w h => HFd.out v' (shD ⟨kn, kd, kb, kl, kt⟩ xs xs.length) w h)
      have HDx : Hid ((shD ⟨kn, kd, kb, kl, kt⟩ xs xs.length).length = xs.length) := Lib.hid (HDl.out _ (Nat.le_refl _))
      clear HFd
      generalize shD ⟨kn, kd, kb, kl, kt⟩ xs = D at *
      have HO0 : Hid ((w7.alloc (.cells #[] 51)).ownsRow w7.heap.size 51 2 (.slice (some ⟨w7.heap.size, 0, none⟩) 0 0) 0 ((D 0).flatMap Ld.cells)) := Lib.hid (by rw [HD0.out]; exact World.ownsRow_lit w7 #[] 0 (Nat.le_refl _) (Nat.zero_le _) rfl)
      go_wp2_with fail
      go_loopw [13, 14] (fun u i wr => ∃ n : Nat, n ≤ xs.length ∧ i = .int .i64 n ∧ Hid (wr.ownsRow w7.heap.size 51 2 u n ((D n).flatMap Ld.cells)) ∧ Hid (Below w7.heap.size w7 wr)) (fun _ i _ => xs.length - (intOf i).toNat)
      case atStart => exact ⟨0, Nat.zero_le _, rfl, HO0, Lib.hid (below_alloc1 _ _)⟩
      case round =>
        obtain ⟨n, hn, rfl, HOn, HBn⟩ := hrel
        by_cases hlt : n < xs.length
        · have hnL : n < L.length := by rw [HLl.out]; exact hlt
          obtain rfl := HPl.out (by omega)
          obtain rfl := HPg.out (by omega)
          obtain ⟨e1, e2⟩ := HCl.out n hlt
          have c1 := cell_on HBn.out e1
          have c2 := cell_on HBn.out e2
          have c3 := cell_on HBn.out (HCg.out n hnL)
          have z3 := HCg.out n hnL
          have z2 := e2
          clear e1 e2
          obtain ⟨h1, h2, h3⟩ := HSt.out n hlt hnL
          have HDn : Hid ((D (n + 1)).flatMap Ld.cells = (D n).flatMap Ld.cells ++ [.int .i64 L[n], .int .i64 xs[n].s]) := Lib.hid (by rw [h2, List.flatMap_append]; rfl)
          clear h2
          have q1 : decide (L[n] < xs[n].t) = false := decide_eq_false (by omega)
          clear h1
          have tail_ : ∀ (wX : World), wr.heap = wX.heap → True := fun _ _ => trivial
          clear tail_
          by_cases h00 : n = 0
          · subst h00
            clear h3
            generalize L[0] = gg at *
            generalize xs[0] = x at *
            obtain ⟨xt, xz⟩ := x
            simp only at c1 c2 q1 HDn z2
            simp only [Nat.zero_mul, Nat.add_zero] at c1 c2 c3 z2 z3
            have Z2 := Lib.hid z2; have Z3 := Lib.hid z3; clear z2 z3
            go_wp2_with fail
            go_quiet (fail)
            have HBq := Lib.hid (below_dn2 HBn.out nq)
            have hOq : (wr.drewN nq).ownsRow w7.heap.size 51 2 u13 (0) ((D (0)).flatMap Ld.cells) := own_below HOn.out (below_dn2 (Below.refl _ _) nq)
            have HOq := Lib.hid hOq; clear hOq
            have d1 := cell_on (below_dn2 (Below.refl _ _) nq) c1
            have d2 := cell_on (below_dn2 (Below.refl _ _) nq) c2
            have d3 := cell_on (below_dn2 (Below.refl _ _) nq) c3
            clear c1 c2 c3 q1
            generalize wr.drewN nq = wX at *
            have HE1 : Hid ((wX.drew.alloc (.cells #[.int .i64 gg, .int .i64 xz] 51)).ownsRow w7.heap.size 51 2 u13 (0) ((D (0)).flatMap Ld.cells)) := Lib.hid ((own_below HOq.out (below_dn2 (Below.refl _ _) 1)).alloc _)
            have HSn : Hid (∀ i u, ([.int .i64 gg, .int .i64 xz] : List Value)[i]? = some u → (wX.drew.alloc (.cells #[.int .i64 gg, .int .i64 xz] 51)).cell? ((⟨wX.heap.size, 0, none⟩ : Addr).add i) = some u) := Lib.hid (World.news_of_block (heap_alloc_new wX.drew (.cells #[.int .i64 gg, .int .i64 xz] 51)))
            have hbs2 := HBq.out.size
            have hA : (0) + 1 ≤ maxLen := by unfold maxLen; omega
            have hD : w7.heap.size ≤ (wX.drew.alloc (.cells #[.int .i64 gg, .int .i64 xz] 51)).heap.size := by
              show w7.heap.size ≤ (wX.alloc (.cells #[.int .i64 gg, .int .i64 xz] 51)).heap.size
              simp; omega
            have HG : Hid (Below w7.heap.size w7 (wX.drew.alloc (.cells #[.int .i64 gg, .int .i64 xz] 51))) := Lib.hid ((below_dn2 HBq.out 1).alloc HBq.out.size _)
            have H1c : ∀ u ∈ ([.int .i64 gg, .int .i64 xz] : List Value), u.oneCell' = true := by
              intro u hu
              simp at hu
              rcases hu with rfl | rfl <;> rfl
            go_wp2_with fail
            refine wp_region_held_drew (S := (fun w' => w'.cell? ⟨bg, ofg, none⟩ = some (.int .i64 gg) ∧ w'.cell? ⟨bl, ofl + 1, none⟩ = some (.int .i64 xz))) (by kernel_rfl) ?rx1s (fun hHeld => ?rx10)
            case rx1s => ((try dsimp only); exact ⟨d3, d2⟩)
            try simp only [Act.put, List.setIfInBounds_toArray, List.set_cons_zero, List.set_cons_succ]
            refine take_at 0 (some 115) (v := ?vx1_1) rfl rfl (by kernel_rfl) (by kernel_rfl) (by kernel_rfl) (fun _ _ _ h => h) (Or.inl ⟨by kernel_rfl, ?yx1_1⟩) hHeld ?zx1_1
            case yx1_1 => (intro wS hSw; (try dsimp only at hSw); go_simp; (try with_reducible rfl))
            try simp only [Act.put, List.setIfInBounds_toArray, List.set_cons_zero, List.set_cons_succ]
            refine take_at 1 (some 116) (v := ?vx1_2) rfl rfl (by kernel_rfl) (by kernel_rfl) (by kernel_rfl) (fun _ _ _ h => h) (Or.inl ⟨by kernel_rfl, ?yx1_2⟩) hHeld ?zx1_2
            case yx1_2 => (intro wS hSw; (try dsimp only at hSw); go_simp; (try with_reducible rfl))
            try simp only [Act.put, List.setIfInBounds_toArray, List.set_cons_zero, List.set_cons_succ]
            refine take_at 2 (some 117) (v := ?vx1_3) rfl rfl (by kernel_rfl) (by kernel_rfl) (by kernel_rfl) (fun _ _ _ h => h) (Or.inl ⟨by kernel_rfl, ?yx1_3⟩) hHeld ?zx1_3
            case yx1_3 => (intro wS hSw; (try dsimp only at hSw); go_simp; (try with_reducible rfl))
            try simp only [Act.put, List.setIfInBounds_toArray, List.set_cons_zero, List.set_cons_succ]
            refine take_at 3 (some 118) (v := ?vx1_4) rfl rfl (by kernel_rfl) (by kernel_rfl) (by kernel_rfl) (fun _ _ _ h => h) (Or.inl ⟨by kernel_rfl, ?yx1_4⟩) hHeld ?zx1_4
            case yx1_4 => (intro wS hSw; (try dsimp only at hSw); go_simp; (try with_reducible rfl))
            try simp only [Act.put, List.setIfInBounds_toArray, List.set_cons_zero, List.set_cons_succ]
            refine take_at 4 (some 119) (v := ?vx1_5) rfl rfl (by kernel_rfl) (by kernel_rfl) (by kernel_rfl) (fun _ _ _ h => h) (Or.inl ⟨by kernel_rfl, ?yx1_5⟩) hHeld ?zx1_5
            case yx1_5 => (intro wS hSw; (try dsimp only at hSw); go_simp; (try with_reducible rfl))
            try simp only [Act.put, List.setIfInBounds_toArray, List.set_cons_zero, List.set_cons_succ]
            refine take_at 5 (some 120) (v := ?vx1_6) rfl rfl (by kernel_rfl) (by kernel_rfl) (by kernel_rfl) (fun _ _ _ h => h) (Or.inl ⟨by kernel_rfl, ?yx1_6⟩) hHeld ?zx1_6
            case yx1_6 => (intro wS hSw; (try dsimp only at hSw); go_simp; (try with_reducible rfl))
            try simp only [Act.put, List.setIfInBounds_toArray, List.set_cons_zero, List.set_cons_succ]
            refine take_at 6 (some 121) (v := ?vx1_7) rfl rfl (by kernel_rfl) (by kernel_rfl) (by kernel_rfl) (fun _ _ _ h => h) (Or.inl ⟨by kernel_rfl, ?yx1_7⟩) hHeld ?zx1_7
            case yx1_7 => (intro wS hSw; (try dsimp only at hSw); go_simp; (try with_reducible rfl))
            try simp only [Act.put, List.setIfInBounds_toArray, List.set_cons_zero, List.set_cons_succ]
            refine take_at 7 (some 122) (v := ?vx1_8) rfl rfl (by kernel_rfl) (by kernel_rfl) (by kernel_rfl) (fun _ _ _ h => h) (Or.inl ⟨by kernel_rfl, ?yx1_8⟩) hHeld ?zx1_8
            case yx1_8 => (intro wS hSw; (try dsimp only at hSw); go_simp; (try with_reducible rfl))
            try simp only [Act.put, List.setIfInBounds_toArray, List.set_cons_zero, List.set_cons_succ]
            refine take_at 8 (some 123) (v := ?vx1_9) rfl rfl (by kernel_rfl) (by kernel_rfl) (by kernel_rfl) (fun _ _ _ h => h) (Or.inl ⟨by kernel_rfl, ?yx1_9⟩) hHeld ?zx1_9
            case yx1_9 => (intro wS hSw; (try dsimp only at hSw); go_simp; (try with_reducible rfl))
            try simp only [Act.put, List.setIfInBounds_toArray, List.set_cons_zero, List.set_cons_succ]
            refine take_at 9 (some 124) (v := ?vx1_10) rfl rfl (by kernel_rfl) (by kernel_rfl) (by kernel_rfl) (fun _ _ _ h => h) (Or.inl ⟨by kernel_rfl, ?yx1_10⟩) hHeld ?zx1_10
            case yx1_10 => (intro wS hSw; (try dsimp only at hSw); go_simp; (try with_reducible rfl))
            try simp only [Act.put, List.setIfInBounds_toArray, List.set_cons_zero, List.set_cons_succ]
            refine take_at 10 (some 125) (v := ?vx1_11) rfl rfl (by kernel_rfl) (by kernel_rfl) (by kernel_rfl) (fun _ _ _ h => h) (Or.inl ⟨by kernel_rfl, ?yx1_11⟩) hHeld ?zx1_11
            case yx1_11 => (intro wS hSw; (try dsimp only at hSw); go_simp; (try with_reducible rfl))
            try simp only [Act.put, List.setIfInBounds_toArray, List.set_cons_zero, List.set_cons_succ]
            refine wpAnyH_ready (rs := [11]) (by kernel_rfl) (by simp) ?_
            refine cons_at (some 126) rfl rfl (by kernel_rfl) (fun K hK => ?kx1_13) AllReadyH.nil
            go_simp
            refine hK.out _ _ ?sx1_13 (fun hHeld => ?_)
            case sx1_13 => ((try dsimp only); first | exact ⟨k3, k2⟩ | exact keepC2 (by assumption) (below_alloc1 _ _) | exact ⟨cell_on (below_alloc1 _ _) d3, cell_on (below_alloc1 _ _) d2⟩ | assumption)
            clear hK K
            try simp only [Act.put, List.setIfInBounds_toArray, List.set_cons_zero, List.set_cons_succ]
            refine wpAnyH_ready (rs := [12]) (by kernel_rfl) (by simp) ?_
            refine cons_at (some 127) rfl rfl (by kernel_rfl) (fun K hK => ?kx1_15) AllReadyH.nil
            (refine wp_appK _ (.tmp 115) (.tmp 126) 46 rfl w7.heap.size 51 i0 (.agg #[.int .i64 0, .int .i64 0]) 2 16 Try.underlying46 hi hz0 hz1 hz2 rfl (by decide) u13 (0) ((D (0)).flatMap Ld.cells) (by simp [Act.eval]) HE1.out (some ⟨wX.heap.size, 0, none⟩) 1 1 [.int .i64 gg, .int .i64 xz] (by simp [Act.eval]) rfl (fun _ => ⟨_, rfl, HSn.out⟩) (fun e => by cases e) H1c hA (by omega) hD ?_; intro v3 w3 hown3 hgrow3; have HB3 := Lib.hid (HG.out.grown hgrow3 HG.out.size (fun i hi => (HE1.out.lt i hi).1)); have HO3 := Lib.hid hown3; have k3 := cell_on HB3.out Z3.out; have k2 := cell_on HB3.out Z2.out; clear hown3 hgrow3)
            refine hK.out _ _ ?sx1_15 (fun hHeld => ?_)
            case sx1_15 => ((try dsimp only); first | exact ⟨k3, k2⟩ | exact keepC2 (by assumption) (below_alloc1 _ _) | exact ⟨cell_on (below_alloc1 _ _) d3, cell_on (below_alloc1 _ _) d2⟩ | assumption)
            clear hK K
            try simp only [Act.put, List.setIfInBounds_toArray, List.set_cons_zero, List.set_cons_succ]
            refine take_at 13 (some 13) (v := ?vx1_16) rfl rfl (by kernel_rfl) (by kernel_rfl) (by kernel_rfl) (fun _ _ _ h => h) (Or.inl ⟨by kernel_rfl, ?yx1_16⟩) hHeld ?zx1_16
            case yx1_16 => (intro wS hSw; (try dsimp only at hSw); go_simp; (try with_reducible rfl))
            try simp only [Act.put, List.setIfInBounds_toArray, List.set_cons_zero, List.set_cons_succ]
            refine wpAnyH_done (by kernel_rfl) ?_ _
            go_wp2
            go_roundw
            case rel => exact ⟨0 + 1, by omega, by go_num, Lib.hid (by rw [HDn.out]; exact HO3.out), HB3⟩
            case measure => simp [intOf]; omega
          · obtain ⟨m, hm⟩ : ∃ m, n = m + 1 := ⟨n - 1, by omega⟩
            have hmL : m < L.length := by omega
            have h4 := h3 m hm hmL
            have c4 := cell_on HBn.out (HCg.out m hmL)
            have q2 : decide (L[n] < L[m]) = false := decide_eq_false (by omega)
            have w1' : IntKind.i64.wrap ((n : Int) - 1) = m := by rw [IntKind.wrap_i64]; omega
            have q3 : decide ((0 : Int) < (n : Int)) = true := decide_eq_true (by omega)
            have w2' : wrap64 ((n : Int) - 1) = m := by simp only [wrap64]; omega
            have hi5 : (0 : Int) < (n : Int) := by omega
            have hi6 : 0 < n := by omega
            clear hm
            clear h3 h4
            generalize L[n] = gg at *
            generalize L[m] = gp at *
            generalize xs[n] = x at *
            obtain ⟨xt, xz⟩ := x
            simp only at c1 c2 q1 HDn z2
            have Z2 := Lib.hid z2; have Z3 := Lib.hid z3; clear z2 z3
            go_wp2_with fail
            go_quiet (fail)
            clear w1' w2' q2 q3 c4 hi5 hi6 h00
            have HBq := Lib.hid (below_dn2 HBn.out nq)
            have hOq : (wr.drewN nq).ownsRow w7.heap.size 51 2 u13 (n) ((D (n)).flatMap Ld.cells) := own_below HOn.out (below_dn2 (Below.refl _ _) nq)
            have HOq := Lib.hid hOq; clear hOq
            have d1 := cell_on (below_dn2 (Below.refl _ _) nq) c1
            have d2 := cell_on (below_dn2 (Below.refl _ _) nq) c2
            have d3 := cell_on (below_dn2 (Below.refl _ _) nq) c3
            clear c1 c2 c3 q1
            generalize wr.drewN nq = wX at *
            have HE1 : Hid ((wX.drew.alloc (.cells #[.int .i64 gg, .int .i64 xz] 51)).ownsRow w7.heap.size 51 2 u13 (n) ((D (n)).flatMap Ld.cells)) := Lib.hid ((own_below HOq.out (below_dn2 (Below.refl _ _) 1)).alloc _)
            have HSn : Hid (∀ i u, ([.int .i64 gg, .int .i64 xz] : List Value)[i]? = some u → (wX.drew.alloc (.cells #[.int .i64 gg, .int .i64 xz] 51)).cell? ((⟨wX.heap.size, 0, none⟩ : Addr).add i) = some u) := Lib.hid (World.news_of_block (heap_alloc_new wX.drew (.cells #[.int .i64 gg, .int .i64 xz] 51)))
            have hbs2 := HBq.out.size
            have hA : (n) + 1 ≤ maxLen := by unfold maxLen; omega
            have hD : w7.heap.size ≤ (wX.drew.alloc (.cells #[.int .i64 gg, .int .i64 xz] 51)).heap.size := by
              show w7.heap.size ≤ (wX.alloc (.cells #[.int .i64 gg, .int .i64 xz] 51)).heap.size
              simp; omega
            have HG : Hid (Below w7.heap.size w7 (wX.drew.alloc (.cells #[.int .i64 gg, .int .i64 xz] 51))) := Lib.hid ((below_dn2 HBq.out 1).alloc HBq.out.size _)
            have H1c : ∀ u ∈ ([.int .i64 gg, .int .i64 xz] : List Value), u.oneCell' = true := by
              intro u hu
              simp at hu
              rcases hu with rfl | rfl <;> rfl
            go_wp2_with fail
            refine wp_region_held_drew (S := (fun w' => w'.cell? ⟨bg, ofg + n, none⟩ = some (.int .i64 gg) ∧ w'.cell? ⟨bl, ofl + n * 2 + 1, none⟩ = some (.int .i64 xz))) (by kernel_rfl) ?rx2s (fun hHeld => ?rx20)
            case rx2s => ((try dsimp only); exact ⟨d3, d2⟩)
            try simp only [Act.put, List.setIfInBounds_toArray, List.set_cons_zero, List.set_cons_succ]
            refine take_at 0 (some 115) (v := ?vx2_1) rfl rfl (by kernel_rfl) (by kernel_rfl) (by kernel_rfl) (fun _ _ _ h => h) (Or.inl ⟨by kernel_rfl, ?yx2_1⟩) hHeld ?zx2_1
            case yx2_1 => (intro wS hSw; (try dsimp only at hSw); go_simp; (try with_reducible rfl))
            try simp only [Act.put, List.setIfInBounds_toArray, List.set_cons_zero, List.set_cons_succ]
            refine take_at 1 (some 116) (v := ?vx2_2) rfl rfl (by kernel_rfl) (by kernel_rfl) (by kernel_rfl) (fun _ _ _ h => h) (Or.inl ⟨by kernel_rfl, ?yx2_2⟩) hHeld ?zx2_2
            case yx2_2 => (intro wS hSw; (try dsimp only at hSw); go_simp; (try with_reducible rfl))
            try simp only [Act.put, List.setIfInBounds_toArray, List.set_cons_zero, List.set_cons_succ]
            refine take_at 2 (some 117) (v := ?vx2_3) rfl rfl (by kernel_rfl) (by kernel_rfl) (by kernel_rfl) (fun _ _ _ h => h) (Or.inl ⟨by kernel_rfl, ?yx2_3⟩) hHeld ?zx2_3
            case yx2_3 => (intro wS hSw; (try dsimp only at hSw); go_simp; (try with_reducible rfl))
            try simp only [Act.put, List.setIfInBounds_toArray, List.set_cons_zero, List.set_cons_succ]
            refine take_at 3 (some 118) (v := ?vx2_4) rfl rfl (by kernel_rfl) (by kernel_rfl) (by kernel_rfl) (fun _ _ _ h => h) (Or.inl ⟨by kernel_rfl, ?yx2_4⟩) hHeld ?zx2_4
            case yx2_4 => (intro wS hSw; (try dsimp only at hSw); go_simp; (try with_reducible rfl))
            try simp only [Act.put, List.setIfInBounds_toArray, List.set_cons_zero, List.set_cons_succ]
            refine take_at 4 (some 119) (v := ?vx2_5) rfl rfl (by kernel_rfl) (by kernel_rfl) (by kernel_rfl) (fun _ _ _ h => h) (Or.inl ⟨by kernel_rfl, ?yx2_5⟩) hHeld ?zx2_5
            case yx2_5 => (intro wS hSw; (try dsimp only at hSw); go_simp; (try with_reducible rfl))
            try simp only [Act.put, List.setIfInBounds_toArray, List.set_cons_zero, List.set_cons_succ]
            refine take_at 5 (some 120) (v := ?vx2_6) rfl rfl (by kernel_rfl) (by kernel_rfl) (by kernel_rfl) (fun _ _ _ h => h) (Or.inl ⟨by kernel_rfl, ?yx2_6⟩) hHeld ?zx2_6
            case yx2_6 => (intro wS hSw; (try dsimp only at hSw); go_simp; (try with_reducible rfl))
            try simp only [Act.put, List.setIfInBounds_toArray, List.set_cons_zero, List.set_cons_succ]
            refine take_at 6 (some 121) (v := ?vx2_7) rfl rfl (by kernel_rfl) (by kernel_rfl) (by kernel_rfl) (fun _ _ _ h => h) (Or.inl ⟨by kernel_rfl, ?yx2_7⟩) hHeld ?zx2_7
            case yx2_7 => (intro wS hSw; (try dsimp only at hSw); go_simp; (try with_reducible rfl))
            try simp only [Act.put, List.setIfInBounds_toArray, List.set_cons_zero, List.set_cons_succ]
            refine take_at 7 (some 122) (v := ?vx2_8) rfl rfl (by kernel_rfl) (by kernel_rfl) (by kernel_rfl) (fun _ _ _ h => h) (Or.inl ⟨by kernel_rfl, ?yx2_8⟩) hHeld ?zx2_8
            case yx2_8 => (intro wS hSw; (try dsimp only at hSw); go_simp; (try with_reducible rfl))
            try simp only [Act.put, List.setIfInBounds_toArray, List.set_cons_zero, List.set_cons_succ]
            refine take_at 8 (some 123) (v := ?vx2_9) rfl rfl (by kernel_rfl) (by kernel_rfl) (by kernel_rfl) (fun _ _ _ h => h) (Or.inl ⟨by kernel_rfl, ?yx2_9⟩) hHeld ?zx2_9
            case yx2_9 => (intro wS hSw; (try dsimp only at hSw); go_simp; (try with_reducible rfl))
            try simp only [Act.put, List.setIfInBounds_toArray, List.set_cons_zero, List.set_cons_succ]
            refine take_at 9 (some 124) (v := ?vx2_10) rfl rfl (by kernel_rfl) (by kernel_rfl) (by kernel_rfl) (fun _ _ _ h => h) (Or.inl ⟨by kernel_rfl, ?yx2_10⟩) hHeld ?zx2_10
            case yx2_10 => (intro wS hSw; (try dsimp only at hSw); go_simp; (try with_reducible rfl))
            try simp only [Act.put, List.setIfInBounds_toArray, List.set_cons_zero, List.set_cons_succ]
            refine take_at 10 (some 125) (v := ?vx2_11) rfl rfl (by kernel_rfl) (by kernel_rfl) (by kernel_rfl) (fun _ _ _ h => h) (Or.inl ⟨by kernel_rfl, ?yx2_11⟩) hHeld ?zx2_11
            case yx2_11 => (intro wS hSw; (try dsimp only at hSw); go_simp; (try with_reducible rfl))
            try simp only [Act.put, List.setIfInBounds_toArray, List.set_cons_zero, List.set_cons_succ]
            refine wpAnyH_ready (rs := [11]) (by kernel_rfl) (by simp) ?_
            refine cons_at (some 126) rfl rfl (by kernel_rfl) (fun K hK => ?kx2_13) AllReadyH.nil
            go_simp
            refine hK.out _ _ ?sx2_13 (fun hHeld => ?_)
            case sx2_13 => ((try dsimp only); first | exact ⟨k3, k2⟩ | exact keepC2 (by assumption) (below_alloc1 _ _) | exact ⟨cell_on (below_alloc1 _ _) d3, cell_on (below_alloc1 _ _) d2⟩ | assumption)
            clear hK K
            try simp only [Act.put, List.setIfInBounds_toArray, List.set_cons_zero, List.set_cons_succ]
            refine wpAnyH_ready (rs := [12]) (by kernel_rfl) (by simp) ?_
            refine cons_at (some 127) rfl rfl (by kernel_rfl) (fun K hK => ?kx2_15) AllReadyH.nil
            (refine wp_appK _ (.tmp 115) (.tmp 126) 46 rfl w7.heap.size 51 i0 (.agg #[.int .i64 0, .int .i64 0]) 2 16 Try.underlying46 hi hz0 hz1 hz2 rfl (by decide) u13 (n) ((D (n)).flatMap Ld.cells) (by simp [Act.eval]) HE1.out (some ⟨wX.heap.size, 0, none⟩) 1 1 [.int .i64 gg, .int .i64 xz] (by simp [Act.eval]) rfl (fun _ => ⟨_, rfl, HSn.out⟩) (fun e => by cases e) H1c hA (by omega) hD ?_; intro v3 w3 hown3 hgrow3; have HB3 := Lib.hid (HG.out.grown hgrow3 HG.out.size (fun i hi => (HE1.out.lt i hi).1)); have HO3 := Lib.hid hown3; have k3 := cell_on HB3.out Z3.out; have k2 := cell_on HB3.out Z2.out; clear hown3 hgrow3)
            refine hK.out _ _ ?sx2_15 (fun hHeld => ?_)
            case sx2_15 => ((try dsimp only); first | exact ⟨k3, k2⟩ | exact keepC2 (by assumption) (below_alloc1 _ _) | exact ⟨cell_on (below_alloc1 _ _) d3, cell_on (below_alloc1 _ _) d2⟩ | assumption)
            clear hK K
            try simp only [Act.put, List.setIfInBounds_toArray, List.set_cons_zero, List.set_cons_succ]
            refine take_at 13 (some 13) (v := ?vx2_16) rfl rfl (by kernel_rfl) (by kernel_rfl) (by kernel_rfl) (fun _ _ _ h => h) (Or.inl ⟨by kernel_rfl, ?yx2_16⟩) hHeld ?zx2_16
            case yx2_16 => (intro wS hSw; (try dsimp only at hSw); go_simp; (try with_reducible rfl))
            try simp only [Act.put, List.setIfInBounds_toArray, List.set_cons_zero, List.set_cons_succ]
            refine wpAnyH_done (by kernel_rfl) ?_ _
            go_wp2
            go_roundw
            case rel => exact ⟨n + 1, by omega, by go_num, Lib.hid (by rw [HDn.out]; exact HO3.out), HB3⟩
            case measure => simp [intOf]; omega
        · obtain rfl : n = xs.length := by omega
          have HOx : Hid (OwLd w7.heap.size wr u13 (D xs.length)) := Lib.hid ⟨by rw [HDx.out]; exact HOn.out, by rw [HDx.out]; omega⟩
          have Xr : Hid (wr.heap[w1.heap.size]? = some (.cells #[.int .i64 kn, .int .i64 kd, .int .i64 kb, .int .i64 kl, .int .i64 kt] 45 (0, 0))) := Lib.hid ((HBn.out.block w1.heap.size (Array.getElem?_eq_some_iff.1 X7.out).1).trans X7.out)
          have HFy := Lib.hid (HFx.out u13 wr HOx.out.rd)
          have hbg := HBg.out
          rw [hbg] at HFy
          have hfl := HFl.out
          clear hbg HBg HFx HFl HOx HOn
          generalize fitL ⟨kn, kd, kb, kl, kt⟩ (D xs.length) = M at *
          have xh := Xr.out; have x0 := cell_of_row wr (w1.heap.size) 0 _ _ _ xh; simp at x0; have xf0 := frozen_of_row wr (w1.heap.size) 0 _ _ xh; have x1 := cell_of_row wr (w1.heap.size) 1 _ _ _ xh; simp at x1; have xf1 := frozen_of_row wr (w1.heap.size) 1 _ _ xh; have x2 := cell_of_row wr (w1.heap.size) 2 _ _ _ xh; simp at x2; have xf2 := frozen_of_row wr (w1.heap.size) 2 _ _ xh; have x3 := cell_of_row wr (w1.heap.size) 3 _ _ _ xh; simp at x3; have xf3 := frozen_of_row wr (w1.heap.size) 3 _ _ xh; have x4 := cell_of_row wr (w1.heap.size) 4 _ _ _ xh; simp at x4; have xf4 := frozen_of_row wr (w1.heap.size) 4 _ _ xh; clear xh
          have xl : w1.heap.size < wr.heap.size := (Array.getElem?_eq_some_iff.1 Xr.out).1
          have qm : (((M.length : Nat) : Int) != ((xs.length : Nat) : Int)) = false := by rw [hfl]; exact bne_self_eq_false _
          clear hfl
          go_wp2_with fail
          refine HFy.out.mono ?_
          rintro e w8 ⟨v8, rfl, o8, b8⟩
          obtain ⟨p8, cap8, g8, rfl, hcap8, _⟩ := own_shape o8.1
          go_wp2_with fail
          go_meet
          exact Lib.hid (B7.out.trans ((HBn.out.trans (b8.mono HBn.out.size)).mono B7.out.size))
  case rest =>
    as_aux_lemma =>
    clear B7 X7 HPl HCl HPg HCg HF HFd hxl hcapl hcapg
    generalize wc = u0 at *
    go_wp2_with fail
    refine (drawSmall_any v bs _ (R0.out.below hcut.out)).mono ?_
    rintro e w1 ⟨nu, de, vl, xs, rfl, ol, hxl, b1⟩
    have B1 := Lib.hid (hcut.out.trans (b1.mono hcut.out.size))
    have L1 := Lib.hid ol
    clear b1 ol hcut
    have HI := Lib.hid (fun w h => implSmall_any nu de vl xs w h)
    have HS := Lib.hid (fun w h => specSmall_any nu de vl xs w h)
    have HV : Hid (∀ r, sbV nu de xs = (r, true) → lsB xs = true ∧ 1 ≤ r ∧ r ≤ 1000 ∧ fbB nu de r = true ∧ (fitL (fbK nu de r) xs).length = xs.length ∧ (1 < r → (fitL (fbK nu de (r - 1)) xs).length < xs.length)) := Lib.hid (fun r h => sbV_least h)
    generalize sbV nu de xs = sv at *
    obtain ⟨r, t⟩ := sv
    go_wp2_with fail
    refine (HI.out _ L1.out.rd).mono ?_
    rintro e w2 ⟨rfl, b2⟩
    have B2 := Lib.hid (B1.out.trans (b2.mono B1.out.size))
    have L2 := Lib.hid (L1.out.below b2)
    clear b2 B1 L1 HI
    go_wp2_with fail
    refine (HS.out _ L2.out.rd).mono ?_
    rintro e w3 ⟨rfl, b3⟩
    have B3 := Lib.hid (B2.out.trans (b3.mono B2.out.size))
    have L3 := Lib.hid (L2.out.below b3)
    clear b3 B2 L2 HS
    obtain ⟨pl, capl, bl, ofl, rfl, _, _, _⟩ := L3.out.rd.parts
    cases t
    · go_wp2_with fail
      go_ret
      exact ⟨rfl, B3.out⟩
    · obtain ⟨hls, hr1, hr2, hfb, hfl, hless⟩ := HV.out r rfl
      clear HV
      have hb := full_begins hfb hls
      have HFu := Lib.hid (fun w => implFull_any nu de r w)
      rw [hfb] at HFu
      have HFt := Lib.hid (fun w h => implFit_any (fbK nu de r) (.slice pl xs.length capl) xs w h)
      rw [hb] at HFt
      have HFu2 := Lib.hid (fun w => implFull_any nu de (r - 1) w)
      have HFt2 := Lib.hid (fun w h => implFit_any (fbK nu de (r - 1)) (.slice pl xs.length capl) xs w h)
      have HC2 : Hid (fbB nu de (r - 1) = true → begB (fbK nu de (r - 1)) xs = true ∧ (fitL (fbK nu de (r - 1)) xs).length < xs.length) := Lib.hid (fun h => ⟨full_begins h hls, hless (by
        simp only [fbB, Bool.and_eq_true, inR_true] at h
        omega)⟩)
      have wr1 : IntKind.i64.wrap (r - 1) = r - 1 := by rw [IntKind.wrap_i64]; omega
      clear hb hfb hls hless
      generalize fitL (fbK nu de r) xs = M at *
      generalize fitL (fbK nu de (r - 1)) xs = M2 at *
      generalize begB (fbK nu de (r - 1)) xs = bg2 at *
      generalize fbB nu de (r - 1) = fb2 at *
      generalize fbK nu de r = kf at *
      generalize fbK nu de (r - 1) = k2 at *
      obtain ⟨f1, f2, f3, f4, f5⟩ := kf
      obtain ⟨m1, m2, m3, m4, m5⟩ := k2
      have qm : (((M.length : Nat) : Int) != ((xs.length : Nat) : Int)) = false := by rw [hfl]; exact bne_self_eq_false _
      clear hfl
      go_wp2_with fail
      refine (HFu.out _).mono ?_
      rintro e w4 ⟨he, b4⟩
      have he : e = .returned (.tuple #[.agg #[.int .i64 f1, .int .i64 f2, .int .i64 f3, .int .i64 f4, .int .i64 f5], .bool true]) := he
      subst he
      have B4 : Hid (Below w.heap.size w (w4.alloc (.cells #[.int .i64 f1, .int .i64 f2, .int .i64 f3, .int .i64 f4, .int .i64 f5] 45))) := Lib.hid ((B3.out.trans (b4.mono B3.out.size)).alloc (B3.out.trans (b4.mono B3.out.size)).size _)
      have L4 : Hid (OwLd u0.heap.size (w4.alloc (.cells #[.int .i64 f1, .int .i64 f2, .int .i64 f3, .int .i64 f4, .int .i64 f5] 45)) (.slice pl xs.length capl) xs) := Lib.hid (by
        have h0 := (L3.out.below b4).below (show Below w4.heap.size w4 (w4.alloc (.cells #[.int .i64 f1, .int .i64 f2, .int .i64 f3, .int .i64 f4, .int .i64 f5] 45)) by go_grown)
        exact h0)
      clear b4 B3 L3 HFu
      go_wp2_with fail
      refine (HFt.out _ L4.out.rd).mono ?_
      rintro e w5 ⟨v5, rfl, o5, b5⟩
      have B5 := Lib.hid (B4.out.trans (b5.mono B4.out.size))
      have L5 := Lib.hid (L4.out.below b5)
      obtain ⟨p5, cap5, g5, rfl, hcap5, _⟩ := own_shape o5.1
      clear b5 B4 L4 HFt o5
      go_wp2_with fail
      refine (HFu2.out _).mono ?_
      rintro e w6 ⟨he, b6⟩
      have he : e = .returned (.tuple #[.agg #[.int .i64 m1, .int .i64 m2, .int .i64 m3, .int .i64 m4, .int .i64 m5], .bool fb2]) := he
      subst he
      have B6 : Hid (Below w.heap.size w (w6.alloc (.cells #[.int .i64 m1, .int .i64 m2, .int .i64 m3, .int .i64 m4, .int .i64 m5] 45))) := Lib.hid ((B5.out.trans (b6.mono B5.out.size)).alloc (B5.out.trans (b6.mono B5.out.size)).size _)
      have L6 := Lib.hid ((L5.out.below b6).below (show Below w6.heap.size w6 (w6.alloc (.cells #[.int .i64 m1, .int .i64 m2, .int .i64 m3, .int .i64 m4, .int .i64 m5] 45)) by go_grown))
      clear b6 B5 L5 HFu2
      cases fb2
      · go_wp2_with fail
        go_ret
        exact ⟨rfl, B6.out⟩
      · obtain ⟨rfl, hm2⟩ := HC2.out rfl
        have qd : decide (((M2.length : Nat) : Int) < ((xs.length : Nat) : Int)) = true := decide_eq_true (by omega)
        clear HC2
        go_wp2_with fail
        refine (HFt2.out _ L6.out.rd).mono ?_
        rintro e w7 ⟨v7, rfl, o7, b7⟩
        have B7 := Lib.hid (B6.out.trans (b7.mono B6.out.size))
        obtain ⟨p7, cap7, g7, rfl, hcap7, _⟩ := own_shape o7.1
        clear b7 B6 L6 HFt2 o7
        go_wp2_with fail
        go_ret
        exact ⟨by simp [hm2], B7.out⟩

set_option maxRecDepth 100000 in
theorem lifted (os : Os) (started : os.Started) (H : Type) (enc : TypeId × Value → H) :
    ReturnsInHanded {} Try.checked os 4 .any (Rows.fnLoadsSpec.pre6 enc Try.prog Try.f4 Rows.fnLoadsRow.domain false) (Rows.fnLoadsSpec.post enc Try.prog Try.f4 false true false false) := by
  refine returnsInHanded_of_change_sized (C := Try.checked) lk_own started (by kernel_rfl) Try.func4
    (ChangeSpec.witness6 (enc := enc) (C := Try.checked) false ⟨#[], #[.slice none 0 0], []⟩ 8 (by kernel_rfl) (by kernel_rfl) (by kernel_rfl) (by kernel_rfl)) ?_
  intro W base args ds gs before hval0 hW _ _ _
  have hval : ∀ (j : Nat) t v, Try.f4.params[j]? = some t → args[j]? = some v → Value.okWide Try.prog W .any base t v := hval0
  have hW' := hW
  obtain ⟨p, q, hA0, hV, rfl, _, _⟩ := hW
  have hA : DataW.TrodAll enc Try.prog W 0 (fun _ => true) true Try.f4.params.toList args.toList ds p := hA0
  rw [Try.params4] at hA hval
  obtain ⟨v0, vs0, d0, ds0, p0, q0, hargs, rfl, rfl, h0, r0⟩ := trodAll_cons hA
  obtain ⟨rfl, rfl, rfl⟩ := trodAll_nil r0
  obtain rfl : args = #[v0] := by cases args; simp_all
  obtain ⟨rfl, rfl⟩ := trodVars_none hV
  clear hA0 hval0
  have x0 := open_argY (hval 0 22 v0 rfl rfl) h0
  simp only [List.append_nil] at hW'
  refine (walk v0 W x0).mono fun e W' ⟨he, hb⟩ => ?_
  subst he
  exact ⟨_, rfl, post_law hW' rfl rfl (by kernel_rfl) rfl rfl rfl hb⟩

theorem over : Rows.fnLoadsRow.holds Try.pinned (OpenSpec.ofChange Rows.fnLoadsSpec) :=
  OpenClaim.holds_of_wide 4 Try.f4 rfl rfl rfl rfl rfl rfl rfl ⟨rfl, rfl, rfl, rfl, rfl⟩ rfl rfl rfl rfl rfl (by kernel_rfl) Try.func4 (by kernel_rfl)
    (of_decide_eq_true (by kernel_rfl)) (by unfold Func.isWrapper; first | (rw [if_pos (by decide +kernel)]; kernel_rfl) | (rw [if_neg (by decide +kernel)]; exact ⟨rfl, rfl⟩))
    (fun os started H enc _ => lifted os started H enc)

theorem proved : Rows.FnLoadsSaid := over
#print axioms proved
end Go.Proofs.Ytgmccafmopgjaaa.FnLoads
