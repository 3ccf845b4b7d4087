/- Contract: the program's ShapeLoads, for all arguments. -/
import Derived.Test.YtgmccafmopgjaaaShapeMath
import Derived.Test.YtgmccafmopgjaaaBoxK
import Derived.Deep.DeepCutAuto
namespace Go.Proofs.Ytgmccafmopgjaaa
open Go.RowKit

theorem canFill_hi {k : Bk} {now : Int} (h : canFill k now = true) : 0 ≤ now ∧ now ≤ 10000 := by
  simp only [canFill, Bool.and_eq_true, bkB_iff, inR_true] at h
  omega
theorem wait_nonneg0 {k : Bk} {x : Ld} (h : bkB k = true) : 0 ≤ k.waitT x := ceil_nonneg _ _ (bkB_iff.1 h).1.1 (by omega)
theorem late_ge {k : Bk} {x : Ld} (h : k.t ≤ x.t) : k.late x = x := by
  unfold Bk.late; rw [show max x.t k.t = x.t by omega]
theorem late_lt {k : Bk} {x : Ld} (h : x.t < k.t) : k.late x = ⟨k.t, x.s⟩ := by
  unfold Bk.late; rw [show max x.t k.t = k.t by omega]
theorem shapeB_no {k : Bk} {xs : List Ld} {m : Nat} (h : shB k xs m = false) (hm : m ≤ xs.length) : shapeB k xs = false := by
  cases hs : shapeB k xs
  · rfl
  · simp only [shapeB, Bool.and_eq_true] at hs
    rw [shB_le hs.2 m hm (Nat.le_refl _)] at h
    cases h

theorem shape_no {k : Bk} {xs : List Ld} {m : Nat} (h : shB k xs (m + 1) = false) (hm : m < xs.length) : shapeB k xs = false ∧ shapeL k xs = [] := by
  have h1 := shapeB_no h hm
  exact ⟨h1, by simp [shapeL, h1]⟩

set_option maxRecDepth 100000 in
set_option maxHeartbeats 8000000 in
theorem implShape_any (k : Bk) (v : Value) (xs : List Ld) (w : World) (h : RdLd w v xs) :
    Calls Try.prog 22 #[k.v, v] w fun e w' => ∃ v', e = .returned (.tuple #[v', .bool (shapeB k xs)]) ∧ OwI w.heap.size w' v' (shapeL k xs) ∧ Below w.heap.size w w' := by
  have hlen := h.2
  have HR := Lib.hid h
  obtain ⟨i0, hi, hz0, hz1, hz2⟩ := info_parts infoInt
  obtain ⟨p, cap, b, off, rfl, hcap, hp, hcell⟩ := h.parts
  have HC := Lib.hid hcell; clear hcell
  have HP := Lib.hid hp; clear hp h
  have hG := fun w h => canLoad_any k (Value.slice p xs.length cap) xs w h
  cases hbeg : begB k xs
  · have HV : Hid (shapeB k xs = false ∧ shapeL k xs = []) := Lib.hid (by simp [shapeL, shapeB, hbeg])
    simp only [hbeg] at hG
    have HG := Lib.hid hG; clear hG hbeg
    go_enter Try.func22, Try.ntmps22
    go_wp2_with fail
    refine (HG.out _ (HR.out.below (by go_grown))).mono ?_
    rintro e w1 ⟨rfl, hb⟩
    go_wp2
    refine bodyPost_ret (v := (.tuple #[.slice none 0 0, .bool false])) (by simp [results, Try.results22, go_sem, *]) rfl ?_
    exact ⟨_, by rw [HV.out.1], by rw [HV.out.2]; exact ⟨⟨rfl, .inl ⟨rfl, rfl⟩⟩, Nat.zero_le _⟩, Below.trans (by go_grown) (hb.mono (by simp <;> omega))⟩
  · have hls := (begB_iff.1 hbeg).2.1
    simp only [hbeg] at hG
    have HG := Lib.hid hG; clear hG
    have HB := Lib.hid hbeg; clear hbeg
    have h20 := hls.1
    have HL := Lib.hid hls; clear hls
    go_enter Try.func22, Try.ntmps22
    go_wp2_with fail
    refine (HG.out _ (HR.out.below (by go_grown))).mono ?_
    rintro e w1 ⟨rfl, hb⟩
    have hB0 : BoxBk w1 w.heap.size k := (hb.block w.heap.size (by simp)).trans (heap_alloc_new w _)
    have hb1 : Below w.heap.size w w1 := Below.trans (by go_grown) (hb.mono (by simp <;> omega))
    have HB0 := Lib.hid hB0; clear hB0
    have HB1 := Lib.hid hb1; clear hb1 hb
    go_wp2
    go_loopw [6, 17] (fun v i wr => ∃ n : Nat, n ≤ xs.length ∧ i = .int .i64 n ∧ Hid (shB k xs n = true) ∧ BoxBk wr w.heap.size (shN k xs n).1 ∧ OwI (w.heap.size + 1) wr v (shN k xs n).2 ∧ Below w.heap.size w wr) (fun _ i _ => xs.length - (intOf i).toNat)
    case atStart => exact ⟨0, Nat.zero_le _, rfl, Lib.hid rfl, HB0.out, ⟨⟨rfl, .inl ⟨rfl, rfl⟩⟩, Nat.zero_le _⟩, HB1.out⟩
    case round =>
      clear HB0 HB1
      obtain ⟨n, hn, rfl, HA, hbox, hown, hb⟩ := hrel
      by_cases hlt : n < xs.length
      · obtain rfl := HP.out (by omega)
        obtain ⟨c1, c2⟩ := HC.out n hlt
        have c1 := cell_on hb c1
        have c2 := cell_on hb c2
        have hx := HL.out.2.1 n hlt
        have hgd := shN_good HB.out n hn HA.out
        have hfl := Nat.le_of_eq (shN_length k xs n hn)
        have hsu := shN_succ k xs n hlt
        have hsb := shB_succ k xs n hlt
        have hcan := late_can hgd hx
        have hld := late_ld hgd hx
        generalize hE : shN k xs n = r at hbox hown hgd hfl hsu hsb hcan hld
        obtain ⟨⟨bn, bd, bb, bl, bt⟩, L⟩ := r
        clear hE
        generalize xs[n] = x at c1 c2 hx hsu hsb hcan hld
        obtain ⟨xt, xsz⟩ := x
        simp only at hbox hown hgd hfl hsu hsb c1 c2
        have hbox0 := hbox.lt
        have HBx := Lib.hid hbox; clear hbox
        have HO := Lib.hid hown; clear hown
        have qh := HBx.out; have q0 := cell_of_row wr (w.heap.size) 0 _ _ _ qh; simp at q0; have qf0 := frozen_of_row wr (w.heap.size) 0 _ _ qh; have q1 := cell_of_row wr (w.heap.size) 1 _ _ _ qh; simp at q1; have qf1 := frozen_of_row wr (w.heap.size) 1 _ _ qh; have q2 := cell_of_row wr (w.heap.size) 2 _ _ _ qh; simp at q2; have qf2 := frozen_of_row wr (w.heap.size) 2 _ _ qh; have q3 := cell_of_row wr (w.heap.size) 3 _ _ _ qh; simp at q3; have qf3 := frozen_of_row wr (w.heap.size) 3 _ _ qh; have q4 := cell_of_row wr (w.heap.size) 4 _ _ _ qh; simp at q4; have qf4 := frozen_of_row wr (w.heap.size) 4 _ _ qh; clear qh
        have hlB := Lib.hid hb; clear hb
        by_cases hle : bt ≤ xt
        · have hlate := late_ge (k := ⟨bn, bd, bb, bl, bt⟩) (x := ⟨xt, xsz⟩) hle
          rw [hlate] at hcan hld
          have HWt := Lib.hid (fun w => wait_any ⟨bn, bd, bb, bl, bt⟩ ⟨xt, xsz⟩ w hcan hld)
          have hst := fun hw => shN_step (k := ⟨bn, bd, bb, bl, bt⟩) (x := ⟨xt, xsz⟩) hgd hx hw
          have hgoes : Bk.goes ⟨bn, bd, bb, bl, bt⟩ ⟨xt, xsz⟩ = xt + Bk.waitT ⟨bn, bd, bb, bl, bt⟩ ⟨xt, xsz⟩ := by unfold Bk.goes; rw [hlate]
          rw [hlate] at hst hsb
          rw [hgoes] at hst hsu
          have hld' := ldB_iff.1 hld
          simp only at hld'
          have HTk := fun w hw => take_any ⟨bn, bd, bb, bl, bt⟩ (xt + Bk.waitT ⟨bn, bd, bb, bl, bt⟩ ⟨xt, xsz⟩) xsz w (hst hw).1 (by omega) (by omega)
          have hwb := fun hw => (canFill_hi (hst hw).1)
          have hwt0 : 0 ≤ Bk.waitT ⟨bn, bd, bb, bl, bt⟩ ⟨xt, xsz⟩ := wait_nonneg0 hgd
          rw [show Bk.take ⟨bn, bd, bb, bl, bt⟩ (xt + Bk.waitT ⟨bn, bd, bb, bl, bt⟩ ⟨xt, xsz⟩) xsz = ⟨bn, bd, bb, (Bk.take ⟨bn, bd, bb, bl, bt⟩ (xt + Bk.waitT ⟨bn, bd, bb, bl, bt⟩ ⟨xt, xsz⟩) xsz).l, xt + Bk.waitT ⟨bn, bd, bb, bl, bt⟩ ⟨xt, xsz⟩⟩ from rfl] at hsu
          generalize (Bk.take ⟨bn, bd, bb, bl, bt⟩ (xt + Bk.waitT ⟨bn, bd, bb, bl, bt⟩ ⟨xt, xsz⟩) xsz).l = nl at HTk hsu
          generalize Bk.fits ⟨bn, bd, bb, bl, bt⟩ (xt + Bk.waitT ⟨bn, bd, bb, bl, bt⟩ ⟨xt, xsz⟩) xsz = ff at HTk
          generalize Bk.waitB ⟨bn, bd, bb, bl, bt⟩ ⟨xt, xsz⟩ = f at HWt HTk hsb hwb hst
          generalize Bk.waitT ⟨bn, bd, bb, bl, bt⟩ ⟨xt, xsz⟩ = wt at HWt HTk hsu hwb hwt0 hst
          clear hst hgoes hcan hld hlate hx hgd
          cases f
          · have HSB : Hid (shapeB k xs = false ∧ shapeL k xs = []) := Lib.hid (shape_no (by rw [hsb, Bool.and_false]) hlt)
            clear hsb hsu HTk hwb
            go_wp2_with fail
            refine (HWt.out _).mono ?_
            rintro e w1 ⟨rfl, hb1⟩
            have HL1 : Hid (w1.heap[wr.heap.size]? = some (.cells #[.int .i64 xt, .int .i64 xsz] 51 (0, 0))) := Lib.hid ((hb1.block wr.heap.size (by simp)).trans (heap_alloc_new wr _))
            have HB1 := Lib.hid (Below.trans (by go_grown) (hb1.mono (by simp <;> omega)) : Below wr.heap.size wr w1); clear hb1
            have hzw := HB1.out.size
            have hzl : wr.heap.size < w1.heap.size := (Array.getElem?_eq_some_iff.1 HL1.out).1
            clear q0 qf0 q1 qf1 q2 qf2 q3 qf3 q4 qf4 c1 c2
            go_wp2
            refine bodyPost_ret (v := (.tuple #[.slice none 0 0, .bool false])) (by simp [results, Try.results22, go_sem, *]) rfl ?_
            exact ⟨_, by rw [HSB.out.1], by rw [HSB.out.2]; exact ⟨⟨rfl, .inl ⟨rfl, rfl⟩⟩, Nat.zero_le _⟩, hlB.out.trans (HB1.out.mono hlB.out.size)⟩
          · have HSB : Hid (shB k xs (n + 1) = true) := Lib.hid (by rw [hsb, HA.out]; rfl)
            clear hsb
            have hwb2 := hwb rfl; clear hwb
            have HTk := fun w => HTk w rfl
            simp only at HTk
            have HT := Lib.hid HTk; clear HTk
            have HSu := Lib.hid hsu; clear hsu
            go_wp2_with fail
            refine (HWt.out _).mono ?_
            rintro e w1 ⟨rfl, hb1⟩
            have HL1 : Hid (w1.heap[wr.heap.size]? = some (.cells #[.int .i64 xt, .int .i64 xsz] 51 (0, 0))) := Lib.hid ((hb1.block wr.heap.size (by simp)).trans (heap_alloc_new wr _))
            have HB1 := Lib.hid (Below.trans (by go_grown) (hb1.mono (by simp <;> omega)) : Below wr.heap.size wr w1); clear hb1
            have hzw := HB1.out.size
            have hzl : wr.heap.size < w1.heap.size := (Array.getElem?_eq_some_iff.1 HL1.out).1
            clear q0 qf0 q1 qf1 q2 qf2 q3 qf3 q4 qf4 c1 c2
            have HBx1 := Lib.hid (HBx.out.below HB1.out)
            have uh := HBx1.out; have u0 := cell_of_row w1 (w.heap.size) 0 _ _ _ uh; simp at u0; have uf0 := frozen_of_row w1 (w.heap.size) 0 _ _ uh; have u1 := cell_of_row w1 (w.heap.size) 1 _ _ _ uh; simp at u1; have uf1 := frozen_of_row w1 (w.heap.size) 1 _ _ uh; have u2 := cell_of_row w1 (w.heap.size) 2 _ _ _ uh; simp at u2; have uf2 := frozen_of_row w1 (w.heap.size) 2 _ _ uh; have u3 := cell_of_row w1 (w.heap.size) 3 _ _ _ uh; simp at u3; have uf3 := frozen_of_row w1 (w.heap.size) 3 _ _ uh; have u4 := cell_of_row w1 (w.heap.size) 4 _ _ _ uh; simp at u4; have uf4 := frozen_of_row w1 (w.heap.size) 4 _ _ uh; clear uh
            have lh := HL1.out; have l0 := cell_of_row w1 (wr.heap.size) 0 _ _ _ lh; simp at l0; have lf0 := frozen_of_row w1 (wr.heap.size) 0 _ _ lh; have l1 := cell_of_row w1 (wr.heap.size) 1 _ _ _ lh; simp at l1; have lf1 := frozen_of_row w1 (wr.heap.size) 1 _ _ lh; clear lh
            have hlt1 : w.heap.size < w1.heap.size := by omega
            go_wp2_with fail
            refine (HT.out _).mono ?_
            rintro e w2 ⟨rfl, hb2⟩
            have HB2 := Lib.hid (HB1.out.trans (hb2.mono HB1.out.size))
            have HL2 : Hid (w2.heap[wr.heap.size]? = some (.cells #[.int .i64 xt, .int .i64 xsz] 51 (0, 0))) := Lib.hid ((hb2.block wr.heap.size hzl).trans HL1.out)
            have hz2 := hb2.size
            clear hb2 u0 uf0 u1 uf1 u2 uf2 u3 uf3 u4 uf4 l0 lf0 l1 lf1
            have HBx2 := Lib.hid (HBx.out.below HB2.out)
            have uh := HBx2.out; have u0 := cell_of_row w2 (w.heap.size) 0 _ _ _ uh; simp at u0; have uf0 := frozen_of_row w2 (w.heap.size) 0 _ _ uh; have u1 := cell_of_row w2 (w.heap.size) 1 _ _ _ uh; simp at u1; have uf1 := frozen_of_row w2 (w.heap.size) 1 _ _ uh; have u2 := cell_of_row w2 (w.heap.size) 2 _ _ _ uh; simp at u2; have uf2 := frozen_of_row w2 (w.heap.size) 2 _ _ uh; have u3 := cell_of_row w2 (w.heap.size) 3 _ _ _ uh; simp at u3; have uf3 := frozen_of_row w2 (w.heap.size) 3 _ _ uh; have u4 := cell_of_row w2 (w.heap.size) 4 _ _ _ uh; simp at u4; have uf4 := frozen_of_row w2 (w.heap.size) 4 _ _ uh; clear uh
            have lh := HL2.out; have l0 := cell_of_row w2 (wr.heap.size) 0 _ _ _ lh; simp at l0; have lf0 := frozen_of_row w2 (wr.heap.size) 0 _ _ lh; have l1 := cell_of_row w2 (wr.heap.size) 1 _ _ _ lh; simp at l1; have lf1 := frozen_of_row w2 (wr.heap.size) 1 _ _ lh; clear lh
            have hlt2 : w.heap.size < w2.heap.size := by omega
            have hzl2 : wr.heap.size < w2.heap.size := by omega
            have hne1 : w.heap.size ≠ wr.heap.size := by omega
            have hO2 := (HO.out.below HB2.out).1
            have HW2 := Lib.hid (hlB.out.trans (HB2.out.mono hlB.out.size))
            clear HO HBx HBx1 HP HC HL HT HB1 HWt
            go_upto_region 12 with fail
            have hS5 : (((((w2.setCell ⟨w.heap.size, 0, none⟩ (.int .i64 bn)).setCell ⟨w.heap.size, 1, none⟩ (.int .i64 bd)).setCell ⟨w.heap.size, 2, none⟩ (.int .i64 bb)).setCell ⟨w.heap.size, 3, none⟩ (.int .i64 nl)).setCell ⟨w.heap.size, 4, none⟩ (.int .i64 (xt + wt))).heap[w.heap.size]? = _ := set5_at HBx2.out (.int .i64 bn) (.int .i64 bd) (.int .i64 bb) (.int .i64 nl) (.int .i64 (xt + wt))
            have hL5 : (((((w2.setCell ⟨w.heap.size, 0, none⟩ (.int .i64 bn)).setCell ⟨w.heap.size, 1, none⟩ (.int .i64 bd)).setCell ⟨w.heap.size, 2, none⟩ (.int .i64 bb)).setCell ⟨w.heap.size, 3, none⟩ (.int .i64 nl)).setCell ⟨w.heap.size, 4, none⟩ (.int .i64 (xt + wt))).heap[wr.heap.size]? = some (.cells #[.int .i64 xt, .int .i64 xsz] 51 (0, 0)) := (set5_other _ _ _ _ _ (by omega)).trans HL2.out
            have hO5 := own_same (w' := (((((w2.setCell ⟨w.heap.size, 0, none⟩ (.int .i64 bn)).setCell ⟨w.heap.size, 1, none⟩ (.int .i64 bd)).setCell ⟨w.heap.size, 2, none⟩ (.int .i64 bb)).setCell ⟨w.heap.size, 3, none⟩ (.int .i64 nl)).setCell ⟨w.heap.size, 4, none⟩ (.int .i64 (xt + wt)))) hO2 (fun g hg hl => set5_other _ _ _ _ _ (by omega))
            have hB5 : Below w.heap.size w (((((w2.setCell ⟨w.heap.size, 0, none⟩ (.int .i64 bn)).setCell ⟨w.heap.size, 1, none⟩ (.int .i64 bd)).setCell ⟨w.heap.size, 2, none⟩ (.int .i64 bb)).setCell ⟨w.heap.size, 3, none⟩ (.int .i64 nl)).setCell ⟨w.heap.size, 4, none⟩ (.int .i64 (xt + wt))) := ((((HW2.out.setCell (Nat.le_refl _) _).setCell (Nat.le_refl _) _).setCell (Nat.le_refl _) _).setCell (Nat.le_refl _) _).setCell (Nat.le_refl _) _
            clear u0 uf0 u1 uf1 u2 uf2 u3 uf3 u4 uf4 l0 lf0 l1 lf1 hO2 HBx2 HW2 HB2 HL1 HL2 hlt1 hzw hzl hz2 hlt2 hzl2
            generalize (((((w2.setCell ⟨w.heap.size, 0, none⟩ (.int .i64 bn)).setCell ⟨w.heap.size, 1, none⟩ (.int .i64 bd)).setCell ⟨w.heap.size, 2, none⟩ (.int .i64 bb)).setCell ⟨w.heap.size, 3, none⟩ (.int .i64 nl)).setCell ⟨w.heap.size, 4, none⟩ (.int .i64 (xt + wt))) = W5 at hS5 hL5 hO5 hB5 ⊢
            have hl5 : w.heap.size < W5.heap.size := (Array.getElem?_eq_some_iff.1 hS5).1
            have hll5 : wr.heap.size < W5.heap.size := (Array.getElem?_eq_some_iff.1 hL5).1
            have HS5 := Lib.hid hS5; clear hS5
            have HL5 := Lib.hid hL5; clear hL5
            have lh := HL5.out; have l0 := cell_of_row W5 (wr.heap.size) 0 _ _ _ lh; simp at l0; have lf0 := frozen_of_row W5 (wr.heap.size) 0 _ _ lh; have l1 := cell_of_row W5 (wr.heap.size) 1 _ _ _ lh; simp at l1; have lf1 := frozen_of_row W5 (wr.heap.size) 1 _ _ lh; clear lh
            go_wp2_with (first | (at_builtin; go_loud (refine wpList_append_own _ rfl _ _ 29 rfl (w.heap.size + 1) 3 i0 (.int .i64 0) 1 8 Try.underlying29 hi hz0 hz1 hz2 rfl (by decide) _ _ _ rfl (hO5.alloc _) ⟨W5.heap.size, 0, none⟩ 1 1 [.int .i64 (xt + wt)] rfl rfl ?c1 ?c2 ?c3 ?c4 ?c5 ?_)))
            try (case c1 => first | exact cells_new _ #[_] _ | rfl)
            try (case c2 => first | rfl | (intro u hu; simp at hu; subst hu; rfl))
            try (case c3 => first | omega | (unfold maxLen; omega))
            try (case c4 => first | omega | ((try simp only [World.heap_size_alloc]); omega))
            try (case c5 => first | omega | (simp; omega))
            intro v' w2 hown' hgrow
            try intro _
            have hr5 : some w.heap.size ≠ u6.ownBlock := fun e => by have := (hO5.lt _ e.symm).1; omega
            have hbx5 : BoxBk w2 w.heap.size ⟨bn, bd, bb, nl, xt + wt⟩ := (hgrow.block w.heap.size (by simp; omega) hr5).trans ((Below.heap_alloc _ _ _ hl5).trans HS5.out)
            have HX5 := Lib.hid hbx5; clear hbx5
            clear l0 lf0 l1 lf1
            go_wp2
            go_roundw
            case rel => exact ⟨n + 1, by omega, by go_num, HSB, by rw [HSu.out]; exact HX5.out, by rw [HSu.out]; exact ⟨by simpa using hown', by simp; omega⟩, Below.grown (Below.trans hB5 (by go_grown)) hgrow (by simp; omega) (fun j hj => Nat.le_trans (Nat.le_succ _) (hO5.lt j hj).1)⟩
            case measure => simp [intOf]; omega
        · have hlate := late_lt (k := ⟨bn, bd, bb, bl, bt⟩) (x := ⟨xt, xsz⟩) (by simpa using hle)
          rw [hlate] at hcan hld
          have hle : xt < bt := by omega
          have HWt := Lib.hid (fun w => wait_any ⟨bn, bd, bb, bl, bt⟩ ⟨bt, xsz⟩ w hcan hld)
          have hst := fun hw => shN_step (k := ⟨bn, bd, bb, bl, bt⟩) (x := ⟨xt, xsz⟩) hgd hx hw
          have hgoes : Bk.goes ⟨bn, bd, bb, bl, bt⟩ ⟨xt, xsz⟩ = bt + Bk.waitT ⟨bn, bd, bb, bl, bt⟩ ⟨bt, xsz⟩ := by unfold Bk.goes; rw [hlate]
          rw [hlate] at hst hsb
          rw [hgoes] at hst hsu
          have hld' := ldB_iff.1 hld
          simp only at hld'
          have HTk := fun w hw => take_any ⟨bn, bd, bb, bl, bt⟩ (bt + Bk.waitT ⟨bn, bd, bb, bl, bt⟩ ⟨bt, xsz⟩) xsz w (hst hw).1 (by omega) (by omega)
          have hwb := fun hw => (canFill_hi (hst hw).1)
          have hwt0 : 0 ≤ Bk.waitT ⟨bn, bd, bb, bl, bt⟩ ⟨bt, xsz⟩ := wait_nonneg0 hgd
          rw [show Bk.take ⟨bn, bd, bb, bl, bt⟩ (bt + Bk.waitT ⟨bn, bd, bb, bl, bt⟩ ⟨bt, xsz⟩) xsz = ⟨bn, bd, bb, (Bk.take ⟨bn, bd, bb, bl, bt⟩ (bt + Bk.waitT ⟨bn, bd, bb, bl, bt⟩ ⟨bt, xsz⟩) xsz).l, bt + Bk.waitT ⟨bn, bd, bb, bl, bt⟩ ⟨bt, xsz⟩⟩ from rfl] at hsu
          generalize (Bk.take ⟨bn, bd, bb, bl, bt⟩ (bt + Bk.waitT ⟨bn, bd, bb, bl, bt⟩ ⟨bt, xsz⟩) xsz).l = nl at HTk hsu
          generalize Bk.fits ⟨bn, bd, bb, bl, bt⟩ (bt + Bk.waitT ⟨bn, bd, bb, bl, bt⟩ ⟨bt, xsz⟩) xsz = ff at HTk
          generalize Bk.waitB ⟨bn, bd, bb, bl, bt⟩ ⟨bt, xsz⟩ = f at HWt HTk hsb hwb hst
          generalize Bk.waitT ⟨bn, bd, bb, bl, bt⟩ ⟨bt, xsz⟩ = wt at HWt HTk hsu hwb hwt0 hst
          clear hst hgoes hcan hld hlate hx hgd
          cases f
          · have HSB : Hid (shapeB k xs = false ∧ shapeL k xs = []) := Lib.hid (shape_no (by rw [hsb, Bool.and_false]) hlt)
            clear hsb hsu HTk hwb
            go_wp2_with fail
            refine (HWt.out _).mono ?_
            rintro e w1 ⟨rfl, hb1⟩
            have HL1 : Hid (w1.heap[wr.heap.size]? = some (.cells #[.int .i64 bt, .int .i64 xsz] 51 (0, 0))) := Lib.hid ((hb1.block wr.heap.size (by simp)).trans (heap_alloc_new wr _))
            have HB1 := Lib.hid (Below.trans (by go_grown) (hb1.mono (by simp <;> omega)) : Below wr.heap.size wr w1); clear hb1
            have hzw := HB1.out.size
            have hzl : wr.heap.size < w1.heap.size := (Array.getElem?_eq_some_iff.1 HL1.out).1
            clear q0 qf0 q1 qf1 q2 qf2 q3 qf3 q4 qf4 c1 c2
            go_wp2
            refine bodyPost_ret (v := (.tuple #[.slice none 0 0, .bool false])) (by simp [results, Try.results22, go_sem, *]) rfl ?_
            exact ⟨_, by rw [HSB.out.1], by rw [HSB.out.2]; exact ⟨⟨rfl, .inl ⟨rfl, rfl⟩⟩, Nat.zero_le _⟩, hlB.out.trans (HB1.out.mono hlB.out.size)⟩
          · have HSB : Hid (shB k xs (n + 1) = true) := Lib.hid (by rw [hsb, HA.out]; rfl)
            clear hsb
            have hwb2 := hwb rfl; clear hwb
            have HTk := fun w => HTk w rfl
            simp only at HTk
            have HT := Lib.hid HTk; clear HTk
            have HSu := Lib.hid hsu; clear hsu
            go_wp2_with fail
            refine (HWt.out _).mono ?_
            rintro e w1 ⟨rfl, hb1⟩
            have HL1 : Hid (w1.heap[wr.heap.size]? = some (.cells #[.int .i64 bt, .int .i64 xsz] 51 (0, 0))) := Lib.hid ((hb1.block wr.heap.size (by simp)).trans (heap_alloc_new wr _))
            have HB1 := Lib.hid (Below.trans (by go_grown) (hb1.mono (by simp <;> omega)) : Below wr.heap.size wr w1); clear hb1
            have hzw := HB1.out.size
            have hzl : wr.heap.size < w1.heap.size := (Array.getElem?_eq_some_iff.1 HL1.out).1
            clear q0 qf0 q1 qf1 q2 qf2 q3 qf3 q4 qf4 c1 c2
            have HBx1 := Lib.hid (HBx.out.below HB1.out)
            have uh := HBx1.out; have u0 := cell_of_row w1 (w.heap.size) 0 _ _ _ uh; simp at u0; have uf0 := frozen_of_row w1 (w.heap.size) 0 _ _ uh; have u1 := cell_of_row w1 (w.heap.size) 1 _ _ _ uh; simp at u1; have uf1 := frozen_of_row w1 (w.heap.size) 1 _ _ uh; have u2 := cell_of_row w1 (w.heap.size) 2 _ _ _ uh; simp at u2; have uf2 := frozen_of_row w1 (w.heap.size) 2 _ _ uh; have u3 := cell_of_row w1 (w.heap.size) 3 _ _ _ uh; simp at u3; have uf3 := frozen_of_row w1 (w.heap.size) 3 _ _ uh; have u4 := cell_of_row w1 (w.heap.size) 4 _ _ _ uh; simp at u4; have uf4 := frozen_of_row w1 (w.heap.size) 4 _ _ uh; clear uh
            have lh := HL1.out; have l0 := cell_of_row w1 (wr.heap.size) 0 _ _ _ lh; simp at l0; have lf0 := frozen_of_row w1 (wr.heap.size) 0 _ _ lh; have l1 := cell_of_row w1 (wr.heap.size) 1 _ _ _ lh; simp at l1; have lf1 := frozen_of_row w1 (wr.heap.size) 1 _ _ lh; clear lh
            have hlt1 : w.heap.size < w1.heap.size := by omega
            go_wp2_with fail
            refine (HT.out _).mono ?_
            rintro e w2 ⟨rfl, hb2⟩
            have HB2 := Lib.hid (HB1.out.trans (hb2.mono HB1.out.size))
            have HL2 : Hid (w2.heap[wr.heap.size]? = some (.cells #[.int .i64 bt, .int .i64 xsz] 51 (0, 0))) := Lib.hid ((hb2.block wr.heap.size hzl).trans HL1.out)
            have hz2 := hb2.size
            clear hb2 u0 uf0 u1 uf1 u2 uf2 u3 uf3 u4 uf4 l0 lf0 l1 lf1
            have HBx2 := Lib.hid (HBx.out.below HB2.out)
            have uh := HBx2.out; have u0 := cell_of_row w2 (w.heap.size) 0 _ _ _ uh; simp at u0; have uf0 := frozen_of_row w2 (w.heap.size) 0 _ _ uh; have u1 := cell_of_row w2 (w.heap.size) 1 _ _ _ uh; simp at u1; have uf1 := frozen_of_row w2 (w.heap.size) 1 _ _ uh; have u2 := cell_of_row w2 (w.heap.size) 2 _ _ _ uh; simp at u2; have uf2 := frozen_of_row w2 (w.heap.size) 2 _ _ uh; have u3 := cell_of_row w2 (w.heap.size) 3 _ _ _ uh; simp at u3; have uf3 := frozen_of_row w2 (w.heap.size) 3 _ _ uh; have u4 := cell_of_row w2 (w.heap.size) 4 _ _ _ uh; simp at u4; have uf4 := frozen_of_row w2 (w.heap.size) 4 _ _ uh; clear uh
            have lh := HL2.out; have l0 := cell_of_row w2 (wr.heap.size) 0 _ _ _ lh; simp at l0; have lf0 := frozen_of_row w2 (wr.heap.size) 0 _ _ lh; have l1 := cell_of_row w2 (wr.heap.size) 1 _ _ _ lh; simp at l1; have lf1 := frozen_of_row w2 (wr.heap.size) 1 _ _ lh; clear lh
            have hlt2 : w.heap.size < w2.heap.size := by omega
            have hzl2 : wr.heap.size < w2.heap.size := by omega
            have hne1 : w.heap.size ≠ wr.heap.size := by omega
            have hO2 := (HO.out.below HB2.out).1
            have HW2 := Lib.hid (hlB.out.trans (HB2.out.mono hlB.out.size))
            clear HO HBx HBx1 HP HC HL HT HB1 HWt
            go_upto_region 12 with fail
            have hS5 : (((((w2.setCell ⟨w.heap.size, 0, none⟩ (.int .i64 bn)).setCell ⟨w.heap.size, 1, none⟩ (.int .i64 bd)).setCell ⟨w.heap.size, 2, none⟩ (.int .i64 bb)).setCell ⟨w.heap.size, 3, none⟩ (.int .i64 nl)).setCell ⟨w.heap.size, 4, none⟩ (.int .i64 (bt + wt))).heap[w.heap.size]? = _ := set5_at HBx2.out (.int .i64 bn) (.int .i64 bd) (.int .i64 bb) (.int .i64 nl) (.int .i64 (bt + wt))
            have hL5 : (((((w2.setCell ⟨w.heap.size, 0, none⟩ (.int .i64 bn)).setCell ⟨w.heap.size, 1, none⟩ (.int .i64 bd)).setCell ⟨w.heap.size, 2, none⟩ (.int .i64 bb)).setCell ⟨w.heap.size, 3, none⟩ (.int .i64 nl)).setCell ⟨w.heap.size, 4, none⟩ (.int .i64 (bt + wt))).heap[wr.heap.size]? = some (.cells #[.int .i64 bt, .int .i64 xsz] 51 (0, 0)) := (set5_other _ _ _ _ _ (by omega)).trans HL2.out
            have hO5 := own_same (w' := (((((w2.setCell ⟨w.heap.size, 0, none⟩ (.int .i64 bn)).setCell ⟨w.heap.size, 1, none⟩ (.int .i64 bd)).setCell ⟨w.heap.size, 2, none⟩ (.int .i64 bb)).setCell ⟨w.heap.size, 3, none⟩ (.int .i64 nl)).setCell ⟨w.heap.size, 4, none⟩ (.int .i64 (bt + wt)))) hO2 (fun g hg hl => set5_other _ _ _ _ _ (by omega))
            have hB5 : Below w.heap.size w (((((w2.setCell ⟨w.heap.size, 0, none⟩ (.int .i64 bn)).setCell ⟨w.heap.size, 1, none⟩ (.int .i64 bd)).setCell ⟨w.heap.size, 2, none⟩ (.int .i64 bb)).setCell ⟨w.heap.size, 3, none⟩ (.int .i64 nl)).setCell ⟨w.heap.size, 4, none⟩ (.int .i64 (bt + wt))) := ((((HW2.out.setCell (Nat.le_refl _) _).setCell (Nat.le_refl _) _).setCell (Nat.le_refl _) _).setCell (Nat.le_refl _) _).setCell (Nat.le_refl _) _
            clear u0 uf0 u1 uf1 u2 uf2 u3 uf3 u4 uf4 l0 lf0 l1 lf1 hO2 HBx2 HW2 HB2 HL1 HL2 hlt1 hzw hzl hz2 hlt2 hzl2
            generalize (((((w2.setCell ⟨w.heap.size, 0, none⟩ (.int .i64 bn)).setCell ⟨w.heap.size, 1, none⟩ (.int .i64 bd)).setCell ⟨w.heap.size, 2, none⟩ (.int .i64 bb)).setCell ⟨w.heap.size, 3, none⟩ (.int .i64 nl)).setCell ⟨w.heap.size, 4, none⟩ (.int .i64 (bt + wt))) = W5 at hS5 hL5 hO5 hB5 ⊢
            have hl5 : w.heap.size < W5.heap.size := (Array.getElem?_eq_some_iff.1 hS5).1
            have hll5 : wr.heap.size < W5.heap.size := (Array.getElem?_eq_some_iff.1 hL5).1
            have HS5 := Lib.hid hS5; clear hS5
            have HL5 := Lib.hid hL5; clear hL5
            have lh := HL5.out; have l0 := cell_of_row W5 (wr.heap.size) 0 _ _ _ lh; simp at l0; have lf0 := frozen_of_row W5 (wr.heap.size) 0 _ _ lh; have l1 := cell_of_row W5 (wr.heap.size) 1 _ _ _ lh; simp at l1; have lf1 := frozen_of_row W5 (wr.heap.size) 1 _ _ lh; clear lh
            go_wp2_with (first | (at_builtin; go_loud (refine wpList_append_own _ rfl _ _ 29 rfl (w.heap.size + 1) 3 i0 (.int .i64 0) 1 8 Try.underlying29 hi hz0 hz1 hz2 rfl (by decide) _ _ _ rfl (hO5.alloc _) ⟨W5.heap.size, 0, none⟩ 1 1 [.int .i64 (bt + wt)] rfl rfl ?c1 ?c2 ?c3 ?c4 ?c5 ?_)))
            try (case c1 => first | exact cells_new _ #[_] _ | rfl)
            try (case c2 => first | rfl | (intro u hu; simp at hu; subst hu; rfl))
            try (case c3 => first | omega | (unfold maxLen; omega))
            try (case c4 => first | omega | ((try simp only [World.heap_size_alloc]); omega))
            try (case c5 => first | omega | (simp; omega))
            intro v' w2 hown' hgrow
            try intro _
            have hr5 : some w.heap.size ≠ u6.ownBlock := fun e => by have := (hO5.lt _ e.symm).1; omega
            have hbx5 : BoxBk w2 w.heap.size ⟨bn, bd, bb, nl, bt + wt⟩ := (hgrow.block w.heap.size (by simp; omega) hr5).trans ((Below.heap_alloc _ _ _ hl5).trans HS5.out)
            have HX5 := Lib.hid hbx5; clear hbx5
            clear l0 lf0 l1 lf1
            go_wp2
            go_roundw
            case rel => exact ⟨n + 1, by omega, by go_num, HSB, by rw [HSu.out]; exact HX5.out, by rw [HSu.out]; exact ⟨by simpa using hown', by simp; omega⟩, Below.grown (Below.trans hB5 (by go_grown)) hgrow (by simp; omega) (fun j hj => Nat.le_trans (Nat.le_succ _) (hO5.lt j hj).1)⟩
            case measure => simp [intOf]; omega
      · obtain rfl : n = xs.length := by omega
        have HV : Hid (shapeB k xs = true ∧ shapeL k xs = (shN k xs xs.length).2) := Lib.hid (by simp [shapeL, shapeB, HB.out, HA.out])
        have HH := Lib.hid (And.intro hown hb); clear hown hb hbox
        go_wp2
        refine bodyPost_ret (v := (.tuple #[u6, .bool true])) (by simp [results, Try.results22, go_sem, *]) rfl ?_
        exact ⟨_, by rw [HV.out.1], by rw [HV.out.2]; exact HH.out.1.base (Nat.le_succ _), HH.out.2⟩
end Go.Proofs.Ytgmccafmopgjaaa
