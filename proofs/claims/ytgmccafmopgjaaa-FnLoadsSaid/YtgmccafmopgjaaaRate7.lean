/- Contracts: the program's and the reference's FittingLoads, for all arguments. -/
import Derived.Test.YtgmccafmopgjaaaBoxK
import Derived.Test.YtgmccafmopgjaaaRate5
import Derived.Deep.DeepCutAuto
namespace Go.Proofs.Ytgmccafmopgjaaa
open Go.RowKit

set_option maxRecDepth 100000 in
set_option maxHeartbeats 8000000 in
theorem implFit_any (k : Bk) (v : Value) (xs : List Ld) (w : World) (h : RdLd w v xs) :
    Calls Try.prog 24 #[k.v, v] w fun e w' => ∃ v', e = .returned (.tuple #[v', .bool (begB k xs)]) ∧ OwI w.heap.size w' v' (fitL k xs) ∧ Below w.heap.size w w' := by
  have hlen := h.2
  have HR := Lib.hid h
  obtain ⟨i0, hi, hz0, hz1, hz2⟩ := info_parts infoInt
  obtain ⟨p, cap, b, off, rfl, hcap, hp, hcell⟩ := h.parts
  have HC := Lib.hid hcell; clear hcell
  have HP := Lib.hid hp; clear hp h
  have hG := fun w h => canLoad_any k (Value.slice p xs.length cap) xs w h
  cases hbeg : begB k xs
  · have HV : Hid (fitL k xs = []) := Lib.hid (by simp [fitL, hbeg])
    simp only [hbeg] at hG
    have HG := Lib.hid hG; clear hG hbeg
    go_enter Try.func24, Try.ntmps24
    go_wp2_with fail
    refine (HG.out _ (HR.out.below (by go_grown))).mono ?_
    rintro e w1 ⟨rfl, hb⟩
    go_wp2
    refine bodyPost_ret (v := (.tuple #[.slice none 0 0, .bool false])) (by simp [results, Try.results24, go_sem, *]) rfl ?_
    exact ⟨_, rfl, by rw [HV.out]; exact ⟨⟨rfl, .inl ⟨rfl, rfl⟩⟩, Nat.zero_le _⟩, Below.trans (by go_grown) (hb.mono (by simp <;> omega))⟩
  · have HV : Hid (fitL k xs = (fitN k xs xs.length).2) := Lib.hid (by simp [fitL, hbeg])
    have hls := (begB_iff.1 hbeg).2.1
    simp only [hbeg] at hG
    have HG := Lib.hid hG; clear hG
    have HB := Lib.hid hbeg; clear hbeg
    have h20 := hls.1
    have HL := Lib.hid hls; clear hls
    go_enter Try.func24, Try.ntmps24
    go_wp2_with fail
    refine (HG.out _ (HR.out.below (by go_grown))).mono ?_
    rintro e w1 ⟨rfl, hb⟩
    have hB0 : BoxBk w1 w.heap.size k := (hb.block w.heap.size (by simp)).trans (heap_alloc_new w _)
    have hb1 : Below w.heap.size w w1 := Below.trans (by go_grown) (hb.mono (by simp <;> omega))
    have HB0 := Lib.hid hB0; clear hB0
    have HB1 := Lib.hid hb1; clear hb1 hb
    go_wp2
    go_loopw [6, 17] (fun v i wr => ∃ n : Nat, n ≤ xs.length ∧ i = .int .i64 n ∧ BoxBk wr w.heap.size (fitN k xs n).1 ∧ OwI (w.heap.size + 1) wr v (fitN k xs n).2 ∧ Below w.heap.size w wr) (fun _ i _ => xs.length - (intOf i).toNat)
    case atStart => exact ⟨0, Nat.zero_le _, rfl, HB0.out, ⟨⟨rfl, .inl ⟨rfl, rfl⟩⟩, Nat.zero_le _⟩, HB1.out⟩
    case round =>
      clear HB0 HB1
      obtain ⟨n, hn, rfl, hbox, hown, hb⟩ := hrel
      by_cases hlt : n < xs.length
      · obtain rfl := HP.out (by omega)
        obtain ⟨c1, c2⟩ := HC.out n hlt
        have c1 := cell_on hb c1
        have c2 := cell_on hb c2
        have hx := ldB_iff.1 (HL.out.2.1 n hlt)
        have hT := fun w => take_any (fitN k xs n).1 xs[n].t xs[n].s w (fitN_can HB.out n hlt) (by omega) (by omega)
        have hfl := fitN_length k xs n
        have hsu := fitN_succ k xs n hlt
        generalize hE : fitN k xs n = r at hbox hown hT hfl hsu
        obtain ⟨⟨bn, bd, bb, bl, bt⟩, L⟩ := r
        simp only at hbox hown hT hfl hsu
        have hbox0 := hbox.lt
        rw [show Bk.take ⟨bn, bd, bb, bl, bt⟩ xs[n].t xs[n].s = ⟨bn, bd, bb, (Bk.take ⟨bn, bd, bb, bl, bt⟩ xs[n].t xs[n].s).l, xs[n].t⟩ from rfl] at hsu
        generalize (Bk.take ⟨bn, bd, bb, bl, bt⟩ xs[n].t xs[n].s).l = nl at hT hsu
        generalize Bk.fits ⟨bn, bd, bb, bl, bt⟩ xs[n].t xs[n].s = f at hT hsu
        have HT := Lib.hid hT; clear hT hE
        clear hx
        have HBx := Lib.hid hbox; clear hbox
        have HO := Lib.hid hown; clear hown
        have qh := HBx.out; have q0 := cell_of_row wr (w.heap.size) 0 _ _ _ qh; simp at q0; have qf0 := frozen_of_row wr (w.heap.size) 0 _ _ qh; have q1 := cell_of_row wr (w.heap.size) 1 _ _ _ qh; simp at q1; have qf1 := frozen_of_row wr (w.heap.size) 1 _ _ qh; have q2 := cell_of_row wr (w.heap.size) 2 _ _ _ qh; simp at q2; have qf2 := frozen_of_row wr (w.heap.size) 2 _ _ qh; have q3 := cell_of_row wr (w.heap.size) 3 _ _ _ qh; simp at q3; have qf3 := frozen_of_row wr (w.heap.size) 3 _ _ qh; have q4 := cell_of_row wr (w.heap.size) 4 _ _ _ qh; simp at q4; have qf4 := frozen_of_row wr (w.heap.size) 4 _ _ qh; clear qh
        cases f
        · have HS : Hid (fitN k xs (n + 1) = (⟨bn, bd, bb, bl, bt⟩, L)) := Lib.hid (by simpa using hsu)
          clear hsu
          go_wp2_with fail
          refine (HT.out _).mono ?_
          rintro e w1 ⟨rfl, hb1⟩
          have HB1 := Lib.hid (Below.trans (by go_grown) (hb1.mono (by simp <;> omega)) : Below wr.heap.size wr w1); clear hb1
          have hzw := HB1.out.size
          go_wp2
          go_roundw
          case rel =>
            refine ⟨n + 1, by omega, by go_num, ?_, ?_, ?_⟩
            · rw [HS.out]; exact (HBx.out.below HB1.out).below (by go_grown)
            · rw [HS.out]; exact (HO.out.below HB1.out).below (by go_grown)
            · exact (hb.trans (HB1.out.mono hb.size)).trans (by go_grown)
          case measure => simp [intOf]; omega
        · have HS : Hid (fitN k xs (n + 1) = (⟨bn, bd, bb, nl, xs[n].t⟩, L ++ [(n : Int)])) := Lib.hid (by simpa using hsu)
          clear hsu
          go_wp2_with fail
          refine (HT.out _).mono ?_
          rintro e w1 ⟨rfl, hb1⟩
          have HB1 := Lib.hid (Below.trans (by go_grown) (hb1.mono (by simp <;> omega)) : Below wr.heap.size wr w1); clear hb1
          have hzw := HB1.out.size
          clear q0 qf0 q1 qf1 q2 qf2 q3 qf3 q4 qf4
          have hBx1 := HBx.out.below HB1.out
          have HBx1 := Lib.hid hBx1; clear hBx1
          have uh := HBx1.out; have u0 := cell_of_row w1 (w.heap.size) 0 _ _ _ uh; simp at u0; have uf0 := frozen_of_row w1 (w.heap.size) 0 _ _ uh; have u1 := cell_of_row w1 (w.heap.size) 1 _ _ _ uh; simp at u1; have uf1 := frozen_of_row w1 (w.heap.size) 1 _ _ uh; have u2 := cell_of_row w1 (w.heap.size) 2 _ _ _ uh; simp at u2; have uf2 := frozen_of_row w1 (w.heap.size) 2 _ _ uh; have u3 := cell_of_row w1 (w.heap.size) 3 _ _ _ uh; simp at u3; have uf3 := frozen_of_row w1 (w.heap.size) 3 _ _ uh; have u4 := cell_of_row w1 (w.heap.size) 4 _ _ _ uh; simp at u4; have uf4 := frozen_of_row w1 (w.heap.size) 4 _ _ uh; clear uh
          have hlt1 : w.heap.size < w1.heap.size := by omega
          have hne1 : w.heap.size ≠ w1.heap.size := by omega
          have hO1 := (HO.out.below HB1.out).1
          have hlL : L.length ≤ n := hfl
          have HH1 := Lib.hid (BoxBk.below (g := w.heap.size) HBx.out HB1.out)
          have HW1 := Lib.hid (hb.trans (HB1.out.mono hb.size))
          clear HO HBx HP HC HL HT HBx1 hb HB1
          go_upto_region 10 with fail
          have hS5 : ((((((w1.setCell ⟨w.heap.size, 0, none⟩ (.int .i64 bn)).setCell ⟨w.heap.size, 1, none⟩ (.int .i64 bd)).setCell ⟨w.heap.size, 2, none⟩ (.int .i64 bb)).setCell ⟨w.heap.size, 3, none⟩ (.int .i64 nl)).setCell ⟨w.heap.size, 4, none⟩ (.int .i64 xs[n].t)).alloc (.cells #[.int .i64 bn, .int .i64 bd, .int .i64 bb, .int .i64 nl, .int .i64 xs[n].t] 45)).heap[w.heap.size]? = _ := (Below.heap_alloc _ _ _ (by simpa using hlt1)).trans (set5_at HH1.out (.int .i64 bn) (.int .i64 bd) (.int .i64 bb) (.int .i64 nl) (.int .i64 xs[n].t))
          have hO5 := own_same (w' := ((((((w1.setCell ⟨w.heap.size, 0, none⟩ (.int .i64 bn)).setCell ⟨w.heap.size, 1, none⟩ (.int .i64 bd)).setCell ⟨w.heap.size, 2, none⟩ (.int .i64 bb)).setCell ⟨w.heap.size, 3, none⟩ (.int .i64 nl)).setCell ⟨w.heap.size, 4, none⟩ (.int .i64 xs[n].t)).alloc (.cells #[.int .i64 bn, .int .i64 bd, .int .i64 bb, .int .i64 nl, .int .i64 xs[n].t] 45))) hO1 (fun g hg hl => (Below.heap_alloc _ _ _ (by simpa using hl)).trans (set5_other _ _ _ _ _ (by omega)))
          have hB5 : Below w.heap.size w ((((((w1.setCell ⟨w.heap.size, 0, none⟩ (.int .i64 bn)).setCell ⟨w.heap.size, 1, none⟩ (.int .i64 bd)).setCell ⟨w.heap.size, 2, none⟩ (.int .i64 bb)).setCell ⟨w.heap.size, 3, none⟩ (.int .i64 nl)).setCell ⟨w.heap.size, 4, none⟩ (.int .i64 xs[n].t)).alloc (.cells #[.int .i64 bn, .int .i64 bd, .int .i64 bb, .int .i64 nl, .int .i64 xs[n].t] 45)) := (((((HW1.out.setCell (Nat.le_refl _) _).setCell (Nat.le_refl _) _).setCell (Nat.le_refl _) _).setCell (Nat.le_refl _) _).setCell (Nat.le_refl _) _).alloc (by simpa using HW1.out.size) _
          clear u0 uf0 u1 uf1 u2 uf2 u3 uf3 u4 uf4 hO1 HH1 HW1
          generalize ((((((w1.setCell ⟨w.heap.size, 0, none⟩ (.int .i64 bn)).setCell ⟨w.heap.size, 1, none⟩ (.int .i64 bd)).setCell ⟨w.heap.size, 2, none⟩ (.int .i64 bb)).setCell ⟨w.heap.size, 3, none⟩ (.int .i64 nl)).setCell ⟨w.heap.size, 4, none⟩ (.int .i64 xs[n].t)).alloc (.cells #[.int .i64 bn, .int .i64 bd, .int .i64 bb, .int .i64 nl, .int .i64 xs[n].t] 45)) = W5 at hS5 hO5 hB5 ⊢
          have hl5 : w.heap.size < W5.heap.size := (Array.getElem?_eq_some_iff.1 hS5).1
          have HS5 := Lib.hid hS5; clear hS5
          go_wp2_with (first | (at_builtin; go_loud (refine wpList_append_own _ rfl _ _ 29 rfl (w.heap.size + 1) 3 i0 (.int .i64 0) 1 8 Try.underlying29 hi hz0 hz1 hz2 rfl (by decide) _ _ _ rfl (hO5.alloc _) ⟨W5.heap.size, 0, none⟩ 1 1 [.int .i64 n] rfl rfl ?c1 ?c2 ?c3 ?c4 ?c5 ?_)))
          try (case c1 => first | exact cells_new _ #[_] _ | rfl)
          try (case c2 => first | rfl | (intro u hu; simp at hu; subst hu; rfl))
          try (case c3 => first | omega | (unfold maxLen; omega))
          try (case c4 => first | omega | ((try simp only [World.heap_size_alloc]); omega))
          try (case c5 => first | omega | (simp; omega))
          intro v' w2 hown' hgrow
          try intro _
          have hr5 : some w.heap.size ≠ u6.ownBlock := fun e => by have := (hO5.lt _ e.symm).1; omega
          have hbx5 : BoxBk w2 w.heap.size ⟨bn, bd, bb, nl, xs[n].t⟩ := (hgrow.block w.heap.size (by simp; omega) hr5).trans ((Below.heap_alloc _ _ _ hl5).trans HS5.out)
          have HX5 := Lib.hid hbx5; clear hbx5
          go_wp2
          go_roundw
          case rel => exact ⟨n + 1, by omega, by go_num, by rw [HS.out]; exact HX5.out, by rw [HS.out]; exact ⟨by simpa using hown', by simp; omega⟩, Below.grown (Below.trans hB5 (by go_grown)) hgrow (by simp; omega) (fun j hj => Nat.le_trans (Nat.le_succ _) (hO5.lt j hj).1)⟩
          case measure => simp [intOf]; omega
      · obtain rfl : n = xs.length := by omega
        have HH := Lib.hid (And.intro hown hb); clear hown hb hbox
        go_wp2
        refine bodyPost_ret (v := (.tuple #[u6, .bool true])) (by simp [results, Try.results24, go_sem, *]) rfl ?_
        exact ⟨_, rfl, by rw [HV.out]; exact HH.out.1.base (Nat.le_succ _), HH.out.2⟩
end Go.Proofs.Ytgmccafmopgjaaa
