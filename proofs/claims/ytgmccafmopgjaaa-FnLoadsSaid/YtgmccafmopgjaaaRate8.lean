/- Contract: the reference's FittingLoads, for all arguments. -/
import Derived.Test.YtgmccafmopgjaaaRate7
namespace Go.Proofs.Ytgmccafmopgjaaa
open Go.RowKit

theorem fitN_tt {k : Bk} {xs : List Ld} (h : begB k xs = true) (n : Nat) (hn : n < xs.length) :
    fitN k xs (n + 1) = if ttB (fitN k xs n).1 xs[n] = true then (ttK (fitN k xs n).1 xs[n], (fitN k xs n).2 ++ [(n : Int)]) else fitN k xs n := by
  have h1 := fitN_can h n hn
  have h2 := (begB_iff.1 h).2.1.2.1 n hn
  have ht : ttB (fitN k xs n).1 xs[n] = (fitN k xs n).1.fits xs[n].t xs[n].s := by simp [ttB, askB, h1, h2]
  rw [fitN_succ k xs n hn]
  by_cases hf : (fitN k xs n).1.fits xs[n].t xs[n].s = true
  · rw [if_pos hf, if_pos (by rw [ht]; exact hf), ttK, if_pos (by rw [ht]; exact hf)]
  · rw [if_neg hf, if_neg (by rw [ht]; exact hf)]

set_option maxRecDepth 100000 in
set_option maxHeartbeats 3000000 in
theorem specFit_any (k : Bk) (v : Value) (xs : List Ld) (w : World) (h : RdLd w v xs) :
    Calls Try.prog 25 #[k.v, v] w fun e w' => ∃ v', e = .returned (.tuple #[v', .bool (begB k xs)]) ∧ OwI w.heap.size w' v' (fitL k xs) ∧ Below w.heap.size w w' := by
  have hlen := h.2
  have HR := Lib.hid h
  obtain ⟨i0, hi, hz0, hz1, hz2⟩ := info_parts infoInt
  obtain ⟨p, cap, b, off, rfl, hcap, hp, hcell⟩ := h.parts
  have HC := Lib.hid hcell; clear hcell
  have HP := Lib.hid hp; clear hp h
  have hG := fun w h => l19Begins_any k (Value.slice p xs.length cap) xs w h
  cases hbeg : begB k xs
  · have HV : Hid (fitL k xs = []) := Lib.hid (by simp [fitL, hbeg])
    simp only [hbeg] at hG
    have HG := Lib.hid hG; clear hG hbeg
    go_enter Try.func25, Try.ntmps25
    go_wp2_with fail
    refine (HG.out _ (HR.out.below (by go_grown))).mono ?_
    rintro e w1 ⟨rfl, hb⟩
    have HE : Hid (OwI w.heap.size w1 (.slice (some ⟨w.heap.size + 1, 0, none⟩) 0 0) []) := Lib.hid (OwI.below (OwI.base (B := (w.alloc k.o).heap.size) ⟨by simpa using World.ownsRow_lit (w.alloc k.o) #[] 0 (Nat.le_refl _) (Nat.zero_le _) rfl, Nat.zero_le _⟩ (by simp)) hb)
    have HB := Lib.hid (Below.trans (by go_grown) (hb.mono (by simp <;> omega)) : Below w.heap.size w w1); clear hb
    go_wp2
    refine bodyPost_ret (v := (.tuple #[.slice (some ⟨w.heap.size + 1, 0, none⟩) 0 0, .bool false])) (by simp [results, Try.results25, go_sem, *]) rfl ?_
    exact ⟨_, rfl, by rw [HV.out]; exact HE.out, HB.out⟩
  · have HV : Hid (fitL k xs = (fitN k xs xs.length).2) := Lib.hid (by simp [fitL, hbeg])
    have hls := (begB_iff.1 hbeg).2.1
    simp only [hbeg] at hG
    have HG := Lib.hid hG; clear hG
    have HB := Lib.hid hbeg; clear hbeg
    have h20 := hls.1
    clear hls
    go_enter Try.func25, Try.ntmps25
    go_wp2_with fail
    refine (HG.out _ (HR.out.below (by go_grown))).mono ?_
    rintro e w1 ⟨rfl, hb⟩
    have hB0 : BoxBk w1 w.heap.size k := (hb.block w.heap.size (by simp; omega)).trans (heap_alloc2_old w _ _)
    have HE : Hid (OwI (w.heap.size + 1) w1 (.slice (some ⟨w.heap.size + 1, 0, none⟩) 0 0) []) := Lib.hid (OwI.below (OwI.base (B := (w.alloc k.o).heap.size) ⟨by simpa using World.ownsRow_lit (w.alloc k.o) #[] 0 (Nat.le_refl _) (Nat.zero_le _) rfl, Nat.zero_le _⟩ (by simp)) hb)
    have hb1 : Below w.heap.size w w1 := Below.trans (by go_grown) (hb.mono (by simp <;> omega))
    have HB0 := Lib.hid hB0; clear hB0
    have HB1 := Lib.hid hb1; clear hb1 hb
    go_wp2
    go_loopw [6, 7] (fun v i wr => ∃ n : Nat, n ≤ xs.length ∧ i = .int .i64 n ∧ BoxBk wr w.heap.size (fitN k xs n).1 ∧ OwI (w.heap.size + 1) wr v (fitN k xs n).2 ∧ Below w.heap.size w wr) (fun _ i _ => xs.length - (intOf i).toNat)
    case atStart => exact ⟨0, Nat.zero_le _, rfl, HB0.out, HE.out, HB1.out⟩
    case round =>
      clear HB0 HB1 HE
      obtain ⟨n, hn, rfl, hbox, hown, hb⟩ := hrel
      by_cases hlt : n < xs.length
      · obtain rfl := HP.out (by omega)
        obtain ⟨c1, c2⟩ := HC.out n hlt
        have c1 := cell_on hb c1
        have c2 := cell_on hb c2
        have hT := fun w => specTake_any (fitN k xs n).1 xs[n] w
        have hfl := fitN_length k xs n
        have hsu := fitN_tt HB.out n hlt
        generalize fitN k xs n = r at hbox hown hT hfl hsu
        obtain ⟨⟨bn, bd, bb, bl, bt⟩, L⟩ := r
        generalize xs[n] = x at c1 c2 hT hsu
        obtain ⟨xt, xsz⟩ := x
        simp only at hbox hown hT hfl hsu c1 c2
        generalize ttK ⟨bn, bd, bb, bl, bt⟩ ⟨xt, xsz⟩ = K at hT hsu
        generalize ttB ⟨bn, bd, bb, bl, bt⟩ ⟨xt, xsz⟩ = f at hT hsu
        obtain ⟨kn, kd, kb, kl, kt⟩ := K
        have hbox0 := hbox.lt
        have HT := Lib.hid hT; clear hT
        have HSu := Lib.hid hsu; clear hsu
        have HBx := Lib.hid hbox; clear hbox
        have HO := Lib.hid hown; clear hown
        have qh := HBx.out; have q0 := cell_of_row wr (w.heap.size) 0 _ _ _ qh; simp at q0; have qf0 := frozen_of_row wr (w.heap.size) 0 _ _ qh; have q1 := cell_of_row wr (w.heap.size) 1 _ _ _ qh; simp at q1; have qf1 := frozen_of_row wr (w.heap.size) 1 _ _ qh; have q2 := cell_of_row wr (w.heap.size) 2 _ _ _ qh; simp at q2; have qf2 := frozen_of_row wr (w.heap.size) 2 _ _ qh; have q3 := cell_of_row wr (w.heap.size) 3 _ _ _ qh; simp at q3; have qf3 := frozen_of_row wr (w.heap.size) 3 _ _ qh; have q4 := cell_of_row wr (w.heap.size) 4 _ _ _ qh; simp at q4; have qf4 := frozen_of_row wr (w.heap.size) 4 _ _ qh; clear qh
        clear qf0 qf1 qf2 qf3 qf4
        have hS : ∀ w', Below wr.heap.size wr w' → Below wr.heap.size wr w' ∧ w'.cell? ⟨w.heap.size, 0, none⟩ = some (.int .i64 bn) ∧ w'.cell? ⟨w.heap.size, 1, none⟩ = some (.int .i64 bd) ∧ w'.cell? ⟨w.heap.size, 2, none⟩ = some (.int .i64 bb) ∧ w'.cell? ⟨w.heap.size, 3, none⟩ = some (.int .i64 bl) ∧ w'.cell? ⟨w.heap.size, 4, none⟩ = some (.int .i64 bt) ∧ w'.cell? ⟨b, off + n * 2, none⟩ = some (.int .i64 xt) ∧ w'.cell? ⟨b, off + n * 2 + 1, none⟩ = some (.int .i64 xsz) :=
          fun w' h => ⟨h, cell_on h q0, cell_on h q1, cell_on h q2, cell_on h q3, cell_on h q4, cell_on h c1, cell_on h c2⟩
        clear q0 q1 q2 q3 q4 c1 c2 HC
        have HS := Lib.hid hS; clear hS
        go_upto_region 7 with fail
        go_cut [8, 9] (fun s8 s9 wx => ∃ g : Nat, s8 = .pointer (some ⟨g, 0, none⟩) ∧ s9 = .bool f ∧ wr.heap.size ≤ g ∧ BoxBk wx g ⟨kn, kd, kb, kl, kt⟩ ∧ Below wr.heap.size wr wx)
        case first =>
          refine wp_region_held_drew (S := (fun w' => Below wr.heap.size wr w' ∧ w'.cell? ⟨w.heap.size, 0, none⟩ = some (.int .i64 bn) ∧ w'.cell? ⟨w.heap.size, 1, none⟩ = some (.int .i64 bd) ∧ w'.cell? ⟨w.heap.size, 2, none⟩ = some (.int .i64 bb) ∧ w'.cell? ⟨w.heap.size, 3, none⟩ = some (.int .i64 bl) ∧ w'.cell? ⟨w.heap.size, 4, none⟩ = some (.int .i64 bt) ∧ w'.cell? ⟨b, off + n * 2, none⟩ = some (.int .i64 xt) ∧ w'.cell? ⟨b, off + n * 2 + 1, none⟩ = some (.int .i64 xsz))) (by kernel_rfl) ?rx13s (fun hHeld => ?rx130)
          case rx13s => ((try dsimp only); exact HS.out _ (Below.refl _ _).drew)
          try simp only [Act.put, List.setIfInBounds_toArray, List.set_cons_zero, List.set_cons_succ]
          refine take_at 0 (some 23) (v := ?vx13_1) rfl rfl (by kernel_rfl) (by kernel_rfl) (by kernel_rfl) (fun _ _ _ h => h) (Or.inl ⟨by kernel_rfl, ?yx13_1⟩) hHeld ?zx13_1
          case yx13_1 => (intro wS hSw; (try dsimp only at hSw); go_simp; (try with_reducible rfl))
          try simp only [Act.put, List.setIfInBounds_toArray, List.set_cons_zero, List.set_cons_succ]
          refine take_at 1 (some 24) (v := ?vx13_2) rfl rfl (by kernel_rfl) (by kernel_rfl) (by kernel_rfl) (fun _ _ _ h => h) (Or.inl ⟨by kernel_rfl, ?yx13_2⟩) hHeld ?zx13_2
          case yx13_2 => (intro wS hSw; (try dsimp only at hSw); go_simp; (try with_reducible rfl))
          try simp only [Act.put, List.setIfInBounds_toArray, List.set_cons_zero, List.set_cons_succ]
          refine take_at 2 (some 25) (v := ?vx13_3) rfl rfl (by kernel_rfl) (by kernel_rfl) (by kernel_rfl) (fun _ _ _ h => h) (Or.inl ⟨by kernel_rfl, ?yx13_3⟩) hHeld ?zx13_3
          case yx13_3 => (intro wS hSw; (try dsimp only at hSw); go_simp; (try with_reducible rfl))
          try simp only [Act.put, List.setIfInBounds_toArray, List.set_cons_zero, List.set_cons_succ]
          refine take_at 3 (some 26) (v := ?vx13_4) rfl rfl (by kernel_rfl) (by kernel_rfl) (by kernel_rfl) (fun _ _ _ h => h) (Or.inl ⟨by kernel_rfl, ?yx13_4⟩) hHeld ?zx13_4
          case yx13_4 => (intro wS hSw; (try dsimp only at hSw); go_simp; (try with_reducible rfl))
          try simp only [Act.put, List.setIfInBounds_toArray, List.set_cons_zero, List.set_cons_succ]
          refine take_at 4 (some 27) (v := ?vx13_5) rfl rfl (by kernel_rfl) (by kernel_rfl) (by kernel_rfl) (fun _ _ _ h => h) (Or.inl ⟨by kernel_rfl, ?yx13_5⟩) hHeld ?zx13_5
          case yx13_5 => (intro wS hSw; (try dsimp only at hSw); go_simp; (try with_reducible rfl))
          try simp only [Act.put, List.setIfInBounds_toArray, List.set_cons_zero, List.set_cons_succ]
          refine wpAnyH_ready (rs := [5, 9]) (by kernel_rfl) (by simp) ?_
          refine cons_at (some 28) rfl rfl (by kernel_rfl) (fun K hK => ?kx13_7) ?mx13_7
          case kx13_7 =>
            go_simp
            (go_at_call 64; refine (HT.out _).mono ?_; rintro e w' ⟨rfl, hbel⟩; have hbw := hHeld.1.trans (hbel.mono hHeld.1.size); (first | (have hFive : w'.heap[wr.heap.size]? = some (.cells #[.int .i64 0, .int .i64 0, .int .i64 0, .int .i64 0, .int .i64 0] 45 (0, 0)) := (hbel.block wr.heap.size (by simp)).trans (heap_alloc_new wr _); have uh := hFive; have u0 := cell_of_row w' (wr.heap.size) 0 _ _ _ uh; simp at u0; have uf0 := frozen_of_row w' (wr.heap.size) 0 _ _ uh; have u1 := cell_of_row w' (wr.heap.size) 1 _ _ _ uh; simp at u1; have uf1 := frozen_of_row w' (wr.heap.size) 1 _ _ uh; have u2 := cell_of_row w' (wr.heap.size) 2 _ _ _ uh; simp at u2; have uf2 := frozen_of_row w' (wr.heap.size) 2 _ _ uh; have u3 := cell_of_row w' (wr.heap.size) 3 _ _ _ uh; simp at u3; have uf3 := frozen_of_row w' (wr.heap.size) 3 _ _ uh; have u4 := cell_of_row w' (wr.heap.size) 4 _ _ _ uh; simp at u4; have uf4 := frozen_of_row w' (wr.heap.size) 4 _ _ uh; clear uh; have hltw : wr.heap.size < w'.heap.size := (Array.getElem?_eq_some_iff.1 hFive).1) | skip))
            try go_wp2_with fail
            refine hK.out _ _ ?sx13_7 (fun hHeld => ?_)
            case sx13_7 => ((try dsimp only); first | exact HS.out _ hbw | exact HS.out _ (hbw.alloc hbw.size _) | exact HS.out _ ((Below.refl _ _).drew.alloc (Nat.le_refl _) _) | exact HS.out _ (((((hbw.setCell (Nat.le_refl _) _).setCell (Nat.le_refl _) _).setCell (Nat.le_refl _) _).setCell (Nat.le_refl _) _).setCell (Nat.le_refl _) _))
            clear hK K
            try simp only [Act.put, List.setIfInBounds_toArray, List.set_cons_zero, List.set_cons_succ]
            refine take_at 6 (some 22) (v := ?vx13_8) rfl rfl (by kernel_rfl) (by kernel_rfl) (by kernel_rfl) (fun _ _ _ h => h) (Or.inl ⟨by kernel_rfl, ?yx13_8⟩) hHeld ?zx13_8
            case yx13_8 => (intro wS hSw; (try dsimp only at hSw); go_simp; (try with_reducible rfl))
            try simp only [Act.put, List.setIfInBounds_toArray, List.set_cons_zero, List.set_cons_succ]
            refine take_at 7 (some 29) (v := ?vx13_9) rfl rfl (by kernel_rfl) (by kernel_rfl) (by kernel_rfl) (fun _ _ _ h => h) (Or.inl ⟨by kernel_rfl, ?yx13_9⟩) hHeld ?zx13_9
            case yx13_9 => (intro wS hSw; (try dsimp only at hSw); go_simp; (try with_reducible rfl))
            try simp only [Act.put, List.setIfInBounds_toArray, List.set_cons_zero, List.set_cons_succ]
            refine take_at 8 (some 30) (v := ?vx13_10) rfl rfl (by kernel_rfl) (by kernel_rfl) (by kernel_rfl) (fun _ _ _ h => h) (Or.inl ⟨by kernel_rfl, ?yx13_10⟩) hHeld ?zx13_10
            case yx13_10 => (intro wS hSw; (try dsimp only at hSw); go_simp; (try with_reducible rfl))
            try simp only [Act.put, List.setIfInBounds_toArray, List.set_cons_zero, List.set_cons_succ]
            refine wpAnyH_ready (rs := [9]) (by kernel_rfl) (by simp) ?_
            refine cons_at (some 8) rfl rfl (by kernel_rfl) (fun K hK => ?kx13_12) AllReadyH.nil
            go_simp
            refine hK.out _ _ ?sx13_12 (fun hHeld => ?_)
            case sx13_12 => ((try dsimp only); first | exact HS.out _ hbw | exact HS.out _ (hbw.alloc hbw.size _) | exact HS.out _ ((Below.refl _ _).drew.alloc (Nat.le_refl _) _) | exact HS.out _ (((((hbw.setCell (Nat.le_refl _) _).setCell (Nat.le_refl _) _).setCell (Nat.le_refl _) _).setCell (Nat.le_refl _) _).setCell (Nat.le_refl _) _))
            clear hK K
            try simp only [Act.put, List.setIfInBounds_toArray, List.set_cons_zero, List.set_cons_succ]
            refine wpAnyH_ready (rs := [10]) (by kernel_rfl) (by simp) ?_
            refine cons_at (none) rfl rfl (by kernel_rfl) (fun K hK => ?kx13_14) AllReadyH.nil
            go_simp
            refine hK.out _ _ ?sx13_14 (fun hHeld => ?_)
            case sx13_14 => ((try dsimp only); first | exact HS.out _ hbw | exact HS.out _ (hbw.alloc hbw.size _) | exact HS.out _ ((Below.refl _ _).drew.alloc (Nat.le_refl _) _) | exact HS.out _ (((((hbw.setCell (Nat.le_refl _) _).setCell (Nat.le_refl _) _).setCell (Nat.le_refl _) _).setCell (Nat.le_refl _) _).setCell (Nat.le_refl _) _))
            clear hK K
            try simp only [Act.put, List.setIfInBounds_toArray, List.set_cons_zero, List.set_cons_succ]
            refine take_at 11 (some 9) (v := ?vx13_15) rfl rfl (by kernel_rfl) (by kernel_rfl) (by kernel_rfl) (fun _ _ _ h => h) (Or.inl ⟨by kernel_rfl, ?yx13_15⟩) hHeld ?zx13_15
            case yx13_15 => (intro wS hSw; (try dsimp only at hSw); go_simp; (try with_reducible rfl))
            try simp only [Act.put, List.setIfInBounds_toArray, List.set_cons_zero, List.set_cons_succ]
            refine wpAnyH_done (by kernel_rfl) ?_ _
            (go_wp2_with fail; go_meet; first | exact ⟨_, rfl, rfl, hbw.size, heap_alloc_new _ _, hbw.alloc hbw.size _⟩ | exact ⟨_, rfl, rfl, Nat.le_refl _, set5_at hFive _ _ _ _ _, ((((hbw.setCell (Nat.le_refl _) _).setCell (Nat.le_refl _) _).setCell (Nat.le_refl _) _).setCell (Nat.le_refl _) _).setCell (Nat.le_refl _) _⟩)
          refine cons_at (some 8) rfl rfl (by kernel_rfl) (fun K hK => ?kx13_16) AllReadyH.nil
          go_simp
          refine hK.out _ _ ?sx13_16 (fun hHeld => ?_)
          case sx13_16 => ((try dsimp only); first | exact HS.out _ hbw | exact HS.out _ (hbw.alloc hbw.size _) | exact HS.out _ ((Below.refl _ _).drew.alloc (Nat.le_refl _) _) | exact HS.out _ (((((hbw.setCell (Nat.le_refl _) _).setCell (Nat.le_refl _) _).setCell (Nat.le_refl _) _).setCell (Nat.le_refl _) _).setCell (Nat.le_refl _) _))
          clear hK K
          try simp only [Act.put, List.setIfInBounds_toArray, List.set_cons_zero, List.set_cons_succ]
          refine wpAnyH_ready (rs := [5]) (by kernel_rfl) (by simp) ?_
          refine cons_at (some 28) rfl rfl (by kernel_rfl) (fun K hK => ?kx13_18) AllReadyH.nil
          go_simp
          (go_at_call 64; refine (HT.out _).mono ?_; rintro e w' ⟨rfl, hbel⟩; have hbw := hHeld.1.trans (hbel.mono hHeld.1.size); (first | (have hFive : w'.heap[wr.heap.size]? = some (.cells #[.int .i64 0, .int .i64 0, .int .i64 0, .int .i64 0, .int .i64 0] 45 (0, 0)) := (hbel.block wr.heap.size (by simp)).trans (heap_alloc_new wr _); have uh := hFive; have u0 := cell_of_row w' (wr.heap.size) 0 _ _ _ uh; simp at u0; have uf0 := frozen_of_row w' (wr.heap.size) 0 _ _ uh; have u1 := cell_of_row w' (wr.heap.size) 1 _ _ _ uh; simp at u1; have uf1 := frozen_of_row w' (wr.heap.size) 1 _ _ uh; have u2 := cell_of_row w' (wr.heap.size) 2 _ _ _ uh; simp at u2; have uf2 := frozen_of_row w' (wr.heap.size) 2 _ _ uh; have u3 := cell_of_row w' (wr.heap.size) 3 _ _ _ uh; simp at u3; have uf3 := frozen_of_row w' (wr.heap.size) 3 _ _ uh; have u4 := cell_of_row w' (wr.heap.size) 4 _ _ _ uh; simp at u4; have uf4 := frozen_of_row w' (wr.heap.size) 4 _ _ uh; clear uh; have hltw : wr.heap.size < w'.heap.size := (Array.getElem?_eq_some_iff.1 hFive).1) | skip))
          try go_wp2_with fail
          refine hK.out _ _ ?sx13_18 (fun hHeld => ?_)
          case sx13_18 => ((try dsimp only); first | exact HS.out _ hbw | exact HS.out _ (hbw.alloc hbw.size _) | exact HS.out _ ((Below.refl _ _).drew.alloc (Nat.le_refl _) _) | exact HS.out _ (((((hbw.setCell (Nat.le_refl _) _).setCell (Nat.le_refl _) _).setCell (Nat.le_refl _) _).setCell (Nat.le_refl _) _).setCell (Nat.le_refl _) _))
          clear hK K
          try simp only [Act.put, List.setIfInBounds_toArray, List.set_cons_zero, List.set_cons_succ]
          refine take_at 6 (some 22) (v := ?vx13_19) rfl rfl (by kernel_rfl) (by kernel_rfl) (by kernel_rfl) (fun _ _ _ h => h) (Or.inl ⟨by kernel_rfl, ?yx13_19⟩) hHeld ?zx13_19
          case yx13_19 => (intro wS hSw; (try dsimp only at hSw); go_simp; (try with_reducible rfl))
          try simp only [Act.put, List.setIfInBounds_toArray, List.set_cons_zero, List.set_cons_succ]
          refine take_at 7 (some 29) (v := ?vx13_20) rfl rfl (by kernel_rfl) (by kernel_rfl) (by kernel_rfl) (fun _ _ _ h => h) (Or.inl ⟨by kernel_rfl, ?yx13_20⟩) hHeld ?zx13_20
          case yx13_20 => (intro wS hSw; (try dsimp only at hSw); go_simp; (try with_reducible rfl))
          try simp only [Act.put, List.setIfInBounds_toArray, List.set_cons_zero, List.set_cons_succ]
          refine take_at 8 (some 30) (v := ?vx13_21) rfl rfl (by kernel_rfl) (by kernel_rfl) (by kernel_rfl) (fun _ _ _ h => h) (Or.inl ⟨by kernel_rfl, ?yx13_21⟩) hHeld ?zx13_21
          case yx13_21 => (intro wS hSw; (try dsimp only at hSw); go_simp; (try with_reducible rfl))
          try simp only [Act.put, List.setIfInBounds_toArray, List.set_cons_zero, List.set_cons_succ]
          refine wpAnyH_ready (rs := [10]) (by kernel_rfl) (by simp) ?_
          refine cons_at (none) rfl rfl (by kernel_rfl) (fun K hK => ?kx13_23) AllReadyH.nil
          go_simp
          refine hK.out _ _ ?sx13_23 (fun hHeld => ?_)
          case sx13_23 => ((try dsimp only); first | exact HS.out _ hbw | exact HS.out _ (hbw.alloc hbw.size _) | exact HS.out _ ((Below.refl _ _).drew.alloc (Nat.le_refl _) _) | exact HS.out _ (((((hbw.setCell (Nat.le_refl _) _).setCell (Nat.le_refl _) _).setCell (Nat.le_refl _) _).setCell (Nat.le_refl _) _).setCell (Nat.le_refl _) _))
          clear hK K
          try simp only [Act.put, List.setIfInBounds_toArray, List.set_cons_zero, List.set_cons_succ]
          refine take_at 11 (some 9) (v := ?vx13_24) rfl rfl (by kernel_rfl) (by kernel_rfl) (by kernel_rfl) (fun _ _ _ h => h) (Or.inl ⟨by kernel_rfl, ?yx13_24⟩) hHeld ?zx13_24
          case yx13_24 => (intro wS hSw; (try dsimp only at hSw); go_simp; (try with_reducible rfl))
          try simp only [Act.put, List.setIfInBounds_toArray, List.set_cons_zero, List.set_cons_succ]
          refine wpAnyH_done (by kernel_rfl) ?_ _
          (go_wp2_with fail; go_meet; first | exact ⟨_, rfl, rfl, hbw.size, heap_alloc_new _ _, hbw.alloc hbw.size _⟩ | exact ⟨_, rfl, rfl, Nat.le_refl _, set5_at hFive _ _ _ _ _, ((((hbw.setCell (Nat.le_refl _) _).setCell (Nat.le_refl _) _).setCell (Nat.le_refl _) _).setCell (Nat.le_refl _) _).setCell (Nat.le_refl _) _⟩)
        case rest =>
          obtain ⟨g, rfl, rfl, hg, hbx, hbw⟩ := hcut
          have HO1 := Lib.hid (HO.out.below hbw)
          have HX1 := Lib.hid (HBx.out.below hbw)
          have HW1 := Lib.hid (hb.trans (hbw.mono hb.size)); clear hbw HO HBx HS HT hb
          cases f
          · have HS1 := Lib.hid (HSu.out.trans (if_neg (by simp)))
            clear HSu
            go_wp2
            go_roundw
            case rel => exact ⟨n + 1, by omega, by go_num, by rw [HS1.out]; exact HX1.out, by rw [HS1.out]; exact HO1.out, HW1.out⟩
            case measure => simp [intOf]; omega
          · have HS1 := Lib.hid (HSu.out.trans (if_pos rfl))
            clear HSu
            have hgt := (Array.getElem?_eq_some_iff.1 hbx).1
            have hltw : w.heap.size < wc.heap.size := by omega
            have hgne : w.heap.size ≠ g := by omega
            have th := hbx; have t0 := cell_of_row wc (g) 0 _ _ _ th; simp at t0; have tf0 := frozen_of_row wc (g) 0 _ _ th; have t1 := cell_of_row wc (g) 1 _ _ _ th; simp at t1; have tf1 := frozen_of_row wc (g) 1 _ _ th; have t2 := cell_of_row wc (g) 2 _ _ _ th; simp at t2; have tf2 := frozen_of_row wc (g) 2 _ _ th; have t3 := cell_of_row wc (g) 3 _ _ _ th; simp at t3; have tf3 := frozen_of_row wc (g) 3 _ _ th; have t4 := cell_of_row wc (g) 4 _ _ _ th; simp at t4; have tf4 := frozen_of_row wc (g) 4 _ _ th; clear th
            have uh := HX1.out; have u0 := cell_of_row wc (w.heap.size) 0 _ _ _ uh; simp at u0; have uf0 := frozen_of_row wc (w.heap.size) 0 _ _ uh; have u1 := cell_of_row wc (w.heap.size) 1 _ _ _ uh; simp at u1; have uf1 := frozen_of_row wc (w.heap.size) 1 _ _ uh; have u2 := cell_of_row wc (w.heap.size) 2 _ _ _ uh; simp at u2; have uf2 := frozen_of_row wc (w.heap.size) 2 _ _ uh; have u3 := cell_of_row wc (w.heap.size) 3 _ _ _ uh; simp at u3; have uf3 := frozen_of_row wc (w.heap.size) 3 _ _ uh; have u4 := cell_of_row wc (w.heap.size) 4 _ _ _ uh; simp at u4; have uf4 := frozen_of_row wc (w.heap.size) 4 _ _ uh; clear uh
            go_upto_region 10 with fail
            have hS5 : (((((wc.setCell ⟨w.heap.size, 0, none⟩ (.int .i64 kn)).setCell ⟨w.heap.size, 1, none⟩ (.int .i64 kd)).setCell ⟨w.heap.size, 2, none⟩ (.int .i64 kb)).setCell ⟨w.heap.size, 3, none⟩ (.int .i64 kl)).setCell ⟨w.heap.size, 4, none⟩ (.int .i64 kt)).heap[w.heap.size]? = _ := set5_at HX1.out (.int .i64 kn) (.int .i64 kd) (.int .i64 kb) (.int .i64 kl) (.int .i64 kt)
            have hO5 := own_same (w' := (((((wc.setCell ⟨w.heap.size, 0, none⟩ (.int .i64 kn)).setCell ⟨w.heap.size, 1, none⟩ (.int .i64 kd)).setCell ⟨w.heap.size, 2, none⟩ (.int .i64 kb)).setCell ⟨w.heap.size, 3, none⟩ (.int .i64 kl)).setCell ⟨w.heap.size, 4, none⟩ (.int .i64 kt))) HO1.out.1 (fun g hg hl => set5_other _ _ _ _ _ (by omega))
            have hB5 : Below w.heap.size w (((((wc.setCell ⟨w.heap.size, 0, none⟩ (.int .i64 kn)).setCell ⟨w.heap.size, 1, none⟩ (.int .i64 kd)).setCell ⟨w.heap.size, 2, none⟩ (.int .i64 kb)).setCell ⟨w.heap.size, 3, none⟩ (.int .i64 kl)).setCell ⟨w.heap.size, 4, none⟩ (.int .i64 kt)) := ((((HW1.out.setCell (Nat.le_refl _) _).setCell (Nat.le_refl _) _).setCell (Nat.le_refl _) _).setCell (Nat.le_refl _) _).setCell (Nat.le_refl _) _
            clear u0 uf0 u1 uf1 u2 uf2 u3 uf3 u4 uf4 t0 tf0 t1 tf1 t2 tf2 t3 tf3 t4 tf4 HX1 HW1 HO1 hbx
            generalize (((((wc.setCell ⟨w.heap.size, 0, none⟩ (.int .i64 kn)).setCell ⟨w.heap.size, 1, none⟩ (.int .i64 kd)).setCell ⟨w.heap.size, 2, none⟩ (.int .i64 kb)).setCell ⟨w.heap.size, 3, none⟩ (.int .i64 kl)).setCell ⟨w.heap.size, 4, none⟩ (.int .i64 kt)) = W5 at hS5 hO5 hB5 ⊢
            have hl5 : w.heap.size < W5.heap.size := (Array.getElem?_eq_some_iff.1 hS5).1
            have HS5 := Lib.hid hS5; clear hS5
            go_wp2_with (first | (at_builtin; go_loud (refine wpList_append_own _ rfl _ _ 29 rfl (w.heap.size + 1) 3 i0 (.int .i64 0) 1 8 Try.underlying29 hi hz0 hz1 hz2 rfl (by decide) _ _ _ rfl (hO5.alloc _) ⟨W5.heap.size, 0, none⟩ 1 1 [.int .i64 n] rfl rfl ?c1 ?c2 ?c3 ?c4 ?c5 ?_)))
            try (case c1 => first | exact cells_new _ #[_] _ | rfl)
            try (case c2 => first | rfl | (intro u hu; simp at hu; subst hu; rfl))
            try (case c3 => first | omega | (unfold maxLen; omega))
            try (case c4 => first | omega | ((try simp only [World.heap_size_alloc]); omega))
            try (case c5 => first | omega | (simp; omega))
            intro v' w2 hown' hgrow
            try intro _
            have hr5 : some w.heap.size ≠ u6.ownBlock := fun e => by have := (hO5.lt _ e.symm).1; omega
            have hbx5 : BoxBk w2 w.heap.size ⟨kn, kd, kb, kl, kt⟩ := (hgrow.block w.heap.size (by simp; omega) hr5).trans ((Below.heap_alloc _ _ _ hl5).trans HS5.out)
            have HX5 := Lib.hid hbx5; clear hbx5
            go_wp2
            go_roundw
            case rel => exact ⟨n + 1, by omega, by go_num, by rw [HS1.out]; exact HX5.out, by rw [HS1.out]; exact ⟨by simpa using hown', by simp; omega⟩, Below.grown (Below.trans hB5 (by go_grown)) hgrow (by simp; omega) (fun j hj => Nat.le_trans (Nat.le_succ _) (hO5.lt j hj).1)⟩
            case measure => simp [intOf]; omega
      · obtain rfl : n = xs.length := by omega
        have HH := Lib.hid (And.intro hown hb); clear hown hb hbox
        go_wp2
        refine bodyPost_ret (v := (.tuple #[u6, .bool true])) (by simp [results, Try.results25, go_sem, *]) rfl ?_
        exact ⟨_, rfl, by rw [HV.out]; exact HH.out.1.base (Nat.le_succ _), HH.out.2⟩
end Go.Proofs.Ytgmccafmopgjaaa
