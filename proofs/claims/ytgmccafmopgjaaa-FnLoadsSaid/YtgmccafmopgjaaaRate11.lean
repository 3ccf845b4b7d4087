/- Contract: the reference's ShapeLoads, for all arguments. -/
import Derived.Test.YtgmccafmopgjaaaRate10
import Derived.Test.YtgmccafmopgjaaaRate5
import Derived.Test.YtgmccafmopgjaaaKeep
namespace Go.Proofs.Ytgmccafmopgjaaa
open Go.RowKit

theorem tf_of {k : Bk} {x : Ld} (h : canFill k x.t = true) (hx : ldB x = true) : tfB k x = k.waitB x ∧ (k.waitB x = true → tfV k x = k.waitT x) := by
  have h1 : tfB k x = k.waitB x := by simp [tfB, askB, h, hx]
  exact ⟨h1, fun hw => by simp [tfV, h1, hw]⟩
theorem tt_of {k : Bk} {x : Ld} (h : canFill k x.t = true) (hx : ldB x = true) (hf : k.fits x.t x.s = true) : ttK k x = k.take x.t x.s := by
  simp [ttK, ttB, askB, h, hx, hf]

/-- A slice of the call's own stands where its own block stands. -/
theorem own_same1 {w w' : World} {base : Nat} {e : TypeId} {sz : Nat} {v : Value} {n : Nat} {cs : List Value} (h : w.ownsRow base e sz v n cs) (hs : ∀ g, v.ownBlock = some g → w'.heap[g]? = w.heap[g]?) : w'.ownsRow base e sz v n cs := by
  obtain ⟨hl, h⟩ := h
  refine ⟨hl, ?_⟩
  rcases h with h | ⟨g, cap, cur, hv, hg, hh, r⟩
  · exact .inl h
  · exact .inr ⟨g, cap, cur, hv, hg, by rw [hs g (by rw [hv]; rfl)]; exact hh, r⟩

set_option maxRecDepth 100000 in
set_option maxHeartbeats 8000000 in
theorem specShape_any (k : Bk) (v : Value) (xs : List Ld) (w : World) (h : RdLd w v xs) :
    Calls Try.prog 23 #[k.v, v] w fun e w' => ∃ v', e = .returned (.tuple #[v', .bool (shapeB k xs)]) ∧ OwI w.heap.size w' v' (shapeL k xs) ∧ Below w.heap.size w w' := by
  have hlen := h.2
  have HR := Lib.hid h
  obtain ⟨i0, hi, hz0, hz1, hz2⟩ := info_parts infoInt
  obtain ⟨p, cap, b, off, rfl, hcap, hp, hcell⟩ := h.parts
  have HC := Lib.hid hcell; clear hcell
  have HP := Lib.hid hp; clear hp h
  have hG := fun w h => l19Begins_any k (Value.slice p xs.length cap) xs w h
  cases hbeg : begB k xs
  · have HV : Hid (shapeB k xs = false ∧ shapeL k xs = []) := Lib.hid (by simp [shapeL, shapeB, hbeg])
    simp only [hbeg] at hG
    have HG := Lib.hid hG; clear hG hbeg
    go_enter Try.func23, Try.ntmps23
    go_wp2_with fail
    refine (HG.out _ (HR.out.below (by go_grown))).mono ?_
    rintro e w1 ⟨rfl, hb⟩
    have HE : Hid (OwI w.heap.size w1 (.slice (some ⟨w.heap.size + 1, 0, none⟩) 0 0) []) := Lib.hid (OwI.below (OwI.base (B := (w.alloc k.o).heap.size) ⟨by simpa using World.ownsRow_lit (w.alloc k.o) #[] 0 (Nat.le_refl _) (Nat.zero_le _) rfl, Nat.zero_le _⟩ (by simp)) hb)
    have HB := Lib.hid (Below.trans (by go_grown) (hb.mono (by simp <;> omega)) : Below w.heap.size w w1); clear hb
    go_wp2
    refine bodyPost_ret (v := (.tuple #[.slice (some ⟨w.heap.size + 1, 0, none⟩) 0 0, .bool false])) (by simp [results, Try.results23, go_sem, *]) rfl ?_
    exact ⟨_, by rw [HV.out.1], by rw [HV.out.2]; exact HE.out, HB.out⟩
  · have hls := (begB_iff.1 hbeg).2.1
    simp only [hbeg] at hG
    have HG := Lib.hid hG; clear hG
    have HB := Lib.hid hbeg; clear hbeg
    have h20 := hls.1
    have HL := Lib.hid hls; clear hls
    go_enter Try.func23, Try.ntmps23
    go_wp2_with fail
    refine (HG.out _ (HR.out.below (by go_grown))).mono ?_
    rintro e w1 ⟨rfl, hb⟩
    have hB0 : BoxBk w1 w.heap.size k := (hb.block w.heap.size (by simp; omega)).trans (heap_alloc2_old w _ _)
    have HE : Hid (OwI (w.heap.size + 1) w1 (.slice (some ⟨w.heap.size + 1, 0, none⟩) 0 0) []) := Lib.hid (OwI.below (OwI.base (B := (w.alloc k.o).heap.size) ⟨by simpa using World.ownsRow_lit (w.alloc k.o) #[] 0 (Nat.le_refl _) (Nat.zero_le _) rfl, Nat.zero_le _⟩ (by simp)) hb)
    have hb1 : Below w.heap.size w w1 := Below.trans (by go_grown) (hb.mono (by simp <;> omega))
    have HB0 := Lib.hid hB0; clear hB0
    have HB1 := Lib.hid hb1; clear hb1 hb
    go_wp2
    go_loopw [6, 7] (fun v i wr => ∃ n : Nat, n ≤ xs.length ∧ i = .int .i64 n ∧ Hid (shB k xs n = true) ∧ BoxBk wr w.heap.size (shN k xs n).1 ∧ OwI (w.heap.size + 1) wr v (shN k xs n).2 ∧ Below w.heap.size w wr) (fun _ i _ => xs.length - (intOf i).toNat)
    case atStart => exact ⟨0, Nat.zero_le _, rfl, Lib.hid rfl, HB0.out, HE.out, HB1.out⟩
    case round =>
      clear HB0 HB1 HE
      obtain ⟨n, hn, rfl, HA, hbox, hown, hb⟩ := hrel
      by_cases hlt : n < xs.length
      · obtain rfl := HP.out (by omega)
        obtain ⟨c1, c2⟩ := HC.out n hlt
        have c1 := cell_on hb c1
        have c2 := cell_on hb c2
        have hx := HL.out.2.1 n hlt
        have hgd := shN_good HB.out n hn HA.out
        have hfl := Nat.le_of_eq (shN_length k xs n hn)
        have hsu := shN_succ k xs n hlt
        have hsb := shB_succ k xs n hlt
        have hcan := late_can hgd hx
        have hld := late_ld hgd hx
        generalize shN k xs n = r at hbox hown hgd hfl hsu hsb hcan hld
        obtain ⟨⟨bn, bd, bb, bl, bt⟩, L⟩ := r
        generalize xs[n] = x at c1 c2 hx hsu hsb hcan hld
        obtain ⟨xt, xsz⟩ := x
        simp only at hbox hown hgd hfl hsu hsb c1 c2
        have hst := fun hw => shN_step (k := ⟨bn, bd, bb, bl, bt⟩) (x := ⟨xt, xsz⟩) hgd hx hw
        have hlate : Bk.late ⟨bn, bd, bb, bl, bt⟩ ⟨xt, xsz⟩ = ⟨max xt bt, xsz⟩ := rfl
        have hgoes : Bk.goes ⟨bn, bd, bb, bl, bt⟩ ⟨xt, xsz⟩ = max xt bt + Bk.waitT ⟨bn, bd, bb, bl, bt⟩ ⟨max xt bt, xsz⟩ := rfl
        rw [hlate] at hst hsb hcan hld
        rw [hgoes] at hst hsu
        clear hlate hgoes
        have HM := Lib.hid (fun w => l1Most_any xt bt w)
        generalize max xt bt = M at hst hsb hcan hld hsu HM
        have hld' := ldB_iff.1 hld
        simp only at hld'
        have htf := tf_of hcan hld
        have hT := specTicks_any ⟨bn, bd, bb, bl, bt⟩ ⟨M, xsz⟩
        rw [htf.1] at hT
        have hwb := fun hw => (canFill_hi (hst hw).1)
        have hwt0 : 0 ≤ Bk.waitT ⟨bn, bd, bb, bl, bt⟩ ⟨M, xsz⟩ := wait_nonneg0 hgd
        have htk := fun hw => tt_of (k := ⟨bn, bd, bb, bl, bt⟩) (x := ⟨M + Bk.waitT ⟨bn, bd, bb, bl, bt⟩ ⟨M, xsz⟩, xsz⟩) (hst hw).1 (hst hw).2.2.2 (hst hw).2.1
        have hK := specTake_any ⟨bn, bd, bb, bl, bt⟩ ⟨M + Bk.waitT ⟨bn, bd, bb, bl, bt⟩ ⟨M, xsz⟩, xsz⟩
        simp only at htk
        rw [show Bk.take ⟨bn, bd, bb, bl, bt⟩ (M + Bk.waitT ⟨bn, bd, bb, bl, bt⟩ ⟨M, xsz⟩) xsz = ⟨bn, bd, bb, (Bk.take ⟨bn, bd, bb, bl, bt⟩ (M + Bk.waitT ⟨bn, bd, bb, bl, bt⟩ ⟨M, xsz⟩) xsz).l, M + Bk.waitT ⟨bn, bd, bb, bl, bt⟩ ⟨M, xsz⟩⟩ from rfl] at hsu htk
        generalize (Bk.take ⟨bn, bd, bb, bl, bt⟩ (M + Bk.waitT ⟨bn, bd, bb, bl, bt⟩ ⟨M, xsz⟩) xsz).l = nl at htk hsu
        clear hst hcan hld hx hgd
        generalize hf : Bk.waitB ⟨bn, bd, bb, bl, bt⟩ ⟨M, xsz⟩ = f at hT htk hsb hwb htf
        generalize Bk.waitT ⟨bn, bd, bb, bl, bt⟩ ⟨M, xsz⟩ = wt at hT htk hsu hwb hwt0 hK htf
        generalize tfV ⟨bn, bd, bb, bl, bt⟩ ⟨M, xsz⟩ = tv at hT htf
        clear hf
        generalize ttK ⟨bn, bd, bb, bl, bt⟩ ⟨M + wt, xsz⟩ = K' at htk hK
        generalize ttB ⟨bn, bd, bb, bl, bt⟩ ⟨M + wt, xsz⟩ = fk at hK
        have HTi := Lib.hid hT; clear hT
        have HTf := Lib.hid htf.2; clear htf
        have HTk := Lib.hid htk; clear htk
        have HKt := Lib.hid hK; clear hK
        have HSu := Lib.hid hsu; clear hsu
        have HSb := Lib.hid hsb; clear hsb
        have HWb := Lib.hid hwb; clear hwb
        have hbox0 := hbox.lt
        have HBx := Lib.hid hbox; clear hbox
        have HO := Lib.hid hown; clear hown
        have hlB := Lib.hid hb
        have HOl := Lib.hid (fun g hg => (HO.out.lt g hg).2)
        have qh := HBx.out; have q0 := cell_of_row wr (w.heap.size) 0 _ _ _ qh; simp at q0; have qf0 := frozen_of_row wr (w.heap.size) 0 _ _ qh; have q1 := cell_of_row wr (w.heap.size) 1 _ _ _ qh; simp at q1; have qf1 := frozen_of_row wr (w.heap.size) 1 _ _ qh; have q2 := cell_of_row wr (w.heap.size) 2 _ _ _ qh; simp at q2; have qf2 := frozen_of_row wr (w.heap.size) 2 _ _ qh; have q3 := cell_of_row wr (w.heap.size) 3 _ _ _ qh; simp at q3; have qf3 := frozen_of_row wr (w.heap.size) 3 _ _ qh; have q4 := cell_of_row wr (w.heap.size) 4 _ _ _ qh; simp at q4; have qf4 := frozen_of_row wr (w.heap.size) 4 _ _ qh; clear qh
        clear qf0 qf1 qf2 qf3 qf4
        have hS : ∀ w', Below wr.heap.size wr w' → Below wr.heap.size wr w' ∧ w'.cell? ⟨w.heap.size, 4, none⟩ = some (.int .i64 bt) ∧ w'.cell? ⟨b, off + n * 2, none⟩ = some (.int .i64 xt) ∧ w'.cell? ⟨b, off + n * 2 + 1, none⟩ = some (.int .i64 xsz) :=
          fun w' h => ⟨h, cell_on h q4, cell_on h c1, cell_on h c2⟩
        clear q0 q1 q2 q3 q4 c1 c2 HC
        have HS := Lib.hid hS; clear hS
        go_upto_region 7 with fail
        go_cut [8] (fun s8 wx => s8 = .pointer (some ⟨wr.heap.size, 0, none⟩) ∧ Hid (wx.heap[wr.heap.size]? = some (.cells #[.int .i64 M, .int .i64 xsz] 51 (0, 0))) ∧ Below wr.heap.size wr wx)
        case first =>
          refine wp_region_held_drew (S := (fun w' => Below wr.heap.size wr w' ∧ w'.cell? ⟨w.heap.size, 4, none⟩ = some (.int .i64 bt) ∧ w'.cell? ⟨b, off + n * 2, none⟩ = some (.int .i64 xt) ∧ w'.cell? ⟨b, off + n * 2 + 1, none⟩ = some (.int .i64 xsz))) (by kernel_rfl) ?rx13s (fun hHeld => ?rx130)
          case rx13s => ((try dsimp only); exact HS.out _ (Below.refl _ _).drew)
          try simp only [Act.put, List.setIfInBounds_toArray, List.set_cons_zero, List.set_cons_succ]
          refine take_at 0 (some 23) (v := ?vx13_1) rfl rfl (by kernel_rfl) (by kernel_rfl) (by kernel_rfl) (fun _ _ _ h => h) (Or.inl ⟨by kernel_rfl, ?yx13_1⟩) hHeld ?zx13_1
          case yx13_1 => (intro wS hSw; (try dsimp only at hSw); go_simp; (try with_reducible rfl))
          try simp only [Act.put, List.setIfInBounds_toArray, List.set_cons_zero, List.set_cons_succ]
          refine take_at 1 (some 24) (v := ?vx13_2) rfl rfl (by kernel_rfl) (by kernel_rfl) (by kernel_rfl) (fun _ _ _ h => h) (Or.inl ⟨by kernel_rfl, ?yx13_2⟩) hHeld ?zx13_2
          case yx13_2 => (intro wS hSw; (try dsimp only at hSw); go_simp; (try with_reducible rfl))
          try simp only [Act.put, List.setIfInBounds_toArray, List.set_cons_zero, List.set_cons_succ]
          refine take_at 2 (some 25) (v := ?vx13_3) rfl rfl (by kernel_rfl) (by kernel_rfl) (by kernel_rfl) (fun _ _ _ h => h) (Or.inl ⟨by kernel_rfl, ?yx13_3⟩) hHeld ?zx13_3
          case yx13_3 => (intro wS hSw; (try dsimp only at hSw); go_simp; (try with_reducible rfl))
          try simp only [Act.put, List.setIfInBounds_toArray, List.set_cons_zero, List.set_cons_succ]
          refine take_at 3 (some 26) (v := ?vx13_4) rfl rfl (by kernel_rfl) (by kernel_rfl) (by kernel_rfl) (fun _ _ _ h => h) (Or.inl ⟨by kernel_rfl, ?yx13_4⟩) hHeld ?zx13_4
          case yx13_4 => (intro wS hSw; (try dsimp only at hSw); go_simp; (try with_reducible rfl))
          try simp only [Act.put, List.setIfInBounds_toArray, List.set_cons_zero, List.set_cons_succ]
          refine take_at 4 (some 27) (v := ?vx13_5) rfl rfl (by kernel_rfl) (by kernel_rfl) (by kernel_rfl) (fun _ _ _ h => h) (Or.inl ⟨by kernel_rfl, ?yx13_5⟩) hHeld ?zx13_5
          case yx13_5 => (intro wS hSw; (try dsimp only at hSw); go_simp; (try with_reducible rfl))
          try simp only [Act.put, List.setIfInBounds_toArray, List.set_cons_zero, List.set_cons_succ]
          refine take_at 5 (some 28) (v := ?vx13_6) rfl rfl (by kernel_rfl) (by kernel_rfl) (by kernel_rfl) (fun _ _ _ h => h) (Or.inl ⟨by kernel_rfl, ?yx13_6⟩) hHeld ?zx13_6
          case yx13_6 => (intro wS hSw; (try dsimp only at hSw); go_simp; (try with_reducible rfl))
          try simp only [Act.put, List.setIfInBounds_toArray, List.set_cons_zero, List.set_cons_succ]
          refine take_at 6 (some 29) (v := ?vx13_7) rfl rfl (by kernel_rfl) (by kernel_rfl) (by kernel_rfl) (fun _ _ _ h => h) (Or.inl ⟨by kernel_rfl, ?yx13_7⟩) hHeld ?zx13_7
          case yx13_7 => (intro wS hSw; (try dsimp only at hSw); go_simp; (try with_reducible rfl))
          try simp only [Act.put, List.setIfInBounds_toArray, List.set_cons_zero, List.set_cons_succ]
          refine take_at 8 (some 31) (v := ?vx13_8) rfl rfl (by kernel_rfl) (by kernel_rfl) (by kernel_rfl) (fun _ _ _ h => h) (Or.inl ⟨by kernel_rfl, ?yx13_8⟩) hHeld ?zx13_8
          case yx13_8 => (intro wS hSw; (try dsimp only at hSw); go_simp; (try with_reducible rfl))
          try simp only [Act.put, List.setIfInBounds_toArray, List.set_cons_zero, List.set_cons_succ]
          refine take_at 9 (some 32) (v := ?vx13_9) rfl rfl (by kernel_rfl) (by kernel_rfl) (by kernel_rfl) (fun _ _ _ h => h) (Or.inl ⟨by kernel_rfl, ?yx13_9⟩) hHeld ?zx13_9
          case yx13_9 => (intro wS hSw; (try dsimp only at hSw); go_simp; (try with_reducible rfl))
          try simp only [Act.put, List.setIfInBounds_toArray, List.set_cons_zero, List.set_cons_succ]
          refine take_at 10 (some 33) (v := ?vx13_10) rfl rfl (by kernel_rfl) (by kernel_rfl) (by kernel_rfl) (fun _ _ _ h => h) (Or.inl ⟨by kernel_rfl, ?yx13_10⟩) hHeld ?zx13_10
          case yx13_10 => (intro wS hSw; (try dsimp only at hSw); go_simp; (try with_reducible rfl))
          try simp only [Act.put, List.setIfInBounds_toArray, List.set_cons_zero, List.set_cons_succ]
          refine take_at 11 (some 34) (v := ?vx13_11) rfl rfl (by kernel_rfl) (by kernel_rfl) (by kernel_rfl) (fun _ _ _ h => h) (Or.inl ⟨by kernel_rfl, ?yx13_11⟩) hHeld ?zx13_11
          case yx13_11 => (intro wS hSw; (try dsimp only at hSw); go_simp; (try with_reducible rfl))
          try simp only [Act.put, List.setIfInBounds_toArray, List.set_cons_zero, List.set_cons_succ]
          refine take_at 12 (some 35) (v := ?vx13_12) rfl rfl (by kernel_rfl) (by kernel_rfl) (by kernel_rfl) (fun _ _ _ h => h) (Or.inl ⟨by kernel_rfl, ?yx13_12⟩) hHeld ?zx13_12
          case yx13_12 => (intro wS hSw; (try dsimp only at hSw); go_simp; (try with_reducible rfl))
          try simp only [Act.put, List.setIfInBounds_toArray, List.set_cons_zero, List.set_cons_succ]
          refine wpAnyH_ready (rs := [7, 14]) (by kernel_rfl) (by simp) ?_
          refine cons_at (some 30) rfl rfl (by kernel_rfl) (fun K hK => ?kx13_14) ?mx13_14
          case kx13_14 =>
            go_simp
            (go_at_call 62; refine (HM.out _).mono ?_; rintro e w' ⟨rfl, rfl⟩)
            try go_wp2_with fail
            refine hK.out _ _ ?sx13_14 (fun hHeld => ?_)
            case sx13_14 => ((try dsimp only); first | exact hHeld | exact HS.out _ (hHeld.1.alloc hHeld.1.size _) | exact HS.out _ ((Below.refl _ _).drew.alloc (Nat.le_refl _) _) | exact HS.out _ (by go_grown))
            clear hK K
            try simp only [Act.put, List.setIfInBounds_toArray, List.set_cons_zero, List.set_cons_succ]
            refine take_at 13 (some 36) (v := ?vx13_15) rfl rfl (by kernel_rfl) (by kernel_rfl) (by kernel_rfl) (fun _ _ _ h => h) (Or.inl ⟨by kernel_rfl, ?yx13_15⟩) hHeld ?zx13_15
            case yx13_15 => (intro wS hSw; (try dsimp only at hSw); go_simp; (try with_reducible rfl))
            try simp only [Act.put, List.setIfInBounds_toArray, List.set_cons_zero, List.set_cons_succ]
            refine wpAnyH_ready (rs := [14]) (by kernel_rfl) (by simp) ?_
            refine cons_at (some 8) rfl rfl (by kernel_rfl) (fun K hK => ?kx13_17) AllReadyH.nil
            go_simp
            refine hK.out _ _ ?sx13_17 (fun hHeld => ?_)
            case sx13_17 => ((try dsimp only); first | exact hHeld | exact HS.out _ (hHeld.1.alloc hHeld.1.size _) | exact HS.out _ ((Below.refl _ _).drew.alloc (Nat.le_refl _) _) | exact HS.out _ (by go_grown))
            clear hK K
            try simp only [Act.put, List.setIfInBounds_toArray, List.set_cons_zero, List.set_cons_succ]
            refine wpAnyH_ready (rs := [15]) (by kernel_rfl) (by simp) ?_
            refine cons_at (none) rfl rfl (by kernel_rfl) (fun K hK => ?kx13_19) AllReadyH.nil
            go_simp
            refine hK.out _ _ ?sx13_19 (fun hHeld => ?_)
            case sx13_19 => ((try dsimp only); first | exact hHeld | exact HS.out _ (hHeld.1.alloc hHeld.1.size _) | exact HS.out _ ((Below.refl _ _).drew.alloc (Nat.le_refl _) _) | exact HS.out _ (by go_grown))
            clear hK K
            try simp only [Act.put, List.setIfInBounds_toArray, List.set_cons_zero, List.set_cons_succ]
            refine wpAnyH_done (by kernel_rfl) ?_ _
            (go_wp2_with fail; go_meet; first | exact ⟨rfl, Lib.hid (heap_alloc_new _ _), hHeld.1⟩ | (trace_state; sorry))
          refine cons_at (some 8) rfl rfl (by kernel_rfl) (fun K hK => ?kx13_20) AllReadyH.nil
          go_simp
          refine hK.out _ _ ?sx13_20 (fun hHeld => ?_)
          case sx13_20 => ((try dsimp only); first | exact hHeld | exact HS.out _ (hHeld.1.alloc hHeld.1.size _) | exact HS.out _ ((Below.refl _ _).drew.alloc (Nat.le_refl _) _) | exact HS.out _ (by go_grown))
          clear hK K
          try simp only [Act.put, List.setIfInBounds_toArray, List.set_cons_zero, List.set_cons_succ]
          refine wpAnyH_ready (rs := [7]) (by kernel_rfl) (by simp) ?_
          refine cons_at (some 30) rfl rfl (by kernel_rfl) (fun K hK => ?kx13_22) AllReadyH.nil
          go_simp
          (go_at_call 62; refine (HM.out _).mono ?_; rintro e w' ⟨rfl, rfl⟩)
          try go_wp2_with fail
          refine hK.out _ _ ?sx13_22 (fun hHeld => ?_)
          case sx13_22 => ((try dsimp only); first | exact hHeld | exact HS.out _ (hHeld.1.alloc hHeld.1.size _) | exact HS.out _ ((Below.refl _ _).drew.alloc (Nat.le_refl _) _) | exact HS.out _ (by go_grown))
          clear hK K
          try simp only [Act.put, List.setIfInBounds_toArray, List.set_cons_zero, List.set_cons_succ]
          refine take_at 13 (some 36) (v := ?vx13_23) rfl rfl (by kernel_rfl) (by kernel_rfl) (by kernel_rfl) (fun _ _ _ h => h) (Or.inl ⟨by kernel_rfl, ?yx13_23⟩) hHeld ?zx13_23
          case yx13_23 => (intro wS hSw; (try dsimp only at hSw); go_simp; (try with_reducible rfl))
          try simp only [Act.put, List.setIfInBounds_toArray, List.set_cons_zero, List.set_cons_succ]
          refine wpAnyH_ready (rs := [15]) (by kernel_rfl) (by simp) ?_
          refine cons_at (none) rfl rfl (by kernel_rfl) (fun K hK => ?kx13_25) AllReadyH.nil
          go_simp
          refine hK.out _ _ ?sx13_25 (fun hHeld => ?_)
          case sx13_25 => ((try dsimp only); first | exact hHeld | exact HS.out _ (hHeld.1.alloc hHeld.1.size _) | exact HS.out _ ((Below.refl _ _).drew.alloc (Nat.le_refl _) _) | exact HS.out _ (by go_grown))
          clear hK K
          try simp only [Act.put, List.setIfInBounds_toArray, List.set_cons_zero, List.set_cons_succ]
          refine wpAnyH_done (by kernel_rfl) ?_ _
          (go_wp2_with fail; go_meet; first | exact ⟨rfl, Lib.hid (heap_alloc_new _ _), hHeld.1⟩ | (trace_state; sorry))
        case rest =>
          obtain ⟨rfl, HLc, hbc⟩ := hcut
          have HO1 := Lib.hid (HO.out.below hbc)
          have HX1 := Lib.hid (HBx.out.below hbc)
          have HW1 := Lib.hid (hlB.out.trans (hbc.mono hlB.out.size))
          have hzc := hbc.size
          have hzl : wr.heap.size < wc.heap.size := (Array.getElem?_eq_some_iff.1 HLc.out).1
          have hzb : w.heap.size < wc.heap.size := by omega
          have hzn : w.heap.size ≠ wr.heap.size := by omega
          clear hbc hb HO HBx HS hlB HM
          have uh := HX1.out; have u0 := cell_of_row wc (w.heap.size) 0 _ _ _ uh; simp at u0; have uf0 := frozen_of_row wc (w.heap.size) 0 _ _ uh; have u1 := cell_of_row wc (w.heap.size) 1 _ _ _ uh; simp at u1; have uf1 := frozen_of_row wc (w.heap.size) 1 _ _ uh; have u2 := cell_of_row wc (w.heap.size) 2 _ _ _ uh; simp at u2; have uf2 := frozen_of_row wc (w.heap.size) 2 _ _ uh; have u3 := cell_of_row wc (w.heap.size) 3 _ _ _ uh; simp at u3; have uf3 := frozen_of_row wc (w.heap.size) 3 _ _ uh; have u4 := cell_of_row wc (w.heap.size) 4 _ _ _ uh; simp at u4; have uf4 := frozen_of_row wc (w.heap.size) 4 _ _ uh; clear uh
          have lh := HLc.out; have l0 := cell_of_row wc (wr.heap.size) 0 _ _ _ lh; simp at l0; have lf0 := frozen_of_row wc (wr.heap.size) 0 _ _ lh; have l1 := cell_of_row wc (wr.heap.size) 1 _ _ _ lh; simp at l1; have lf1 := frozen_of_row wc (wr.heap.size) 1 _ _ lh; clear lh
          cases f
          · have HSB : Hid (shapeB k xs = false ∧ shapeL k xs = []) := Lib.hid (shape_no (by rw [HSb.out, Bool.and_false]) hlt)
            clear HSb HTf HTk HKt HSu HWb
            go_wp2_with fail
            refine (HTi.out _).mono ?_
            rintro e w2 ⟨rfl, hb2⟩
            have HW2 := Lib.hid (HW1.out.trans (hb2.mono HW1.out.size)); clear hb2
            have hy2 := HW2.out.size
            go_wp2
            refine bodyPost_ret (v := (.tuple #[.slice (some ⟨w2.heap.size, 0, none⟩) 0 0, .bool false])) (by simp [results, Try.results23, go_sem, *]) rfl ?_
            exact ⟨_, by rw [HSB.out.1], by rw [HSB.out.2]; exact OwI.base (B := w2.heap.size) ⟨by simpa using World.ownsRow_lit w2 #[] 0 (Nat.le_refl _) (Nat.zero_le _) rfl, Nat.zero_le _⟩ hy2, HW2.out.alloc hy2 _⟩
          · have HSB : Hid (shB k xs (n + 1) = true) := Lib.hid (by rw [HSb.out, HA.out]; rfl)
            have hwb2 := HWb.out rfl
            have hT := HTi.out
            rw [HTf.out rfl] at hT
            have hK := HKt.out
            rw [HTk.out rfl] at hK
            have HTi2 := Lib.hid hT; clear hT
            have HKt2 := Lib.hid hK; clear hK
            clear HTi HTf HTk HKt HSb HWb
            go_wp2_with fail
            refine (HTi2.out _).mono ?_
            rintro e w2 ⟨rfl, hb2⟩
            clear u0 uf0 u1 uf1 u2 uf2 u3 uf3 u4 uf4 l0 lf0 l1 lf1
            have hy2 := hb2.size
            have HO2 := Lib.hid (HO1.out.below hb2)
            have HX2 := Lib.hid (HX1.out.below hb2)
            have HW2 := Lib.hid (HW1.out.trans (hb2.mono HW1.out.size))
            have HL2 : Hid (w2.heap[wr.heap.size]? = some (.cells #[.int .i64 M, .int .i64 xsz] 51 (0, 0))) := Lib.hid ((hb2.block wr.heap.size hzl).trans HLc.out)
            clear hb2 HO1 HX1 HW1 HLc
            have hzl2 : wr.heap.size < w2.heap.size := by omega
            have hzb2 : w.heap.size < w2.heap.size := by omega
            have lh := HL2.out; have l0 := cell_of_row w2 (wr.heap.size) 0 _ _ _ lh; simp at l0; have lf0 := frozen_of_row w2 (wr.heap.size) 0 _ _ lh; have l1 := cell_of_row w2 (wr.heap.size) 1 _ _ _ lh; simp at l1; have lf1 := frozen_of_row w2 (wr.heap.size) 1 _ _ lh; clear lh
            go_upto_region 12 with fail
            have hL3 : (w2.setCell ⟨wr.heap.size, 0, none⟩ (.int .i64 (M + wt))).heap[wr.heap.size]? = some (.cells #[.int .i64 (M + wt), .int .i64 xsz] 51 (0, 0)) := set_at HL2.out 0 _
            have hX3 : BoxBk (w2.setCell ⟨wr.heap.size, 0, none⟩ (.int .i64 (M + wt))) w.heap.size ⟨bn, bd, bb, bl, bt⟩ := (set_other _ _ _ _ hzn).trans HX2.out
            have hO3 := own_same1 (w' := (w2.setCell ⟨wr.heap.size, 0, none⟩ (.int .i64 (M + wt)))) HO2.out.1 (fun g hg => set_other _ _ _ _ (by have := HOl.out g hg; show g ≠ wr.heap.size; omega))
            have hB3 : Below w.heap.size w (w2.setCell ⟨wr.heap.size, 0, none⟩ (.int .i64 (M + wt))) := HW2.out.setCell (by show w.heap.size ≤ wr.heap.size; omega) _
            clear l0 lf0 l1 lf1 HO2 HX2 HW2 HL2 HTi2 HOl
            have hz3 : (w2.setCell ⟨wr.heap.size, 0, none⟩ (.int .i64 (M + wt))).heap.size = w2.heap.size := by simp
            generalize (w2.setCell ⟨wr.heap.size, 0, none⟩ (.int .i64 (M + wt))) = w3 at hL3 hX3 hO3 hB3 hz3 ⊢
            have HL3 := Lib.hid hL3; clear hL3
            have HX3 := Lib.hid hX3; clear hX3
            have HO3 := Lib.hid hO3; clear hO3
            have HB3 := Lib.hid hB3; clear hB3
            have hzl3 : wr.heap.size < w3.heap.size := by omega
            have hzb3 : w.heap.size < w3.heap.size := by omega
            clear hz3
            have uh := HX3.out; have u0 := cell_of_row w3 (w.heap.size) 0 _ _ _ uh; simp at u0; have uf0 := frozen_of_row w3 (w.heap.size) 0 _ _ uh; have u1 := cell_of_row w3 (w.heap.size) 1 _ _ _ uh; simp at u1; have uf1 := frozen_of_row w3 (w.heap.size) 1 _ _ uh; have u2 := cell_of_row w3 (w.heap.size) 2 _ _ _ uh; simp at u2; have uf2 := frozen_of_row w3 (w.heap.size) 2 _ _ uh; have u3 := cell_of_row w3 (w.heap.size) 3 _ _ _ uh; simp at u3; have uf3 := frozen_of_row w3 (w.heap.size) 3 _ _ uh; have u4 := cell_of_row w3 (w.heap.size) 4 _ _ _ uh; simp at u4; have uf4 := frozen_of_row w3 (w.heap.size) 4 _ _ uh; clear uh
            have lh := HL3.out; have l0 := cell_of_row w3 (wr.heap.size) 0 _ _ _ lh; simp at l0; have lf0 := frozen_of_row w3 (wr.heap.size) 0 _ _ lh; have l1 := cell_of_row w3 (wr.heap.size) 1 _ _ _ lh; simp at l1; have lf1 := frozen_of_row w3 (wr.heap.size) 1 _ _ lh; clear lh
            go_wp2_with fail
            refine (HKt2.out _).mono ?_
            rintro e w4 ⟨rfl, hb4⟩
            clear u0 uf0 u1 uf1 u2 uf2 u3 uf3 u4 uf4 l0 lf0 l1 lf1
            have hz4 := hb4.size
            have HO4 := Lib.hid (own_below HO3.out hb4)
            have HX4 := Lib.hid (HX3.out.below hb4)
            have HW4 := Lib.hid (HB3.out.trans (hb4.mono HB3.out.size))
            have HL4 : Hid (w4.heap[wr.heap.size]? = some (.cells #[.int .i64 (M + wt), .int .i64 xsz] 51 (0, 0))) := Lib.hid ((hb4.block wr.heap.size hzl3).trans HL3.out)
            clear hb4 HO3 HX3 HB3 HL3 HKt2
            have hzl4 : wr.heap.size < w4.heap.size := by omega
            have hzb4 : w.heap.size < w4.heap.size := by omega
            have uh := HX4.out; have u0 := cell_of_row w4 (w.heap.size) 0 _ _ _ uh; simp at u0; have uf0 := frozen_of_row w4 (w.heap.size) 0 _ _ uh; have u1 := cell_of_row w4 (w.heap.size) 1 _ _ _ uh; simp at u1; have uf1 := frozen_of_row w4 (w.heap.size) 1 _ _ uh; have u2 := cell_of_row w4 (w.heap.size) 2 _ _ _ uh; simp at u2; have uf2 := frozen_of_row w4 (w.heap.size) 2 _ _ uh; have u3 := cell_of_row w4 (w.heap.size) 3 _ _ _ uh; simp at u3; have uf3 := frozen_of_row w4 (w.heap.size) 3 _ _ uh; have u4 := cell_of_row w4 (w.heap.size) 4 _ _ _ uh; simp at u4; have uf4 := frozen_of_row w4 (w.heap.size) 4 _ _ uh; clear uh
            go_upto_region 13 with fail
            have hS5 : (((((w4.setCell ⟨w.heap.size, 0, none⟩ (.int .i64 bn)).setCell ⟨w.heap.size, 1, none⟩ (.int .i64 bd)).setCell ⟨w.heap.size, 2, none⟩ (.int .i64 bb)).setCell ⟨w.heap.size, 3, none⟩ (.int .i64 nl)).setCell ⟨w.heap.size, 4, none⟩ (.int .i64 (M + wt))).heap[w.heap.size]? = _ := set5_at HX4.out (.int .i64 bn) (.int .i64 bd) (.int .i64 bb) (.int .i64 nl) (.int .i64 (M + wt))
            have hL5 : (((((w4.setCell ⟨w.heap.size, 0, none⟩ (.int .i64 bn)).setCell ⟨w.heap.size, 1, none⟩ (.int .i64 bd)).setCell ⟨w.heap.size, 2, none⟩ (.int .i64 bb)).setCell ⟨w.heap.size, 3, none⟩ (.int .i64 nl)).setCell ⟨w.heap.size, 4, none⟩ (.int .i64 (M + wt))).heap[wr.heap.size]? = some (.cells #[.int .i64 (M + wt), .int .i64 xsz] 51 (0, 0)) := (set5_other _ _ _ _ _ (by omega)).trans HL4.out
            have hO5 := own_same (w' := (((((w4.setCell ⟨w.heap.size, 0, none⟩ (.int .i64 bn)).setCell ⟨w.heap.size, 1, none⟩ (.int .i64 bd)).setCell ⟨w.heap.size, 2, none⟩ (.int .i64 bb)).setCell ⟨w.heap.size, 3, none⟩ (.int .i64 nl)).setCell ⟨w.heap.size, 4, none⟩ (.int .i64 (M + wt)))) HO4.out (fun g hg hl => set5_other _ _ _ _ _ (by omega))
            have hB5 : Below w.heap.size w (((((w4.setCell ⟨w.heap.size, 0, none⟩ (.int .i64 bn)).setCell ⟨w.heap.size, 1, none⟩ (.int .i64 bd)).setCell ⟨w.heap.size, 2, none⟩ (.int .i64 bb)).setCell ⟨w.heap.size, 3, none⟩ (.int .i64 nl)).setCell ⟨w.heap.size, 4, none⟩ (.int .i64 (M + wt))) := ((((HW4.out.setCell (Nat.le_refl _) _).setCell (Nat.le_refl _) _).setCell (Nat.le_refl _) _).setCell (Nat.le_refl _) _).setCell (Nat.le_refl _) _
            clear u0 uf0 u1 uf1 u2 uf2 u3 uf3 u4 uf4 HO4 HX4 HW4 HL4
            generalize (((((w4.setCell ⟨w.heap.size, 0, none⟩ (.int .i64 bn)).setCell ⟨w.heap.size, 1, none⟩ (.int .i64 bd)).setCell ⟨w.heap.size, 2, none⟩ (.int .i64 bb)).setCell ⟨w.heap.size, 3, none⟩ (.int .i64 nl)).setCell ⟨w.heap.size, 4, none⟩ (.int .i64 (M + wt))) = W5 at hS5 hL5 hO5 hB5 ⊢
            have hl5 : w.heap.size < W5.heap.size := (Array.getElem?_eq_some_iff.1 hS5).1
            have hll5 : wr.heap.size < W5.heap.size := (Array.getElem?_eq_some_iff.1 hL5).1
            have HS5 := Lib.hid hS5; clear hS5
            have HL5 := Lib.hid hL5; clear hL5
            have lh := HL5.out; have l0 := cell_of_row W5 (wr.heap.size) 0 _ _ _ lh; simp at l0; have lf0 := frozen_of_row W5 (wr.heap.size) 0 _ _ lh; have l1 := cell_of_row W5 (wr.heap.size) 1 _ _ _ lh; simp at l1; have lf1 := frozen_of_row W5 (wr.heap.size) 1 _ _ lh; clear lh
            go_wp2_with (first | (at_builtin; go_loud (refine wpList_append_own _ rfl _ _ 29 rfl (w.heap.size + 1) 3 i0 (.int .i64 0) 1 8 Try.underlying29 hi hz0 hz1 hz2 rfl (by decide) _ _ _ rfl (hO5.alloc _) ⟨W5.heap.size, 0, none⟩ 1 1 [.int .i64 (M + wt)] rfl rfl ?c1 ?c2 ?c3 ?c4 ?c5 ?_)))
            try (case c1 => first | exact cells_new _ #[_] _ | rfl)
            try (case c2 => first | rfl | (intro u hu; simp at hu; subst hu; rfl))
            try (case c3 => first | omega | (unfold maxLen; omega))
            try (case c4 => first | omega | ((try simp only [World.heap_size_alloc]); omega))
            try (case c5 => first | omega | (simp; omega))
            intro v' w2 hown' hgrow
            try intro _
            have hr5 : some w.heap.size ≠ u6.ownBlock := fun e => by have := (hO5.lt _ e.symm).1; omega
            have hbx5 : BoxBk w2 w.heap.size ⟨bn, bd, bb, nl, M + wt⟩ := (hgrow.block w.heap.size (by simp; omega) hr5).trans ((Below.heap_alloc _ _ _ hl5).trans HS5.out)
            have HX5 := Lib.hid hbx5; clear hbx5
            clear l0 lf0 l1 lf1
            go_wp2
            go_roundw
            case rel => exact ⟨n + 1, by omega, by go_num, HSB, by rw [HSu.out]; exact HX5.out, by rw [HSu.out]; exact ⟨by simpa using hown', by simp; omega⟩, Below.grown (Below.trans hB5 (by go_grown)) hgrow (by simp; omega) (fun j hj => Nat.le_trans (Nat.le_succ _) (hO5.lt j hj).1)⟩
            case measure => simp [intOf]; omega
      · obtain rfl : n = xs.length := by omega
        have HV : Hid (shapeB k xs = true ∧ shapeL k xs = (shN k xs xs.length).2) := Lib.hid (by simp [shapeL, shapeB, HB.out, HA.out])
        have HH := Lib.hid (And.intro hown hb); clear hown hb hbox
        go_wp2
        refine bodyPost_ret (v := (.tuple #[u6, .bool true])) (by simp [results, Try.results23, go_sem, *]) rfl ?_
        exact ⟨_, by rw [HV.out.1], by rw [HV.out.2]; exact HH.out.1.base (Nat.le_succ _), HH.out.2⟩
end Go.Proofs.Ytgmccafmopgjaaa
