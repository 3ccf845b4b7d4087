/- The text of a list of counters by the program's CounterText, for all lists of at most 2^30 counters. Conditions: names of at most 2^20 bytes; the library's table of powers lies where it is laid. -/
import Derived.Test.YtmochhgmhhopoaaGreatDoorCnt15
import Derived.Test.YtmochhgmhhopoaaGreatDoorJoinT
import Derived.Test.YtmochhgmhhopoaaGreatDoorAppK
import Derived.Lib.AppendZerosOnto
import Derived.Lib.Overlaps
import Derived.Deep.AppendLies
namespace Go.Proofs.YtmochhgmhhopoaaGreatDoor
open Go.RowKit

def wdN (xs : List Ct) (n : Nat) : List ByteArray := (xs.take n).map oneT
theorem wdN_length {xs : List Ct} {n : Nat} (h : n ≤ xs.length) : (wdN xs n).length = n := by rw [wdN, List.length_map, List.length_take]; omega
theorem wdN_succ {xs : List Ct} {n : Nat} (h : n < xs.length) : wdN xs (n + 1) = wdN xs n ++ [oneT xs[n]] := by
  rw [wdN, List.take_succ_eq_append_getElem h, List.map_append]; rfl
theorem wdN_ok {xs : List Ct} (h : ctB xs = true) (n : Nat) : ∀ r ∈ wdN xs n, r.size ≤ 9223372036854775807 := by
  intro r hr
  obtain ⟨x, hx, rfl⟩ := List.mem_map.1 hr
  have h1 := ct_small h x (List.mem_of_mem_take hx)
  have := oneT_size h1.1 h1.2.2
  omega
set_option maxRecDepth 100000 in
set_option maxHeartbeats 4000000 in
theorem implText_any (v : Value) (xs : List Ct) (w : World) (h : RdCt w v xs) (hS : ∀ x ∈ xs, x.nm.size ≤ 1048576) (hP : PowAt w) :
    Calls Tryz.prog 17 #[v] w fun e w' => e = .returned (.tuple #[.string (ctxV xs), .bool (ctB xs)]) ∧ Below w.heap.size w w' := by
  have HI := Lib.hid (implIs_any v xs w h hS)
  have HPw := Lib.hid hP; clear hP
  have hlen := h.2.1
  obtain ⟨i0, hi, hz0, hz1, hz2⟩ := info_parts infoStr
  obtain ⟨p, cap, b, off, rfl, hcap, hp, hcell⟩ := h.parts
  have HC := Lib.hid hcell; clear hcell
  have HP := Lib.hid hp; clear hp h
  cases hB : ctB xs
  · have HV : Hid (ctxV xs = ⟨#[]⟩) := Lib.hid (by rw [ctxV, hB]; rfl)
    rw [hB] at HI
    go_enter Tryz.func17, Tryz.ntmps17
    go_wp2_with fail
    refine HI.out.mono ?_
    rintro e w1 ⟨rfl, hb⟩
    have HB := Lib.hid hb; clear hb
    go_wp2
    refine bodyPost_ret (v := (.tuple #[.string ⟨#[]⟩, .bool false])) (by simp [results, Tryz.results17, go_sem, *]) rfl ?_
    exact ⟨by rw [HV.out], HB.out⟩
  · have HV : Hid (ctxV xs = joinB (wdN xs xs.length) ⟨#[32]⟩) := Lib.hid (by rw [ctxV, if_pos hB, ← txN_join xs _ (Nat.le_refl _)]; rfl)
    have HSz : Hid ((joinB (wdN xs xs.length) ⟨#[32]⟩).size ≤ 140737488355328) := Lib.hid (by
      have h1 := txN_size (ct_small hB) xs.length (Nat.le_refl _)
      rw [← txN_join xs _ (Nat.le_refl _)] at h1
      have h12 := (ctB_true hB).1
      have : (joinB (wdN xs xs.length) ⟨#[32]⟩).size ≤ 1000023 * xs.length := h1
      omega)
    have h12 := (ctB_true hB).1
    have HG := Lib.hid (ct_small hB)
    have HOK := Lib.hid (wdN_ok hB)
    rw [hB] at HI
    clear hB
    go_enter Tryz.func17, Tryz.ntmps17
    go_wp2_with fail
    refine HI.out.mono ?_
    rintro e w1 ⟨rfl, hb⟩
    have HB0 := Lib.hid hb; clear hb
    go_wp2
    go_loopw [4, 12] (fun u i wr => ∃ n : Nat, n ≤ xs.length ∧ i = .int .i64 n ∧ Hid (OwS w.heap.size wr u (wdN xs n)) ∧ Hid (Below w.heap.size w wr)) (fun _ i _ => xs.length - (intOf i).toNat)
    case atStart => exact ⟨0, Nat.zero_le _, rfl, Lib.hid (owS_nil _ _), HB0⟩
    case round =>
      clear HB0
      obtain ⟨n, hn, rfl, HO, HB⟩ := hrel
      have hwl := wdN_length hn
      by_cases hlt : n < xs.length
      · obtain rfl := HP.out (by omega)
        obtain ⟨c1, c2⟩ := HC.out n hlt
        have c1 := cell_on HB.out c1
        have c2 := cell_on HB.out c2
        obtain ⟨g1, g2, g3⟩ := HG.out xs[n] (List.getElem_mem hlt)
        have HS := Lib.hid (wdN_succ hlt)
        have HO1 := Lib.hid (HOK.out (n + 1))
        generalize xs[n] = x at *
        obtain ⟨xn, xv⟩ := x
        obtain ⟨m, rfl⟩ : ∃ m : Nat, xv = m := Int.eq_ofNat_of_zero_le g2
        have hm : m ≤ 1000000 := by simp only at g3; omega
        have HT := Lib.hid (fun w h => itoa_any m w (by omega) h)
        have hns := numT_le m
        have HOne : Hid (oneT ⟨xn, m⟩ = xn ++ ⟨#[61]⟩ ++ numT m) := Lib.hid rfl
        generalize numT m = t at *
        simp only at c1 c2 g1
        have ha1 : ¬ 9223372036854775807 < xn.size + 1 := by omega
        have ha2 : ¬ 9223372036854775807 < xn.size + 1 + t.size := by omega
        have E0 := Lib.hid (box_cell wr #[.string xn, .int .i64 m] 55 0 _ rfl)
        have E1 := Lib.hid (box_cell wr #[.string xn, .int .i64 m] 55 1 _ rfl)
        have e0 := E0.out
        have e1 := E1.out
        have hkm : n + 1 ≤ maxLen := by unfold maxLen; omega
        have HOJ : Hid (wr.ownsRow w.heap.size 9 1 u4 n ((wdN xs n).map Value.string)) := Lib.hid (by have h := HO.out.1; rwa [hwl] at h)
        have HV1 : Hid (∀ u ∈ ([.string (xn ++ ⟨#[61]⟩ ++ t)] : List Value), u.oneCell' = true) := Lib.hid (by intro u hu; simp at hu; subst hu; rfl)
        have HBX := Lib.hid ((below_alloc1 wr (.cells #[.string xn, .int .i64 m] 55)).drew)
        go_wp2_with fail
        have hlo : ∀ j, u4.ownBlock = some j → j ≠ wr.heap.size := fun j hj => by have := (HO.out.1.lt j hj).2; omega
        have HLo := Lib.hid hlo; clear hlo
        have HBS := Lib.hid (HB.out.trans (HBX.out.mono HB.out.size))
        refine wp_region_held_drew (S := (fun w' => Below w.heap.size w w' ∧ w'.cell? ⟨wr.heap.size, 0, none⟩ = some (.string xn) ∧ w'.cell? ⟨wr.heap.size, 1, none⟩ = some (.int .i64 m))) (by kernel_rfl) ?rx1s (fun hHeld => ?rx10)
        case rx1s => ((try dsimp only); exact ⟨HBS.out, e0, e1⟩)
        try simp only [Act.put, List.setIfInBounds_toArray, List.set_cons_zero, List.set_cons_succ]
        refine take_at 0 (some 16) (v := ?vx1_1) rfl rfl (by kernel_rfl) (by kernel_rfl) (by kernel_rfl) (fun _ _ _ h => h) (Or.inl ⟨by kernel_rfl, ?yx1_1⟩) hHeld ?zx1_1
        case yx1_1 => (intro wS hSw; (try dsimp only at hSw); go_simp; (try with_reducible rfl))
        try simp only [Act.put, List.setIfInBounds_toArray, List.set_cons_zero, List.set_cons_succ]
        refine take_at 1 (some 17) (v := ?vx1_2) rfl rfl (by kernel_rfl) (by kernel_rfl) (by kernel_rfl) (fun _ _ _ h => h) (Or.inl ⟨by kernel_rfl, ?yx1_2⟩) hHeld ?zx1_2
        case yx1_2 => (intro wS hSw; (try dsimp only at hSw); go_simp; (try with_reducible rfl))
        try simp only [Act.put, List.setIfInBounds_toArray, List.set_cons_zero, List.set_cons_succ]
        refine take_at 2 (some 18) (v := ?vx1_3) rfl rfl (by kernel_rfl) (by kernel_rfl) (by kernel_rfl) (fun _ _ _ h => h) (Or.inl ⟨by kernel_rfl, ?yx1_3⟩) hHeld ?zx1_3
        case yx1_3 => (intro wS hSw; (try dsimp only at hSw); go_simp; (try with_reducible rfl))
        try simp only [Act.put, List.setIfInBounds_toArray, List.set_cons_zero, List.set_cons_succ]
        refine take_at 3 (some 19) (v := ?vx1_4) rfl rfl (by kernel_rfl) (by kernel_rfl) (by kernel_rfl) (fun _ _ _ h => h) (Or.inl ⟨by kernel_rfl, ?yx1_4⟩) hHeld ?zx1_4
        case yx1_4 => (intro wS hSw; (try dsimp only at hSw); go_simp; (try with_reducible rfl))
        try simp only [Act.put, List.setIfInBounds_toArray, List.set_cons_zero, List.set_cons_succ]
        refine take_at 4 (some 20) (v := ?vx1_5) rfl rfl (by kernel_rfl) (by kernel_rfl) (by kernel_rfl) (fun _ _ _ h => h) (Or.inl ⟨by kernel_rfl, ?yx1_5⟩) hHeld ?zx1_5
        case yx1_5 => (intro wS hSw; (try dsimp only at hSw); go_simp; (try with_reducible rfl))
        try simp only [Act.put, List.setIfInBounds_toArray, List.set_cons_zero, List.set_cons_succ]
        refine take_at 5 (some 21) (v := ?vx1_6) rfl rfl (by kernel_rfl) (by kernel_rfl) (by kernel_rfl) (fun _ _ _ h => h) (Or.inl ⟨by kernel_rfl, ?yx1_6⟩) hHeld ?zx1_6
        case yx1_6 => (intro wS hSw; (try dsimp only at hSw); go_simp; (try with_reducible rfl))
        try simp only [Act.put, List.setIfInBounds_toArray, List.set_cons_zero, List.set_cons_succ]
        refine wpAnyH_ready (rs := [6]) (by kernel_rfl) (by simp) ?_
        refine cons_at (some 22) rfl rfl (by kernel_rfl) (fun K hK => ?kx1_8) AllReadyH.nil
        go_simp
        (go_at_call 42; refine (HT.out _ (HPw.out.below HBS.out)).mono ?_; rintro e w5 ⟨rfl, hbel⟩; have HB5 := Lib.hid (HBX.out.trans (hbel.mono HBX.out.size)); have HO5 := Lib.hid ((own_below HOJ.out HB5.out).alloc (.cells #[.string (xn ++ ⟨#[61]⟩ ++ t)] 9)); have HB5L := Lib.hid (HB5.out.trans ((below_alloc1 w5 (.cells #[.string (xn ++ ⟨#[61]⟩ ++ t)] 9)).mono HB5.out.size)); have HSn := Lib.hid (World.news_of_block (heap_alloc_new w5 (.cells #[.string (xn ++ ⟨#[61]⟩ ++ t)] 9))); have hsz5 : w.heap.size ≤ w5.heap.size := Nat.le_trans HB.out.size HB5.out.size)
        try go_wp2_with fail
        refine hK.out _ _ ?sx1_8 (fun hHeld => ?_)
        case sx1_8 => ((try dsimp only); first | exact ⟨HB6.out, k0, k1⟩ | exact keepB2 (by assumption) hbel | exact keepB2 (by assumption) (below_alloc1 _ _) | assumption)
        clear hK K
        try simp only [Act.put, List.setIfInBounds_toArray, List.set_cons_zero, List.set_cons_succ]
        refine take_at 7 (some 23) (v := ?vx1_9) rfl rfl (by kernel_rfl) (by kernel_rfl) (by kernel_rfl) (fun _ _ _ h => h) (Or.inl ⟨by kernel_rfl, ?yx1_9⟩) hHeld ?zx1_9
        case yx1_9 => (intro wS hSw; (try dsimp only at hSw); go_simp; (try with_reducible rfl))
        try simp only [Act.put, List.setIfInBounds_toArray, List.set_cons_zero, List.set_cons_succ]
        refine wpAnyH_ready (rs := [8]) (by kernel_rfl) (by simp) ?_
        refine cons_at (some 24) rfl rfl (by kernel_rfl) (fun K hK => ?kx1_11) AllReadyH.nil
        go_simp
        refine hK.out _ _ ?sx1_11 (fun hHeld => ?_)
        case sx1_11 => ((try dsimp only); first | exact ⟨HB6.out, k0, k1⟩ | exact keepB2 (by assumption) hbel | exact keepB2 (by assumption) (below_alloc1 _ _) | assumption)
        clear hK K
        try simp only [Act.put, List.setIfInBounds_toArray, List.set_cons_zero, List.set_cons_succ]
        refine wpAnyH_ready (rs := [9]) (by kernel_rfl) (by simp) ?_
        refine cons_at (some 25) rfl rfl (by kernel_rfl) (fun K hK => ?kx1_13) AllReadyH.nil
        (refine wp_appK _ (.tmp 16) (.tmp 24) 61 rfl w.heap.size 9 i0 (.string ⟨#[]⟩) 1 16 Tryz.underlying61 hi hz0 hz1 hz2 rfl (by decide) u4 n _ (by simp [Act.eval]) HO5.out (some ⟨w5.heap.size, 0, none⟩) 1 1 [.string (xn ++ ⟨#[61]⟩ ++ t)] (by simp [Act.eval]) rfl (fun _ => ⟨_, rfl, HSn.out⟩) (fun e => by cases e) HV1.out hkm (by omega) (by simp; omega) ?_; intro v2 w6 hown2 hgrow2; have HB6 : Hid (Below w.heap.size w w6) := Lib.hid ((HB.out.trans (HB5L.out.mono HB.out.size)).grown hgrow2 (Nat.le_trans HB.out.size HB5L.out.size) (fun i hi => (HO5.out.lt i hi).1)); have k0 := hgrow2.cell hHeld.2.1 (fun e => HLo.out _ e.symm rfl); have k1 := hgrow2.cell hHeld.2.2 (fun e => HLo.out _ e.symm rfl); have HO6 := Lib.hid hown2; clear hown2 hgrow2)
        refine hK.out _ _ ?sx1_13 (fun hHeld => ?_)
        case sx1_13 => ((try dsimp only); first | exact ⟨HB6.out, k0, k1⟩ | exact keepB2 (by assumption) hbel | exact keepB2 (by assumption) (below_alloc1 _ _) | assumption)
        clear hK K
        try simp only [Act.put, List.setIfInBounds_toArray, List.set_cons_zero, List.set_cons_succ]
        refine take_at 10 (some 4) (v := ?vx1_14) rfl rfl (by kernel_rfl) (by kernel_rfl) (by kernel_rfl) (fun _ _ _ h => h) (Or.inl ⟨by kernel_rfl, ?yx1_14⟩) hHeld ?zx1_14
        case yx1_14 => (intro wS hSw; (try dsimp only at hSw); go_simp; (try with_reducible rfl))
        try simp only [Act.put, List.setIfInBounds_toArray, List.set_cons_zero, List.set_cons_succ]
        refine wpAnyH_done (by kernel_rfl) ?_ _
        go_wp2
        go_roundw
        case rel => exact ⟨n + 1, by omega, by go_num, Lib.hid (by rw [HS.out, HOne.out]; exact ⟨by simpa [hwl] using HO6.out, by simp; omega, by rw [← HOne.out, ← HS.out]; exact HO1.out⟩), HB6⟩
        case measure => simp [intOf]; omega
      · obtain rfl : n = xs.length := by omega
        go_wp2_with fail
        refine (joinB_any _ _ ⟨#[32]⟩ _ HO.out.rd HSz.out).mono ?_
        rintro e w2 ⟨rfl, hb2⟩
        have HB2 := Lib.hid (HB.out.trans (hb2.mono HB.out.size)); clear hb2
        go_wp2
        refine bodyPost_ret (v := (.tuple #[.string (joinB (wdN xs xs.length) ⟨#[32]⟩), .bool true])) (by simp [results, Tryz.results17, go_sem, *]) rfl ?_
        exact ⟨by rw [HV.out], HB2.out⟩
end Go.Proofs.YtmochhgmhhopoaaGreatDoor
