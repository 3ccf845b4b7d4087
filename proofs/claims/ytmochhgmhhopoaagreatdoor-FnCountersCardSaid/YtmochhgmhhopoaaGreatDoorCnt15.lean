/- The text of a list of counters by the reference: l18Text and CounterText, for all lists of at most 2^30 counters. Condition: names of at most 2^20 bytes. -/
import Derived.Test.YtmochhgmhhopoaaGreatDoorTxMath
import Derived.Test.YtmochhgmhhopoaaGreatDoorCnt3
namespace Go.Proofs.YtmochhgmhhopoaaGreatDoor
open Go.RowKit

theorem ba3 (a b c : ByteArray) : a ++ (b ++ c) = a ++ b ++ c := ByteArray.ext (by simp)
theorem str_same3 (s a b c d : ByteArray) : Value.string (s ++ a ++ b ++ c ++ d) = .string (s ++ a ++ (b ++ c ++ d)) := by rw [ba3, ba3]
def ctxV (xs : List Ct) : ByteArray := if ctB xs = true then txN xs xs.length else ⟨#[]⟩
set_option maxRecDepth 100000 in
set_option maxHeartbeats 4000000 in
theorem l18Text_any (v : Value) (xs : List Ct) (w : World) (h : RdCt w v xs) (hB : ctB xs = true) :
    Calls Tryz.prog 44 #[v] w fun e w' => e = .returned (.string (txN xs xs.length)) ∧ Below w.heap.size w w' := by
  have hlen := h.2.1
  obtain ⟨p, cap, b, off, rfl, hcap, hp, hcell⟩ := h.parts
  have HC := Lib.hid hcell; clear hcell
  have HP := Lib.hid hp; clear hp h
  have h12 := (ctB_true hB).1
  have HG := Lib.hid (ct_small hB)
  have HSz := Lib.hid (txN_size (ct_small hB)); clear hB
  go_enter Tryz.func44, Tryz.ntmps44
  go_wp2
  go_loopw [3, 4] (fun t i wr => ∃ n : Nat, n ≤ xs.length ∧ i = .int .i64 n ∧ t = .string (txN xs n) ∧ Hid (Below w.heap.size w wr)) (fun _ i _ => xs.length - (intOf i).toNat)
  case atStart => exact ⟨0, Nat.zero_le _, rfl, rfl, Lib.hid (Below.refl _ _)⟩
  case round =>
    obtain ⟨n, hn, rfl, rfl, HB⟩ := hrel
    by_cases hlt : n < xs.length
    · obtain rfl := HP.out (by omega)
      obtain ⟨c1, c2⟩ := HC.out n hlt
      have c1 := cell_on HB.out c1
      have c2 := cell_on HB.out c2
      obtain ⟨g1, g2, g3⟩ := HG.out xs[n] (List.getElem_mem hlt)
      have hs := HSz.out n hn
      have HOne : Hid (0 < n → txN xs (n + 1) = txN xs n ++ ⟨#[32]⟩ ++ oneT xs[n]) := Lib.hid (txN_succ xs n hlt)
      have HZero : Hid (n = 0 → txN xs (n + 1) = oneT xs[n]) := Lib.hid (fun e => by subst e; exact txN_one xs hlt)
      generalize hx : xs[n] = x at *
      obtain ⟨xn, xv⟩ := x
      obtain ⟨m, rfl⟩ : ∃ m : Nat, xv = m := Int.eq_ofNat_of_zero_le g2
      have hm : m ≤ 1000000 := by simp only at g3; omega
      have HT := Lib.hid (fun w => num_any m w (by omega))
      have hns := numT_le m
      have HO : Hid (oneT ⟨xn, m⟩ = xn ++ ⟨#[61]⟩ ++ numT m) := Lib.hid rfl
      generalize numT m = t at *
      simp only at c1 c2 g1
      clear hx
      by_cases h0 : 0 < n
      · generalize txN xs n = s at *
        have hz1 : ¬ 9223372036854775807 < s.size + 1 + xn.size := by omega
        have hz2 : ¬ 9223372036854775807 < s.size + 1 + xn.size + 1 := by omega
        have hz3 : ¬ 9223372036854775807 < s.size + 1 + xn.size + 1 + t.size := by omega
        go_wp2_with fail
        refine wp_region_held_drew (S := (fun w' => Below wr.heap.size wr w' ∧ w'.cell? ⟨b, off + n * 2, none⟩ = some (.string xn) ∧ w'.cell? ⟨b, off + n * 2 + 1, none⟩ = some (.int .i64 m))) (by kernel_rfl) ?rx1s (fun hHeld => ?rx10)
        case rx1s => ((try dsimp only); exact ⟨(Below.refl _ _).drew, c1, c2⟩)
        try simp only [Act.put, List.setIfInBounds_toArray, List.set_cons_zero, List.set_cons_succ]
        refine take_at 0 (some 15) (v := ?vx1_1) rfl rfl (by kernel_rfl) (by kernel_rfl) (by kernel_rfl) (fun _ _ _ h => h) (Or.inl ⟨by kernel_rfl, ?yx1_1⟩) hHeld ?zx1_1
        case yx1_1 => (intro wS hSw; (try dsimp only at hSw); go_simp; (try with_reducible rfl))
        try simp only [Act.put, List.setIfInBounds_toArray, List.set_cons_zero, List.set_cons_succ]
        refine take_at 1 (some 16) (v := ?vx1_2) rfl rfl (by kernel_rfl) (by kernel_rfl) (by kernel_rfl) (fun _ _ _ h => h) (Or.inl ⟨by kernel_rfl, ?yx1_2⟩) hHeld ?zx1_2
        case yx1_2 => (intro wS hSw; (try dsimp only at hSw); go_simp; (try with_reducible rfl))
        try simp only [Act.put, List.setIfInBounds_toArray, List.set_cons_zero, List.set_cons_succ]
        refine take_at 2 (some 17) (v := ?vx1_3) rfl rfl (by kernel_rfl) (by kernel_rfl) (by kernel_rfl) (fun _ _ _ h => h) (Or.inl ⟨by kernel_rfl, ?yx1_3⟩) hHeld ?zx1_3
        case yx1_3 => (intro wS hSw; (try dsimp only at hSw); go_simp; (try with_reducible rfl))
        try simp only [Act.put, List.setIfInBounds_toArray, List.set_cons_zero, List.set_cons_succ]
        refine take_at 3 (some 18) (v := ?vx1_4) rfl rfl (by kernel_rfl) (by kernel_rfl) (by kernel_rfl) (fun _ _ _ h => h) (Or.inl ⟨by kernel_rfl, ?yx1_4⟩) hHeld ?zx1_4
        case yx1_4 => (intro wS hSw; (try dsimp only at hSw); go_simp; (try with_reducible rfl))
        try simp only [Act.put, List.setIfInBounds_toArray, List.set_cons_zero, List.set_cons_succ]
        refine take_at 4 (some 19) (v := ?vx1_5) rfl rfl (by kernel_rfl) (by kernel_rfl) (by kernel_rfl) (fun _ _ _ h => h) (Or.inl ⟨by kernel_rfl, ?yx1_5⟩) hHeld ?zx1_5
        case yx1_5 => (intro wS hSw; (try dsimp only at hSw); go_simp; (try with_reducible rfl))
        try simp only [Act.put, List.setIfInBounds_toArray, List.set_cons_zero, List.set_cons_succ]
        refine take_at 5 (some 20) (v := ?vx1_6) rfl rfl (by kernel_rfl) (by kernel_rfl) (by kernel_rfl) (fun _ _ _ h => h) (Or.inl ⟨by kernel_rfl, ?yx1_6⟩) hHeld ?zx1_6
        case yx1_6 => (intro wS hSw; (try dsimp only at hSw); go_simp; (try with_reducible rfl))
        try simp only [Act.put, List.setIfInBounds_toArray, List.set_cons_zero, List.set_cons_succ]
        refine take_at 6 (some 21) (v := ?vx1_7) rfl rfl (by kernel_rfl) (by kernel_rfl) (by kernel_rfl) (fun _ _ _ h => h) (Or.inl ⟨by kernel_rfl, ?yx1_7⟩) hHeld ?zx1_7
        case yx1_7 => (intro wS hSw; (try dsimp only at hSw); go_simp; (try with_reducible rfl))
        try simp only [Act.put, List.setIfInBounds_toArray, List.set_cons_zero, List.set_cons_succ]
        refine take_at 7 (some 22) (v := ?vx1_8) rfl rfl (by kernel_rfl) (by kernel_rfl) (by kernel_rfl) (fun _ _ _ h => h) (Or.inl ⟨by kernel_rfl, ?yx1_8⟩) hHeld ?zx1_8
        case yx1_8 => (intro wS hSw; (try dsimp only at hSw); go_simp; (try with_reducible rfl))
        try simp only [Act.put, List.setIfInBounds_toArray, List.set_cons_zero, List.set_cons_succ]
        refine take_at 8 (some 23) (v := ?vx1_9) rfl rfl (by kernel_rfl) (by kernel_rfl) (by kernel_rfl) (fun _ _ _ h => h) (Or.inl ⟨by kernel_rfl, ?yx1_9⟩) hHeld ?zx1_9
        case yx1_9 => (intro wS hSw; (try dsimp only at hSw); go_simp; (try with_reducible rfl))
        try simp only [Act.put, List.setIfInBounds_toArray, List.set_cons_zero, List.set_cons_succ]
        refine take_at 9 (some 24) (v := ?vx1_10) rfl rfl (by kernel_rfl) (by kernel_rfl) (by kernel_rfl) (fun _ _ _ h => h) (Or.inl ⟨by kernel_rfl, ?yx1_10⟩) hHeld ?zx1_10
        case yx1_10 => (intro wS hSw; (try dsimp only at hSw); go_simp; (try with_reducible rfl))
        try simp only [Act.put, List.setIfInBounds_toArray, List.set_cons_zero, List.set_cons_succ]
        refine take_at 10 (some 25) (v := ?vx1_11) rfl rfl (by kernel_rfl) (by kernel_rfl) (by kernel_rfl) (fun _ _ _ h => h) (Or.inl ⟨by kernel_rfl, ?yx1_11⟩) hHeld ?zx1_11
        case yx1_11 => (intro wS hSw; (try dsimp only at hSw); go_simp; (try with_reducible rfl))
        try simp only [Act.put, List.setIfInBounds_toArray, List.set_cons_zero, List.set_cons_succ]
        refine take_at 11 (some 26) (v := ?vx1_12) rfl rfl (by kernel_rfl) (by kernel_rfl) (by kernel_rfl) (fun _ _ _ h => h) (Or.inl ⟨by kernel_rfl, ?yx1_12⟩) hHeld ?zx1_12
        case yx1_12 => (intro wS hSw; (try dsimp only at hSw); go_simp; (try with_reducible rfl))
        try simp only [Act.put, List.setIfInBounds_toArray, List.set_cons_zero, List.set_cons_succ]
        refine take_at 12 (some 27) (v := ?vx1_13) rfl rfl (by kernel_rfl) (by kernel_rfl) (by kernel_rfl) (fun _ _ _ h => h) (Or.inl ⟨by kernel_rfl, ?yx1_13⟩) hHeld ?zx1_13
        case yx1_13 => (intro wS hSw; (try dsimp only at hSw); go_simp; (try with_reducible rfl))
        try simp only [Act.put, List.setIfInBounds_toArray, List.set_cons_zero, List.set_cons_succ]
        refine wpAnyH_ready (rs := [13]) (by kernel_rfl) (by simp) ?_
        refine cons_at (some 28) rfl rfl (by kernel_rfl) (fun K hK => ?kx1_15) AllReadyH.nil
        go_simp
        (go_at_call 66; refine (HT.out _).mono ?_; rintro e w' ⟨rfl, hbel⟩)
        try go_wp2_with fail
        refine hK.out _ _ ?sx1_15 (fun hHeld => ?_)
        case sx1_15 => ((try dsimp only); first | exact keepB2 (by assumption) hbel | assumption)
        clear hK K
        try simp only [Act.put, List.setIfInBounds_toArray, List.set_cons_zero, List.set_cons_succ]
        refine take_at 14 (some 29) (v := ?vx1_16) rfl rfl (by kernel_rfl) (by kernel_rfl) (by kernel_rfl) (fun _ _ _ h => h) (Or.inl ⟨by kernel_rfl, ?yx1_16⟩) hHeld ?zx1_16
        case yx1_16 => (intro wS hSw; (try dsimp only at hSw); go_simp; (try with_reducible rfl))
        try simp only [Act.put, List.setIfInBounds_toArray, List.set_cons_zero, List.set_cons_succ]
        refine take_at 15 (some 3) (v := ?vx1_17) rfl rfl (by kernel_rfl) (by kernel_rfl) (by kernel_rfl) (fun _ _ _ h => h) (Or.inl ⟨by kernel_rfl, ?yx1_17⟩) hHeld ?zx1_17
        case yx1_17 => (intro wS hSw; (try dsimp only at hSw); go_simp; (try with_reducible rfl))
        try simp only [Act.put, List.setIfInBounds_toArray, List.set_cons_zero, List.set_cons_succ]
        refine wpAnyH_done (by kernel_rfl) ?_ _
        obtain ⟨hbW, -, -⟩ := hHeld
        have HBW := Lib.hid (HB.out.trans (hbW.mono HB.out.size)); clear hbW
        go_wp2
        go_roundw
        case rel => exact ⟨n + 1, by omega, by go_num, by rw [HOne.out h0, HO.out]; exact str_same3 _ _ _ _ _, HBW⟩
        case measure => simp [intOf]; omega
      · obtain rfl : n = 0 := by omega
        rw [Nat.zero_mul, Nat.add_zero] at c1 c2
        have HZ1 := Lib.hid (HZero.out rfl); clear HZero HOne
        have HS0 : Hid (txN xs 0 = ⟨#[]⟩) := Lib.hid rfl
        generalize txN xs 0 = s at *
        have hz1 : ¬ 9223372036854775807 < s.size + xn.size := by omega
        have hz2 : ¬ 9223372036854775807 < s.size + xn.size + 1 := by omega
        have hz3 : ¬ 9223372036854775807 < s.size + xn.size + 1 + t.size := by omega
        go_wp2_with fail
        refine wp_region_held_drew (S := (fun w' => Below wr.heap.size wr w' ∧ w'.cell? ⟨b, off, none⟩ = some (.string xn) ∧ w'.cell? ⟨b, off + 1, none⟩ = some (.int .i64 m))) (by kernel_rfl) ?rx2s (fun hHeld => ?rx20)
        case rx2s => ((try dsimp only); exact ⟨(Below.refl _ _).drew, c1, c2⟩)
        try simp only [Act.put, List.setIfInBounds_toArray, List.set_cons_zero, List.set_cons_succ]
        refine take_at 0 (some 15) (v := ?vx2_1) rfl rfl (by kernel_rfl) (by kernel_rfl) (by kernel_rfl) (fun _ _ _ h => h) (Or.inl ⟨by kernel_rfl, ?yx2_1⟩) hHeld ?zx2_1
        case yx2_1 => (intro wS hSw; (try dsimp only at hSw); go_simp; (try with_reducible rfl))
        try simp only [Act.put, List.setIfInBounds_toArray, List.set_cons_zero, List.set_cons_succ]
        refine take_at 1 (some 16) (v := ?vx2_2) rfl rfl (by kernel_rfl) (by kernel_rfl) (by kernel_rfl) (fun _ _ _ h => h) (Or.inl ⟨by kernel_rfl, ?yx2_2⟩) hHeld ?zx2_2
        case yx2_2 => (intro wS hSw; (try dsimp only at hSw); go_simp; (try with_reducible rfl))
        try simp only [Act.put, List.setIfInBounds_toArray, List.set_cons_zero, List.set_cons_succ]
        refine take_at 2 (some 17) (v := ?vx2_3) rfl rfl (by kernel_rfl) (by kernel_rfl) (by kernel_rfl) (fun _ _ _ h => h) (Or.inl ⟨by kernel_rfl, ?yx2_3⟩) hHeld ?zx2_3
        case yx2_3 => (intro wS hSw; (try dsimp only at hSw); go_simp; (try with_reducible rfl))
        try simp only [Act.put, List.setIfInBounds_toArray, List.set_cons_zero, List.set_cons_succ]
        refine take_at 3 (some 18) (v := ?vx2_4) rfl rfl (by kernel_rfl) (by kernel_rfl) (by kernel_rfl) (fun _ _ _ h => h) (Or.inl ⟨by kernel_rfl, ?yx2_4⟩) hHeld ?zx2_4
        case yx2_4 => (intro wS hSw; (try dsimp only at hSw); go_simp; (try with_reducible rfl))
        try simp only [Act.put, List.setIfInBounds_toArray, List.set_cons_zero, List.set_cons_succ]
        refine take_at 4 (some 19) (v := ?vx2_5) rfl rfl (by kernel_rfl) (by kernel_rfl) (by kernel_rfl) (fun _ _ _ h => h) (Or.inl ⟨by kernel_rfl, ?yx2_5⟩) hHeld ?zx2_5
        case yx2_5 => (intro wS hSw; (try dsimp only at hSw); go_simp; (try with_reducible rfl))
        try simp only [Act.put, List.setIfInBounds_toArray, List.set_cons_zero, List.set_cons_succ]
        refine take_at 5 (some 20) (v := ?vx2_6) rfl rfl (by kernel_rfl) (by kernel_rfl) (by kernel_rfl) (fun _ _ _ h => h) (Or.inl ⟨by kernel_rfl, ?yx2_6⟩) hHeld ?zx2_6
        case yx2_6 => (intro wS hSw; (try dsimp only at hSw); go_simp; (try with_reducible rfl))
        try simp only [Act.put, List.setIfInBounds_toArray, List.set_cons_zero, List.set_cons_succ]
        refine take_at 6 (some 21) (v := ?vx2_7) rfl rfl (by kernel_rfl) (by kernel_rfl) (by kernel_rfl) (fun _ _ _ h => h) (Or.inl ⟨by kernel_rfl, ?yx2_7⟩) hHeld ?zx2_7
        case yx2_7 => (intro wS hSw; (try dsimp only at hSw); go_simp; (try with_reducible rfl))
        try simp only [Act.put, List.setIfInBounds_toArray, List.set_cons_zero, List.set_cons_succ]
        refine take_at 7 (some 22) (v := ?vx2_8) rfl rfl (by kernel_rfl) (by kernel_rfl) (by kernel_rfl) (fun _ _ _ h => h) (Or.inl ⟨by kernel_rfl, ?yx2_8⟩) hHeld ?zx2_8
        case yx2_8 => (intro wS hSw; (try dsimp only at hSw); go_simp; (try with_reducible rfl))
        try simp only [Act.put, List.setIfInBounds_toArray, List.set_cons_zero, List.set_cons_succ]
        refine take_at 8 (some 23) (v := ?vx2_9) rfl rfl (by kernel_rfl) (by kernel_rfl) (by kernel_rfl) (fun _ _ _ h => h) (Or.inl ⟨by kernel_rfl, ?yx2_9⟩) hHeld ?zx2_9
        case yx2_9 => (intro wS hSw; (try dsimp only at hSw); go_simp; (try with_reducible rfl))
        try simp only [Act.put, List.setIfInBounds_toArray, List.set_cons_zero, List.set_cons_succ]
        refine take_at 9 (some 24) (v := ?vx2_10) rfl rfl (by kernel_rfl) (by kernel_rfl) (by kernel_rfl) (fun _ _ _ h => h) (Or.inl ⟨by kernel_rfl, ?yx2_10⟩) hHeld ?zx2_10
        case yx2_10 => (intro wS hSw; (try dsimp only at hSw); go_simp; (try with_reducible rfl))
        try simp only [Act.put, List.setIfInBounds_toArray, List.set_cons_zero, List.set_cons_succ]
        refine take_at 10 (some 25) (v := ?vx2_11) rfl rfl (by kernel_rfl) (by kernel_rfl) (by kernel_rfl) (fun _ _ _ h => h) (Or.inl ⟨by kernel_rfl, ?yx2_11⟩) hHeld ?zx2_11
        case yx2_11 => (intro wS hSw; (try dsimp only at hSw); go_simp; (try with_reducible rfl))
        try simp only [Act.put, List.setIfInBounds_toArray, List.set_cons_zero, List.set_cons_succ]
        refine take_at 11 (some 26) (v := ?vx2_12) rfl rfl (by kernel_rfl) (by kernel_rfl) (by kernel_rfl) (fun _ _ _ h => h) (Or.inl ⟨by kernel_rfl, ?yx2_12⟩) hHeld ?zx2_12
        case yx2_12 => (intro wS hSw; (try dsimp only at hSw); go_simp; (try with_reducible rfl))
        try simp only [Act.put, List.setIfInBounds_toArray, List.set_cons_zero, List.set_cons_succ]
        refine take_at 12 (some 27) (v := ?vx2_13) rfl rfl (by kernel_rfl) (by kernel_rfl) (by kernel_rfl) (fun _ _ _ h => h) (Or.inl ⟨by kernel_rfl, ?yx2_13⟩) hHeld ?zx2_13
        case yx2_13 => (intro wS hSw; (try dsimp only at hSw); go_simp; (try with_reducible rfl))
        try simp only [Act.put, List.setIfInBounds_toArray, List.set_cons_zero, List.set_cons_succ]
        refine wpAnyH_ready (rs := [13]) (by kernel_rfl) (by simp) ?_
        refine cons_at (some 28) rfl rfl (by kernel_rfl) (fun K hK => ?kx2_15) AllReadyH.nil
        go_simp
        (go_at_call 66; refine (HT.out _).mono ?_; rintro e w' ⟨rfl, hbel⟩)
        try go_wp2_with fail
        refine hK.out _ _ ?sx2_15 (fun hHeld => ?_)
        case sx2_15 => ((try dsimp only); first | exact keepB2 (by assumption) hbel | assumption)
        clear hK K
        try simp only [Act.put, List.setIfInBounds_toArray, List.set_cons_zero, List.set_cons_succ]
        refine take_at 14 (some 29) (v := ?vx2_16) rfl rfl (by kernel_rfl) (by kernel_rfl) (by kernel_rfl) (fun _ _ _ h => h) (Or.inl ⟨by kernel_rfl, ?yx2_16⟩) hHeld ?zx2_16
        case yx2_16 => (intro wS hSw; (try dsimp only at hSw); go_simp; (try with_reducible rfl))
        try simp only [Act.put, List.setIfInBounds_toArray, List.set_cons_zero, List.set_cons_succ]
        refine take_at 15 (some 3) (v := ?vx2_17) rfl rfl (by kernel_rfl) (by kernel_rfl) (by kernel_rfl) (fun _ _ _ h => h) (Or.inl ⟨by kernel_rfl, ?yx2_17⟩) hHeld ?zx2_17
        case yx2_17 => (intro wS hSw; (try dsimp only at hSw); go_simp; (try with_reducible rfl))
        try simp only [Act.put, List.setIfInBounds_toArray, List.set_cons_zero, List.set_cons_succ]
        refine wpAnyH_done (by kernel_rfl) ?_ _
        obtain ⟨hbW, -, -⟩ := hHeld
        have HBW := Lib.hid (HB.out.trans (hbW.mono HB.out.size)); clear hbW
        go_wp2
        go_roundw
        case rel => exact ⟨1, by omega, by go_num, by rw [HZ1.out, HO.out, HS0.out]; exact congrArg Value.string (ByteArray.ext (by simp)), HBW⟩
        case measure => simp [intOf]; omega
    · obtain rfl : n = xs.length := by omega
      go_wp2
      go_ret
      exact ⟨rfl, HB.out⟩
set_option maxRecDepth 100000 in
theorem specText_any (v : Value) (xs : List Ct) (w : World) (h : RdCt w v xs) (hS : ∀ x ∈ xs, x.nm.size ≤ 1048576) :
    Calls Tryz.prog 18 #[v] w fun e w' => e = .returned (.tuple #[.string (ctxV xs), .bool (ctB xs)]) ∧ Below w.heap.size w w' := by
  have HI := Lib.hid (l18Good_any v xs w h hS)
  have HR := Lib.hid h
  obtain ⟨p, cap, b, off, rfl, hcap, hp, hcell⟩ := h.parts
  clear hcell hp h
  cases hB : ctB xs
  · have HV : Hid (ctxV xs = ⟨#[]⟩) := Lib.hid (by rw [ctxV, hB]; rfl)
    rw [hB] at HI
    go_enter Tryz.func18, Tryz.ntmps18
    go_wp2_with fail
    refine HI.out.mono ?_
    rintro e w1 ⟨rfl, hb⟩
    have HB := Lib.hid hb; clear hb
    go_wp2
    refine bodyPost_ret (v := (.tuple #[.string ⟨#[]⟩, .bool false])) (by simp [results, Tryz.results18, go_sem, *]) rfl ?_
    exact ⟨by rw [HV.out], HB.out⟩
  · have HV : Hid (ctxV xs = txN xs xs.length) := Lib.hid (by rw [ctxV, if_pos hB])
    have HL := Lib.hid (fun w h => l18Text_any (.slice p xs.length cap) xs w h hB)
    rw [hB] at HI
    clear hB
    generalize txN xs xs.length = t at HV HL
    go_enter Tryz.func18, Tryz.ntmps18
    go_wp2_with fail
    refine HI.out.mono ?_
    rintro e w1 ⟨rfl, hb⟩
    have HB := Lib.hid hb; clear hb
    go_wp2_with fail
    refine (HL.out _ (HR.out.below HB.out)).mono ?_
    rintro e w2 ⟨rfl, hb2⟩
    have HB2 := Lib.hid (HB.out.trans (hb2.mono HB.out.size)); clear hb2
    go_wp2
    refine bodyPost_ret (v := (.tuple #[.string t, .bool true])) (by simp [results, Tryz.results18, go_sem, *]) rfl ?_
    exact ⟨by rw [HV.out], HB2.out⟩
end Go.Proofs.YtmochhgmhhopoaaGreatDoor
