/- Contract: the library's symMergeCmpFunc on events where the second of the two parts has one element, the first has not: it is put in its place. Condition: at most 1000 events. -/
import Derived.Test.YtohbkohidpgjpaaGreatDoorEvSm1
namespace Go.Proofs.YtohbkohidpgjpaaGreatDoor
open Go.RowKit

set_option maxRecDepth 100000 in
set_option maxHeartbeats 4000000 in
theorem symM_last (g n cap B : Nat) (X U Y : List Ev) (x : Ev) (a m b : Nat) (w : World) (hO : Arr B w g n cap (X ++ (U ++ ([x] ++ Y)))) (ha : X.length = a) (hm : a + U.length = m) (hb : m + 1 = b) (hU : Srt Ev.t U) (hU1 : U.length ≠ 1) (hn : n ≤ 1000) (hBw : B ≤ w.heap.size) :
    Calls Tryz.prog 77 #[.slice (some ⟨g, 0, none⟩) n cap, .int .i64 a, .int .i64 m, .int .i64 b, mtF] w fun e w' => SmQ B g n cap X U [x] Y e w w' := by
  have hlen := hO.2
  simp only [List.length_append, List.length_cons, List.length_nil] at hlen
  have hge := hO.ge
  have hcap := hO.le
  have hO2 : Arr B w g n cap (arr X U x U.length Y) := by rw [arr, slot_end, List.append_assoc]; exact hO
  have HO := Lib.hid hO2; clear hO hO2
  have HU := Lib.hid hU; clear hU
  obtain ⟨L, hL⟩ : ∃ L, U.length = L := ⟨_, rfl⟩
  rw [hL] at hm hlen hU1 HO
  have hbn : b ≤ n := by omega
  have HL := Lib.hid (And.intro ha hL); clear ha hL
  clear hlen
  obtain ⟨xt, xn, xk, xm⟩ := x
  have e0 : (m : Int) - a = L := by omega
  have hL1 : ((L : Int) == 1) = false := by simp; omega
  have e1 : (b : Int) - m = 1 := by omega
  go_enter Tryz.func77, Tryz.ntmps77
  go_wp2
  go_loopw [14, 15, 16] (fun i j _ wr => ∃ s r : Nat, s ≤ r ∧ r ≤ L ∧ i = .int .i64 (a + s : Nat) ∧ j = .int .i64 (a + r : Nat) ∧ Hid (Arr B wr g n cap (arr X U ⟨xt, xn, xk, xm⟩ L Y)) ∧ Hid (BkL U xt s) ∧ Hid (BkR U xt r) ∧ Hid (Below B w wr))
    (fun i j _ _ => (intOf j).toNat - (intOf i).toNat)
  case atStart => exact ⟨0, L, Nat.zero_le _, Nat.le_refl _, rfl, by rw [hm], HO, Lib.hid (fun y h => absurd h (by omega)), Lib.hid (fun y h => by rw [List.getElem?_eq_none (by have := HL.out; omega)] at h; cases h), Lib.hid (Below.refl _ _)⟩
  case round =>
    clear HO
    obtain ⟨s, r, hsr, hrL, rfl, rfl, HA, HF, HR, HB⟩ := hrel
    have hzb := HB.out.size
    obtain ⟨lo, hlo⟩ : ∃ lo, a + s = lo := ⟨_, rfl⟩
    obtain ⟨hi, hhi⟩ : ∃ hi, a + r = hi := ⟨_, rfl⟩
    rw [hlo, hhi]
    by_cases hlt : lo < hi
    · obtain ⟨hm1, hm2⟩ := half_mid hlt
      obtain ⟨M, hM⟩ : ∃ M, M = (lo + hi) / 2 := ⟨_, rfl⟩
      rw [← hM] at hm1 hm2
      obtain ⟨q, hq⟩ : ∃ q, a + q = M := ⟨M - a, by omega⟩
      have hdiv : ((lo : Int) + hi) / 2 = M := by omega
      clear hM
      obtain ⟨⟨yt, yn, yk, ym⟩, hy⟩ : ∃ y, U[q]? = some y := ⟨_, List.getElem?_eq_getElem (by have := HL.out; omega)⟩
      have p1 := arr_at (A := X) (S := U) (x := ⟨xt, xn, xk, xm⟩) (k := L) (D := Y) (by have := HL.out; omega)
      rw [HL.out.1, hm] at p1
      have p2 : (arr X U ⟨xt, xn, xk, xm⟩ L Y)[M]? = some ⟨yt, yn, yk, ym⟩ := by
        rw [← hq, ← HL.out.1, ← HL.out.2, arr, slot_end, List.getElem?_append_right (by omega), Nat.add_sub_cancel_left, List.append_assoc, List.getElem?_append_left (by have := HL.out; omega)]
        exact hy
      obtain ⟨c0, c1, c2, c3⟩ := HA.out.cells p1
      obtain ⟨c4, c5, c6, c7⟩ := HA.out.cells p2
      clear p1 p2
      have HY := Lib.hid hy; clear hy
      have hMn : (M : Int) < (n : Int) := by omega
      have han : (m : Int) < (n : Int) := by omega
      have HT := Lib.hid (fun w => mtC_any ⟨xt, xn, xk, xm⟩ ⟨yt, yn, yk, ym⟩ w)
      by_cases hgt : xt < yt
      · have HCmp : Hid (cmpI xt yt = -1) := Lib.hid (cmpI_neg hgt)
        rw [show cmpI (Ev.t ⟨xt, xn, xk, xm⟩) (Ev.t ⟨yt, yn, yk, ym⟩) = -1 from HCmp.out] at HT
        go_wp2_with fail
        refine wp_region_held_drew (S := (fun w' => Below wr.heap.size wr w' ∧ w'.cell? ⟨g, m * 4, none⟩ = some (.int .i64 xt) ∧ w'.cell? ⟨g, m * 4 + 1, none⟩ = some (.int .i64 xn) ∧ w'.cell? ⟨g, m * 4 + 2, none⟩ = some (.int .i64 xk) ∧ w'.cell? ⟨g, m * 4 + 3, none⟩ = some (.int .i64 xm) ∧ w'.cell? ⟨g, M * 4, none⟩ = some (.int .i64 yt) ∧ w'.cell? ⟨g, M * 4 + 1, none⟩ = some (.int .i64 yn) ∧ w'.cell? ⟨g, M * 4 + 2, none⟩ = some (.int .i64 yk) ∧ w'.cell? ⟨g, M * 4 + 3, none⟩ = some (.int .i64 ym))) (by kernel_rfl) ?rx16s (fun hHeld => ?rx160)
        case rx16s => ((try dsimp only); exact ⟨(Below.refl _ _).drew, c0, c1, c2, c3, c4, c5, c6, c7⟩)
        try simp only [Act.put, List.setIfInBounds_toArray, List.set_cons_zero, List.set_cons_succ]
        refine take_at 0 (some 92) (v := ?vx16_1) rfl rfl (by kernel_rfl) (by kernel_rfl) (by kernel_rfl) (fun _ _ _ h => h) (Or.inl ⟨by kernel_rfl, ?yx16_1⟩) hHeld ?zx16_1
        case yx16_1 => (intro wS hSw; (try dsimp only at hSw); go_simp; (try with_reducible rfl))
        try simp only [Act.put, List.setIfInBounds_toArray, List.set_cons_zero, List.set_cons_succ]
        refine take_at 1 (some 93) (v := ?vx16_2) rfl rfl (by kernel_rfl) (by kernel_rfl) (by kernel_rfl) (fun _ _ _ h => h) (Or.inl ⟨by kernel_rfl, ?yx16_2⟩) hHeld ?zx16_2
        case yx16_2 => (intro wS hSw; (try dsimp only at hSw); go_simp; (try with_reducible rfl))
        try simp only [Act.put, List.setIfInBounds_toArray, List.set_cons_zero, List.set_cons_succ]
        refine take_at 2 (some 94) (v := ?vx16_3) rfl rfl (by kernel_rfl) (by kernel_rfl) (by kernel_rfl) (fun _ _ _ h => h) (Or.inl ⟨by kernel_rfl, ?yx16_3⟩) hHeld ?zx16_3
        case yx16_3 => (intro wS hSw; (try dsimp only at hSw); go_simp; (try with_reducible rfl))
        try simp only [Act.put, List.setIfInBounds_toArray, List.set_cons_zero, List.set_cons_succ]
        refine take_at 3 (some 95) (v := ?vx16_4) rfl rfl (by kernel_rfl) (by kernel_rfl) (by kernel_rfl) (fun _ _ _ h => h) (Or.inl ⟨by kernel_rfl, ?yx16_4⟩) hHeld ?zx16_4
        case yx16_4 => (intro wS hSw; (try dsimp only at hSw); go_simp; (try with_reducible rfl))
        try simp only [Act.put, List.setIfInBounds_toArray, List.set_cons_zero, List.set_cons_succ]
        refine take_at 4 (some 96) (v := ?vx16_5) rfl rfl (by kernel_rfl) (by kernel_rfl) (by kernel_rfl) (fun _ _ _ h => h) (Or.inl ⟨by kernel_rfl, ?yx16_5⟩) hHeld ?zx16_5
        case yx16_5 => (intro wS hSw; (try dsimp only at hSw); go_simp; (try with_reducible rfl))
        try simp only [Act.put, List.setIfInBounds_toArray, List.set_cons_zero, List.set_cons_succ]
        refine take_at 5 (some 97) (v := ?vx16_6) rfl rfl (by kernel_rfl) (by kernel_rfl) (by kernel_rfl) (fun _ _ _ h => h) (Or.inl ⟨by kernel_rfl, ?yx16_6⟩) hHeld ?zx16_6
        case yx16_6 => (intro wS hSw; (try dsimp only at hSw); go_simp; (try with_reducible rfl))
        try simp only [Act.put, List.setIfInBounds_toArray, List.set_cons_zero, List.set_cons_succ]
        refine take_at 6 (some 98) (v := ?vx16_7) rfl rfl (by kernel_rfl) (by kernel_rfl) (by kernel_rfl) (fun _ _ _ h => h) (Or.inl ⟨by kernel_rfl, ?yx16_7⟩) hHeld ?zx16_7
        case yx16_7 => (intro wS hSw; (try dsimp only at hSw); go_simp; (try with_reducible rfl))
        try simp only [Act.put, List.setIfInBounds_toArray, List.set_cons_zero, List.set_cons_succ]
        refine take_at 7 (some 99) (v := ?vx16_8) rfl rfl (by kernel_rfl) (by kernel_rfl) (by kernel_rfl) (fun _ _ _ h => h) (Or.inl ⟨by kernel_rfl, ?yx16_8⟩) hHeld ?zx16_8
        case yx16_8 => (intro wS hSw; (try dsimp only at hSw); go_simp; (try with_reducible rfl))
        try simp only [Act.put, List.setIfInBounds_toArray, List.set_cons_zero, List.set_cons_succ]
        refine take_at 8 (some 100) (v := ?vx16_9) rfl rfl (by kernel_rfl) (by kernel_rfl) (by kernel_rfl) (fun _ _ _ h => h) (Or.inl ⟨by kernel_rfl, ?yx16_9⟩) hHeld ?zx16_9
        case yx16_9 => (intro wS hSw; (try dsimp only at hSw); go_simp; (try with_reducible rfl))
        try simp only [Act.put, List.setIfInBounds_toArray, List.set_cons_zero, List.set_cons_succ]
        refine wpAnyH_ready (rs := [9]) (by kernel_rfl) (by simp) ?_
        refine cons_at (some 101) rfl rfl (by kernel_rfl) (fun K hK => ?kx16_11) AllReadyH.nil
        go_simp
        (go_at_call 42; refine (HT.out _).mono ?_; rintro e w' ⟨rfl, hbel⟩)
        try go_wp2_with fail
        refine hK.out _ _ ?sx16_11 (fun hHeld => ?_)
        case sx16_11 => ((try dsimp only); first | exact keepB8 (by assumption) hbel | assumption)
        clear hK K
        try simp only [Act.put, List.setIfInBounds_toArray, List.set_cons_zero, List.set_cons_succ]
        refine take_at 10 (some 102) (v := ?vx16_12) rfl rfl (by kernel_rfl) (by kernel_rfl) (by kernel_rfl) (fun _ _ _ h => h) (Or.inl ⟨by kernel_rfl, ?yx16_12⟩) hHeld ?zx16_12
        case yx16_12 => (intro wS hSw; (try dsimp only at hSw); go_simp; (try with_reducible rfl))
        try simp only [Act.put, List.setIfInBounds_toArray, List.set_cons_zero, List.set_cons_succ]
        refine take_at 11 (some 103) (v := ?vx16_13) rfl rfl (by kernel_rfl) (by kernel_rfl) (by kernel_rfl) (fun _ _ _ h => h) (Or.inl ⟨by kernel_rfl, ?yx16_13⟩) hHeld ?zx16_13
        case yx16_13 => (intro wS hSw; (try dsimp only at hSw); go_simp; (try with_reducible rfl))
        try simp only [Act.put, List.setIfInBounds_toArray, List.set_cons_zero, List.set_cons_succ]
        refine wpAnyH_done (by kernel_rfl) ?_ _
        obtain ⟨hbW, -, -, -, -, -, -, -, -⟩ := hHeld
        have HA2 := Lib.hid (HA.out.below hbW)
        have HB2 := Lib.hid (HB.out.trans (hbW.mono (by omega))); clear hbW
        clear c0 c1 c2 c3 c4 c5 c6 c7
        go_wp2
        go_roundw
        case rel => exact ⟨s, q, by omega, by omega, by rw [hlo], by rw [hq], HA2, HF, Lib.hid (fun y h => by rw [HY.out] at h; cases h; exact hgt), HB2⟩
        case measure => simp [intOf] <;> omega
      · obtain ⟨cc, hc, hc0⟩ : ∃ c, cmpI xt yt = c ∧ ¬ c < 0 := ⟨_, rfl, cmpI_not hgt⟩
        rw [show cmpI (Ev.t ⟨xt, xn, xk, xm⟩) (Ev.t ⟨yt, yn, yk, ym⟩) = cc from hc] at HT
        have hc2 : decide (cc < 0) = false := decide_eq_false hc0
        clear hc
        go_wp2_with fail
        refine wp_region_held_drew (S := (fun w' => Below wr.heap.size wr w' ∧ w'.cell? ⟨g, m * 4, none⟩ = some (.int .i64 xt) ∧ w'.cell? ⟨g, m * 4 + 1, none⟩ = some (.int .i64 xn) ∧ w'.cell? ⟨g, m * 4 + 2, none⟩ = some (.int .i64 xk) ∧ w'.cell? ⟨g, m * 4 + 3, none⟩ = some (.int .i64 xm) ∧ w'.cell? ⟨g, M * 4, none⟩ = some (.int .i64 yt) ∧ w'.cell? ⟨g, M * 4 + 1, none⟩ = some (.int .i64 yn) ∧ w'.cell? ⟨g, M * 4 + 2, none⟩ = some (.int .i64 yk) ∧ w'.cell? ⟨g, M * 4 + 3, none⟩ = some (.int .i64 ym))) (by kernel_rfl) ?rx17s (fun hHeld => ?rx170)
        case rx17s => ((try dsimp only); exact ⟨(Below.refl _ _).drew, c0, c1, c2, c3, c4, c5, c6, c7⟩)
        try simp only [Act.put, List.setIfInBounds_toArray, List.set_cons_zero, List.set_cons_succ]
        refine take_at 0 (some 92) (v := ?vx17_1) rfl rfl (by kernel_rfl) (by kernel_rfl) (by kernel_rfl) (fun _ _ _ h => h) (Or.inl ⟨by kernel_rfl, ?yx17_1⟩) hHeld ?zx17_1
        case yx17_1 => (intro wS hSw; (try dsimp only at hSw); go_simp; (try with_reducible rfl))
        try simp only [Act.put, List.setIfInBounds_toArray, List.set_cons_zero, List.set_cons_succ]
        refine take_at 1 (some 93) (v := ?vx17_2) rfl rfl (by kernel_rfl) (by kernel_rfl) (by kernel_rfl) (fun _ _ _ h => h) (Or.inl ⟨by kernel_rfl, ?yx17_2⟩) hHeld ?zx17_2
        case yx17_2 => (intro wS hSw; (try dsimp only at hSw); go_simp; (try with_reducible rfl))
        try simp only [Act.put, List.setIfInBounds_toArray, List.set_cons_zero, List.set_cons_succ]
        refine take_at 2 (some 94) (v := ?vx17_3) rfl rfl (by kernel_rfl) (by kernel_rfl) (by kernel_rfl) (fun _ _ _ h => h) (Or.inl ⟨by kernel_rfl, ?yx17_3⟩) hHeld ?zx17_3
        case yx17_3 => (intro wS hSw; (try dsimp only at hSw); go_simp; (try with_reducible rfl))
        try simp only [Act.put, List.setIfInBounds_toArray, List.set_cons_zero, List.set_cons_succ]
        refine take_at 3 (some 95) (v := ?vx17_4) rfl rfl (by kernel_rfl) (by kernel_rfl) (by kernel_rfl) (fun _ _ _ h => h) (Or.inl ⟨by kernel_rfl, ?yx17_4⟩) hHeld ?zx17_4
        case yx17_4 => (intro wS hSw; (try dsimp only at hSw); go_simp; (try with_reducible rfl))
        try simp only [Act.put, List.setIfInBounds_toArray, List.set_cons_zero, List.set_cons_succ]
        refine take_at 4 (some 96) (v := ?vx17_5) rfl rfl (by kernel_rfl) (by kernel_rfl) (by kernel_rfl) (fun _ _ _ h => h) (Or.inl ⟨by kernel_rfl, ?yx17_5⟩) hHeld ?zx17_5
        case yx17_5 => (intro wS hSw; (try dsimp only at hSw); go_simp; (try with_reducible rfl))
        try simp only [Act.put, List.setIfInBounds_toArray, List.set_cons_zero, List.set_cons_succ]
        refine take_at 5 (some 97) (v := ?vx17_6) rfl rfl (by kernel_rfl) (by kernel_rfl) (by kernel_rfl) (fun _ _ _ h => h) (Or.inl ⟨by kernel_rfl, ?yx17_6⟩) hHeld ?zx17_6
        case yx17_6 => (intro wS hSw; (try dsimp only at hSw); go_simp; (try with_reducible rfl))
        try simp only [Act.put, List.setIfInBounds_toArray, List.set_cons_zero, List.set_cons_succ]
        refine take_at 6 (some 98) (v := ?vx17_7) rfl rfl (by kernel_rfl) (by kernel_rfl) (by kernel_rfl) (fun _ _ _ h => h) (Or.inl ⟨by kernel_rfl, ?yx17_7⟩) hHeld ?zx17_7
        case yx17_7 => (intro wS hSw; (try dsimp only at hSw); go_simp; (try with_reducible rfl))
        try simp only [Act.put, List.setIfInBounds_toArray, List.set_cons_zero, List.set_cons_succ]
        refine take_at 7 (some 99) (v := ?vx17_8) rfl rfl (by kernel_rfl) (by kernel_rfl) (by kernel_rfl) (fun _ _ _ h => h) (Or.inl ⟨by kernel_rfl, ?yx17_8⟩) hHeld ?zx17_8
        case yx17_8 => (intro wS hSw; (try dsimp only at hSw); go_simp; (try with_reducible rfl))
        try simp only [Act.put, List.setIfInBounds_toArray, List.set_cons_zero, List.set_cons_succ]
        refine take_at 8 (some 100) (v := ?vx17_9) rfl rfl (by kernel_rfl) (by kernel_rfl) (by kernel_rfl) (fun _ _ _ h => h) (Or.inl ⟨by kernel_rfl, ?yx17_9⟩) hHeld ?zx17_9
        case yx17_9 => (intro wS hSw; (try dsimp only at hSw); go_simp; (try with_reducible rfl))
        try simp only [Act.put, List.setIfInBounds_toArray, List.set_cons_zero, List.set_cons_succ]
        refine wpAnyH_ready (rs := [9]) (by kernel_rfl) (by simp) ?_
        refine cons_at (some 101) rfl rfl (by kernel_rfl) (fun K hK => ?kx17_11) AllReadyH.nil
        go_simp
        (go_at_call 42; refine (HT.out _).mono ?_; rintro e w' ⟨rfl, hbel⟩)
        try go_wp2_with fail
        refine hK.out _ _ ?sx17_11 (fun hHeld => ?_)
        case sx17_11 => ((try dsimp only); first | exact keepB8 (by assumption) hbel | assumption)
        clear hK K
        try simp only [Act.put, List.setIfInBounds_toArray, List.set_cons_zero, List.set_cons_succ]
        refine take_at 10 (some 102) (v := ?vx17_12) rfl rfl (by kernel_rfl) (by kernel_rfl) (by kernel_rfl) (fun _ _ _ h => h) (Or.inl ⟨by kernel_rfl, ?yx17_12⟩) hHeld ?zx17_12
        case yx17_12 => (intro wS hSw; (try dsimp only at hSw); go_simp; (try with_reducible rfl))
        try simp only [Act.put, List.setIfInBounds_toArray, List.set_cons_zero, List.set_cons_succ]
        refine take_at 11 (some 103) (v := ?vx17_13) rfl rfl (by kernel_rfl) (by kernel_rfl) (by kernel_rfl) (fun _ _ _ h => h) (Or.inl ⟨by kernel_rfl, ?yx17_13⟩) hHeld ?zx17_13
        case yx17_13 => (intro wS hSw; (try dsimp only at hSw); go_simp; (try with_reducible rfl))
        try simp only [Act.put, List.setIfInBounds_toArray, List.set_cons_zero, List.set_cons_succ]
        refine wpAnyH_done (by kernel_rfl) ?_ _
        obtain ⟨hbW, -, -, -, -, -, -, -, -⟩ := hHeld
        have HA2 := Lib.hid (HA.out.below hbW)
        have HB2 := Lib.hid (HB.out.trans (hbW.mono (by omega))); clear hbW
        clear c0 c1 c2 c3 c4 c5 c6 c7
        go_wp2
        go_roundw
        case rel => exact ⟨q + 1, r, by omega, hrL, by rw [← Nat.add_assoc, hq]; go_num, by rw [hhi], HA2, Lib.hid (fun y _ h => by rw [Nat.add_sub_cancel, HY.out] at h; cases h; exact hgt), HR, HB2⟩
        case measure => simp [intOf] <;> omega
    · obtain rfl : hi = lo := by omega
      obtain rfl : r = s := by omega
      have HSt := Lib.hid (slot_back (u := (⟨xt, xn, xk, xm⟩ : Ev)) HU.out HF.out HR.out (by have := HL.out; omega))
      clear HF HR HU
      go_wp2
      go_loopw [17] (fun k wr2 => ∃ q : Nat, r ≤ q ∧ q ≤ L ∧ k = .int .i64 (a + q : Nat) ∧ Hid (Arr B wr2 g n cap (arr X U ⟨xt, xn, xk, xm⟩ q Y)) ∧ Hid (Below B w wr2))
        (fun k _ => (intOf k).toNat)
      case atStart => exact ⟨L, hrL, Nat.le_refl _, by rw [hm], HA, HB⟩
      case round =>
        clear HA HB hzb
        obtain ⟨q, hqr, hqL, rfl, HA, HB⟩ := hrel
        have hzb := HB.out.size
        by_cases hlt2 : r < q
        · obtain ⟨q, rfl⟩ : ∃ p, q = p + 1 := ⟨q - 1, by omega⟩
          obtain ⟨J, hJ⟩ : ∃ J, a + q = J := ⟨_, rfl⟩
          obtain ⟨⟨yt, yn, yk, ym⟩, hy⟩ : ∃ y, U[q]? = some y := ⟨_, List.getElem?_eq_getElem (by have := HL.out; omega)⟩
          have p1 := arr_at (A := X) (S := U) (x := ⟨xt, xn, xk, xm⟩) (k := q + 1) (D := Y) (by have := HL.out; omega)
          have p2 := arr_lo (A := X) (x := (⟨xt, xn, xk, xm⟩ : Ev)) (D := Y) hy
          have p3 := arr_down (A := X) (x := (⟨xt, xn, xk, xm⟩ : Ev)) (D := Y) hy
          rw [← Nat.add_assoc, HL.out.1, hJ] at p1 p3
          rw [HL.out.1, hJ] at p2
          rw [← Nat.add_assoc, hJ]
          clear hy
          have hk2 : (J : Int) + 1 < (n : Int) := by omega
          have hk3 : (J : Int) < (n : Int) := by omega
          have hk1 : (0 : Int) ≤ (J : Int) + 1 := by omega
          have hk4 : IntKind.i64.wrap (J : Int) = (J : Int) := by rw [IntKind.wrap_i64]; omega
          have hk6 : (hi : Int) < (J : Int) + 1 := by omega
          obtain ⟨c0, c1, c2, c3⟩ := HA.out.cells p1
          obtain ⟨c4, c5, c6, c7⟩ := HA.out.cells p2
          have hs := HA.out.set (k := J + 1) ⟨yt, yn, yk, ym⟩ (by omega)
          have f0 := HA.out.frozen ((J + 1) * 4)
          have f1 := HA.out.frozen ((J + 1) * 4 + 1)
          have f2 := HA.out.frozen ((J + 1) * 4 + 2)
          have f3 := HA.out.frozen ((J + 1) * 4 + 3)
          have hs2 := hs.1.set (k := J) ⟨xt, xn, xk, xm⟩ (by omega)
          obtain ⟨d0, d1, d2, d3⟩ := hs.1.cells (k := J) (x := ⟨yt, yn, yk, ym⟩) (by rw [List.getElem?_set_ne (by omega)]; exact p2)
          have h0 := hs.1.frozen ((J) * 4)
          have h1 := hs.1.frozen ((J) * 4 + 1)
          have h2 := hs.1.frozen ((J) * 4 + 2)
          have h3 := hs.1.frozen ((J) * 4 + 3)
          rw [p3] at hs2
          have HS2 := Lib.hid hs2; clear hs2
          have HS1 := Lib.hid hs; clear hs
          simp only [set4] at d0 d1 d2 d3 h0 h1 h2 h3 HS1 HS2
          clear p1 p2 p3 HA
          go_wp2
          go_region
          go_wp2
          go_roundw
          case rel =>
            exact ⟨q, by omega, by omega, by rw [hJ], Lib.hid (HS2.out.1.below (Below.refl _ _).drew), Lib.hid ((HB.out.grown (grown_trans HS1.out.2 HS2.out.2) (by omega) (fun j hj => by cases hj; exact hge)).drew)⟩
          case measure => simp [intOf] <;> omega
        · obtain rfl : q = r := by omega
          rw [hhi]
          have hk6 : ¬ (hi : Int) < hi := by omega
          go_wp2
          refine bodyPost_ret (v := (.tuple #[])) (by simp [results, Tryz.results77, go_sem, *]) rfl ?_
          exact ⟨rfl, ⟨_, HA.out, HSt.out, by rw [slot_len, HL.out.2]; rfl⟩, HB.out⟩
end Go.Proofs.YtohbkohidpgjpaaGreatDoor
