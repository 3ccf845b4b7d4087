/- Contract: the library's symMergeCmpFunc on events where one of the two parts has one element: it is put in its place. Condition: at most 1000 events. -/
import Derived.Test.YtohbkohidpgjpaaGreatDoorEvRot
namespace Go.Proofs.YtohbkohidpgjpaaGreatDoor
open Go.RowKit

theorem half_mid {lo hi : Nat} (h : lo < hi) : lo ≤ (lo + hi) / 2 ∧ (lo + hi) / 2 < hi := by omega
/-- what a call of the merge is asked -/
def SmQ (B g n cap : Nat) (X U V Y : List Ev) (e : Ending) (w w' : World) : Prop :=
  e = .returned (.tuple #[]) ∧ (∃ M, Arr B w' g n cap (X ++ (M ++ Y)) ∧ Stb Ev.t (U ++ V) M ∧ M.length = U.length + V.length) ∧ Below B w w'
/-- the two halves of the search for one element's place -/
def FrL (V : List Ev) (u : Int) (s : Nat) : Prop := ∀ y, 0 < s → V[s - 1]? = some y → y.t < u
def FrR (V : List Ev) (u : Int) (s : Nat) : Prop := ∀ y, V[s]? = some y → u ≤ y.t
def BkL (V : List Ev) (u : Int) (s : Nat) : Prop := ∀ y, 0 < s → V[s - 1]? = some y → y.t ≤ u
def BkR (V : List Ev) (u : Int) (s : Nat) : Prop := ∀ y, V[s]? = some y → u < y.t
set_option maxRecDepth 100000 in
set_option maxHeartbeats 4000000 in
theorem symM_one (g n cap B : Nat) (X V Y : List Ev) (u : Ev) (a m b : Nat) (w : World) (hO : Arr B w g n cap (X ++ ([u] ++ (V ++ Y)))) (ha : X.length = a) (hm : a + 1 = m) (hb : m + V.length = b) (hV : Srt Ev.t V) (hn : n ≤ 1000) (hBw : B ≤ w.heap.size) :
    Calls Tryz.prog 77 #[.slice (some ⟨g, 0, none⟩) n cap, .int .i64 a, .int .i64 m, .int .i64 b, mtF] w fun e w' => SmQ B g n cap X [u] V Y e w w' := by
  have hlen := hO.2
  simp only [List.length_append, List.length_cons, List.length_nil] at hlen
  have hge := hO.ge
  have hcap := hO.le
  have hO2 : Arr B w g n cap (arr X V u 0 Y) := hO
  have HO := Lib.hid hO2; clear hO hO2
  have HV := Lib.hid hV; clear hV
  obtain ⟨L, hL⟩ : ∃ L, V.length = L := ⟨_, rfl⟩
  rw [hL] at hb hlen
  have hbn : b ≤ n := by omega
  have HL := Lib.hid (And.intro ha hL); clear ha hL
  clear hlen
  obtain ⟨xt, xn, xk, xm⟩ := u
  have e1 : (m : Int) - a = 1 := by omega
  go_enter Tryz.func77, Tryz.ntmps77
  go_wp2
  go_loopw [10, 11, 12] (fun i j _ wr => ∃ s r : Nat, s ≤ r ∧ r ≤ L ∧ i = .int .i64 (m + s : Nat) ∧ j = .int .i64 (m + r : Nat) ∧ Hid (Arr B wr g n cap (arr X V ⟨xt, xn, xk, xm⟩ 0 Y)) ∧ Hid (FrL V xt s) ∧ Hid (FrR V xt r) ∧ Hid (Below B w wr))
    (fun i j _ _ => (intOf j).toNat - (intOf i).toNat)
  case atStart => exact ⟨0, L, Nat.zero_le _, Nat.le_refl _, rfl, by rw [hb], HO, Lib.hid (fun y h => absurd h (by omega)), Lib.hid (fun y h => by rw [List.getElem?_eq_none (by have := HL.out; omega)] at h; cases h), Lib.hid (Below.refl _ _)⟩
  case round =>
    clear HO
    obtain ⟨s, r, hsr, hrL, rfl, rfl, HA, HF, HR, HB⟩ := hrel
    have hzb := HB.out.size
    obtain ⟨lo, hlo⟩ : ∃ lo, m + s = lo := ⟨_, rfl⟩
    obtain ⟨hi, hhi⟩ : ∃ hi, m + r = hi := ⟨_, rfl⟩
    rw [hlo, hhi]
    by_cases hlt : lo < hi
    · obtain ⟨hm1, hm2⟩ := half_mid hlt
      obtain ⟨M, hM⟩ : ∃ M, M = (lo + hi) / 2 := ⟨_, rfl⟩
      rw [← hM] at hm1 hm2
      obtain ⟨q, hq⟩ : ∃ q, m + q = M := ⟨M - m, by omega⟩
      have hdiv : ((lo : Int) + hi) / 2 = M := by omega
      clear hM
      obtain ⟨⟨yt, yn, yk, ym⟩, hy⟩ : ∃ y, V[q]? = some y := ⟨_, List.getElem?_eq_getElem (by have := HL.out; omega)⟩
      have p1 := arr_at (A := X) (S := V) (x := ⟨xt, xn, xk, xm⟩) (k := 0) (D := Y) (Nat.zero_le _)
      rw [HL.out.1, Nat.add_zero] at p1
      have p2 : (arr X V ⟨xt, xn, xk, xm⟩ 0 Y)[M]? = some ⟨yt, yn, yk, ym⟩ := by
        rw [← hq, ← hm, ← HL.out.1, arr, List.getElem?_append_right (by omega), slot_zero, show X.length + 1 + q - X.length = q + 1 from by omega, List.cons_append, List.getElem?_cons_succ, List.getElem?_append_left (by have := HL.out; omega)]
        exact hy
      obtain ⟨c0, c1, c2, c3⟩ := HA.out.cells p2
      obtain ⟨c4, c5, c6, c7⟩ := HA.out.cells p1
      clear p1 p2
      have HY := Lib.hid hy; clear hy
      have hMn : (M : Int) < (n : Int) := by omega
      have han : (a : Int) < (n : Int) := by omega
      have HT := Lib.hid (fun w => mtC_any ⟨yt, yn, yk, ym⟩ ⟨xt, xn, xk, xm⟩ w)
      by_cases hgt : yt < xt
      · have HCmp : Hid (cmpI yt xt = -1) := Lib.hid (cmpI_neg hgt)
        rw [show cmpI (Ev.t ⟨yt, yn, yk, ym⟩) (Ev.t ⟨xt, xn, xk, xm⟩) = -1 from HCmp.out] at HT
        go_wp2_with fail
        refine wp_region_held_drew (S := (fun w' => Below wr.heap.size wr w' ∧ w'.cell? ⟨g, M * 4, none⟩ = some (.int .i64 yt) ∧ w'.cell? ⟨g, M * 4 + 1, none⟩ = some (.int .i64 yn) ∧ w'.cell? ⟨g, M * 4 + 2, none⟩ = some (.int .i64 yk) ∧ w'.cell? ⟨g, M * 4 + 3, none⟩ = some (.int .i64 ym) ∧ w'.cell? ⟨g, a * 4, none⟩ = some (.int .i64 xt) ∧ w'.cell? ⟨g, a * 4 + 1, none⟩ = some (.int .i64 xn) ∧ w'.cell? ⟨g, a * 4 + 2, none⟩ = some (.int .i64 xk) ∧ w'.cell? ⟨g, a * 4 + 3, none⟩ = some (.int .i64 xm))) (by kernel_rfl) ?rx14s (fun hHeld => ?rx140)
        case rx14s => ((try dsimp only); exact ⟨(Below.refl _ _).drew, c0, c1, c2, c3, c4, c5, c6, c7⟩)
        try simp only [Act.put, List.setIfInBounds_toArray, List.set_cons_zero, List.set_cons_succ]
        refine take_at 0 (some 40) (v := ?vx14_1) rfl rfl (by kernel_rfl) (by kernel_rfl) (by kernel_rfl) (fun _ _ _ h => h) (Or.inl ⟨by kernel_rfl, ?yx14_1⟩) hHeld ?zx14_1
        case yx14_1 => (intro wS hSw; (try dsimp only at hSw); go_simp; (try with_reducible rfl))
        try simp only [Act.put, List.setIfInBounds_toArray, List.set_cons_zero, List.set_cons_succ]
        refine take_at 1 (some 41) (v := ?vx14_2) rfl rfl (by kernel_rfl) (by kernel_rfl) (by kernel_rfl) (fun _ _ _ h => h) (Or.inl ⟨by kernel_rfl, ?yx14_2⟩) hHeld ?zx14_2
        case yx14_2 => (intro wS hSw; (try dsimp only at hSw); go_simp; (try with_reducible rfl))
        try simp only [Act.put, List.setIfInBounds_toArray, List.set_cons_zero, List.set_cons_succ]
        refine take_at 2 (some 42) (v := ?vx14_3) rfl rfl (by kernel_rfl) (by kernel_rfl) (by kernel_rfl) (fun _ _ _ h => h) (Or.inl ⟨by kernel_rfl, ?yx14_3⟩) hHeld ?zx14_3
        case yx14_3 => (intro wS hSw; (try dsimp only at hSw); go_simp; (try with_reducible rfl))
        try simp only [Act.put, List.setIfInBounds_toArray, List.set_cons_zero, List.set_cons_succ]
        refine take_at 3 (some 43) (v := ?vx14_4) rfl rfl (by kernel_rfl) (by kernel_rfl) (by kernel_rfl) (fun _ _ _ h => h) (Or.inl ⟨by kernel_rfl, ?yx14_4⟩) hHeld ?zx14_4
        case yx14_4 => (intro wS hSw; (try dsimp only at hSw); go_simp; (try with_reducible rfl))
        try simp only [Act.put, List.setIfInBounds_toArray, List.set_cons_zero, List.set_cons_succ]
        refine take_at 4 (some 44) (v := ?vx14_5) rfl rfl (by kernel_rfl) (by kernel_rfl) (by kernel_rfl) (fun _ _ _ h => h) (Or.inl ⟨by kernel_rfl, ?yx14_5⟩) hHeld ?zx14_5
        case yx14_5 => (intro wS hSw; (try dsimp only at hSw); go_simp; (try with_reducible rfl))
        try simp only [Act.put, List.setIfInBounds_toArray, List.set_cons_zero, List.set_cons_succ]
        refine take_at 5 (some 45) (v := ?vx14_6) rfl rfl (by kernel_rfl) (by kernel_rfl) (by kernel_rfl) (fun _ _ _ h => h) (Or.inl ⟨by kernel_rfl, ?yx14_6⟩) hHeld ?zx14_6
        case yx14_6 => (intro wS hSw; (try dsimp only at hSw); go_simp; (try with_reducible rfl))
        try simp only [Act.put, List.setIfInBounds_toArray, List.set_cons_zero, List.set_cons_succ]
        refine take_at 6 (some 46) (v := ?vx14_7) rfl rfl (by kernel_rfl) (by kernel_rfl) (by kernel_rfl) (fun _ _ _ h => h) (Or.inl ⟨by kernel_rfl, ?yx14_7⟩) hHeld ?zx14_7
        case yx14_7 => (intro wS hSw; (try dsimp only at hSw); go_simp; (try with_reducible rfl))
        try simp only [Act.put, List.setIfInBounds_toArray, List.set_cons_zero, List.set_cons_succ]
        refine take_at 7 (some 47) (v := ?vx14_8) rfl rfl (by kernel_rfl) (by kernel_rfl) (by kernel_rfl) (fun _ _ _ h => h) (Or.inl ⟨by kernel_rfl, ?yx14_8⟩) hHeld ?zx14_8
        case yx14_8 => (intro wS hSw; (try dsimp only at hSw); go_simp; (try with_reducible rfl))
        try simp only [Act.put, List.setIfInBounds_toArray, List.set_cons_zero, List.set_cons_succ]
        refine take_at 8 (some 48) (v := ?vx14_9) rfl rfl (by kernel_rfl) (by kernel_rfl) (by kernel_rfl) (fun _ _ _ h => h) (Or.inl ⟨by kernel_rfl, ?yx14_9⟩) hHeld ?zx14_9
        case yx14_9 => (intro wS hSw; (try dsimp only at hSw); go_simp; (try with_reducible rfl))
        try simp only [Act.put, List.setIfInBounds_toArray, List.set_cons_zero, List.set_cons_succ]
        refine wpAnyH_ready (rs := [9]) (by kernel_rfl) (by simp) ?_
        refine cons_at (some 49) rfl rfl (by kernel_rfl) (fun K hK => ?kx14_11) AllReadyH.nil
        go_simp
        (go_at_call 42; refine (HT.out _).mono ?_; rintro e w' ⟨rfl, hbel⟩)
        try go_wp2_with fail
        refine hK.out _ _ ?sx14_11 (fun hHeld => ?_)
        case sx14_11 => ((try dsimp only); first | exact keepB8 (by assumption) hbel | assumption)
        clear hK K
        try simp only [Act.put, List.setIfInBounds_toArray, List.set_cons_zero, List.set_cons_succ]
        refine take_at 10 (some 50) (v := ?vx14_12) rfl rfl (by kernel_rfl) (by kernel_rfl) (by kernel_rfl) (fun _ _ _ h => h) (Or.inl ⟨by kernel_rfl, ?yx14_12⟩) hHeld ?zx14_12
        case yx14_12 => (intro wS hSw; (try dsimp only at hSw); go_simp; (try with_reducible rfl))
        try simp only [Act.put, List.setIfInBounds_toArray, List.set_cons_zero, List.set_cons_succ]
        refine wpAnyH_done (by kernel_rfl) ?_ _
        obtain ⟨hbW, -, -, -, -, -, -, -, -⟩ := hHeld
        have HA2 := Lib.hid (HA.out.below hbW)
        have HB2 := Lib.hid (HB.out.trans (hbW.mono (by omega))); clear hbW
        clear c0 c1 c2 c3 c4 c5 c6 c7
        go_wp2
        go_roundw
        case rel => exact ⟨q + 1, r, by omega, hrL, by rw [← Nat.add_assoc, hq]; go_num, by rw [hhi], HA2, Lib.hid (fun y _ h => by rw [Nat.add_sub_cancel, HY.out] at h; cases h; exact hgt), HR, HB2⟩
        case measure => simp [intOf] <;> omega
      · obtain ⟨cc, hc, hc0⟩ : ∃ c, cmpI yt xt = c ∧ ¬ c < 0 := ⟨_, rfl, cmpI_not hgt⟩
        rw [show cmpI (Ev.t ⟨yt, yn, yk, ym⟩) (Ev.t ⟨xt, xn, xk, xm⟩) = cc from hc] at HT
        clear hc
        go_wp2_with fail
        refine wp_region_held_drew (S := (fun w' => Below wr.heap.size wr w' ∧ w'.cell? ⟨g, M * 4, none⟩ = some (.int .i64 yt) ∧ w'.cell? ⟨g, M * 4 + 1, none⟩ = some (.int .i64 yn) ∧ w'.cell? ⟨g, M * 4 + 2, none⟩ = some (.int .i64 yk) ∧ w'.cell? ⟨g, M * 4 + 3, none⟩ = some (.int .i64 ym) ∧ w'.cell? ⟨g, a * 4, none⟩ = some (.int .i64 xt) ∧ w'.cell? ⟨g, a * 4 + 1, none⟩ = some (.int .i64 xn) ∧ w'.cell? ⟨g, a * 4 + 2, none⟩ = some (.int .i64 xk) ∧ w'.cell? ⟨g, a * 4 + 3, none⟩ = some (.int .i64 xm))) (by kernel_rfl) ?rx15s (fun hHeld => ?rx150)
        case rx15s => ((try dsimp only); exact ⟨(Below.refl _ _).drew, c0, c1, c2, c3, c4, c5, c6, c7⟩)
        try simp only [Act.put, List.setIfInBounds_toArray, List.set_cons_zero, List.set_cons_succ]
        refine take_at 0 (some 40) (v := ?vx15_1) rfl rfl (by kernel_rfl) (by kernel_rfl) (by kernel_rfl) (fun _ _ _ h => h) (Or.inl ⟨by kernel_rfl, ?yx15_1⟩) hHeld ?zx15_1
        case yx15_1 => (intro wS hSw; (try dsimp only at hSw); go_simp; (try with_reducible rfl))
        try simp only [Act.put, List.setIfInBounds_toArray, List.set_cons_zero, List.set_cons_succ]
        refine take_at 1 (some 41) (v := ?vx15_2) rfl rfl (by kernel_rfl) (by kernel_rfl) (by kernel_rfl) (fun _ _ _ h => h) (Or.inl ⟨by kernel_rfl, ?yx15_2⟩) hHeld ?zx15_2
        case yx15_2 => (intro wS hSw; (try dsimp only at hSw); go_simp; (try with_reducible rfl))
        try simp only [Act.put, List.setIfInBounds_toArray, List.set_cons_zero, List.set_cons_succ]
        refine take_at 2 (some 42) (v := ?vx15_3) rfl rfl (by kernel_rfl) (by kernel_rfl) (by kernel_rfl) (fun _ _ _ h => h) (Or.inl ⟨by kernel_rfl, ?yx15_3⟩) hHeld ?zx15_3
        case yx15_3 => (intro wS hSw; (try dsimp only at hSw); go_simp; (try with_reducible rfl))
        try simp only [Act.put, List.setIfInBounds_toArray, List.set_cons_zero, List.set_cons_succ]
        refine take_at 3 (some 43) (v := ?vx15_4) rfl rfl (by kernel_rfl) (by kernel_rfl) (by kernel_rfl) (fun _ _ _ h => h) (Or.inl ⟨by kernel_rfl, ?yx15_4⟩) hHeld ?zx15_4
        case yx15_4 => (intro wS hSw; (try dsimp only at hSw); go_simp; (try with_reducible rfl))
        try simp only [Act.put, List.setIfInBounds_toArray, List.set_cons_zero, List.set_cons_succ]
        refine take_at 4 (some 44) (v := ?vx15_5) rfl rfl (by kernel_rfl) (by kernel_rfl) (by kernel_rfl) (fun _ _ _ h => h) (Or.inl ⟨by kernel_rfl, ?yx15_5⟩) hHeld ?zx15_5
        case yx15_5 => (intro wS hSw; (try dsimp only at hSw); go_simp; (try with_reducible rfl))
        try simp only [Act.put, List.setIfInBounds_toArray, List.set_cons_zero, List.set_cons_succ]
        refine take_at 5 (some 45) (v := ?vx15_6) rfl rfl (by kernel_rfl) (by kernel_rfl) (by kernel_rfl) (fun _ _ _ h => h) (Or.inl ⟨by kernel_rfl, ?yx15_6⟩) hHeld ?zx15_6
        case yx15_6 => (intro wS hSw; (try dsimp only at hSw); go_simp; (try with_reducible rfl))
        try simp only [Act.put, List.setIfInBounds_toArray, List.set_cons_zero, List.set_cons_succ]
        refine take_at 6 (some 46) (v := ?vx15_7) rfl rfl (by kernel_rfl) (by kernel_rfl) (by kernel_rfl) (fun _ _ _ h => h) (Or.inl ⟨by kernel_rfl, ?yx15_7⟩) hHeld ?zx15_7
        case yx15_7 => (intro wS hSw; (try dsimp only at hSw); go_simp; (try with_reducible rfl))
        try simp only [Act.put, List.setIfInBounds_toArray, List.set_cons_zero, List.set_cons_succ]
        refine take_at 7 (some 47) (v := ?vx15_8) rfl rfl (by kernel_rfl) (by kernel_rfl) (by kernel_rfl) (fun _ _ _ h => h) (Or.inl ⟨by kernel_rfl, ?yx15_8⟩) hHeld ?zx15_8
        case yx15_8 => (intro wS hSw; (try dsimp only at hSw); go_simp; (try with_reducible rfl))
        try simp only [Act.put, List.setIfInBounds_toArray, List.set_cons_zero, List.set_cons_succ]
        refine take_at 8 (some 48) (v := ?vx15_9) rfl rfl (by kernel_rfl) (by kernel_rfl) (by kernel_rfl) (fun _ _ _ h => h) (Or.inl ⟨by kernel_rfl, ?yx15_9⟩) hHeld ?zx15_9
        case yx15_9 => (intro wS hSw; (try dsimp only at hSw); go_simp; (try with_reducible rfl))
        try simp only [Act.put, List.setIfInBounds_toArray, List.set_cons_zero, List.set_cons_succ]
        refine wpAnyH_ready (rs := [9]) (by kernel_rfl) (by simp) ?_
        refine cons_at (some 49) rfl rfl (by kernel_rfl) (fun K hK => ?kx15_11) AllReadyH.nil
        go_simp
        (go_at_call 42; refine (HT.out _).mono ?_; rintro e w' ⟨rfl, hbel⟩)
        try go_wp2_with fail
        refine hK.out _ _ ?sx15_11 (fun hHeld => ?_)
        case sx15_11 => ((try dsimp only); first | exact keepB8 (by assumption) hbel | assumption)
        clear hK K
        try simp only [Act.put, List.setIfInBounds_toArray, List.set_cons_zero, List.set_cons_succ]
        refine take_at 10 (some 50) (v := ?vx15_12) rfl rfl (by kernel_rfl) (by kernel_rfl) (by kernel_rfl) (fun _ _ _ h => h) (Or.inl ⟨by kernel_rfl, ?yx15_12⟩) hHeld ?zx15_12
        case yx15_12 => (intro wS hSw; (try dsimp only at hSw); go_simp; (try with_reducible rfl))
        try simp only [Act.put, List.setIfInBounds_toArray, List.set_cons_zero, List.set_cons_succ]
        refine wpAnyH_done (by kernel_rfl) ?_ _
        obtain ⟨hbW, -, -, -, -, -, -, -, -⟩ := hHeld
        have HA2 := Lib.hid (HA.out.below hbW)
        have HB2 := Lib.hid (HB.out.trans (hbW.mono (by omega))); clear hbW
        clear c0 c1 c2 c3 c4 c5 c6 c7
        go_wp2
        go_roundw
        case rel => exact ⟨s, q, by omega, by omega, by rw [hlo], by rw [hq], HA2, HF, Lib.hid (fun y h => by rw [HY.out] at h; cases h; exact hgt), HB2⟩
        case measure => simp [intOf] <;> omega
    · obtain rfl : hi = lo := by omega
      obtain rfl : r = s := by omega
      have HSt := Lib.hid (slot_front (u := (⟨xt, xn, xk, xm⟩ : Ev)) HV.out HF.out HR.out (by have := HL.out; omega))
      clear HF HR HV
      obtain ⟨E, hE⟩ : ∃ E, a + r = E := ⟨_, rfl⟩
      have e2 : (hi : Int) - 1 = E := by omega
      go_wp2
      go_loopw [13] (fun k wr2 => ∃ q : Nat, q ≤ r ∧ k = .int .i64 (a + q : Nat) ∧ Hid (Arr B wr2 g n cap (arr X V ⟨xt, xn, xk, xm⟩ q Y)) ∧ Hid (Below B w wr2))
        (fun k _ => E - (intOf k).toNat)
      case atStart => exact ⟨0, Nat.zero_le _, rfl, HA, HB⟩
      case round =>
        clear HA HB hzb
        obtain ⟨q, hqr, rfl, HA, HB⟩ := hrel
        have hzb := HB.out.size
        obtain ⟨J, hJ⟩ : ∃ J, a + q = J := ⟨_, rfl⟩
        by_cases hlt2 : q < r
        · obtain ⟨⟨yt, yn, yk, ym⟩, hy⟩ : ∃ y, V[q]? = some y := ⟨_, List.getElem?_eq_getElem (by have := HL.out; omega)⟩
          have p1 := arr_at (A := X) (S := V) (x := ⟨xt, xn, xk, xm⟩) (k := q) (D := Y) (by have := HL.out; omega)
          have p2 := arr_hi (A := X) (x := (⟨xt, xn, xk, xm⟩ : Ev)) (D := Y) hy
          have p3 := arr_up (A := X) (x := (⟨xt, xn, xk, xm⟩ : Ev)) (D := Y) hy
          rw [HL.out.1, hJ] at p1
          rw [← Nat.add_assoc, HL.out.1, hJ] at p2 p3
          rw [hJ]
          clear hy
          have hk2 : (J : Int) + 1 < (n : Int) := by omega
          have hk3 : (J : Int) < (n : Int) := by omega
          have hk1 : (0 : Int) ≤ (J : Int) + 1 := by omega
          have hk6 : (J : Int) < E := by omega
          obtain ⟨c0, c1, c2, c3⟩ := HA.out.cells p1
          obtain ⟨c4, c5, c6, c7⟩ := HA.out.cells p2
          have hs := HA.out.set (k := J) ⟨yt, yn, yk, ym⟩ (by omega)
          have f0 := HA.out.frozen ((J) * 4)
          have f1 := HA.out.frozen ((J) * 4 + 1)
          have f2 := HA.out.frozen ((J) * 4 + 2)
          have f3 := HA.out.frozen ((J) * 4 + 3)
          have hs2 := hs.1.set (k := J + 1) ⟨xt, xn, xk, xm⟩ (by omega)
          obtain ⟨d0, d1, d2, d3⟩ := hs.1.cells (k := J + 1) (x := ⟨yt, yn, yk, ym⟩) (by rw [List.getElem?_set_ne (by omega)]; exact p2)
          have h0 := hs.1.frozen ((J + 1) * 4)
          have h1 := hs.1.frozen ((J + 1) * 4 + 1)
          have h2 := hs.1.frozen ((J + 1) * 4 + 2)
          have h3 := hs.1.frozen ((J + 1) * 4 + 3)
          rw [p3] at hs2
          have HS2 := Lib.hid hs2; clear hs2
          have HS1 := Lib.hid hs; clear hs
          simp only [set4] at d0 d1 d2 d3 h0 h1 h2 h3 HS1 HS2
          clear p1 p2 p3 HA
          go_wp2
          go_region
          go_wp2
          go_roundw
          case rel =>
            exact ⟨q + 1, by omega, by rw [← Nat.add_assoc, hJ]; go_num, Lib.hid (HS2.out.1.below (Below.refl _ _).drew), Lib.hid ((HB.out.grown (grown_trans HS1.out.2 HS2.out.2) (by omega) (fun j hj => by cases hj; exact hge)).drew)⟩
          case measure => simp [intOf] <;> omega
        · obtain rfl : q = r := by omega
          rw [hJ]
          have hk6 : ¬ (J : Int) < E := by omega
          go_wp2
          refine bodyPost_ret (v := (.tuple #[])) (by simp [results, Tryz.results77, go_sem, *]) rfl ?_
          exact ⟨rfl, ⟨_, HA.out, HSt.out, by rw [slot_len, HL.out.2]; simp; omega⟩, HB.out⟩
end Go.Proofs.YtohbkohidpgjpaaGreatDoor
