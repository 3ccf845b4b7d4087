/- Contract: the library's symMergeCmpFunc on events, the general step: both parts have two elements or more, and the call below merges shorter ones. Condition: at most 1000 events. -/
import Derived.Test.YtohbkohidpgjpaaGreatDoorEvSm2
import Derived.Deep.DeepCutAuto
namespace Go.Proofs.YtohbkohidpgjpaaGreatDoor
open Go.RowKit

theorem getU {X U Z : List Ev} {a i q : Nat} {y : Ev} (ha : X.length = a) (hi : a + q = i) (h : U[q]? = some y) : (X ++ (U ++ Z))[i]? = some y := by
  have := (List.getElem?_eq_some_iff.1 h).1
  rw [List.getElem?_append_right (by omega), List.getElem?_append_left (by omega), show i - X.length = q by omega]; exact h
theorem getV {X U V Z : List Ev} {m i q : Nat} {y : Ev} (hm : X.length + U.length = m) (hi : m + q = i) (h : V[q]? = some y) : (X ++ (U ++ (V ++ Z)))[i]? = some y := by
  rw [← List.append_assoc X]
  exact getU (by rw [List.length_append]; exact hm) hi h
set_option maxRecDepth 100000 in
set_option maxHeartbeats 8000000 in
theorem symM_step (g n cap B : Nat) (X U V Y : List Ev) (a m b : Nat) (w : World) (hO : Arr B w g n cap (X ++ (U ++ (V ++ Y)))) (ha : X.length = a) (hm : a + U.length = m) (hb : m + V.length = b) (hU : Srt Ev.t U) (hV : Srt Ev.t V) (hU1 : 1 < U.length) (hV1 : 1 < V.length) (hn : n ≤ 1000) (hBw : B ≤ w.heap.size) (N : Nat) (hN : U.length + V.length = N)
    (IH : ∀ (X U V Y : List Ev) (a m b' : Nat) (w : World), Arr B w g n cap (X ++ (U ++ (V ++ Y))) → X.length = a → a + U.length = m → m + V.length = b' → Srt Ev.t U → Srt Ev.t V → 0 < U.length → 0 < V.length → B ≤ w.heap.size → U.length + V.length < N →
      Calls Tryz.prog 77 #[.slice (some ⟨g, 0, none⟩) n cap, .int .i64 a, .int .i64 m, .int .i64 b', mtF] w fun e w' => SmQ B g n cap X U V Y e w w') :
    Calls Tryz.prog 77 #[.slice (some ⟨g, 0, none⟩) n cap, .int .i64 a, .int .i64 m, .int .i64 b, mtF] w fun e w' => SmQ B g n cap X U V Y e w w' := by
  have hlen := hO.2
  simp only [List.length_append] at hlen
  have hge := hO.ge
  have hcap := hO.le
  have HO := Lib.hid hO; clear hO
  have HI := Lib.hid IH; clear IH
  have HS := Lib.hid (And.intro hU hV); clear hU hV
  obtain ⟨lu, hlu⟩ : ∃ L, U.length = L := ⟨_, rfl⟩
  obtain ⟨lv, hlv⟩ : ∃ L, V.length = L := ⟨_, rfl⟩
  rw [hlu] at hm hlen hU1
  rw [hlv] at hb hlen hV1
  rw [hlu, hlv] at hN
  have hbn : b ≤ n := by omega
  have HL := Lib.hid (And.intro ha (And.intro hlu hlv)); clear ha hlu hlv
  clear hlen
  have e0 : (m : Int) - a = lu := by omega
  have hL1 : ((lu : Int) == 1) = false := by simp; omega
  have e1 : (b : Int) - m = lv := by omega
  have hL2 : ((lv : Int) == 1) = false := by simp; omega
  obtain ⟨mid, hmid⟩ : ∃ M, M = (a + b) / 2 := ⟨_, rfl⟩
  have hmid2 : ((a : Int) + b) / 2 = mid := by omega
  have hma : a < mid := by omega
  have hmb : mid < b := by omega
  have hms : a + b ≤ mid + mid + 1 := by omega
  have hms2 : mid + mid ≤ a + b := by omega
  clear hmid
  obtain ⟨D, hD⟩ : ∃ D, a + D = mid := ⟨mid - a, by omega⟩
  obtain ⟨nn, hnn⟩ : ∃ x, mid + m = x := ⟨_, rfl⟩
  have hnn2 : (mid : Int) + m = nn := by omega
  go_enter Tryz.func77, Tryz.ntmps77
  go_upto_if 140 with (fail)
  go_cut [20, 21] (fun x y wx => Hid (∃ s r : Nat, x = .int .i64 (a + s : Nat) ∧ y = .int .i64 (a + r : Nat) ∧ s ≤ r ∧ r ≤ D ∧ r ≤ lu ∧ D ≤ s + lv ∧ CutL Ev.t U V s (D - s) ∧ CutR Ev.t U V r (D - r)) ∧ wx = w)
  case first =>
    as_aux_lemma =>
    by_cases hgt : mid < m
    · have hgt2 : (mid : Int) < m := by omega
      obtain ⟨s0, hs0⟩ : ∃ s, a + s = nn - b := ⟨nn - b - a, by omega⟩
      have hs1 : (nn : Int) - b = (a + s0 : Nat) := by omega
      go_wp2_with fail
      go_meet
      refine ⟨Lib.hid ⟨s0, D, by rw [hs0], by rw [hD], by omega, Nat.le_refl _, by omega, by omega, ?_, ?_⟩, rfl⟩
      · intro x y _ _ hy
        rw [List.getElem?_eq_none (by have := HL.out; omega)] at hy; cases hy
      · intro x y h; exact absurd h (by omega)
    · have hgt2 : ¬ (mid : Int) < m := by omega
      go_wp2_with fail
      go_meet
      refine ⟨Lib.hid ⟨0, lu, rfl, by rw [hm], Nat.zero_le _, by omega, Nat.le_refl _, by omega, ?_, ?_⟩, rfl⟩
      · intro x y h; exact absurd h (by omega)
      · intro x y _ _ hx
        rw [List.getElem?_eq_none (by have := HL.out; omega)] at hx; cases hx
  case rest =>
    obtain ⟨hc, rfl⟩ := hcut
    rename World => w0
    obtain ⟨s0, r0, rfl, rfl, h1, h2, h3, h4, h5, h6⟩ := hc.out
    have HCL := Lib.hid h5
    have HCR := Lib.hid h6
    clear hc h5 h6
    obtain ⟨pp, hpp⟩ : ∃ p, p + 1 = nn := ⟨nn - 1, by omega⟩
    have hpp2 : (nn : Int) - 1 = pp := by omega
    go_wp2
    go_loopw [20, 21, 23] (fun i j _ wr => ∃ s r : Nat, s ≤ r ∧ r ≤ D ∧ r ≤ lu ∧ D ≤ s + lv ∧ i = .int .i64 (a + s : Nat) ∧ j = .int .i64 (a + r : Nat) ∧ Hid (Arr B wr g n cap (X ++ (U ++ (V ++ Y)))) ∧ Hid (CutL Ev.t U V s (D - s)) ∧ Hid (CutR Ev.t U V r (D - r)) ∧ Hid (Below B w0 wr))
      (fun i j _ _ => (intOf j).toNat - (intOf i).toNat)
    case atStart => exact ⟨s0, r0, h1, h2, h3, h4, rfl, rfl, HO, HCL, HCR, Lib.hid (Below.refl _ _)⟩
    case round =>
      clear HO HCL HCR h1 h2 h3 h4
      obtain ⟨s, r, hsr, hrD, hru, hsv, rfl, rfl, HA, HF, HR, HB⟩ := hrel
      have hzb := HB.out.size
      obtain ⟨lo, hlo⟩ : ∃ lo, a + s = lo := ⟨_, rfl⟩
      obtain ⟨hi, hhi⟩ : ∃ hi, a + r = hi := ⟨_, rfl⟩
      rw [hlo, hhi]
      by_cases hlt : lo < hi
      · obtain ⟨hm1, hm2⟩ := half_mid hlt
        obtain ⟨M, hM⟩ : ∃ M, M = (lo + hi) / 2 := ⟨_, rfl⟩
        rw [← hM] at hm1 hm2
        obtain ⟨q, hq⟩ : ∃ q, a + q = M := ⟨M - a, by omega⟩
        have hdiv : ((lo : Int) + hi) / 2 = M := by omega
        clear hM
        obtain ⟨p, hp⟩ : ∃ p, p + 1 + q = D := ⟨D - 1 - q, by omega⟩
        obtain ⟨G, hG⟩ : ∃ G, m + p = G := ⟨_, rfl⟩
        have hG4 : IntKind.i64.wrap (G : Int) = G := by rw [IntKind.wrap_i64]; omega
        have hG2 : (pp : Int) - M = G := by omega
        obtain ⟨⟨xt, xn, xk, xm⟩, hx⟩ : ∃ y, V[p]? = some y := ⟨_, List.getElem?_eq_getElem (by have := HL.out; omega)⟩
        obtain ⟨⟨yt, yn, yk, ym⟩, hy⟩ : ∃ y, U[q]? = some y := ⟨_, List.getElem?_eq_getElem (by have := HL.out; omega)⟩
        obtain ⟨c0, c1, c2, c3⟩ := HA.out.cells (getV (by have := HL.out; omega) hG hx)
        obtain ⟨c4, c5, c6, c7⟩ := HA.out.cells (getU HL.out.1 hq hy)
        have HX := Lib.hid (And.intro hx hy); clear hx hy
        have hMn : (M : Int) < (n : Int) := by omega
        have hGn : (G : Int) < (n : Int) := by omega
        have HT := Lib.hid (fun w => mtC_any ⟨xt, xn, xk, xm⟩ ⟨yt, yn, yk, ym⟩ w)
        by_cases hgt : xt < yt
        · have HCmp : Hid (cmpI xt yt = -1) := Lib.hid (cmpI_neg hgt)
          rw [show cmpI (Ev.t ⟨xt, xn, xk, xm⟩) (Ev.t ⟨yt, yn, yk, ym⟩) = -1 from HCmp.out] at HT
          go_wp2_with fail
          refine wp_region_held_drew (S := (fun w' => Below wr.heap.size wr w' ∧ w'.cell? ⟨g, G * 4, none⟩ = some (.int .i64 xt) ∧ w'.cell? ⟨g, G * 4 + 1, none⟩ = some (.int .i64 xn) ∧ w'.cell? ⟨g, G * 4 + 2, none⟩ = some (.int .i64 xk) ∧ w'.cell? ⟨g, G * 4 + 3, none⟩ = some (.int .i64 xm) ∧ w'.cell? ⟨g, M * 4, none⟩ = some (.int .i64 yt) ∧ w'.cell? ⟨g, M * 4 + 1, none⟩ = some (.int .i64 yn) ∧ w'.cell? ⟨g, M * 4 + 2, none⟩ = some (.int .i64 yk) ∧ w'.cell? ⟨g, M * 4 + 3, none⟩ = some (.int .i64 ym))) (by kernel_rfl) ?rx18s (fun hHeld => ?rx180)
          case rx18s => ((try dsimp only); exact ⟨(Below.refl _ _).drew, c0, c1, c2, c3, c4, c5, c6, c7⟩)
          try simp only [Act.put, List.setIfInBounds_toArray, List.set_cons_zero, List.set_cons_succ]
          refine take_at 0 (some 158) (v := ?vx18_1) rfl rfl (by kernel_rfl) (by kernel_rfl) (by kernel_rfl) (fun _ _ _ h => h) (Or.inl ⟨by kernel_rfl, ?yx18_1⟩) hHeld ?zx18_1
          case yx18_1 => (intro wS hSw; (try dsimp only at hSw); go_simp; (try with_reducible rfl))
          try simp only [Act.put, List.setIfInBounds_toArray, List.set_cons_zero, List.set_cons_succ]
          refine take_at 1 (some 159) (v := ?vx18_2) rfl rfl (by kernel_rfl) (by kernel_rfl) (by kernel_rfl) (fun _ _ _ h => h) (Or.inl ⟨by kernel_rfl, ?yx18_2⟩) hHeld ?zx18_2
          case yx18_2 => (intro wS hSw; (try dsimp only at hSw); go_simp; (try with_reducible rfl))
          try simp only [Act.put, List.setIfInBounds_toArray, List.set_cons_zero, List.set_cons_succ]
          refine take_at 2 (some 160) (v := ?vx18_3) rfl rfl (by kernel_rfl) (by kernel_rfl) (by kernel_rfl) (fun _ _ _ h => h) (Or.inl ⟨by kernel_rfl, ?yx18_3⟩) hHeld ?zx18_3
          case yx18_3 => (intro wS hSw; (try dsimp only at hSw); go_simp; (try with_reducible rfl))
          try simp only [Act.put, List.setIfInBounds_toArray, List.set_cons_zero, List.set_cons_succ]
          refine take_at 3 (some 161) (v := ?vx18_4) rfl rfl (by kernel_rfl) (by kernel_rfl) (by kernel_rfl) (fun _ _ _ h => h) (Or.inl ⟨by kernel_rfl, ?yx18_4⟩) hHeld ?zx18_4
          case yx18_4 => (intro wS hSw; (try dsimp only at hSw); go_simp; (try with_reducible rfl))
          try simp only [Act.put, List.setIfInBounds_toArray, List.set_cons_zero, List.set_cons_succ]
          refine take_at 4 (some 162) (v := ?vx18_5) rfl rfl (by kernel_rfl) (by kernel_rfl) (by kernel_rfl) (fun _ _ _ h => h) (Or.inl ⟨by kernel_rfl, ?yx18_5⟩) hHeld ?zx18_5
          case yx18_5 => (intro wS hSw; (try dsimp only at hSw); go_simp; (try with_reducible rfl))
          try simp only [Act.put, List.setIfInBounds_toArray, List.set_cons_zero, List.set_cons_succ]
          refine take_at 5 (some 163) (v := ?vx18_6) rfl rfl (by kernel_rfl) (by kernel_rfl) (by kernel_rfl) (fun _ _ _ h => h) (Or.inl ⟨by kernel_rfl, ?yx18_6⟩) hHeld ?zx18_6
          case yx18_6 => (intro wS hSw; (try dsimp only at hSw); go_simp; (try with_reducible rfl))
          try simp only [Act.put, List.setIfInBounds_toArray, List.set_cons_zero, List.set_cons_succ]
          refine take_at 6 (some 164) (v := ?vx18_7) rfl rfl (by kernel_rfl) (by kernel_rfl) (by kernel_rfl) (fun _ _ _ h => h) (Or.inl ⟨by kernel_rfl, ?yx18_7⟩) hHeld ?zx18_7
          case yx18_7 => (intro wS hSw; (try dsimp only at hSw); go_simp; (try with_reducible rfl))
          try simp only [Act.put, List.setIfInBounds_toArray, List.set_cons_zero, List.set_cons_succ]
          refine take_at 7 (some 165) (v := ?vx18_8) rfl rfl (by kernel_rfl) (by kernel_rfl) (by kernel_rfl) (fun _ _ _ h => h) (Or.inl ⟨by kernel_rfl, ?yx18_8⟩) hHeld ?zx18_8
          case yx18_8 => (intro wS hSw; (try dsimp only at hSw); go_simp; (try with_reducible rfl))
          try simp only [Act.put, List.setIfInBounds_toArray, List.set_cons_zero, List.set_cons_succ]
          refine take_at 8 (some 166) (v := ?vx18_9) rfl rfl (by kernel_rfl) (by kernel_rfl) (by kernel_rfl) (fun _ _ _ h => h) (Or.inl ⟨by kernel_rfl, ?yx18_9⟩) hHeld ?zx18_9
          case yx18_9 => (intro wS hSw; (try dsimp only at hSw); go_simp; (try with_reducible rfl))
          try simp only [Act.put, List.setIfInBounds_toArray, List.set_cons_zero, List.set_cons_succ]
          refine take_at 9 (some 167) (v := ?vx18_10) rfl rfl (by kernel_rfl) (by kernel_rfl) (by kernel_rfl) (fun _ _ _ h => h) (Or.inl ⟨by kernel_rfl, ?yx18_10⟩) hHeld ?zx18_10
          case yx18_10 => (intro wS hSw; (try dsimp only at hSw); go_simp; (try with_reducible rfl))
          try simp only [Act.put, List.setIfInBounds_toArray, List.set_cons_zero, List.set_cons_succ]
          refine take_at 10 (some 168) (v := ?vx18_11) rfl rfl (by kernel_rfl) (by kernel_rfl) (by kernel_rfl) (fun _ _ _ h => h) (Or.inl ⟨by kernel_rfl, ?yx18_11⟩) hHeld ?zx18_11
          case yx18_11 => (intro wS hSw; (try dsimp only at hSw); go_simp; (try with_reducible rfl))
          try simp only [Act.put, List.setIfInBounds_toArray, List.set_cons_zero, List.set_cons_succ]
          refine wpAnyH_ready (rs := [11]) (by kernel_rfl) (by simp) ?_
          refine cons_at (some 169) rfl rfl (by kernel_rfl) (fun K hK => ?kx18_13) AllReadyH.nil
          go_simp
          (go_at_call 42; refine (HT.out _).mono ?_; rintro e w' ⟨rfl, hbel⟩)
          try go_wp2_with fail
          refine hK.out _ _ ?sx18_13 (fun hHeld => ?_)
          case sx18_13 => ((try dsimp only); first | exact keepB8 (by assumption) hbel | assumption)
          clear hK K
          try simp only [Act.put, List.setIfInBounds_toArray, List.set_cons_zero, List.set_cons_succ]
          refine take_at 12 (some 170) (v := ?vx18_14) rfl rfl (by kernel_rfl) (by kernel_rfl) (by kernel_rfl) (fun _ _ _ h => h) (Or.inl ⟨by kernel_rfl, ?yx18_14⟩) hHeld ?zx18_14
          case yx18_14 => (intro wS hSw; (try dsimp only at hSw); go_simp; (try with_reducible rfl))
          try simp only [Act.put, List.setIfInBounds_toArray, List.set_cons_zero, List.set_cons_succ]
          refine take_at 13 (some 171) (v := ?vx18_15) rfl rfl (by kernel_rfl) (by kernel_rfl) (by kernel_rfl) (fun _ _ _ h => h) (Or.inl ⟨by kernel_rfl, ?yx18_15⟩) hHeld ?zx18_15
          case yx18_15 => (intro wS hSw; (try dsimp only at hSw); go_simp; (try with_reducible rfl))
          try simp only [Act.put, List.setIfInBounds_toArray, List.set_cons_zero, List.set_cons_succ]
          refine wpAnyH_done (by kernel_rfl) ?_ _
          obtain ⟨hbW, -, -, -, -, -, -, -, -⟩ := hHeld
          have HA2 := Lib.hid (HA.out.below hbW)
          have HB2 := Lib.hid (HB.out.trans (hbW.mono (by omega))); clear hbW
          clear c0 c1 c2 c3 c4 c5 c6 c7
          go_wp2
          go_roundw
          case rel =>
            refine ⟨s, q, by omega, by omega, by omega, by omega, by rw [hlo], by rw [hq], HA2, HF, Lib.hid ?_, HB2⟩
            intro x y _ h h2
            rw [show D - q - 1 = p by omega, HX.out.1] at h
            rw [HX.out.2] at h2
            cases h; cases h2; exact hgt
          case measure => simp [intOf] <;> omega
        · obtain ⟨cc, hc, hc0⟩ : ∃ c, cmpI xt yt = c ∧ ¬ c < 0 := ⟨_, rfl, cmpI_not hgt⟩
          rw [show cmpI (Ev.t ⟨xt, xn, xk, xm⟩) (Ev.t ⟨yt, yn, yk, ym⟩) = cc from hc] at HT
          have hc2 : decide (cc < 0) = false := decide_eq_false hc0
          clear hc
          go_wp2_with fail
          refine wp_region_held_drew (S := (fun w' => Below wr.heap.size wr w' ∧ w'.cell? ⟨g, G * 4, none⟩ = some (.int .i64 xt) ∧ w'.cell? ⟨g, G * 4 + 1, none⟩ = some (.int .i64 xn) ∧ w'.cell? ⟨g, G * 4 + 2, none⟩ = some (.int .i64 xk) ∧ w'.cell? ⟨g, G * 4 + 3, none⟩ = some (.int .i64 xm) ∧ w'.cell? ⟨g, M * 4, none⟩ = some (.int .i64 yt) ∧ w'.cell? ⟨g, M * 4 + 1, none⟩ = some (.int .i64 yn) ∧ w'.cell? ⟨g, M * 4 + 2, none⟩ = some (.int .i64 yk) ∧ w'.cell? ⟨g, M * 4 + 3, none⟩ = some (.int .i64 ym))) (by kernel_rfl) ?rx19s (fun hHeld => ?rx190)
          case rx19s => ((try dsimp only); exact ⟨(Below.refl _ _).drew, c0, c1, c2, c3, c4, c5, c6, c7⟩)
          try simp only [Act.put, List.setIfInBounds_toArray, List.set_cons_zero, List.set_cons_succ]
          refine take_at 0 (some 158) (v := ?vx19_1) rfl rfl (by kernel_rfl) (by kernel_rfl) (by kernel_rfl) (fun _ _ _ h => h) (Or.inl ⟨by kernel_rfl, ?yx19_1⟩) hHeld ?zx19_1
          case yx19_1 => (intro wS hSw; (try dsimp only at hSw); go_simp; (try with_reducible rfl))
          try simp only [Act.put, List.setIfInBounds_toArray, List.set_cons_zero, List.set_cons_succ]
          refine take_at 1 (some 159) (v := ?vx19_2) rfl rfl (by kernel_rfl) (by kernel_rfl) (by kernel_rfl) (fun _ _ _ h => h) (Or.inl ⟨by kernel_rfl, ?yx19_2⟩) hHeld ?zx19_2
          case yx19_2 => (intro wS hSw; (try dsimp only at hSw); go_simp; (try with_reducible rfl))
          try simp only [Act.put, List.setIfInBounds_toArray, List.set_cons_zero, List.set_cons_succ]
          refine take_at 2 (some 160) (v := ?vx19_3) rfl rfl (by kernel_rfl) (by kernel_rfl) (by kernel_rfl) (fun _ _ _ h => h) (Or.inl ⟨by kernel_rfl, ?yx19_3⟩) hHeld ?zx19_3
          case yx19_3 => (intro wS hSw; (try dsimp only at hSw); go_simp; (try with_reducible rfl))
          try simp only [Act.put, List.setIfInBounds_toArray, List.set_cons_zero, List.set_cons_succ]
          refine take_at 3 (some 161) (v := ?vx19_4) rfl rfl (by kernel_rfl) (by kernel_rfl) (by kernel_rfl) (fun _ _ _ h => h) (Or.inl ⟨by kernel_rfl, ?yx19_4⟩) hHeld ?zx19_4
          case yx19_4 => (intro wS hSw; (try dsimp only at hSw); go_simp; (try with_reducible rfl))
          try simp only [Act.put, List.setIfInBounds_toArray, List.set_cons_zero, List.set_cons_succ]
          refine take_at 4 (some 162) (v := ?vx19_5) rfl rfl (by kernel_rfl) (by kernel_rfl) (by kernel_rfl) (fun _ _ _ h => h) (Or.inl ⟨by kernel_rfl, ?yx19_5⟩) hHeld ?zx19_5
          case yx19_5 => (intro wS hSw; (try dsimp only at hSw); go_simp; (try with_reducible rfl))
          try simp only [Act.put, List.setIfInBounds_toArray, List.set_cons_zero, List.set_cons_succ]
          refine take_at 5 (some 163) (v := ?vx19_6) rfl rfl (by kernel_rfl) (by kernel_rfl) (by kernel_rfl) (fun _ _ _ h => h) (Or.inl ⟨by kernel_rfl, ?yx19_6⟩) hHeld ?zx19_6
          case yx19_6 => (intro wS hSw; (try dsimp only at hSw); go_simp; (try with_reducible rfl))
          try simp only [Act.put, List.setIfInBounds_toArray, List.set_cons_zero, List.set_cons_succ]
          refine take_at 6 (some 164) (v := ?vx19_7) rfl rfl (by kernel_rfl) (by kernel_rfl) (by kernel_rfl) (fun _ _ _ h => h) (Or.inl ⟨by kernel_rfl, ?yx19_7⟩) hHeld ?zx19_7
          case yx19_7 => (intro wS hSw; (try dsimp only at hSw); go_simp; (try with_reducible rfl))
          try simp only [Act.put, List.setIfInBounds_toArray, List.set_cons_zero, List.set_cons_succ]
          refine take_at 7 (some 165) (v := ?vx19_8) rfl rfl (by kernel_rfl) (by kernel_rfl) (by kernel_rfl) (fun _ _ _ h => h) (Or.inl ⟨by kernel_rfl, ?yx19_8⟩) hHeld ?zx19_8
          case yx19_8 => (intro wS hSw; (try dsimp only at hSw); go_simp; (try with_reducible rfl))
          try simp only [Act.put, List.setIfInBounds_toArray, List.set_cons_zero, List.set_cons_succ]
          refine take_at 8 (some 166) (v := ?vx19_9) rfl rfl (by kernel_rfl) (by kernel_rfl) (by kernel_rfl) (fun _ _ _ h => h) (Or.inl ⟨by kernel_rfl, ?yx19_9⟩) hHeld ?zx19_9
          case yx19_9 => (intro wS hSw; (try dsimp only at hSw); go_simp; (try with_reducible rfl))
          try simp only [Act.put, List.setIfInBounds_toArray, List.set_cons_zero, List.set_cons_succ]
          refine take_at 9 (some 167) (v := ?vx19_10) rfl rfl (by kernel_rfl) (by kernel_rfl) (by kernel_rfl) (fun _ _ _ h => h) (Or.inl ⟨by kernel_rfl, ?yx19_10⟩) hHeld ?zx19_10
          case yx19_10 => (intro wS hSw; (try dsimp only at hSw); go_simp; (try with_reducible rfl))
          try simp only [Act.put, List.setIfInBounds_toArray, List.set_cons_zero, List.set_cons_succ]
          refine take_at 10 (some 168) (v := ?vx19_11) rfl rfl (by kernel_rfl) (by kernel_rfl) (by kernel_rfl) (fun _ _ _ h => h) (Or.inl ⟨by kernel_rfl, ?yx19_11⟩) hHeld ?zx19_11
          case yx19_11 => (intro wS hSw; (try dsimp only at hSw); go_simp; (try with_reducible rfl))
          try simp only [Act.put, List.setIfInBounds_toArray, List.set_cons_zero, List.set_cons_succ]
          refine wpAnyH_ready (rs := [11]) (by kernel_rfl) (by simp) ?_
          refine cons_at (some 169) rfl rfl (by kernel_rfl) (fun K hK => ?kx19_13) AllReadyH.nil
          go_simp
          (go_at_call 42; refine (HT.out _).mono ?_; rintro e w' ⟨rfl, hbel⟩)
          try go_wp2_with fail
          refine hK.out _ _ ?sx19_13 (fun hHeld => ?_)
          case sx19_13 => ((try dsimp only); first | exact keepB8 (by assumption) hbel | assumption)
          clear hK K
          try simp only [Act.put, List.setIfInBounds_toArray, List.set_cons_zero, List.set_cons_succ]
          refine take_at 12 (some 170) (v := ?vx19_14) rfl rfl (by kernel_rfl) (by kernel_rfl) (by kernel_rfl) (fun _ _ _ h => h) (Or.inl ⟨by kernel_rfl, ?yx19_14⟩) hHeld ?zx19_14
          case yx19_14 => (intro wS hSw; (try dsimp only at hSw); go_simp; (try with_reducible rfl))
          try simp only [Act.put, List.setIfInBounds_toArray, List.set_cons_zero, List.set_cons_succ]
          refine take_at 13 (some 171) (v := ?vx19_15) rfl rfl (by kernel_rfl) (by kernel_rfl) (by kernel_rfl) (fun _ _ _ h => h) (Or.inl ⟨by kernel_rfl, ?yx19_15⟩) hHeld ?zx19_15
          case yx19_15 => (intro wS hSw; (try dsimp only at hSw); go_simp; (try with_reducible rfl))
          try simp only [Act.put, List.setIfInBounds_toArray, List.set_cons_zero, List.set_cons_succ]
          refine wpAnyH_done (by kernel_rfl) ?_ _
          obtain ⟨hbW, -, -, -, -, -, -, -, -⟩ := hHeld
          have HA2 := Lib.hid (HA.out.below hbW)
          have HB2 := Lib.hid (HB.out.trans (hbW.mono (by omega))); clear hbW
          clear c0 c1 c2 c3 c4 c5 c6 c7
          go_wp2
          go_roundw
          case rel =>
            refine ⟨q + 1, r, by omega, by omega, by omega, by omega, by rw [← Nat.add_assoc, hq]; go_num, by rw [hhi], HA2, Lib.hid ?_, HR, HB2⟩
            intro x y _ h h2
            rw [Nat.add_sub_cancel, HX.out.2] at h
            rw [show D - (q + 1) = p by omega, HX.out.1] at h2
            cases h; cases h2; exact hgt
          case measure => simp [intOf] <;> omega
      · obtain rfl : hi = lo := by omega
        obtain rfl : r = s := by omega
        obtain ⟨t, ht⟩ : ∃ t, r + t = D := ⟨D - r, by omega⟩
        rw [show D - r = t by omega] at HF HR
        obtain ⟨E, hE⟩ : ∃ E, m + t = E := ⟨_, rfl⟩
        have hE2 : (nn : Int) - hi = E := by omega
        have htv : t ≤ lv := by omega
        go_upto_region 39 with (fail)
        have HC := Lib.hid (fun M1 M2 m1 m2 => cut_merge (M1 := M1) (M2 := M2) HS.out.1 HS.out.2 HF.out HR.out (by have := HL.out; omega) (by have := HL.out; omega) m1 m2)
        have HSu := Lib.hid (And.intro (HS.out.1.sublist (List.take_sublist r U)) (HS.out.1.sublist (List.drop_sublist r U)))
        have HSv := Lib.hid (And.intro (HS.out.2.sublist (List.take_sublist t V)) (HS.out.2.sublist (List.drop_sublist t V)))
        have hl1 : (U.take r).length = r := by rw [List.length_take]; have := HL.out; omega
        have hl2 : (U.drop r).length = lu - r := by rw [List.length_drop]; have := HL.out; omega
        have hl3 : (V.take t).length = t := by rw [List.length_take]; have := HL.out; omega
        have hl4 : (V.drop t).length = lv - t := by rw [List.length_drop]; have := HL.out; omega
        have HA1 : Hid (Arr B wr g n cap (X ++ (U.take r ++ (U.drop r ++ (V.take t ++ (V.drop t ++ Y)))))) := Lib.hid (by rw [← List.append_assoc (V.take t), List.take_append_drop, ← List.append_assoc (U.take r), List.take_append_drop]; exact HA.out)
        have hXa := HL.out.1
        clear HA HF HR HS
        generalize U.take r = u1 at *
        generalize U.drop r = u2 at *
        generalize V.take t = v1 at *
        generalize V.drop t = v2 at *
        have HLn := Lib.hid (And.intro hl1 (And.intro hl2 (And.intro hl3 (And.intro hl4 hXa))))
        clear hl1 hl2 hl3 hl4 hXa
        have hhm : hi ≤ m := by omega
        have hmE : m ≤ E := by omega
        go_cut [185] (fun x wx => x = .bool (decide (hi < m ∧ m < E)) ∧ wx = wr)
        case first =>
          as_aux_lemma =>
          by_cases q1 : hi < m
          · have q1' : (hi : Int) < m := by omega
            by_cases q2 : m < E
            · have q2' : (m : Int) < E := by omega
              go_wp2_with fail
              go_meet
              exact ⟨congrArg Value.bool (decide_eq_true (p := hi < m ∧ m < E) ⟨q1, q2⟩).symm, rfl⟩
            · have q2' : ¬ (m : Int) < E := by omega
              go_wp2_with fail
              go_meet
              exact ⟨congrArg Value.bool (decide_eq_false (p := hi < m ∧ m < E) (fun h => q2 h.2)).symm, rfl⟩
          · have q1' : ¬ (hi : Int) < m := by omega
            go_wp2_with fail
            go_meet
            exact ⟨congrArg Value.bool (decide_eq_false (p := hi < m ∧ m < E) (fun h => q1 h.1)).symm, rfl⟩
        case rest =>
          obtain ⟨rfl, hw1⟩ := hcut
          cases hw1
          go_upto_if 185 with (fail)
          go_cut [] (fun wx => Hid (Arr B wx g n cap (X ++ (u1 ++ (v1 ++ (u2 ++ (v2 ++ Y)))))) ∧ Hid (Below B w0 wx))
          case first =>
            as_aux_lemma =>
            by_cases hP : hi < m ∧ m < E
            · have HR := Lib.hid (rot_any g n cap B (X ++ u1) u2 v1 (v2 ++ Y) hi m E wr (by rw [List.append_assoc]; exact HA1.out) (by rw [List.length_append]; have := HLn.out; omega) (by have := HLn.out; omega) (by have := HLn.out; omega) (by have := HLn.out; omega) (by have := HLn.out; omega) hn (by omega))
              rw [decide_eq_true (p := hi < m ∧ m < E) hP]
              go_wp2_with fail
              refine HR.out.mono ?_
              rintro e w' ⟨rfl, hA, hb⟩
              have HA := Lib.hid hA; clear hA
              have HB2 := Lib.hid (HB.out.trans hb); clear hb
              go_wp2_with fail
              go_meet
              exact ⟨Lib.hid (by have := HA.out; rwa [List.append_assoc] at this), HB2⟩
            · rw [decide_eq_false (p := hi < m ∧ m < E) hP]
              go_wp2_with fail
              go_meet
              refine ⟨Lib.hid ?_, HB⟩
              have he : u2 ++ v1 = v1 ++ u2 := by
                have := HLn.out
                rcases (by omega : u2.length = 0 ∨ v1.length = 0) with h | h
                · rw [List.eq_nil_of_length_eq_zero h, List.append_nil]; rfl
                · rw [List.eq_nil_of_length_eq_zero h, List.append_nil]; rfl
              rw [← List.append_assoc v1, ← he, List.append_assoc]
              exact HA1.out
          case rest =>
            clear HA1 HB hzb
            obtain ⟨HA, HB⟩ := hcut
            rename World => w1
            have hz1 := HB.out.size
            go_upto_region 41 with (fail)
            go_cut [199] (fun x wx => x = .bool (decide (a < hi ∧ hi < mid)) ∧ wx = w1)
            case first =>
              as_aux_lemma =>
              by_cases q1 : a < hi
              · have q1' : (a : Int) < hi := by omega
                by_cases q2 : hi < mid
                · have q2' : (hi : Int) < mid := by omega
                  go_wp2_with fail
                  go_meet
                  exact ⟨congrArg Value.bool (decide_eq_true (p := a < hi ∧ hi < mid) ⟨q1, q2⟩).symm, rfl⟩
                · have q2' : ¬ (hi : Int) < mid := by omega
                  go_wp2_with fail
                  go_meet
                  exact ⟨congrArg Value.bool (decide_eq_false (p := a < hi ∧ hi < mid) (fun h => q2 h.2)).symm, rfl⟩
              · have q1' : ¬ (a : Int) < hi := by omega
                go_wp2_with fail
                go_meet
                exact ⟨congrArg Value.bool (decide_eq_false (p := a < hi ∧ hi < mid) (fun h => q1 h.1)).symm, rfl⟩
            case rest =>
              obtain ⟨rfl, hw1⟩ := hcut
              cases hw1
              go_upto_if 199 with (fail)
              go_cut [] (fun wx => Hid (∃ M1, Arr B wx g n cap (X ++ (M1 ++ (u2 ++ (v2 ++ Y)))) ∧ Stb Ev.t (u1 ++ v1) M1 ∧ M1.length = D) ∧ Hid (Below B w0 wx))
              case first =>
                as_aux_lemma =>
                by_cases hP : a < hi ∧ hi < mid
                · have HR := Lib.hid (HI.out X u1 v1 (u2 ++ (v2 ++ Y)) a hi mid w1 HA.out HLn.out.2.2.2.2 (by have := HLn.out; omega) (by have := HLn.out; omega) HSu.out.1 HSv.out.1 (by have := HLn.out; omega) (by have := HLn.out; omega) (by omega) (by have := HLn.out; omega))
                  rw [decide_eq_true (p := a < hi ∧ hi < mid) hP]
                  go_wp2_with fail
                  refine HR.out.mono ?_
                  rintro e w' ⟨rfl, hM, hb⟩
                  have HM := Lib.hid hM; clear hM
                  have HB2 := Lib.hid (HB.out.trans hb); clear hb
                  go_wp2_with fail
                  go_meet
                  refine ⟨Lib.hid ?_, HB2⟩
                  obtain ⟨M1, h1, h2, h3⟩ := HM.out
                  exact ⟨M1, h1, h2, by have := HLn.out; omega⟩
                · rw [decide_eq_false (p := a < hi ∧ hi < mid) hP]
                  go_wp2_with fail
                  go_meet
                  refine ⟨Lib.hid ⟨u1 ++ v1, by rw [List.append_assoc]; exact HA.out, Stb.self ?_, by rw [List.length_append]; have := HLn.out; omega⟩, HB⟩
                  have := HLn.out
                  rcases (by omega : u1.length = 0 ∨ v1.length = 0) with h | h
                  · rw [List.eq_nil_of_length_eq_zero h]; exact HSv.out.1
                  · rw [List.eq_nil_of_length_eq_zero h, List.append_nil]; exact HSu.out.1
              case rest =>
                clear HA HB hz1
                obtain ⟨HA, HB⟩ := hcut
                rename World => w2
                have hz2 := HB.out.size
                obtain ⟨M1, hA, hS1, hM1⟩ := HA.out
                clear HA
                have HA := Lib.hid hA; clear hA
                have HS1 := Lib.hid hS1; clear hS1
                go_upto_region 43 with (fail)
                go_cut [213] (fun x wx => x = .bool (decide (mid < E ∧ E < b)) ∧ wx = w2)
                case first =>
                  as_aux_lemma =>
                  by_cases q1 : mid < E
                  · have q1' : (mid : Int) < E := by omega
                    by_cases q2 : E < b
                    · have q2' : (E : Int) < b := by omega
                      go_wp2_with fail
                      go_meet
                      exact ⟨congrArg Value.bool (decide_eq_true (p := mid < E ∧ E < b) ⟨q1, q2⟩).symm, rfl⟩
                    · have q2' : ¬ (E : Int) < b := by omega
                      go_wp2_with fail
                      go_meet
                      exact ⟨congrArg Value.bool (decide_eq_false (p := mid < E ∧ E < b) (fun h => q2 h.2)).symm, rfl⟩
                  · have q1' : ¬ (mid : Int) < E := by omega
                    go_wp2_with fail
                    go_meet
                    exact ⟨congrArg Value.bool (decide_eq_false (p := mid < E ∧ E < b) (fun h => q1 h.1)).symm, rfl⟩
                case rest =>
                  obtain ⟨rfl, hw1⟩ := hcut
                  cases hw1
                  by_cases hP : mid < E ∧ E < b
                  · have HR := Lib.hid (HI.out (X ++ M1) u2 v2 Y mid E b w2 (by rw [List.append_assoc]; exact HA.out) (by rw [List.length_append]; have := HLn.out; omega) (by have := HLn.out; omega) (by have := HLn.out; omega) HSu.out.2 HSv.out.2 (by have := HLn.out; omega) (by have := HLn.out; omega) (by omega) (by have := HLn.out; omega))
                    rw [decide_eq_true (p := mid < E ∧ E < b) hP]
                    go_wp2_with fail
                    refine HR.out.mono ?_
                    rintro e w' ⟨rfl, hM, hb⟩
                    have HM := Lib.hid hM; clear hM
                    have HB2 := Lib.hid (HB.out.trans hb); clear hb
                    go_wp2
                    go_end0
                    obtain ⟨M2, h1, h2, h3⟩ := HM.out
                    refine ⟨rfl, ⟨M1 ++ M2, by rw [List.append_assoc] at h1 ⊢; exact h1, HC.out _ _ HS1.out h2, ?_⟩, HB2.out⟩
                    rw [List.length_append]
                    have := HLn.out
                    have := HL.out
                    omega
                  · rw [decide_eq_false (p := mid < E ∧ E < b) hP]
                    go_wp2
                    go_end0
                    refine ⟨rfl, ⟨M1 ++ (u2 ++ v2), by rw [List.append_assoc, List.append_assoc]; exact HA.out, HC.out _ _ HS1.out (Stb.self ?_), ?_⟩, HB.out⟩
                    · have := HLn.out
                      rcases (by omega : u2.length = 0 ∨ v2.length = 0) with h | h
                      · rw [List.eq_nil_of_length_eq_zero h]; exact HSv.out.2
                      · rw [List.eq_nil_of_length_eq_zero h, List.append_nil]; exact HSu.out.2
                    · rw [List.length_append, List.length_append]
                      have := HLn.out
                      have := HL.out
                      omega
/-- symMergeCmpFunc: two sorted neighbouring parts, neither of them empty, are merged, stably -/
theorem symM_any (g n cap B : Nat) (hn : n ≤ 1000) : ∀ (N : Nat) (X U V Y : List Ev) (a m b : Nat) (w : World), Arr B w g n cap (X ++ (U ++ (V ++ Y))) → X.length = a → a + U.length = m → m + V.length = b → Srt Ev.t U → Srt Ev.t V → 0 < U.length → 0 < V.length → B ≤ w.heap.size → U.length + V.length < N →
    Calls Tryz.prog 77 #[.slice (some ⟨g, 0, none⟩) n cap, .int .i64 a, .int .i64 m, .int .i64 b, mtF] w fun e w' => SmQ B g n cap X U V Y e w w' := by
  intro N
  induction N with
  | zero => intro X U V Y a m b w _ _ _ _ _ _ _ _ _ h; omega
  | succ N ih =>
    intro X U V Y a m b w hO ha hm hb hU hV hU0 hV0 hBw hN
    by_cases h1 : U.length = 1
    · obtain ⟨u, rfl⟩ := List.length_eq_one_iff.1 h1
      exact symM_one g n cap B X V Y u a m b w hO ha hm hb hV hn hBw
    · by_cases h2 : V.length = 1
      · obtain ⟨v, rfl⟩ := List.length_eq_one_iff.1 h2
        exact symM_last g n cap B X U Y v a m b w hO ha hm hb hU h1 hn hBw
      · exact symM_step g n cap B X U V Y a m b w hO ha hm hb hU hV (by omega) (by omega) hn hBw _ rfl (fun X' U' V' Y' a' m' b' w' k1 k2 k3 k4 k5 k6 k7 k8 k9 k10 => ih X' U' V' Y' a' m' b' w' k1 k2 k3 k4 k5 k6 k7 k8 k9 (by omega))
end Go.Proofs.YtohbkohidpgjpaaGreatDoor
