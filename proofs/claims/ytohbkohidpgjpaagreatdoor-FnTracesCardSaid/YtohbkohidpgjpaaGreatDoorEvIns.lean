/- Contract: the library's insertionSortCmpFunc on events by their ticks: a part of the array is sorted, stably. Condition: at most 1000 events. -/
import Derived.Test.YtohbkohidpgjpaaGreatDoorEvSw
namespace Go.Proofs.YtohbkohidpgjpaaGreatDoor
open Go.RowKit

abbrev mtF : Value := .func (.func 42) #[] #[]
set_option maxRecDepth 100000 in
set_option maxHeartbeats 4000000 in
theorem insSort_any (g n cap B : Nat) (X Y Z : List Ev) (a b : Nat) (w : World) (hO : Arr B w g n cap (X ++ (Y ++ Z))) (ha : X.length = a) (hb : a + Y.length = b) (hn : n ≤ 1000) (hBw : B ≤ w.heap.size) :
    Calls Tryz.prog 76 #[.slice (some ⟨g, 0, none⟩) n cap, .int .i64 a, .int .i64 b, mtF] w fun e w' => e = .returned (.tuple #[]) ∧ (∃ M, Arr B w' g n cap (X ++ (M ++ Z)) ∧ Stb Ev.t Y M ∧ M.length = Y.length) ∧ Below B w w' := by
  have hlen := hO.2
  simp only [List.length_append] at hlen
  have hge := hO.ge
  have hcap := hO.le
  have HO := Lib.hid hO; clear hO
  have HL := Lib.hid (And.intro ha hb)
  have hbn : b ≤ n := by omega
  have hab : a ≤ b := by omega
  clear hlen ha hb
  go_enter Tryz.func76, Tryz.ntmps76
  go_wp2
  go_loopw [8, 9] (fun i _ wr => ∃ c : Nat, 1 ≤ c ∧ (a + c ≤ b ∨ c = 1) ∧ i = .int .i64 (a + c : Nat) ∧ Hid (∃ S, Arr B wr g n cap (X ++ (S ++ (Y.drop c ++ Z))) ∧ Stb Ev.t (Y.take c) S ∧ S.length = min c Y.length) ∧ Hid (Below B w wr))
    (fun i _ _ => b - (intOf i).toNat)
  case atStart =>
    refine ⟨1, Nat.le_refl _, .inr rfl, by go_num, Lib.hid ⟨Y.take 1, ?_, ?_, List.length_take⟩, Lib.hid (Below.refl _ _)⟩
    · rw [← List.append_assoc (Y.take 1), List.take_append_drop]; exact HO.out
    · refine Stb.self ?_
      cases Y with
      | nil => exact List.Pairwise.nil
      | cons y r => exact List.pairwise_singleton _ _
  case round =>
    clear HO
    obtain ⟨c, hc1, hc2, rfl, HS, HG⟩ := hrel
    by_cases hlt : a + c < b
    · obtain ⟨S, hA, hSt, hSl⟩ := HS.out
      clear HS
      have hcY : c < Y.length := by have := HL.out; omega
      have hSc : S.length = c := by omega
      obtain ⟨⟨xt, xn, xk, xm⟩, hx⟩ : ∃ x, Y[c]? = some x := ⟨_, List.getElem?_eq_getElem hcY⟩
      have HX : Hid (Y.drop c = ⟨xt, xn, xk, xm⟩ :: Y.drop (c + 1) ∧ Y.take (c + 1) = Y.take c ++ [⟨xt, xn, xk, xm⟩]) := Lib.hid (by
        obtain ⟨h1, h2⟩ := List.getElem?_eq_some_iff.1 hx
        exact ⟨by rw [List.drop_eq_getElem_cons h1, h2], by rw [List.take_succ_eq_append_getElem h1, h2]⟩)
      clear hx hSl
      have hA2 : Arr B wr g n cap (arr X S ⟨xt, xn, xk, xm⟩ c (Y.drop (c + 1) ++ Z)) := by
        rw [arr, ← hSc, slot_end, hSc, List.append_assoc]
        rw [HX.out.1] at hA
        exact hA
      have HA := Lib.hid hA2; clear hA hA2
      have HSt := Lib.hid hSt; clear hSt
      have HSc := Lib.hid hSc; clear hSc
      generalize hD : Y.drop (c + 1) ++ Z = D at HA
      have HD := Lib.hid hD; clear hD
      obtain ⟨I, hI⟩ : ∃ I, a + c = I := ⟨_, rfl⟩
      rw [hI] at hlt ⊢
      go_wp2
      go_loopw [9] (fun j wr2 => ∃ k : Nat, k ≤ c ∧ j = .int .i64 (a + k : Nat) ∧ Hid (Arr B wr2 g n cap (arr X S ⟨xt, xn, xk, xm⟩ k D)) ∧ Hid (∀ y, S[k]? = some y → xt < y.t) ∧ Hid (Below B w wr2))
        (fun j _ => (intOf j).toNat)
      case atStart => exact ⟨c, Nat.le_refl _, by rw [hI], HA, Lib.hid (fun y hy => by rw [List.getElem?_eq_none (by have := HSc.out; omega)] at hy; cases hy), HG⟩
      case round =>
        clear HA HG
        obtain ⟨k, hk, rfl, HAk, HPk, HGk⟩ := hrel
        rcases k with _ | k
        · have hd0 : decide ((a : Int) < (a : Int)) = false := by simp
          go_wp2_with fail
          go_quiet (fail)
          go_wp2
          go_roundw
          case rel =>
            refine ⟨c + 1, by omega, .inl (by omega), by subst hI; go_num, Lib.hid ⟨slot S ⟨xt, xn, xk, xm⟩ 0, ?_, ?_, ?_⟩, Lib.hid (below_drewN HGk.out _)⟩
            · rw [HD.out]; exact HAk.out.below (below_drewN (Below.refl _ _) _)
            · rw [HX.out.2]; exact Stb.parts HSt.out (Stb.self (List.pairwise_singleton _ _)) (slot_back HSt.out.1 (fun y h => absurd h (by omega)) HPk.out (Nat.zero_le _))
            · rw [slot_len]; have := HSc.out; omega
          case measure => simp [intOf]; omega
        · obtain ⟨⟨yt, yn, yk, ym⟩, hy⟩ : ∃ y, S[k]? = some y := ⟨_, List.getElem?_eq_getElem (by have := HSc.out; omega)⟩
          have e1 := arr_at (A := X) (S := S) (x := ⟨xt, xn, xk, xm⟩) (k := k + 1) (D := D) (by have := HSc.out; omega)
          have e2 := arr_lo (A := X) (x := (⟨xt, xn, xk, xm⟩ : Ev)) (D := D) hy
          have e3 := arr_down (A := X) (x := (⟨xt, xn, xk, xm⟩ : Ev)) (D := D) hy
          obtain ⟨J, hJ⟩ : ∃ J, a + k = J := ⟨_, rfl⟩
          rw [← Nat.add_assoc, HL.out.1, hJ] at e1 e3
          rw [HL.out.1, hJ] at e2
          rw [← Nat.add_assoc, hJ]
          obtain ⟨c0, c1, c2, c3⟩ := HAk.out.cells e1
          obtain ⟨c4, c5, c6, c7⟩ := HAk.out.cells e2
          have hJn : J + 1 < n := by omega
          have hk1 : (0 : Int) ≤ (J : Int) + 1 := by omega
          have hk2 : (J : Int) + 1 < (n : Int) := by omega
          have hk3 : (J : Int) < (n : Int) := by omega
          have hk4 : IntKind.i64.wrap (J : Int) = (J : Int) := by rw [IntKind.wrap_i64]; omega
          have hk5 : (a : Int) < (J : Int) + 1 := by omega
          have HT := Lib.hid (fun w => mtC_any ⟨xt, xn, xk, xm⟩ ⟨yt, yn, yk, ym⟩ w)
          have HE := Lib.hid (And.intro e1 (And.intro e2 e3)); clear e1 e2 e3
          have HY := Lib.hid hy; clear hy
          by_cases hgt : xt < yt
          · go_wp2_with fail
            refine wp_region_held_drew (S := (fun w' => Below wr.heap.size wr w' ∧ w'.cell? ⟨g, (J + 1) * 4, none⟩ = some (.int .i64 xt) ∧ w'.cell? ⟨g, (J + 1) * 4 + 1, none⟩ = some (.int .i64 xn) ∧ w'.cell? ⟨g, (J + 1) * 4 + 2, none⟩ = some (.int .i64 xk) ∧ w'.cell? ⟨g, (J + 1) * 4 + 3, none⟩ = some (.int .i64 xm) ∧ w'.cell? ⟨g, J * 4, none⟩ = some (.int .i64 yt) ∧ w'.cell? ⟨g, J * 4 + 1, none⟩ = some (.int .i64 yn) ∧ w'.cell? ⟨g, J * 4 + 2, none⟩ = some (.int .i64 yk) ∧ w'.cell? ⟨g, J * 4 + 3, none⟩ = some (.int .i64 ym))) (by kernel_rfl) ?rx12s (fun hHeld => ?rx120)
            case rx12s => ((try dsimp only); exact ⟨(Below.refl _ _).drew, c0, c1, c2, c3, c4, c5, c6, c7⟩)
            try simp only [Act.put, List.setIfInBounds_toArray, List.set_cons_zero, List.set_cons_succ]
            refine take_at 0 (some 18) (v := ?vx12_1) rfl rfl (by kernel_rfl) (by kernel_rfl) (by kernel_rfl) (fun _ _ _ h => h) (Or.inl ⟨by kernel_rfl, ?yx12_1⟩) hHeld ?zx12_1
            case yx12_1 => (intro wS hSw; (try dsimp only at hSw); go_simp; (try with_reducible rfl))
            try simp only [Act.put, List.setIfInBounds_toArray, List.set_cons_zero, List.set_cons_succ]
            refine take_at 1 (some 19) (v := ?vx12_2) rfl rfl (by kernel_rfl) (by kernel_rfl) (by kernel_rfl) (fun _ _ _ h => h) (Or.inl ⟨by kernel_rfl, ?yx12_2⟩) hHeld ?zx12_2
            case yx12_2 => (intro wS hSw; (try dsimp only at hSw); go_simp; (try with_reducible rfl))
            try simp only [Act.put, List.setIfInBounds_toArray, List.set_cons_zero, List.set_cons_succ]
            refine take_at 2 (some 20) (v := ?vx12_3) rfl rfl (by kernel_rfl) (by kernel_rfl) (by kernel_rfl) (fun _ _ _ h => h) (Or.inl ⟨by kernel_rfl, ?yx12_3⟩) hHeld ?zx12_3
            case yx12_3 => (intro wS hSw; (try dsimp only at hSw); go_simp; (try with_reducible rfl))
            try simp only [Act.put, List.setIfInBounds_toArray, List.set_cons_zero, List.set_cons_succ]
            refine take_at 3 (some 21) (v := ?vx12_4) rfl rfl (by kernel_rfl) (by kernel_rfl) (by kernel_rfl) (fun _ _ _ h => h) (Or.inl ⟨by kernel_rfl, ?yx12_4⟩) hHeld ?zx12_4
            case yx12_4 => (intro wS hSw; (try dsimp only at hSw); go_simp; (try with_reducible rfl))
            try simp only [Act.put, List.setIfInBounds_toArray, List.set_cons_zero, List.set_cons_succ]
            refine take_at 4 (some 22) (v := ?vx12_5) rfl rfl (by kernel_rfl) (by kernel_rfl) (by kernel_rfl) (fun _ _ _ h => h) (Or.inl ⟨by kernel_rfl, ?yx12_5⟩) hHeld ?zx12_5
            case yx12_5 => (intro wS hSw; (try dsimp only at hSw); go_simp; (try with_reducible rfl))
            try simp only [Act.put, List.setIfInBounds_toArray, List.set_cons_zero, List.set_cons_succ]
            refine take_at 5 (some 23) (v := ?vx12_6) rfl rfl (by kernel_rfl) (by kernel_rfl) (by kernel_rfl) (fun _ _ _ h => h) (Or.inl ⟨by kernel_rfl, ?yx12_6⟩) hHeld ?zx12_6
            case yx12_6 => (intro wS hSw; (try dsimp only at hSw); go_simp; (try with_reducible rfl))
            try simp only [Act.put, List.setIfInBounds_toArray, List.set_cons_zero, List.set_cons_succ]
            refine take_at 6 (some 24) (v := ?vx12_7) rfl rfl (by kernel_rfl) (by kernel_rfl) (by kernel_rfl) (fun _ _ _ h => h) (Or.inl ⟨by kernel_rfl, ?yx12_7⟩) hHeld ?zx12_7
            case yx12_7 => (intro wS hSw; (try dsimp only at hSw); go_simp; (try with_reducible rfl))
            try simp only [Act.put, List.setIfInBounds_toArray, List.set_cons_zero, List.set_cons_succ]
            refine take_at 7 (some 25) (v := ?vx12_8) rfl rfl (by kernel_rfl) (by kernel_rfl) (by kernel_rfl) (fun _ _ _ h => h) (Or.inl ⟨by kernel_rfl, ?yx12_8⟩) hHeld ?zx12_8
            case yx12_8 => (intro wS hSw; (try dsimp only at hSw); go_simp; (try with_reducible rfl))
            try simp only [Act.put, List.setIfInBounds_toArray, List.set_cons_zero, List.set_cons_succ]
            refine take_at 8 (some 26) (v := ?vx12_9) rfl rfl (by kernel_rfl) (by kernel_rfl) (by kernel_rfl) (fun _ _ _ h => h) (Or.inl ⟨by kernel_rfl, ?yx12_9⟩) hHeld ?zx12_9
            case yx12_9 => (intro wS hSw; (try dsimp only at hSw); go_simp; (try with_reducible rfl))
            try simp only [Act.put, List.setIfInBounds_toArray, List.set_cons_zero, List.set_cons_succ]
            refine take_at 9 (some 27) (v := ?vx12_10) rfl rfl (by kernel_rfl) (by kernel_rfl) (by kernel_rfl) (fun _ _ _ h => h) (Or.inl ⟨by kernel_rfl, ?yx12_10⟩) hHeld ?zx12_10
            case yx12_10 => (intro wS hSw; (try dsimp only at hSw); go_simp; (try with_reducible rfl))
            try simp only [Act.put, List.setIfInBounds_toArray, List.set_cons_zero, List.set_cons_succ]
            refine take_at 10 (some 28) (v := ?vx12_11) rfl rfl (by kernel_rfl) (by kernel_rfl) (by kernel_rfl) (fun _ _ _ h => h) (Or.inl ⟨by kernel_rfl, ?yx12_11⟩) hHeld ?zx12_11
            case yx12_11 => (intro wS hSw; (try dsimp only at hSw); go_simp; (try with_reducible rfl))
            try simp only [Act.put, List.setIfInBounds_toArray, List.set_cons_zero, List.set_cons_succ]
            refine take_at 11 (some 29) (v := ?vx12_12) rfl rfl (by kernel_rfl) (by kernel_rfl) (by kernel_rfl) (fun _ _ _ h => h) (Or.inl ⟨by kernel_rfl, ?yx12_12⟩) hHeld ?zx12_12
            case yx12_12 => (intro wS hSw; (try dsimp only at hSw); go_simp; (try with_reducible rfl))
            try simp only [Act.put, List.setIfInBounds_toArray, List.set_cons_zero, List.set_cons_succ]
            refine take_at 12 (some 30) (v := ?vx12_13) rfl rfl (by kernel_rfl) (by kernel_rfl) (by kernel_rfl) (fun _ _ _ h => h) (Or.inl ⟨by kernel_rfl, ?yx12_13⟩) hHeld ?zx12_13
            case yx12_13 => (intro wS hSw; (try dsimp only at hSw); go_simp; (try with_reducible rfl))
            try simp only [Act.put, List.setIfInBounds_toArray, List.set_cons_zero, List.set_cons_succ]
            refine take_at 13 (some 31) (v := ?vx12_14) rfl rfl (by kernel_rfl) (by kernel_rfl) (by kernel_rfl) (fun _ _ _ h => h) (Or.inl ⟨by kernel_rfl, ?yx12_14⟩) hHeld ?zx12_14
            case yx12_14 => (intro wS hSw; (try dsimp only at hSw); go_simp; (try with_reducible rfl))
            try simp only [Act.put, List.setIfInBounds_toArray, List.set_cons_zero, List.set_cons_succ]
            refine wpAnyH_ready (rs := [14]) (by kernel_rfl) (by simp) ?_
            refine cons_at (some 32) rfl rfl (by kernel_rfl) (fun K hK => ?kx12_16) AllReadyH.nil
            go_simp
            (go_at_call 42; refine (HT.out _).mono ?_; rintro e w' ⟨rfl, hbel⟩)
            try go_wp2_with fail
            refine hK.out _ _ ?sx12_16 (fun hHeld => ?_)
            case sx12_16 => ((try dsimp only); first | exact keepB8 (by assumption) hbel | assumption)
            clear hK K
            try simp only [Act.put, List.setIfInBounds_toArray, List.set_cons_zero, List.set_cons_succ]
            refine take_at 15 (some 33) (v := ?vx12_17) rfl rfl (by kernel_rfl) (by kernel_rfl) (by kernel_rfl) (fun _ _ _ h => h) (Or.inl ⟨by kernel_rfl, ?yx12_17⟩) hHeld ?zx12_17
            case yx12_17 => (intro wS hSw; (try dsimp only at hSw); go_simp; (try with_reducible rfl))
            try simp only [Act.put, List.setIfInBounds_toArray, List.set_cons_zero, List.set_cons_succ]
            refine take_at 16 (some 34) (v := ?vx12_18) rfl rfl (by kernel_rfl) (by kernel_rfl) (by kernel_rfl) (fun _ _ _ h => h) (Or.inl ⟨by kernel_rfl, ?yx12_18⟩) hHeld ?zx12_18
            case yx12_18 => (intro wS hSw; (try dsimp only at hSw); go_simp; (try with_reducible rfl))
            try simp only [Act.put, List.setIfInBounds_toArray, List.set_cons_zero, List.set_cons_succ]
            refine wpAnyH_done (by kernel_rfl) ?_ _
            obtain ⟨hbW, -, -, -, -, -, -, -, -⟩ := hHeld
            have HO2 := Lib.hid (HAk.out.below hbW)
            have HBW := Lib.hid hbW; clear hbW
            clear c0 c1 c2 c3 c4 c5 c6 c7
            obtain ⟨e1, e2, e3⟩ := HE.out
            obtain ⟨c0, c1, c2, c3⟩ := HO2.out.cells e1
            obtain ⟨c4, c5, c6, c7⟩ := HO2.out.cells e2
            have hs := HO2.out.set (k := J + 1) ⟨yt, yn, yk, ym⟩ (by omega)
            have f0 := HO2.out.frozen ((J + 1) * 4)
            have f1 := HO2.out.frozen ((J + 1) * 4 + 1)
            have f2 := HO2.out.frozen ((J + 1) * 4 + 2)
            have f3 := HO2.out.frozen ((J + 1) * 4 + 3)
            have hs2 := hs.1.set (k := J) ⟨xt, xn, xk, xm⟩ (by omega)
            obtain ⟨d0, d1, d2, d3⟩ := hs.1.cells (k := J) (x := ⟨yt, yn, yk, ym⟩) (by rw [List.getElem?_set_ne (by omega)]; exact e2)
            have h0 := hs.1.frozen ((J) * 4)
            have h1 := hs.1.frozen ((J) * 4 + 1)
            have h2 := hs.1.frozen ((J) * 4 + 2)
            have h3 := hs.1.frozen ((J) * 4 + 3)
            rw [e3] at hs2
            have HS2 := Lib.hid hs2; clear hs2
            have HS1 := Lib.hid hs; clear hs
            simp only [set4] at d0 d1 d2 d3 h0 h1 h2 h3 HS1 HS2
            clear e1 e2 e3
            have HCmp : Hid (cmpI xt yt = -1) := Lib.hid (cmpI_neg hgt)
            rw [HCmp.out] at *
            go_wp2
            go_region
            go_wp2
            go_roundw
            case rel =>
              exact ⟨k, by omega, by go_num, Lib.hid (HS2.out.1.below (Below.refl _ _).drew), Lib.hid (fun y hy => by rw [HY.out] at hy; cases hy; exact hgt), Lib.hid (((HGk.out.trans (HBW.out.mono (Nat.le_trans hBw HGk.out.size))).grown (grown_trans HS1.out.2 HS2.out.2) (Nat.le_trans hBw (Nat.le_trans HGk.out.size HBW.out.size)) (fun j hj => by cases hj; exact hge)).drew)⟩
            case measure => simp [intOf] <;> omega
          · obtain ⟨cc, hc, hc0⟩ : ∃ c, cmpI xt yt = c ∧ ¬ c < 0 := ⟨_, rfl, cmpI_not hgt⟩
            rw [show cmpI (Ev.t ⟨xt, xn, xk, xm⟩) (Ev.t ⟨yt, yn, yk, ym⟩) = cc from hc] at HT
            clear hc
            go_wp2_with fail
            refine wp_region_held_drew (S := (fun w' => Below wr.heap.size wr w' ∧ w'.cell? ⟨g, (J + 1) * 4, none⟩ = some (.int .i64 xt) ∧ w'.cell? ⟨g, (J + 1) * 4 + 1, none⟩ = some (.int .i64 xn) ∧ w'.cell? ⟨g, (J + 1) * 4 + 2, none⟩ = some (.int .i64 xk) ∧ w'.cell? ⟨g, (J + 1) * 4 + 3, none⟩ = some (.int .i64 xm) ∧ w'.cell? ⟨g, J * 4, none⟩ = some (.int .i64 yt) ∧ w'.cell? ⟨g, J * 4 + 1, none⟩ = some (.int .i64 yn) ∧ w'.cell? ⟨g, J * 4 + 2, none⟩ = some (.int .i64 yk) ∧ w'.cell? ⟨g, J * 4 + 3, none⟩ = some (.int .i64 ym))) (by kernel_rfl) ?rx13s (fun hHeld => ?rx130)
            case rx13s => ((try dsimp only); exact ⟨(Below.refl _ _).drew, c0, c1, c2, c3, c4, c5, c6, c7⟩)
            try simp only [Act.put, List.setIfInBounds_toArray, List.set_cons_zero, List.set_cons_succ]
            refine take_at 0 (some 18) (v := ?vx13_1) rfl rfl (by kernel_rfl) (by kernel_rfl) (by kernel_rfl) (fun _ _ _ h => h) (Or.inl ⟨by kernel_rfl, ?yx13_1⟩) hHeld ?zx13_1
            case yx13_1 => (intro wS hSw; (try dsimp only at hSw); go_simp; (try with_reducible rfl))
            try simp only [Act.put, List.setIfInBounds_toArray, List.set_cons_zero, List.set_cons_succ]
            refine take_at 1 (some 19) (v := ?vx13_2) rfl rfl (by kernel_rfl) (by kernel_rfl) (by kernel_rfl) (fun _ _ _ h => h) (Or.inl ⟨by kernel_rfl, ?yx13_2⟩) hHeld ?zx13_2
            case yx13_2 => (intro wS hSw; (try dsimp only at hSw); go_simp; (try with_reducible rfl))
            try simp only [Act.put, List.setIfInBounds_toArray, List.set_cons_zero, List.set_cons_succ]
            refine take_at 2 (some 20) (v := ?vx13_3) rfl rfl (by kernel_rfl) (by kernel_rfl) (by kernel_rfl) (fun _ _ _ h => h) (Or.inl ⟨by kernel_rfl, ?yx13_3⟩) hHeld ?zx13_3
            case yx13_3 => (intro wS hSw; (try dsimp only at hSw); go_simp; (try with_reducible rfl))
            try simp only [Act.put, List.setIfInBounds_toArray, List.set_cons_zero, List.set_cons_succ]
            refine take_at 3 (some 21) (v := ?vx13_4) rfl rfl (by kernel_rfl) (by kernel_rfl) (by kernel_rfl) (fun _ _ _ h => h) (Or.inl ⟨by kernel_rfl, ?yx13_4⟩) hHeld ?zx13_4
            case yx13_4 => (intro wS hSw; (try dsimp only at hSw); go_simp; (try with_reducible rfl))
            try simp only [Act.put, List.setIfInBounds_toArray, List.set_cons_zero, List.set_cons_succ]
            refine take_at 4 (some 22) (v := ?vx13_5) rfl rfl (by kernel_rfl) (by kernel_rfl) (by kernel_rfl) (fun _ _ _ h => h) (Or.inl ⟨by kernel_rfl, ?yx13_5⟩) hHeld ?zx13_5
            case yx13_5 => (intro wS hSw; (try dsimp only at hSw); go_simp; (try with_reducible rfl))
            try simp only [Act.put, List.setIfInBounds_toArray, List.set_cons_zero, List.set_cons_succ]
            refine take_at 5 (some 23) (v := ?vx13_6) rfl rfl (by kernel_rfl) (by kernel_rfl) (by kernel_rfl) (fun _ _ _ h => h) (Or.inl ⟨by kernel_rfl, ?yx13_6⟩) hHeld ?zx13_6
            case yx13_6 => (intro wS hSw; (try dsimp only at hSw); go_simp; (try with_reducible rfl))
            try simp only [Act.put, List.setIfInBounds_toArray, List.set_cons_zero, List.set_cons_succ]
            refine take_at 6 (some 24) (v := ?vx13_7) rfl rfl (by kernel_rfl) (by kernel_rfl) (by kernel_rfl) (fun _ _ _ h => h) (Or.inl ⟨by kernel_rfl, ?yx13_7⟩) hHeld ?zx13_7
            case yx13_7 => (intro wS hSw; (try dsimp only at hSw); go_simp; (try with_reducible rfl))
            try simp only [Act.put, List.setIfInBounds_toArray, List.set_cons_zero, List.set_cons_succ]
            refine take_at 7 (some 25) (v := ?vx13_8) rfl rfl (by kernel_rfl) (by kernel_rfl) (by kernel_rfl) (fun _ _ _ h => h) (Or.inl ⟨by kernel_rfl, ?yx13_8⟩) hHeld ?zx13_8
            case yx13_8 => (intro wS hSw; (try dsimp only at hSw); go_simp; (try with_reducible rfl))
            try simp only [Act.put, List.setIfInBounds_toArray, List.set_cons_zero, List.set_cons_succ]
            refine take_at 8 (some 26) (v := ?vx13_9) rfl rfl (by kernel_rfl) (by kernel_rfl) (by kernel_rfl) (fun _ _ _ h => h) (Or.inl ⟨by kernel_rfl, ?yx13_9⟩) hHeld ?zx13_9
            case yx13_9 => (intro wS hSw; (try dsimp only at hSw); go_simp; (try with_reducible rfl))
            try simp only [Act.put, List.setIfInBounds_toArray, List.set_cons_zero, List.set_cons_succ]
            refine take_at 9 (some 27) (v := ?vx13_10) rfl rfl (by kernel_rfl) (by kernel_rfl) (by kernel_rfl) (fun _ _ _ h => h) (Or.inl ⟨by kernel_rfl, ?yx13_10⟩) hHeld ?zx13_10
            case yx13_10 => (intro wS hSw; (try dsimp only at hSw); go_simp; (try with_reducible rfl))
            try simp only [Act.put, List.setIfInBounds_toArray, List.set_cons_zero, List.set_cons_succ]
            refine take_at 10 (some 28) (v := ?vx13_11) rfl rfl (by kernel_rfl) (by kernel_rfl) (by kernel_rfl) (fun _ _ _ h => h) (Or.inl ⟨by kernel_rfl, ?yx13_11⟩) hHeld ?zx13_11
            case yx13_11 => (intro wS hSw; (try dsimp only at hSw); go_simp; (try with_reducible rfl))
            try simp only [Act.put, List.setIfInBounds_toArray, List.set_cons_zero, List.set_cons_succ]
            refine take_at 11 (some 29) (v := ?vx13_12) rfl rfl (by kernel_rfl) (by kernel_rfl) (by kernel_rfl) (fun _ _ _ h => h) (Or.inl ⟨by kernel_rfl, ?yx13_12⟩) hHeld ?zx13_12
            case yx13_12 => (intro wS hSw; (try dsimp only at hSw); go_simp; (try with_reducible rfl))
            try simp only [Act.put, List.setIfInBounds_toArray, List.set_cons_zero, List.set_cons_succ]
            refine take_at 12 (some 30) (v := ?vx13_13) rfl rfl (by kernel_rfl) (by kernel_rfl) (by kernel_rfl) (fun _ _ _ h => h) (Or.inl ⟨by kernel_rfl, ?yx13_13⟩) hHeld ?zx13_13
            case yx13_13 => (intro wS hSw; (try dsimp only at hSw); go_simp; (try with_reducible rfl))
            try simp only [Act.put, List.setIfInBounds_toArray, List.set_cons_zero, List.set_cons_succ]
            refine take_at 13 (some 31) (v := ?vx13_14) rfl rfl (by kernel_rfl) (by kernel_rfl) (by kernel_rfl) (fun _ _ _ h => h) (Or.inl ⟨by kernel_rfl, ?yx13_14⟩) hHeld ?zx13_14
            case yx13_14 => (intro wS hSw; (try dsimp only at hSw); go_simp; (try with_reducible rfl))
            try simp only [Act.put, List.setIfInBounds_toArray, List.set_cons_zero, List.set_cons_succ]
            refine wpAnyH_ready (rs := [14]) (by kernel_rfl) (by simp) ?_
            refine cons_at (some 32) rfl rfl (by kernel_rfl) (fun K hK => ?kx13_16) AllReadyH.nil
            go_simp
            (go_at_call 42; refine (HT.out _).mono ?_; rintro e w' ⟨rfl, hbel⟩)
            try go_wp2_with fail
            refine hK.out _ _ ?sx13_16 (fun hHeld => ?_)
            case sx13_16 => ((try dsimp only); first | exact keepB8 (by assumption) hbel | assumption)
            clear hK K
            try simp only [Act.put, List.setIfInBounds_toArray, List.set_cons_zero, List.set_cons_succ]
            refine take_at 15 (some 33) (v := ?vx13_17) rfl rfl (by kernel_rfl) (by kernel_rfl) (by kernel_rfl) (fun _ _ _ h => h) (Or.inl ⟨by kernel_rfl, ?yx13_17⟩) hHeld ?zx13_17
            case yx13_17 => (intro wS hSw; (try dsimp only at hSw); go_simp; (try with_reducible rfl))
            try simp only [Act.put, List.setIfInBounds_toArray, List.set_cons_zero, List.set_cons_succ]
            refine take_at 16 (some 34) (v := ?vx13_18) rfl rfl (by kernel_rfl) (by kernel_rfl) (by kernel_rfl) (fun _ _ _ h => h) (Or.inl ⟨by kernel_rfl, ?yx13_18⟩) hHeld ?zx13_18
            case yx13_18 => (intro wS hSw; (try dsimp only at hSw); go_simp; (try with_reducible rfl))
            try simp only [Act.put, List.setIfInBounds_toArray, List.set_cons_zero, List.set_cons_succ]
            refine wpAnyH_done (by kernel_rfl) ?_ _
            obtain ⟨hbW, -, -, -, -, -, -, -, -⟩ := hHeld
            have HBW := Lib.hid hbW; clear hbW
            go_wp2
            go_roundw
            case rel =>
              refine ⟨c + 1, by omega, .inl (by omega), by subst hI; go_num, Lib.hid ⟨slot S ⟨xt, xn, xk, xm⟩ (k + 1), ?_, ?_, ?_⟩, Lib.hid (HGk.out.trans (HBW.out.mono (Nat.le_trans hBw HGk.out.size)))⟩
              · rw [HD.out]; exact HAk.out.below HBW.out
              · rw [HX.out.2]; exact Stb.parts HSt.out (Stb.self (List.pairwise_singleton _ _)) (slot_back HSt.out.1 (fun y _ hy => by rw [Nat.add_sub_cancel, HY.out] at hy; cases hy; exact hgt) HPk.out (by have := HSc.out; omega))
              · rw [slot_len]; have := HSc.out; omega
            case measure => simp [intOf]; omega
    · go_wp2
      go_end0
      obtain ⟨S, hA, hSt, hSl⟩ := HS.out
      have hcY : Y.length ≤ c := by have := HL.out; omega
      rw [List.drop_of_length_le hcY] at hA
      rw [List.take_of_length_le hcY] at hSt
      exact ⟨rfl, ⟨S, hA, hSt, by omega⟩, HG.out⟩
end Go.Proofs.YtohbkohidpgjpaaGreatDoor
