/- Counters sorted by falling value: slices.SortStableFunc at the program's comparison, for lists of at most 12 counters (one block of the library's stable sort). -/
import Derived.Test.YtmochhgmhhopoaaDoorSrtMath
import Derived.Test.YtmochhgmhhopoaaDoorCnt7
namespace Go.Proofs.YtmochhgmhhopoaaDoor
open Go.RowKit

def cmpI (x y : Int) : Int := if x < y then -1 else if y < x then 1 else 0
theorem nanI_any (x : Int) (w : World) : Calls Tryd.prog 92 #[.int .i64 x] w fun e w' => e = .returned (.bool false) ∧ w = w' := by
  go_enter Tryd.func92, Tryd.ntmps92
  go_wp2
  go_ret
  exact ⟨by simp, rfl⟩
theorem cmpI_any (x y : Int) (w : World) : Calls Tryd.prog 73 #[.int .i64 x, .int .i64 y] w fun e w' => e = .returned (.int .i64 (cmpI x y)) ∧ w = w' := by
  have H1 := Lib.hid (nanI_any x w)
  have H2 := Lib.hid (nanI_any y w)
  by_cases h1 : x < y
  · go_enter Tryd.func73, Tryd.ntmps73
    go_wp2_with fail
    refine H1.out.mono ?_
    rintro e w1 ⟨rfl, rfl⟩
    go_wp2_with fail
    refine H2.out.mono ?_
    rintro e w1 ⟨rfl, rfl⟩
    go_wp2
    go_ret
    exact ⟨ret_int (by simp [cmpI, h1]), rfl⟩
  · by_cases h2 : y < x
    · go_enter Tryd.func73, Tryd.ntmps73
      go_wp2_with fail
      refine H1.out.mono ?_
      rintro e w1 ⟨rfl, rfl⟩
      go_wp2_with fail
      refine H2.out.mono ?_
      rintro e w1 ⟨rfl, rfl⟩
      go_wp2
      go_ret
      exact ⟨ret_int (by rw [cmpI, if_neg (by omega), if_pos (by omega)]), rfl⟩
    · go_enter Tryd.func73, Tryd.ntmps73
      go_wp2_with fail
      refine H1.out.mono ?_
      rintro e w1 ⟨rfl, rfl⟩
      go_wp2_with fail
      refine H2.out.mono ?_
      rintro e w1 ⟨rfl, rfl⟩
      go_wp2
      go_ret
      exact ⟨ret_int (by rw [cmpI, if_neg (by omega), if_neg (by omega)]), rfl⟩
theorem topC_any (x y : Ct) (w : World) : Calls Tryd.prog 72 #[x.v, y.v] w fun e w' => e = .returned (.int .i64 (cmpI y.vl x.vl)) ∧ Below w.heap.size w w' := by
  obtain ⟨nm, vl⟩ := x
  obtain ⟨nm2, vl2⟩ := y
  have H := Lib.hid (fun w => cmpI_any vl2 vl w)
  go_enter Tryd.func72, Tryd.ntmps72
  go_wp2_with fail
  refine (H.out _).mono ?_
  rintro e w' ⟨rfl, rfl⟩
  go_wp2
  go_ret
  exact ⟨rfl, by go_grown⟩
theorem flatCt_get {R : List Ct} {k : Nat} {x : Ct} (h : R[k]? = some x) : (R.flatMap Ct.cells)[k * 2]? = some (.string x.nm) ∧ (R.flatMap Ct.cells)[k * 2 + 1]? = some (.int .i64 x.vl) := by
  obtain ⟨hk, rfl⟩ := List.getElem?_eq_some_iff.1 h
  exact ⟨flat_get Ct.cells 2 Ct.cells_length R k 0 hk (by omega), flat_get Ct.cells 2 Ct.cells_length R k 1 hk (by omega)⟩
set_option maxRecDepth 100000 in
set_option maxHeartbeats 4000000 in
theorem insSort_any (v : Value) (xs : List Ct) (B : Nat) (w : World) (hO : w.ownsRow B 55 2 v xs.length (xs.flatMap Ct.cells)) (hlen : xs.length ≤ 12) (hBw : B ≤ w.heap.size) :
    Calls Tryd.prog 118 #[v, .int .i64 0, .int .i64 xs.length, .func (.func 72) #[] #[]] w fun e w' => e = .returned (.tuple #[]) ∧ w'.ownsRow B 55 2 v xs.length ((srtN xs xs.length).flatMap Ct.cells) ∧ Below B w w' := by
  obtain ⟨q, cap, g, rfl, hcap, hq⟩ := own_shape hO
  have HQ := Lib.hid hq; clear hq
  have HO := Lib.hid hO; clear hO
  have HS1 : Hid (srtN xs 1 ++ xs.drop 1 = xs) := Lib.hid (by cases xs <;> rfl)
  go_enter Tryd.func118, Tryd.ntmps118
  go_wp2
  go_loopw [8, 9] (fun i _ wr => ∃ n : Nat, 1 ≤ n ∧ (n ≤ xs.length ∨ n = 1) ∧ i = .int .i64 n ∧ Hid (wr.ownsRow B 55 2 (.slice q xs.length cap) xs.length ((srtN xs n ++ xs.drop n).flatMap Ct.cells)) ∧ Hid (Below B w wr))
    (fun i _ _ => xs.length - (intOf i).toNat)
  case atStart => exact ⟨1, Nat.le_refl _, .inr rfl, by go_num, Lib.hid (by rw [HS1.out]; exact HO.out), Lib.hid (Below.refl _ _)⟩
  case round =>
    obtain ⟨n, hn1, hn2, rfl, HOn, HGn⟩ := hrel
    by_cases hlt : n < xs.length
    · obtain ⟨rfl, hge⟩ := HQ.out (by omega)
      have hal := srtN_length xs n (by omega)
      have HSt := Lib.hid (srtN_succ xs n hlt)
      have hdr : xs.drop n = xs[n] :: xs.drop (n + 1) := List.drop_eq_getElem_cons hlt
      rw [hdr] at HOn
      have hrl : (xs.drop (n + 1)).length + (n + 1) = xs.length := by rw [List.length_drop]; omega
      generalize srtN xs n = acc at *
      generalize hx : xs[n] = x at *
      generalize hrest : xs.drop (n + 1) = rest at *
      have HRest := Lib.hid hrest; clear hrest
      obtain ⟨xn, xv⟩ := x
      have hrow := insV_end acc ⟨xn, xv⟩ rest
      rw [hal] at hrow
      rw [← hrow] at HOn
      clear hdr hx hrow
      have hpl := posV_le acc xv n
      have HRL := Lib.hid hrl; clear hrl
      go_wp2
      go_loopw [9] (fun j wr2 => ∃ k : Nat, k ≤ n ∧ j = .int .i64 k ∧ Hid (wr2.ownsRow B 55 2 (.slice (some ⟨g, 0, none⟩) xs.length cap) xs.length ((insV acc ⟨xn, xv⟩ k ++ rest).flatMap Ct.cells)) ∧ Hid (posV acc xv k = posV acc xv n) ∧ Hid (Below B w wr2))
        (fun j _ => (intOf j).toNat)
      case atStart => exact ⟨n, Nat.le_refl _, rfl, HOn, Lib.hid rfl, HGn⟩
      case round =>
        clear HOn HGn
        obtain ⟨k, hk, rfl, HOk, HPk, HGk⟩ := hrel
        rcases k with _ | k
        · have hd0 : decide ((0 : Int) < ((0 : Nat) : Int)) = false := rfl
          go_wp2_with fail
          go_quiet (fail)
          go_wp2
          go_roundw
          case rel => exact ⟨n + 1, by omega, .inl (by omega), by go_num, Lib.hid (by rw [HSt.out, ← HPk.out, HRest.out]; exact own_below HOk.out (below_drewN (Below.refl _ _) _)), Lib.hid (below_drewN HGk.out _)⟩
          case measure => simp [intOf]; omega
        · have hka : k < acc.length := by omega
          have hlow := insV_low acc ⟨xn, xv⟩ k hka rest
          have hsw := insV_swap acc ⟨xn, xv⟩ k hka rest
          have hdn := fun h => posV_down (v := xv) hka h
          have hst := fun h => posV_stay (v := xv) hka h
          generalize hy : acc[k] = y at *
          obtain ⟨yn, yv⟩ := y
          clear hy
          have hhi := insV_get acc ⟨xn, xv⟩ (k + 1) (by omega) rest
          have hRl : (insV acc ⟨xn, xv⟩ (k + 1) ++ rest).length = xs.length := by rw [List.length_append, insV_length]; have := HRL.out; omega
          generalize hR : insV acc ⟨xn, xv⟩ (k + 1) ++ rest = R at *
          have HR := Lib.hid hR; clear hR
          have c0 : wr.cell? ⟨g, k * 2, none⟩ = some (.string yn) := by rw [HOk.out.cellAt (k * 2) (by omega)]; exact (flatCt_get hlow).1
          have c1 : wr.cell? ⟨g, k * 2 + 1, none⟩ = some (.int .i64 yv) := by rw [HOk.out.cellAt (k * 2 + 1) (by omega)]; exact (flatCt_get hlow).2
          have c2 : wr.cell? ⟨g, (k + 1) * 2, none⟩ = some (.string xn) := by rw [HOk.out.cellAt ((k + 1) * 2) (by omega)]; exact (flatCt_get hhi).1
          have c3 : wr.cell? ⟨g, (k + 1) * 2 + 1, none⟩ = some (.int .i64 xv) := by rw [HOk.out.cellAt ((k + 1) * 2 + 1) (by omega)]; exact (flatCt_get hhi).2
          have HHi := Lib.hid hhi; clear hhi
          have HLow := Lib.hid hlow; clear hlow
          have HSW := Lib.hid hsw; clear hsw
          have hk1 : (0 : Int) ≤ (k : Int) + 1 := by omega
          have hk2 : (k : Int) + 1 < (xs.length : Int) := by omega
          have hk4 : IntKind.i64.wrap (k : Int) = (k : Int) := by rw [IntKind.wrap_i64]; omega
          have hk3 : (k : Int) < (xs.length : Int) := by omega
          have HT := Lib.hid (fun w => topC_any ⟨xn, xv⟩ ⟨yn, yv⟩ w)
          by_cases hgt : yv < xv
          · go_wp2_with fail
            refine wp_region_held_drew (S := (fun w' => Below wr.heap.size wr w' ∧ w'.cell? ⟨g, k * 2, none⟩ = some (.string yn) ∧ w'.cell? ⟨g, k * 2 + 1, none⟩ = some (.int .i64 yv) ∧ w'.cell? ⟨g, (k + 1) * 2, none⟩ = some (.string xn) ∧ w'.cell? ⟨g, (k + 1) * 2 + 1, none⟩ = some (.int .i64 xv))) (by kernel_rfl) ?rx1s (fun hHeld => ?rx10)
            case rx1s => ((try dsimp only); exact ⟨(Below.refl _ _).drew, c0, c1, c2, c3⟩)
            try simp only [Act.put, List.setIfInBounds_toArray, List.set_cons_zero, List.set_cons_succ]
            refine take_at 0 (some 18) (v := ?vx1_1) rfl rfl (by kernel_rfl) (by kernel_rfl) (by kernel_rfl) (fun _ _ _ h => h) (Or.inl ⟨by kernel_rfl, ?yx1_1⟩) hHeld ?zx1_1
            case yx1_1 => (intro wS hSw; (try dsimp only at hSw); go_simp; (try with_reducible rfl))
            try simp only [Act.put, List.setIfInBounds_toArray, List.set_cons_zero, List.set_cons_succ]
            refine take_at 1 (some 19) (v := ?vx1_2) rfl rfl (by kernel_rfl) (by kernel_rfl) (by kernel_rfl) (fun _ _ _ h => h) (Or.inl ⟨by kernel_rfl, ?yx1_2⟩) hHeld ?zx1_2
            case yx1_2 => (intro wS hSw; (try dsimp only at hSw); go_simp; (try with_reducible rfl))
            try simp only [Act.put, List.setIfInBounds_toArray, List.set_cons_zero, List.set_cons_succ]
            refine take_at 2 (some 20) (v := ?vx1_3) rfl rfl (by kernel_rfl) (by kernel_rfl) (by kernel_rfl) (fun _ _ _ h => h) (Or.inl ⟨by kernel_rfl, ?yx1_3⟩) hHeld ?zx1_3
            case yx1_3 => (intro wS hSw; (try dsimp only at hSw); go_simp; (try with_reducible rfl))
            try simp only [Act.put, List.setIfInBounds_toArray, List.set_cons_zero, List.set_cons_succ]
            refine take_at 3 (some 21) (v := ?vx1_4) rfl rfl (by kernel_rfl) (by kernel_rfl) (by kernel_rfl) (fun _ _ _ h => h) (Or.inl ⟨by kernel_rfl, ?yx1_4⟩) hHeld ?zx1_4
            case yx1_4 => (intro wS hSw; (try dsimp only at hSw); go_simp; (try with_reducible rfl))
            try simp only [Act.put, List.setIfInBounds_toArray, List.set_cons_zero, List.set_cons_succ]
            refine take_at 4 (some 22) (v := ?vx1_5) rfl rfl (by kernel_rfl) (by kernel_rfl) (by kernel_rfl) (fun _ _ _ h => h) (Or.inl ⟨by kernel_rfl, ?yx1_5⟩) hHeld ?zx1_5
            case yx1_5 => (intro wS hSw; (try dsimp only at hSw); go_simp; (try with_reducible rfl))
            try simp only [Act.put, List.setIfInBounds_toArray, List.set_cons_zero, List.set_cons_succ]
            refine take_at 5 (some 23) (v := ?vx1_6) rfl rfl (by kernel_rfl) (by kernel_rfl) (by kernel_rfl) (fun _ _ _ h => h) (Or.inl ⟨by kernel_rfl, ?yx1_6⟩) hHeld ?zx1_6
            case yx1_6 => (intro wS hSw; (try dsimp only at hSw); go_simp; (try with_reducible rfl))
            try simp only [Act.put, List.setIfInBounds_toArray, List.set_cons_zero, List.set_cons_succ]
            refine take_at 6 (some 24) (v := ?vx1_7) rfl rfl (by kernel_rfl) (by kernel_rfl) (by kernel_rfl) (fun _ _ _ h => h) (Or.inl ⟨by kernel_rfl, ?yx1_7⟩) hHeld ?zx1_7
            case yx1_7 => (intro wS hSw; (try dsimp only at hSw); go_simp; (try with_reducible rfl))
            try simp only [Act.put, List.setIfInBounds_toArray, List.set_cons_zero, List.set_cons_succ]
            refine take_at 7 (some 25) (v := ?vx1_8) rfl rfl (by kernel_rfl) (by kernel_rfl) (by kernel_rfl) (fun _ _ _ h => h) (Or.inl ⟨by kernel_rfl, ?yx1_8⟩) hHeld ?zx1_8
            case yx1_8 => (intro wS hSw; (try dsimp only at hSw); go_simp; (try with_reducible rfl))
            try simp only [Act.put, List.setIfInBounds_toArray, List.set_cons_zero, List.set_cons_succ]
            refine take_at 8 (some 26) (v := ?vx1_9) rfl rfl (by kernel_rfl) (by kernel_rfl) (by kernel_rfl) (fun _ _ _ h => h) (Or.inl ⟨by kernel_rfl, ?yx1_9⟩) hHeld ?zx1_9
            case yx1_9 => (intro wS hSw; (try dsimp only at hSw); go_simp; (try with_reducible rfl))
            try simp only [Act.put, List.setIfInBounds_toArray, List.set_cons_zero, List.set_cons_succ]
            refine take_at 9 (some 27) (v := ?vx1_10) rfl rfl (by kernel_rfl) (by kernel_rfl) (by kernel_rfl) (fun _ _ _ h => h) (Or.inl ⟨by kernel_rfl, ?yx1_10⟩) hHeld ?zx1_10
            case yx1_10 => (intro wS hSw; (try dsimp only at hSw); go_simp; (try with_reducible rfl))
            try simp only [Act.put, List.setIfInBounds_toArray, List.set_cons_zero, List.set_cons_succ]
            refine take_at 10 (some 28) (v := ?vx1_11) rfl rfl (by kernel_rfl) (by kernel_rfl) (by kernel_rfl) (fun _ _ _ h => h) (Or.inl ⟨by kernel_rfl, ?yx1_11⟩) hHeld ?zx1_11
            case yx1_11 => (intro wS hSw; (try dsimp only at hSw); go_simp; (try with_reducible rfl))
            try simp only [Act.put, List.setIfInBounds_toArray, List.set_cons_zero, List.set_cons_succ]
            refine take_at 11 (some 29) (v := ?vx1_12) rfl rfl (by kernel_rfl) (by kernel_rfl) (by kernel_rfl) (fun _ _ _ h => h) (Or.inl ⟨by kernel_rfl, ?yx1_12⟩) hHeld ?zx1_12
            case yx1_12 => (intro wS hSw; (try dsimp only at hSw); go_simp; (try with_reducible rfl))
            try simp only [Act.put, List.setIfInBounds_toArray, List.set_cons_zero, List.set_cons_succ]
            refine take_at 12 (some 30) (v := ?vx1_13) rfl rfl (by kernel_rfl) (by kernel_rfl) (by kernel_rfl) (fun _ _ _ h => h) (Or.inl ⟨by kernel_rfl, ?yx1_13⟩) hHeld ?zx1_13
            case yx1_13 => (intro wS hSw; (try dsimp only at hSw); go_simp; (try with_reducible rfl))
            try simp only [Act.put, List.setIfInBounds_toArray, List.set_cons_zero, List.set_cons_succ]
            refine take_at 13 (some 31) (v := ?vx1_14) rfl rfl (by kernel_rfl) (by kernel_rfl) (by kernel_rfl) (fun _ _ _ h => h) (Or.inl ⟨by kernel_rfl, ?yx1_14⟩) hHeld ?zx1_14
            case yx1_14 => (intro wS hSw; (try dsimp only at hSw); go_simp; (try with_reducible rfl))
            try simp only [Act.put, List.setIfInBounds_toArray, List.set_cons_zero, List.set_cons_succ]
            refine wpAnyH_ready (rs := [14]) (by kernel_rfl) (by simp) ?_
            refine cons_at (some 32) rfl rfl (by kernel_rfl) (fun K hK => ?kx1_16) AllReadyH.nil
            go_simp
            (go_at_call 72; refine (HT.out _).mono ?_; rintro e w' ⟨rfl, hbel⟩)
            try go_wp2_with fail
            refine hK.out _ _ ?sx1_16 (fun hHeld => ?_)
            case sx1_16 => ((try dsimp only); first | exact keepB4 (by assumption) hbel | assumption)
            clear hK K
            try simp only [Act.put, List.setIfInBounds_toArray, List.set_cons_zero, List.set_cons_succ]
            refine take_at 15 (some 33) (v := ?vx1_17) rfl rfl (by kernel_rfl) (by kernel_rfl) (by kernel_rfl) (fun _ _ _ h => h) (Or.inl ⟨by kernel_rfl, ?yx1_17⟩) hHeld ?zx1_17
            case yx1_17 => (intro wS hSw; (try dsimp only at hSw); go_simp; (try with_reducible rfl))
            try simp only [Act.put, List.setIfInBounds_toArray, List.set_cons_zero, List.set_cons_succ]
            refine take_at 16 (some 34) (v := ?vx1_18) rfl rfl (by kernel_rfl) (by kernel_rfl) (by kernel_rfl) (fun _ _ _ h => h) (Or.inl ⟨by kernel_rfl, ?yx1_18⟩) hHeld ?zx1_18
            case yx1_18 => (intro wS hSw; (try dsimp only at hSw); go_simp; (try with_reducible rfl))
            try simp only [Act.put, List.setIfInBounds_toArray, List.set_cons_zero, List.set_cons_succ]
            refine wpAnyH_done (by kernel_rfl) ?_ _
            obtain ⟨hbW, c4, c5, c6, c7⟩ := hHeld
            have hO2 := own_below HOk.out hbW
            obtain ⟨u0, d0⟩ := own_has hO2 ((k + 1) * 2) (by omega)
            have f0 := hO2.frozenAt ((k + 1) * 2)
            have f1 := hO2.frozenAt ((k + 1) * 2 + 1)
            have hs0 := hO2.stored ((k + 1) * 2) (.string yn)
            have hs1 := hs0.1.stored ((k + 1) * 2 + 1) (.int .i64 yv)
            obtain ⟨u2, d2⟩ := own_has hs1.1 (k * 2) (by omega)
            obtain ⟨u3, d3⟩ := own_has hs1.1 (k * 2 + 1) (by omega)
            have f2 := hs1.1.frozenAt (k * 2)
            have f3 := hs1.1.frozenAt (k * 2 + 1)
            have hs2 := hs1.1.stored (k * 2) (.string xn)
            have hs3 := hs2.1.stored (k * 2 + 1) (.int .i64 xv)
            have HS0 := Lib.hid hs0.2; clear hs0
            have HS1 := Lib.hid hs1.2; clear hs1
            have HS2 := Lib.hid hs2.2; clear hs2
            have HS3 := Lib.hid hs3; clear hs3
            have HBW := Lib.hid hbW; clear hbW hO2
            have HCmp : Hid (cmpI yv xv = -1) := Lib.hid (by rw [cmpI, if_pos hgt])
            rw [HCmp.out] at *
            go_wp2
            go_region
            go_wp2
            go_roundw
            case rel =>
              refine ⟨k, by omega, by go_num, Lib.hid ?_, Lib.hid (by rw [← HPk.out]; exact (hdn hgt).symm), Lib.hid ?_⟩
              · rw [← HSW.out, ← flatCt_set _ _ _ (by simp; omega), ← flatCt_set _ _ _ (by omega)]
                exact HS3.out.1.drew
              · exact ((HGk.out.trans (HBW.out.mono (Nat.le_trans hBw HGk.out.size))).grown (grown_trans HS0.out (grown_trans HS1.out (grown_trans HS2.out HS3.out.2))) (Nat.le_trans hBw (Nat.le_trans HGk.out.size HBW.out.size)) (fun j hj => by cases hj; exact hge)).drew
            case measure => simp [intOf]
          · obtain ⟨c, hc, hc0⟩ : ∃ c, cmpI yv xv = c ∧ 0 ≤ c := ⟨_, rfl, by unfold cmpI; split <;> (try split) <;> omega⟩
            rw [show cmpI (Ct.vl ⟨yn, yv⟩) (Ct.vl ⟨xn, xv⟩) = c from hc] at HT
            have hc1 : ¬ c < 0 := by omega
            clear hc
            go_wp2_with fail
            refine wp_region_held_drew (S := (fun w' => Below wr.heap.size wr w' ∧ w'.cell? ⟨g, k * 2, none⟩ = some (.string yn) ∧ w'.cell? ⟨g, k * 2 + 1, none⟩ = some (.int .i64 yv) ∧ w'.cell? ⟨g, (k + 1) * 2, none⟩ = some (.string xn) ∧ w'.cell? ⟨g, (k + 1) * 2 + 1, none⟩ = some (.int .i64 xv))) (by kernel_rfl) ?rx2s (fun hHeld => ?rx20)
            case rx2s => ((try dsimp only); exact ⟨(Below.refl _ _).drew, c0, c1, c2, c3⟩)
            try simp only [Act.put, List.setIfInBounds_toArray, List.set_cons_zero, List.set_cons_succ]
            refine take_at 0 (some 18) (v := ?vx2_1) rfl rfl (by kernel_rfl) (by kernel_rfl) (by kernel_rfl) (fun _ _ _ h => h) (Or.inl ⟨by kernel_rfl, ?yx2_1⟩) hHeld ?zx2_1
            case yx2_1 => (intro wS hSw; (try dsimp only at hSw); go_simp; (try with_reducible rfl))
            try simp only [Act.put, List.setIfInBounds_toArray, List.set_cons_zero, List.set_cons_succ]
            refine take_at 1 (some 19) (v := ?vx2_2) rfl rfl (by kernel_rfl) (by kernel_rfl) (by kernel_rfl) (fun _ _ _ h => h) (Or.inl ⟨by kernel_rfl, ?yx2_2⟩) hHeld ?zx2_2
            case yx2_2 => (intro wS hSw; (try dsimp only at hSw); go_simp; (try with_reducible rfl))
            try simp only [Act.put, List.setIfInBounds_toArray, List.set_cons_zero, List.set_cons_succ]
            refine take_at 2 (some 20) (v := ?vx2_3) rfl rfl (by kernel_rfl) (by kernel_rfl) (by kernel_rfl) (fun _ _ _ h => h) (Or.inl ⟨by kernel_rfl, ?yx2_3⟩) hHeld ?zx2_3
            case yx2_3 => (intro wS hSw; (try dsimp only at hSw); go_simp; (try with_reducible rfl))
            try simp only [Act.put, List.setIfInBounds_toArray, List.set_cons_zero, List.set_cons_succ]
            refine take_at 3 (some 21) (v := ?vx2_4) rfl rfl (by kernel_rfl) (by kernel_rfl) (by kernel_rfl) (fun _ _ _ h => h) (Or.inl ⟨by kernel_rfl, ?yx2_4⟩) hHeld ?zx2_4
            case yx2_4 => (intro wS hSw; (try dsimp only at hSw); go_simp; (try with_reducible rfl))
            try simp only [Act.put, List.setIfInBounds_toArray, List.set_cons_zero, List.set_cons_succ]
            refine take_at 4 (some 22) (v := ?vx2_5) rfl rfl (by kernel_rfl) (by kernel_rfl) (by kernel_rfl) (fun _ _ _ h => h) (Or.inl ⟨by kernel_rfl, ?yx2_5⟩) hHeld ?zx2_5
            case yx2_5 => (intro wS hSw; (try dsimp only at hSw); go_simp; (try with_reducible rfl))
            try simp only [Act.put, List.setIfInBounds_toArray, List.set_cons_zero, List.set_cons_succ]
            refine take_at 5 (some 23) (v := ?vx2_6) rfl rfl (by kernel_rfl) (by kernel_rfl) (by kernel_rfl) (fun _ _ _ h => h) (Or.inl ⟨by kernel_rfl, ?yx2_6⟩) hHeld ?zx2_6
            case yx2_6 => (intro wS hSw; (try dsimp only at hSw); go_simp; (try with_reducible rfl))
            try simp only [Act.put, List.setIfInBounds_toArray, List.set_cons_zero, List.set_cons_succ]
            refine take_at 6 (some 24) (v := ?vx2_7) rfl rfl (by kernel_rfl) (by kernel_rfl) (by kernel_rfl) (fun _ _ _ h => h) (Or.inl ⟨by kernel_rfl, ?yx2_7⟩) hHeld ?zx2_7
            case yx2_7 => (intro wS hSw; (try dsimp only at hSw); go_simp; (try with_reducible rfl))
            try simp only [Act.put, List.setIfInBounds_toArray, List.set_cons_zero, List.set_cons_succ]
            refine take_at 7 (some 25) (v := ?vx2_8) rfl rfl (by kernel_rfl) (by kernel_rfl) (by kernel_rfl) (fun _ _ _ h => h) (Or.inl ⟨by kernel_rfl, ?yx2_8⟩) hHeld ?zx2_8
            case yx2_8 => (intro wS hSw; (try dsimp only at hSw); go_simp; (try with_reducible rfl))
            try simp only [Act.put, List.setIfInBounds_toArray, List.set_cons_zero, List.set_cons_succ]
            refine take_at 8 (some 26) (v := ?vx2_9) rfl rfl (by kernel_rfl) (by kernel_rfl) (by kernel_rfl) (fun _ _ _ h => h) (Or.inl ⟨by kernel_rfl, ?yx2_9⟩) hHeld ?zx2_9
            case yx2_9 => (intro wS hSw; (try dsimp only at hSw); go_simp; (try with_reducible rfl))
            try simp only [Act.put, List.setIfInBounds_toArray, List.set_cons_zero, List.set_cons_succ]
            refine take_at 9 (some 27) (v := ?vx2_10) rfl rfl (by kernel_rfl) (by kernel_rfl) (by kernel_rfl) (fun _ _ _ h => h) (Or.inl ⟨by kernel_rfl, ?yx2_10⟩) hHeld ?zx2_10
            case yx2_10 => (intro wS hSw; (try dsimp only at hSw); go_simp; (try with_reducible rfl))
            try simp only [Act.put, List.setIfInBounds_toArray, List.set_cons_zero, List.set_cons_succ]
            refine take_at 10 (some 28) (v := ?vx2_11) rfl rfl (by kernel_rfl) (by kernel_rfl) (by kernel_rfl) (fun _ _ _ h => h) (Or.inl ⟨by kernel_rfl, ?yx2_11⟩) hHeld ?zx2_11
            case yx2_11 => (intro wS hSw; (try dsimp only at hSw); go_simp; (try with_reducible rfl))
            try simp only [Act.put, List.setIfInBounds_toArray, List.set_cons_zero, List.set_cons_succ]
            refine take_at 11 (some 29) (v := ?vx2_12) rfl rfl (by kernel_rfl) (by kernel_rfl) (by kernel_rfl) (fun _ _ _ h => h) (Or.inl ⟨by kernel_rfl, ?yx2_12⟩) hHeld ?zx2_12
            case yx2_12 => (intro wS hSw; (try dsimp only at hSw); go_simp; (try with_reducible rfl))
            try simp only [Act.put, List.setIfInBounds_toArray, List.set_cons_zero, List.set_cons_succ]
            refine take_at 12 (some 30) (v := ?vx2_13) rfl rfl (by kernel_rfl) (by kernel_rfl) (by kernel_rfl) (fun _ _ _ h => h) (Or.inl ⟨by kernel_rfl, ?yx2_13⟩) hHeld ?zx2_13
            case yx2_13 => (intro wS hSw; (try dsimp only at hSw); go_simp; (try with_reducible rfl))
            try simp only [Act.put, List.setIfInBounds_toArray, List.set_cons_zero, List.set_cons_succ]
            refine take_at 13 (some 31) (v := ?vx2_14) rfl rfl (by kernel_rfl) (by kernel_rfl) (by kernel_rfl) (fun _ _ _ h => h) (Or.inl ⟨by kernel_rfl, ?yx2_14⟩) hHeld ?zx2_14
            case yx2_14 => (intro wS hSw; (try dsimp only at hSw); go_simp; (try with_reducible rfl))
            try simp only [Act.put, List.setIfInBounds_toArray, List.set_cons_zero, List.set_cons_succ]
            refine wpAnyH_ready (rs := [14]) (by kernel_rfl) (by simp) ?_
            refine cons_at (some 32) rfl rfl (by kernel_rfl) (fun K hK => ?kx2_16) AllReadyH.nil
            go_simp
            (go_at_call 72; refine (HT.out _).mono ?_; rintro e w' ⟨rfl, hbel⟩)
            try go_wp2_with fail
            refine hK.out _ _ ?sx2_16 (fun hHeld => ?_)
            case sx2_16 => ((try dsimp only); first | exact keepB4 (by assumption) hbel | assumption)
            clear hK K
            try simp only [Act.put, List.setIfInBounds_toArray, List.set_cons_zero, List.set_cons_succ]
            refine take_at 15 (some 33) (v := ?vx2_17) rfl rfl (by kernel_rfl) (by kernel_rfl) (by kernel_rfl) (fun _ _ _ h => h) (Or.inl ⟨by kernel_rfl, ?yx2_17⟩) hHeld ?zx2_17
            case yx2_17 => (intro wS hSw; (try dsimp only at hSw); go_simp; (try with_reducible rfl))
            try simp only [Act.put, List.setIfInBounds_toArray, List.set_cons_zero, List.set_cons_succ]
            refine take_at 16 (some 34) (v := ?vx2_18) rfl rfl (by kernel_rfl) (by kernel_rfl) (by kernel_rfl) (fun _ _ _ h => h) (Or.inl ⟨by kernel_rfl, ?yx2_18⟩) hHeld ?zx2_18
            case yx2_18 => (intro wS hSw; (try dsimp only at hSw); go_simp; (try with_reducible rfl))
            try simp only [Act.put, List.setIfInBounds_toArray, List.set_cons_zero, List.set_cons_succ]
            refine wpAnyH_done (by kernel_rfl) ?_ _
            obtain ⟨hbW, -, -, -, -⟩ := hHeld
            have HBW := Lib.hid hbW; clear hbW
            go_wp2
            go_roundw
            case rel => exact ⟨n + 1, by omega, .inl (by omega), by go_num, Lib.hid (by rw [HSt.out, ← HPk.out, hst hgt, HRest.out, HR.out]; exact own_below HOk.out HBW.out), Lib.hid (HGk.out.trans (HBW.out.mono (Nat.le_trans hBw HGk.out.size)))⟩
            case measure => simp [intOf]; omega
    · have he : srtN xs n ++ xs.drop n = srtN xs xs.length := by
        rcases (by omega : n = xs.length ∨ (xs.length = 0 ∧ n = 1)) with rfl | ⟨h, rfl⟩
        · rw [List.drop_of_length_le (by omega), List.append_nil]
        · obtain rfl : xs = [] := List.eq_nil_of_length_eq_zero h
          rfl
      have HE := Lib.hid he; clear he
      go_wp2
      go_end0
      exact ⟨rfl, by rw [← HE.out]; exact HOn.out, HGn.out⟩
end Go.Proofs.YtmochhgmhhopoaaDoor
