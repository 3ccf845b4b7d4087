/- Contract: the reference's MergeTraces, for all traces. No condition. -/
import Derived.Test.YtohbkohidpgjpaaGreatDoorEvMg
import Derived.Test.YtohbkohidpgjpaaGreatDoorAppK
import Derived.BigQuiet
namespace Go.Proofs.YtohbkohidpgjpaaGreatDoor
open Go.RowKit

theorem flatEv_drop (xs : List Ev) (k : Nat) : (xs.drop k).flatMap Ev.cells = (xs.flatMap Ev.cells).drop (k * 4) := by
  induction xs generalizing k with
  | nil => simp
  | cons x xs ih =>
    cases k with
    | zero => simp
    | succ k =>
      rw [List.drop_succ_cons, ih, List.flatMap_cons, List.drop_append, List.drop_of_length_le (l := x.cells) (by rw [Ev.cells_length]; omega), Ev.cells_length, List.nil_append]
      congr 1; omega
theorem OwEv.nilLit (w : World) : OwEv w.heap.size (w.alloc (.cells #[] 25)) (.slice (some ⟨w.heap.size, 0, none⟩) 0 0) [] := ⟨World.ownsRow_lit w #[] 0 (Nat.le_refl _) (Nat.zero_le _) rfl, Nat.zero_le _⟩
set_option maxRecDepth 100000 in
set_option maxHeartbeats 8000000 in
theorem specMerge_any (v0 v1 : Value) (xs ys : List Ev) (w : World) (h0 : RdEv w v0 xs) (h1 : RdEv w v1 ys) :
    Calls Tryz.prog 18 #[v0, v1] w fun e w' => ∃ u, e = .returned (.tuple #[u, .bool (mgB xs ys)]) ∧ OwEv w.heap.size w' u (mgL xs ys) ∧ Below w.heap.size w w' := by
  have HT0 := Lib.hid (fun w h => l17Good_any v0 xs w h)
  have HT1 := Lib.hid (fun w h => l17Good_any v1 ys w h)
  have HR0 := Lib.hid h0
  have HR1 := Lib.hid h1
  have HE0 := Lib.hid (OwEv.nilLit w)
  obtain ⟨p0, k0, b0, o0, rfl, hk0, hp0, hc0⟩ := h0.parts
  obtain ⟨p1, k1, b1, o1, rfl, hk1, hp1, hc1⟩ := h1.parts
  have HC0 := Lib.hid hc0; clear hc0
  have HC1 := Lib.hid hc1; clear hc1
  have HP0 := Lib.hid hp0; clear hp0
  have HP1 := Lib.hid hp1; clear hp1
  have HSrc := Lib.hid h1.1
  clear h0 h1
  cases hB0 : tsB xs
  · have HV : Hid (mgB xs ys = false ∧ mgL xs ys = []) := Lib.hid (by have h : mgB xs ys = false := by rw [mgB, hB0]; rfl
                                                                      exact ⟨h, mgL_no h⟩)
    rw [hB0] at HT0
    clear hB0
    go_enter Tryz.func18, Tryz.ntmps18
    go_wp2_with fail
    refine (HT0.out _ (HR0.out.below (below_alloc1 _ _))).mono ?_
    rintro e w1 ⟨rfl, hb⟩
    have HE1 := Lib.hid (HE0.out.below hb)
    have HB := Lib.hid (Below.trans (by go_grown) (hb.mono (by simp)) : Below w.heap.size w w1); clear hb
    go_wp2
    refine bodyPost_ret (v := (.tuple #[.slice (some ⟨w.heap.size, 0, none⟩) 0 0, .bool false])) (by simp [results, Tryz.results18, go_sem, *]) rfl ?_
    exact ⟨_, by rw [HV.out.1], by rw [HV.out.2]; exact HE1.out, HB.out⟩
  · cases hB1 : tsB ys
    · have HV : Hid (mgB xs ys = false ∧ mgL xs ys = []) := Lib.hid (by have h : mgB xs ys = false := by rw [mgB, hB1, Bool.false_and, Bool.and_false]
                                                                        exact ⟨h, mgL_no h⟩)
      rw [hB0] at HT0
      rw [hB1] at HT1
      clear hB0 hB1
      go_enter Tryz.func18, Tryz.ntmps18
      go_wp2_with fail
      refine (HT0.out _ (HR0.out.below (below_alloc1 _ _))).mono ?_
      rintro e w1 ⟨rfl, hb⟩
      have HE1 := Lib.hid (HE0.out.below hb)
      have HB := Lib.hid (Below.trans (by go_grown) (hb.mono (by simp)) : Below w.heap.size w w1); clear hb
      go_wp2_with fail
      refine (HT1.out _ (HR1.out.below HB.out)).mono ?_
      rintro e w2 ⟨rfl, hb⟩
      have HE2 := Lib.hid (HE1.out.below hb)
      have HB2 := Lib.hid (HB.out.trans (hb.mono HB.out.size)); clear hb
      go_wp2
      refine bodyPost_ret (v := (.tuple #[.slice (some ⟨w.heap.size, 0, none⟩) 0 0, .bool false])) (by simp [results, Tryz.results18, go_sem, *]) rfl ?_
      exact ⟨_, by rw [HV.out.1], by rw [HV.out.2]; exact HE2.out, HB2.out⟩
    · have hx30 := (tsB_true.1 hB0).1
      have hy30 := (tsB_true.1 hB1).1
      by_cases hl : xs.length + ys.length ≤ 30
      · have hm : mgB xs ys = true := by rw [mgB, hB0, hB1, decide_eq_true hl]; rfl
        have HV : Hid (mgB xs ys = true) := Lib.hid hm
        have HSx := Lib.hid (srt_of_ts hB0)
        have HSy := Lib.hid (srt_of_ts hB1)
        rw [hB0] at HT0
        rw [hB1] at HT1
        clear hB0 hB1 hm
        have hl2 : (xs.length : Int) + ys.length ≤ 30 := by omega
        obtain ⟨i0, hi, hz0, hz1, hz2⟩ := info_parts infoEv
        go_enter Tryz.func18, Tryz.ntmps18
        go_wp2_with fail
        refine (HT0.out _ (HR0.out.below (below_alloc1 _ _))).mono ?_
        rintro e w1 ⟨rfl, hb⟩
        have HE1 := Lib.hid (HE0.out.below hb)
        have HB := Lib.hid (Below.trans (by go_grown) (hb.mono (by simp)) : Below w.heap.size w w1); clear hb
        go_wp2_with fail
        refine (HT1.out _ (HR1.out.below HB.out)).mono ?_
        rintro e w2 ⟨rfl, hb⟩
        have HE2 := Lib.hid (HE1.out.below hb)
        have HB2 := Lib.hid (HB.out.trans (hb.mono HB.out.size)); clear hb
        go_wp2
        go_loopw [6, 7, 8] (fun v kk ii wr => ∃ (i k : Nat) (O : List Ev), i ≤ xs.length ∧ k ≤ ys.length ∧ O.length = i + k ∧ ii = .int .i64 i ∧ kk = .int .i64 k ∧ Hid (OwEv w.heap.size wr v O) ∧ Hid (MgI xs ys i k O) ∧ Hid (Below w.heap.size w wr)) (fun _ _ ii _ => xs.length - (intOf ii).toNat)
        case atStart => exact ⟨0, 0, [], Nat.zero_le _, Nat.zero_le _, rfl, rfl, rfl, HE2, Lib.hid (MgI.zero xs ys), HB2⟩
        case round =>
          clear HE1 HE2 HB HB2
          obtain ⟨i, k, O, hi1, hky, hOl, rfl, rfl, HO, HI, HB⟩ := hrel
          have HOl := Lib.hid hOl; clear hOl
          by_cases hlt : i < xs.length
          · obtain rfl := HP0.out (by omega)
            obtain ⟨x, hx⟩ : ∃ x, xs[i] = x := ⟨_, rfl⟩
            have HX : Hid (xs[i]? = some x) := Lib.hid (by rw [List.getElem?_eq_getElem hlt, hx])
            obtain ⟨e0, e1, e2, e3⟩ := HC0.out i hlt
            rw [hx] at e0 e1 e2 e3
            have HCx := Lib.hid (And.intro e0 (And.intro e1 (And.intro e2 e3))); clear e0 e1 e2 e3 hx
            obtain ⟨xt, xn, xk, xm⟩ := x
            go_wp2
            go_loopw [6, 7] (fun v2 kk2 wr2 => ∃ (k2 : Nat) (O2 : List Ev), k2 ≤ ys.length ∧ kk2 = .int .i64 k2 ∧ Hid (O2.length = i + k2) ∧ Hid (OwEv w.heap.size wr2 v2 O2) ∧ Hid (MgI xs ys i k2 O2) ∧ Hid (Below w.heap.size w wr2)) (fun _ kk2 _ => ys.length - (intOf kk2).toNat)
            case atStart => exact ⟨k, O, hky, rfl, HOl, HO, HI, HB⟩
            case round =>
              clear HO HI HB HOl
              obtain ⟨k2, O2, hk2, rfl, HOl, HO, HI, HB⟩ := hrel
              have hzb := HB.out.size
              obtain ⟨f0, f1, f2, f3⟩ := HCx.out
              have f0 := cell_on HB.out f0
              have f1 := cell_on HB.out f1
              have f2 := cell_on HB.out f2
              have f3 := cell_on HB.out f3
              by_cases hkl : k2 < ys.length
              · obtain rfl := HP1.out (by omega)
                obtain ⟨y, hy⟩ : ∃ y, ys[k2] = y := ⟨_, rfl⟩
                have HY : Hid (ys[k2]? = some y) := Lib.hid (by rw [List.getElem?_eq_getElem hkl, hy])
                obtain ⟨d0, d1, d2, d3⟩ := HC1.out k2 hkl
                rw [hy] at d0 d1 d2 d3
                clear hy
                have d0 := cell_on HB.out d0
                have d1 := cell_on HB.out d1
                have d2 := cell_on HB.out d2
                have d3 := cell_on HB.out d3
                obtain ⟨yt, yn, yk, ym⟩ := y
                have hkl2 : (k2 : Int) < (ys.length : Int) := by omega
                have hil2 : (i : Int) < (xs.length : Int) := by omega
                by_cases hgt : yt < xt
                · go_wp2_with fail
                  go_quiet (fail)
                  have HBX := Lib.hid (below_drewN (Below.refl wr.heap.size wr) nq)
                  generalize wr.drewN nq = wX at *
                  have HBX2 : Hid (Below w.heap.size w wX) := Lib.hid (HB.out.trans (HBX.out.mono hzb))
                  have HOX := Lib.hid (HO.out.below HBX.out)
                  have hzX := HBX2.out.size
                  have d0 := cell_on HBX.out d0
                  have d1 := cell_on HBX.out d1
                  have d2 := cell_on HBX.out d2
                  have d3 := cell_on HBX.out d3
                  have HI2 := Lib.hid (HI.out.right HSy.out HX.out HY.out hgt)
                  have hO2l : O2.length ≤ 60 := by have := HOl.out; omega
                  go_wp2_with (first | (at_builtin; go_loud (refine wpList_append_own _ rfl _ _ 32 rfl (w.heap.size) 25 i0 (.agg #[.int .i64 0, .int .i64 0, .int .i64 0, .int .i64 0]) 4 32 Tryz.underlying32 hi hz0 hz1 hz2 rfl (by decide) _ _ _ rfl (HOX.out.1.alloc _) ⟨_, 0, none⟩ 1 1 [.int .i64 yt, .int .i64 yn, .int .i64 yk, .int .i64 ym] rfl rfl ?c1A ?c2A ?c3A ?c4A ?c5A ?_)))
                  try (case c1A => first | exact cells_new _ #[.int .i64 yt, .int .i64 yn, .int .i64 yk, .int .i64 ym] _ | exact cells_at _ #[.int .i64 yt, .int .i64 yn, .int .i64 yk, .int .i64 ym] _ (by simp) | rfl)
                  try (case c2A => first | rfl | exact ⟨rfl, rfl, rfl⟩ | exact ⟨rfl, rfl⟩ | (intro u hu; simp at hu; rcases hu with rfl | rfl | rfl | rfl <;> rfl) | (intro u hu; simp at hu; rcases hu with rfl | rfl | rfl <;> rfl) | (intro u hu; simp at hu; rcases hu with rfl | rfl <;> rfl) | (intro u hu; simp at hu; subst hu; rfl))
                  try (case c3A => first | omega | (unfold maxLen; omega))
                  try (case c4A => first | omega | ((try simp only [World.heap_size_alloc]); omega))
                  try (case c5A => first | omega | (simp; omega))
                  intro v' w2 hown' hgrow
                  try intro _
                  have HO3 : Hid (OwEv w.heap.size w2 v' (O2 ++ [⟨yt, yn, yk, ym⟩])) := Lib.hid ⟨by simpa using hown', by simp; omega⟩
                  have HB3 : Hid (Below w.heap.size w w2) := Lib.hid (Below.grown (Below.trans HBX2.out (by go_grown)) hgrow (by simp; omega) (fun j hj => (HOX.out.1.lt j hj).1))
                  clear hown' hgrow
                  go_wp2
                  go_roundw
                  case rel => exact ⟨k2 + 1, _, by omega, by go_num, Lib.hid (by rw [List.length_append]; have := HOl.out; simp; omega), HO3, HI2, HB3⟩
                  case measure => simp [intOf]; omega
                · have hgt2 : decide (yt < xt) = false := decide_eq_false hgt
                  go_wp2_with fail
                  go_quiet (fail)
                  have HBX := Lib.hid (below_drewN (Below.refl wr.heap.size wr) nq)
                  generalize wr.drewN nq = wX at *
                  have HBX2 : Hid (Below w.heap.size w wX) := Lib.hid (HB.out.trans (HBX.out.mono hzb))
                  have HOX := Lib.hid (HO.out.below HBX.out)
                  have hzX := HBX2.out.size
                  have f0 := cell_on HBX.out f0
                  have f1 := cell_on HBX.out f1
                  have f2 := cell_on HBX.out f2
                  have f3 := cell_on HBX.out f3
                  have HI2 := Lib.hid (HI.out.left HSx.out HX.out (fun z hz => by rw [HY.out] at hz; cases hz; exact Int.not_lt.2 hgt))
                  have hO2l : O2.length ≤ 60 := by have := HOl.out; omega
                  go_wp2_with (first | (at_builtin; go_loud (refine wpList_append_own _ rfl _ _ 32 rfl (w.heap.size) 25 i0 (.agg #[.int .i64 0, .int .i64 0, .int .i64 0, .int .i64 0]) 4 32 Tryz.underlying32 hi hz0 hz1 hz2 rfl (by decide) _ _ _ rfl (HOX.out.1.alloc _) ⟨_, 0, none⟩ 1 1 [.int .i64 xt, .int .i64 xn, .int .i64 xk, .int .i64 xm] rfl rfl ?c1B ?c2B ?c3B ?c4B ?c5B ?_)))
                  try (case c1B => first | exact cells_new _ #[.int .i64 xt, .int .i64 xn, .int .i64 xk, .int .i64 xm] _ | exact cells_at _ #[.int .i64 xt, .int .i64 xn, .int .i64 xk, .int .i64 xm] _ (by simp) | rfl)
                  try (case c2B => first | rfl | exact ⟨rfl, rfl, rfl⟩ | exact ⟨rfl, rfl⟩ | (intro u hu; simp at hu; rcases hu with rfl | rfl | rfl | rfl <;> rfl) | (intro u hu; simp at hu; rcases hu with rfl | rfl | rfl <;> rfl) | (intro u hu; simp at hu; rcases hu with rfl | rfl <;> rfl) | (intro u hu; simp at hu; subst hu; rfl))
                  try (case c3B => first | omega | (unfold maxLen; omega))
                  try (case c4B => first | omega | ((try simp only [World.heap_size_alloc]); omega))
                  try (case c5B => first | omega | (simp; omega))
                  intro v' w2 hown' hgrow
                  try intro _
                  have HO3 : Hid (OwEv w.heap.size w2 v' (O2 ++ [⟨xt, xn, xk, xm⟩])) := Lib.hid ⟨by simpa using hown', by simp; omega⟩
                  have HB3 : Hid (Below w.heap.size w w2) := Lib.hid (Below.grown (Below.trans HBX2.out (by go_grown)) hgrow (by simp; omega) (fun j hj => (HOX.out.1.lt j hj).1))
                  clear hown' hgrow
                  go_wp2
                  go_roundw
                  case rel => exact ⟨i + 1, k2, _, by omega, by omega, (by rw [List.length_append]; have := HOl.out; simp; omega), by go_num, rfl, HO3, HI2, HB3⟩
                  case measure => simp [intOf]; omega
              · have hd : decide ((k2 : Int) < (ys.length : Int)) = false := decide_eq_false (by omega)
                go_wp2_with fail
                go_quiet (fail)
                have HBX := Lib.hid (below_drewN (Below.refl wr.heap.size wr) nq)
                generalize wr.drewN nq = wX at *
                have HBX2 : Hid (Below w.heap.size w wX) := Lib.hid (HB.out.trans (HBX.out.mono hzb))
                have HOX := Lib.hid (HO.out.below HBX.out)
                have hzX := HBX2.out.size
                have f0 := cell_on HBX.out f0
                have f1 := cell_on HBX.out f1
                have f2 := cell_on HBX.out f2
                have f3 := cell_on HBX.out f3
                have HI2 := Lib.hid (HI.out.left HSx.out HX.out (fun z hz => by rw [List.getElem?_eq_none (by omega)] at hz; cases hz))
                have hO2l : O2.length ≤ 60 := by have := HOl.out; omega
                go_wp2_with (first | (at_builtin; go_loud (refine wpList_append_own _ rfl _ _ 32 rfl (w.heap.size) 25 i0 (.agg #[.int .i64 0, .int .i64 0, .int .i64 0, .int .i64 0]) 4 32 Tryz.underlying32 hi hz0 hz1 hz2 rfl (by decide) _ _ _ rfl (HOX.out.1.alloc _) ⟨_, 0, none⟩ 1 1 [.int .i64 xt, .int .i64 xn, .int .i64 xk, .int .i64 xm] rfl rfl ?c1C ?c2C ?c3C ?c4C ?c5C ?_)))
                try (case c1C => first | exact cells_new _ #[.int .i64 xt, .int .i64 xn, .int .i64 xk, .int .i64 xm] _ | exact cells_at _ #[.int .i64 xt, .int .i64 xn, .int .i64 xk, .int .i64 xm] _ (by simp) | rfl)
                try (case c2C => first | rfl | exact ⟨rfl, rfl, rfl⟩ | exact ⟨rfl, rfl⟩ | (intro u hu; simp at hu; rcases hu with rfl | rfl | rfl | rfl <;> rfl) | (intro u hu; simp at hu; rcases hu with rfl | rfl | rfl <;> rfl) | (intro u hu; simp at hu; rcases hu with rfl | rfl <;> rfl) | (intro u hu; simp at hu; subst hu; rfl))
                try (case c3C => first | omega | (unfold maxLen; omega))
                try (case c4C => first | omega | ((try simp only [World.heap_size_alloc]); omega))
                try (case c5C => first | omega | (simp; omega))
                intro v' w2 hown' hgrow
                try intro _
                have HO3 : Hid (OwEv w.heap.size w2 v' (O2 ++ [⟨xt, xn, xk, xm⟩])) := Lib.hid ⟨by simpa using hown', by simp; omega⟩
                have HB3 : Hid (Below w.heap.size w w2) := Lib.hid (Below.grown (Below.trans HBX2.out (by go_grown)) hgrow (by simp; omega) (fun j hj => (HOX.out.1.lt j hj).1))
                clear hown' hgrow
                go_wp2
                go_roundw
                case rel => exact ⟨i + 1, k2, _, by omega, by omega, (by rw [List.length_append]; have := HOl.out; simp; omega), by go_num, rfl, HO3, HI2, HB3⟩
                case measure => simp [intOf]; omega
          · obtain rfl : i = xs.length := by omega
            have hDn := HI.out.done HSy.out
            have hOl := HOl.out
            have hzb := HB.out.size
            rcases HSrc.out.source with ⟨hv, hz, hnil⟩ | ⟨a, cap, hv, hcap, hcells⟩
            · simp only [Value.slice.injEq] at hv
              obtain ⟨rfl, hz9, rfl⟩ := hv
              obtain rfl : ys = [] := List.length_eq_zero_iff.1 hz
              obtain rfl : k = 0 := by simpa using hky
              go_wp2_with (at_builtin; go_loud (refine wpList_appK _ rfl _ _ 32 rfl w.heap.size 25 i0 (.agg #[.int .i64 0, .int .i64 0, .int .i64 0, .int .i64 0]) 4 32 Tryz.underlying32 hi hz0 hz1 hz2 rfl (by decide) _ _ _ rfl HO.out.1 none 0 0 [] rfl rfl (fun h => by omega) (fun _ => rfl) (fun u hu => by cases hu) (by unfold maxLen; omega) (by omega) hzb ?_))
              intro v' w2 hown' hgrow
              have HO3 : Hid (OwEv w.heap.size w2 v' (O ++ List.drop 0 ([] : List Ev))) := Lib.hid ⟨by rw [List.drop_nil, List.append_nil, hOl]; exact hown', by simp; omega⟩
              have HB3 : Hid (Below w.heap.size w w2) := Lib.hid (HB.out.grown hgrow hzb (fun j hj => (HO.out.1.lt j hj).1))
              clear hown' hgrow
              go_wp2
              refine bodyPost_ret (v := (.tuple #[v', .bool true])) (by simp [results, Tryz.results18, go_sem, *]) rfl ?_
              exact ⟨_, by rw [HV.out], by rw [mgL_yes HV.out hDn]; exact HO3.out, HB3.out⟩
            · simp only [Value.slice.injEq, true_and] at hv
              obtain ⟨rfl, rfl⟩ := hv
              have hkk : (k : Int) ≤ ys.length := by omega
              have hkc : (k : Int) ≤ k1 := by omega
              have HCl : Hid (((ys.drop k).flatMap Ev.cells).length = (ys.length - k) * 4) := Lib.hid (by rw [flatEv_len, List.length_drop])
              have HOne : Hid (∀ u ∈ (ys.drop k).flatMap Ev.cells, u.oneCell' = true) := Lib.hid (by intro u hu; obtain ⟨x, _, h⟩ := List.mem_flatMap.1 hu; simp at h; rcases h with rfl | rfl | rfl | rfl <;> rfl)
              by_cases hke : k1 = k
              · have HS : Hid (0 < ys.length - k → ∃ ad, some a = some ad ∧ ∀ j u, ((ys.drop k).flatMap Ev.cells)[j]? = some u → wr.cell? (ad.add j) = some u) := Lib.hid (fun h => by omega)
                go_wp2_with (at_builtin; go_loud (refine wpList_appK _ rfl _ _ 32 rfl w.heap.size 25 i0 (.agg #[.int .i64 0, .int .i64 0, .int .i64 0, .int .i64 0]) 4 32 Tryz.underlying32 hi hz0 hz1 hz2 rfl (by decide) _ _ _ rfl HO.out.1 _ _ _ ((ys.drop k).flatMap Ev.cells) rfl HCl.out HS.out (fun e => by cases e) HOne.out (by unfold maxLen; omega) (by omega) hzb ?_))
                intro v' w2 hown' hgrow
                have HO3 : Hid (OwEv w.heap.size w2 v' (O ++ ys.drop k)) := Lib.hid ⟨by rw [List.length_append, List.length_drop, List.flatMap_append, hOl]; exact hown', by simp; omega⟩
                have HB3 : Hid (Below w.heap.size w w2) := Lib.hid (HB.out.grown hgrow hzb (fun j hj => (HO.out.1.lt j hj).1))
                clear hown' hgrow
                go_wp2
                refine bodyPost_ret (v := (.tuple #[v', .bool true])) (by simp [results, Tryz.results18, go_sem, *]) rfl ?_
                exact ⟨_, by rw [HV.out], by rw [mgL_yes HV.out hDn]; exact HO3.out, HB3.out⟩
              · have HS : Hid (0 < ys.length - k → ∃ ad, some (a.add (k * 4)) = some ad ∧ ∀ j u, ((ys.drop k).flatMap Ev.cells)[j]? = some u → wr.cell? (ad.add j) = some u) := Lib.hid (fun h => ⟨_, rfl, fun j u hu => by rw [Addr.add_add]; exact cell_on HB.out (hcells _ _ (by rw [flatEv_drop] at hu; rwa [List.getElem?_drop] at hu))⟩)
                go_wp2_with (at_builtin; go_loud (refine wpList_appK _ rfl _ _ 32 rfl w.heap.size 25 i0 (.agg #[.int .i64 0, .int .i64 0, .int .i64 0, .int .i64 0]) 4 32 Tryz.underlying32 hi hz0 hz1 hz2 rfl (by decide) _ _ _ rfl HO.out.1 _ _ _ ((ys.drop k).flatMap Ev.cells) rfl HCl.out HS.out (fun e => by cases e) HOne.out (by unfold maxLen; omega) (by omega) hzb ?_))
                intro v' w2 hown' hgrow
                have HO3 : Hid (OwEv w.heap.size w2 v' (O ++ ys.drop k)) := Lib.hid ⟨by rw [List.length_append, List.length_drop, List.flatMap_append, hOl]; exact hown', by simp; omega⟩
                have HB3 : Hid (Below w.heap.size w w2) := Lib.hid (HB.out.grown hgrow hzb (fun j hj => (HO.out.1.lt j hj).1))
                clear hown' hgrow
                go_wp2
                refine bodyPost_ret (v := (.tuple #[v', .bool true])) (by simp [results, Tryz.results18, go_sem, *]) rfl ?_
                exact ⟨_, by rw [HV.out], by rw [mgL_yes HV.out hDn]; exact HO3.out, HB3.out⟩
      · have HV : Hid (mgB xs ys = false ∧ mgL xs ys = []) := Lib.hid (by have h : mgB xs ys = false := by rw [mgB, decide_eq_false hl, Bool.and_false, Bool.and_false]
                                                                          exact ⟨h, mgL_no h⟩)
        rw [hB0] at HT0
        rw [hB1] at HT1
        clear hB0 hB1
        have hl2 : ¬ (xs.length : Int) + ys.length ≤ 30 := by omega
        go_enter Tryz.func18, Tryz.ntmps18
        go_wp2_with fail
        refine (HT0.out _ (HR0.out.below (below_alloc1 _ _))).mono ?_
        rintro e w1 ⟨rfl, hb⟩
        have HE1 := Lib.hid (HE0.out.below hb)
        have HB := Lib.hid (Below.trans (by go_grown) (hb.mono (by simp)) : Below w.heap.size w w1); clear hb
        go_wp2_with fail
        refine (HT1.out _ (HR1.out.below HB.out)).mono ?_
        rintro e w2 ⟨rfl, hb⟩
        have HE2 := Lib.hid (HE1.out.below hb)
        have HB2 := Lib.hid (HB.out.trans (hb.mono HB.out.size)); clear hb
        go_wp2
        refine bodyPost_ret (v := (.tuple #[.slice (some ⟨w.heap.size, 0, none⟩) 0 0, .bool false])) (by simp [results, Tryz.results18, go_sem, *]) rfl ?_
        exact ⟨_, by rw [HV.out.1], by rw [HV.out.2]; exact HE2.out, HB2.out⟩
end Go.Proofs.YtohbkohidpgjpaaGreatDoor
