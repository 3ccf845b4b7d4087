/- The names of the counters that are greater in another list: the program's and the reference's CounterChanges, for all lists of at most 2^30 counters. Condition: names of at most 2^20 bytes. -/
import Derived.Test.YtmochhgmhhopoaaDoorCnt4
namespace Go.Proofs.YtmochhgmhhopoaaDoor
open Go.RowKit

def chF (a : List Ct) (_ : Nat) (x : Ct) : Option ByteArray := if valN a x.k < x.vl then some x.nm else none
def chB (a b : List Ct) : Bool := ctB a && ctB b
def chL (a b : List Ct) : List ByteArray := if chB a b = true then selN (chF a) b b.length else []
theorem chN_ok (a b : List Ct) (h : ∀ x ∈ b, x.nm.size ≤ 1048576) (n : Nat) : ∀ r ∈ selN (chF a) b n, r.size ≤ 9223372036854775807 :=
  selN_all (chF a) b (fun r => r.size ≤ 9223372036854775807) (fun i hi r hr => by
    unfold chF at hr
    split at hr
    · cases hr; have := h _ (List.getElem_mem hi); omega
    · cases hr) n
set_option maxRecDepth 100000 in
set_option maxHeartbeats 4000000 in
theorem implChg_any (v v' : Value) (xs ys : List Ct) (w : World) (h : RdCt w v xs) (h' : RdCt w v' ys) (hS : ∀ x ∈ xs, x.nm.size ≤ 1048576) (hS2 : ∀ x ∈ ys, x.nm.size ≤ 1048576) :
    Calls Tryd.prog 28 #[v, v'] w fun e w' => ∃ u, e = .returned (.tuple #[u, .bool (chB xs ys)]) ∧ OwS w.heap.size w' u (chL xs ys) ∧ Below w.heap.size w w' := by
  have HT := Lib.hid (fun w h => implIs_any v xs w h hS)
  have HT2 := Lib.hid (fun w h => implIs_any v' ys w h hS2)
  have HR := Lib.hid h
  have HR2 := Lib.hid h'
  have hlen := h.2.1
  have hlen2 := h'.2.1
  have hok := Lib.hid (chN_ok xs ys hS2)
  obtain ⟨i0, hi, hz0, hz1, hz2⟩ := info_parts infoStr
  obtain ⟨p, cap, b, off, rfl, hcap, _, _⟩ := h.parts
  obtain ⟨p', cap', b', off', rfl, hcap', hp', hcell'⟩ := h'.parts
  have HC' := Lib.hid hcell'; clear hcell'
  have HP' := Lib.hid hp'; clear hp' h h'
  have hno : chB xs ys = false → Hid (chL xs ys = [] ∧ chB xs ys = false) := fun h => Lib.hid ⟨by rw [chL, h]; rfl, h⟩
  have HE0 : Hid (OwS w.heap.size w (.slice none 0 0) []) := Lib.hid (owS_nil _ _)
  cases hB : ctB xs
  · have HV := hno (by rw [chB, hB]; rfl); clear hno
    rw [hB] at HT
    go_enter Tryd.func28, Tryd.ntmps28
    go_wp2_with fail
    refine (HT.out _ HR.out).mono ?_
    rintro e w1 ⟨rfl, hb⟩
    have HE1 := Lib.hid (HE0.out.below hb)
    have HB := Lib.hid hb; clear hb
    go_wp2
    refine bodyPost_ret (v := (.tuple #[.slice none 0 0, .bool false])) (by simp [results, Tryd.results28, go_sem, *]) rfl ?_
    exact ⟨_, by rw [HV.out.2], by rw [HV.out.1]; exact HE1.out, HB.out⟩
  · cases hI : ctB ys
    · have HV := hno (by rw [chB, hI, Bool.and_false]); clear hno
      rw [hB] at HT
      rw [hI] at HT2
      clear hB hI
      go_enter Tryd.func28, Tryd.ntmps28
      go_wp2_with fail
      refine (HT.out _ HR.out).mono ?_
      rintro e w1 ⟨rfl, hb⟩
      have HE1 := Lib.hid (HE0.out.below hb)
      have HB := Lib.hid hb; clear hb
      go_wp2_with fail
      refine (HT2.out _ (HR2.out.below HB.out)).mono ?_
      rintro e w2 ⟨rfl, hb2⟩
      have HE2 := Lib.hid (HE1.out.below hb2)
      have HB2 := Lib.hid (HB.out.trans (hb2.mono HB.out.size)); clear hb2
      go_wp2
      refine bodyPost_ret (v := (.tuple #[.slice none 0 0, .bool false])) (by simp [results, Tryd.results28, go_sem, *]) rfl ?_
      exact ⟨_, by rw [HV.out.2], by rw [HV.out.1]; exact HE2.out, HB2.out⟩
    · have hbb : chB xs ys = true := by rw [chB, hB, hI]; rfl
      have HV : Hid (chL xs ys = selN (chF xs) ys ys.length ∧ chB xs ys = true) := Lib.hid ⟨by rw [chL, if_pos hbb], hbb⟩
      obtain ⟨h12, _, hups⟩ := ctB_true hB
      have h12b := (ctB_true hI).1
      rw [hB] at HT
      rw [hI] at HT2
      clear hB hI hbb hno
      go_enter Tryd.func28, Tryd.ntmps28
      go_wp2_with fail
      refine (HT.out _ HR.out).mono ?_
      rintro e w1 ⟨rfl, hb⟩
      have HE1 := Lib.hid (HE0.out.below hb)
      have HB := Lib.hid hb; clear hb
      go_wp2_with fail
      refine (HT2.out _ (HR2.out.below HB.out)).mono ?_
      rintro e w2 ⟨rfl, hb2⟩
      have HE2 := Lib.hid (HE1.out.below hb2)
      have HB2 := Lib.hid (HB.out.trans (hb2.mono HB.out.size)); clear hb2
      go_wp2
      go_loopw [6, 19] (fun v i wr => ∃ n : Nat, n ≤ ys.length ∧ i = .int .i64 n ∧ Hid (OwS w.heap.size wr v (selN (chF xs) ys n)) ∧ Hid (Below w.heap.size w wr)) (fun _ i _ => ys.length - (intOf i).toNat)
      case atStart => exact ⟨0, Nat.zero_le _, rfl, HE2, HB2⟩
      case round =>
        clear HB HE1 HB2 HE2
        obtain ⟨n, hn, rfl, HO, HB⟩ := hrel
        by_cases hlt : n < ys.length
        · obtain rfl := HP'.out (by omega)
          obtain ⟨c1, c2⟩ := HC'.out n hlt
          have c1 := cell_on HB.out c1
          have c2 := cell_on HB.out c2
          have hsl := selN_length (chF xs) ys n
          have hsz := HB.out.size
          have HO1 := Lib.hid (hok.out (n + 1))
          have HVal := Lib.hid (fun w h => implVal_any (.slice p xs.length cap) xs ys[n].nm w h hups (by omega))
          have e0 := box_cell wr #[.string ys[n].nm, .int .i64 ys[n].vl] 55 0 _ rfl
          have e1 := box_cell wr #[.string ys[n].nm, .int .i64 ys[n].vl] 55 1 _ rfl
          have hkk : ys[n].nm.toList = ys[n].k := rfl
          rw [hkk] at HVal
          clear hkk
          by_cases hgt : valN xs ys[n].k < ys[n].vl
          · have HS := Lib.hid (selN_some (chF xs) ys n ys[n].nm hlt (by simp [chF, hgt]))
            have hO := HO.out.1
            generalize hL : selN (chF xs) ys n = L at *
            generalize valN xs ys[n].k = z at *
            go_wp2_with fail
            refine wp_region_held_drew (S := (fun w' => Below wr.heap.size wr w' ∧ w'.cell? ⟨wr.heap.size, 0, none⟩ = some (.string ys[n].nm) ∧ w'.cell? ⟨wr.heap.size, 1, none⟩ = some (.int .i64 ys[n].vl))) (by kernel_rfl) ?rx1s (fun hHeld => ?rx10)
            case rx1s => ((try dsimp only); exact ⟨(below_alloc1 _ _).drew, e0, e1⟩)
            try simp only [Act.put, List.setIfInBounds_toArray, List.set_cons_zero, List.set_cons_succ]
            refine take_at 0 (some 23) (v := ?vx1_1) rfl rfl (by kernel_rfl) (by kernel_rfl) (by kernel_rfl) (fun _ _ _ h => h) (Or.inl ⟨by kernel_rfl, ?yx1_1⟩) hHeld ?zx1_1
            case yx1_1 => (intro wS hSw; (try dsimp only at hSw); go_simp; (try with_reducible rfl))
            try simp only [Act.put, List.setIfInBounds_toArray, List.set_cons_zero, List.set_cons_succ]
            refine take_at 1 (some 24) (v := ?vx1_2) rfl rfl (by kernel_rfl) (by kernel_rfl) (by kernel_rfl) (fun _ _ _ h => h) (Or.inl ⟨by kernel_rfl, ?yx1_2⟩) hHeld ?zx1_2
            case yx1_2 => (intro wS hSw; (try dsimp only at hSw); go_simp; (try with_reducible rfl))
            try simp only [Act.put, List.setIfInBounds_toArray, List.set_cons_zero, List.set_cons_succ]
            refine take_at 2 (some 25) (v := ?vx1_3) rfl rfl (by kernel_rfl) (by kernel_rfl) (by kernel_rfl) (fun _ _ _ h => h) (Or.inl ⟨by kernel_rfl, ?yx1_3⟩) hHeld ?zx1_3
            case yx1_3 => (intro wS hSw; (try dsimp only at hSw); go_simp; (try with_reducible rfl))
            try simp only [Act.put, List.setIfInBounds_toArray, List.set_cons_zero, List.set_cons_succ]
            refine take_at 3 (some 26) (v := ?vx1_4) rfl rfl (by kernel_rfl) (by kernel_rfl) (by kernel_rfl) (fun _ _ _ h => h) (Or.inl ⟨by kernel_rfl, ?yx1_4⟩) hHeld ?zx1_4
            case yx1_4 => (intro wS hSw; (try dsimp only at hSw); go_simp; (try with_reducible rfl))
            try simp only [Act.put, List.setIfInBounds_toArray, List.set_cons_zero, List.set_cons_succ]
            refine take_at 4 (some 27) (v := ?vx1_5) rfl rfl (by kernel_rfl) (by kernel_rfl) (by kernel_rfl) (fun _ _ _ h => h) (Or.inl ⟨by kernel_rfl, ?yx1_5⟩) hHeld ?zx1_5
            case yx1_5 => (intro wS hSw; (try dsimp only at hSw); go_simp; (try with_reducible rfl))
            try simp only [Act.put, List.setIfInBounds_toArray, List.set_cons_zero, List.set_cons_succ]
            refine wpAnyH_ready (rs := [5]) (by kernel_rfl) (by simp) ?_
            refine cons_at (some 28) rfl rfl (by kernel_rfl) (fun K hK => ?kx1_7) AllReadyH.nil
            go_simp
            (go_at_call 61; refine (HVal.out _ (HR.out.below (HB.out.trans (hHeld.1.mono HB.out.size)))).mono ?_; rintro e w' ⟨rfl, hbel⟩)
            try go_wp2_with fail
            refine hK.out _ _ ?sx1_7 (fun hHeld => ?_)
            case sx1_7 => ((try dsimp only); first | exact keepB2 (by assumption) hbel | assumption)
            clear hK K
            try simp only [Act.put, List.setIfInBounds_toArray, List.set_cons_zero, List.set_cons_succ]
            refine take_at 6 (some 29) (v := ?vx1_8) rfl rfl (by kernel_rfl) (by kernel_rfl) (by kernel_rfl) (fun _ _ _ h => h) (Or.inl ⟨by kernel_rfl, ?yx1_8⟩) hHeld ?zx1_8
            case yx1_8 => (intro wS hSw; (try dsimp only at hSw); go_simp; (try with_reducible rfl))
            try simp only [Act.put, List.setIfInBounds_toArray, List.set_cons_zero, List.set_cons_succ]
            refine wpAnyH_done (by kernel_rfl) ?_ _
            obtain ⟨hbW, hc0, hc1⟩ := hHeld
            have HOW := Lib.hid (own_below hO hbW)
            have HBW := Lib.hid (HB.out.trans (hbW.mono HB.out.size))
            have hszW := HBW.out.size
            clear hO hbW
            go_wp2_with (first | (at_builtin; go_loud (refine wpList_append_own _ rfl _ _ 35 rfl (w.heap.size) 9 i0 (.string ⟨#[]⟩) 1 16 Tryd.underlying35 hi hz0 hz1 hz2 rfl (by decide) _ _ _ rfl (HOW.out.alloc _) ⟨_, 0, none⟩ 1 1 [.string ys[n].nm] rfl rfl ?c1 ?c2 ?c3 ?c4 ?c5 ?_)))
            try (case c1 => first | exact cells_new _ #[.string ys[n].nm] _ | rfl)
            try (case c2 => first | rfl | exact ⟨rfl, rfl, rfl⟩ | exact ⟨rfl, rfl⟩ | (intro u hu; simp at hu; rcases hu with rfl | rfl | rfl | rfl <;> rfl) | (intro u hu; simp at hu; rcases hu with rfl | rfl | rfl <;> rfl) | (intro u hu; simp at hu; rcases hu with rfl | rfl <;> rfl) | (intro u hu; simp at hu; subst hu; rfl))
            try (case c3 => first | omega | (unfold maxLen; omega))
            try (case c4 => first | omega | ((try simp only [World.heap_size_alloc]); omega))
            try (case c5 => first | omega | (simp; omega))
            intro v' w2 hown' hgrow
            try intro _
            go_wp2
            go_roundw
            case rel => exact ⟨n + 1, by omega, by go_num, Lib.hid (by rw [HS.out]; exact ⟨by simpa using hown', by simp; omega, by rw [← HS.out]; exact HO1.out⟩), Lib.hid (Below.grown (Below.trans HBW.out (by go_grown)) hgrow (by simp; omega) (fun j hj => (HOW.out.lt j hj).1))⟩
            case measure => simp [intOf]; omega
          · have HS := Lib.hid (selN_none (chF xs) ys n hlt (by simp [chF, hgt]))
            generalize valN xs ys[n].k = z at *
            go_wp2_with fail
            refine wp_region_held_drew (S := (fun w' => Below wr.heap.size wr w' ∧ w'.cell? ⟨wr.heap.size, 0, none⟩ = some (.string ys[n].nm) ∧ w'.cell? ⟨wr.heap.size, 1, none⟩ = some (.int .i64 ys[n].vl))) (by kernel_rfl) ?rx2s (fun hHeld => ?rx20)
            case rx2s => ((try dsimp only); exact ⟨(below_alloc1 _ _).drew, e0, e1⟩)
            try simp only [Act.put, List.setIfInBounds_toArray, List.set_cons_zero, List.set_cons_succ]
            refine take_at 0 (some 23) (v := ?vx2_1) rfl rfl (by kernel_rfl) (by kernel_rfl) (by kernel_rfl) (fun _ _ _ h => h) (Or.inl ⟨by kernel_rfl, ?yx2_1⟩) hHeld ?zx2_1
            case yx2_1 => (intro wS hSw; (try dsimp only at hSw); go_simp; (try with_reducible rfl))
            try simp only [Act.put, List.setIfInBounds_toArray, List.set_cons_zero, List.set_cons_succ]
            refine take_at 1 (some 24) (v := ?vx2_2) rfl rfl (by kernel_rfl) (by kernel_rfl) (by kernel_rfl) (fun _ _ _ h => h) (Or.inl ⟨by kernel_rfl, ?yx2_2⟩) hHeld ?zx2_2
            case yx2_2 => (intro wS hSw; (try dsimp only at hSw); go_simp; (try with_reducible rfl))
            try simp only [Act.put, List.setIfInBounds_toArray, List.set_cons_zero, List.set_cons_succ]
            refine take_at 2 (some 25) (v := ?vx2_3) rfl rfl (by kernel_rfl) (by kernel_rfl) (by kernel_rfl) (fun _ _ _ h => h) (Or.inl ⟨by kernel_rfl, ?yx2_3⟩) hHeld ?zx2_3
            case yx2_3 => (intro wS hSw; (try dsimp only at hSw); go_simp; (try with_reducible rfl))
            try simp only [Act.put, List.setIfInBounds_toArray, List.set_cons_zero, List.set_cons_succ]
            refine take_at 3 (some 26) (v := ?vx2_4) rfl rfl (by kernel_rfl) (by kernel_rfl) (by kernel_rfl) (fun _ _ _ h => h) (Or.inl ⟨by kernel_rfl, ?yx2_4⟩) hHeld ?zx2_4
            case yx2_4 => (intro wS hSw; (try dsimp only at hSw); go_simp; (try with_reducible rfl))
            try simp only [Act.put, List.setIfInBounds_toArray, List.set_cons_zero, List.set_cons_succ]
            refine take_at 4 (some 27) (v := ?vx2_5) rfl rfl (by kernel_rfl) (by kernel_rfl) (by kernel_rfl) (fun _ _ _ h => h) (Or.inl ⟨by kernel_rfl, ?yx2_5⟩) hHeld ?zx2_5
            case yx2_5 => (intro wS hSw; (try dsimp only at hSw); go_simp; (try with_reducible rfl))
            try simp only [Act.put, List.setIfInBounds_toArray, List.set_cons_zero, List.set_cons_succ]
            refine wpAnyH_ready (rs := [5]) (by kernel_rfl) (by simp) ?_
            refine cons_at (some 28) rfl rfl (by kernel_rfl) (fun K hK => ?kx2_7) AllReadyH.nil
            go_simp
            (go_at_call 61; refine (HVal.out _ (HR.out.below (HB.out.trans (hHeld.1.mono HB.out.size)))).mono ?_; rintro e w' ⟨rfl, hbel⟩)
            try go_wp2_with fail
            refine hK.out _ _ ?sx2_7 (fun hHeld => ?_)
            case sx2_7 => ((try dsimp only); first | exact keepB2 (by assumption) hbel | assumption)
            clear hK K
            try simp only [Act.put, List.setIfInBounds_toArray, List.set_cons_zero, List.set_cons_succ]
            refine take_at 6 (some 29) (v := ?vx2_8) rfl rfl (by kernel_rfl) (by kernel_rfl) (by kernel_rfl) (fun _ _ _ h => h) (Or.inl ⟨by kernel_rfl, ?yx2_8⟩) hHeld ?zx2_8
            case yx2_8 => (intro wS hSw; (try dsimp only at hSw); go_simp; (try with_reducible rfl))
            try simp only [Act.put, List.setIfInBounds_toArray, List.set_cons_zero, List.set_cons_succ]
            refine wpAnyH_done (by kernel_rfl) ?_ _
            obtain ⟨hbW, hc0, hc1⟩ := hHeld
            have HOW := Lib.hid (HO.out.below hbW)
            have HBW := Lib.hid (HB.out.trans (hbW.mono HB.out.size))
            clear hbW
            go_wp2
            go_roundw
            case rel => exact ⟨n + 1, by omega, by go_num, Lib.hid (by rw [HS.out]; exact HOW.out), HBW⟩
            case measure => simp [intOf]; omega
        · obtain rfl : n = ys.length := by omega
          go_wp2
          refine bodyPost_ret (v := (.tuple #[u6, .bool true])) (by simp [results, Tryd.results28, go_sem, *]) rfl ?_
          exact ⟨_, by rw [HV.out.2], by rw [HV.out.1]; exact HO.out, HB.out⟩
set_option maxRecDepth 100000 in
set_option maxHeartbeats 4000000 in
theorem specChg_any (v v' : Value) (xs ys : List Ct) (w : World) (h : RdCt w v xs) (h' : RdCt w v' ys) (hS : ∀ x ∈ xs, x.nm.size ≤ 1048576) (hS2 : ∀ x ∈ ys, x.nm.size ≤ 1048576) :
    Calls Tryd.prog 27 #[v, v'] w fun e w' => ∃ u, e = .returned (.tuple #[u, .bool (chB xs ys)]) ∧ OwS w.heap.size w' u (chL xs ys) ∧ Below w.heap.size w w' := by
  have HT := Lib.hid (fun w h => l18Good_any v xs w h hS)
  have HT2 := Lib.hid (fun w h => l18Good_any v' ys w h hS2)
  have HR := Lib.hid h
  have HR2 := Lib.hid h'
  have hlen := h.2.1
  have hlen2 := h'.2.1
  have hok := Lib.hid (chN_ok xs ys hS2)
  obtain ⟨i0, hi, hz0, hz1, hz2⟩ := info_parts infoStr
  obtain ⟨p, cap, b, off, rfl, hcap, _, _⟩ := h.parts
  obtain ⟨p', cap', b', off', rfl, hcap', hp', hcell'⟩ := h'.parts
  have HC' := Lib.hid hcell'; clear hcell'
  have HP' := Lib.hid hp'; clear hp' h h'
  have hno : chB xs ys = false → Hid (chL xs ys = [] ∧ chB xs ys = false) := fun h => Lib.hid ⟨by rw [chL, h]; rfl, h⟩
  have HE0 : Hid (OwS w.heap.size (w.alloc (.cells #[] 9)) (.slice (some ⟨w.heap.size, 0, none⟩) 0 0) []) := Lib.hid ⟨World.ownsRow_lit w #[] 0 (Nat.le_refl _) (Nat.zero_le _) rfl, by simp, by simp⟩
  cases hB : ctB xs
  · have HV := hno (by rw [chB, hB]; rfl); clear hno
    rw [hB] at HT
    go_enter Tryd.func27, Tryd.ntmps27
    go_wp2_with fail
    refine (HT.out _ (HR.out.below (below_alloc1 _ _))).mono ?_
    rintro e w1 ⟨rfl, hb⟩
    have HE1 := Lib.hid (HE0.out.below hb)
    have HB := Lib.hid (Below.trans (by go_grown) (hb.mono (by simp)) : Below w.heap.size w w1)
    go_wp2
    refine bodyPost_ret (v := (.tuple #[.slice (some ⟨w.heap.size, 0, none⟩) 0 0, .bool false])) (by simp [results, Tryd.results27, go_sem, *]) rfl ?_
    exact ⟨_, by rw [HV.out.2], by rw [HV.out.1]; exact HE1.out, HB.out⟩
  · cases hI : ctB ys
    · have HV := hno (by rw [chB, hI, Bool.and_false]); clear hno
      rw [hB] at HT
      rw [hI] at HT2
      clear hB hI
      go_enter Tryd.func27, Tryd.ntmps27
      go_wp2_with fail
      refine (HT.out _ (HR.out.below (below_alloc1 _ _))).mono ?_
      rintro e w1 ⟨rfl, hb⟩
      have HE1 := Lib.hid (HE0.out.below hb)
      have HB := Lib.hid (Below.trans (by go_grown) (hb.mono (by simp)) : Below w.heap.size w w1)
      go_wp2_with fail
      refine (HT2.out _ (HR2.out.below HB.out)).mono ?_
      rintro e w2 ⟨rfl, hb2⟩
      have HE2 := Lib.hid (HE1.out.below hb2)
      have HB2 := Lib.hid (HB.out.trans (hb2.mono HB.out.size)); clear hb2
      go_wp2
      refine bodyPost_ret (v := (.tuple #[.slice (some ⟨w.heap.size, 0, none⟩) 0 0, .bool false])) (by simp [results, Tryd.results27, go_sem, *]) rfl ?_
      exact ⟨_, by rw [HV.out.2], by rw [HV.out.1]; exact HE2.out, HB2.out⟩
    · have hbb : chB xs ys = true := by rw [chB, hB, hI]; rfl
      have HV : Hid (chL xs ys = selN (chF xs) ys ys.length ∧ chB xs ys = true) := Lib.hid ⟨by rw [chL, if_pos hbb], hbb⟩
      obtain ⟨h12, _, hups⟩ := ctB_true hB
      have h12b := (ctB_true hI).1
      rw [hB] at HT
      rw [hI] at HT2
      clear hB hI hbb hno
      go_enter Tryd.func27, Tryd.ntmps27
      go_wp2_with fail
      refine (HT.out _ (HR.out.below (below_alloc1 _ _))).mono ?_
      rintro e w1 ⟨rfl, hb⟩
      have HE1 := Lib.hid (HE0.out.below hb)
      have HB := Lib.hid (Below.trans (by go_grown) (hb.mono (by simp)) : Below w.heap.size w w1)
      go_wp2_with fail
      refine (HT2.out _ (HR2.out.below HB.out)).mono ?_
      rintro e w2 ⟨rfl, hb2⟩
      have HE2 := Lib.hid (HE1.out.below hb2)
      have HB2 := Lib.hid (HB.out.trans (hb2.mono HB.out.size)); clear hb2
      go_wp2
      go_loopw [6, 7] (fun v i wr => ∃ n : Nat, n ≤ ys.length ∧ i = .int .i64 n ∧ Hid (OwS w.heap.size wr v (selN (chF xs) ys n)) ∧ Hid (Below w.heap.size w wr)) (fun _ i _ => ys.length - (intOf i).toNat)
      case atStart => exact ⟨0, Nat.zero_le _, rfl, HE2, HB2⟩
      case round =>
        clear HB HE1 HB2 HE2
        obtain ⟨n, hn, rfl, HO, HB⟩ := hrel
        by_cases hlt : n < ys.length
        · obtain rfl := HP'.out (by omega)
          obtain ⟨c1, c2⟩ := HC'.out n hlt
          have c1 := cell_on HB.out c1
          have c2 := cell_on HB.out c2
          have hsl := selN_length (chF xs) ys n
          have hsz := HB.out.size
          have HO1 := Lib.hid (hok.out (n + 1))
          have HVal := Lib.hid (fun w h => specVal_any (.slice p xs.length cap) xs ys[n].nm w h)
          have hkk : ys[n].nm.toList = ys[n].k := rfl
          rw [hkk] at HVal
          clear hkk
          by_cases hgt : valN xs ys[n].k < ys[n].vl
          · have HS := Lib.hid (selN_some (chF xs) ys n ys[n].nm hlt (by simp [chF, hgt]))
            have hO := HO.out.1
            generalize hL : selN (chF xs) ys n = L at *
            generalize valN xs ys[n].k = z at *
            go_wp2_with fail
            refine wp_region_held_drew (S := (fun w' => Below wr.heap.size wr w' ∧ w'.cell? ⟨b', off' + n * 2, none⟩ = some (.string ys[n].nm) ∧ w'.cell? ⟨b', off' + n * 2 + 1, none⟩ = some (.int .i64 ys[n].vl))) (by kernel_rfl) ?rx3s (fun hHeld => ?rx30)
            case rx3s => ((try dsimp only); exact ⟨(Below.refl _ _).drew, c1, c2⟩)
            try simp only [Act.put, List.setIfInBounds_toArray, List.set_cons_zero, List.set_cons_succ]
            refine take_at 0 (some 24) (v := ?vx3_1) rfl rfl (by kernel_rfl) (by kernel_rfl) (by kernel_rfl) (fun _ _ _ h => h) (Or.inl ⟨by kernel_rfl, ?yx3_1⟩) hHeld ?zx3_1
            case yx3_1 => (intro wS hSw; (try dsimp only at hSw); go_simp; (try with_reducible rfl))
            try simp only [Act.put, List.setIfInBounds_toArray, List.set_cons_zero, List.set_cons_succ]
            refine take_at 1 (some 25) (v := ?vx3_2) rfl rfl (by kernel_rfl) (by kernel_rfl) (by kernel_rfl) (fun _ _ _ h => h) (Or.inl ⟨by kernel_rfl, ?yx3_2⟩) hHeld ?zx3_2
            case yx3_2 => (intro wS hSw; (try dsimp only at hSw); go_simp; (try with_reducible rfl))
            try simp only [Act.put, List.setIfInBounds_toArray, List.set_cons_zero, List.set_cons_succ]
            refine take_at 2 (some 26) (v := ?vx3_3) rfl rfl (by kernel_rfl) (by kernel_rfl) (by kernel_rfl) (fun _ _ _ h => h) (Or.inl ⟨by kernel_rfl, ?yx3_3⟩) hHeld ?zx3_3
            case yx3_3 => (intro wS hSw; (try dsimp only at hSw); go_simp; (try with_reducible rfl))
            try simp only [Act.put, List.setIfInBounds_toArray, List.set_cons_zero, List.set_cons_succ]
            refine take_at 3 (some 27) (v := ?vx3_4) rfl rfl (by kernel_rfl) (by kernel_rfl) (by kernel_rfl) (fun _ _ _ h => h) (Or.inl ⟨by kernel_rfl, ?yx3_4⟩) hHeld ?zx3_4
            case yx3_4 => (intro wS hSw; (try dsimp only at hSw); go_simp; (try with_reducible rfl))
            try simp only [Act.put, List.setIfInBounds_toArray, List.set_cons_zero, List.set_cons_succ]
            refine take_at 4 (some 28) (v := ?vx3_5) rfl rfl (by kernel_rfl) (by kernel_rfl) (by kernel_rfl) (fun _ _ _ h => h) (Or.inl ⟨by kernel_rfl, ?yx3_5⟩) hHeld ?zx3_5
            case yx3_5 => (intro wS hSw; (try dsimp only at hSw); go_simp; (try with_reducible rfl))
            try simp only [Act.put, List.setIfInBounds_toArray, List.set_cons_zero, List.set_cons_succ]
            refine take_at 5 (some 29) (v := ?vx3_6) rfl rfl (by kernel_rfl) (by kernel_rfl) (by kernel_rfl) (fun _ _ _ h => h) (Or.inl ⟨by kernel_rfl, ?yx3_6⟩) hHeld ?zx3_6
            case yx3_6 => (intro wS hSw; (try dsimp only at hSw); go_simp; (try with_reducible rfl))
            try simp only [Act.put, List.setIfInBounds_toArray, List.set_cons_zero, List.set_cons_succ]
            refine take_at 6 (some 30) (v := ?vx3_7) rfl rfl (by kernel_rfl) (by kernel_rfl) (by kernel_rfl) (fun _ _ _ h => h) (Or.inl ⟨by kernel_rfl, ?yx3_7⟩) hHeld ?zx3_7
            case yx3_7 => (intro wS hSw; (try dsimp only at hSw); go_simp; (try with_reducible rfl))
            try simp only [Act.put, List.setIfInBounds_toArray, List.set_cons_zero, List.set_cons_succ]
            refine take_at 7 (some 31) (v := ?vx3_8) rfl rfl (by kernel_rfl) (by kernel_rfl) (by kernel_rfl) (fun _ _ _ h => h) (Or.inl ⟨by kernel_rfl, ?yx3_8⟩) hHeld ?zx3_8
            case yx3_8 => (intro wS hSw; (try dsimp only at hSw); go_simp; (try with_reducible rfl))
            try simp only [Act.put, List.setIfInBounds_toArray, List.set_cons_zero, List.set_cons_succ]
            refine take_at 8 (some 32) (v := ?vx3_9) rfl rfl (by kernel_rfl) (by kernel_rfl) (by kernel_rfl) (fun _ _ _ h => h) (Or.inl ⟨by kernel_rfl, ?yx3_9⟩) hHeld ?zx3_9
            case yx3_9 => (intro wS hSw; (try dsimp only at hSw); go_simp; (try with_reducible rfl))
            try simp only [Act.put, List.setIfInBounds_toArray, List.set_cons_zero, List.set_cons_succ]
            refine take_at 9 (some 33) (v := ?vx3_10) rfl rfl (by kernel_rfl) (by kernel_rfl) (by kernel_rfl) (fun _ _ _ h => h) (Or.inl ⟨by kernel_rfl, ?yx3_10⟩) hHeld ?zx3_10
            case yx3_10 => (intro wS hSw; (try dsimp only at hSw); go_simp; (try with_reducible rfl))
            try simp only [Act.put, List.setIfInBounds_toArray, List.set_cons_zero, List.set_cons_succ]
            refine take_at 10 (some 34) (v := ?vx3_11) rfl rfl (by kernel_rfl) (by kernel_rfl) (by kernel_rfl) (fun _ _ _ h => h) (Or.inl ⟨by kernel_rfl, ?yx3_11⟩) hHeld ?zx3_11
            case yx3_11 => (intro wS hSw; (try dsimp only at hSw); go_simp; (try with_reducible rfl))
            try simp only [Act.put, List.setIfInBounds_toArray, List.set_cons_zero, List.set_cons_succ]
            refine wpAnyH_ready (rs := [11]) (by kernel_rfl) (by simp) ?_
            refine cons_at (some 35) rfl rfl (by kernel_rfl) (fun K hK => ?kx3_13) AllReadyH.nil
            go_simp
            (go_at_call 60; refine (HVal.out _ (HR.out.below (HB.out.trans (hHeld.1.mono HB.out.size)))).mono ?_; rintro e w' ⟨rfl, rfl⟩)
            try go_wp2_with fail
            refine hK.out _ _ ?sx3_13 (fun hHeld => ?_)
            case sx3_13 => ((try dsimp only); first | exact keepB2 (by assumption) hbel | assumption)
            clear hK K
            try simp only [Act.put, List.setIfInBounds_toArray, List.set_cons_zero, List.set_cons_succ]
            refine take_at 12 (some 36) (v := ?vx3_14) rfl rfl (by kernel_rfl) (by kernel_rfl) (by kernel_rfl) (fun _ _ _ h => h) (Or.inl ⟨by kernel_rfl, ?yx3_14⟩) hHeld ?zx3_14
            case yx3_14 => (intro wS hSw; (try dsimp only at hSw); go_simp; (try with_reducible rfl))
            try simp only [Act.put, List.setIfInBounds_toArray, List.set_cons_zero, List.set_cons_succ]
            refine wpAnyH_done (by kernel_rfl) ?_ _
            obtain ⟨hbW, hc0, hc1⟩ := hHeld
            have HOW := Lib.hid (own_below hO hbW)
            have HBW := Lib.hid (HB.out.trans (hbW.mono HB.out.size))
            have hszW := HBW.out.size
            clear hO hbW
            go_wp2_with (first | (at_builtin; go_loud (refine wpList_append_own _ rfl _ _ 35 rfl (w.heap.size) 9 i0 (.string ⟨#[]⟩) 1 16 Tryd.underlying35 hi hz0 hz1 hz2 rfl (by decide) _ _ _ rfl (HOW.out.alloc _) ⟨_, 0, none⟩ 1 1 [.string ys[n].nm] rfl rfl ?c1 ?c2 ?c3 ?c4 ?c5 ?_)))
            try (case c1 => first | exact cells_new _ #[.string ys[n].nm] _ | rfl)
            try (case c2 => first | rfl | exact ⟨rfl, rfl, rfl⟩ | exact ⟨rfl, rfl⟩ | (intro u hu; simp at hu; rcases hu with rfl | rfl | rfl | rfl <;> rfl) | (intro u hu; simp at hu; rcases hu with rfl | rfl | rfl <;> rfl) | (intro u hu; simp at hu; rcases hu with rfl | rfl <;> rfl) | (intro u hu; simp at hu; subst hu; rfl))
            try (case c3 => first | omega | (unfold maxLen; omega))
            try (case c4 => first | omega | ((try simp only [World.heap_size_alloc]); omega))
            try (case c5 => first | omega | (simp; omega))
            intro v' w2 hown' hgrow
            try intro _
            go_wp2
            go_roundw
            case rel => exact ⟨n + 1, by omega, by go_num, Lib.hid (by rw [HS.out]; exact ⟨by simpa using hown', by simp; omega, by rw [← HS.out]; exact HO1.out⟩), Lib.hid (Below.grown (Below.trans HB.out (by go_grown)) hgrow (by simp; omega) (fun j hj => (HOW.out.lt j hj).1))⟩
            case measure => simp [intOf]; omega
          · have HS := Lib.hid (selN_none (chF xs) ys n hlt (by simp [chF, hgt]))
            generalize valN xs ys[n].k = z at *
            go_wp2_with fail
            refine wp_region_held_drew (S := (fun w' => Below wr.heap.size wr w' ∧ w'.cell? ⟨b', off' + n * 2, none⟩ = some (.string ys[n].nm) ∧ w'.cell? ⟨b', off' + n * 2 + 1, none⟩ = some (.int .i64 ys[n].vl))) (by kernel_rfl) ?rx4s (fun hHeld => ?rx40)
            case rx4s => ((try dsimp only); exact ⟨(Below.refl _ _).drew, c1, c2⟩)
            try simp only [Act.put, List.setIfInBounds_toArray, List.set_cons_zero, List.set_cons_succ]
            refine take_at 0 (some 24) (v := ?vx4_1) rfl rfl (by kernel_rfl) (by kernel_rfl) (by kernel_rfl) (fun _ _ _ h => h) (Or.inl ⟨by kernel_rfl, ?yx4_1⟩) hHeld ?zx4_1
            case yx4_1 => (intro wS hSw; (try dsimp only at hSw); go_simp; (try with_reducible rfl))
            try simp only [Act.put, List.setIfInBounds_toArray, List.set_cons_zero, List.set_cons_succ]
            refine take_at 1 (some 25) (v := ?vx4_2) rfl rfl (by kernel_rfl) (by kernel_rfl) (by kernel_rfl) (fun _ _ _ h => h) (Or.inl ⟨by kernel_rfl, ?yx4_2⟩) hHeld ?zx4_2
            case yx4_2 => (intro wS hSw; (try dsimp only at hSw); go_simp; (try with_reducible rfl))
            try simp only [Act.put, List.setIfInBounds_toArray, List.set_cons_zero, List.set_cons_succ]
            refine take_at 2 (some 26) (v := ?vx4_3) rfl rfl (by kernel_rfl) (by kernel_rfl) (by kernel_rfl) (fun _ _ _ h => h) (Or.inl ⟨by kernel_rfl, ?yx4_3⟩) hHeld ?zx4_3
            case yx4_3 => (intro wS hSw; (try dsimp only at hSw); go_simp; (try with_reducible rfl))
            try simp only [Act.put, List.setIfInBounds_toArray, List.set_cons_zero, List.set_cons_succ]
            refine take_at 3 (some 27) (v := ?vx4_4) rfl rfl (by kernel_rfl) (by kernel_rfl) (by kernel_rfl) (fun _ _ _ h => h) (Or.inl ⟨by kernel_rfl, ?yx4_4⟩) hHeld ?zx4_4
            case yx4_4 => (intro wS hSw; (try dsimp only at hSw); go_simp; (try with_reducible rfl))
            try simp only [Act.put, List.setIfInBounds_toArray, List.set_cons_zero, List.set_cons_succ]
            refine take_at 4 (some 28) (v := ?vx4_5) rfl rfl (by kernel_rfl) (by kernel_rfl) (by kernel_rfl) (fun _ _ _ h => h) (Or.inl ⟨by kernel_rfl, ?yx4_5⟩) hHeld ?zx4_5
            case yx4_5 => (intro wS hSw; (try dsimp only at hSw); go_simp; (try with_reducible rfl))
            try simp only [Act.put, List.setIfInBounds_toArray, List.set_cons_zero, List.set_cons_succ]
            refine take_at 5 (some 29) (v := ?vx4_6) rfl rfl (by kernel_rfl) (by kernel_rfl) (by kernel_rfl) (fun _ _ _ h => h) (Or.inl ⟨by kernel_rfl, ?yx4_6⟩) hHeld ?zx4_6
            case yx4_6 => (intro wS hSw; (try dsimp only at hSw); go_simp; (try with_reducible rfl))
            try simp only [Act.put, List.setIfInBounds_toArray, List.set_cons_zero, List.set_cons_succ]
            refine take_at 6 (some 30) (v := ?vx4_7) rfl rfl (by kernel_rfl) (by kernel_rfl) (by kernel_rfl) (fun _ _ _ h => h) (Or.inl ⟨by kernel_rfl, ?yx4_7⟩) hHeld ?zx4_7
            case yx4_7 => (intro wS hSw; (try dsimp only at hSw); go_simp; (try with_reducible rfl))
            try simp only [Act.put, List.setIfInBounds_toArray, List.set_cons_zero, List.set_cons_succ]
            refine take_at 7 (some 31) (v := ?vx4_8) rfl rfl (by kernel_rfl) (by kernel_rfl) (by kernel_rfl) (fun _ _ _ h => h) (Or.inl ⟨by kernel_rfl, ?yx4_8⟩) hHeld ?zx4_8
            case yx4_8 => (intro wS hSw; (try dsimp only at hSw); go_simp; (try with_reducible rfl))
            try simp only [Act.put, List.setIfInBounds_toArray, List.set_cons_zero, List.set_cons_succ]
            refine take_at 8 (some 32) (v := ?vx4_9) rfl rfl (by kernel_rfl) (by kernel_rfl) (by kernel_rfl) (fun _ _ _ h => h) (Or.inl ⟨by kernel_rfl, ?yx4_9⟩) hHeld ?zx4_9
            case yx4_9 => (intro wS hSw; (try dsimp only at hSw); go_simp; (try with_reducible rfl))
            try simp only [Act.put, List.setIfInBounds_toArray, List.set_cons_zero, List.set_cons_succ]
            refine take_at 9 (some 33) (v := ?vx4_10) rfl rfl (by kernel_rfl) (by kernel_rfl) (by kernel_rfl) (fun _ _ _ h => h) (Or.inl ⟨by kernel_rfl, ?yx4_10⟩) hHeld ?zx4_10
            case yx4_10 => (intro wS hSw; (try dsimp only at hSw); go_simp; (try with_reducible rfl))
            try simp only [Act.put, List.setIfInBounds_toArray, List.set_cons_zero, List.set_cons_succ]
            refine take_at 10 (some 34) (v := ?vx4_11) rfl rfl (by kernel_rfl) (by kernel_rfl) (by kernel_rfl) (fun _ _ _ h => h) (Or.inl ⟨by kernel_rfl, ?yx4_11⟩) hHeld ?zx4_11
            case yx4_11 => (intro wS hSw; (try dsimp only at hSw); go_simp; (try with_reducible rfl))
            try simp only [Act.put, List.setIfInBounds_toArray, List.set_cons_zero, List.set_cons_succ]
            refine wpAnyH_ready (rs := [11]) (by kernel_rfl) (by simp) ?_
            refine cons_at (some 35) rfl rfl (by kernel_rfl) (fun K hK => ?kx4_13) AllReadyH.nil
            go_simp
            (go_at_call 60; refine (HVal.out _ (HR.out.below (HB.out.trans (hHeld.1.mono HB.out.size)))).mono ?_; rintro e w' ⟨rfl, rfl⟩)
            try go_wp2_with fail
            refine hK.out _ _ ?sx4_13 (fun hHeld => ?_)
            case sx4_13 => ((try dsimp only); first | exact keepB2 (by assumption) hbel | assumption)
            clear hK K
            try simp only [Act.put, List.setIfInBounds_toArray, List.set_cons_zero, List.set_cons_succ]
            refine take_at 12 (some 36) (v := ?vx4_14) rfl rfl (by kernel_rfl) (by kernel_rfl) (by kernel_rfl) (fun _ _ _ h => h) (Or.inl ⟨by kernel_rfl, ?yx4_14⟩) hHeld ?zx4_14
            case yx4_14 => (intro wS hSw; (try dsimp only at hSw); go_simp; (try with_reducible rfl))
            try simp only [Act.put, List.setIfInBounds_toArray, List.set_cons_zero, List.set_cons_succ]
            refine wpAnyH_done (by kernel_rfl) ?_ _
            obtain ⟨hbW, hc0, hc1⟩ := hHeld
            have HOW := Lib.hid (HO.out.below hbW)
            have HBW := Lib.hid (HB.out.trans (hbW.mono HB.out.size))
            clear hbW
            go_wp2
            go_roundw
            case rel => exact ⟨n + 1, by omega, by go_num, Lib.hid (by rw [HS.out]; exact HOW.out), HBW⟩
            case measure => simp [intOf]; omega
        · obtain rfl : n = ys.length := by omega
          go_wp2
          refine bodyPost_ret (v := (.tuple #[u6, .bool true])) (by simp [results, Tryd.results27, go_sem, *]) rfl ?_
          exact ⟨_, by rw [HV.out.2], by rw [HV.out.1]; exact HO.out, HB.out⟩
end Go.Proofs.YtmochhgmhhopoaaDoor
