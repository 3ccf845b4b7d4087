/- Lists of counters added: the program's and the reference's AddCounters, for all lists of at most 2^30 counters. Condition: names of at most 2^20 bytes. -/
import Derived.Test.YtmochhgmhhopoaaDoorCnt10
namespace Go.Proofs.YtmochhgmhhopoaaDoor
open Go.RowKit

def addN (xs ys : List Ct) : Nat → List Ct
  | 0 => xs
  | n + 1 => match ys[n]? with
    | none => addN xs ys n
    | some y => bumpL (addN xs ys n) y.nm y.vl
theorem addN_succ (xs ys : List Ct) (n : Nat) (h : n < ys.length) : addN xs ys (n + 1) = bumpL (addN xs ys n) ys[n].nm ys[n].vl := by
  rw [addN, List.getElem?_eq_getElem h]
theorem addN_facts {xs ys : List Ct} (hu : Ups xs) (hv : Vls 1000000 xs) (hw : Vls 1000000 ys) (hS : ∀ x ∈ xs, x.nm.size ≤ 1048576) (hS2 : ∀ x ∈ ys, x.nm.size ≤ 1048576) (n : Nat) (hn : n ≤ ys.length) :
    Ups (addN xs ys n) ∧ Vls (1000000 + 1000000 * n) (addN xs ys n) ∧ (∀ x ∈ addN xs ys n, x.nm.size ≤ 1048576) ∧ (addN xs ys n).length ≤ xs.length + n := by
  induction n with
  | zero => exact ⟨hu, hv.mono (by omega), hS, Nat.le_refl _⟩
  | succ n ih =>
    obtain ⟨h1, h2, h3, h4⟩ := ih (by omega)
    have hy := hw ys[n] (List.getElem_mem _)
    rw [addN_succ xs ys n (by omega)]
    refine ⟨bumpL_ups h1 _ _, (bump_vls h2 (by omega) hy.1).mono (by have := hy.2; omega), bump_names h3 (hS2 _ (List.getElem_mem _)), ?_⟩
    have := bumpL_length (addN xs ys n) ys[n].nm ys[n].vl
    omega
def adB (xs ys : List Ct) : Bool := ctB xs && (ctB ys && ctB (addN xs ys ys.length))
def adL (xs ys : List Ct) : List Ct := if adB xs ys = true then addN xs ys ys.length else []
theorem adNo {xs ys : List Ct} (h : adB xs ys = false) : Hid (adL xs ys = [] ∧ adB xs ys = false) := Lib.hid ⟨by rw [adL, h]; rfl, h⟩
set_option maxRecDepth 100000 in
set_option maxHeartbeats 4000000 in
theorem implAdd_any (v v' : Value) (xs ys : List Ct) (w : World) (h : RdCt w v xs) (h' : RdCt w v' ys) (hS : ∀ x ∈ xs, x.nm.size ≤ 1048576) (hS2 : ∀ x ∈ ys, x.nm.size ≤ 1048576) :
    Calls Tryd.prog 35 #[v, v'] w fun e w' => ∃ u, e = .returned (.tuple #[u, .bool (adB xs ys)]) ∧ OwCt w.heap.size w' u (adL xs ys) ∧ Below w.heap.size w w' := by
  have HT := Lib.hid (implIs_any v xs w h hS)
  have HT2 := Lib.hid (fun w h => implIs_any v' ys w h hS2)
  have HR := Lib.hid h
  have HR2 := Lib.hid h'
  have hlen := h.2.1
  have hlen2 := h'.2.1
  have HONE := Lib.hid (oneCt xs)
  obtain ⟨i0, hi, hz0, hz1, hz2⟩ := info_parts infoCt
  obtain ⟨⟨_, p, cap, b, off, rfl, hcap, hnil, _⟩, _, _⟩ := id h
  have HSrc := Lib.hid h.1.source
  have HNil := Lib.hid hnil; clear hnil
  obtain ⟨p', cap', b', off', rfl, hcap', hp', hcell'⟩ := h'.parts
  have HC' := Lib.hid hcell'; clear hcell'
  have HP' := Lib.hid hp'; clear hp' h h'
  have hlc : (xs.flatMap Ct.cells).length = xs.length * 2 := flat_length Ct.cells 2 Ct.cells_length xs
  cases hB : ctB xs
  · have HV := adNo (show adB xs ys = false by rw [adB, hB]; rfl)
    rw [hB] at HT
    go_enter Tryd.func35, Tryd.ntmps35
    go_wp2_with fail
    refine HT.out.mono ?_
    rintro e w1 ⟨rfl, hb⟩
    have HR1 := Lib.hid (HR.out.below hb)
    have HB := Lib.hid hb; clear hb
    go_wp2
    refine bodyPost_ret (v := (.tuple #[.slice none 0 0, .bool false])) (by simp [results, Tryd.results35, go_sem, *]) rfl ?_
    exact ⟨_, by rw [HV.out.2], by rw [HV.out.1]; exact owCt_nil _ _, HB.out⟩
  · cases hI : ctB ys
    · have HV := adNo (show adB xs ys = false by rw [adB, hI, Bool.false_and, Bool.and_false])
      rw [hB] at HT
      rw [hI] at HT2
      clear hB hI
      go_enter Tryd.func35, Tryd.ntmps35
      go_wp2_with fail
      refine HT.out.mono ?_
      rintro e w1 ⟨rfl, hb⟩
      have HR1 := Lib.hid (HR.out.below hb)
      have HB := Lib.hid hb; clear hb
      go_wp2_with fail
      refine (HT2.out _ (HR2.out.below HB.out)).mono ?_
      rintro e w2 ⟨rfl, hb2⟩
      have HRb := Lib.hid (HR1.out.below hb2)
      have HB2 := Lib.hid (HB.out.trans (hb2.mono HB.out.size)); clear hb2
      go_wp2
      refine bodyPost_ret (v := (.tuple #[.slice none 0 0, .bool false])) (by simp [results, Tryd.results35, go_sem, *]) rfl ?_
      exact ⟨_, by rw [HV.out.2], by rw [HV.out.1]; exact owCt_nil _ _, HB2.out⟩
    · obtain ⟨h12, hgood, hups⟩ := ctB_true hB
      obtain ⟨h12b, hgood2, _⟩ := ctB_true hI
      have HF := Lib.hid (addN_facts hups (vls_good hgood) (vls_good hgood2) hS hS2)
      have HW := Lib.hid (vls_good hgood2)
      have HBD : Hid (adB xs ys = ctB (addN xs ys ys.length)) := Lib.hid (by rw [adB, hB, hI, Bool.true_and, Bool.true_and])
      have HT3 := Lib.hid (fun v w h => implIs_any v (addN xs ys ys.length) w h (HF.out ys.length (Nat.le_refl _)).2.2.1)
      rw [hB] at HT
      rw [hI] at HT2
      clear hB hI hgood hgood2
      go_enter Tryd.func35, Tryd.ntmps35
      go_wp2_with fail
      refine HT.out.mono ?_
      rintro e w1 ⟨rfl, hb⟩
      have HR1 := Lib.hid (HR.out.below hb)
      have HB := Lib.hid hb; clear hb
      go_wp2_with fail
      refine (HT2.out _ (HR2.out.below HB.out)).mono ?_
      rintro e w2 ⟨rfl, hb2⟩
      have HRb := Lib.hid (HR1.out.below hb2)
      have HB2 := Lib.hid (HB.out.trans (hb2.mono HB.out.size)); clear hb2
      have hz2' := HB2.out.size
      go_wp2_with fail
      refine (cloneCt _ xs.length _ _ HRb.out.1 (by omega) (oneCt xs)).mono ?_
      rintro e w3 ⟨u, rfl, hou, hb3⟩
      have HO3 : Hid (w3.ownsRow w.heap.size 55 2 u (addN xs ys 0).length ((addN xs ys 0).flatMap Ct.cells)) := Lib.hid (own_base hou hz2'); clear hou
      have HB3 := Lib.hid (HB2.out.trans (hb3.mono HB2.out.size)); clear hb3
      go_wp2
      go_loopw [6, 21] (fun v i wr => ∃ n : Nat, n ≤ ys.length ∧ i = .int .i64 n ∧ Hid (wr.ownsRow w.heap.size 55 2 v (addN xs ys n).length ((addN xs ys n).flatMap Ct.cells)) ∧ Hid (Below w.heap.size w wr)) (fun _ i _ => ys.length - (intOf i).toNat)
      case atStart => exact ⟨0, Nat.zero_le _, rfl, HO3, HB3⟩
      case round =>
        clear HB HB2 HB3 HO3 HR1 HRb
        obtain ⟨n, hn, rfl, HO, HB⟩ := hrel
        by_cases hlt : n < ys.length
        · obtain rfl := HP'.out (by omega)
          obtain ⟨c1, c2⟩ := HC'.out n hlt
          have c1 := cell_on HB.out c1
          have c2 := cell_on HB.out c2
          have hsz := HB.out.size
          obtain ⟨f1, f2, f3, f4⟩ := HF.out n hn
          have hy := HW.out ys[n] (List.getElem_mem hlt)
          have HA := Lib.hid (addN_succ xs ys n hlt)
          have hvl : Vls 1000000000 (addN xs ys n) := f2.mono (by omega)
          generalize addN xs ys n = L at *
          have HBm := Lib.hid (fun w' hO hz => bumped_any u6 L ys[n].nm ys[n].vl w.heap.size w' hO (names_ok f3) (by omega) f1 hvl hy.1 hy.2 hz)
          go_wp2_with fail
          refine (HBm.out _ (HO.out.alloc _) (by simp; omega)).mono ?_
          rintro e w4 ⟨u4, rfl, hou4, hb4⟩
          have HO4 := Lib.hid hou4; clear hou4
          have HB4 : Hid (Below w.heap.size w w4) := Lib.hid (Below.trans (Below.trans HB.out ((below_alloc1 _ _).mono HB.out.size)) hb4); clear hb4
          go_wp2
          go_roundw
          case rel => exact ⟨n + 1, by omega, by go_num, Lib.hid (by rw [HA.out]; exact HO4.out), HB4⟩
          case measure => simp [intOf]; omega
        · obtain rfl : n = ys.length := by omega
          obtain ⟨f1, f2, f3, f4⟩ := HF.out ys.length (Nat.le_refl _)
          have HO4 : Hid (OwCt w.heap.size wr u6 (addN xs ys ys.length)) := Lib.hid ⟨HO.out, by omega, names_ok f3⟩
          cases hC : ctB (addN xs ys ys.length)
          · have HV := adNo (show adB xs ys = false by rw [HBD.out, hC])
            rw [hC] at HT3
            clear hC f1 f2 f3
            go_wp2_with fail
            refine (HT3.out _ _ HO4.out.rd).mono ?_
            rintro e w5 ⟨rfl, hb5⟩
            have HB5 := Lib.hid (HB.out.trans (hb5.mono HB.out.size)); clear hb5
            go_wp2
            refine bodyPost_ret (v := (.tuple #[.slice none 0 0, .bool false])) (by simp [results, Tryd.results35, go_sem, *]) rfl ?_
            exact ⟨_, by rw [HV.out.2], by rw [HV.out.1]; exact owCt_nil _ _, HB5.out⟩
          · have hbb : adB xs ys = true := by rw [HBD.out, hC]
            have HV : Hid (adL xs ys = addN xs ys ys.length ∧ adB xs ys = true) := Lib.hid ⟨by rw [adL, if_pos hbb], hbb⟩
            rw [hC] at HT3
            clear hC hbb f1 f2 f3
            go_wp2_with fail
            refine (HT3.out _ _ HO4.out.rd).mono ?_
            rintro e w5 ⟨rfl, hb5⟩
            have HO5 := Lib.hid (HO4.out.below hb5)
            have HB5 := Lib.hid (HB.out.trans (hb5.mono HB.out.size)); clear hb5
            go_wp2
            refine bodyPost_ret (v := (.tuple #[u6, .bool true])) (by simp [results, Tryd.results35, go_sem, *]) rfl ?_
            exact ⟨_, by rw [HV.out.2], by rw [HV.out.1]; exact HO5.out, HB5.out⟩
set_option maxRecDepth 100000 in
set_option maxHeartbeats 4000000 in
theorem specAdd_any (v v' : Value) (xs ys : List Ct) (w : World) (h : RdCt w v xs) (h' : RdCt w v' ys) (hS : ∀ x ∈ xs, x.nm.size ≤ 1048576) (hS2 : ∀ x ∈ ys, x.nm.size ≤ 1048576) :
    Calls Tryd.prog 34 #[v, v'] w fun e w' => ∃ u, e = .returned (.tuple #[u, .bool (adB xs ys)]) ∧ OwCt w.heap.size w' u (adL xs ys) ∧ Below w.heap.size w w' := by
  have HT := Lib.hid (l18Good_any v xs w h hS)
  have HT2 := Lib.hid (fun w h => l18Good_any v' ys w h hS2)
  have HR := Lib.hid h
  have HR2 := Lib.hid h'
  have hlen := h.2.1
  have hlen2 := h'.2.1
  have HONE := Lib.hid (oneCt xs)
  obtain ⟨i0, hi, hz0, hz1, hz2⟩ := info_parts infoCt
  obtain ⟨⟨_, p, cap, b, off, rfl, hcap, hnil, _⟩, _, _⟩ := id h
  have HSrc := Lib.hid h.1.source
  have HNil := Lib.hid hnil; clear hnil
  obtain ⟨p', cap', b', off', rfl, hcap', hp', hcell'⟩ := h'.parts
  have HC' := Lib.hid hcell'; clear hcell'
  have HP' := Lib.hid hp'; clear hp' h h'
  have hlc : (xs.flatMap Ct.cells).length = xs.length * 2 := flat_length Ct.cells 2 Ct.cells_length xs
  cases hB : ctB xs
  · have HV := adNo (show adB xs ys = false by rw [adB, hB]; rfl)
    rw [hB] at HT
    go_enter Tryd.func34, Tryd.ntmps34
    go_wp2_with fail
    refine HT.out.mono ?_
    rintro e w1 ⟨rfl, hb⟩
    have HR1 := Lib.hid (HR.out.below hb)
    have HB := Lib.hid hb; clear hb
    go_wp2
    refine bodyPost_ret (v := (.tuple #[.slice (some ⟨w1.heap.size, 0, none⟩) 0 0, .bool false])) (by simp [results, Tryd.results34, go_sem, *]) rfl ?_
    exact ⟨_, by rw [HV.out.2], by rw [HV.out.1]; exact ⟨own_base (World.ownsRow_lit w1 #[] 0 (Nat.le_refl _) (Nat.zero_le _) rfl) HB.out.size, by simp, by simp⟩, HB.out.trans ((below_alloc1 _ _).mono HB.out.size)⟩
  · cases hI : ctB ys
    · have HV := adNo (show adB xs ys = false by rw [adB, hI, Bool.false_and, Bool.and_false])
      rw [hB] at HT
      rw [hI] at HT2
      clear hB hI
      go_enter Tryd.func34, Tryd.ntmps34
      go_wp2_with fail
      refine HT.out.mono ?_
      rintro e w1 ⟨rfl, hb⟩
      have HR1 := Lib.hid (HR.out.below hb)
      have HB := Lib.hid hb; clear hb
      go_wp2_with fail
      refine (HT2.out _ (HR2.out.below HB.out)).mono ?_
      rintro e w2 ⟨rfl, hb2⟩
      have HRb := Lib.hid (HR1.out.below hb2)
      have HB2 := Lib.hid (HB.out.trans (hb2.mono HB.out.size)); clear hb2
      go_wp2
      refine bodyPost_ret (v := (.tuple #[.slice (some ⟨w2.heap.size, 0, none⟩) 0 0, .bool false])) (by simp [results, Tryd.results34, go_sem, *]) rfl ?_
      exact ⟨_, by rw [HV.out.2], by rw [HV.out.1]; exact ⟨own_base (World.ownsRow_lit w2 #[] 0 (Nat.le_refl _) (Nat.zero_le _) rfl) HB2.out.size, by simp, by simp⟩, HB2.out.trans ((below_alloc1 _ _).mono HB2.out.size)⟩
    · obtain ⟨h12, hgood, hups⟩ := ctB_true hB
      obtain ⟨h12b, hgood2, _⟩ := ctB_true hI
      have HF := Lib.hid (addN_facts hups (vls_good hgood) (vls_good hgood2) hS hS2)
      have HW := Lib.hid (vls_good hgood2)
      have HBD : Hid (adB xs ys = ctB (addN xs ys ys.length)) := Lib.hid (by rw [adB, hB, hI, Bool.true_and, Bool.true_and])
      have HT3 := Lib.hid (fun v w h => l18Good_any v (addN xs ys ys.length) w h (HF.out ys.length (Nat.le_refl _)).2.2.1)
      rw [hB] at HT
      rw [hI] at HT2
      clear hB hI hgood hgood2
      go_enter Tryd.func34, Tryd.ntmps34
      go_wp2_with fail
      refine HT.out.mono ?_
      rintro e w1 ⟨rfl, hb⟩
      have HR1 := Lib.hid (HR.out.below hb)
      have HB := Lib.hid hb; clear hb
      go_wp2_with fail
      refine (HT2.out _ (HR2.out.below HB.out)).mono ?_
      rintro e w2 ⟨rfl, hb2⟩
      have HRb := Lib.hid (HR1.out.below hb2)
      have HB2 := Lib.hid (HB.out.trans (hb2.mono HB.out.size)); clear hb2
      have hz2' := HB2.out.size
      have HE : Hid ((w2.alloc (.cells #[] 55)).ownsRow w2.heap.size 55 2 (.slice (some ⟨w2.heap.size, 0, none⟩) 0 0) 0 []) := Lib.hid (World.ownsRow_lit w2 #[] 0 (Nat.le_refl _) (Nat.zero_le _) rfl)
      have HPS : Hid (0 < xs.length → ∃ ad, p = some ad ∧ ∀ j u, (xs.flatMap Ct.cells)[j]? = some u → (w2.alloc (.cells #[] 55)).cell? (ad.add j) = some u) := Lib.hid (fun h0 => by
        rcases HSrc.out with ⟨_, h3, _⟩ | ⟨a, c2, h3, _, h5⟩
        · omega
        · simp only [Value.slice.injEq] at h3
          exact ⟨a, h3.1, fun j u hj => cell_on (HB2.out.trans ((below_alloc1 _ _).mono hz2')) (h5 j u hj)⟩)
      go_wp2_with (first | (at_builtin; go_loud (refine wpList_appK _ rfl _ _ 25 rfl w2.heap.size 55 i0 (.agg #[.string ⟨#[]⟩, .int .i64 0]) 2 24 Tryd.underlying25 hi hz0 hz1 hz2 rfl (by decide) _ 0 [] rfl HE.out p xs.length cap (xs.flatMap Ct.cells) rfl hlc HPS.out HNil.out HONE.out ?p5 ?p6 ?p7 ?_)))
      try (case p5 => first | omega | (unfold maxLen; omega))
      try (case p6 => omega)
      try (case p7 => (simp <;> omega))
      intro u w3 hou hgrow3
      try intro _
      have HO3 : Hid (w3.ownsRow w.heap.size 55 2 u (addN xs ys 0).length ((addN xs ys 0).flatMap Ct.cells)) := Lib.hid (own_base (by simpa [addN] using hou) hz2')
      have HB3 : Hid (Below w.heap.size w w3) := Lib.hid (Below.grown (HB2.out.trans ((below_alloc1 w2 (.cells #[] 55)).mono hz2')) hgrow3 (by simp; omega) (fun j hj => by first | (have := (HE.out.lt j hj).1; omega) | (simp [Value.ownBlock] at hj; omega)))
      clear hou hgrow3
      go_wp2
      go_loopw [6, 7] (fun v i wr => ∃ n : Nat, n ≤ ys.length ∧ i = .int .i64 n ∧ Hid (wr.ownsRow w.heap.size 55 2 v (addN xs ys n).length ((addN xs ys n).flatMap Ct.cells)) ∧ Hid (Below w.heap.size w wr)) (fun _ i _ => ys.length - (intOf i).toNat)
      case atStart => exact ⟨0, Nat.zero_le _, rfl, HO3, HB3⟩
      case round =>
        clear HB HB2 HB3 HO3 HR1 HRb
        obtain ⟨n, hn, rfl, HO, HB⟩ := hrel
        by_cases hlt : n < ys.length
        · obtain rfl := HP'.out (by omega)
          obtain ⟨c1, c2⟩ := HC'.out n hlt
          have c1 := cell_on HB.out c1
          have c2 := cell_on HB.out c2
          have hsz := HB.out.size
          obtain ⟨f1, f2, f3, f4⟩ := HF.out n hn
          have hy := HW.out ys[n] (List.getElem_mem hlt)
          have HA := Lib.hid (addN_succ xs ys n hlt)
          have hvl : Vls 1000000000 (addN xs ys n) := f2.mono (by omega)
          generalize addN xs ys n = L at *
          have HBm := Lib.hid (fun w' (hO : w'.ownsRow w.heap.size 55 2 u6 L.length (L.flatMap Ct.cells)) => l18Bump_any u6 L ys[n].nm ys[n].vl w' ⟨rd_of_own hO, by omega, names_ok f3⟩ (by omega) hvl hy.1 hy.2)
          go_wp2_with fail
          refine wp_region_held_drew (S := (fun w' => Below wr.heap.size wr w' ∧ w'.cell? ⟨b', off' + n * 2, none⟩ = some (.string ys[n].nm) ∧ w'.cell? ⟨b', off' + n * 2 + 1, none⟩ = some (.int .i64 ys[n].vl))) (by kernel_rfl) ?rx1s (fun hHeld => ?rx10)
          case rx1s => ((try dsimp only); exact ⟨(Below.refl _ _).drew, c1, c2⟩)
          try simp only [Act.put, List.setIfInBounds_toArray, List.set_cons_zero, List.set_cons_succ]
          refine take_at 0 (some 26) (v := ?vx1_1) rfl rfl (by kernel_rfl) (by kernel_rfl) (by kernel_rfl) (fun _ _ _ h => h) (Or.inl ⟨by kernel_rfl, ?yx1_1⟩) hHeld ?zx1_1
          case yx1_1 => (intro wS hSw; (try dsimp only at hSw); go_simp; (try with_reducible rfl))
          try simp only [Act.put, List.setIfInBounds_toArray, List.set_cons_zero, List.set_cons_succ]
          refine take_at 1 (some 27) (v := ?vx1_2) rfl rfl (by kernel_rfl) (by kernel_rfl) (by kernel_rfl) (fun _ _ _ h => h) (Or.inl ⟨by kernel_rfl, ?yx1_2⟩) hHeld ?zx1_2
          case yx1_2 => (intro wS hSw; (try dsimp only at hSw); go_simp; (try with_reducible rfl))
          try simp only [Act.put, List.setIfInBounds_toArray, List.set_cons_zero, List.set_cons_succ]
          refine take_at 2 (some 28) (v := ?vx1_3) rfl rfl (by kernel_rfl) (by kernel_rfl) (by kernel_rfl) (fun _ _ _ h => h) (Or.inl ⟨by kernel_rfl, ?yx1_3⟩) hHeld ?zx1_3
          case yx1_3 => (intro wS hSw; (try dsimp only at hSw); go_simp; (try with_reducible rfl))
          try simp only [Act.put, List.setIfInBounds_toArray, List.set_cons_zero, List.set_cons_succ]
          refine take_at 3 (some 29) (v := ?vx1_4) rfl rfl (by kernel_rfl) (by kernel_rfl) (by kernel_rfl) (fun _ _ _ h => h) (Or.inl ⟨by kernel_rfl, ?yx1_4⟩) hHeld ?zx1_4
          case yx1_4 => (intro wS hSw; (try dsimp only at hSw); go_simp; (try with_reducible rfl))
          try simp only [Act.put, List.setIfInBounds_toArray, List.set_cons_zero, List.set_cons_succ]
          refine take_at 4 (some 30) (v := ?vx1_5) rfl rfl (by kernel_rfl) (by kernel_rfl) (by kernel_rfl) (fun _ _ _ h => h) (Or.inl ⟨by kernel_rfl, ?yx1_5⟩) hHeld ?zx1_5
          case yx1_5 => (intro wS hSw; (try dsimp only at hSw); go_simp; (try with_reducible rfl))
          try simp only [Act.put, List.setIfInBounds_toArray, List.set_cons_zero, List.set_cons_succ]
          refine take_at 5 (some 31) (v := ?vx1_6) rfl rfl (by kernel_rfl) (by kernel_rfl) (by kernel_rfl) (fun _ _ _ h => h) (Or.inl ⟨by kernel_rfl, ?yx1_6⟩) hHeld ?zx1_6
          case yx1_6 => (intro wS hSw; (try dsimp only at hSw); go_simp; (try with_reducible rfl))
          try simp only [Act.put, List.setIfInBounds_toArray, List.set_cons_zero, List.set_cons_succ]
          refine take_at 6 (some 32) (v := ?vx1_7) rfl rfl (by kernel_rfl) (by kernel_rfl) (by kernel_rfl) (fun _ _ _ h => h) (Or.inl ⟨by kernel_rfl, ?yx1_7⟩) hHeld ?zx1_7
          case yx1_7 => (intro wS hSw; (try dsimp only at hSw); go_simp; (try with_reducible rfl))
          try simp only [Act.put, List.setIfInBounds_toArray, List.set_cons_zero, List.set_cons_succ]
          refine take_at 7 (some 33) (v := ?vx1_8) rfl rfl (by kernel_rfl) (by kernel_rfl) (by kernel_rfl) (fun _ _ _ h => h) (Or.inl ⟨by kernel_rfl, ?yx1_8⟩) hHeld ?zx1_8
          case yx1_8 => (intro wS hSw; (try dsimp only at hSw); go_simp; (try with_reducible rfl))
          try simp only [Act.put, List.setIfInBounds_toArray, List.set_cons_zero, List.set_cons_succ]
          refine take_at 8 (some 34) (v := ?vx1_9) rfl rfl (by kernel_rfl) (by kernel_rfl) (by kernel_rfl) (fun _ _ _ h => h) (Or.inl ⟨by kernel_rfl, ?yx1_9⟩) hHeld ?zx1_9
          case yx1_9 => (intro wS hSw; (try dsimp only at hSw); go_simp; (try with_reducible rfl))
          try simp only [Act.put, List.setIfInBounds_toArray, List.set_cons_zero, List.set_cons_succ]
          refine take_at 9 (some 35) (v := ?vx1_10) rfl rfl (by kernel_rfl) (by kernel_rfl) (by kernel_rfl) (fun _ _ _ h => h) (Or.inl ⟨by kernel_rfl, ?yx1_10⟩) hHeld ?zx1_10
          case yx1_10 => (intro wS hSw; (try dsimp only at hSw); go_simp; (try with_reducible rfl))
          try simp only [Act.put, List.setIfInBounds_toArray, List.set_cons_zero, List.set_cons_succ]
          refine take_at 10 (some 36) (v := ?vx1_11) rfl rfl (by kernel_rfl) (by kernel_rfl) (by kernel_rfl) (fun _ _ _ h => h) (Or.inl ⟨by kernel_rfl, ?yx1_11⟩) hHeld ?zx1_11
          case yx1_11 => (intro wS hSw; (try dsimp only at hSw); go_simp; (try with_reducible rfl))
          try simp only [Act.put, List.setIfInBounds_toArray, List.set_cons_zero, List.set_cons_succ]
          refine wpAnyH_ready (rs := [11]) (by kernel_rfl) (by simp) ?_
          refine cons_at (some 37) rfl rfl (by kernel_rfl) (fun K hK => ?kx1_13) AllReadyH.nil
          go_simp
          (go_at_call 67; refine (HBm.out _ (own_below HO.out hHeld.1)).mono ?_; rintro e w' ⟨u4, rfl, hou4, hbel⟩)
          try go_wp2_with fail
          refine hK.out _ _ ?sx1_13 (fun hHeld => ?_)
          case sx1_13 => ((try dsimp only); exact keepB2 (by assumption) hbel)
          clear hK K
          try simp only [Act.put, List.setIfInBounds_toArray, List.set_cons_zero, List.set_cons_succ]
          refine take_at 12 (some 6) (v := ?vx1_14) rfl rfl (by kernel_rfl) (by kernel_rfl) (by kernel_rfl) (fun _ _ _ h => h) (Or.inl ⟨by kernel_rfl, ?yx1_14⟩) hHeld ?zx1_14
          case yx1_14 => (intro wS hSw; (try dsimp only at hSw); go_simp; (try with_reducible rfl))
          try simp only [Act.put, List.setIfInBounds_toArray, List.set_cons_zero, List.set_cons_succ]
          refine wpAnyH_done (by kernel_rfl) ?_ _
          have HO4 := Lib.hid (own_base hou4 (by have := hHeld.1.size; simp at this ⊢; omega) : World.ownsRow _ w.heap.size _ _ _ _ _); clear hou4
          have HB4 : Hid (Below w.heap.size w _) := Lib.hid (HB.out.trans (hHeld.1.mono HB.out.size))
          go_wp2
          go_roundw
          case rel => exact ⟨n + 1, by omega, by go_num, Lib.hid (by rw [HA.out]; exact HO4.out), HB4⟩
          case measure => simp [intOf]; omega
        · obtain rfl : n = ys.length := by omega
          obtain ⟨f1, f2, f3, f4⟩ := HF.out ys.length (Nat.le_refl _)
          have HO4 : Hid (OwCt w.heap.size wr u6 (addN xs ys ys.length)) := Lib.hid ⟨HO.out, by omega, names_ok f3⟩
          cases hC : ctB (addN xs ys ys.length)
          · have HV := adNo (show adB xs ys = false by rw [HBD.out, hC])
            rw [hC] at HT3
            clear hC f1 f2 f3
            go_wp2_with fail
            refine (HT3.out _ _ HO4.out.rd).mono ?_
            rintro e w5 ⟨rfl, hb5⟩
            have HB5 := Lib.hid (HB.out.trans (hb5.mono HB.out.size)); clear hb5
            go_wp2
            refine bodyPost_ret (v := (.tuple #[.slice (some ⟨w5.heap.size, 0, none⟩) 0 0, .bool false])) (by simp [results, Tryd.results34, go_sem, *]) rfl ?_
            exact ⟨_, by rw [HV.out.2], by rw [HV.out.1]; exact ⟨own_base (World.ownsRow_lit w5 #[] 0 (Nat.le_refl _) (Nat.zero_le _) rfl) HB5.out.size, by simp, by simp⟩, HB5.out.trans ((below_alloc1 _ _).mono HB5.out.size)⟩
          · have hbb : adB xs ys = true := by rw [HBD.out, hC]
            have HV : Hid (adL xs ys = addN xs ys ys.length ∧ adB xs ys = true) := Lib.hid ⟨by rw [adL, if_pos hbb], hbb⟩
            rw [hC] at HT3
            clear hC hbb f1 f2 f3
            go_wp2_with fail
            refine (HT3.out _ _ HO4.out.rd).mono ?_
            rintro e w5 ⟨rfl, hb5⟩
            have HO5 := Lib.hid (HO4.out.below hb5)
            have HB5 := Lib.hid (HB.out.trans (hb5.mono HB.out.size)); clear hb5
            go_wp2
            refine bodyPost_ret (v := (.tuple #[u6, .bool true])) (by simp [results, Tryd.results34, go_sem, *]) rfl ?_
            exact ⟨_, by rw [HV.out.2], by rw [HV.out.1]; exact HO5.out, HB5.out⟩
end Go.Proofs.YtmochhgmhhopoaaDoor
