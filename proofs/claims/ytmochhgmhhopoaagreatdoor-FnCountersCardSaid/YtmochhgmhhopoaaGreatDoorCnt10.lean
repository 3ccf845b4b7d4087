/- A counter of a list bumped: the program's and the reference's BumpCounter, for all lists of at most 2^30 counters. Condition: names of at most 2^20 bytes. -/
import Derived.Test.YtmochhgmhhopoaaGreatDoorCnt9
namespace Go.Proofs.YtmochhgmhhopoaaGreatDoor
open Go.RowKit

theorem l18Bump_any (v : Value) (xs : List Ct) (s : ByteArray) (n : Int) (w : World) (h : RdCt w v xs) (hlen : xs.length ≤ 900) (hV : Vls 1000000000 xs) (hn0 : 0 ≤ n) (hn1 : n ≤ 1000000) :
    Calls Tryz.prog 32 #[v, .string s, .int .i64 n] w fun e w' => ∃ v', e = .returned v' ∧ w'.ownsRow w.heap.size 55 2 v' (bumpL xs s n).length ((bumpL xs s n).flatMap Ct.cells) ∧ Below w.heap.size w w' := by
  obtain ⟨⟨_, p, cap, b, off, rfl, _, hnil, hc⟩, _, _⟩ := id h
  by_cases h0 : 0 < xs.length
  · obtain ⟨rfl, _⟩ := hc h0
    exact l18Bump_some b off cap xs s n w h h0 hlen hV hn0 hn1
  · obtain rfl : xs = [] := List.length_eq_zero_iff.1 (by omega)
    have he : bumpL [] s n = [⟨s, n⟩] := by rw [bumpL_miss n rfl]; rfl
    rw [he]
    exact l18Bump_none p cap s n w hnil
theorem vls_good {xs : List Ct} (hg : ∀ k (h : k < xs.length), goodCt xs[k] = true) : Vls 1000000 xs := by
  intro x hx
  obtain ⟨k, hk, rfl⟩ := List.getElem_of_mem hx
  have h1 := hg k hk
  rw [goodCt, Bool.and_eq_true, inR_true] at h1
  exact h1.2
theorem Vls.mono {M N : Int} {xs : List Ct} (h : Vls M xs) (hM : M ≤ N) : Vls N xs := fun x hx => ⟨(h x hx).1, by have := (h x hx).2; omega⟩
theorem vlAt_vls {M : Int} {xs : List Ct} (h : Vls M xs) (hM : 0 ≤ M) (k : Nat) : 0 ≤ vlAt xs k ∧ vlAt xs k ≤ M := by
  unfold vlAt
  cases hk : xs[k]? with
  | none => exact ⟨Int.le_refl _, hM⟩
  | some x => exact h x (List.mem_of_getElem? hk)
theorem bump_vls {M : Int} {xs : List Ct} {s : ByteArray} {n : Int} (h : Vls M xs) (hM : 0 ≤ M) (hn : 0 ≤ n) : Vls (M + n) (bumpL xs s n) := by
  have h1 := vlAt_vls h hM (posN xs s.toList)
  exact bumpL_mem (P := fun x => 0 ≤ x.vl ∧ x.vl ≤ M + n) (fun x hx => ⟨(h x hx).1, by have := (h x hx).2; omega⟩) ⟨by simp; omega, by simp; omega⟩ ⟨hn, by simp; omega⟩
theorem bump_names {K : Nat} {xs : List Ct} {s : ByteArray} {n : Int} (h : ∀ x ∈ xs, x.nm.size ≤ K) (hs : s.size ≤ K) : ∀ x ∈ bumpL xs s n, x.nm.size ≤ K := bumpL_mem (P := fun x => x.nm.size ≤ K) h hs hs
theorem names_ok {xs : List Ct} (h : ∀ x ∈ xs, x.nm.size ≤ 1048576) : ∀ x ∈ xs, x.ok := fun x hx => by have := h x hx; unfold Ct.ok; omega
/-- the bumped counter is in the list -/
theorem bump_in (xs : List Ct) (s : ByteArray) (n : Int) : ∃ x ∈ bumpL xs s n, x.nm = s := by
  unfold bumpL
  split <;> exact ⟨_, List.mem_append.2 (.inr (List.mem_cons_self ..)), rfl⟩
theorem ctB_names {xs : List Ct} (h : ctB xs = true) : ∀ x ∈ xs, nameB x.nm = true := by
  intro x hx
  obtain ⟨k, hk, rfl⟩ := List.getElem_of_mem hx
  have h1 := (ctB_true h).2.1 k hk
  rw [goodCt, Bool.and_eq_true] at h1
  exact h1.1
/-- may it be bumped? -/
def bcB (xs : List Ct) (s : ByteArray) (n : Int) : Bool := ctB xs && (inR n 0 1000000 && ctB (bumpL xs s n))
def bcL (xs : List Ct) (s : ByteArray) (n : Int) : List Ct := if bcB xs s n = true then bumpL xs s n else []
theorem bcB_name {xs : List Ct} {s : ByteArray} {n : Int} (h : nameB s = false) : bcB xs s n = false := by
  cases hb : ctB (bumpL xs s n) with
  | false => rw [bcB, hb, Bool.and_false, Bool.and_false]
  | true =>
    obtain ⟨x, hx, rfl⟩ := bump_in xs s n
    rw [ctB_names hb x hx] at h; cases h
theorem bcNo {xs : List Ct} {s : ByteArray} {n : Int} (h : bcB xs s n = false) : Hid (bcL xs s n = [] ∧ bcB xs s n = false) := Lib.hid ⟨by rw [bcL, h]; rfl, h⟩
theorem owCt_nil (B : Nat) (w : World) : OwCt B w (.slice none 0 0) [] := ⟨⟨rfl, .inl ⟨rfl, rfl⟩⟩, by simp, by simp⟩
set_option maxRecDepth 100000 in
set_option maxHeartbeats 4000000 in
theorem implBump_any (v : Value) (xs : List Ct) (s : ByteArray) (n : Int) (w : World) (h : RdCt w v xs) (hS : ∀ x ∈ xs, x.nm.size ≤ 1048576) (hs : s.size ≤ 1048576) :
    Calls Tryz.prog 6 #[v, .string s, .int .i64 n] w fun e w' => ∃ u, e = .returned (.tuple #[u, .bool (bcB xs s n)]) ∧ OwCt w.heap.size w' u (bcL xs s n) ∧ Below w.heap.size w w' := by
  have HT := Lib.hid (implIs_any v xs w h hS)
  have HN := Lib.hid (fun w => cname_any s w hs)
  have HI := Lib.hid (fun w => isCount_any n w)
  have HR := Lib.hid h
  have hlen := h.2.1
  obtain ⟨p, cap, b, off, rfl, hcap, _, _⟩ := h.parts
  clear h
  cases hB : ctB xs
  · have HV := bcNo (s := s) (n := n) (show bcB xs s n = false by rw [bcB, hB]; rfl)
    rw [hB] at HT
    go_enter Tryz.func6, Tryz.ntmps6
    go_wp2_with fail
    refine HT.out.mono ?_
    rintro e w1 ⟨rfl, hb⟩
    have HB := Lib.hid hb; clear hb
    go_wp2
    refine bodyPost_ret (v := (.tuple #[.slice none 0 0, .bool false])) (by simp [results, Tryz.results6, go_sem, *]) rfl ?_
    exact ⟨_, by rw [HV.out.2], by rw [HV.out.1]; exact owCt_nil _ _, HB.out⟩
  · cases hN : nameB s
    · have HV := bcNo (bcB_name (xs := xs) (n := n) hN)
      rw [hB] at HT
      rw [hN] at HN
      clear hB hN
      go_enter Tryz.func6, Tryz.ntmps6
      go_wp2_with fail
      refine HT.out.mono ?_
      rintro e w1 ⟨rfl, hb⟩
      have HB := Lib.hid hb; clear hb
      go_wp2_with fail
      refine (HN.out _).mono ?_
      rintro e w2 ⟨rfl, hb2⟩
      have HB2 := Lib.hid (HB.out.trans (hb2.mono HB.out.size)); clear hb2
      go_wp2
      refine bodyPost_ret (v := (.tuple #[.slice none 0 0, .bool false])) (by simp [results, Tryz.results6, go_sem, *]) rfl ?_
      exact ⟨_, by rw [HV.out.2], by rw [HV.out.1]; exact owCt_nil _ _, HB2.out⟩
    · cases hI : inR n 0 1000000
      · have HV := bcNo (show bcB xs s n = false by rw [bcB, hI, Bool.false_and, Bool.and_false])
        rw [hB] at HT
        rw [hN] at HN
        rw [hI] at HI
        clear hB hN hI
        go_enter Tryz.func6, Tryz.ntmps6
        go_wp2_with fail
        refine HT.out.mono ?_
        rintro e w1 ⟨rfl, hb⟩
        have HB := Lib.hid hb; clear hb
        go_wp2_with fail
        refine (HN.out _).mono ?_
        rintro e w2 ⟨rfl, hb2⟩
        have HB2 := Lib.hid (HB.out.trans (hb2.mono HB.out.size)); clear hb2
        go_wp2_with fail
        refine (HI.out _).mono ?_
        rintro e w' ⟨rfl, rfl⟩
        go_wp2
        refine bodyPost_ret (v := (.tuple #[.slice none 0 0, .bool false])) (by simp [results, Tryz.results6, go_sem, *]) rfl ?_
        exact ⟨_, by rw [HV.out.2], by rw [HV.out.1]; exact owCt_nil _ _, HB2.out⟩
      · obtain ⟨hn0, hn1⟩ := inR_true.1 hI
        obtain ⟨h12, hgood, hups⟩ := ctB_true hB
        have hvls := (vls_good hgood).mono (show (1000000 : Int) ≤ 1000000000 by omega)
        have hbn := bump_names (n := n) hS hs
        have hbl := bumpL_length xs s n
        have HOKb := Lib.hid (names_ok hbn)
        have HT2 := Lib.hid (fun v w h => implIs_any v (bumpL xs s n) w h hbn)
        have HBD : Hid (bcB xs s n = ctB (bumpL xs s n)) := Lib.hid (by rw [bcB, hB, hI, Bool.true_and, Bool.true_and])
        rw [hB] at HT
        rw [hN] at HN
        rw [hI] at HI
        clear hB hN hI hgood
        go_enter Tryz.func6, Tryz.ntmps6
        go_wp2_with fail
        refine HT.out.mono ?_
        rintro e w1 ⟨rfl, hb⟩
        have HB := Lib.hid hb
        have HR1 := Lib.hid (HR.out.below hb); clear hb
        go_wp2_with fail
        refine (HN.out _).mono ?_
        rintro e w2 ⟨rfl, hb2⟩
        have HR2 := Lib.hid (HR1.out.below hb2)
        have HB2 := Lib.hid (HB.out.trans (hb2.mono HB.out.size)); clear hb2
        go_wp2_with fail
        refine (HI.out _).mono ?_
        rintro e w' ⟨rfl, rfl⟩
        go_wp2_with fail
        refine (cloneCt _ xs.length _ _ HR2.out.1 (by omega) (oneCt xs)).mono ?_
        rintro e w3 ⟨u, rfl, hou, hb3⟩
        have HO := Lib.hid hou; clear hou
        have hz3 := hb3.size
        have hz2 := HB2.out.size
        have HB3 := Lib.hid (HB2.out.trans (hb3.mono HB2.out.size)); clear hb3
        go_wp2_with fail
        refine (bumped_any u xs s n w2.heap.size w3 HO.out (names_ok hS) (by omega) hups hvls hn0 hn1 hz3).mono ?_
        rintro e w4 ⟨u4, rfl, hou4, hb4⟩
        have HO4 : Hid (OwCt w.heap.size w4 u4 (bumpL xs s n)) := Lib.hid ⟨own_base hou4 hz2, by omega, HOKb.out⟩; clear hou4
        have HB4 : Hid (Below w.heap.size w w4) := Lib.hid (HB3.out.trans (hb4.mono (by omega))); clear hb4
        cases hC : ctB (bumpL xs s n)
        · have HV := bcNo (show bcB xs s n = false by rw [HBD.out, hC])
          rw [hC] at HT2
          go_wp2_with fail
          refine (HT2.out _ _ HO4.out.rd).mono ?_
          rintro e w5 ⟨rfl, hb5⟩
          have HB5 := Lib.hid (HB4.out.trans (hb5.mono HB4.out.size)); clear hb5
          go_wp2
          refine bodyPost_ret (v := (.tuple #[.slice none 0 0, .bool false])) (by simp [results, Tryz.results6, go_sem, *]) rfl ?_
          exact ⟨_, by rw [HV.out.2], by rw [HV.out.1]; exact owCt_nil _ _, HB5.out⟩
        · have hbb : bcB xs s n = true := by rw [HBD.out, hC]
          have HV : Hid (bcL xs s n = bumpL xs s n ∧ bcB xs s n = true) := Lib.hid ⟨by rw [bcL, if_pos hbb], hbb⟩
          rw [hC] at HT2
          clear hbb
          go_wp2_with fail
          refine (HT2.out _ _ HO4.out.rd).mono ?_
          rintro e w5 ⟨rfl, hb5⟩
          have HO5 := Lib.hid (HO4.out.below hb5)
          have HB5 := Lib.hid (HB4.out.trans (hb5.mono HB4.out.size)); clear hb5
          go_wp2
          refine bodyPost_ret (v := (.tuple #[u4, .bool true])) (by simp [results, Tryz.results6, go_sem, *]) rfl ?_
          exact ⟨_, by rw [HV.out.2], by rw [HV.out.1]; exact HO5.out, HB5.out⟩
set_option maxRecDepth 100000 in
set_option maxHeartbeats 4000000 in
theorem specBump_any (v : Value) (xs : List Ct) (s : ByteArray) (n : Int) (w : World) (h : RdCt w v xs) (hS : ∀ x ∈ xs, x.nm.size ≤ 1048576) (hs : s.size ≤ 1048576) :
    Calls Tryz.prog 7 #[v, .string s, .int .i64 n] w fun e w' => ∃ u, e = .returned (.tuple #[u, .bool (bcB xs s n)]) ∧ OwCt w.heap.size w' u (bcL xs s n) ∧ Below w.heap.size w w' := by
  have HT := Lib.hid (l18Good_any v xs w h hS)
  have HI := Lib.hid (fun w => l1In_any n 0 1000000 w)
  have HR := Lib.hid h
  have hlen := h.2.1
  obtain ⟨p, cap, b, off, rfl, hcap, _, _⟩ := h.parts
  clear h
  cases hB : ctB xs
  · have HV := bcNo (s := s) (n := n) (show bcB xs s n = false by rw [bcB, hB]; rfl)
    rw [hB] at HT
    go_enter Tryz.func7, Tryz.ntmps7
    go_wp2_with fail
    refine HT.out.mono ?_
    rintro e w1 ⟨rfl, hb⟩
    have HB := Lib.hid hb; clear hb
    go_wp2
    refine bodyPost_ret (v := (.tuple #[.slice (some ⟨w1.heap.size, 0, none⟩) 0 0, .bool false])) (by simp [results, Tryz.results7, go_sem, *]) rfl ?_
    exact ⟨_, by rw [HV.out.2], by rw [HV.out.1]; exact ⟨own_base (World.ownsRow_lit w1 #[] 0 (Nat.le_refl _) (Nat.zero_le _) rfl) HB.out.size, by simp, by simp⟩, HB.out.trans ((below_alloc1 _ _).mono HB.out.size)⟩
  · cases hI : inR n 0 1000000
    · have HV := bcNo (show bcB xs s n = false by rw [bcB, hI, Bool.false_and, Bool.and_false])
      rw [hB] at HT
      rw [hI] at HI
      clear hB hI
      go_enter Tryz.func7, Tryz.ntmps7
      go_wp2_with fail
      refine HT.out.mono ?_
      rintro e w1 ⟨rfl, hb⟩
      have HB := Lib.hid hb; clear hb
      go_wp2_with fail
      refine (HI.out _).mono ?_
      rintro e w' ⟨rfl, rfl⟩
      go_wp2
      refine bodyPost_ret (v := (.tuple #[.slice (some ⟨w1.heap.size, 0, none⟩) 0 0, .bool false])) (by simp [results, Tryz.results7, go_sem, *]) rfl ?_
      exact ⟨_, by rw [HV.out.2], by rw [HV.out.1]; exact ⟨own_base (World.ownsRow_lit w1 #[] 0 (Nat.le_refl _) (Nat.zero_le _) rfl) HB.out.size, by simp, by simp⟩, HB.out.trans ((below_alloc1 _ _).mono HB.out.size)⟩
    · obtain ⟨hn0, hn1⟩ := inR_true.1 hI
      obtain ⟨h12, hgood, hups⟩ := ctB_true hB
      have hvls := (vls_good hgood).mono (show (1000000 : Int) ≤ 1000000000 by omega)
      have hbn := bump_names (n := n) hS hs
      have hbl := bumpL_length xs s n
      have HOKb := Lib.hid (names_ok hbn)
      have HT2 := Lib.hid (fun v w h => l18Good_any v (bumpL xs s n) w h hbn)
      have HBm := Lib.hid (fun w h => l18Bump_any (.slice p xs.length cap) xs s n w h (by omega) hvls hn0 hn1)
      have HBD : Hid (bcB xs s n = ctB (bumpL xs s n)) := Lib.hid (by rw [bcB, hB, hI, Bool.true_and, Bool.true_and])
      rw [hB] at HT
      rw [hI] at HI
      clear hB hI hgood
      cases hC : ctB (bumpL xs s n)
      · have HV := bcNo (show bcB xs s n = false by rw [HBD.out, hC])
        rw [hC] at HT2
        clear hC
        go_enter Tryz.func7, Tryz.ntmps7
        go_wp2_with fail
        refine HT.out.mono ?_
        rintro e w1 ⟨rfl, hb⟩
        have HB := Lib.hid hb
        have HR1 := Lib.hid (HR.out.below hb); clear hb
        go_wp2_with fail
        refine (HI.out _).mono ?_
        rintro e w' ⟨rfl, rfl⟩
        go_wp2_with fail
        refine (HBm.out _ HR1.out).mono ?_
        rintro e w2 ⟨u2, rfl, hou2, hb2⟩
        have HO2 : Hid (RdCt w2 u2 (bumpL xs s n)) := Lib.hid ⟨rd_of_own hou2, by omega, HOKb.out⟩; clear hou2
        have HB2 := Lib.hid (HB.out.trans (hb2.mono HB.out.size)); clear hb2
        go_wp2_with fail
        refine (HT2.out _ _ HO2.out).mono ?_
        rintro e w3 ⟨rfl, hb3⟩
        have HB3 := Lib.hid (HB2.out.trans (hb3.mono HB2.out.size)); clear hb3
        go_wp2
        refine bodyPost_ret (v := (.tuple #[.slice (some ⟨w3.heap.size, 0, none⟩) 0 0, .bool false])) (by simp [results, Tryz.results7, go_sem, *]) rfl ?_
        exact ⟨_, by rw [HV.out.2], by rw [HV.out.1]; exact ⟨own_base (World.ownsRow_lit w3 #[] 0 (Nat.le_refl _) (Nat.zero_le _) rfl) HB3.out.size, by simp, by simp⟩, HB3.out.trans ((below_alloc1 _ _).mono HB3.out.size)⟩
      · have hbb : bcB xs s n = true := by rw [HBD.out, hC]
        have HV : Hid (bcL xs s n = bumpL xs s n ∧ bcB xs s n = true) := Lib.hid ⟨by rw [bcL, if_pos hbb], hbb⟩
        rw [hC] at HT2
        clear hC hbb
        go_enter Tryz.func7, Tryz.ntmps7
        go_wp2_with fail
        refine HT.out.mono ?_
        rintro e w1 ⟨rfl, hb⟩
        have HB := Lib.hid hb
        have HR1 := Lib.hid (HR.out.below hb); clear hb
        go_wp2_with fail
        refine (HI.out _).mono ?_
        rintro e w' ⟨rfl, rfl⟩
        go_wp2_with fail
        refine (HBm.out _ HR1.out).mono ?_
        rintro e w2 ⟨u2, rfl, hou2, hb2⟩
        have HO2 : Hid (RdCt w2 u2 (bumpL xs s n)) := Lib.hid ⟨rd_of_own hou2, by omega, HOKb.out⟩; clear hou2
        have HR2 := Lib.hid (HR1.out.below hb2)
        have HB2 := Lib.hid (HB.out.trans (hb2.mono HB.out.size)); clear hb2
        go_wp2_with fail
        refine (HT2.out _ _ HO2.out).mono ?_
        rintro e w3 ⟨rfl, hb3⟩
        have HR3 := Lib.hid (HR2.out.below hb3)
        have HB3 := Lib.hid (HB2.out.trans (hb3.mono HB2.out.size)); clear hb3
        go_wp2_with fail
        refine (HBm.out _ HR3.out).mono ?_
        rintro e w4 ⟨u4, rfl, hou4, hb4⟩
        have HO4 : Hid (OwCt w.heap.size w4 u4 (bumpL xs s n)) := Lib.hid ⟨own_base hou4 HB3.out.size, by omega, HOKb.out⟩; clear hou4
        have HB4 := Lib.hid (HB3.out.trans (hb4.mono HB3.out.size)); clear hb4
        go_wp2
        refine bodyPost_ret (v := (.tuple #[u4, .bool true])) (by simp [results, Tryz.results7, go_sem, *]) rfl ?_
        exact ⟨_, by rw [HV.out.2], by rw [HV.out.1]; exact HO4.out, HB4.out⟩
end Go.Proofs.YtmochhgmhhopoaaGreatDoor
