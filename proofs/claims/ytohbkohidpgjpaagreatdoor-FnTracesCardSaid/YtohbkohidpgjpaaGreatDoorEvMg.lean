/- Contracts: the program's MergeTraces and AddEvent, for all traces and events. No condition. -/
import Derived.Test.YtohbkohidpgjpaaGreatDoorMgMath
import Derived.Test.YtohbkohidpgjpaaGreatDoorEvStab
import Derived.Test.YtohbkohidpgjpaaGreatDoorEvCat
namespace Go.Proofs.YtohbkohidpgjpaaGreatDoor
open Go.RowKit

theorem nilOw (w : World) (B : Nat) : OwEv B w (.slice none 0 0) [] := ⟨⟨rfl, .inl ⟨rfl, rfl⟩⟩, Nat.zero_le _⟩
set_option maxRecDepth 100000 in
set_option maxHeartbeats 4000000 in
theorem implMerge_any (v0 v1 : Value) (xs ys : List Ev) (w : World) (h0 : RdEv w v0 xs) (h1 : RdEv w v1 ys) :
    Calls Tryz.prog 15 #[v0, v1] w fun e w' => ∃ u, e = .returned (.tuple #[u, .bool (mgB xs ys)]) ∧ OwEv w.heap.size w' u (mgL xs ys) ∧ Below w.heap.size w w' := by
  have HT0 := Lib.hid (isTrace_any v0 xs w h0)
  have HT1 := Lib.hid (fun w h => isTrace_any v1 ys w h)
  have HR0 := Lib.hid h0
  have HR1 := Lib.hid h1
  obtain ⟨p0, k0, _, _, rfl, _, _, _⟩ := h0.parts
  obtain ⟨p1, k1, _, _, rfl, _, _, _⟩ := h1.parts
  clear h0 h1
  cases hB0 : tsB xs
  · have HV : Hid (mgB xs ys = false ∧ mgL xs ys = []) := Lib.hid (by have h : mgB xs ys = false := by rw [mgB, hB0]; rfl
                                                                      exact ⟨h, mgL_no h⟩)
    rw [hB0] at HT0
    clear hB0
    go_enter Tryz.func15, Tryz.ntmps15
    go_wp2_with fail
    refine HT0.out.mono ?_
    rintro e w1 ⟨rfl, hb⟩
    have HB := Lib.hid hb; clear hb
    go_wp2
    refine bodyPost_ret (v := (.tuple #[.slice none 0 0, .bool false])) (by simp [results, Tryz.results15, go_sem, *]) rfl ?_
    exact ⟨_, by rw [HV.out.1], by rw [HV.out.2]; exact nilOw _ _, HB.out⟩
  · cases hB1 : tsB ys
    · have HV : Hid (mgB xs ys = false ∧ mgL xs ys = []) := Lib.hid (by have h : mgB xs ys = false := by rw [mgB, hB1, Bool.false_and, Bool.and_false]
                                                                        exact ⟨h, mgL_no h⟩)
      rw [hB0] at HT0
      rw [hB1] at HT1
      clear hB0 hB1
      go_enter Tryz.func15, Tryz.ntmps15
      go_wp2_with fail
      refine HT0.out.mono ?_
      rintro e w1 ⟨rfl, hb⟩
      have HB := Lib.hid hb; clear hb
      go_wp2_with fail
      refine (HT1.out _ (HR1.out.below HB.out)).mono ?_
      rintro e w2 ⟨rfl, hb⟩
      have HB2 := Lib.hid (HB.out.trans (hb.mono HB.out.size)); clear hb
      go_wp2
      refine bodyPost_ret (v := (.tuple #[.slice none 0 0, .bool false])) (by simp [results, Tryz.results15, go_sem, *]) rfl ?_
      exact ⟨_, by rw [HV.out.1], by rw [HV.out.2]; exact nilOw _ _, HB2.out⟩
    · have hx30 := (tsB_true.1 hB0).1
      have hy30 := (tsB_true.1 hB1).1
      by_cases hl : xs.length + ys.length ≤ 30
      · have hm : mgB xs ys = true := by rw [mgB, hB0, hB1, decide_eq_true hl]; rfl
        have HV : Hid (mgB xs ys = true) := Lib.hid hm
        rw [hB0] at HT0
        rw [hB1] at HT1
        clear hB0 hB1 hm
        have hl2 : (xs.length : Int) + ys.length ≤ 30 := by omega
        go_enter Tryz.func15, Tryz.ntmps15
        go_wp2_with fail
        refine HT0.out.mono ?_
        rintro e w1 ⟨rfl, hb⟩
        have HB := Lib.hid hb; clear hb
        go_wp2_with fail
        refine (HT1.out _ (HR1.out.below HB.out)).mono ?_
        rintro e w2 ⟨rfl, hb⟩
        have HB2 := Lib.hid (HB.out.trans (hb.mono HB.out.size)); clear hb
        go_wp2_with fail
        have hsz := HB2.out.size
        refine (concat_any _ _ xs ys w2.heap.size _ ((HR0.out.below HB2.out).below (by go_grown)) ((HR1.out.below HB2.out).below (by go_grown)) ?d0 ?d1 (by omega)).mono ?_
        case d0 => simp
        case d1 => simp
        rintro e w3 ⟨v, rfl, ho, hb⟩
        have HO := Lib.hid (own_base ho (show w2.heap.size ≤ _ by simp)); clear ho
        have HB3 : Hid (Below w2.heap.size w2 w3) := Lib.hid (Below.trans (by go_grown) (hb.mono (by simp))); clear hb
        rw [← List.length_append] at HO
        go_wp2_with fail
        refine (sortSt_any v (xs ++ ys) w2.heap.size w3 HO.out (by rw [List.length_append]; exact hl) HB3.out.size).mono ?_
        rintro e w4 ⟨rfl, hM, hb⟩
        have HM := Lib.hid hM; clear hM
        have HB4 := Lib.hid (HB3.out.trans hb); clear hb
        go_wp2
        refine bodyPost_ret (v := (.tuple #[v, .bool true])) (by simp [results, Tryz.results15, go_sem, *]) rfl ?_
        obtain ⟨M, m1, m2, m3⟩ := HM.out
        refine ⟨_, by rw [HV.out], ?_, HB2.out.trans (HB4.out.mono hsz)⟩
        rw [mgL_yes HV.out m2]
        exact ⟨own_base m1 hsz, by rw [m3, List.length_append]; omega⟩
      · have HV : Hid (mgB xs ys = false ∧ mgL xs ys = []) := Lib.hid (by have h : mgB xs ys = false := by rw [mgB, decide_eq_false hl, Bool.and_false, Bool.and_false]
                                                                          exact ⟨h, mgL_no h⟩)
        rw [hB0] at HT0
        rw [hB1] at HT1
        clear hB0 hB1
        have hl2 : ¬ (xs.length : Int) + ys.length ≤ 30 := by omega
        go_enter Tryz.func15, Tryz.ntmps15
        go_wp2_with fail
        refine HT0.out.mono ?_
        rintro e w1 ⟨rfl, hb⟩
        have HB := Lib.hid hb; clear hb
        go_wp2_with fail
        refine (HT1.out _ (HR1.out.below HB.out)).mono ?_
        rintro e w2 ⟨rfl, hb⟩
        have HB2 := Lib.hid (HB.out.trans (hb.mono HB.out.size)); clear hb
        go_wp2
        refine bodyPost_ret (v := (.tuple #[.slice none 0 0, .bool false])) (by simp [results, Tryz.results15, go_sem, *]) rfl ?_
        exact ⟨_, by rw [HV.out.1], by rw [HV.out.2]; exact nilOw _ _, HB2.out⟩
set_option maxRecDepth 100000 in
set_option maxHeartbeats 4000000 in
theorem implAdd_any (v : Value) (xs : List Ev) (x : Ev) (w : World) (h : RdEv w v xs) :
    Calls Tryz.prog 12 #[v, x.v] w fun e w' => ∃ u, e = .returned (.tuple #[u, .bool (mgB xs [x])]) ∧ OwEv w.heap.size w' u (mgL xs [x]) ∧ Below w.heap.size w w' := by
  have HR := Lib.hid h
  obtain ⟨p0, k0, _, _, rfl, _, _, _⟩ := h.parts
  clear h
  have HM := Lib.hid (fun v1 w h0 h1 => implMerge_any (.slice p0 xs.length k0) v1 xs [x] w h0 h1)
  generalize mgB xs [x] = b at *
  generalize mgL xs [x] = L at *
  obtain ⟨t, n, k, m⟩ := x
  go_enter Tryz.func12, Tryz.ntmps12
  go_wp2_with fail
  have HL : Hid (RdEv ((w.alloc (.cells #[.int .i64 t, .int .i64 n, .int .i64 k, .int .i64 m] 25)).alloc (.cells #[.int .i64 t, .int .i64 n, .int .i64 k, .int .i64 m] 25)) (.slice (some ⟨w.heap.size + 1, 0, none⟩) 1 1) [⟨t, n, k, m⟩]) := Lib.hid ⟨by
    have h := rd_of_own (World.ownsRow_lit (base := w.heap.size) (e := 25) (size := 4) (w.alloc (.cells #[.int .i64 t, .int .i64 n, .int .i64 k, .int .i64 m] 25)) #[.int .i64 t, .int .i64 n, .int .i64 k, .int .i64 m] 1 (by simp) (by unfold maxLen; omega) rfl)
    simpa using h, by simp⟩
  refine (HM.out _ _ (HR.out.below (by go_grown)) HL.out).mono ?_
  rintro e w1 ⟨u, rfl, ho, hb⟩
  have HO := Lib.hid (OwEv.base ho (show w.heap.size ≤ _ by simp <;> omega)); clear ho
  have HB : Hid (Below w.heap.size w w1) := Lib.hid (Below.trans (by go_grown) (hb.mono (by simp <;> omega))); clear hb
  go_wp2
  refine bodyPost_ret (v := (.tuple #[u, .bool b])) (by simp [results, Tryz.results12, go_sem, *]) rfl ?_
  exact ⟨_, rfl, HO.out, HB.out⟩
end Go.Proofs.YtohbkohidpgjpaaGreatDoor
