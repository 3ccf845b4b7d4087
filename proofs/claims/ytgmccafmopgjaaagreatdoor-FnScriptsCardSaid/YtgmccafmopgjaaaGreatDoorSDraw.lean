/- Contracts of the reference's drawings of steps and scripts: each answers SOME step, SOME script (nothing more is needed), reading at most 65536 bytes. -/
import Derived.Test.YtgmccafmopgjaaaGreatDoorDrawKit
import Derived.Test.YtgmccafmopgjaaaGreatDoorStS
import Derived.Test.YtgmccafmopgjaaaGreatDoorOfT
namespace Go.Proofs.YtgmccafmopgjaaaGreatDoor
open Go.RowKit

def SomeSt (w : World) (B u : Nat) (e : Ending) (w' : World) : Prop := ∃ x : St, e = .returned x.v ∧ x.dt.size ≤ 1000 ∧ Dr w w' B u
set_option maxRecDepth 100000 in
set_option maxHeartbeats 8000000 in
theorem step16_any (B u : Nat) (w : World) (h : Cur w B u) (hu : u ≤ 1000000) :
    Calls Tryz.prog 25 #[.pointer (some ⟨B, 0, none⟩)] w (SomeSt w B (u + 10)) := by
  have hlt := h.lt
  have D0 := Lib.hid (Dr.start h); clear h
  go_enter Tryz.func25, Tryz.ntmps25
  go_wp2_with fail
  refine (pick_any B (u) 6 _ (D0.out.alloc _).cur (by omega) (by omega) (by omega)).mono ?_
  rintro e w1 ⟨k1, hk1, rfl, hc1, hg1⟩
  have D1 := Lib.hid ((D0.out.alloc _).call hc1 hg1)
  have R1 := Lib.hid (stands hg1 (by omega) (heap_alloc_new w _))
  clear hc1 hg1
  have z1 := D1.out.size
  have zr : w.heap.size < w1.heap.size := (Array.getElem?_eq_some_iff.1 R1.out).1
  have ne : w.heap.size ≠ w1.heap.size := by omega
  clear D0
  by_cases h1 : k1 = 0
  · subst h1
    go_wp2_with fail
    refine (of_lit B (u + 2) [⟨#[]⟩, ⟨#[97]⟩, ⟨#[97, 98, 99]⟩, ⟨#[97, 98, 99, 100, 101, 102, 103, 104]⟩, ⟨#[115, 101, 110, 100]⟩, ⟨#[117, 112]⟩] 6 10 _ (D1.out.alloc _).cur (by omega) (by simp) rfl rfl (by omega) (by omega) (by decide) (by omega)).mono ?_
    rintro e w2 ⟨a2, hs2, rfl, hc2, hg2⟩
    have D2 := Lib.hid ((D1.out.alloc _).call hc2 hg2)
    have R2 := Lib.hid (stands hg2 (by omega) ((Below.heap_alloc _ _ _ zr).trans R1.out))
    have T2 := Lib.hid (stands hg2 (by omega) (heap_alloc_new w1 _))
    clear hc2 hg2
    have z2 := D2.out.size
    have th := T2.out; have t0 := cell_of_row w2 (w1.heap.size) 0 _ _ _ th; simp at t0; have tf0 := frozen_of_row w2 (w1.heap.size) 0 _ _ th; have t1 := cell_of_row w2 (w1.heap.size) 1 _ _ _ th; simp at t1; have tf1 := frozen_of_row w2 (w1.heap.size) 1 _ _ th; have t2 := cell_of_row w2 (w1.heap.size) 2 _ _ _ th; simp at t2; have tf2 := frozen_of_row w2 (w1.heap.size) 2 _ _ th; clear th
    have zt2 : w1.heap.size < w2.heap.size := (Array.getElem?_eq_some_iff.1 T2.out).1
    have T2s := Lib.hid (set_at T2.out 2 (.string a2))
    simp at T2s
    have R2s := Lib.hid ((set_other w2 ⟨w1.heap.size, 2, none⟩ (.string a2) w.heap.size ne).trans R2.out)
    have D2s := Lib.hid (D2.out.set (g := w1.heap.size) (by omega) 2 (.string a2))
    go_wp2_with fail
    refine (pick_any B (u + 4) 40 _ D2s.out.cur (by omega) (by omega) (by omega)).mono ?_
    rintro e w5 ⟨k5, hk5, rfl, hc5, hg5⟩
    have D5 := Lib.hid (D2s.out.call hc5 hg5)
    have R5 := Lib.hid (stands hg5 (by omega) (R2s.out))
    have T5 := Lib.hid (stands hg5 (by omega) (T2s.out))
    clear hc5 hg5
    have z5 := D5.out.size
    generalize hkz : (k5 : Int) = kz
    clear hkz
    by_cases q0 : kz = 0
    · subst q0
      go_wp2_with fail
      refine (among_lit B (u + 4 + 2) [0, 7, 4] 3 _ D5.out.cur (by omega) (by simp) rfl rfl (by omega) (by omega)).mono ?_
      rintro e w6 ⟨a6, rfl, hc6, hg6⟩
      have D6 := Lib.hid (D5.out.call hc6 hg6)
      have R6 := Lib.hid (stands hg6 (by omega) (R5.out))
      have T6 := Lib.hid (stands hg6 (by omega) (T5.out))
      clear hc6 hg6
      have z6 := D6.out.size
      have rh := R6.out; have r0 := cell_of_row w6 (w.heap.size) 0 _ _ _ rh; simp at r0; have rf0 := frozen_of_row w6 (w.heap.size) 0 _ _ rh; have r1 := cell_of_row w6 (w.heap.size) 1 _ _ _ rh; simp at r1; have rf1 := frozen_of_row w6 (w.heap.size) 1 _ _ rh; have r2 := cell_of_row w6 (w.heap.size) 2 _ _ _ rh; simp at r2; have rf2 := frozen_of_row w6 (w.heap.size) 2 _ _ rh; clear rh
      have th := T6.out; have t0 := cell_of_row w6 (w1.heap.size) 0 _ _ _ th; simp at t0; have tf0 := frozen_of_row w6 (w1.heap.size) 0 _ _ th; have t1 := cell_of_row w6 (w1.heap.size) 1 _ _ _ th; simp at t1; have tf1 := frozen_of_row w6 (w1.heap.size) 1 _ _ th; have t2 := cell_of_row w6 (w1.heap.size) 2 _ _ _ th; simp at t2; have tf2 := frozen_of_row w6 (w1.heap.size) 2 _ _ th; clear th
      have zr6 : w.heap.size < w6.heap.size := (Array.getElem?_eq_some_iff.1 R6.out).1
      have zt6 : w1.heap.size < w6.heap.size := (Array.getElem?_eq_some_iff.1 T6.out).1
      go_wp2
      refine bodyPost_ret (v := (.agg #[.int .i64 a6, .int .i64 0, .string a2])) (by simp [results, Tryz.results25, go_sem, *]) rfl ?_
      exact ⟨⟨a6, 0, a2⟩, rfl, by first | (dsimp only; omega) | (dsimp only; decide), ((((D6.out.set (g := w1.heap.size) (by omega) _ _).set (g := w.heap.size) (Nat.le_refl _) _ _).set (g := w.heap.size) (Nat.le_refl _) _ _).set (g := w.heap.size) (Nat.le_refl _) _ _).mono (by omega)⟩
    · skip
      by_cases q1 : kz = 1
      · subst q1
        go_wp2_with fail
        refine (among_lit B (u + 4 + 2) [0, 8, 1] 3 _ D5.out.cur (by omega) (by simp) rfl rfl (by omega) (by omega)).mono ?_
        rintro e w6 ⟨a6, rfl, hc6, hg6⟩
        have D6 := Lib.hid (D5.out.call hc6 hg6)
        have R6 := Lib.hid (stands hg6 (by omega) (R5.out))
        have T6 := Lib.hid (stands hg6 (by omega) (T5.out))
        clear hc6 hg6
        have z6 := D6.out.size
        have rh := R6.out; have r0 := cell_of_row w6 (w.heap.size) 0 _ _ _ rh; simp at r0; have rf0 := frozen_of_row w6 (w.heap.size) 0 _ _ rh; have r1 := cell_of_row w6 (w.heap.size) 1 _ _ _ rh; simp at r1; have rf1 := frozen_of_row w6 (w.heap.size) 1 _ _ rh; have r2 := cell_of_row w6 (w.heap.size) 2 _ _ _ rh; simp at r2; have rf2 := frozen_of_row w6 (w.heap.size) 2 _ _ rh; clear rh
        have th := T6.out; have t0 := cell_of_row w6 (w1.heap.size) 0 _ _ _ th; simp at t0; have tf0 := frozen_of_row w6 (w1.heap.size) 0 _ _ th; have t1 := cell_of_row w6 (w1.heap.size) 1 _ _ _ th; simp at t1; have tf1 := frozen_of_row w6 (w1.heap.size) 1 _ _ th; have t2 := cell_of_row w6 (w1.heap.size) 2 _ _ _ th; simp at t2; have tf2 := frozen_of_row w6 (w1.heap.size) 2 _ _ th; clear th
        have zr6 : w.heap.size < w6.heap.size := (Array.getElem?_eq_some_iff.1 R6.out).1
        have zt6 : w1.heap.size < w6.heap.size := (Array.getElem?_eq_some_iff.1 T6.out).1
        go_wp2
        refine bodyPost_ret (v := (.agg #[.int .i64 1, .int .i64 a6, .string a2])) (by simp [results, Tryz.results25, go_sem, *]) rfl ?_
        exact ⟨⟨1, a6, a2⟩, rfl, by first | (dsimp only; omega) | (dsimp only; decide), ((((D6.out.set (g := w1.heap.size) (by omega) _ _).set (g := w.heap.size) (Nat.le_refl _) _ _).set (g := w.heap.size) (Nat.le_refl _) _ _).set (g := w.heap.size) (Nat.le_refl _) _ _).mono (by omega)⟩
      · skip
        by_cases q2 : kz = 2
        · subst q2
          go_wp2_with fail
          refine (of_lit B (u + 4 + 2) [⟨#[97, 98, 99, 100, 101, 102, 103, 104, 105]⟩, ⟨#[65]⟩, ⟨#[120]⟩, ⟨#[97, 32, 98]⟩] 4 10 _ D5.out.cur (by omega) (by simp) rfl rfl (by omega) (by omega) (by decide) (by omega)).mono ?_
          rintro e w6 ⟨a6, hs6, rfl, hc6, hg6⟩
          have D6 := Lib.hid (D5.out.call hc6 hg6)
          have R6 := Lib.hid (stands hg6 (by omega) (R5.out))
          have T6 := Lib.hid (stands hg6 (by omega) (T5.out))
          clear hc6 hg6
          have z6 := D6.out.size
          have rh := R6.out; have r0 := cell_of_row w6 (w.heap.size) 0 _ _ _ rh; simp at r0; have rf0 := frozen_of_row w6 (w.heap.size) 0 _ _ rh; have r1 := cell_of_row w6 (w.heap.size) 1 _ _ _ rh; simp at r1; have rf1 := frozen_of_row w6 (w.heap.size) 1 _ _ rh; have r2 := cell_of_row w6 (w.heap.size) 2 _ _ _ rh; simp at r2; have rf2 := frozen_of_row w6 (w.heap.size) 2 _ _ rh; clear rh
          have th := T6.out; have t0 := cell_of_row w6 (w1.heap.size) 0 _ _ _ th; simp at t0; have tf0 := frozen_of_row w6 (w1.heap.size) 0 _ _ th; have t1 := cell_of_row w6 (w1.heap.size) 1 _ _ _ th; simp at t1; have tf1 := frozen_of_row w6 (w1.heap.size) 1 _ _ th; have t2 := cell_of_row w6 (w1.heap.size) 2 _ _ _ th; simp at t2; have tf2 := frozen_of_row w6 (w1.heap.size) 2 _ _ th; clear th
          have zr6 : w.heap.size < w6.heap.size := (Array.getElem?_eq_some_iff.1 R6.out).1
          have zt6 : w1.heap.size < w6.heap.size := (Array.getElem?_eq_some_iff.1 T6.out).1
          go_wp2
          refine bodyPost_ret (v := (.agg #[.int .i64 1, .int .i64 0, .string a6])) (by simp [results, Tryz.results25, go_sem, *]) rfl ?_
          exact ⟨⟨1, 0, a6⟩, rfl, by first | (dsimp only; omega) | (dsimp only; decide), ((((D6.out.set (g := w1.heap.size) (by omega) _ _).set (g := w.heap.size) (Nat.le_refl _) _ _).set (g := w.heap.size) (Nat.le_refl _) _ _).set (g := w.heap.size) (Nat.le_refl _) _ _).mono (by omega)⟩
        · skip
          have rh := R5.out; have r0 := cell_of_row w5 (w.heap.size) 0 _ _ _ rh; simp at r0; have rf0 := frozen_of_row w5 (w.heap.size) 0 _ _ rh; have r1 := cell_of_row w5 (w.heap.size) 1 _ _ _ rh; simp at r1; have rf1 := frozen_of_row w5 (w.heap.size) 1 _ _ rh; have r2 := cell_of_row w5 (w.heap.size) 2 _ _ _ rh; simp at r2; have rf2 := frozen_of_row w5 (w.heap.size) 2 _ _ rh; clear rh
          have th := T5.out; have t0 := cell_of_row w5 (w1.heap.size) 0 _ _ _ th; simp at t0; have tf0 := frozen_of_row w5 (w1.heap.size) 0 _ _ th; have t1 := cell_of_row w5 (w1.heap.size) 1 _ _ _ th; simp at t1; have tf1 := frozen_of_row w5 (w1.heap.size) 1 _ _ th; have t2 := cell_of_row w5 (w1.heap.size) 2 _ _ _ th; simp at t2; have tf2 := frozen_of_row w5 (w1.heap.size) 2 _ _ th; clear th
          have zr6 : w.heap.size < w5.heap.size := (Array.getElem?_eq_some_iff.1 R5.out).1
          have zt6 : w1.heap.size < w5.heap.size := (Array.getElem?_eq_some_iff.1 T5.out).1
          go_wp2
          refine bodyPost_ret (v := (.agg #[.int .i64 1, .int .i64 0, .string a2])) (by simp [results, Tryz.results25, go_sem, *]) rfl ?_
          exact ⟨⟨1, 0, a2⟩, rfl, by first | (dsimp only; omega) | (dsimp only; decide), (((D5.out.set (g := w.heap.size) (Nat.le_refl _) _ _).set (g := w.heap.size) (Nat.le_refl _) _ _).set (g := w.heap.size) (Nat.le_refl _) _ _).mono (by omega)⟩
  · skip
    by_cases h4 : k1 = 3
    · subst h4
      have T2 := Lib.hid (heap_alloc_new w1 (.cells #[.int .i64 4, .int .i64 0, .string ⟨#[]⟩] 25))
      have R2 := Lib.hid ((Below.heap_alloc w1 (.cells #[.int .i64 4, .int .i64 0, .string ⟨#[]⟩] 25) _ zr).trans R1.out)
      have D2 := Lib.hid (D1.out.alloc (.cells #[.int .i64 4, .int .i64 0, .string ⟨#[]⟩] 25))
      go_wp2_with fail
      refine (pick_any B (u + 2) 40 _ D2.out.cur (by omega) (by omega) (by omega)).mono ?_
      rintro e w5 ⟨k5, hk5, rfl, hc5, hg5⟩
      have D5 := Lib.hid (D2.out.call hc5 hg5)
      have R5 := Lib.hid (stands hg5 (by omega) (R2.out))
      have T5 := Lib.hid (stands hg5 (by omega) (T2.out))
      clear hc5 hg5
      have z5 := D5.out.size
      generalize hkz : (k5 : Int) = kz
      clear hkz
      by_cases q0 : kz = 0
      · subst q0
        go_wp2_with fail
        refine (among_lit B (u + 2 + 2) [0, 7, 4] 3 _ D5.out.cur (by omega) (by simp) rfl rfl (by omega) (by omega)).mono ?_
        rintro e w6 ⟨a6, rfl, hc6, hg6⟩
        have D6 := Lib.hid (D5.out.call hc6 hg6)
        have R6 := Lib.hid (stands hg6 (by omega) (R5.out))
        have T6 := Lib.hid (stands hg6 (by omega) (T5.out))
        clear hc6 hg6
        have z6 := D6.out.size
        have rh := R6.out; have r0 := cell_of_row w6 (w.heap.size) 0 _ _ _ rh; simp at r0; have rf0 := frozen_of_row w6 (w.heap.size) 0 _ _ rh; have r1 := cell_of_row w6 (w.heap.size) 1 _ _ _ rh; simp at r1; have rf1 := frozen_of_row w6 (w.heap.size) 1 _ _ rh; have r2 := cell_of_row w6 (w.heap.size) 2 _ _ _ rh; simp at r2; have rf2 := frozen_of_row w6 (w.heap.size) 2 _ _ rh; clear rh
        have th := T6.out; have t0 := cell_of_row w6 (w1.heap.size) 0 _ _ _ th; simp at t0; have tf0 := frozen_of_row w6 (w1.heap.size) 0 _ _ th; have t1 := cell_of_row w6 (w1.heap.size) 1 _ _ _ th; simp at t1; have tf1 := frozen_of_row w6 (w1.heap.size) 1 _ _ th; have t2 := cell_of_row w6 (w1.heap.size) 2 _ _ _ th; simp at t2; have tf2 := frozen_of_row w6 (w1.heap.size) 2 _ _ th; clear th
        have zr6 : w.heap.size < w6.heap.size := (Array.getElem?_eq_some_iff.1 R6.out).1
        have zt6 : w1.heap.size < w6.heap.size := (Array.getElem?_eq_some_iff.1 T6.out).1
        go_wp2
        refine bodyPost_ret (v := (.agg #[.int .i64 a6, .int .i64 0, .string ⟨#[]⟩])) (by simp [results, Tryz.results25, go_sem, *]) rfl ?_
        exact ⟨⟨a6, 0, ⟨#[]⟩⟩, rfl, by first | (dsimp only; omega) | (dsimp only; decide), ((((D6.out.set (g := w1.heap.size) (by omega) _ _).set (g := w.heap.size) (Nat.le_refl _) _ _).set (g := w.heap.size) (Nat.le_refl _) _ _).set (g := w.heap.size) (Nat.le_refl _) _ _).mono (by omega)⟩
      · skip
        by_cases q1 : kz = 1
        · subst q1
          go_wp2_with fail
          refine (among_lit B (u + 2 + 2) [0, 8, 1] 3 _ D5.out.cur (by omega) (by simp) rfl rfl (by omega) (by omega)).mono ?_
          rintro e w6 ⟨a6, rfl, hc6, hg6⟩
          have D6 := Lib.hid (D5.out.call hc6 hg6)
          have R6 := Lib.hid (stands hg6 (by omega) (R5.out))
          have T6 := Lib.hid (stands hg6 (by omega) (T5.out))
          clear hc6 hg6
          have z6 := D6.out.size
          have rh := R6.out; have r0 := cell_of_row w6 (w.heap.size) 0 _ _ _ rh; simp at r0; have rf0 := frozen_of_row w6 (w.heap.size) 0 _ _ rh; have r1 := cell_of_row w6 (w.heap.size) 1 _ _ _ rh; simp at r1; have rf1 := frozen_of_row w6 (w.heap.size) 1 _ _ rh; have r2 := cell_of_row w6 (w.heap.size) 2 _ _ _ rh; simp at r2; have rf2 := frozen_of_row w6 (w.heap.size) 2 _ _ rh; clear rh
          have th := T6.out; have t0 := cell_of_row w6 (w1.heap.size) 0 _ _ _ th; simp at t0; have tf0 := frozen_of_row w6 (w1.heap.size) 0 _ _ th; have t1 := cell_of_row w6 (w1.heap.size) 1 _ _ _ th; simp at t1; have tf1 := frozen_of_row w6 (w1.heap.size) 1 _ _ th; have t2 := cell_of_row w6 (w1.heap.size) 2 _ _ _ th; simp at t2; have tf2 := frozen_of_row w6 (w1.heap.size) 2 _ _ th; clear th
          have zr6 : w.heap.size < w6.heap.size := (Array.getElem?_eq_some_iff.1 R6.out).1
          have zt6 : w1.heap.size < w6.heap.size := (Array.getElem?_eq_some_iff.1 T6.out).1
          go_wp2
          refine bodyPost_ret (v := (.agg #[.int .i64 4, .int .i64 a6, .string ⟨#[]⟩])) (by simp [results, Tryz.results25, go_sem, *]) rfl ?_
          exact ⟨⟨4, a6, ⟨#[]⟩⟩, rfl, by first | (dsimp only; omega) | (dsimp only; decide), ((((D6.out.set (g := w1.heap.size) (by omega) _ _).set (g := w.heap.size) (Nat.le_refl _) _ _).set (g := w.heap.size) (Nat.le_refl _) _ _).set (g := w.heap.size) (Nat.le_refl _) _ _).mono (by omega)⟩
        · skip
          by_cases q2 : kz = 2
          · subst q2
            go_wp2_with fail
            refine (of_lit B (u + 2 + 2) [⟨#[97, 98, 99, 100, 101, 102, 103, 104, 105]⟩, ⟨#[65]⟩, ⟨#[120]⟩, ⟨#[97, 32, 98]⟩] 4 10 _ D5.out.cur (by omega) (by simp) rfl rfl (by omega) (by omega) (by decide) (by omega)).mono ?_
            rintro e w6 ⟨a6, hs6, rfl, hc6, hg6⟩
            have D6 := Lib.hid (D5.out.call hc6 hg6)
            have R6 := Lib.hid (stands hg6 (by omega) (R5.out))
            have T6 := Lib.hid (stands hg6 (by omega) (T5.out))
            clear hc6 hg6
            have z6 := D6.out.size
            have rh := R6.out; have r0 := cell_of_row w6 (w.heap.size) 0 _ _ _ rh; simp at r0; have rf0 := frozen_of_row w6 (w.heap.size) 0 _ _ rh; have r1 := cell_of_row w6 (w.heap.size) 1 _ _ _ rh; simp at r1; have rf1 := frozen_of_row w6 (w.heap.size) 1 _ _ rh; have r2 := cell_of_row w6 (w.heap.size) 2 _ _ _ rh; simp at r2; have rf2 := frozen_of_row w6 (w.heap.size) 2 _ _ rh; clear rh
            have th := T6.out; have t0 := cell_of_row w6 (w1.heap.size) 0 _ _ _ th; simp at t0; have tf0 := frozen_of_row w6 (w1.heap.size) 0 _ _ th; have t1 := cell_of_row w6 (w1.heap.size) 1 _ _ _ th; simp at t1; have tf1 := frozen_of_row w6 (w1.heap.size) 1 _ _ th; have t2 := cell_of_row w6 (w1.heap.size) 2 _ _ _ th; simp at t2; have tf2 := frozen_of_row w6 (w1.heap.size) 2 _ _ th; clear th
            have zr6 : w.heap.size < w6.heap.size := (Array.getElem?_eq_some_iff.1 R6.out).1
            have zt6 : w1.heap.size < w6.heap.size := (Array.getElem?_eq_some_iff.1 T6.out).1
            go_wp2
            refine bodyPost_ret (v := (.agg #[.int .i64 4, .int .i64 0, .string a6])) (by simp [results, Tryz.results25, go_sem, *]) rfl ?_
            exact ⟨⟨4, 0, a6⟩, rfl, by first | (dsimp only; omega) | (dsimp only; decide), ((((D6.out.set (g := w1.heap.size) (by omega) _ _).set (g := w.heap.size) (Nat.le_refl _) _ _).set (g := w.heap.size) (Nat.le_refl _) _ _).set (g := w.heap.size) (Nat.le_refl _) _ _).mono (by omega)⟩
          · skip
            have rh := R5.out; have r0 := cell_of_row w5 (w.heap.size) 0 _ _ _ rh; simp at r0; have rf0 := frozen_of_row w5 (w.heap.size) 0 _ _ rh; have r1 := cell_of_row w5 (w.heap.size) 1 _ _ _ rh; simp at r1; have rf1 := frozen_of_row w5 (w.heap.size) 1 _ _ rh; have r2 := cell_of_row w5 (w.heap.size) 2 _ _ _ rh; simp at r2; have rf2 := frozen_of_row w5 (w.heap.size) 2 _ _ rh; clear rh
            have th := T5.out; have t0 := cell_of_row w5 (w1.heap.size) 0 _ _ _ th; simp at t0; have tf0 := frozen_of_row w5 (w1.heap.size) 0 _ _ th; have t1 := cell_of_row w5 (w1.heap.size) 1 _ _ _ th; simp at t1; have tf1 := frozen_of_row w5 (w1.heap.size) 1 _ _ th; have t2 := cell_of_row w5 (w1.heap.size) 2 _ _ _ th; simp at t2; have tf2 := frozen_of_row w5 (w1.heap.size) 2 _ _ th; clear th
            have zr6 : w.heap.size < w5.heap.size := (Array.getElem?_eq_some_iff.1 R5.out).1
            have zt6 : w1.heap.size < w5.heap.size := (Array.getElem?_eq_some_iff.1 T5.out).1
            go_wp2
            refine bodyPost_ret (v := (.agg #[.int .i64 4, .int .i64 0, .string ⟨#[]⟩])) (by simp [results, Tryz.results25, go_sem, *]) rfl ?_
            exact ⟨⟨4, 0, ⟨#[]⟩⟩, rfl, by first | (dsimp only; omega) | (dsimp only; decide), (((D5.out.set (g := w.heap.size) (Nat.le_refl _) _ _).set (g := w.heap.size) (Nat.le_refl _) _ _).set (g := w.heap.size) (Nat.le_refl _) _ _).mono (by omega)⟩
    · skip
      have hq1 : ¬ ((1 : Int) + (k1 : Int) = 1) := by omega
      have hq4 : ¬ ((1 : Int) + (k1 : Int) = 4) := by omega
      go_wp2_with fail
      refine (pick_any B (u + 2) 7 _ (D1.out.alloc _).cur (by omega) (by omega) (by omega)).mono ?_
      rintro e w2 ⟨k2, hk2, rfl, hc2, hg2⟩
      have D2 := Lib.hid ((D1.out.alloc _).call hc2 hg2)
      have R2 := Lib.hid (stands hg2 (by omega) ((Below.heap_alloc _ _ _ zr).trans R1.out))
      have T2 := Lib.hid (stands hg2 (by omega) (heap_alloc_new w1 _))
      clear hc2 hg2
      have z2 := D2.out.size
      have th := T2.out; have t0 := cell_of_row w2 (w1.heap.size) 0 _ _ _ th; simp at t0; have tf0 := frozen_of_row w2 (w1.heap.size) 0 _ _ th; have t1 := cell_of_row w2 (w1.heap.size) 1 _ _ _ th; simp at t1; have tf1 := frozen_of_row w2 (w1.heap.size) 1 _ _ th; have t2 := cell_of_row w2 (w1.heap.size) 2 _ _ _ th; simp at t2; have tf2 := frozen_of_row w2 (w1.heap.size) 2 _ _ th; clear th
      have zt2 : w1.heap.size < w2.heap.size := (Array.getElem?_eq_some_iff.1 T2.out).1
      have T2s := Lib.hid (set_at T2.out 1 (.int .i64 (1 + (k2 : Int))))
      simp at T2s
      have R2s := Lib.hid ((set_other w2 ⟨w1.heap.size, 1, none⟩ (.int .i64 (1 + (k2 : Int))) w.heap.size ne).trans R2.out)
      have D2s := Lib.hid (D2.out.set (g := w1.heap.size) (by omega) 1 (.int .i64 (1 + (k2 : Int))))
      go_wp2_with fail
      refine (pick_any B (u + 4) 40 _ D2s.out.cur (by omega) (by omega) (by omega)).mono ?_
      rintro e w5 ⟨k5, hk5, rfl, hc5, hg5⟩
      have D5 := Lib.hid (D2s.out.call hc5 hg5)
      have R5 := Lib.hid (stands hg5 (by omega) (R2s.out))
      have T5 := Lib.hid (stands hg5 (by omega) (T2s.out))
      clear hc5 hg5
      have z5 := D5.out.size
      generalize hkz : (k5 : Int) = kz
      clear hkz
      by_cases q0 : kz = 0
      · subst q0
        go_wp2_with fail
        refine (among_lit B (u + 4 + 2) [0, 7, 4] 3 _ D5.out.cur (by omega) (by simp) rfl rfl (by omega) (by omega)).mono ?_
        rintro e w6 ⟨a6, rfl, hc6, hg6⟩
        have D6 := Lib.hid (D5.out.call hc6 hg6)
        have R6 := Lib.hid (stands hg6 (by omega) (R5.out))
        have T6 := Lib.hid (stands hg6 (by omega) (T5.out))
        clear hc6 hg6
        have z6 := D6.out.size
        have rh := R6.out; have r0 := cell_of_row w6 (w.heap.size) 0 _ _ _ rh; simp at r0; have rf0 := frozen_of_row w6 (w.heap.size) 0 _ _ rh; have r1 := cell_of_row w6 (w.heap.size) 1 _ _ _ rh; simp at r1; have rf1 := frozen_of_row w6 (w.heap.size) 1 _ _ rh; have r2 := cell_of_row w6 (w.heap.size) 2 _ _ _ rh; simp at r2; have rf2 := frozen_of_row w6 (w.heap.size) 2 _ _ rh; clear rh
        have th := T6.out; have t0 := cell_of_row w6 (w1.heap.size) 0 _ _ _ th; simp at t0; have tf0 := frozen_of_row w6 (w1.heap.size) 0 _ _ th; have t1 := cell_of_row w6 (w1.heap.size) 1 _ _ _ th; simp at t1; have tf1 := frozen_of_row w6 (w1.heap.size) 1 _ _ th; have t2 := cell_of_row w6 (w1.heap.size) 2 _ _ _ th; simp at t2; have tf2 := frozen_of_row w6 (w1.heap.size) 2 _ _ th; clear th
        have zr6 : w.heap.size < w6.heap.size := (Array.getElem?_eq_some_iff.1 R6.out).1
        have zt6 : w1.heap.size < w6.heap.size := (Array.getElem?_eq_some_iff.1 T6.out).1
        go_wp2
        refine bodyPost_ret (v := (.agg #[.int .i64 a6, .int .i64 (1 + (k2 : Int)), .string ⟨#[]⟩])) (by simp [results, Tryz.results25, go_sem, *]) rfl ?_
        exact ⟨⟨a6, (1 + (k2 : Int)), ⟨#[]⟩⟩, rfl, by first | (dsimp only; omega) | (dsimp only; decide), ((((D6.out.set (g := w1.heap.size) (by omega) _ _).set (g := w.heap.size) (Nat.le_refl _) _ _).set (g := w.heap.size) (Nat.le_refl _) _ _).set (g := w.heap.size) (Nat.le_refl _) _ _).mono (by omega)⟩
      · skip
        by_cases q1 : kz = 1
        · subst q1
          go_wp2_with fail
          refine (among_lit B (u + 4 + 2) [0, 8, 1] 3 _ D5.out.cur (by omega) (by simp) rfl rfl (by omega) (by omega)).mono ?_
          rintro e w6 ⟨a6, rfl, hc6, hg6⟩
          have D6 := Lib.hid (D5.out.call hc6 hg6)
          have R6 := Lib.hid (stands hg6 (by omega) (R5.out))
          have T6 := Lib.hid (stands hg6 (by omega) (T5.out))
          clear hc6 hg6
          have z6 := D6.out.size
          have rh := R6.out; have r0 := cell_of_row w6 (w.heap.size) 0 _ _ _ rh; simp at r0; have rf0 := frozen_of_row w6 (w.heap.size) 0 _ _ rh; have r1 := cell_of_row w6 (w.heap.size) 1 _ _ _ rh; simp at r1; have rf1 := frozen_of_row w6 (w.heap.size) 1 _ _ rh; have r2 := cell_of_row w6 (w.heap.size) 2 _ _ _ rh; simp at r2; have rf2 := frozen_of_row w6 (w.heap.size) 2 _ _ rh; clear rh
          have th := T6.out; have t0 := cell_of_row w6 (w1.heap.size) 0 _ _ _ th; simp at t0; have tf0 := frozen_of_row w6 (w1.heap.size) 0 _ _ th; have t1 := cell_of_row w6 (w1.heap.size) 1 _ _ _ th; simp at t1; have tf1 := frozen_of_row w6 (w1.heap.size) 1 _ _ th; have t2 := cell_of_row w6 (w1.heap.size) 2 _ _ _ th; simp at t2; have tf2 := frozen_of_row w6 (w1.heap.size) 2 _ _ th; clear th
          have zr6 : w.heap.size < w6.heap.size := (Array.getElem?_eq_some_iff.1 R6.out).1
          have zt6 : w1.heap.size < w6.heap.size := (Array.getElem?_eq_some_iff.1 T6.out).1
          go_wp2
          refine bodyPost_ret (v := (.agg #[.int .i64 (1 + (k1 : Int)), .int .i64 a6, .string ⟨#[]⟩])) (by simp [results, Tryz.results25, go_sem, *]) rfl ?_
          exact ⟨⟨(1 + (k1 : Int)), a6, ⟨#[]⟩⟩, rfl, by first | (dsimp only; omega) | (dsimp only; decide), ((((D6.out.set (g := w1.heap.size) (by omega) _ _).set (g := w.heap.size) (Nat.le_refl _) _ _).set (g := w.heap.size) (Nat.le_refl _) _ _).set (g := w.heap.size) (Nat.le_refl _) _ _).mono (by omega)⟩
        · skip
          by_cases q2 : kz = 2
          · subst q2
            go_wp2_with fail
            refine (of_lit B (u + 4 + 2) [⟨#[97, 98, 99, 100, 101, 102, 103, 104, 105]⟩, ⟨#[65]⟩, ⟨#[120]⟩, ⟨#[97, 32, 98]⟩] 4 10 _ D5.out.cur (by omega) (by simp) rfl rfl (by omega) (by omega) (by decide) (by omega)).mono ?_
            rintro e w6 ⟨a6, hs6, rfl, hc6, hg6⟩
            have D6 := Lib.hid (D5.out.call hc6 hg6)
            have R6 := Lib.hid (stands hg6 (by omega) (R5.out))
            have T6 := Lib.hid (stands hg6 (by omega) (T5.out))
            clear hc6 hg6
            have z6 := D6.out.size
            have rh := R6.out; have r0 := cell_of_row w6 (w.heap.size) 0 _ _ _ rh; simp at r0; have rf0 := frozen_of_row w6 (w.heap.size) 0 _ _ rh; have r1 := cell_of_row w6 (w.heap.size) 1 _ _ _ rh; simp at r1; have rf1 := frozen_of_row w6 (w.heap.size) 1 _ _ rh; have r2 := cell_of_row w6 (w.heap.size) 2 _ _ _ rh; simp at r2; have rf2 := frozen_of_row w6 (w.heap.size) 2 _ _ rh; clear rh
            have th := T6.out; have t0 := cell_of_row w6 (w1.heap.size) 0 _ _ _ th; simp at t0; have tf0 := frozen_of_row w6 (w1.heap.size) 0 _ _ th; have t1 := cell_of_row w6 (w1.heap.size) 1 _ _ _ th; simp at t1; have tf1 := frozen_of_row w6 (w1.heap.size) 1 _ _ th; have t2 := cell_of_row w6 (w1.heap.size) 2 _ _ _ th; simp at t2; have tf2 := frozen_of_row w6 (w1.heap.size) 2 _ _ th; clear th
            have zr6 : w.heap.size < w6.heap.size := (Array.getElem?_eq_some_iff.1 R6.out).1
            have zt6 : w1.heap.size < w6.heap.size := (Array.getElem?_eq_some_iff.1 T6.out).1
            go_wp2
            refine bodyPost_ret (v := (.agg #[.int .i64 (1 + (k1 : Int)), .int .i64 (1 + (k2 : Int)), .string a6])) (by simp [results, Tryz.results25, go_sem, *]) rfl ?_
            exact ⟨⟨(1 + (k1 : Int)), (1 + (k2 : Int)), a6⟩, rfl, by first | (dsimp only; omega) | (dsimp only; decide), ((((D6.out.set (g := w1.heap.size) (by omega) _ _).set (g := w.heap.size) (Nat.le_refl _) _ _).set (g := w.heap.size) (Nat.le_refl _) _ _).set (g := w.heap.size) (Nat.le_refl _) _ _).mono (by omega)⟩
          · skip
            have rh := R5.out; have r0 := cell_of_row w5 (w.heap.size) 0 _ _ _ rh; simp at r0; have rf0 := frozen_of_row w5 (w.heap.size) 0 _ _ rh; have r1 := cell_of_row w5 (w.heap.size) 1 _ _ _ rh; simp at r1; have rf1 := frozen_of_row w5 (w.heap.size) 1 _ _ rh; have r2 := cell_of_row w5 (w.heap.size) 2 _ _ _ rh; simp at r2; have rf2 := frozen_of_row w5 (w.heap.size) 2 _ _ rh; clear rh
            have th := T5.out; have t0 := cell_of_row w5 (w1.heap.size) 0 _ _ _ th; simp at t0; have tf0 := frozen_of_row w5 (w1.heap.size) 0 _ _ th; have t1 := cell_of_row w5 (w1.heap.size) 1 _ _ _ th; simp at t1; have tf1 := frozen_of_row w5 (w1.heap.size) 1 _ _ th; have t2 := cell_of_row w5 (w1.heap.size) 2 _ _ _ th; simp at t2; have tf2 := frozen_of_row w5 (w1.heap.size) 2 _ _ th; clear th
            have zr6 : w.heap.size < w5.heap.size := (Array.getElem?_eq_some_iff.1 R5.out).1
            have zt6 : w1.heap.size < w5.heap.size := (Array.getElem?_eq_some_iff.1 T5.out).1
            go_wp2
            refine bodyPost_ret (v := (.agg #[.int .i64 (1 + (k1 : Int)), .int .i64 (1 + (k2 : Int)), .string ⟨#[]⟩])) (by simp [results, Tryz.results25, go_sem, *]) rfl ?_
            exact ⟨⟨(1 + (k1 : Int)), (1 + (k2 : Int)), ⟨#[]⟩⟩, rfl, by first | (dsimp only; omega) | (dsimp only; decide), (((D5.out.set (g := w.heap.size) (Nat.le_refl _) _ _).set (g := w.heap.size) (Nat.le_refl _) _ _).set (g := w.heap.size) (Nat.le_refl _) _ _).mono (by omega)⟩

theorem OwSt.neB {w W : World} {v : Value} {xs : List St} {B : Nat} (h : OwSt w.heap.size W v xs) (hB : B < w.heap.size) : v.ownBlock = none ∨ v.ownBlock ≠ some B := by
  cases hv : v.ownBlock with
  | none => exact .inl rfl
  | some k => exact .inr fun e => by have := (h.lt k hv).1; have := Option.some.inj e; omega
theorem Dr.appSt {w W W' : World} {B u : Nat} {v : Value} {xs : List St} (h : Dr w W B u) (ho : OwSt w.heap.size W v xs) (hg : W.grownBy W' v.ownBlock) : Dr w W' B u := by
  have hlt := h.lt
  cases hv : v.ownBlock with
  | none =>
    rw [hv] at hg
    exact ⟨h.cur.below ⟨hg.os, hg.tape, hg.output, hg.size, fun k hk => hg.block k hk (by simp)⟩, grown_trans h.grown ⟨hg.os, hg.tape, hg.output, hg.size, fun k hk _ => hg.block k hk (by simp)⟩, hlt⟩
  | some g =>
    rw [hv] at hg
    have hge := (ho.lt g hv).1
    refine ⟨?_, ⟨hg.os.trans h.grown.os, hg.tape.trans h.grown.tape, hg.output.trans h.grown.output, Nat.le_trans h.size hg.size, fun k hk hne => (hg.block k (by have := h.size; omega) (by simp; omega)).trans (h.grown.block k hk hne)⟩, hlt⟩
    obtain ⟨cv, bs, n, sd, hh, hn, hr, hne⟩ := h.cur
    exact ⟨cv, bs, n, sd, (hg.block B (by have := h.size; omega) (by simp; omega)).trans hh, hn, hr.grown hg (ne_row hne (by omega)), hne⟩
theorem flatSt_snoc (xs : List St) (x : St) : (xs ++ [x]).flatMap St.cells = xs.flatMap St.cells ++ x.cells := by rw [List.flatMap_append]; simp
def slLenS : Value → Nat
  | .slice _ n _ => n
  | _ => 0
/-- the data are short -/
def Sm (xs : List St) : Prop := ∀ x ∈ xs, x.dt.size ≤ 1000
theorem Sm.snoc {xs : List St} {x : St} (h : Sm xs) (hx : x.dt.size ≤ 1000) : Sm (xs ++ [x]) := by
  intro y hy
  rcases List.mem_append.1 hy with hy | hy
  · exact h y hy
  · rw [List.mem_singleton.1 hy]; exact hx
theorem Sm.ok {xs : List St} (h : Sm xs) : ∀ x ∈ xs, x.ok := fun x hx => by have := h x hx; unfold St.ok; omega
def SomeSc (w : World) (B u : Nat) (e : Ending) (w' : World) : Prop := ∃ v xs, e = .returned v ∧ OwSt w.heap.size w' v xs ∧ xs.length ≤ 31 ∧ Sm xs ∧ Dr w w' B u
set_option maxRecDepth 100000 in
set_option maxHeartbeats 8000000 in
theorem script16_any (B u : Nat) (w : World) (h : Cur w B u) (hu : u ≤ 100000) :
    Calls Tryz.prog 43 #[.pointer (some ⟨B, 0, none⟩)] w (SomeSc w B (u + 1000)) := by
  obtain ⟨i0, hi, hz0, hz1, hz2⟩ := info_parts infoSt
  have hlt := h.lt
  have D0 := Lib.hid (Dr.start h); clear h
  have O0 : Hid (OwSt w.heap.size (w.alloc (.cells #[] 25)) (.slice (some ⟨w.heap.size, 0, none⟩) 0 0) []) := Lib.hid ⟨World.ownsRow_lit w #[] 0 (Nat.le_refl _) (Nat.zero_le _) rfl, Nat.zero_le _, by simp⟩
  go_enter Tryz.func43, Tryz.ntmps43
  go_wp2_with fail
  refine (pick_any B u 9 _ (D0.out.alloc _).cur (by omega) (by omega) (by omega)).mono ?_
  rintro e w1 ⟨k1, hk1, rfl, hc1, hg1⟩
  have D1 := Lib.hid ((D0.out.alloc _).call hc1 hg1)
  have O1 := Lib.hid (O0.out.grown hg1 (O0.out.neB hlt))
  clear hc1 hg1 D0 O0
  go_wp2
  go_loopw [3, 4] (fun v i wr => ∃ (xs : List St) (j : Nat), i = .int .i64 j ∧ xs.length + j ≤ 9 ∧ Hid (OwSt w.heap.size wr v xs) ∧ Hid (Sm xs) ∧ Hid (Dr w wr B (u + 2 + (9 - j) * 12))) (fun _ i _ => (intOf i).toNat)
  case atStart => exact ⟨[], k1, rfl, by simp; omega, O1, Lib.hid (by intro x hx; cases hx), Lib.hid (D1.out.mono (by omega))⟩
  case round =>
    clear D1 O1
    obtain ⟨xs, j, rfl, hj, OO, HS, DD⟩ := hrel
    have zr := DD.out.size
    by_cases hj0 : 0 < j
    · obtain ⟨j', rfl⟩ : ∃ j', j = j' + 1 := ⟨j - 1, by omega⟩
      go_wp2_with fail
      refine (step16_any B _ _ DD.out.cur (by omega)).mono ?_
      rintro e W1 ⟨⟨xk, xn, xd⟩, rfl, hsx, d1⟩
      have D1 := Lib.hid (DD.out.call d1.cur d1.grown)
      have O1 := Lib.hid (OO.out.grown d1.grown (OO.out.neB hlt))
      have HS1 : Hid (Sm (xs ++ [⟨xk, xn, xd⟩])) := Lib.hid (HS.out.snoc hsx)
      clear d1 DD OO HS hsx
      have z1 := D1.out.size
      go_wp2_with (first | (at_builtin; go_loud (refine wpList_append_own _ rfl _ _ 33 rfl w.heap.size 25 i0 (.agg #[.int .i64 0, .int .i64 0, .string ⟨#[]⟩]) 3 32 Tryz.underlying33 hi hz0 hz1 hz2 rfl (by decide) _ _ _ rfl (O1.out.1.alloc _) ⟨W1.heap.size, 0, none⟩ 1 1 [.int .i64 xk, .int .i64 xn, .string xd] rfl rfl ?c1 ?c2 ?c3 ?c4 ?c5 ?_)))
      try (case c1 => first | exact cells_at _ #[_, _, _] _ (by simp) | rfl)
      try (case c2 => first | rfl | (intro u hu; simp at hu; rcases hu with rfl | rfl | rfl <;> rfl) | simp)
      try (case c3 => first | omega | (unfold maxLen; omega))
      try (case c4 => first | omega | ((try simp only [World.heap_size_alloc]); omega))
      try (case c5 => first | omega | (simp; omega))
      intro v2 w2 hown2 hgrow2
      try intro _
      have D2 := Lib.hid (Dr.appSt (D1.out.alloc (.cells #[.int .i64 xk, .int .i64 xn, .string xd] 25)) (O1.out.below (below_alloc1 _ _)) hgrow2)
      have O2 : Hid (OwSt w.heap.size w2 v2 (xs ++ [⟨xk, xn, xd⟩])) := Lib.hid ⟨by rw [flatSt_snoc, List.length_append]; exact hown2, by simp; omega, HS1.out.ok⟩
      clear hown2 hgrow2 D1 O1
      go_wp2
      go_roundw
      case rel => exact ⟨_, j', by go_num, by simp; omega, O2, HS1, Lib.hid (D2.out.mono (by omega))⟩
      case measure => (simp [intOf]; try omega)
    · go_wp2_with fail
      refine (one_any B _ 24 _ DD.out.cur (by omega) (by omega) (by omega)).mono ?_
      rintro e W2 ⟨b, rfl, hc2, hg2⟩
      have D2 := Lib.hid (DD.out.call hc2 hg2)
      have O2 := Lib.hid (OO.out.grown hg2 (OO.out.neB hlt))
      clear hc2 hg2 DD OO
      cases b
      · go_wp2
        refine bodyPost_ret (v := u3) (by simp [results, Tryz.results43, go_sem, *]) rfl ?_
        exact ⟨_, xs, rfl, O2.out, by omega, HS.out, D2.out.mono (by omega)⟩
      · have hx9 : xs.length ≤ 31 := by omega
        have D3 : Hid (Dr w W2 B (u + 200 + 4 * xs.length)) := Lib.hid (D2.out.mono (by omega))
        clear D2 hj hj0 zr
        obtain ⟨p3, cap3, g3, rfl, hcap3, _⟩ := own_shape O2.out.1
        go_wp2
        go_loopw [3] (fun v wr => ∃ (xs : List St) (p : Option Addr) (cap : Nat), v = .slice p xs.length cap ∧ xs.length ≤ 31 ∧ Hid (OwSt w.heap.size wr v xs) ∧ Hid (Sm xs) ∧ Hid (Dr w wr B (u + 200 + 4 * xs.length))) (fun v _ => 40 - slLenS v)
        case atStart => exact ⟨xs, p3, cap3, rfl, hx9, O2, HS, D3⟩
        case round =>
          clear D3 O2 HS
          obtain ⟨xs, p, cap, rfl, hj, OO, HS, DD⟩ := hrel
          have zr := DD.out.size
          go_wp2_with fail
          refine (pick_any B _ 2 _ DD.out.cur (by omega) (by omega) (by omega)).mono ?_
          rintro e W3 ⟨k3, hk3, rfl, hc3, hg3⟩
          have D3 := Lib.hid (DD.out.call hc3 hg3)
          have O3 := Lib.hid (OO.out.grown hg3 (OO.out.neB hlt))
          clear hc3 hg3 DD OO
          by_cases hl : xs.length < 30 + k3
          · have HS1 : Hid (Sm (xs ++ [⟨4, 0, ⟨#[]⟩⟩])) := Lib.hid (HS.out.snoc (by decide))
            go_wp2_with (first | (at_builtin; go_loud (refine wpList_append_own _ rfl _ _ 33 rfl w.heap.size 25 i0 (.agg #[.int .i64 0, .int .i64 0, .string ⟨#[]⟩]) 3 32 Tryz.underlying33 hi hz0 hz1 hz2 rfl (by decide) _ _ _ rfl (O3.out.1.alloc _) ⟨W3.heap.size, 0, none⟩ 1 1 [.int .i64 4, .int .i64 0, .string ⟨#[]⟩] rfl rfl ?d1 ?d2 ?d3 ?d4 ?d5 ?_)))
            try (case d1 => first | exact cells_at _ #[_, _, _] _ (by simp) | rfl)
            try (case d2 => first | rfl | (intro u hu; simp at hu; rcases hu with rfl | rfl | rfl <;> rfl) | simp)
            try (case d3 => first | omega | (unfold maxLen; omega))
            try (case d4 => first | omega | ((try simp only [World.heap_size_alloc]); omega))
            try (case d5 => first | omega | (have := D3.out.size; simp; omega))
            intro v4 w4 hown4 hgrow4
            try intro _
            have D4 := Lib.hid (Dr.appSt (D3.out.alloc (.cells #[.int .i64 4, .int .i64 0, .string ⟨#[]⟩] 25)) (O3.out.below (below_alloc1 _ _)) hgrow4)
            have O4 : Hid (OwSt w.heap.size w4 v4 (xs ++ [⟨4, 0, ⟨#[]⟩⟩])) := Lib.hid ⟨by rw [flatSt_snoc, List.length_append]; exact hown4, by simp; omega, HS1.out.ok⟩
            clear hown4 hgrow4 D3 O3
            obtain ⟨p4, cap4, g4, rfl, _, _⟩ := own_shape O4.out.1
            go_wp2
            go_roundw
            case rel => exact ⟨xs ++ [⟨4, 0, ⟨#[]⟩⟩], p4, cap4, by simp, by simp; omega, O4, HS1, Lib.hid (D4.out.mono (by simp; omega))⟩
            case measure => (simp [slLenS]; omega)
          · go_wp2
            refine bodyPost_ret (v := (.slice p xs.length cap)) (by simp [results, Tryz.results43, go_sem, *]) rfl ?_
            exact ⟨_, xs, rfl, O3.out, by omega, HS.out, D3.out.mono (by omega)⟩
end Go.Proofs.YtgmccafmopgjaaaGreatDoor
