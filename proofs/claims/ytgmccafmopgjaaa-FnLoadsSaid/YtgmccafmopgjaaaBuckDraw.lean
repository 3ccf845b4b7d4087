/- Contracts of the reference's drawings of buckets and loads: each answers SOME bucket, SOME load (nothing more is needed), reading at most 65536 bytes. -/
import Derived.Test.YtgmccafmopgjaaaDrawKit
import Derived.Test.YtgmccafmopgjaaaRate1
import Derived.Test.YtgmccafmopgjaaaKeep
namespace Go.Proofs.Ytgmccafmopgjaaa
open Go.RowKit


def SomeLd (w : World) (B u : Nat) (e : Ending) (w' : World) : Prop := ∃ x : Ld, e = .returned x.v ∧ Dr w w' B u
set_option maxHeartbeats 1000000 in
theorem load_any (B u : Nat) (f : Int) (w : World) (h : Cur w B u) (hu : u ≤ 1000000) :
    Calls Try.prog 85 #[.pointer (some ⟨B, 0, none⟩), .int .i64 f] w (SomeLd w B (u + 10)) := by
  have hlt := h.lt
  have D0 := Lib.hid (Dr.start h); clear h
  go_enter Try.func85, Try.ntmps85
  go_wp2_with fail
  refine (among_lit B u [0, 0, 1, 3, 20] 5 _ (D0.out.alloc _).cur (by omega) (by simp) rfl rfl (by omega) (by omega)).mono ?_
  rintro e w1 ⟨a, rfl, hc1, hg1⟩
  have D1 := Lib.hid ((D0.out.alloc _).call hc1 hg1)
  have R1 := Lib.hid (stands hg1 hlt (heap_alloc_new w _)); clear hc1 hg1
  have z1 := D1.out.size
  go_wp2_with fail
  refine (among_lit B (u + 2) [1, 2, 5, 7, 40, 1000] 6 w1 D1.out.cur (by omega) (by simp) rfl rfl (by omega) (by omega)).mono ?_
  rintro e w2 ⟨b, rfl, hc2, hg2⟩
  have D2 := Lib.hid (D1.out.call hc2 hg2)
  have R2 := Lib.hid (stands hg2 hlt R1.out); clear hc2 hg2
  have z2 := D2.out.size
  go_wp2_with fail
  refine (pick_any B (u + 4) 60 _ (D2.out.alloc _).cur (by omega) (by omega) (by omega)).mono ?_
  rintro e w3 ⟨k, hk, rfl, hc3, hg3⟩
  have D3 := Lib.hid ((D2.out.alloc _).call hc3 hg3)
  have R3 := Lib.hid (stands hg3 hlt ((Below.heap_alloc _ _ _ (Array.getElem?_eq_some_iff.1 R2.out).1).trans R2.out))
  have T3 := Lib.hid (stands hg3 (by omega) (heap_alloc_new w2 _)); clear hc3 hg3
  have z3 := D3.out.size
  have zr : w.heap.size < w2.heap.size := (Array.getElem?_eq_some_iff.1 R2.out).1
  have zt : w2.heap.size < w3.heap.size := (Array.getElem?_eq_some_iff.1 T3.out).1
  clear D0 D1 D2 R1 R2
  generalize (k : Int) = kk
  by_cases h0 : kk = 0
  · subst h0
    go_wp2_with fail
    refine (among_lit B (u + 6) [-1, 10000, 10001, 0] 4 w3 D3.out.cur (by omega) (by simp) rfl rfl (by omega) (by omega)).mono ?_
    rintro e w4 ⟨c, rfl, hc4, hg4⟩
    have D4 := Lib.hid (D3.out.call hc4 hg4)
    have R4 := Lib.hid (stands hg4 hlt R3.out)
    have T4 := Lib.hid (stands hg4 (by omega) T3.out); clear hc4 hg4
    have rh := R4.out; have r0 := cell_of_row w4 (w.heap.size) 0 _ _ _ rh; simp at r0; have rf0 := frozen_of_row w4 (w.heap.size) 0 _ _ rh; have r1 := cell_of_row w4 (w.heap.size) 1 _ _ _ rh; simp at r1; have rf1 := frozen_of_row w4 (w.heap.size) 1 _ _ rh; clear rh
    have th := T4.out; have t0 := cell_of_row w4 (w2.heap.size) 0 _ _ _ th; simp at t0; have tf0 := frozen_of_row w4 (w2.heap.size) 0 _ _ th; have t1 := cell_of_row w4 (w2.heap.size) 1 _ _ _ th; simp at t1; have tf1 := frozen_of_row w4 (w2.heap.size) 1 _ _ th; clear th
    have zr4 : w.heap.size < w4.heap.size := (Array.getElem?_eq_some_iff.1 R4.out).1
    have zt4 : w2.heap.size < w4.heap.size := (Array.getElem?_eq_some_iff.1 T4.out).1
    have ne : w.heap.size ≠ w2.heap.size := by omega
    go_wp2
    refine bodyPost_ret (v := (.agg #[.int .i64 c, .int .i64 b])) (by simp [results, Try.results85, go_sem, *]) rfl ?_
    exact ⟨⟨c, b⟩, rfl, (((D4.out.set (by omega) _ _).set (Nat.le_refl _) _ _).set (Nat.le_refl _) _ _).mono (by omega)⟩
  · by_cases h1 : kk = 1
    · subst h1
      go_wp2_with fail
      refine (among_lit B (u + 6) [0, 1001] 2 w3 D3.out.cur (by omega) (by simp) rfl rfl (by omega) (by omega)).mono ?_
      rintro e w4 ⟨c, rfl, hc4, hg4⟩
      have D4 := Lib.hid (D3.out.call hc4 hg4)
      have R4 := Lib.hid (stands hg4 hlt R3.out)
      have T4 := Lib.hid (stands hg4 (by omega) T3.out); clear hc4 hg4
      have rh := R4.out; have r0 := cell_of_row w4 (w.heap.size) 0 _ _ _ rh; simp at r0; have rf0 := frozen_of_row w4 (w.heap.size) 0 _ _ rh; have r1 := cell_of_row w4 (w.heap.size) 1 _ _ _ rh; simp at r1; have rf1 := frozen_of_row w4 (w.heap.size) 1 _ _ rh; clear rh
      have th := T4.out; have t0 := cell_of_row w4 (w2.heap.size) 0 _ _ _ th; simp at t0; have tf0 := frozen_of_row w4 (w2.heap.size) 0 _ _ th; have t1 := cell_of_row w4 (w2.heap.size) 1 _ _ _ th; simp at t1; have tf1 := frozen_of_row w4 (w2.heap.size) 1 _ _ th; clear th
      have zr4 : w.heap.size < w4.heap.size := (Array.getElem?_eq_some_iff.1 R4.out).1
      have zt4 : w2.heap.size < w4.heap.size := (Array.getElem?_eq_some_iff.1 T4.out).1
      have ne : w.heap.size ≠ w2.heap.size := by omega
      go_wp2
      refine bodyPost_ret (v := (.agg #[.int .i64 (wrap64 (f + a)), .int .i64 c])) (by simp [results, Try.results85, go_sem, *]) rfl ?_
      exact ⟨⟨_, c⟩, rfl, (((D4.out.set (by omega) _ _).set (Nat.le_refl _) _ _).set (Nat.le_refl _) _ _).mono (by omega)⟩
    · have rh := R3.out; have r0 := cell_of_row w3 (w.heap.size) 0 _ _ _ rh; simp at r0; have rf0 := frozen_of_row w3 (w.heap.size) 0 _ _ rh; have r1 := cell_of_row w3 (w.heap.size) 1 _ _ _ rh; simp at r1; have rf1 := frozen_of_row w3 (w.heap.size) 1 _ _ rh; clear rh
      have th := T3.out; have t0 := cell_of_row w3 (w2.heap.size) 0 _ _ _ th; simp at t0; have tf0 := frozen_of_row w3 (w2.heap.size) 0 _ _ th; have t1 := cell_of_row w3 (w2.heap.size) 1 _ _ _ th; simp at t1; have tf1 := frozen_of_row w3 (w2.heap.size) 1 _ _ th; clear th
      have ne : w.heap.size ≠ w2.heap.size := by omega
      go_wp2
      refine bodyPost_ret (v := (.agg #[.int .i64 (wrap64 (f + a)), .int .i64 b])) (by simp [results, Try.results85, go_sem, *]) rfl ?_
      exact ⟨⟨_, b⟩, rfl, ((D3.out.set (Nat.le_refl _) _ _).set (Nat.le_refl _) _ _).mono (by omega)⟩

def SomeBk (w : World) (B u : Nat) (e : Ending) (w' : World) : Prop := ∃ k : Bk, e = .returned k.v ∧ Dr w w' B u
set_option maxHeartbeats 4000000 in
theorem bucket_any (B u : Nat) (w : World) (h : Cur w B u) (hu : u ≤ 1000000) :
    Calls Try.prog 65 #[.pointer (some ⟨B, 0, none⟩)] w (SomeBk w B (u + 14)) := by
  have hlt := h.lt
  have D0 := Lib.hid (Dr.start h); clear h
  go_enter Try.func65, Try.ntmps65
  go_wp2_with fail
  refine (among_lit B u [1, 1, 3, 10, 1000] 5 _ (D0.out.alloc _).cur (by omega) (by simp) rfl rfl (by omega) (by omega)).mono ?_
  rintro e w1 ⟨a1, rfl, hc1, hg1⟩
  have D1 := Lib.hid ((D0.out.alloc _).call hc1 hg1)
  have R1 := Lib.hid (stands hg1 (by omega) (heap_alloc_new w _))
  clear hc1 hg1
  have z1 := D1.out.size
  go_wp2_with fail
  refine (among_lit B (u + 2) [1, 2, 7, 100] 4 _ D1.out.cur (by omega) (by simp) rfl rfl (by omega) (by omega)).mono ?_
  rintro e w2 ⟨a2, rfl, hc2, hg2⟩
  have D2 := Lib.hid (D1.out.call hc2 hg2)
  have R2 := Lib.hid (stands hg2 (by omega) (R1.out))
  clear hc2 hg2
  have z2 := D2.out.size
  go_wp2_with fail
  refine (among_lit B (u + 4) [1, 5, 10, 50, 1000] 5 _ D2.out.cur (by omega) (by simp) rfl rfl (by omega) (by omega)).mono ?_
  rintro e w3 ⟨a3, rfl, hc3, hg3⟩
  have D3 := Lib.hid (D2.out.call hc3 hg3)
  have R3 := Lib.hid (stands hg3 (by omega) (R2.out))
  clear hc3 hg3
  have z3 := D3.out.size
  go_wp2_with fail
  refine (among_lit B (u + 6) [0, 0, 5, 9990] 4 _ D3.out.cur (by omega) (by simp) rfl rfl (by omega) (by omega)).mono ?_
  rintro e w4 ⟨a4, rfl, hc4, hg4⟩
  have D4 := Lib.hid (D3.out.call hc4 hg4)
  have R4 := Lib.hid (stands hg4 (by omega) (R3.out))
  clear hc4 hg4
  have z4 := D4.out.size
  have zr : w.heap.size < w4.heap.size := (Array.getElem?_eq_some_iff.1 R4.out).1
  clear D0 D1 D2 D3 R1 R2 R3
  go_wp2_with fail
  refine (among_lit B (u + 8) [0, 1, _, _] 4 _ (D4.out.alloc _).cur (by omega) (by simp) rfl rfl (by omega) (by omega)).mono ?_
  rintro e w5 ⟨a5, rfl, hc5, hg5⟩
  have D5 := Lib.hid ((D4.out.alloc _).call hc5 hg5)
  have R5 := Lib.hid (stands hg5 (by omega) ((Below.heap_alloc _ _ _ zr).trans R4.out))
  have T5 := Lib.hid (stands hg5 (by omega) (heap_alloc_new w4 _))
  clear hc5 hg5
  have z5 := D5.out.size
  have rh := R5.out; have r0 := cell_of_row w5 (w.heap.size) 0 _ _ _ rh; simp at r0; have rf0 := frozen_of_row w5 (w.heap.size) 0 _ _ rh; have r1 := cell_of_row w5 (w.heap.size) 1 _ _ _ rh; simp at r1; have rf1 := frozen_of_row w5 (w.heap.size) 1 _ _ rh; have r2 := cell_of_row w5 (w.heap.size) 2 _ _ _ rh; simp at r2; have rf2 := frozen_of_row w5 (w.heap.size) 2 _ _ rh; have r3 := cell_of_row w5 (w.heap.size) 3 _ _ _ rh; simp at r3; have rf3 := frozen_of_row w5 (w.heap.size) 3 _ _ rh; have r4 := cell_of_row w5 (w.heap.size) 4 _ _ _ rh; simp at r4; have rf4 := frozen_of_row w5 (w.heap.size) 4 _ _ rh; clear rh
  have th := T5.out; have t0 := cell_of_row w5 (w4.heap.size) 0 _ _ _ th; simp at t0; have tf0 := frozen_of_row w5 (w4.heap.size) 0 _ _ th; have t1 := cell_of_row w5 (w4.heap.size) 1 _ _ _ th; simp at t1; have tf1 := frozen_of_row w5 (w4.heap.size) 1 _ _ th; have t2 := cell_of_row w5 (w4.heap.size) 2 _ _ _ th; simp at t2; have tf2 := frozen_of_row w5 (w4.heap.size) 2 _ _ th; have t3 := cell_of_row w5 (w4.heap.size) 3 _ _ _ th; simp at t3; have tf3 := frozen_of_row w5 (w4.heap.size) 3 _ _ th; have t4 := cell_of_row w5 (w4.heap.size) 4 _ _ _ th; simp at t4; have tf4 := frozen_of_row w5 (w4.heap.size) 4 _ _ th; clear th
  have zr5 : w.heap.size < w5.heap.size := (Array.getElem?_eq_some_iff.1 R5.out).1
  have zt5 : w4.heap.size < w5.heap.size := (Array.getElem?_eq_some_iff.1 T5.out).1
  have ne : w.heap.size ≠ w4.heap.size := by omega
  go_wp2_with fail
  have S5 := set_at T5.out 3 (.int .i64 a5)
  have Q5 := (set_other w5 ⟨w4.heap.size, 3, none⟩ (.int .i64 a5) w.heap.size ne).trans R5.out
  have E5 := Lib.hid (D5.out.set (g := w4.heap.size) (by omega) 3 (.int .i64 a5))
  simp at S5
  refine (pick_any B (u + 10) 50 _ E5.out.cur (by omega) (by omega) (by omega)).mono ?_
  rintro e w6 ⟨k, hk, rfl, hc6, hg6⟩
  have D6 := Lib.hid (E5.out.call hc6 hg6)
  have R6 := Lib.hid (stands hg6 hlt Q5)
  have T6 := Lib.hid (stands hg6 (by omega) S5)
  clear hc6 hg6 S5 Q5 E5 R4 R5 T5 D4 D5
  clear r0 rf0 r1 rf1 r2 rf2 r3 rf3 r4 rf4 t0 tf0 t1 tf1 t2 tf2 t3 tf3 t4 tf4
  have z6 := D6.out.size
  generalize (k : Int) = kk
  by_cases h0 : kk = 0
  · subst h0
    go_wp2_with fail
    refine (among_lit B (u + 12) [0, 1001] 2 _ D6.out.cur (by omega) (by simp) rfl rfl (by omega) (by omega)).mono ?_
    rintro e w7 ⟨a7, rfl, hc7, hg7⟩
    have D7 := Lib.hid (D6.out.call hc7 hg7)
    have R7 := Lib.hid (stands hg7 (by omega) (R6.out))
    have T7 := Lib.hid (stands hg7 (by omega) (T6.out))
    clear hc7 hg7
    have z7 := D7.out.size
    have rh := R7.out; have r0 := cell_of_row w7 (w.heap.size) 0 _ _ _ rh; simp at r0; have rf0 := frozen_of_row w7 (w.heap.size) 0 _ _ rh; have r1 := cell_of_row w7 (w.heap.size) 1 _ _ _ rh; simp at r1; have rf1 := frozen_of_row w7 (w.heap.size) 1 _ _ rh; have r2 := cell_of_row w7 (w.heap.size) 2 _ _ _ rh; simp at r2; have rf2 := frozen_of_row w7 (w.heap.size) 2 _ _ rh; have r3 := cell_of_row w7 (w.heap.size) 3 _ _ _ rh; simp at r3; have rf3 := frozen_of_row w7 (w.heap.size) 3 _ _ rh; have r4 := cell_of_row w7 (w.heap.size) 4 _ _ _ rh; simp at r4; have rf4 := frozen_of_row w7 (w.heap.size) 4 _ _ rh; clear rh
    have th := T7.out; have t0 := cell_of_row w7 (w4.heap.size) 0 _ _ _ th; simp at t0; have tf0 := frozen_of_row w7 (w4.heap.size) 0 _ _ th; have t1 := cell_of_row w7 (w4.heap.size) 1 _ _ _ th; simp at t1; have tf1 := frozen_of_row w7 (w4.heap.size) 1 _ _ th; have t2 := cell_of_row w7 (w4.heap.size) 2 _ _ _ th; simp at t2; have tf2 := frozen_of_row w7 (w4.heap.size) 2 _ _ th; have t3 := cell_of_row w7 (w4.heap.size) 3 _ _ _ th; simp at t3; have tf3 := frozen_of_row w7 (w4.heap.size) 3 _ _ th; have t4 := cell_of_row w7 (w4.heap.size) 4 _ _ _ th; simp at t4; have tf4 := frozen_of_row w7 (w4.heap.size) 4 _ _ th; clear th
    have zr7 : w.heap.size < w7.heap.size := (Array.getElem?_eq_some_iff.1 R7.out).1
    have zt7 : w4.heap.size < w7.heap.size := (Array.getElem?_eq_some_iff.1 T7.out).1
    go_wp2
    refine bodyPost_ret (v := (.agg #[.int .i64 a7, .int .i64 a2, .int .i64 a3, .int .i64 a5, .int .i64 a4])) (by simp [results, Try.results65, go_sem, *]) rfl ?_
    exact ⟨⟨a7, a2, a3, a5, a4⟩, rfl, (((((((D7.out.set (by omega) _ _).set (Nat.le_refl _) _ _).set (Nat.le_refl _) _ _).set (Nat.le_refl _) _ _).set (Nat.le_refl _) _ _).set (Nat.le_refl _) _ _)).mono (by omega)⟩
  · skip
    by_cases h1 : kk = 1
    · subst h1
      go_wp2_with fail
      refine (among_lit B (u + 12) [0, 101] 2 _ D6.out.cur (by omega) (by simp) rfl rfl (by omega) (by omega)).mono ?_
      rintro e w7 ⟨a7, rfl, hc7, hg7⟩
      have D7 := Lib.hid (D6.out.call hc7 hg7)
      have R7 := Lib.hid (stands hg7 (by omega) (R6.out))
      have T7 := Lib.hid (stands hg7 (by omega) (T6.out))
      clear hc7 hg7
      have z7 := D7.out.size
      have rh := R7.out; have r0 := cell_of_row w7 (w.heap.size) 0 _ _ _ rh; simp at r0; have rf0 := frozen_of_row w7 (w.heap.size) 0 _ _ rh; have r1 := cell_of_row w7 (w.heap.size) 1 _ _ _ rh; simp at r1; have rf1 := frozen_of_row w7 (w.heap.size) 1 _ _ rh; have r2 := cell_of_row w7 (w.heap.size) 2 _ _ _ rh; simp at r2; have rf2 := frozen_of_row w7 (w.heap.size) 2 _ _ rh; have r3 := cell_of_row w7 (w.heap.size) 3 _ _ _ rh; simp at r3; have rf3 := frozen_of_row w7 (w.heap.size) 3 _ _ rh; have r4 := cell_of_row w7 (w.heap.size) 4 _ _ _ rh; simp at r4; have rf4 := frozen_of_row w7 (w.heap.size) 4 _ _ rh; clear rh
      have th := T7.out; have t0 := cell_of_row w7 (w4.heap.size) 0 _ _ _ th; simp at t0; have tf0 := frozen_of_row w7 (w4.heap.size) 0 _ _ th; have t1 := cell_of_row w7 (w4.heap.size) 1 _ _ _ th; simp at t1; have tf1 := frozen_of_row w7 (w4.heap.size) 1 _ _ th; have t2 := cell_of_row w7 (w4.heap.size) 2 _ _ _ th; simp at t2; have tf2 := frozen_of_row w7 (w4.heap.size) 2 _ _ th; have t3 := cell_of_row w7 (w4.heap.size) 3 _ _ _ th; simp at t3; have tf3 := frozen_of_row w7 (w4.heap.size) 3 _ _ th; have t4 := cell_of_row w7 (w4.heap.size) 4 _ _ _ th; simp at t4; have tf4 := frozen_of_row w7 (w4.heap.size) 4 _ _ th; clear th
      have zr7 : w.heap.size < w7.heap.size := (Array.getElem?_eq_some_iff.1 R7.out).1
      have zt7 : w4.heap.size < w7.heap.size := (Array.getElem?_eq_some_iff.1 T7.out).1
      go_wp2
      refine bodyPost_ret (v := (.agg #[.int .i64 a1, .int .i64 a7, .int .i64 a3, .int .i64 a5, .int .i64 a4])) (by simp [results, Try.results65, go_sem, *]) rfl ?_
      exact ⟨⟨a1, a7, a3, a5, a4⟩, rfl, (((((((D7.out.set (by omega) _ _).set (Nat.le_refl _) _ _).set (Nat.le_refl _) _ _).set (Nat.le_refl _) _ _).set (Nat.le_refl _) _ _).set (Nat.le_refl _) _ _)).mono (by omega)⟩
    · skip
      by_cases h2 : kk = 2
      · subst h2
        go_wp2_with fail
        refine (among_lit B (u + 12) [0, 1001] 2 _ D6.out.cur (by omega) (by simp) rfl rfl (by omega) (by omega)).mono ?_
        rintro e w7 ⟨a7, rfl, hc7, hg7⟩
        have D7 := Lib.hid (D6.out.call hc7 hg7)
        have R7 := Lib.hid (stands hg7 (by omega) (R6.out))
        have T7 := Lib.hid (stands hg7 (by omega) (T6.out))
        clear hc7 hg7
        have z7 := D7.out.size
        have rh := R7.out; have r0 := cell_of_row w7 (w.heap.size) 0 _ _ _ rh; simp at r0; have rf0 := frozen_of_row w7 (w.heap.size) 0 _ _ rh; have r1 := cell_of_row w7 (w.heap.size) 1 _ _ _ rh; simp at r1; have rf1 := frozen_of_row w7 (w.heap.size) 1 _ _ rh; have r2 := cell_of_row w7 (w.heap.size) 2 _ _ _ rh; simp at r2; have rf2 := frozen_of_row w7 (w.heap.size) 2 _ _ rh; have r3 := cell_of_row w7 (w.heap.size) 3 _ _ _ rh; simp at r3; have rf3 := frozen_of_row w7 (w.heap.size) 3 _ _ rh; have r4 := cell_of_row w7 (w.heap.size) 4 _ _ _ rh; simp at r4; have rf4 := frozen_of_row w7 (w.heap.size) 4 _ _ rh; clear rh
        have th := T7.out; have t0 := cell_of_row w7 (w4.heap.size) 0 _ _ _ th; simp at t0; have tf0 := frozen_of_row w7 (w4.heap.size) 0 _ _ th; have t1 := cell_of_row w7 (w4.heap.size) 1 _ _ _ th; simp at t1; have tf1 := frozen_of_row w7 (w4.heap.size) 1 _ _ th; have t2 := cell_of_row w7 (w4.heap.size) 2 _ _ _ th; simp at t2; have tf2 := frozen_of_row w7 (w4.heap.size) 2 _ _ th; have t3 := cell_of_row w7 (w4.heap.size) 3 _ _ _ th; simp at t3; have tf3 := frozen_of_row w7 (w4.heap.size) 3 _ _ th; have t4 := cell_of_row w7 (w4.heap.size) 4 _ _ _ th; simp at t4; have tf4 := frozen_of_row w7 (w4.heap.size) 4 _ _ th; clear th
        have zr7 : w.heap.size < w7.heap.size := (Array.getElem?_eq_some_iff.1 R7.out).1
        have zt7 : w4.heap.size < w7.heap.size := (Array.getElem?_eq_some_iff.1 T7.out).1
        go_wp2
        refine bodyPost_ret (v := (.agg #[.int .i64 a1, .int .i64 a2, .int .i64 a7, .int .i64 a5, .int .i64 a4])) (by simp [results, Try.results65, go_sem, *]) rfl ?_
        exact ⟨⟨a1, a2, a7, a5, a4⟩, rfl, (((((((D7.out.set (by omega) _ _).set (Nat.le_refl _) _ _).set (Nat.le_refl _) _ _).set (Nat.le_refl _) _ _).set (Nat.le_refl _) _ _).set (Nat.le_refl _) _ _)).mono (by omega)⟩
      · skip
        by_cases h3 : kk = 3
        · subst h3
          have rh := R6.out; have r0 := cell_of_row w6 (w.heap.size) 0 _ _ _ rh; simp at r0; have rf0 := frozen_of_row w6 (w.heap.size) 0 _ _ rh; have r1 := cell_of_row w6 (w.heap.size) 1 _ _ _ rh; simp at r1; have rf1 := frozen_of_row w6 (w.heap.size) 1 _ _ rh; have r2 := cell_of_row w6 (w.heap.size) 2 _ _ _ rh; simp at r2; have rf2 := frozen_of_row w6 (w.heap.size) 2 _ _ rh; have r3 := cell_of_row w6 (w.heap.size) 3 _ _ _ rh; simp at r3; have rf3 := frozen_of_row w6 (w.heap.size) 3 _ _ rh; have r4 := cell_of_row w6 (w.heap.size) 4 _ _ _ rh; simp at r4; have rf4 := frozen_of_row w6 (w.heap.size) 4 _ _ rh; clear rh
          have th := T6.out; have t0 := cell_of_row w6 (w4.heap.size) 0 _ _ _ th; simp at t0; have tf0 := frozen_of_row w6 (w4.heap.size) 0 _ _ th; have t1 := cell_of_row w6 (w4.heap.size) 1 _ _ _ th; simp at t1; have tf1 := frozen_of_row w6 (w4.heap.size) 1 _ _ th; have t2 := cell_of_row w6 (w4.heap.size) 2 _ _ _ th; simp at t2; have tf2 := frozen_of_row w6 (w4.heap.size) 2 _ _ th; have t3 := cell_of_row w6 (w4.heap.size) 3 _ _ _ th; simp at t3; have tf3 := frozen_of_row w6 (w4.heap.size) 3 _ _ th; have t4 := cell_of_row w6 (w4.heap.size) 4 _ _ _ th; simp at t4; have tf4 := frozen_of_row w6 (w4.heap.size) 4 _ _ th; clear th
          have zr6 : w.heap.size < w6.heap.size := (Array.getElem?_eq_some_iff.1 R6.out).1
          have zt6 : w4.heap.size < w6.heap.size := (Array.getElem?_eq_some_iff.1 T6.out).1
          go_wp2_with fail
          refine (among_lit B (u + 12) [-1, _] 2 _ D6.out.cur (by omega) (by simp) rfl rfl (by omega) (by omega)).mono ?_
          rintro e w7 ⟨a7, rfl, hc7, hg7⟩
          have D7 := Lib.hid (D6.out.call hc7 hg7)
          have R7 := Lib.hid (stands hg7 (by omega) (R6.out))
          have T7 := Lib.hid (stands hg7 (by omega) (T6.out))
          clear hc7 hg7 r0 rf0 r1 rf1 r2 rf2 r3 rf3 r4 rf4 t0 tf0 t1 tf1 t2 tf2 t3 tf3 t4 tf4
          have z7 := D7.out.size
          have rh := R7.out; have r0 := cell_of_row w7 (w.heap.size) 0 _ _ _ rh; simp at r0; have rf0 := frozen_of_row w7 (w.heap.size) 0 _ _ rh; have r1 := cell_of_row w7 (w.heap.size) 1 _ _ _ rh; simp at r1; have rf1 := frozen_of_row w7 (w.heap.size) 1 _ _ rh; have r2 := cell_of_row w7 (w.heap.size) 2 _ _ _ rh; simp at r2; have rf2 := frozen_of_row w7 (w.heap.size) 2 _ _ rh; have r3 := cell_of_row w7 (w.heap.size) 3 _ _ _ rh; simp at r3; have rf3 := frozen_of_row w7 (w.heap.size) 3 _ _ rh; have r4 := cell_of_row w7 (w.heap.size) 4 _ _ _ rh; simp at r4; have rf4 := frozen_of_row w7 (w.heap.size) 4 _ _ rh; clear rh
          have th := T7.out; have t0 := cell_of_row w7 (w4.heap.size) 0 _ _ _ th; simp at t0; have tf0 := frozen_of_row w7 (w4.heap.size) 0 _ _ th; have t1 := cell_of_row w7 (w4.heap.size) 1 _ _ _ th; simp at t1; have tf1 := frozen_of_row w7 (w4.heap.size) 1 _ _ th; have t2 := cell_of_row w7 (w4.heap.size) 2 _ _ _ th; simp at t2; have tf2 := frozen_of_row w7 (w4.heap.size) 2 _ _ th; have t3 := cell_of_row w7 (w4.heap.size) 3 _ _ _ th; simp at t3; have tf3 := frozen_of_row w7 (w4.heap.size) 3 _ _ th; have t4 := cell_of_row w7 (w4.heap.size) 4 _ _ _ th; simp at t4; have tf4 := frozen_of_row w7 (w4.heap.size) 4 _ _ th; clear th
          have zr7 : w.heap.size < w7.heap.size := (Array.getElem?_eq_some_iff.1 R7.out).1
          have zt7 : w4.heap.size < w7.heap.size := (Array.getElem?_eq_some_iff.1 T7.out).1
          go_wp2
          refine bodyPost_ret (v := (.agg #[.int .i64 a1, .int .i64 a2, .int .i64 a3, .int .i64 a7, .int .i64 a4])) (by simp [results, Try.results65, go_sem, *]) rfl ?_
          exact ⟨⟨a1, a2, a3, a7, a4⟩, rfl, (((((((D7.out.set (by omega) _ _).set (Nat.le_refl _) _ _).set (Nat.le_refl _) _ _).set (Nat.le_refl _) _ _).set (Nat.le_refl _) _ _).set (Nat.le_refl _) _ _)).mono (by omega)⟩
        · skip
          by_cases h4 : kk = 4
          · subst h4
            go_wp2_with fail
            refine (among_lit B (u + 12) [-1, 10001, 10000] 3 _ D6.out.cur (by omega) (by simp) rfl rfl (by omega) (by omega)).mono ?_
            rintro e w7 ⟨a7, rfl, hc7, hg7⟩
            have D7 := Lib.hid (D6.out.call hc7 hg7)
            have R7 := Lib.hid (stands hg7 (by omega) (R6.out))
            have T7 := Lib.hid (stands hg7 (by omega) (T6.out))
            clear hc7 hg7
            have z7 := D7.out.size
            have rh := R7.out; have r0 := cell_of_row w7 (w.heap.size) 0 _ _ _ rh; simp at r0; have rf0 := frozen_of_row w7 (w.heap.size) 0 _ _ rh; have r1 := cell_of_row w7 (w.heap.size) 1 _ _ _ rh; simp at r1; have rf1 := frozen_of_row w7 (w.heap.size) 1 _ _ rh; have r2 := cell_of_row w7 (w.heap.size) 2 _ _ _ rh; simp at r2; have rf2 := frozen_of_row w7 (w.heap.size) 2 _ _ rh; have r3 := cell_of_row w7 (w.heap.size) 3 _ _ _ rh; simp at r3; have rf3 := frozen_of_row w7 (w.heap.size) 3 _ _ rh; have r4 := cell_of_row w7 (w.heap.size) 4 _ _ _ rh; simp at r4; have rf4 := frozen_of_row w7 (w.heap.size) 4 _ _ rh; clear rh
            have th := T7.out; have t0 := cell_of_row w7 (w4.heap.size) 0 _ _ _ th; simp at t0; have tf0 := frozen_of_row w7 (w4.heap.size) 0 _ _ th; have t1 := cell_of_row w7 (w4.heap.size) 1 _ _ _ th; simp at t1; have tf1 := frozen_of_row w7 (w4.heap.size) 1 _ _ th; have t2 := cell_of_row w7 (w4.heap.size) 2 _ _ _ th; simp at t2; have tf2 := frozen_of_row w7 (w4.heap.size) 2 _ _ th; have t3 := cell_of_row w7 (w4.heap.size) 3 _ _ _ th; simp at t3; have tf3 := frozen_of_row w7 (w4.heap.size) 3 _ _ th; have t4 := cell_of_row w7 (w4.heap.size) 4 _ _ _ th; simp at t4; have tf4 := frozen_of_row w7 (w4.heap.size) 4 _ _ th; clear th
            have zr7 : w.heap.size < w7.heap.size := (Array.getElem?_eq_some_iff.1 R7.out).1
            have zt7 : w4.heap.size < w7.heap.size := (Array.getElem?_eq_some_iff.1 T7.out).1
            go_wp2
            refine bodyPost_ret (v := (.agg #[.int .i64 a1, .int .i64 a2, .int .i64 a3, .int .i64 a5, .int .i64 a7])) (by simp [results, Try.results65, go_sem, *]) rfl ?_
            exact ⟨⟨a1, a2, a3, a5, a7⟩, rfl, (((((((D7.out.set (by omega) _ _).set (Nat.le_refl _) _ _).set (Nat.le_refl _) _ _).set (Nat.le_refl _) _ _).set (Nat.le_refl _) _ _).set (Nat.le_refl _) _ _)).mono (by omega)⟩
          · skip
            have rh := R6.out; have r0 := cell_of_row w6 (w.heap.size) 0 _ _ _ rh; simp at r0; have rf0 := frozen_of_row w6 (w.heap.size) 0 _ _ rh; have r1 := cell_of_row w6 (w.heap.size) 1 _ _ _ rh; simp at r1; have rf1 := frozen_of_row w6 (w.heap.size) 1 _ _ rh; have r2 := cell_of_row w6 (w.heap.size) 2 _ _ _ rh; simp at r2; have rf2 := frozen_of_row w6 (w.heap.size) 2 _ _ rh; have r3 := cell_of_row w6 (w.heap.size) 3 _ _ _ rh; simp at r3; have rf3 := frozen_of_row w6 (w.heap.size) 3 _ _ rh; have r4 := cell_of_row w6 (w.heap.size) 4 _ _ _ rh; simp at r4; have rf4 := frozen_of_row w6 (w.heap.size) 4 _ _ rh; clear rh
            have th := T6.out; have t0 := cell_of_row w6 (w4.heap.size) 0 _ _ _ th; simp at t0; have tf0 := frozen_of_row w6 (w4.heap.size) 0 _ _ th; have t1 := cell_of_row w6 (w4.heap.size) 1 _ _ _ th; simp at t1; have tf1 := frozen_of_row w6 (w4.heap.size) 1 _ _ th; have t2 := cell_of_row w6 (w4.heap.size) 2 _ _ _ th; simp at t2; have tf2 := frozen_of_row w6 (w4.heap.size) 2 _ _ th; have t3 := cell_of_row w6 (w4.heap.size) 3 _ _ _ th; simp at t3; have tf3 := frozen_of_row w6 (w4.heap.size) 3 _ _ th; have t4 := cell_of_row w6 (w4.heap.size) 4 _ _ _ th; simp at t4; have tf4 := frozen_of_row w6 (w4.heap.size) 4 _ _ th; clear th
            have zr6 : w.heap.size < w6.heap.size := (Array.getElem?_eq_some_iff.1 R6.out).1
            have zt6 : w4.heap.size < w6.heap.size := (Array.getElem?_eq_some_iff.1 T6.out).1
            go_wp2
            refine bodyPost_ret (v := (.agg #[.int .i64 a1, .int .i64 a2, .int .i64 a3, .int .i64 a5, .int .i64 a4])) (by simp [results, Try.results65, go_sem, *]) rfl ?_
            exact ⟨⟨a1, a2, a3, a5, a4⟩, rfl, ((((((D6.out.set (Nat.le_refl _) _ _).set (Nat.le_refl _) _ _).set (Nat.le_refl _) _ _).set (Nat.le_refl _) _ _).set (Nat.le_refl _) _ _)).mono (by omega)⟩
end Go.Proofs.Ytgmccafmopgjaaa
