/- Contracts of the reference's drawings for the laws on counters: each answers SOME lists of counters, names, numbers, in new memory. -/
import Derived.Test.YtmochhgmhhopoaaDoorCtDraw
import Derived.Deep.DeepCutAuto
namespace Go.Proofs.YtmochhgmhhopoaaDoor
open Go.RowKit

def SomeCC (w : World) (e : Ending) (w' : World) : Prop := ∃ va vb xs ys, e = .returned (.tuple #[va, vb]) ∧ OwCt w.heap.size w' va xs ∧ OwCt w.heap.size w' vb ys ∧ Nms xs ∧ Nms ys ∧ Below w.heap.size w w'
def SomeCI (w : World) (e : Ending) (w' : World) : Prop := ∃ va xs, ∃ n : Int, e = .returned (.tuple #[va, .int .i64 n]) ∧ OwCt w.heap.size w' va xs ∧ Nms xs ∧ Below w.heap.size w w'
def SomeCS (w : World) (e : Ending) (w' : World) : Prop := ∃ va xs, ∃ t : ByteArray, e = .returned (.tuple #[va, .string t]) ∧ OwCt w.heap.size w' va xs ∧ Nms xs ∧ t.size ≤ 21 ∧ Below w.heap.size w w'
theorem drawAdd_any (v : Value) (bs : List Int) (w : World) (h : RdY w v bs) :
    Calls Tryd.prog 43 #[v] w (SomeCC w) := by
  obtain ⟨p, cap, b, off, rfl, _, _, _⟩ := h.parts
  have HC := Lib.hid (cur_new w _ bs h); clear h
  go_enter Tryd.func43, Tryd.ntmps43
  go_wp2_with fail
  refine (counters_any w.heap.size 0 _ HC.out (by omega)).mono ?_
  rintro e w1 ⟨v1, xs, rfl, o1, _, n1, d1⟩
  have HO := Lib.hid o1; clear o1
  have HD := Lib.hid d1; clear d1
  go_wp2_with fail
  refine (counters_any w.heap.size _ _ HD.out.cur (by omega)).mono ?_
  rintro e w2 ⟨v2, ys, rfl, o2, _, n2, d2⟩
  have HD2 := Lib.hid (HD.out.call d2.cur d2.grown)
  have z1 := HD.out.size
  have HO1 := Lib.hid ((HO.out.grown d2.grown (HO.out.neB (by simp))).base (B' := w.heap.size) (by simp))
  have HO2 := Lib.hid (o2.base (B' := w.heap.size) (by simp at z1; omega))
  clear o2 d2 HO HD
  go_wp2
  refine bodyPost_ret (v := (.tuple #[v1, v2])) (by simp [results, Tryd.results43, go_sem, *]) rfl ?_
  exact ⟨v1, v2, xs, ys, rfl, HO1.out, HO2.out, n1, n2, new_dr HD2.out⟩
theorem drawChg_any (v : Value) (bs : List Int) (w : World) (h : RdY w v bs) :
    Calls Tryd.prog 46 #[v] w (SomeCC w) := by
  have H := Lib.hid (drawAdd_any v bs w h)
  obtain ⟨p, cap, b, off, rfl, _, _, _⟩ := h.parts
  clear h
  go_enter Tryd.func46, Tryd.ntmps46
  go_wp2_with fail
  refine H.out.mono ?_
  rintro e w1 ⟨v1, v2, xs, ys, rfl, o1, o2, n1, n2, hb⟩
  go_wp2
  refine bodyPost_ret (v := (.tuple #[v1, v2])) (by simp [results, Tryd.results46, go_sem, *]) rfl ?_
  exact ⟨v1, v2, xs, ys, rfl, o1, o2, n1, n2, hb⟩
theorem drawOf_any (v : Value) (bs : List Int) (w : World) (h : RdY w v bs) :
    Calls Tryd.prog 48 #[v] w (SomeCS w) := by
  obtain ⟨p, cap, b, off, rfl, _, _, _⟩ := h.parts
  have HC := Lib.hid (cur_new w _ bs h); clear h
  go_enter Tryd.func48, Tryd.ntmps48
  go_wp2_with fail
  refine (counters_any w.heap.size 0 _ HC.out (by omega)).mono ?_
  rintro e w1 ⟨v1, xs, rfl, o1, _, n1, d1⟩
  have HO := Lib.hid o1; clear o1
  have HD := Lib.hid d1; clear d1
  go_wp2_with fail
  refine (cname_draw w.heap.size _ _ HD.out.cur (by omega)).mono ?_
  rintro e w2 ⟨nm, hnm, rfl, hc2, hg2⟩
  have HD2 := Lib.hid (HD.out.call hc2 hg2)
  have HO1 := Lib.hid ((HO.out.grown hg2 (HO.out.neB (by simp))).base (B' := w.heap.size) (by simp))
  clear hc2 hg2 HO HD
  go_wp2
  refine bodyPost_ret (v := (.tuple #[v1, .string nm])) (by simp [results, Tryd.results48, go_sem, *]) rfl ?_
  exact ⟨v1, xs, nm, rfl, HO1.out, n1, hnm, new_dr HD2.out⟩
def litTop : List Int := [0, 1, 2, 5, 12, -1, 13]
set_option maxHeartbeats 2000000 in
theorem drawTop_any (v : Value) (bs : List Int) (w : World) (h : RdY w v bs) :
    Calls Tryd.prog 47 #[v] w (SomeCI w) := by
  obtain ⟨p, cap, b, off, rfl, _, _, _⟩ := h.parts
  have HC := Lib.hid (cur_new w _ bs h); clear h
  go_enter Tryd.func47, Tryd.ntmps47
  go_wp2_with fail
  refine (counters_any w.heap.size 0 _ HC.out (by omega)).mono ?_
  rintro e w1 ⟨v1, xs, rfl, o1, _, n1, d1⟩
  have HO := Lib.hid o1; clear o1
  have HD := Lib.hid d1; clear d1
  have z1 := HD.out.size
  have hB := HD.out.lt
  go_wp2_with fail
  refine (pick_any w.heap.size _ 24 _ (HD.out.alloc _).cur (by omega) (by omega) (by omega)).mono ?_
  rintro e w2 ⟨k, hk, rfl, hc2, hg2⟩
  have HR := Lib.hid ((lit_rd w1 litTop 7 rfl (5 + k / 11) (by omega) (by omega)).grown hg2 (.inr (by simp [Value.ownBlock]; simp at z1; omega)))
  have HD2 := Lib.hid ((HD.out.alloc _).call hc2 hg2)
  have HO2 := Lib.hid ((HO.out.below (below_alloc1 _ _)).grown hg2 (HO.out.neB (by simp)))
  clear hc2 hg2 HO HD
  go_wp2_with fail
  refine (among_any w.heap.size _ _ (litTop.take (5 + k / 11)) _ HD2.out.cur (by omega) HR.out (by simp [litTop]; omega) (.inr (by simp [Value.ownBlock]; simp at z1; omega))).mono ?_
  rintro e w3 ⟨n, _, rfl, hc3, hg3⟩
  have HD3 := Lib.hid (HD2.out.call hc3 hg3)
  have HO3 := Lib.hid ((HO2.out.grown hg3 (HO2.out.neB (by simp))).base (B' := w.heap.size) (by simp))
  clear hc3 hg3 HO2 HD2 HR
  go_wp2
  refine bodyPost_ret (v := (.tuple #[v1, .int .i64 n])) (by simp [results, Tryd.results47, go_sem, *]) rfl ?_
  exact ⟨v1, xs, n, rfl, HO3.out, n1, new_dr HD3.out⟩
end Go.Proofs.YtmochhgmhhopoaaDoor
