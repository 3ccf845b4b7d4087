/- Contracts of the reference's drawings for the laws on scripts: each answers SOME scripts (nothing more is needed), reading at most 65536 bytes. -/
import Derived.Test.YtgmccafmopgjaaaGreatDoorSDraw
import Derived.Test.YtgmccafmopgjaaaGreatDoorDrawNew
namespace Go.Proofs.YtgmccafmopgjaaaGreatDoor
open Go.RowKit

theorem flatSt_set3 (xs : List St) (k : Nat) (a b : Int) (c : ByteArray) (h : k < xs.length) : (((xs.flatMap St.cells).set (k * 3) (.int .i64 a)).set (k * 3 + 1) (.int .i64 b)).set (k * 3 + 2) (.string c) = (xs.set k ⟨a, b, c⟩).flatMap St.cells := by
  induction xs generalizing k with
  | nil => simp at h
  | cons x r ih =>
    obtain ⟨p, q, s⟩ := x
    cases k with
    | zero => rfl
    | succ k =>
      have h' := ih k (by simpa using h)
      show (((.int .i64 p :: .int .i64 q :: .string s :: r.flatMap St.cells).set ((k + 1) * 3) _).set ((k + 1) * 3 + 1) _).set ((k + 1) * 3 + 2) _ = _
      rw [show (k + 1) * 3 = k * 3 + 1 + 1 + 1 from by omega]
      simp only [List.set_cons_succ, show k * 3 + 1 + 1 + 1 + 1 = (k * 3 + 1) + 1 + 1 + 1 from rfl, show k * 3 + 1 + 1 + 1 + 2 = (k * 3 + 2) + 1 + 1 + 1 from rfl]
      rw [h']; rfl
def SomeScN (w : World) (e : Ending) (w' : World) : Prop := ∃ v xs, e = .returned v ∧ OwSt w.heap.size w' v xs ∧ xs.length ≤ 31 ∧ Sm xs ∧ Below w.heap.size w w'
def SomeScI (w : World) (e : Ending) (w' : World) : Prop := ∃ v xs n, e = .returned (.tuple #[v, .int .i64 n]) ∧ OwSt w.heap.size w' v xs ∧ xs.length ≤ 31 ∧ Sm xs ∧ Below w.heap.size w w'
def SomeScS (w : World) (e : Ending) (w' : World) : Prop := ∃ v u xs ys, e = .returned (.tuple #[v, u]) ∧ OwSt w.heap.size w' v xs ∧ OwSt w.heap.size w' u ys ∧ xs.length ≤ 31 ∧ ys.length ≤ 31 ∧ Sm xs ∧ Sm ys ∧ Below w.heap.size w w'
def litTimes : List Int := [0, 1, 2, 5, 30, -1, 31]
set_option maxRecDepth 100000 in
set_option maxHeartbeats 8000000 in
theorem drawScript_any (v : Value) (bs : List Int) (w : World) (h : RdY w v bs) :
    Calls Tryz.prog 37 #[v] w (SomeScN w) := by
  obtain ⟨i0, hi, hz0, hz1, hz2⟩ := info_parts infoSt
  obtain ⟨p, cap, b, off, rfl, _, _, _⟩ := h.parts
  have HC := Lib.hid (cur_new w _ bs h); clear h
  go_enter Tryz.func37, Tryz.ntmps37
  go_wp2_with fail
  refine (script16_any w.heap.size 0 _ HC.out (by omega)).mono ?_
  rintro e w1 ⟨va, xs, rfl, oa, hl, sa, d⟩
  have OA : Hid (OwSt (w.heap.size + 1) w1 va xs) := Lib.hid (oa.base (by simp))
  have SA := Lib.hid sa
  have D0 : Hid (Dn w w1 1000) := Lib.hid ⟨_, d.mono (by omega)⟩
  clear oa sa d HC
  go_wp2
  refine bodyPost_ret (v := va) (by simp [results, Tryz.results37, go_sem, *]) rfl ?_
  exact ⟨va, xs, rfl, OA.out.base (Nat.le_succ _), hl, SA.out, D0.out.below⟩
set_option maxRecDepth 100000 in
set_option maxHeartbeats 1000000 in
theorem drawScriptText_any (v : Value) (bs : List Int) (w : World) (h : RdY w v bs) :
    Calls Tryz.prog 12 #[v] w (SomeScN w) := by
  go_enter Tryz.func12, Tryz.ntmps12
  go_wp2_with fail
  refine (drawScript_any v bs w h).mono ?_
  rintro e w1 ⟨va, xs, rfl, oa, hl, sa, b1⟩
  go_wp2
  refine bodyPost_ret (v := va) (by simp [results, Tryz.results12, go_sem, *]) rfl ?_
  exact ⟨va, xs, rfl, oa, hl, sa, b1⟩
set_option maxRecDepth 100000 in
set_option maxHeartbeats 1000000 in
theorem drawCalmScript_any (v : Value) (bs : List Int) (w : World) (h : RdY w v bs) :
    Calls Tryz.prog 20 #[v] w (SomeScN w) := by
  go_enter Tryz.func20, Tryz.ntmps20
  go_wp2_with fail
  refine (drawScript_any v bs w h).mono ?_
  rintro e w1 ⟨va, xs, rfl, oa, hl, sa, b1⟩
  go_wp2
  refine bodyPost_ret (v := va) (by simp [results, Tryz.results20, go_sem, *]) rfl ?_
  exact ⟨va, xs, rfl, oa, hl, sa, b1⟩
end Go.Proofs.YtgmccafmopgjaaaGreatDoor
