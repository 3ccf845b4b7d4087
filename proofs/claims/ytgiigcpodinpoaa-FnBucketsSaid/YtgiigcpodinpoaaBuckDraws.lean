/- Contracts of the reference's drawings for the laws on buckets: each answers some bucket and some load (or numbers), in new memory. -/
import Derived.Test.YtgiigcpodinpoaaBuckDraw
import Derived.Deep.RegionWith
import Derived.Deep.DeepCutAuto
namespace Go.Proofs.Ytgiigcpodinpoaa
open Go.RowKit

theorem new_dr {w w' : World} {o : Obj} {u : Nat} (h : Dr (w.alloc o) w' w.heap.size u) : Below w.heap.size w w' := new_grown h.grown
def SomeBL (w : World) (e : Ending) (w' : World) : Prop := ∃ (k : Bk) (x : Ld), e = .returned (.tuple #[k.v, x.v]) ∧ Below w.heap.size w w'
def SomeBI (w : World) (e : Ending) (w' : World) : Prop := ∃ (k : Bk) (n : Int), e = .returned (.tuple #[k.v, .int .i64 n]) ∧ Below w.heap.size w w'
def SomeIII (w : World) (e : Ending) (w' : World) : Prop := ∃ a b c : Int, e = .returned (.tuple #[.int .i64 a, .int .i64 b, .int .i64 c]) ∧ Below w.heap.size w w'

set_option maxRecDepth 100000 in
set_option maxHeartbeats 2000000 in
theorem drawFull_any (v : Value) (bs : List Int) (w : World) (h : RdY w v bs) :
    Calls Try.prog 44 #[v] w (SomeIII w) := by
  obtain ⟨p, cap, b, off, rfl, _, _, _⟩ := h.parts
  have HC := Lib.hid (cur_new w _ bs h); clear h
  go_enter Try.func44, Try.ntmps44
  go_wp2_with fail
  refine (bucket_any w.heap.size 0 _ HC.out (by omega)).mono ?_
  rintro e w1 ⟨k, rfl, D1⟩
  have HD := Lib.hid (new_dr D1); clear D1
  obtain ⟨n, d, b, l, t⟩ := k
  go_wp2_with fail
  go_quiet (fail)
  go_wp2
  refine bodyPost_ret (v := (.tuple #[.int .i64 n, .int .i64 d, .int .i64 b])) (by simp [results, Try.results44, go_sem, *]) rfl ?_
  exact ⟨_, _, _, rfl, by have := HD.out.size; first | exact below_drewN (HD.out.alloc (by omega) _) _ | exact HD.out.alloc (by omega) _⟩

/-- A block that is not the reader's stands behind a drawing. -/
theorem later {w1 W w2 : World} {B u g : Nat} {x : Obj} (hb : Below w1.heap.size w1 W) (D : Dr W w2 B u) (hne : g ≠ B) (h : w1.heap[g]? = some x) : w2.heap[g]? = some x :=
  have hlt := (Array.getElem?_eq_some_iff.1 h).1
  (D.grown.block g (Nat.lt_of_lt_of_le hlt hb.size) (fun e => hne (Option.some.inj e))).trans ((hb.block g hlt).trans h)
theorem heap_alloc3_0 (w : World) (a b c : Obj) : (((w.alloc a).alloc b).alloc c).heap[w.heap.size]? = some a := (Below.heap_alloc _ _ _ (by simp; omega)).trans (heap_alloc2_old w a b)
theorem heap_alloc3_1 (w : World) (a b c : Obj) : (((w.alloc a).alloc b).alloc c).heap[w.heap.size + 1]? = some b := (Below.heap_alloc _ _ _ (by simp)).trans (heap_alloc2_new w a b)
theorem Dr.mk' {w w' : World} {B u : Nat} (hc : Cur w' B u) (hg : w.grownBy w' (some B)) (hl : B < w.heap.size) : Dr w w' B u := ⟨hc, hg, hl⟩
/-- A drawing in a world that has come of w by growth alone, with a reader of its own. -/
theorem dr_below {w W w' : World} {B u : Nat} (D : Dr W w' B u) (hb : Below w.heap.size w W) (hB : w.heap.size ≤ B) : Below w.heap.size w w' := below_of_grown hb D.grown hB

set_option maxRecDepth 100000 in
set_option maxHeartbeats 4000000 in
theorem drawTake_any (v : Value) (bs : List Int) (w : World) (h : RdY w v bs) :
    Calls Try.prog 70 #[v] w (SomeBL w) := by
  obtain ⟨p, cap, b, off, rfl, _, _, _⟩ := h.parts
  have hC := cur_new ((w.alloc (.cells #[.int .i64 0, .int .i64 0, .int .i64 0, .int .i64 0, .int .i64 0] 25)).alloc (.cells #[.int .i64 0, .int .i64 0] 40)) _ bs (h.below (by go_grown))
  rw [show ((w.alloc (.cells #[.int .i64 0, .int .i64 0, .int .i64 0, .int .i64 0, .int .i64 0] 25)).alloc (.cells #[.int .i64 0, .int .i64 0] 40)).heap.size = w.heap.size + 1 + 1 by simp] at hC
  have HC := Lib.hid hC; clear h hC
  go_enter Try.func70, Try.ntmps70
  go_wp2_with fail
  refine (bucket_any (w.heap.size + 1 + 1) 0 _ HC.out (by omega)).mono ?_
  rintro e w1 ⟨k, rfl, D1⟩
  have HD1 := Lib.hid D1
  have HR1 : Hid (w1.heap[w.heap.size]? = some (.cells #[.int .i64 0, .int .i64 0, .int .i64 0, .int .i64 0, .int .i64 0] 25)) := Lib.hid (later (Below.refl _ _) D1 (by omega) (heap_alloc3_0 w _ _ _))
  have HL1 : Hid (w1.heap[w.heap.size + 1]? = some (.cells #[.int .i64 0, .int .i64 0] 40)) := Lib.hid (later (Below.refl _ _) D1 (by omega) (heap_alloc3_1 w _ _ _))
  have HB1 := Lib.hid (dr_below (w := w) D1 (by go_grown) (by omega))
  have z1 : w.heap.size + 1 + 1 < w1.heap.size := D1.cur.lt
  clear D1 HC
  obtain ⟨n, d, b, l, t⟩ := k
  go_upto_region 3 with fail
  go_region_with (go_at_call 82; refine (load_any (w.heap.size + 1 + 1) (0 + 14) t _ (HD1.out.cur.below (by go_grown)) (by omega)).mono ?_; rintro e w2 ⟨⟨xt, xs⟩, rfl, D2⟩; have hR2 := later (w1 := w1) (by go_grown) D2 (by omega) HR1.out; have hL2 := later (w1 := w1) (by go_grown) D2 (by omega) HL1.out; have hK2 := later (w1 := w1.alloc (.cells #[.int .i64 n, .int .i64 d, .int .i64 b, .int .i64 l, .int .i64 t] 25)) (by go_grown) D2 (by omega) (heap_alloc_new w1 _); have HB2 := Lib.hid (dr_below (w := w) D2 (HB1.out.trans (Below.mono (by go_grown) HB1.out.size)) (by omega)); have z2 := (Array.getElem?_eq_some_iff.1 hK2).1; clear D2; have rh := hR2; have r0 := cell_of_row w2 (w.heap.size) 0 _ _ _ rh; simp at r0; have rf0 := frozen_of_row w2 (w.heap.size) 0 _ _ rh; have r1 := cell_of_row w2 (w.heap.size) 1 _ _ _ rh; simp at r1; have rf1 := frozen_of_row w2 (w.heap.size) 1 _ _ rh; have r2 := cell_of_row w2 (w.heap.size) 2 _ _ _ rh; simp at r2; have rf2 := frozen_of_row w2 (w.heap.size) 2 _ _ rh; have r3 := cell_of_row w2 (w.heap.size) 3 _ _ _ rh; simp at r3; have rf3 := frozen_of_row w2 (w.heap.size) 3 _ _ rh; have r4 := cell_of_row w2 (w.heap.size) 4 _ _ _ rh; simp at r4; have rf4 := frozen_of_row w2 (w.heap.size) 4 _ _ rh; clear rh; have lh := hL2; have l0 := cell_of_row w2 (w.heap.size + 1) 0 _ _ _ lh; simp at l0; have lf0 := frozen_of_row w2 (w.heap.size + 1) 0 _ _ lh; have l1 := cell_of_row w2 (w.heap.size + 1) 1 _ _ _ lh; simp at l1; have lf1 := frozen_of_row w2 (w.heap.size + 1) 1 _ _ lh; clear lh; have kh := hK2; have k0 := cell_of_row w2 (w1.heap.size) 0 _ _ _ kh; simp at k0; have kf0 := frozen_of_row w2 (w1.heap.size) 0 _ _ kh; have k1 := cell_of_row w2 (w1.heap.size) 1 _ _ _ kh; simp at k1; have kf1 := frozen_of_row w2 (w1.heap.size) 1 _ _ kh; have k2 := cell_of_row w2 (w1.heap.size) 2 _ _ _ kh; simp at k2; have kf2 := frozen_of_row w2 (w1.heap.size) 2 _ _ kh; have k3 := cell_of_row w2 (w1.heap.size) 3 _ _ _ kh; simp at k3; have kf3 := frozen_of_row w2 (w1.heap.size) 3 _ _ kh; have k4 := cell_of_row w2 (w1.heap.size) 4 _ _ _ kh; simp at k4; have kf4 := frozen_of_row w2 (w1.heap.size) 4 _ _ kh; clear kh; have zr : w.heap.size < w2.heap.size := (by omega); have zl : w.heap.size + 1 < w2.heap.size := (by omega); clear hR2 hL2 hK2)
  all_goals
    have HR := Lib.hid HB2.out
    go_wp2
    refine bodyPost_ret (v := (.tuple #[.agg #[.int .i64 n, .int .i64 d, .int .i64 b, .int .i64 l, .int .i64 t], .agg #[.int .i64 xt, .int .i64 xs]])) (by simp [results, Try.results70, go_sem, *]) rfl ?_
    refine ⟨⟨n, d, b, l, t⟩, ⟨xt, xs⟩, rfl, ?_⟩
    repeat refine Below.setCell ?_ (by simp) _
    exact HR.out

set_option maxRecDepth 100000 in
set_option maxHeartbeats 2000000 in
theorem drawTicks_any (v : Value) (bs : List Int) (w : World) (h : RdY w v bs) :
    Calls Try.prog 41 #[v] w (SomeBL w) := by
  have HC := Lib.hid (drawTake_any v bs ((w.alloc (.cells #[.int .i64 0, .int .i64 0, .int .i64 0, .int .i64 0, .int .i64 0] 25)).alloc (.cells #[.int .i64 0, .int .i64 0] 40)) (h.below (by go_grown)))
  obtain ⟨p, cap, b, off, rfl, _, _, _⟩ := h.parts
  clear h
  go_enter Try.func41, Try.ntmps41
  go_wp2_with fail
  refine HC.out.mono ?_
  rintro e w1 ⟨⟨n, d, b, l, t⟩, ⟨xt, xs⟩, rfl, D1⟩
  have hR := (D1.block w.heap.size (by simp; omega)).trans (heap_alloc2_old w _ _)
  have hL := (D1.block (w.heap.size + 1) (by simp)).trans (heap_alloc2_new w _ _)
  have HB1 := Lib.hid (Below.trans (by go_grown) (D1.mono (by simp; omega)) : Below w.heap.size w w1)
  have zr : w.heap.size < w1.heap.size := (Array.getElem?_eq_some_iff.1 hR).1
  have zl : w.heap.size + 1 < w1.heap.size := (Array.getElem?_eq_some_iff.1 hL).1
  clear D1
  have rh := hR; have r0 := cell_of_row w1 (w.heap.size) 0 _ _ _ rh; simp at r0; have rf0 := frozen_of_row w1 (w.heap.size) 0 _ _ rh; have r1 := cell_of_row w1 (w.heap.size) 1 _ _ _ rh; simp at r1; have rf1 := frozen_of_row w1 (w.heap.size) 1 _ _ rh; have r2 := cell_of_row w1 (w.heap.size) 2 _ _ _ rh; simp at r2; have rf2 := frozen_of_row w1 (w.heap.size) 2 _ _ rh; have r3 := cell_of_row w1 (w.heap.size) 3 _ _ _ rh; simp at r3; have rf3 := frozen_of_row w1 (w.heap.size) 3 _ _ rh; have r4 := cell_of_row w1 (w.heap.size) 4 _ _ _ rh; simp at r4; have rf4 := frozen_of_row w1 (w.heap.size) 4 _ _ rh; clear rh
  have lh := hL; have l0 := cell_of_row w1 (w.heap.size + 1) 0 _ _ _ lh; simp at l0; have lf0 := frozen_of_row w1 (w.heap.size + 1) 0 _ _ lh; have l1 := cell_of_row w1 (w.heap.size + 1) 1 _ _ _ lh; simp at l1; have lf1 := frozen_of_row w1 (w.heap.size + 1) 1 _ _ lh; clear lh
  clear hR hL
  go_wp2
  refine bodyPost_ret (v := (.tuple #[.agg #[.int .i64 n, .int .i64 d, .int .i64 b, .int .i64 l, .int .i64 t], .agg #[.int .i64 xt, .int .i64 xs]])) (by simp [results, Try.results41, go_sem, *]) rfl ?_
  refine ⟨⟨n, d, b, l, t⟩, ⟨xt, xs⟩, rfl, ?_⟩
  repeat refine Below.setCell ?_ (by simp) _
  exact HB1.out

/-- among over a list that was laid right ahead, an order drawn in between -/
theorem among_litD (B u : Nat) (xs : List Int) (N : Nat) (w : World) {A : Array Value} {g : Nat} (h : Cur w B u) (hu : u ≤ 1000000000000) (hg : g = w.heap.size) (hA : A = (xs.map (Value.int .i64)).toArray) (hN : xs.length = N) (h1 : 1 ≤ N) (hn : N ≤ 1073741824) :
    Calls Try.prog 72 #[.pointer (some ⟨B, 0, none⟩), .slice (some ⟨g, 0, none⟩) N N] (w.alloc (.cells A 3)).drew fun e w' => ∃ x : Int, e = .returned (.int .i64 x) ∧ Cur w' B (u + 2) ∧ w.grownBy w' (some B) := by
  subst hA hg
  have hr := lit_rd w xs N hN N (Nat.le_refl _) hn
  have hlt := h.lt
  rw [show xs.take N = xs by rw [← hN]; exact List.take_length] at hr
  have hd : Below (w.alloc (.cells (xs.map (Value.int .i64)).toArray 3)).heap.size (w.alloc (.cells (xs.map (Value.int .i64)).toArray 3)) (w.alloc (.cells (xs.map (Value.int .i64)).toArray 3)).drew := (Below.refl _ _).drew
  refine (among_any B u _ xs _ ((h.below (below_alloc1 _ _)).below hd) hu (hr.below hd) (by omega) (.inr (by simp [Value.ownBlock]; omega))).mono ?_
  rintro e w' ⟨x, _, rfl, hc, hg⟩
  exact ⟨x, rfl, hc, grown_trans (grown_trans (World.grownBy_alloc w _ _) (grown_below hd)) hg⟩

set_option maxRecDepth 100000 in
set_option maxHeartbeats 4000000 in
theorem drawFill_any (v : Value) (bs : List Int) (w : World) (h : RdY w v bs) :
    Calls Try.prog 42 #[v] w (SomeBI w) := by
  obtain ⟨p, cap, b, off, rfl, _, _, _⟩ := h.parts
  have hC := cur_new (w.alloc (.cells #[.int .i64 0, .int .i64 0, .int .i64 0, .int .i64 0, .int .i64 0] 25)) _ bs (h.below (by go_grown))
  rw [show (w.alloc (.cells #[.int .i64 0, .int .i64 0, .int .i64 0, .int .i64 0, .int .i64 0] 25)).heap.size = w.heap.size + 1 by simp] at hC
  have HC := Lib.hid hC; clear h hC
  go_enter Try.func42, Try.ntmps42
  go_wp2_with fail
  refine (bucket_any (w.heap.size + 1) 0 _ HC.out (by omega)).mono ?_
  rintro e w1 ⟨k, rfl, D1⟩
  have HD1 := Lib.hid D1
  have HR1 : Hid (w1.heap[w.heap.size]? = some (.cells #[.int .i64 0, .int .i64 0, .int .i64 0, .int .i64 0, .int .i64 0] 25)) := Lib.hid (later (Below.refl _ _) D1 (by omega) (heap_alloc2_old w _ _))
  have HB1 := Lib.hid (dr_below (w := w) D1 (by go_grown) (by omega))
  have z1 : w.heap.size + 1 < w1.heap.size := D1.cur.lt
  clear D1 HC
  obtain ⟨n, d, b, l, t⟩ := k
  go_upto_region 3 with fail
  go_region_with (go_at_call 72; refine ((by first | exact among_litD (w.heap.size + 1) (0 + 14) [0, 1, 2, 7, 50, 10000, -1] 7 _ (HD1.out.cur.below (by go_grown)) (by omega) (by simp) rfl rfl (by omega) (by omega) | exact among_lit (w.heap.size + 1) (0 + 14) [0, 1, 2, 7, 50, 10000, -1] 7 _ (HD1.out.cur.below (by go_grown)) (by omega) (by simp) rfl rfl (by omega) (by omega)) : Calls _ _ _ _ fun e w' => ∃ x : Int, e = .returned (.int .i64 x) ∧ Cur w' (w.heap.size + 1) (0 + 14 + 2) ∧ World.grownBy _ w' (some (w.heap.size + 1))).mono ?_; rintro e w2 ⟨a, rfl, hc2, hg2⟩; have D2 := Lib.hid (Dr.mk' hc2 hg2 (by simp; omega)); have hR2 := later (w1 := w1) (by go_grown) D2.out (by omega) HR1.out; have hK2 := later (w1 := w1.alloc (.cells #[.int .i64 n, .int .i64 d, .int .i64 b, .int .i64 l, .int .i64 t] 25)) (Below.refl _ _) D2.out (by omega) (heap_alloc_new w1 _); have HB2 := Lib.hid (dr_below (w := w) D2.out (HB1.out.trans (Below.mono (by go_grown) HB1.out.size)) (by omega)); have z2 := (Array.getElem?_eq_some_iff.1 hK2).1; clear hc2 hg2; have rh := hR2; have r0 := cell_of_row w2 (w.heap.size) 0 _ _ _ rh; simp at r0; have rf0 := frozen_of_row w2 (w.heap.size) 0 _ _ rh; have r1 := cell_of_row w2 (w.heap.size) 1 _ _ _ rh; simp at r1; have rf1 := frozen_of_row w2 (w.heap.size) 1 _ _ rh; have r2 := cell_of_row w2 (w.heap.size) 2 _ _ _ rh; simp at r2; have rf2 := frozen_of_row w2 (w.heap.size) 2 _ _ rh; have r3 := cell_of_row w2 (w.heap.size) 3 _ _ _ rh; simp at r3; have rf3 := frozen_of_row w2 (w.heap.size) 3 _ _ rh; have r4 := cell_of_row w2 (w.heap.size) 4 _ _ _ rh; simp at r4; have rf4 := frozen_of_row w2 (w.heap.size) 4 _ _ rh; clear rh; have kh := hK2; have k0 := cell_of_row w2 (w1.heap.size) 0 _ _ _ kh; simp at k0; have kf0 := frozen_of_row w2 (w1.heap.size) 0 _ _ kh; have k1 := cell_of_row w2 (w1.heap.size) 1 _ _ _ kh; simp at k1; have kf1 := frozen_of_row w2 (w1.heap.size) 1 _ _ kh; have k2 := cell_of_row w2 (w1.heap.size) 2 _ _ _ kh; simp at k2; have kf2 := frozen_of_row w2 (w1.heap.size) 2 _ _ kh; have k3 := cell_of_row w2 (w1.heap.size) 3 _ _ _ kh; simp at k3; have kf3 := frozen_of_row w2 (w1.heap.size) 3 _ _ kh; have k4 := cell_of_row w2 (w1.heap.size) 4 _ _ _ kh; simp at k4; have kf4 := frozen_of_row w2 (w1.heap.size) 4 _ _ kh; clear kh; have zr : w.heap.size < w2.heap.size := (by omega); clear hR2 hK2)
  all_goals
    have HR := Lib.hid HB2.out
    go_wp2
    refine bodyPost_ret (v := (.tuple #[.agg #[.int .i64 n, .int .i64 d, .int .i64 b, .int .i64 l, .int .i64 t], .int .i64 (IntKind.i64.wrap (t + a))])) (by simp [results, Try.results42, go_sem, *]) rfl ?_
    refine ⟨⟨n, d, b, l, t⟩, _, rfl, ?_⟩
    repeat refine Below.setCell ?_ (by simp) _
    exact HR.out

set_option maxRecDepth 100000 in
set_option maxHeartbeats 2000000 in
theorem drawTokens_any (v : Value) (bs : List Int) (w : World) (h : RdY w v bs) :
    Calls Try.prog 43 #[v] w (SomeBI w) := by
  have HC := Lib.hid (drawFill_any v bs (w.alloc (.cells #[.int .i64 0, .int .i64 0, .int .i64 0, .int .i64 0, .int .i64 0] 25)) (h.below (by go_grown)))
  obtain ⟨p, cap, b, off, rfl, _, _, _⟩ := h.parts
  clear h
  go_enter Try.func43, Try.ntmps43
  go_wp2_with fail
  refine HC.out.mono ?_
  rintro e w1 ⟨⟨n, d, b, l, t⟩, m, rfl, D1⟩
  have hR := (D1.block w.heap.size (by simp)).trans (heap_alloc_new w _)
  have HB1 := Lib.hid (Below.trans (by go_grown) (D1.mono (by simp)) : Below w.heap.size w w1)
  have zr : w.heap.size < w1.heap.size := (Array.getElem?_eq_some_iff.1 hR).1
  clear D1
  have rh := hR; have r0 := cell_of_row w1 (w.heap.size) 0 _ _ _ rh; simp at r0; have rf0 := frozen_of_row w1 (w.heap.size) 0 _ _ rh; have r1 := cell_of_row w1 (w.heap.size) 1 _ _ _ rh; simp at r1; have rf1 := frozen_of_row w1 (w.heap.size) 1 _ _ rh; have r2 := cell_of_row w1 (w.heap.size) 2 _ _ _ rh; simp at r2; have rf2 := frozen_of_row w1 (w.heap.size) 2 _ _ rh; have r3 := cell_of_row w1 (w.heap.size) 3 _ _ _ rh; simp at r3; have rf3 := frozen_of_row w1 (w.heap.size) 3 _ _ rh; have r4 := cell_of_row w1 (w.heap.size) 4 _ _ _ rh; simp at r4; have rf4 := frozen_of_row w1 (w.heap.size) 4 _ _ rh; clear rh
  clear hR
  go_wp2
  refine bodyPost_ret (v := (.tuple #[.agg #[.int .i64 n, .int .i64 d, .int .i64 b, .int .i64 l, .int .i64 t], .int .i64 m])) (by simp [results, Try.results43, go_sem, *]) rfl ?_
  refine ⟨⟨n, d, b, l, t⟩, _, rfl, ?_⟩
  repeat refine Below.setCell ?_ (by simp) _
  exact HB1.out
end Go.Proofs.Ytgiigcpodinpoaa
