/- Contracts of the reference's drawings for the law on loads: each answers some bucket, numbers and some list of loads, in new memory. -/
import Derived.Test.YtgmccafmopgjaaaLoadDraw
namespace Go.Proofs.Ytgmccafmopgjaaa
open Go.RowKit

def SomeBLs (w : World) (e : Ending) (w' : World) : Prop := ∃ (k : Bk) (v : Value) (xs : List Ld), e = .returned (.tuple #[k.v, v]) ∧ OwLd (w.heap.size + 1) w' v xs ∧ xs.length ≤ 40 ∧ Below w.heap.size w w'
def SomeIILs (w : World) (e : Ending) (w' : World) : Prop := ∃ (a b : Int) (v : Value) (xs : List Ld), e = .returned (.tuple #[.int .i64 a, .int .i64 b, v]) ∧ OwLd w.heap.size w' v xs ∧ xs.length ≤ 40 ∧ Below w.heap.size w w'
theorem grown_set1 (W : World) (b i : Nat) (v : Value) : W.grownBy (W.setCell ⟨b, i, none⟩ v) (some b) :=
  ⟨rfl, rfl, rfl, by simp, fun k _ hk => Below.heap_setCell _ _ _ k (fun e => hk (by rw [e]))⟩
theorem OwLd.set5 {W : World} {v : Value} {xs : List Ld} {B b : Nat} (h : OwLd B W v xs) (hb : b < B) (a0 a1 a2 a3 a4 : Value) : OwLd B (((((W.setCell ⟨b, 0, none⟩ a0).setCell ⟨b, 1, none⟩ a1).setCell ⟨b, 2, none⟩ a2).setCell ⟨b, 3, none⟩ a3).setCell ⟨b, 4, none⟩ a4) v xs := by
  have hne : ∀ (X : World), OwLd B X v xs → ∀ i u, OwLd B (X.setCell ⟨b, i, none⟩ u) v xs := fun X h i u =>
    h.grown (grown_set1 X b i u) (.inr (fun e => by have := (h.lt b e).1; omega))
  exact hne _ (hne _ (hne _ (hne _ (hne _ h 0 a0) 1 a1) 2 a2) 3 a3) 4 a4
theorem OwLd.low {B B' : Nat} {w : World} {v : Value} {xs : List Ld} (h : OwLd B w v xs) (hb : B' ≤ B) : OwLd B' w v xs := ⟨own_base h.1 hb, h.2⟩
set_option maxRecDepth 100000 in
set_option maxHeartbeats 4000000 in
theorem drawFitting_any (v : Value) (bs : List Int) (w : World) (h : RdY w v bs) :
    Calls Try.prog 57 #[v] w (SomeBLs w) := by
  obtain ⟨p, cap, b, off, rfl, _, _, _⟩ := h.parts
  have hC := cur_new (w.alloc (.cells #[.int .i64 0, .int .i64 0, .int .i64 0, .int .i64 0, .int .i64 0] 45)) _ bs (h.below (by go_grown))
  rw [show (w.alloc (.cells #[.int .i64 0, .int .i64 0, .int .i64 0, .int .i64 0, .int .i64 0] 45)).heap.size = w.heap.size + 1 by simp] at hC
  have HC := Lib.hid hC; clear h hC
  go_enter Try.func57, Try.ntmps57
  go_wp2_with fail
  refine (bucket_any (w.heap.size + 1) 0 _ HC.out (by omega)).mono ?_
  rintro e w1 ⟨k, rfl, D1⟩
  have HD1 := Lib.hid D1
  have HR1 : Hid (w1.heap[w.heap.size]? = some (.cells #[.int .i64 0, .int .i64 0, .int .i64 0, .int .i64 0, .int .i64 0] 45)) := Lib.hid (later (Below.refl _ _) D1 (by omega) (heap_alloc2_old w _ _))
  have HB1 := Lib.hid (dr_below (w := w) D1 (by go_grown) (by omega))
  have z1 : w.heap.size + 1 < w1.heap.size := D1.cur.lt
  clear D1 HC
  obtain ⟨n, d, b, l, t⟩ := k
  go_upto_region 3 with fail
  go_region_with (go_at_call 66; refine (loads_any (w.heap.size + 1) (0 + 14) t _ (HD1.out.cur.below (by go_grown)) (by omega)).mono ?_; rintro e w2 ⟨vl, xs, rfl, ol, hxl, D2⟩; have hR2 := later (w1 := w1) (by go_grown) D2 (by omega) HR1.out; have hK2 := later (w1 := w1.alloc (.cells #[.int .i64 n, .int .i64 d, .int .i64 b, .int .i64 l, .int .i64 t] 45)) (by go_grown) D2 (by omega) (heap_alloc_new w1 _); have HB2 := Lib.hid (dr_below (w := w) D2 (HB1.out.trans (Below.mono (by go_grown) HB1.out.size)) (by omega)); have z2 := (Array.getElem?_eq_some_iff.1 hK2).1; have OL := Lib.hid (ol.low (B' := w.heap.size + 1) (by simp; omega)); clear D2 ol; have rh := hR2; have r0 := cell_of_row w2 (w.heap.size) 0 _ _ _ rh; simp at r0; have rf0 := frozen_of_row w2 (w.heap.size) 0 _ _ rh; have r1 := cell_of_row w2 (w.heap.size) 1 _ _ _ rh; simp at r1; have rf1 := frozen_of_row w2 (w.heap.size) 1 _ _ rh; have r2 := cell_of_row w2 (w.heap.size) 2 _ _ _ rh; simp at r2; have rf2 := frozen_of_row w2 (w.heap.size) 2 _ _ rh; have r3 := cell_of_row w2 (w.heap.size) 3 _ _ _ rh; simp at r3; have rf3 := frozen_of_row w2 (w.heap.size) 3 _ _ rh; have r4 := cell_of_row w2 (w.heap.size) 4 _ _ _ rh; simp at r4; have rf4 := frozen_of_row w2 (w.heap.size) 4 _ _ rh; clear rh; have kh := hK2; have k0 := cell_of_row w2 (w1.heap.size) 0 _ _ _ kh; simp at k0; have kf0 := frozen_of_row w2 (w1.heap.size) 0 _ _ kh; have k1 := cell_of_row w2 (w1.heap.size) 1 _ _ _ kh; simp at k1; have kf1 := frozen_of_row w2 (w1.heap.size) 1 _ _ kh; have k2 := cell_of_row w2 (w1.heap.size) 2 _ _ _ kh; simp at k2; have kf2 := frozen_of_row w2 (w1.heap.size) 2 _ _ kh; have k3 := cell_of_row w2 (w1.heap.size) 3 _ _ _ kh; simp at k3; have kf3 := frozen_of_row w2 (w1.heap.size) 3 _ _ kh; have k4 := cell_of_row w2 (w1.heap.size) 4 _ _ _ kh; simp at k4; have kf4 := frozen_of_row w2 (w1.heap.size) 4 _ _ kh; clear kh; have zr : w.heap.size < w2.heap.size := (by omega); clear hR2 hK2)
  all_goals
    have HR := Lib.hid HB2.out
    have HOs := Lib.hid (OL.out.set5 (Nat.lt_succ_self w.heap.size) (.int .i64 n) (.int .i64 d) (.int .i64 b) (.int .i64 l) (.int .i64 t))
    go_wp2
    refine bodyPost_ret (v := (.tuple #[.agg #[.int .i64 n, .int .i64 d, .int .i64 b, .int .i64 l, .int .i64 t], vl])) (by simp [results, Try.results57, go_sem, *]) rfl ?_
    refine ⟨⟨n, d, b, l, t⟩, vl, xs, rfl, ?_, hxl, ?_⟩
    · first | exact HOs.out | exact HOs.out.below (below_eq ⟨_, rfl⟩) | exact OL.out
    · repeat refine Below.setCell ?_ (by simp) _
      first | exact HR.out | exact below_drewN HR.out _
set_option maxRecDepth 100000 in
set_option maxHeartbeats 2000000 in
theorem drawShape_any (v : Value) (bs : List Int) (w : World) (h : RdY w v bs) :
    Calls Try.prog 21 #[v] w (SomeBLs w) := by
  have HC := Lib.hid (drawFitting_any v bs (w.alloc (.cells #[.int .i64 0, .int .i64 0, .int .i64 0, .int .i64 0, .int .i64 0] 45)) (h.below (by go_grown)))
  obtain ⟨p, cap, b, off, rfl, _, _, _⟩ := h.parts
  clear h
  go_enter Try.func21, Try.ntmps21
  go_wp2_with fail
  refine HC.out.mono ?_
  rintro e w1 ⟨⟨n, d, b, l, t⟩, vl, xs, rfl, ol, hxl, D1⟩
  have hR := (D1.block w.heap.size (by simp)).trans (heap_alloc_new w _)
  have HB1 := Lib.hid (Below.trans (by go_grown) (D1.mono (by simp)) : Below w.heap.size w w1)
  have OL := Lib.hid (ol.low (B' := w.heap.size + 1) (by simp))
  have zr : w.heap.size < w1.heap.size := (Array.getElem?_eq_some_iff.1 hR).1
  clear D1 ol
  have rh := hR; have r0 := cell_of_row w1 (w.heap.size) 0 _ _ _ rh; simp at r0; have rf0 := frozen_of_row w1 (w.heap.size) 0 _ _ rh; have r1 := cell_of_row w1 (w.heap.size) 1 _ _ _ rh; simp at r1; have rf1 := frozen_of_row w1 (w.heap.size) 1 _ _ rh; have r2 := cell_of_row w1 (w.heap.size) 2 _ _ _ rh; simp at r2; have rf2 := frozen_of_row w1 (w.heap.size) 2 _ _ rh; have r3 := cell_of_row w1 (w.heap.size) 3 _ _ _ rh; simp at r3; have rf3 := frozen_of_row w1 (w.heap.size) 3 _ _ rh; have r4 := cell_of_row w1 (w.heap.size) 4 _ _ _ rh; simp at r4; have rf4 := frozen_of_row w1 (w.heap.size) 4 _ _ rh; clear rh
  clear hR
  have HOs := Lib.hid (OL.out.set5 (Nat.lt_succ_self w.heap.size) (.int .i64 n) (.int .i64 d) (.int .i64 b) (.int .i64 l) (.int .i64 t))
  go_wp2
  refine bodyPost_ret (v := (.tuple #[.agg #[.int .i64 n, .int .i64 d, .int .i64 b, .int .i64 l, .int .i64 t], vl])) (by simp [results, Try.results21, go_sem, *]) rfl ?_
  refine ⟨⟨n, d, b, l, t⟩, vl, xs, rfl, HOs.out, hxl, ?_⟩
  repeat refine Below.setCell ?_ (by simp) _
  exact HB1.out
set_option maxRecDepth 100000 in
set_option maxHeartbeats 4000000 in
theorem drawSmall_any (v : Value) (bs : List Int) (w : World) (h : RdY w v bs) :
    Calls Try.prog 26 #[v] w (SomeIILs w) := by
  obtain ⟨p, cap, b, off, rfl, _, _, _⟩ := h.parts
  have HC := Lib.hid (cur_new w _ bs h); clear h
  go_enter Try.func26, Try.ntmps26
  go_wp2_with fail
  refine (bucket_any w.heap.size 0 _ HC.out (by omega)).mono ?_
  rintro e w1 ⟨k, rfl, D1⟩
  have HD1 := Lib.hid D1
  have HB1 := Lib.hid (new_dr D1)
  have z1 : w.heap.size < w1.heap.size := D1.cur.lt
  clear D1 HC
  obtain ⟨n, d, b, l, t⟩ := k
  have HK1 : Hid ((w1.alloc (.cells #[.int .i64 n, .int .i64 d, .int .i64 b, .int .i64 l, .int .i64 t] 45)).heap[w1.heap.size]? = some (.cells #[.int .i64 n, .int .i64 d, .int .i64 b, .int .i64 l, .int .i64 t] 45)) := Lib.hid (heap_alloc_new w1 _)
  go_upto_region 3 with fail
  go_region_with (first
    | (go_at_call 50; refine ((by first | exact among_litD w.heap.size (0 + 14) [0, 3] 2 _ (HD1.out.cur.below (by go_grown)) (by omega) (by simp) rfl rfl (by omega) (by omega) | exact among_lit w.heap.size (0 + 14) [0, 3] 2 _ (HD1.out.cur.below (by go_grown)) (by omega) (by simp) rfl rfl (by omega) (by omega)) : Calls _ _ _ _ fun e w' => ∃ x : Int, e = .returned (.int .i64 x) ∧ Cur w' w.heap.size (0 + 14 + 2) ∧ World.grownBy _ w' (some w.heap.size)).mono ?_; rintro e w2 ⟨a, rfl, hc2, hg2⟩; have D2 := Lib.hid (Dr.mk' hc2 hg2 (by simp; omega)); have hK2 := later (w1 := w1.alloc (.cells #[.int .i64 n, .int .i64 d, .int .i64 b, .int .i64 l, .int .i64 t] 45)) (Below.refl _ _) D2.out (by omega) HK1.out; have HB2 := Lib.hid (dr_below (w := w) D2.out (HB1.out.trans (Below.mono (by go_grown) HB1.out.size)) (by omega)); have z2 := (Array.getElem?_eq_some_iff.1 hK2).1; have HK2 := Lib.hid hK2; clear hc2 hg2; have kh := hK2; have k0 := cell_of_row w2 (w1.heap.size) 0 _ _ _ kh; simp at k0; have kf0 := frozen_of_row w2 (w1.heap.size) 0 _ _ kh; have k1 := cell_of_row w2 (w1.heap.size) 1 _ _ _ kh; simp at k1; have kf1 := frozen_of_row w2 (w1.heap.size) 1 _ _ kh; have k2 := cell_of_row w2 (w1.heap.size) 2 _ _ _ kh; simp at k2; have kf2 := frozen_of_row w2 (w1.heap.size) 2 _ _ kh; have k3 := cell_of_row w2 (w1.heap.size) 3 _ _ _ kh; simp at k3; have kf3 := frozen_of_row w2 (w1.heap.size) 3 _ _ kh; have k4 := cell_of_row w2 (w1.heap.size) 4 _ _ _ kh; simp at k4; have kf4 := frozen_of_row w2 (w1.heap.size) 4 _ _ kh; clear kh; clear hK2)
    | (go_at_call 66; refine (loads_any w.heap.size (0 + 14 + 2) a _ (by first | exact D2.out.cur | exact D2.out.cur.below (below_eq ⟨_, rfl⟩)) (by omega)).mono ?_; rintro e w3 ⟨vl, xs, rfl, ol, hxl, D3⟩; have hK3 := later (w1 := w2) (by first | exact Below.refl _ _ | exact below_eq ⟨_, rfl⟩) D3 (by omega) HK2.out; have HB3 := Lib.hid (dr_below (w := w) D3 (by first | exact HB2.out | exact below_drewN HB2.out _) (by omega)); have z3 := (Array.getElem?_eq_some_iff.1 hK3).1; have OL := Lib.hid (ol.low (B' := w.heap.size) (by first | exact HB2.out.size | (simp; exact HB2.out.size) | (have := HB2.out.size; simp; omega))); clear D3 ol k0 k1 k2 k3 k4 kf0 kf1 kf2 kf3 kf4; have kh := hK3; have k0 := cell_of_row w3 (w1.heap.size) 0 _ _ _ kh; simp at k0; have kf0 := frozen_of_row w3 (w1.heap.size) 0 _ _ kh; have k1 := cell_of_row w3 (w1.heap.size) 1 _ _ _ kh; simp at k1; have kf1 := frozen_of_row w3 (w1.heap.size) 1 _ _ kh; have k2 := cell_of_row w3 (w1.heap.size) 2 _ _ _ kh; simp at k2; have kf2 := frozen_of_row w3 (w1.heap.size) 2 _ _ kh; have k3 := cell_of_row w3 (w1.heap.size) 3 _ _ _ kh; simp at k3; have kf3 := frozen_of_row w3 (w1.heap.size) 3 _ _ kh; have k4 := cell_of_row w3 (w1.heap.size) 4 _ _ _ kh; simp at k4; have kf4 := frozen_of_row w3 (w1.heap.size) 4 _ _ kh; clear kh; clear hK3))
  all_goals
    go_wp2
    refine bodyPost_ret (v := (.tuple #[.int .i64 n, .int .i64 d, vl])) (by simp [results, Try.results26, go_sem, *]) rfl ?_
    refine ⟨n, d, vl, xs, rfl, ?_, hxl, ?_⟩
    · first | exact OL.out | exact OL.out.below (below_eq ⟨_, rfl⟩)
    · first | exact HB3.out | exact below_drewN HB3.out _
end Go.Proofs.Ytgmccafmopgjaaa
