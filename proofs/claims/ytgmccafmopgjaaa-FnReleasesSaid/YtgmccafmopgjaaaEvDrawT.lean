/- Contract of the reference's drawing for TicksBetween: SOME trace and three numbers. -/
import Derived.Test.YtgmccafmopgjaaaEvDraws
namespace Go.Proofs.Ytgmccafmopgjaaa
open Go.RowKit

def LitNum : List Int := [0, 1, 65535, -1, 65536]
def SomeT3 (w : World) (e : Ending) (w' : World) : Prop := ∃ v xs, ∃ a b c : Int, e = .returned (.tuple #[v, .int .i64 a, .int .i64 b, .int .i64 c]) ∧ OwEv w.heap.size w' v xs ∧ xs.length ≤ 40 ∧ Below w.heap.size w w'
/-- an event stored into a slice of the call's own -/
theorem own_put {C : Nat} {W : World} {p : Option Addr} {xs : List Ev} {n cap k : Nat} {g : Nat} (h : OwEv C W (.slice p n cap) xs) (hp : p = some ⟨g, 0, none⟩) (hn : n = xs.length) (hk : k < xs.length) (x : Ev) :
    OwEv C (((((W.setCell ⟨g, k * 4, none⟩ (.int .i64 x.t)).setCell ⟨g, k * 4 + 1, none⟩ (.int .i64 x.n)).setCell ⟨g, k * 4 + 2, none⟩ (.int .i64 x.k)).setCell ⟨g, k * 4 + 3, none⟩ (.int .i64 x.m))) (.slice p n cap) (xs.set k x) ∧
    W.grownBy (((((W.setCell ⟨g, k * 4, none⟩ (.int .i64 x.t)).setCell ⟨g, k * 4 + 1, none⟩ (.int .i64 x.n)).setCell ⟨g, k * 4 + 2, none⟩ (.int .i64 x.k)).setCell ⟨g, k * 4 + 3, none⟩ (.int .i64 x.m))) (some g) := by
  subst hp hn
  obtain ⟨h1, h2⟩ := h
  have s1 := h1.stored (k * 4) (.int .i64 x.t)
  have s2 := s1.1.stored (k * 4 + 1) (.int .i64 x.n)
  have s3 := s2.1.stored (k * 4 + 2) (.int .i64 x.k)
  have s4 := s3.1.stored (k * 4 + 3) (.int .i64 x.m)
  refine ⟨⟨?_, by simpa using h2⟩, grown_trans (grown_trans (grown_trans s1.2 s2.2) s3.2) s4.2⟩
  have e : ((((xs.flatMap Ev.cells).set (k * 4) (.int .i64 x.t)).set (k * 4 + 1) (.int .i64 x.n)).set (k * 4 + 2) (.int .i64 x.k)).set (k * 4 + 3) (.int .i64 x.m) = (xs.set k x).flatMap Ev.cells := by
    clear s1 s2 s3 s4 h1 h2
    induction xs generalizing k with
    | nil => simp at hk
    | cons y ys ih =>
      cases k with
      | zero => simp [Ev.cells]
      | succ k =>
        have := ih (k := k) (by simpa using hk)
        simp only [List.flatMap_cons, List.set_cons_succ]
        rw [← this]
        simp [Ev.cells, Nat.succ_mul, Nat.add_assoc]
  rw [← e]
  simpa using s4.1

set_option maxRecDepth 100000 in
set_option maxHeartbeats 4000000 in
theorem drawTicks_any (v : Value) (bs : List Int) (w : World) (h : RdY w v bs) :
    Calls Try.prog 18 #[v] w (SomeT3 w) := by
  obtain ⟨p, cap, b, off, rfl, _, _, _⟩ := h.parts
  have HC := Lib.hid (cur_new w _ bs h); clear h
  go_enter Try.func18, Try.ntmps18
  go_wp2_with fail
  refine (trace_any w.heap.size 0 _ HC.out (by omega)).mono ?_
  rintro e w1 ⟨v1, xs, rfl, ho, hl, hd⟩
  obtain ⟨p1, cap1, g1, rfl, hcap1, hp1⟩ := own_shape ho.1
  have HO := Lib.hid ho; clear ho
  have HD := Lib.hid hd; clear hd
  have HP := Lib.hid hp1; clear hp1
  have z1 := HD.out.size
  simp at z1
  by_cases hlen : 1 < xs.length
  · go_wp2_with fail
    refine (one_any w.heap.size _ 3 _ HD.out.cur (by omega) (by omega) (by omega)).mono ?_
    rintro e w2 ⟨bb, rfl, hc2, hg2⟩
    have HD2 := Lib.hid (HD.out.call hc2 hg2)
    have HO2 := Lib.hid (HO.out.grown hg2 ((HO.out).neB (by simp)))
    have z2 := HD2.out.size
    simp at z2
    clear hc2 hg2 HD HO
    cases bb
    · obtain ⟨N, hN⟩ : ∃ N, xs.length = N + 1 := ⟨xs.length - 1, by omega⟩
      have wN : IntKind.i64.wrap (((xs.length : Nat) : Int) - 1) = (N : Int) := by rw [IntKind.wrap_i64]; omega
      have wN2 : wrap64 (((xs.length : Nat) : Int) - 1) = (N : Int) := by simp only [wrap64]; omega
      have hN1 : 1 ≤ N := by omega
      have hNl : N < xs.length := by omega
      have HN := Lib.hid hN; clear hN
      obtain ⟨rfl, hg1⟩ := HP.out (by omega)
      simp at hg1
      go_wp2_with fail
      refine (pick_any w.heap.size _ N w2 HD2.out.cur (by omega) hN1 (by omega)).mono ?_
      rintro e w3 ⟨k, hk, rfl, hc3, hg3⟩
      have HD3 := Lib.hid (HD2.out.call hc3 hg3)
      have HO3 := Lib.hid (HO2.out.grown hg3 ((HO2.out).neB (by simp)))
      have z3 := HD3.out.size
      simp at z3
      clear hc3 hg3 HD2 HO2
      have hkl : k < xs.length := by omega
      have hcell : ∀ i (hi : i < xs.length), w3.cell? ⟨g1, i * 4, none⟩ = some (.int .i64 xs[i].t) ∧ w3.cell? ⟨g1, i * 4 + 1, none⟩ = some (.int .i64 xs[i].n) ∧ w3.cell? ⟨g1, i * 4 + 2, none⟩ = some (.int .i64 xs[i].k) ∧ w3.cell? ⟨g1, i * 4 + 3, none⟩ = some (.int .i64 xs[i].m) := fun i hi =>
        ⟨(HO3.out.1.cellAt (i * 4) (by omega)).trans (flat_get Ev.cells 4 Ev.cells_length xs i 0 hi (by omega)), (HO3.out.1.cellAt (i * 4 + 1) (by omega)).trans (flat_get Ev.cells 4 Ev.cells_length xs i 1 hi (by omega)), (HO3.out.1.cellAt (i * 4 + 2) (by omega)).trans (flat_get Ev.cells 4 Ev.cells_length xs i 2 hi (by omega)), (HO3.out.1.cellAt (i * 4 + 3) (by omega)).trans (flat_get Ev.cells 4 Ev.cells_length xs i 3 hi (by omega))⟩
      obtain ⟨c0, c1, c2, c3⟩ := hcell k hkl
      obtain ⟨d0, d1, d2, d3⟩ := hcell N hNl
      clear hcell
      have hg3 : g1 < w3.heap.size := (HO3.out.1.lt g1 rfl).2
      generalize xs[k] = x at c0 c1 c2 c3
      generalize xs[N] = y at d0 d1 d2 d3
      obtain ⟨xt, xn, xk, xm⟩ := x
      obtain ⟨yt, yn, yk, ym⟩ := y
      simp only at c0 c1 c2 c3 d0 d1 d2 d3
      go_upto_region 5 with fail
      go_cut [9, 10] (fun s9 s10 wx => ∃ g h : Nat, s9 = .pointer (some ⟨g, 0, none⟩) ∧ s10 = .pointer (some ⟨h, 0, none⟩) ∧ g ≠ h ∧ w3.heap.size ≤ g ∧ w3.heap.size ≤ h ∧ wx.heap[g]? = some (.cells #[.int .i64 xt, .int .i64 xn, .int .i64 xk, .int .i64 xm] 39 (0, 0)) ∧ wx.heap[h]? = some (.cells #[.int .i64 yt, .int .i64 yn, .int .i64 yk, .int .i64 ym] 39 (0, 0)) ∧ Below w3.heap.size w3 wx)
      case first =>
        go_region
        all_goals (go_wp2_with fail; go_meet)
        all_goals first | exact ⟨w3.heap.size, w3.heap.size + 1, rfl, rfl, by omega, by omega, by omega, heap_alloc2_old w3 _ _, heap_alloc2_new w3 _ _, by go_grown⟩ | exact ⟨w3.heap.size + 1, w3.heap.size, rfl, rfl, by omega, by omega, by omega, heap_alloc2_new w3 _ _, heap_alloc2_old w3 _ _, by go_grown⟩
      case rest =>
        obtain ⟨g, h, rfl, rfl, hgh, hgl, hhl, hbg, hbh, hbx⟩ := hcut
        have c0 := cell_on hbx c0
        have c1 := cell_on hbx c1
        have c2 := cell_on hbx c2
        have c3 := cell_on hbx c3
        have d0 := cell_on hbx d0
        have d1 := cell_on hbx d1
        have d2 := cell_on hbx d2
        have d3 := cell_on hbx d3
        have HOx := Lib.hid (HO3.out.below hbx)
        have HDx := Lib.hid (HD3.out.call (HD3.out.cur.below hbx) (grown_below hbx))
        have fz : ∀ i, wc.frozen? ⟨g1, i, none⟩ = false := fun i => HOx.out.1.frozenAt i
        have e0 := fz (k * 4)
        have e1 := fz (k * 4 + 1)
        have e2 := fz (k * 4 + 2)
        have e3 := fz (k * 4 + 3)
        have e4 := fz (N * 4)
        have e5 := fz (N * 4 + 1)
        have e6 := fz (N * 4 + 2)
        have e7 := fz (N * 4 + 3)
        clear fz HO3 HD3
        have ng : g ≠ g1 := by omega
        have nh : h ≠ g1 := by omega
        have hkN : k ≠ N := by omega
        have th := hbg; have t0 := cell_of_row wc (g) 0 _ _ _ th; simp at t0; have tf0 := frozen_of_row wc (g) 0 _ _ th; have t1 := cell_of_row wc (g) 1 _ _ _ th; simp at t1; have tf1 := frozen_of_row wc (g) 1 _ _ th; have t2 := cell_of_row wc (g) 2 _ _ _ th; simp at t2; have tf2 := frozen_of_row wc (g) 2 _ _ th; have t3 := cell_of_row wc (g) 3 _ _ _ th; simp at t3; have tf3 := frozen_of_row wc (g) 3 _ _ th; clear th
        have sh := hbh; have s0 := cell_of_row wc (h) 0 _ _ _ sh; simp at s0; have sf0 := frozen_of_row wc (h) 0 _ _ sh; have s1 := cell_of_row wc (h) 1 _ _ _ sh; simp at s1; have sf1 := frozen_of_row wc (h) 1 _ _ sh; have s2 := cell_of_row wc (h) 2 _ _ _ sh; simp at s2; have sf2 := frozen_of_row wc (h) 2 _ _ sh; have s3 := cell_of_row wc (h) 3 _ _ _ sh; simp at s3; have sf3 := frozen_of_row wc (h) 3 _ _ sh; clear sh
        have hgl2 : g < wc.heap.size := (Array.getElem?_eq_some_iff.1 hbg).1
        have hhl2 : h < wc.heap.size := (Array.getElem?_eq_some_iff.1 hbh).1
        clear hbg hbh
        have HBX := Lib.hid hbx; clear hbx
        go_wp2
        go_quiet (fail)
        go_wp2
        have O1 := HOx.out.grown (grown_set wc g 2 (.int .i64 1)) (.inr (by simp [Value.ownBlock]; omega))
        have O2 := O1.grown (grown_set _ h 2 (.int .i64 4)) (.inr (by simp [Value.ownBlock]; omega))
        have O3 := O2.grown (grown_set _ h 3 (.int .i64 xm)) (.inr (by simp [Value.ownBlock]; omega))
        have O4 := own_put O3 rfl rfl hkl ⟨xt, xn, 1, xm⟩
        have O5 := own_put (k := N) O4.1 rfl (by simp) (by simpa using hNl) ⟨yt, yn, 4, xm⟩
        refine bodyPost_ret (v := (.tuple #[.slice (some ⟨g1, 0, none⟩) xs.length cap1, .int .i64 xm, .int .i64 xn, .int .i64 yn])) (by simp [results, Try.results18, go_sem, *]) rfl ?_
        exact ⟨_, _, xm, xn, yn, rfl, (O5.1.below (below_eq ⟨nq, rfl⟩)).base (by simp), by simpa using hl, (new_dr (((((((((((HDx.out.set (by simp; omega) _ _).set (by simp; omega) _ _).set (by simp; omega) _ _).set (by simp; omega) _ _).set (by simp; omega) _ _).set (by simp; omega) _ _).set (by simp; omega) _ _).set (by simp; omega) _ _).set (by simp; omega) _ _).set (by simp; omega) _ _).set (by simp; omega) _ _)).trans (below_eq ⟨nq, rfl⟩)⟩
    · go_wp2_with fail
      refine (pick_any w.heap.size _ 24 _ (HD2.out.alloc _).cur (by omega) (by omega) (by omega)).mono ?_
      rintro e y3 ⟨k3, hk3, rfl, hc3, hg3⟩
      have HR := Lib.hid ((lit_rd w2 LitNum 5 rfl (3 + k3 / 11) (by omega) (by omega)).grown hg3 (.inr (by simp [Value.ownBlock]; omega)))
      have E3 := Lib.hid ((HD2.out.alloc _).call hc3 hg3)
      have P3 := Lib.hid ((HO2.out.below (below_alloc1 _ _)).grown hg3 ((HO2.out).neB (by simp)))
      clear hc3 hg3
      go_wp2_with fail
      refine (among_any w.heap.size _ _ (LitNum.take (3 + k3 / 11)) _ E3.out.cur (by omega) HR.out (by simp [LitNum]; omega) (.inr (by simp [Value.ownBlock]; omega))).mono ?_
      rintro e y4 ⟨x4, _, rfl, hc4, hg4⟩
      have E4 := Lib.hid (E3.out.call hc4 hg4)
      have P4 := Lib.hid (P3.out.grown hg4 ((P3.out).neB (by simp)))
      clear hc4 hg4 E3 P3 HR
      go_wp2_with fail
      refine (node17_any w.heap.size _ _ E4.out.cur (by omega)).mono ?_
      rintro e y5 ⟨x5, _, rfl, hc5, hg5⟩
      have E5 := Lib.hid (E4.out.call hc5 hg5)
      have P5 := Lib.hid (P4.out.grown hg5 ((P4.out).neB (by simp)))
      clear hc5 hg5 E4 P4
      go_wp2_with fail
      refine (node17_any w.heap.size _ _ E5.out.cur (by omega)).mono ?_
      rintro e y6 ⟨x6, _, rfl, hc6, hg6⟩
      have E6 := Lib.hid (E5.out.call hc6 hg6)
      have P6 := Lib.hid (P5.out.grown hg6 ((P5.out).neB (by simp)))
      clear hc6 hg6 E5 P5
      go_wp2
      refine bodyPost_ret (v := (.tuple #[.slice p1 xs.length cap1, .int .i64 x4, .int .i64 x5, .int .i64 x6])) (by simp [results, Try.results18, go_sem, *]) rfl ?_
      exact ⟨_, xs, x4, x5, x6, rfl, (P6.out).base (by simp), hl, new_dr E6.out⟩
  · go_wp2_with fail
    refine (pick_any w.heap.size _ 24 _ (HD.out.alloc _).cur (by omega) (by omega) (by omega)).mono ?_
    rintro e y3 ⟨k3, hk3, rfl, hc3, hg3⟩
    have HR := Lib.hid ((lit_rd w1 LitNum 5 rfl (3 + k3 / 11) (by omega) (by omega)).grown hg3 (.inr (by simp [Value.ownBlock]; omega)))
    have E3 := Lib.hid ((HD.out.alloc _).call hc3 hg3)
    have P3 := Lib.hid ((HO.out.below (below_alloc1 _ _)).grown hg3 ((HO.out).neB (by simp)))
    clear hc3 hg3
    go_wp2_with fail
    refine (among_any w.heap.size _ _ (LitNum.take (3 + k3 / 11)) _ E3.out.cur (by omega) HR.out (by simp [LitNum]; omega) (.inr (by simp [Value.ownBlock]; omega))).mono ?_
    rintro e y4 ⟨x4, _, rfl, hc4, hg4⟩
    have E4 := Lib.hid (E3.out.call hc4 hg4)
    have P4 := Lib.hid (P3.out.grown hg4 ((P3.out).neB (by simp)))
    clear hc4 hg4 E3 P3 HR
    go_wp2_with fail
    refine (node17_any w.heap.size _ _ E4.out.cur (by omega)).mono ?_
    rintro e y5 ⟨x5, _, rfl, hc5, hg5⟩
    have E5 := Lib.hid (E4.out.call hc5 hg5)
    have P5 := Lib.hid (P4.out.grown hg5 ((P4.out).neB (by simp)))
    clear hc5 hg5 E4 P4
    go_wp2_with fail
    refine (node17_any w.heap.size _ _ E5.out.cur (by omega)).mono ?_
    rintro e y6 ⟨x6, _, rfl, hc6, hg6⟩
    have E6 := Lib.hid (E5.out.call hc6 hg6)
    have P6 := Lib.hid (P5.out.grown hg6 ((P5.out).neB (by simp)))
    clear hc6 hg6 E5 P5
    go_wp2
    refine bodyPost_ret (v := (.tuple #[.slice p1 xs.length cap1, .int .i64 x4, .int .i64 x5, .int .i64 x6])) (by simp [results, Try.results18, go_sem, *]) rfl ?_
    exact ⟨_, xs, x4, x5, x6, rfl, (P6.out).base (by simp), hl, new_dr E6.out⟩
end Go.Proofs.Ytgmccafmopgjaaa
