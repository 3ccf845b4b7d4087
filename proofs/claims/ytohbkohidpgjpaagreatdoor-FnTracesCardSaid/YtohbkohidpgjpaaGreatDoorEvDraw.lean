/- Contracts of the reference's drawings of events and traces: each answers SOME event, SOME list of events (nothing more is needed), reading at most 65536 bytes. -/
import Derived.Test.YtohbkohidpgjpaaGreatDoorDrawKit
import Derived.Test.YtohbkohidpgjpaaGreatDoorEv1
namespace Go.Proofs.YtohbkohidpgjpaaGreatDoor
open Go.RowKit

def SomeEv (w : World) (B u : Nat) (e : Ending) (w' : World) : Prop := ∃ x : Ev, e = .returned x.v ∧ Dr w w' B u
set_option maxHeartbeats 4000000 in
theorem event_any (B u : Nat) (f : Int) (w : World) (h : Cur w B u) (hu : u ≤ 1000000) :
    Calls Tryz.prog 23 #[.pointer (some ⟨B, 0, none⟩), .int .i64 f] w (SomeEv w B (u + 10)) := by
  have hlt := h.lt
  have D0 := Lib.hid (Dr.start h); clear h
  go_enter Tryz.func23, Tryz.ntmps23
  go_wp2_with fail
  refine (pick_any B (u) 4 _ (D0.out.alloc _).cur (by omega) (by omega) (by omega)).mono ?_
  rintro e w1 ⟨k1, hk1, rfl, hc1, hg1⟩
  have D1 := Lib.hid ((D0.out.alloc _).call hc1 hg1)
  have R1 := Lib.hid (stands hg1 (by omega) (heap_alloc_new w _))
  clear hc1 hg1
  have z1 := D1.out.size
  go_wp2_with fail
  refine (among_lit B (u + 2) [1, 1, 2, 3, 4, 4] 6 _ D1.out.cur (by omega) (by simp) rfl rfl (by omega) (by omega)).mono ?_
  rintro e w2 ⟨a2, rfl, hc2, hg2⟩
  have D2 := Lib.hid (D1.out.call hc2 hg2)
  have R2 := Lib.hid (stands hg2 (by omega) (R1.out))
  clear hc2 hg2
  have z2 := D2.out.size
  go_wp2_with fail
  refine (among_lit B (u + 4) [0, 1, 2, 65535, 65534] 5 _ D2.out.cur (by omega) (by simp) rfl rfl (by omega) (by omega)).mono ?_
  rintro e w3 ⟨a3, rfl, hc3, hg3⟩
  have D3 := Lib.hid (D2.out.call hc3 hg3)
  have R3 := Lib.hid (stands hg3 (by omega) (R2.out))
  clear hc3 hg3
  have z3 := D3.out.size
  have zr : w.heap.size < w3.heap.size := (Array.getElem?_eq_some_iff.1 R3.out).1
  clear D0 D1 D2 R1 R2
  go_wp2_with fail
  refine (pick_any B (u + 6) 60 _ (D3.out.alloc _).cur (by omega) (by omega) (by omega)).mono ?_
  rintro e w4 ⟨k4, hk4, rfl, hc4, hg4⟩
  have D4 := Lib.hid ((D3.out.alloc _).call hc4 hg4)
  have R4 := Lib.hid (stands hg4 (by omega) ((Below.heap_alloc _ _ _ zr).trans R3.out))
  have T4 := Lib.hid (stands hg4 (by omega) (heap_alloc_new w3 _))
  clear hc4 hg4
  have z4 := D4.out.size
  have ne : w.heap.size ≠ w3.heap.size := by omega
  clear D3 R3
  generalize (k4 : Int) = kk
  generalize (k1 : Int) = b1 at *
  by_cases h0 : kk = 0
  · subst h0
    go_wp2_with fail
    refine (among_lit B (u + 8) [-1, 10000, 10001] 3 _ D4.out.cur (by omega) (by simp) rfl rfl (by omega) (by omega)).mono ?_
    rintro e w7 ⟨a7, rfl, hc7, hg7⟩
    have D7 := Lib.hid (D4.out.call hc7 hg7)
    have R7 := Lib.hid (stands hg7 (by omega) (R4.out))
    have T7 := Lib.hid (stands hg7 (by omega) (T4.out))
    clear hc7 hg7
    have z7 := D7.out.size
    have rh := R7.out; have r0 := cell_of_row w7 (w.heap.size) 0 _ _ _ rh; simp at r0; have rf0 := frozen_of_row w7 (w.heap.size) 0 _ _ rh; have r1 := cell_of_row w7 (w.heap.size) 1 _ _ _ rh; simp at r1; have rf1 := frozen_of_row w7 (w.heap.size) 1 _ _ rh; have r2 := cell_of_row w7 (w.heap.size) 2 _ _ _ rh; simp at r2; have rf2 := frozen_of_row w7 (w.heap.size) 2 _ _ rh; have r3 := cell_of_row w7 (w.heap.size) 3 _ _ _ rh; simp at r3; have rf3 := frozen_of_row w7 (w.heap.size) 3 _ _ rh; clear rh
    have th := T7.out; have t0 := cell_of_row w7 (w3.heap.size) 0 _ _ _ th; simp at t0; have tf0 := frozen_of_row w7 (w3.heap.size) 0 _ _ th; have t1 := cell_of_row w7 (w3.heap.size) 1 _ _ _ th; simp at t1; have tf1 := frozen_of_row w7 (w3.heap.size) 1 _ _ th; have t2 := cell_of_row w7 (w3.heap.size) 2 _ _ _ th; simp at t2; have tf2 := frozen_of_row w7 (w3.heap.size) 2 _ _ th; have t3 := cell_of_row w7 (w3.heap.size) 3 _ _ _ th; simp at t3; have tf3 := frozen_of_row w7 (w3.heap.size) 3 _ _ th; clear th
    have zr7 : w.heap.size < w7.heap.size := (Array.getElem?_eq_some_iff.1 R7.out).1
    have zt7 : w3.heap.size < w7.heap.size := (Array.getElem?_eq_some_iff.1 T7.out).1
    go_wp2
    refine bodyPost_ret (v := (.agg #[.int .i64 a7, .int .i64 b1, .int .i64 a2, .int .i64 a3])) (by simp [results, Tryz.results23, go_sem, *]) rfl ?_
    exact ⟨⟨a7, b1, a2, a3⟩, rfl, (((((D7.out.set (by omega) _ _).set (Nat.le_refl _) _ _).set (Nat.le_refl _) _ _).set (Nat.le_refl _) _ _).set (Nat.le_refl _) _ _).mono (by omega)⟩
  · skip
    by_cases h1 : kk = 1
    · subst h1
      go_wp2_with fail
      refine (among_lit B (u + 8) [-1, 7, 8] 3 _ D4.out.cur (by omega) (by simp) rfl rfl (by omega) (by omega)).mono ?_
      rintro e w7 ⟨a7, rfl, hc7, hg7⟩
      have D7 := Lib.hid (D4.out.call hc7 hg7)
      have R7 := Lib.hid (stands hg7 (by omega) (R4.out))
      have T7 := Lib.hid (stands hg7 (by omega) (T4.out))
      clear hc7 hg7
      have z7 := D7.out.size
      have rh := R7.out; have r0 := cell_of_row w7 (w.heap.size) 0 _ _ _ rh; simp at r0; have rf0 := frozen_of_row w7 (w.heap.size) 0 _ _ rh; have r1 := cell_of_row w7 (w.heap.size) 1 _ _ _ rh; simp at r1; have rf1 := frozen_of_row w7 (w.heap.size) 1 _ _ rh; have r2 := cell_of_row w7 (w.heap.size) 2 _ _ _ rh; simp at r2; have rf2 := frozen_of_row w7 (w.heap.size) 2 _ _ rh; have r3 := cell_of_row w7 (w.heap.size) 3 _ _ _ rh; simp at r3; have rf3 := frozen_of_row w7 (w.heap.size) 3 _ _ rh; clear rh
      have th := T7.out; have t0 := cell_of_row w7 (w3.heap.size) 0 _ _ _ th; simp at t0; have tf0 := frozen_of_row w7 (w3.heap.size) 0 _ _ th; have t1 := cell_of_row w7 (w3.heap.size) 1 _ _ _ th; simp at t1; have tf1 := frozen_of_row w7 (w3.heap.size) 1 _ _ th; have t2 := cell_of_row w7 (w3.heap.size) 2 _ _ _ th; simp at t2; have tf2 := frozen_of_row w7 (w3.heap.size) 2 _ _ th; have t3 := cell_of_row w7 (w3.heap.size) 3 _ _ _ th; simp at t3; have tf3 := frozen_of_row w7 (w3.heap.size) 3 _ _ th; clear th
      have zr7 : w.heap.size < w7.heap.size := (Array.getElem?_eq_some_iff.1 R7.out).1
      have zt7 : w3.heap.size < w7.heap.size := (Array.getElem?_eq_some_iff.1 T7.out).1
      go_wp2
      refine bodyPost_ret (v := (.agg #[.int .i64 f, .int .i64 a7, .int .i64 a2, .int .i64 a3])) (by simp [results, Tryz.results23, go_sem, *]) rfl ?_
      exact ⟨⟨f, a7, a2, a3⟩, rfl, (((((D7.out.set (by omega) _ _).set (Nat.le_refl _) _ _).set (Nat.le_refl _) _ _).set (Nat.le_refl _) _ _).set (Nat.le_refl _) _ _).mono (by omega)⟩
    · skip
      by_cases h2 : kk = 2
      · subst h2
        go_wp2_with fail
        refine (among_lit B (u + 8) [0, 5] 2 _ D4.out.cur (by omega) (by simp) rfl rfl (by omega) (by omega)).mono ?_
        rintro e w7 ⟨a7, rfl, hc7, hg7⟩
        have D7 := Lib.hid (D4.out.call hc7 hg7)
        have R7 := Lib.hid (stands hg7 (by omega) (R4.out))
        have T7 := Lib.hid (stands hg7 (by omega) (T4.out))
        clear hc7 hg7
        have z7 := D7.out.size
        have rh := R7.out; have r0 := cell_of_row w7 (w.heap.size) 0 _ _ _ rh; simp at r0; have rf0 := frozen_of_row w7 (w.heap.size) 0 _ _ rh; have r1 := cell_of_row w7 (w.heap.size) 1 _ _ _ rh; simp at r1; have rf1 := frozen_of_row w7 (w.heap.size) 1 _ _ rh; have r2 := cell_of_row w7 (w.heap.size) 2 _ _ _ rh; simp at r2; have rf2 := frozen_of_row w7 (w.heap.size) 2 _ _ rh; have r3 := cell_of_row w7 (w.heap.size) 3 _ _ _ rh; simp at r3; have rf3 := frozen_of_row w7 (w.heap.size) 3 _ _ rh; clear rh
        have th := T7.out; have t0 := cell_of_row w7 (w3.heap.size) 0 _ _ _ th; simp at t0; have tf0 := frozen_of_row w7 (w3.heap.size) 0 _ _ th; have t1 := cell_of_row w7 (w3.heap.size) 1 _ _ _ th; simp at t1; have tf1 := frozen_of_row w7 (w3.heap.size) 1 _ _ th; have t2 := cell_of_row w7 (w3.heap.size) 2 _ _ _ th; simp at t2; have tf2 := frozen_of_row w7 (w3.heap.size) 2 _ _ th; have t3 := cell_of_row w7 (w3.heap.size) 3 _ _ _ th; simp at t3; have tf3 := frozen_of_row w7 (w3.heap.size) 3 _ _ th; clear th
        have zr7 : w.heap.size < w7.heap.size := (Array.getElem?_eq_some_iff.1 R7.out).1
        have zt7 : w3.heap.size < w7.heap.size := (Array.getElem?_eq_some_iff.1 T7.out).1
        go_wp2
        refine bodyPost_ret (v := (.agg #[.int .i64 f, .int .i64 b1, .int .i64 a7, .int .i64 a3])) (by simp [results, Tryz.results23, go_sem, *]) rfl ?_
        exact ⟨⟨f, b1, a7, a3⟩, rfl, (((((D7.out.set (by omega) _ _).set (Nat.le_refl _) _ _).set (Nat.le_refl _) _ _).set (Nat.le_refl _) _ _).set (Nat.le_refl _) _ _).mono (by omega)⟩
      · skip
        by_cases h3 : kk = 3
        · subst h3
          go_wp2_with fail
          refine (among_lit B (u + 8) [-1, 65536] 2 _ D4.out.cur (by omega) (by simp) rfl rfl (by omega) (by omega)).mono ?_
          rintro e w7 ⟨a7, rfl, hc7, hg7⟩
          have D7 := Lib.hid (D4.out.call hc7 hg7)
          have R7 := Lib.hid (stands hg7 (by omega) (R4.out))
          have T7 := Lib.hid (stands hg7 (by omega) (T4.out))
          clear hc7 hg7
          have z7 := D7.out.size
          have rh := R7.out; have r0 := cell_of_row w7 (w.heap.size) 0 _ _ _ rh; simp at r0; have rf0 := frozen_of_row w7 (w.heap.size) 0 _ _ rh; have r1 := cell_of_row w7 (w.heap.size) 1 _ _ _ rh; simp at r1; have rf1 := frozen_of_row w7 (w.heap.size) 1 _ _ rh; have r2 := cell_of_row w7 (w.heap.size) 2 _ _ _ rh; simp at r2; have rf2 := frozen_of_row w7 (w.heap.size) 2 _ _ rh; have r3 := cell_of_row w7 (w.heap.size) 3 _ _ _ rh; simp at r3; have rf3 := frozen_of_row w7 (w.heap.size) 3 _ _ rh; clear rh
          have th := T7.out; have t0 := cell_of_row w7 (w3.heap.size) 0 _ _ _ th; simp at t0; have tf0 := frozen_of_row w7 (w3.heap.size) 0 _ _ th; have t1 := cell_of_row w7 (w3.heap.size) 1 _ _ _ th; simp at t1; have tf1 := frozen_of_row w7 (w3.heap.size) 1 _ _ th; have t2 := cell_of_row w7 (w3.heap.size) 2 _ _ _ th; simp at t2; have tf2 := frozen_of_row w7 (w3.heap.size) 2 _ _ th; have t3 := cell_of_row w7 (w3.heap.size) 3 _ _ _ th; simp at t3; have tf3 := frozen_of_row w7 (w3.heap.size) 3 _ _ th; clear th
          have zr7 : w.heap.size < w7.heap.size := (Array.getElem?_eq_some_iff.1 R7.out).1
          have zt7 : w3.heap.size < w7.heap.size := (Array.getElem?_eq_some_iff.1 T7.out).1
          go_wp2
          refine bodyPost_ret (v := (.agg #[.int .i64 f, .int .i64 b1, .int .i64 a2, .int .i64 a7])) (by simp [results, Tryz.results23, go_sem, *]) rfl ?_
          exact ⟨⟨f, b1, a2, a7⟩, rfl, (((((D7.out.set (by omega) _ _).set (Nat.le_refl _) _ _).set (Nat.le_refl _) _ _).set (Nat.le_refl _) _ _).set (Nat.le_refl _) _ _).mono (by omega)⟩
        · skip
          have rh := R4.out; have r0 := cell_of_row w4 (w.heap.size) 0 _ _ _ rh; simp at r0; have rf0 := frozen_of_row w4 (w.heap.size) 0 _ _ rh; have r1 := cell_of_row w4 (w.heap.size) 1 _ _ _ rh; simp at r1; have rf1 := frozen_of_row w4 (w.heap.size) 1 _ _ rh; have r2 := cell_of_row w4 (w.heap.size) 2 _ _ _ rh; simp at r2; have rf2 := frozen_of_row w4 (w.heap.size) 2 _ _ rh; have r3 := cell_of_row w4 (w.heap.size) 3 _ _ _ rh; simp at r3; have rf3 := frozen_of_row w4 (w.heap.size) 3 _ _ rh; clear rh
          have th := T4.out; have t0 := cell_of_row w4 (w3.heap.size) 0 _ _ _ th; simp at t0; have tf0 := frozen_of_row w4 (w3.heap.size) 0 _ _ th; have t1 := cell_of_row w4 (w3.heap.size) 1 _ _ _ th; simp at t1; have tf1 := frozen_of_row w4 (w3.heap.size) 1 _ _ th; have t2 := cell_of_row w4 (w3.heap.size) 2 _ _ _ th; simp at t2; have tf2 := frozen_of_row w4 (w3.heap.size) 2 _ _ th; have t3 := cell_of_row w4 (w3.heap.size) 3 _ _ _ th; simp at t3; have tf3 := frozen_of_row w4 (w3.heap.size) 3 _ _ th; clear th
          have zr4 : w.heap.size < w4.heap.size := (Array.getElem?_eq_some_iff.1 R4.out).1
          have zt4 : w3.heap.size < w4.heap.size := (Array.getElem?_eq_some_iff.1 T4.out).1
          go_wp2
          refine bodyPost_ret (v := (.agg #[.int .i64 f, .int .i64 b1, .int .i64 a2, .int .i64 a3])) (by simp [results, Tryz.results23, go_sem, *]) rfl ?_
          exact ⟨⟨f, b1, a2, a3⟩, rfl, ((((D4.out.set (Nat.le_refl _) _ _).set (Nat.le_refl _) _ _).set (Nat.le_refl _) _ _).set (Nat.le_refl _) _ _).mono (by omega)⟩

def LitNode : List Int := [0, 1, 2, 3, 7, -1, 8]
theorem node17_any (B u : Nat) (w : World) (h : Cur w B u) (hu : u ≤ 1000000) :
    Calls Tryz.prog 48 #[.pointer (some ⟨B, 0, none⟩)] w (Ci w B (u + 4) (fun _ => True)) := by
  have hlt := h.lt
  have H := Lib.hid h; clear h
  go_enter Tryz.func48, Tryz.ntmps48
  go_wp2_with fail
  refine (pick_any B u 24 _ (H.out.below (below_alloc1 _ _)) (by omega) (by omega) (by omega)).mono ?_
  rintro e w1 ⟨k, hk, rfl, hc, hg⟩
  have HR := Lib.hid ((lit_rd w LitNode 7 rfl (5 + k / 11) (by omega) (by omega)).grown hg (.inr (by simp [Value.ownBlock]; omega)))
  have hg1 := cur_old H.out hg
  clear hg
  go_wp2_with fail
  refine (among_any B (u + 2) _ (LitNode.take (5 + k / 11)) _ hc (by omega) HR.out (by simp [LitNode]; omega) (.inr (by simp [Value.ownBlock]; omega))).mono ?_
  rintro e w2 ⟨x, hx, rfl, hc2, hg2⟩
  go_wp2
  go_ret
  exact ⟨x, trivial, rfl, hc2.mono (by omega), grown_trans hg1 hg2⟩
theorem l2After_ex (x n : Int) (w : World) : Calls Tryz.prog 63 #[.int .i64 x, .int .i64 n] w fun e w' => (∃ y : Int, e = .returned (.int .i64 y)) ∧ w = w' := by
  go_enter Tryz.func63, Tryz.ntmps63
  go_wp2
  go_ret
  exact ⟨⟨_, rfl⟩, rfl⟩
theorem l1Least_ex (a b : Int) (w : World) : Calls Tryz.prog 64 #[.int .i64 a, .int .i64 b] w fun e w' => (∃ y : Int, e = .returned (.int .i64 y)) ∧ w = w' := by
  by_cases h : a < b
  · go_enter Tryz.func64, Tryz.ntmps64
    go_wp2
    go_ret
    exact ⟨⟨_, rfl⟩, rfl⟩
  · go_enter Tryz.func64, Tryz.ntmps64
    go_wp2
    go_ret
    exact ⟨⟨_, rfl⟩, rfl⟩

theorem grown_set (W : World) (g i : Nat) (v : Value) : W.grownBy (W.setCell ⟨g, i, none⟩ v) (some g) :=
  ⟨rfl, rfl, rfl, by simp, fun k _ hk => heap_setCell_other _ ⟨g, i, none⟩ k _ (fun e => hk (by rw [e]))⟩
/-- The call's own slice keeps where the reader moves, and where another block's cell is set. -/
theorem OwEv.neB {w W : World} {v : Value} {xs : List Ev} {B : Nat} (h : OwEv w.heap.size W v xs) (hB : B < w.heap.size) : v.ownBlock = none ∨ v.ownBlock ≠ some B := by
  cases hv : v.ownBlock with
  | none => exact .inl rfl
  | some k => exact .inr fun e => by have := (h.lt k hv).1; have := Option.some.inj e; omega
theorem OwEv.neG {C : Nat} {W W' : World} {v : Value} {xs : List Ev} {g : Nat} (h : OwEv C W v xs) (_h' : OwEv C W' v xs) (hg : W.heap.size ≤ g) : v.ownBlock = none ∨ v.ownBlock ≠ some g := by
  cases hv : v.ownBlock with
  | none => exact .inl rfl
  | some k => exact .inr fun e => by have := (h.lt k hv).2; have := Option.some.inj e; omega
theorem Dr.app {w W W' : World} {B u : Nat} {v : Value} {xs : List Ev} (h : Dr w W B u) (ho : OwEv w.heap.size W v xs) (hg : W.grownBy W' v.ownBlock) : Dr w W' B u := by
  have hlt := h.lt
  cases hv : v.ownBlock with
  | none =>
    rw [hv] at hg
    exact ⟨h.cur.below ⟨hg.os, hg.tape, hg.output, hg.size, fun k hk => hg.block k hk (by simp)⟩, grown_trans h.grown ⟨hg.os, hg.tape, hg.output, hg.size, fun k hk _ => hg.block k hk (by simp)⟩, hlt⟩
  | some g =>
    rw [hv] at hg
    have hge := (ho.lt g hv).1
    refine ⟨?_, ⟨hg.os.trans h.grown.os, hg.tape.trans h.grown.tape, hg.output.trans h.grown.output, Nat.le_trans h.size hg.size, fun k hk hne => (hg.block k (by have := h.size; omega) (by simp; omega)).trans (h.grown.block k hk hne)⟩, hlt⟩
    obtain ⟨cv, bs, n, sd, hh, hn, hr, hne⟩ := h.cur
    exact ⟨cv, bs, n, sd, (hg.block B (by have := h.size; omega) (by simp; omega)).trans hh, hn, hr.grown hg (ne_row hne (by omega)), hne⟩
theorem flat_snoc (xs : List Ev) (x : Ev) : (xs ++ [x]).flatMap Ev.cells = xs.flatMap Ev.cells ++ x.cells := by rw [List.flatMap_append]; simp
def slLen : Value → Nat
  | .slice _ n _ => n
  | _ => 0

set_option maxRecDepth 100000 in
set_option maxHeartbeats 8000000 in
theorem trace_any (B u : Nat) (w : World) (h : Cur w B u) (hu : u ≤ 100000) :
    Calls Tryz.prog 38 #[.pointer (some ⟨B, 0, none⟩)] w fun e w' => ∃ v xs, e = .returned v ∧ OwEv w.heap.size w' v xs ∧ xs.length ≤ 40 ∧ Dr w w' B (u + 1000) := by
  obtain ⟨i0, hi, hz0, hz1, hz2⟩ := info_parts infoEv
  have hlt := h.lt
  have D0 := Lib.hid (Dr.start h); clear h
  have O0 : Hid (OwEv w.heap.size (w.alloc (.cells #[] 25)) (.slice (some ⟨w.heap.size, 0, none⟩) 0 0) []) := Lib.hid ⟨World.ownsRow_lit w #[] 0 (Nat.le_refl _) (Nat.zero_le _) rfl, Nat.zero_le _⟩
  go_enter Tryz.func38, Tryz.ntmps38
  go_wp2_with fail
  refine (among_lit B (u) [0, 10, 9990] 3 _ (D0.out.alloc _).cur (by omega) (by simp) rfl rfl (by omega) (by omega)).mono ?_
  rintro e w1 ⟨a1, rfl, hc1, hg1⟩
  have D1 := Lib.hid ((D0.out.alloc _).call hc1 hg1)
  have O1 := Lib.hid (O0.out.grown hg1 (O0.out.neB hlt))
  clear hc1 hg1
  have z1 := D1.out.size
  go_wp2_with fail
  refine (among_lit B (u + 2) [0, 65534] 2 _ D1.out.cur (by omega) (by simp) rfl rfl (by omega) (by omega)).mono ?_
  rintro e w2 ⟨a2, rfl, hc2, hg2⟩
  have D2 := Lib.hid (D1.out.call hc2 hg2)
  have O2 := Lib.hid (O1.out.grown hg2 (O1.out.neB hlt))
  clear hc2 hg2
  have z2 := D2.out.size
  go_wp2_with fail
  refine (pick_any B (u + 4) 10 _ D2.out.cur (by omega) (by omega) (by omega)).mono ?_
  rintro e w3 ⟨k3, hk3, rfl, hc3, hg3⟩
  have D3 := Lib.hid (D2.out.call hc3 hg3)
  have O3 := Lib.hid (O2.out.grown hg3 (O2.out.neB hlt))
  clear hc3 hg3
  have z3 := D3.out.size
  clear D0 D1 D2 O0 O1 O2
  go_wp2
  go_loopw [3, 4, 5, 6] (fun v t m i wr => ∃ (xs : List Ev) (tt mm : Int) (j : Nat), t = .int .i64 tt ∧ m = .int .i64 mm ∧ i = .int .i64 j ∧ xs.length + j ≤ 9 ∧ OwEv w.heap.size wr v xs ∧ Dr w wr B (u + 6 + (9 - j) * 30)) (fun _ _ _ i _ => (intOf i).toNat)
  case atStart => exact ⟨[], a1, a2, k3, rfl, rfl, rfl, by simp; omega, O3.out, D3.out.mono (by omega)⟩
  case round =>
    clear D3 O3
    obtain ⟨xs, tt, mm, j, rfl, rfl, rfl, hj, hO, hD⟩ := hrel
    have zr := hD.size
    by_cases hj0 : 0 < j
    · obtain ⟨j', rfl⟩ : ∃ j', j = j' + 1 := ⟨j - 1, by omega⟩
      have OO := Lib.hid hO; clear hO
      have DD := Lib.hid hD; clear hD
      go_wp2_with fail
      refine (event_any B _ tt wr DD.out.cur (by omega)).mono ?_
      rintro e W1 ⟨⟨xt, xn, xk, xm⟩, rfl, d1⟩
      have D1 := Lib.hid (DD.out.call d1.cur d1.grown)
      have O1 := Lib.hid (OO.out.grown d1.grown (OO.out.neB hlt))
      clear d1 DD OO
      have z1 := D1.out.size
      go_wp2_with fail
      refine (one_any B _ 2 _ (D1.out.alloc _).cur (by omega) (by omega) (by omega)).mono ?_
      rintro e W2 ⟨b, rfl, hc2, hg2⟩
      have D2 := Lib.hid ((D1.out.alloc _).call hc2 hg2)
      have T2 := Lib.hid (stands hg2 (by omega) (heap_alloc_new W1 _))
      have ho1 : OwEv w.heap.size (W1.alloc (.cells #[.int .i64 xt, .int .i64 xn, .int .i64 xk, .int .i64 xm] 25)) u3 xs := O1.out.below (below_alloc1 _ _)
      have O2 := Lib.hid (ho1.grown hg2 (ho1.neB hlt))
      have hne : u3.ownBlock = none ∨ u3.ownBlock ≠ some W1.heap.size := O1.out.neG O1.out (Nat.le_refl _)
      have HNE := Lib.hid hne
      clear hc2 hg2 ho1 D1 O1 hne
      have z2 := D2.out.size
      have zt2 : W1.heap.size < W2.heap.size := (Array.getElem?_eq_some_iff.1 T2.out).1
      cases b
      · skip
        have th := T2.out; have t0 := cell_of_row W2 (W1.heap.size) 0 _ _ _ th; simp at t0; have tf0 := frozen_of_row W2 (W1.heap.size) 0 _ _ th; have t1 := cell_of_row W2 (W1.heap.size) 1 _ _ _ th; simp at t1; have tf1 := frozen_of_row W2 (W1.heap.size) 1 _ _ th; have t2 := cell_of_row W2 (W1.heap.size) 2 _ _ _ th; simp at t2; have tf2 := frozen_of_row W2 (W1.heap.size) 2 _ _ th; have t3 := cell_of_row W2 (W1.heap.size) 3 _ _ _ th; simp at t3; have tf3 := frozen_of_row W2 (W1.heap.size) 3 _ _ th; clear th
        go_wp2_with (first | (at_builtin; go_loud (refine wpList_append_own _ rfl _ _ 32 rfl w.heap.size 25 i0 (.agg #[.int .i64 0, .int .i64 0, .int .i64 0, .int .i64 0]) 4 32 Tryz.underlying32 hi hz0 hz1 hz2 rfl (by decide) _ _ _ rfl ((O2.out).1.alloc _) ⟨W2.heap.size, 0, none⟩ 1 1 [.int .i64 xt, .int .i64 xn, .int .i64 xk, .int .i64 xm] rfl rfl ?c15 ?c25 ?c35 ?c45 ?c55 ?_)))
        try (case c15 => first | exact cells_at _ #[_, _, _, _] _ (by simp) | rfl)
        try (case c25 => first | rfl | (intro u hu; simp at hu; rcases hu with rfl | rfl | rfl | rfl <;> rfl) | simp)
        try (case c35 => first | omega | (unfold maxLen; omega))
        try (case c45 => first | omega | ((try simp only [World.heap_size_alloc]); omega))
        try (case c55 => first | omega | (simp; omega))
        intro v5 w5 hown5 hgrow5
        try intro _
        have D5 := Lib.hid (Dr.app ((D2.out).alloc (.cells #[.int .i64 xt, .int .i64 xn, .int .i64 xk, .int .i64 xm] 25)) ((O2.out).below (below_alloc1 _ _)) hgrow5)
        have O5 : Hid (OwEv w.heap.size w5 v5 (xs ++ [⟨xt, xn, xk, xm⟩])) := Lib.hid ⟨by rw [flat_snoc, List.length_append]; exact hown5, by simp; omega⟩
        clear hown5 hgrow5
        have z5 := D5.out.size
        go_wp2_with fail
        refine (among_lit B _ [0, 0, 1, 7] 4 _ D5.out.cur (by omega) (by simp) rfl rfl (by omega) (by omega)).mono ?_
        rintro e w5b ⟨a5, rfl, hc5, hg5⟩
        have D5b := Lib.hid (D5.out.call hc5 hg5)
        have O5b := Lib.hid (O5.out.grown hg5 (O5.out.neB hlt))
        clear hc5 hg5
        go_wp2_with fail
        refine (l1Least_ex _ _ _).mono ?_
        rintro e w' ⟨⟨y5, rfl⟩, rfl⟩
        go_wp2
        go_roundw
        case rel => exact ⟨_, y5, _, j', rfl, rfl, by go_num, by simp; omega, O5b.out, D5b.out.mono (by omega)⟩
        case measure => (simp [intOf]; try omega)
      · skip
        have th := T2.out; have t0 := cell_of_row W2 (W1.heap.size) 0 _ _ _ th; simp at t0; have tf0 := frozen_of_row W2 (W1.heap.size) 0 _ _ th; have t1 := cell_of_row W2 (W1.heap.size) 1 _ _ _ th; simp at t1; have tf1 := frozen_of_row W2 (W1.heap.size) 1 _ _ th; have t2 := cell_of_row W2 (W1.heap.size) 2 _ _ _ th; simp at t2; have tf2 := frozen_of_row W2 (W1.heap.size) 2 _ _ th; have t3 := cell_of_row W2 (W1.heap.size) 3 _ _ _ th; simp at t3; have tf3 := frozen_of_row W2 (W1.heap.size) 3 _ _ th; clear th
        have T2s := set_at T2.out 3 (.int .i64 mm)
        have D2s := Lib.hid (D2.out.set (g := W1.heap.size) (by omega) 3 (.int .i64 mm))
        have O2s := Lib.hid (O2.out.grown (grown_set W2 W1.heap.size 3 (.int .i64 mm)) HNE.out)
        simp at T2s
        go_wp2_with fail
        refine (pick_any B _ 2 _ D2s.out.cur (by omega) (by omega) (by omega)).mono ?_
        rintro e W3 ⟨k6, hk6, rfl, hc3, hg3⟩
        have D3 := Lib.hid (D2s.out.call hc3 hg3)
        have T3 := Lib.hid (stands hg3 (by omega) T2s)
        have O3 := Lib.hid (O2s.out.grown hg3 (O2s.out.neB hlt))
        clear hc3 hg3 T2s D2s O2s D2 O2 T2 t0 tf0 t1 tf1 t2 tf2 t3 tf3
        have z3 := D3.out.size
        have zt3 : W1.heap.size < W3.heap.size := (Array.getElem?_eq_some_iff.1 T3.out).1
        have D3s := Lib.hid (D3.out.set (g := W1.heap.size) (by omega) 1 (.int .i64 (k6 : Int)))
        have O3s := Lib.hid (O3.out.grown (grown_set W3 W1.heap.size 1 (.int .i64 (k6 : Int))) HNE.out)
        have th := T3.out; have t0 := cell_of_row W3 (W1.heap.size) 0 _ _ _ th; simp at t0; have tf0 := frozen_of_row W3 (W1.heap.size) 0 _ _ th; have t1 := cell_of_row W3 (W1.heap.size) 1 _ _ _ th; simp at t1; have tf1 := frozen_of_row W3 (W1.heap.size) 1 _ _ th; have t2 := cell_of_row W3 (W1.heap.size) 2 _ _ _ th; simp at t2; have tf2 := frozen_of_row W3 (W1.heap.size) 2 _ _ th; have t3 := cell_of_row W3 (W1.heap.size) 3 _ _ _ th; simp at t3; have tf3 := frozen_of_row W3 (W1.heap.size) 3 _ _ th; clear th
        by_cases hk4 : xk = 4
        · subst hk4
          go_wp2_with fail
          refine (l2After_ex _ _ _).mono ?_
          rintro e w' ⟨⟨y6, rfl⟩, rfl⟩
          go_wp2_with (first | (at_builtin; go_loud (refine wpList_append_own _ rfl _ _ 32 rfl w.heap.size 25 i0 (.agg #[.int .i64 0, .int .i64 0, .int .i64 0, .int .i64 0]) 4 32 Tryz.underlying32 hi hz0 hz1 hz2 rfl (by decide) _ _ _ rfl ((O3s.out).1.alloc _) ⟨W3.heap.size, 0, none⟩ 1 1 [.int .i64 xt, .int .i64 (k6 : Int), .int .i64 4, .int .i64 mm] rfl rfl ?c17 ?c27 ?c37 ?c47 ?c57 ?_)))
          try (case c17 => first | exact cells_at _ #[_, _, _, _] _ (by simp) | rfl)
          try (case c27 => first | rfl | (intro u hu; simp at hu; rcases hu with rfl | rfl | rfl | rfl <;> rfl) | simp)
          try (case c37 => first | omega | (unfold maxLen; omega))
          try (case c47 => first | omega | ((try simp only [World.heap_size_alloc]); omega))
          try (case c57 => first | omega | (simp; omega))
          intro v7 w7 hown7 hgrow7
          try intro _
          have D7 := Lib.hid (Dr.app ((D3s.out).alloc (.cells #[.int .i64 xt, .int .i64 (k6 : Int), .int .i64 4, .int .i64 mm] 25)) ((O3s.out).below (below_alloc1 _ _)) hgrow7)
          have O7 : Hid (OwEv w.heap.size w7 v7 (xs ++ [⟨xt, (k6 : Int), 4, mm⟩])) := Lib.hid ⟨by rw [flat_snoc, List.length_append]; exact hown7, by simp; omega⟩
          clear hown7 hgrow7
          have z7 := D7.out.size
          go_wp2_with fail
          refine (among_lit B _ [0, 0, 1, 7] 4 _ D7.out.cur (by omega) (by simp) rfl rfl (by omega) (by omega)).mono ?_
          rintro e w7b ⟨a7, rfl, hc7, hg7⟩
          have D7b := Lib.hid (D7.out.call hc7 hg7)
          have O7b := Lib.hid (O7.out.grown hg7 (O7.out.neB hlt))
          clear hc7 hg7
          go_wp2_with fail
          refine (l1Least_ex _ _ _).mono ?_
          rintro e w' ⟨⟨y7, rfl⟩, rfl⟩
          go_wp2
          go_roundw
          case rel => exact ⟨_, y7, _, j', rfl, rfl, by go_num, by simp; omega, O7b.out, D7b.out.mono (by omega)⟩
          case measure => (simp [intOf]; try omega)
        · skip
          go_wp2_with (first | (at_builtin; go_loud (refine wpList_append_own _ rfl _ _ 32 rfl w.heap.size 25 i0 (.agg #[.int .i64 0, .int .i64 0, .int .i64 0, .int .i64 0]) 4 32 Tryz.underlying32 hi hz0 hz1 hz2 rfl (by decide) _ _ _ rfl ((O3s.out).1.alloc _) ⟨W3.heap.size, 0, none⟩ 1 1 [.int .i64 xt, .int .i64 (k6 : Int), .int .i64 xk, .int .i64 mm] rfl rfl ?c18 ?c28 ?c38 ?c48 ?c58 ?_)))
          try (case c18 => first | exact cells_at _ #[_, _, _, _] _ (by simp) | rfl)
          try (case c28 => first | rfl | (intro u hu; simp at hu; rcases hu with rfl | rfl | rfl | rfl <;> rfl) | simp)
          try (case c38 => first | omega | (unfold maxLen; omega))
          try (case c48 => first | omega | ((try simp only [World.heap_size_alloc]); omega))
          try (case c58 => first | omega | (simp; omega))
          intro v8 w8 hown8 hgrow8
          try intro _
          have D8 := Lib.hid (Dr.app ((D3s.out).alloc (.cells #[.int .i64 xt, .int .i64 (k6 : Int), .int .i64 xk, .int .i64 mm] 25)) ((O3s.out).below (below_alloc1 _ _)) hgrow8)
          have O8 : Hid (OwEv w.heap.size w8 v8 (xs ++ [⟨xt, (k6 : Int), xk, mm⟩])) := Lib.hid ⟨by rw [flat_snoc, List.length_append]; exact hown8, by simp; omega⟩
          clear hown8 hgrow8
          have z8 := D8.out.size
          go_wp2_with fail
          refine (among_lit B _ [0, 0, 1, 7] 4 _ D8.out.cur (by omega) (by simp) rfl rfl (by omega) (by omega)).mono ?_
          rintro e w8b ⟨a8, rfl, hc8, hg8⟩
          have D8b := Lib.hid (D8.out.call hc8 hg8)
          have O8b := Lib.hid (O8.out.grown hg8 (O8.out.neB hlt))
          clear hc8 hg8
          go_wp2_with fail
          refine (l1Least_ex _ _ _).mono ?_
          rintro e w' ⟨⟨y8, rfl⟩, rfl⟩
          go_wp2
          go_roundw
          case rel => exact ⟨_, y8, _, j', rfl, rfl, by go_num, by simp; omega, O8b.out, D8b.out.mono (by omega)⟩
          case measure => (simp [intOf]; try omega)
    · have OO := Lib.hid hO; clear hO
      have DD := Lib.hid hD; clear hD
      go_wp2_with fail
      refine (one_any B _ 24 _ DD.out.cur (by omega) (by omega) (by omega)).mono ?_
      rintro e W2 ⟨b, rfl, hc2, hg2⟩
      have D2 := Lib.hid (DD.out.call hc2 hg2)
      have O2 := Lib.hid (OO.out.grown hg2 (OO.out.neB hlt))
      clear hc2 hg2 DD OO
      cases b
      · go_wp2
        refine bodyPost_ret (v := u3) (by simp [results, Tryz.results38, go_sem, *]) rfl ?_
        exact ⟨_, _, rfl, O2.out, by omega, D2.out.mono (by omega)⟩
      · go_wp2
        go_loopw [3] (fun v wr => ∃ ys : List Ev, ys.length ≤ 32 ∧ OwEv w.heap.size wr v ys ∧ Dr w wr B (u + 300 + ys.length * 3)) (fun v _ => 40 - slLen v)
        case atStart => exact ⟨xs, by omega, O2.out, D2.out.mono (by omega)⟩
        case round =>
          clear D2 O2
          rename_i wq
          obtain ⟨ys, hl, hO, hD⟩ := hrel
          obtain ⟨p1, cap1, g1, rfl, hcap1, hp1⟩ := own_shape hO.1
          clear hp1
          have OO := Lib.hid hO; clear hO
          have DD := Lib.hid hD; clear hD
          go_wp2_with fail
          refine (pick_any B _ 2 _ DD.out.cur (by omega) (by omega) (by omega)).mono ?_
          rintro e W3 ⟨k6, hk6, rfl, hc3, hg3⟩
          have D3 := Lib.hid (DD.out.call hc3 hg3)
          have O3 := Lib.hid (OO.out.grown hg3 (OO.out.neB hlt))
          clear hc3 hg3 OO DD
          have z3 := D3.out.size
          by_cases hlt2 : (ys.length : Int) < 30 + (k6 : Int)
          · skip
            go_wp2_with (first | (at_builtin; go_loud (refine wpList_append_own _ rfl _ _ 32 rfl w.heap.size 25 i0 (.agg #[.int .i64 0, .int .i64 0, .int .i64 0, .int .i64 0]) 4 32 Tryz.underlying32 hi hz0 hz1 hz2 rfl (by decide) _ _ _ rfl ((O3.out).1.alloc _) ⟨W3.heap.size, 0, none⟩ 1 1 [.int .i64 10000, .int .i64 0, .int .i64 2, .int .i64 0] rfl rfl ?c19 ?c29 ?c39 ?c49 ?c59 ?_)))
            try (case c19 => first | exact cells_at _ #[_, _, _, _] _ (by simp) | rfl)
            try (case c29 => first | rfl | (intro u hu; simp at hu; rcases hu with rfl | rfl | rfl | rfl <;> rfl) | simp)
            try (case c39 => first | omega | (unfold maxLen; omega))
            try (case c49 => first | omega | ((try simp only [World.heap_size_alloc]); omega))
            try (case c59 => first | omega | (simp; omega))
            intro v9 w9 hown9 hgrow9
            try intro _
            have D9 := Lib.hid (Dr.app (D3.out.alloc (.cells #[.int .i64 10000, .int .i64 0, .int .i64 2, .int .i64 0] 25)) (O3.out.below (below_alloc1 _ _)) hgrow9)
            have O9 : Hid (OwEv w.heap.size w9 v9 (ys ++ [⟨10000, 0, 2, 0⟩])) := Lib.hid ⟨by rw [flat_snoc, List.length_append]; exact hown9, by simp; omega⟩
            obtain ⟨p9, cap9, g9, rfl, _, _⟩ := own_shape O9.out.1
            clear hown9 hgrow9
            go_wp2
            go_roundw
            case rel => exact ⟨ys ++ [⟨10000, 0, 2, 0⟩], by simp; omega, O9.out, D9.out.mono (by simp; omega)⟩
            case measure => (simp [slLen]; try omega)
          · go_wp2
            refine bodyPost_ret (v := (.slice p1 ys.length cap1)) (by simp [results, Tryz.results38, go_sem, *]) rfl ?_
            exact ⟨_, _, rfl, O3.out, by omega, D3.out.mono (by omega)⟩
end Go.Proofs.YtohbkohidpgjpaaGreatDoor
