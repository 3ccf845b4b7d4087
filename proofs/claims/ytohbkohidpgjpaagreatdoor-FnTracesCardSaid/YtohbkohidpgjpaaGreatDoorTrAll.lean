/- The library's two errors: what a row's list of variables says of their cells. -/
import Derived.Test.YtohbkohidpgjpaaGreatDoorEvDraw
import Derived.Deep.DeepCutAuto
import Derived.Test.YtohbkohidpgjpaaGreatDoorDrawKit
import Derived.Test.YtohbkohidpgjpaaGreatDoorStrS
import Derived.BigQuiet
import Derived.Test.YtohbkohidpgjpaaGreatDoorPeSpec
import Derived.Test.YtohbkohidpgjpaaGreatDoorMgMath
import Derived.Test.YtohbkohidpgjpaaGreatDoorEvS
import Derived.Test.YtohbkohidpgjpaaGreatDoorKeep
import Derived.Test.YtohbkohidpgjpaaGreatDoorEvList
import Derived.Test.YtohbkohidpgjpaaGreatDoorMem
import Derived.Test.YtohbkohidpgjpaaGreatDoorCur
import Derived.Test.YtohbkohidpgjpaaGreatDoorLawKit
import Derived.Test.YtohbkohidpgjpaaGreatDoorEvTx
import Derived.Lib.LaidU8
import Derived.Test.YtohbkohidpgjpaaGreatDoorNumT
import Derived.Lib.LaidTab
import Derived.Test.YtohbkohidpgjpaaGreatDoorAtoiT
import Derived.Stop.LaidErr
/- Contracts of the reference's drawings for the law on releases: each answers SOME trace and numbers. -/
namespace Go.Proofs.YtohbkohidpgjpaaGreatDoor
open Go.RowKit

def SomeT (w : World) (e : Ending) (w' : World) : Prop := ∃ v xs, e = .returned v ∧ OwEv w.heap.size w' v xs ∧ xs.length ≤ 40 ∧ Below w.heap.size w w'
def SomeTI (w : World) (e : Ending) (w' : World) : Prop := ∃ v xs, ∃ y : Int, e = .returned (.tuple #[v, .int .i64 y]) ∧ OwEv w.heap.size w' v xs ∧ xs.length ≤ 40 ∧ Below w.heap.size w w'
theorem new_dr {w w' : World} {o : Obj} {u : Nat} (h : Dr (w.alloc o) w' w.heap.size u) : Below w.heap.size w w' := new_grown h.grown
theorem drawEvents_any (v : Value) (bs : List Int) (w : World) (h : RdY w v bs) :
    Calls Tryz.prog 19 #[v] w (SomeTI w) := by
  obtain ⟨p, cap, b, off, rfl, _, _, _⟩ := h.parts
  have HC := Lib.hid (cur_new w _ bs h); clear h
  go_enter Tryz.func19, Tryz.ntmps19
  go_wp2_with fail
  refine (trace_any w.heap.size 0 _ HC.out (by omega)).mono ?_
  rintro e w1 ⟨v1, xs, rfl, ho, hl, hd⟩
  have HO := Lib.hid ho; clear ho
  have HD := Lib.hid hd; clear hd
  go_wp2_with fail
  refine (node17_any w.heap.size _ _ HD.out.cur (by omega)).mono ?_
  rintro e w2 ⟨y, _, rfl, hc, hg⟩
  have HG := Lib.hid hg; clear hg
  go_wp2
  refine bodyPost_ret (v := (.tuple #[v1, .int .i64 y])) (by simp [results, Tryz.results19, go_sem, *]) rfl ?_
  exact ⟨v1, xs, y, rfl, (HO.out.base (by simp)).grown HG.out ((HO.out).neB (by simp)), hl, new_dr (HD.out.call hc HG.out)⟩
end Go.Proofs.YtohbkohidpgjpaaGreatDoor

/- The reader's choice among texts, and the text with a byte more, less, or another one. Condition: at most 2^40 reads. -/
namespace Go.Proofs.YtohbkohidpgjpaaGreatDoor
open Go.RowKit

theorem lit_rdS (w : World) (xs : List ByteArray) (N : Nat) (hN : xs.length = N) (hn : N ≤ 1073741824) (hok : ∀ x ∈ xs, x.size ≤ 9223372036854775807) :
    RdS (w.alloc (.cells (xs.map Value.string).toArray 9)) (.slice (some ⟨w.heap.size, 0, none⟩) N N) xs := by
  subst hN
  refine ⟨⟨by simp, some ⟨w.heap.size, 0, none⟩, xs.length, w.heap.size, 0, rfl, Nat.le_refl _, (by intro h; cases h), fun _ => ⟨rfl, fun j hj => ?_⟩⟩, hn, hok⟩
  rw [cell_of_row _ w.heap.size _ _ _ (0, 0) (heap_alloc_new w _)]
  simp

def Ct8 (w : World) (B u N : Nat) (e : Ending) (w' : World) : Prop := ∃ x : ByteArray, x.size ≤ N ∧ e = .returned (.string x) ∧ Cur w' B u ∧ w.grownBy w' (some B)
set_option maxRecDepth 100000 in
set_option maxHeartbeats 4000000 in
theorem spoilt_any (B u : Nat) (t s : ByteArray) (w : World) (h : Cur w B u) (hu : u ≤ 1000000) (ht : t.size ≤ 1048576) (hs : s.size ≤ 100) (hs1 : 1 ≤ s.size) :
    Calls Tryz.prog 34 #[.pointer (some ⟨B, 0, none⟩), .string t, .string s] w (Ct8 w B (u + 6) (t.size + 1)) := by
  have H := Lib.hid h; clear h
  cases he : t.toList.isEmpty
  · have ht0 : 0 < t.size := by
      rw [ByteArray.toList_eq, List.isEmpty_eq_false_iff] at he
      have h1 : t.data.toList.length = t.size := Array.length_toList
      have := List.length_pos_iff.2 he
      omega
    go_enter Tryz.func34, Tryz.ntmps34
    go_wp2_with fail
    refine (pick_any B u t.size _ H.out (by omega) (by omega) (by omega)).mono ?_
    rintro e w1 ⟨i, hi, rfl, hc1, hg1⟩
    have HC := Lib.hid hc1; clear hc1
    have HG := Lib.hid hg1; clear hg1
    go_wp2_with fail
    refine (pick_any B _ s.size _ HC.out (by omega) (by omega) (by omega)).mono ?_
    rintro e w2 ⟨k, hk, rfl, hc2, hg2⟩
    have HC2 := Lib.hid hc2; clear hc2
    have HG2 := Lib.hid (grown_trans HG.out hg2); clear hg2 HG HC
    have hx1 : ((s.extract k s.size).extract 0 1).size = 1 := by simp; omega
    have hx2 : (s.extract k s.size).size = s.size - k := by simp
    go_wp2_with fail
    refine (pick_any B _ 3 _ HC2.out (by omega) (by omega) (by omega)).mono ?_
    rintro e w3 ⟨j, hj, rfl, hc3, hg3⟩
    have HC3 := Lib.hid hc3; clear hc3
    have HG3 := Lib.hid (grown_trans HG2.out hg3); clear hg3 HG2 HC2
    have e1 : (t.extract 0 i).size = i := by simp; omega
    have e2 : (t.extract i t.size).size = t.size - i := by simp
    have e3 : (t.extract (i + 1) t.size).size = t.size - (i + 1) := by simp
    generalize (s.extract k s.size).extract 0 1 = x at *
    have fin : ∀ y : ByteArray, y.size ≤ t.size + 1 → ∀ n, Ct8 w B (u + 6) (t.size + 1) (.returned (.string y)) (w3.drewN n) := fun y hy n => ⟨y, hy, rfl, HC3.out.below (below_eq ⟨n, rfl⟩), grown_trans HG3.out (grown_below (below_eq ⟨n, rfl⟩))⟩
    have FIN := Lib.hid fin; clear fin
    generalize hjj : (j : Int) = jj
    clear hjj
    by_cases q0 : jj = 0
    · subst q0
      go_wp2_with fail
      go_quiet (fail)
      go_wp2
      refine bodyPost_ret (v := (.string (t.extract 0 i ++ x ++ t.extract i t.size))) (by simp [results, Tryz.results34, go_sem, *]) rfl ?_
      exact FIN.out _ (by simp only [ByteArray.size_append]; omega) _
    · by_cases q1 : jj = 1
      · subst q1
        go_wp2_with fail
        go_quiet (fail)
        go_wp2
        refine bodyPost_ret (v := (.string (t.extract 0 i ++ x ++ t.extract (i + 1) t.size))) (by simp [results, Tryz.results34, go_sem, *]) rfl ?_
        exact FIN.out _ (by simp only [ByteArray.size_append]; omega) _
      · go_wp2_with fail
        go_quiet (fail)
        go_wp2
        refine bodyPost_ret (v := (.string (t.extract 0 i ++ t.extract (i + 1) t.size))) (by simp [results, Tryz.results34, go_sem, *]) rfl ?_
        exact FIN.out _ (by simp only [ByteArray.size_append]; omega) _
  · have hx1 : (s.extract 0 1).size = 1 := by simp; omega
    go_enter Tryz.func34, Tryz.ntmps34
    go_wp2
    go_ret
    exact ⟨_, by rw [hx1]; omega, rfl, H.out.mono (by omega), World.grownBy.refl _ _⟩
end Go.Proofs.YtohbkohidpgjpaaGreatDoor

/- Contracts of the reference's drawings for the law on traces: each answers SOME event, text, traces. -/
namespace Go.Proofs.YtohbkohidpgjpaaGreatDoor
open Go.RowKit

theorem own_ne {C B : Nat} {W : World} {v : Value} {xs : List Ev} (h : OwEv C W v xs) (hB : B < C) : v.ownBlock = none ∨ v.ownBlock ≠ some B := by
  cases hv : v.ownBlock with
  | none => exact .inl rfl
  | some k =>
    refine .inr fun e => ?_
    have := (h.lt k hv).1
    have := Option.some.inj e
    omega
abbrev evZ : Obj := .cells #[.int .i64 0, .int .i64 0, .int .i64 0, .int .i64 0] 25
set_option maxRecDepth 100000 in
theorem drawEvText_any (v : Value) (bs : List Int) (w : World) (h : RdY w v bs) :
    Calls Tryz.prog 5 #[v] w fun e w' => ∃ x : Ev, e = .returned x.v ∧ Below w.heap.size w w' := by
  have HC0 := cur_new (w.alloc evZ) _ bs (h.below (below_alloc1 _ _))
  obtain ⟨p, cap, b, off, rfl, _, _, _⟩ := h.parts
  simp only [World.size_alloc] at HC0
  have HC := Lib.hid HC0; clear h HC0
  go_enter Tryz.func5, Tryz.ntmps5
  go_wp2_with fail
  refine (among_lit (w.heap.size + 1) 0 [0, 12, 10000] 3 _ HC.out (by omega) (by simp) rfl rfl (by omega) (by omega)).mono ?_
  rintro e w1 ⟨a, rfl, hc1, hg1⟩
  have HG1 := Lib.hid hg1; clear hg1
  go_wp2_with fail
  refine (event_any (w.heap.size + 1) _ a _ hc1 (by omega)).mono ?_
  rintro e w2 ⟨x, rfl, hd⟩
  have HG2 := Lib.hid (grown_trans HG1.out hd.grown); clear hd hc1
  have R2 := Lib.hid ((HG2.out.block w.heap.size (by simp <;> omega) (by simp)).trans (heap_alloc2_old w _ _))
  have HB : Hid (Below w.heap.size w w2) := Lib.hid (Below.trans (below_alloc1 w evZ) (Below.mono (new_grown (w := w.alloc evZ) (by rw [World.size_alloc]; exact HG2.out)) (by simp <;> omega)))
  have rh := R2.out; have r0 := cell_of_row w2 (w.heap.size) 0 _ _ _ rh; simp at r0; have rf0 := frozen_of_row w2 (w.heap.size) 0 _ _ rh; have r1 := cell_of_row w2 (w.heap.size) 1 _ _ _ rh; simp at r1; have rf1 := frozen_of_row w2 (w.heap.size) 1 _ _ rh; have r2 := cell_of_row w2 (w.heap.size) 2 _ _ _ rh; simp at r2; have rf2 := frozen_of_row w2 (w.heap.size) 2 _ _ rh; have r3 := cell_of_row w2 (w.heap.size) 3 _ _ _ rh; simp at r3; have rf3 := frozen_of_row w2 (w.heap.size) 3 _ _ rh; clear rh
  have zr : w.heap.size < w2.heap.size := (Array.getElem?_eq_some_iff.1 R2.out).1
  obtain ⟨xt, xn, xk, xm⟩ := x
  go_wp2
  refine bodyPost_ret (v := (.agg #[.int .i64 xt, .int .i64 xn, .int .i64 xk, .int .i64 xm])) (by simp [results, Tryz.results5, go_sem, *]) rfl ?_
  refine ⟨⟨xt, xn, xk, xm⟩, rfl, ?_⟩
  repeat refine Below.setCell ?_ (by simp <;> omega) _
  exact HB.out
theorem evtV_size (x : Ev) : (evtV x).size ≤ 1000 := by
  cases hB : evB x with
  | false => rw [evtV, hB]; exact Nat.zero_le _
  | true =>
    obtain ⟨t, n, k, m, rfl, h1, h2, h3, h4, h5⟩ := evB_nat hB
    rw [evtV, if_pos hB, evT_nat]
    have := numT_small (n := t) (by omega)
    have := numT_small (n := n) (by omega)
    have := numT_small (n := m) (by omega)
    have := trW_size k
    simp only [ByteArray.size_append]
    have e1 : (⟨#[58, 32, 110, 111, 100, 101, 32]⟩ : ByteArray).size = 7 := rfl
    have e2 : (⟨#[32]⟩ : ByteArray).size = 1 := rfl
    omega
set_option maxRecDepth 100000 in
set_option maxHeartbeats 2000000 in
theorem drawParse_any (v : Value) (bs : List Int) (w : World) (h : RdY w v bs) :
    Calls Tryz.prog 9 #[v] w fun e w' => ∃ s : ByteArray, e = .returned (.string s) ∧ s.size ≤ 1048576 ∧ Below w.heap.size w w' := by
  obtain ⟨p, cap, b, off, rfl, _, _, _⟩ := h.parts
  have HC := Lib.hid (cur_new w _ bs h); clear h
  go_enter Tryz.func9, Tryz.ntmps9
  go_wp2_with fail
  refine (among_lit w.heap.size 0 [0, 12, 10000] 3 _ HC.out (by omega) (by simp) rfl rfl (by omega) (by omega)).mono ?_
  rintro e w1 ⟨a, rfl, hc1, hg1⟩
  have HG1 := Lib.hid hg1; clear hg1
  go_wp2_with fail
  refine (event_any w.heap.size _ a _ hc1 (by omega)).mono ?_
  rintro e w2 ⟨x, rfl, hd⟩
  have HC2 := Lib.hid hd.cur
  have HG2 := Lib.hid (grown_trans HG1.out hd.grown); clear hd hc1
  have hT := evtV_size x
  go_wp2_with fail
  refine (specText17_any x _).mono ?_
  rintro e w3 ⟨rfl, hb⟩
  have HC3 := Lib.hid (HC2.out.below hb)
  have HG3 := Lib.hid (grown_trans HG2.out (grown_below hb)); clear hb
  generalize evtV x = tx at *
  generalize evB x = bx at *
  go_wp2_with fail
  refine (one_any w.heap.size _ 4 _ HC3.out (by omega) (by omega) (by omega)).mono ?_
  rintro e w4 ⟨q, rfl, hc4, hg4⟩
  have HG4 := Lib.hid (grown_trans HG3.out hg4); clear hg4
  cases q
  · go_wp2
    refine bodyPost_ret (v := (.string tx)) (by simp [results, Tryz.results9, go_sem, *]) rfl ?_
    exact ⟨tx, rfl, by omega, new_grown HG4.out⟩
  · go_wp2_with fail
    refine (spoilt_any w.heap.size _ tx ⟨#[48, 58, 32, 110, 108]⟩ _ hc4 (by omega) (by omega) (by decide) (by decide)).mono ?_
    rintro e w5 ⟨y, hy, rfl, hc5, hg5⟩
    have HG5 := Lib.hid (grown_trans HG4.out hg5); clear hg5 hc5
    go_wp2
    refine bodyPost_ret (v := (.string y)) (by simp [results, Tryz.results9, go_sem, *]) rfl ?_
    exact ⟨y, rfl, by omega, new_grown HG5.out⟩
theorem OwEv.setg {C : Nat} {W : World} {v : Value} {xs : List Ev} {g : Nat} (h : OwEv C W v xs) (hg : g < C) (i : Nat) (u : Value) : OwEv C (W.setCell ⟨g, i, none⟩ u) v xs :=
  h.grown (grown_set W g i u) (by
    cases hv : v.ownBlock with
    | none => exact .inl rfl
    | some k =>
      refine .inr fun e => ?_
      have := (h.lt k hv).1
      have := Option.some.inj e
      omega)
set_option maxRecDepth 100000 in
theorem drawAdd_any (v : Value) (bs : List Int) (w : World) (h : RdY w v bs) :
    Calls Tryz.prog 11 #[v] w fun e w' => ∃ u xs, ∃ x : Ev, e = .returned (.tuple #[u, x.v]) ∧ OwEv w.heap.size w' u xs ∧ xs.length ≤ 40 ∧ Below w.heap.size w w' := by
  have HC0 := cur_new (w.alloc evZ) _ bs (h.below (below_alloc1 _ _))
  obtain ⟨p, cap, b, off, rfl, _, _, _⟩ := h.parts
  simp only [World.size_alloc] at HC0
  have HC := Lib.hid HC0; clear h HC0
  go_enter Tryz.func11, Tryz.ntmps11
  go_wp2_with fail
  refine (trace_any (w.heap.size + 1) 0 _ HC.out (by omega)).mono ?_
  rintro e w0 ⟨u, xs, rfl, ho, hl, hd⟩
  simp only [World.size_alloc] at ho
  have HO := Lib.hid ho; clear ho
  have HD := Lib.hid hd; clear hd
  go_wp2_with fail
  refine (among_lit (w.heap.size + 1) _ [0, 5, 11, 9995] 4 _ HD.out.cur (by omega) (by simp) rfl rfl (by omega) (by omega)).mono ?_
  rintro e w1 ⟨a, rfl, hc1, hg1⟩
  have HG1 := Lib.hid hg1; clear hg1
  go_wp2_with fail
  refine (event_any (w.heap.size + 1) _ a _ hc1 (by omega)).mono ?_
  rintro e w2 ⟨x, rfl, hd⟩
  have HG3 := Lib.hid (grown_trans HG1.out hd.grown)
  have HG2 := Lib.hid (grown_trans HD.out.grown HG3.out); clear hd hc1
  have HO2 := Lib.hid (HO.out.grown HG3.out (own_ne HO.out (by omega)))
  have R2 := Lib.hid ((HG2.out.block w.heap.size (by simp <;> omega) (by simp)).trans (heap_alloc2_old w _ _))
  have HB : Hid (Below w.heap.size w w2) := Lib.hid (Below.trans (below_alloc1 w evZ) (Below.mono (new_grown (w := w.alloc evZ) (by rw [World.size_alloc]; exact HG2.out)) (by simp <;> omega)))
  have rh := R2.out; have r0 := cell_of_row w2 (w.heap.size) 0 _ _ _ rh; simp at r0; have rf0 := frozen_of_row w2 (w.heap.size) 0 _ _ rh; have r1 := cell_of_row w2 (w.heap.size) 1 _ _ _ rh; simp at r1; have rf1 := frozen_of_row w2 (w.heap.size) 1 _ _ rh; have r2 := cell_of_row w2 (w.heap.size) 2 _ _ _ rh; simp at r2; have rf2 := frozen_of_row w2 (w.heap.size) 2 _ _ rh; have r3 := cell_of_row w2 (w.heap.size) 3 _ _ _ rh; simp at r3; have rf3 := frozen_of_row w2 (w.heap.size) 3 _ _ rh; clear rh
  have zr : w.heap.size < w2.heap.size := (Array.getElem?_eq_some_iff.1 R2.out).1
  obtain ⟨xt, xn, xk, xm⟩ := x
  obtain ⟨p1, cap1, g1, rfl, _, _⟩ := own_shape HO.out.1
  go_wp2
  refine bodyPost_ret (v := (.tuple #[.slice p1 xs.length cap1, .agg #[.int .i64 xt, .int .i64 xn, .int .i64 xk, .int .i64 xm]])) (by simp [results, Tryz.results11, go_sem, *]) rfl ?_
  refine ⟨_, xs, ⟨xt, xn, xk, xm⟩, rfl, ?_, hl, ?_⟩
  · exact ((((HO2.out.setg (by omega) _ _).setg (by omega) _ _).setg (by omega) _ _).setg (by omega) _ _).base (by omega)
  · repeat refine Below.setCell ?_ (by simp <;> omega) _
    exact HB.out
set_option maxRecDepth 100000 in
theorem drawMerge_any (v : Value) (bs : List Int) (w : World) (h : RdY w v bs) :
    Calls Tryz.prog 17 #[v] w fun e w' => ∃ u u' xs ys, e = .returned (.tuple #[u, u']) ∧ OwEv w.heap.size w' u xs ∧ OwEv w.heap.size w' u' ys ∧ xs.length ≤ 40 ∧ ys.length ≤ 40 ∧ Below w.heap.size w w' := by
  obtain ⟨p, cap, b, off, rfl, _, _, _⟩ := h.parts
  have HC := Lib.hid (cur_new w _ bs h); clear h
  go_enter Tryz.func17, Tryz.ntmps17
  go_wp2_with fail
  refine (trace_any w.heap.size 0 _ HC.out (by omega)).mono ?_
  rintro e w1 ⟨v1, xs, rfl, ho, hl, hd⟩
  simp only [World.size_alloc] at ho
  have HO := Lib.hid ho; clear ho
  have HD := Lib.hid hd; clear hd
  have z1 := HD.out.size
  simp at z1
  go_wp2_with fail
  refine (trace_any w.heap.size _ _ HD.out.cur (by omega)).mono ?_
  rintro e w2 ⟨v2, ys, rfl, ho2, hl2, hd2⟩
  have HO2 := Lib.hid (ho2.base (B' := w.heap.size) (by omega)); clear ho2
  have HD2 := Lib.hid (HD.out.call hd2.cur hd2.grown)
  have HO1 := Lib.hid (HO.out.grown hd2.grown (own_ne HO.out (by omega))); clear hd2
  go_wp2
  refine bodyPost_ret (v := (.tuple #[v1, v2])) (by simp [results, Tryz.results17, go_sem, *]) rfl ?_
  exact ⟨_, _, xs, ys, rfl, HO1.out.base (by omega), HO2.out, hl, hl2, new_dr HD2.out⟩
end Go.Proofs.YtohbkohidpgjpaaGreatDoor

/- Every list of events has a stable order; two traces merged are a trace. Plain laws. -/
namespace Go.Proofs.YtohbkohidpgjpaaGreatDoor
open Go.RowKit

theorem stb_ex {α : Type} (key : α → Int) (L : List α) : ∃ M, Stb key L M ∧ M.length = L.length := by
  induction L with
  | nil => exact ⟨[], Stb.self List.Pairwise.nil, rfl⟩
  | cons x L ih =>
    obtain ⟨M, hM, hl⟩ := ih
    have hs : M.findIdx (fun y => decide (key x ≤ key y)) ≤ M.length := List.findIdx_le_length
    generalize hs0 : M.findIdx (fun y => decide (key x ≤ key y)) = s at hs
    refine ⟨slot M x s, ?_, by rw [slot_len, hl, List.length_cons]⟩
    have h := slot_front (u := x) (s := s) hM.1 ?_ ?_ hs
    · exact Stb.parts (A := [x]) (A' := [x]) (Stb.self (List.pairwise_singleton _ _)) hM h
    · intro y h0 hy
      obtain ⟨h1, h2⟩ := List.getElem?_eq_some_iff.1 hy
      have := List.not_of_lt_findIdx (xs := M) (p := fun y => decide (key x ≤ key y)) (i := s - 1) (by omega)
      rw [h2] at this
      simp at this
      omega
    · intro y hy
      obtain ⟨h1, h2⟩ := List.getElem?_eq_some_iff.1 hy
      have := List.findIdx_getElem (xs := M) (p := fun y => decide (key x ≤ key y)) (w := by omega)
      simp only [hs0, h2, decide_eq_true_eq] at this
      exact this
theorem mg_facts {xs ys : List Ev} (h : mgB xs ys = true) : tsB (mgL xs ys) = true ∧ (mgL xs ys).length = xs.length + ys.length := by
  obtain ⟨M, hM, hl⟩ := stb_ex Ev.t (xs ++ ys)
  rw [mgL_yes h hM]
  rw [List.length_append] at hl
  simp only [mgB, Bool.and_eq_true, decide_eq_true_eq] at h
  refine ⟨ts_of_srt hM.1 (by omega) fun x hx => ?_, hl⟩
  rcases List.mem_append.1 ((hM.mem x).1 hx) with hx | hx
  · exact ts_mem h.1 x hx
  · exact ts_mem h.2.1 x hx
end Go.Proofs.YtohbkohidpgjpaaGreatDoor

/- Contracts of the law's own comparisons of lists of numbers and of events (equal ones). -/
namespace Go.Proofs.YtohbkohidpgjpaaGreatDoor
open Go.RowKit

/-- a block of four cells, read -/
theorem boxEv {W : World} {g : Nat} {a b c d : Value} {t : TypeId} (h : W.heap[g]? = some (.cells #[a, b, c, d] t (0, 0))) :
    W.cell? ⟨g, 0, none⟩ = some a ∧ W.cell? ⟨g, 1, none⟩ = some b ∧ W.cell? ⟨g, 2, none⟩ = some c ∧ W.cell? ⟨g, 3, none⟩ = some d := by
  have h0 := cell_of_row W g 0 _ _ _ h
  have h1 := cell_of_row W g 1 _ _ _ h
  have h2 := cell_of_row W g 2 _ _ _ h
  have h3 := cell_of_row W g 3 _ _ _ h
  simp at h0 h1 h2 h3
  exact ⟨h0, h1, h2, h3⟩
set_option maxRecDepth 100000 in
theorem rInts_same (v v' : Value) (xs : List Int) (w : World) (h : RdI w v xs) (h' : RdI w v' xs) :
    Calls Tryz.prog 22 #[v, v'] w fun e w' => e = .returned (.bool true) ∧ Below w.heap.size w w' := by
  have hlen := h.2
  obtain ⟨p, cap, b, off, rfl, hcap, hp, hcell⟩ := h.parts
  obtain ⟨p', cap', b', off', rfl, hcap', hp', hcell'⟩ := h'.parts
  have HC := Lib.hid hcell; clear hcell
  have HC' := Lib.hid hcell'; clear hcell'
  have HP := Lib.hid hp; clear hp h
  have HP' := Lib.hid hp'; clear hp' h'
  go_enter Tryz.func22, Tryz.ntmps22
  go_wp2
  go_loopw [5] (fun i wr => ∃ k : Nat, k ≤ xs.length ∧ i = .int .i64 k ∧ Below w.heap.size w wr) (fun i _ => xs.length - (intOf i).toNat)
  case atStart => exact ⟨0, Nat.zero_le _, rfl, Below.refl _ _⟩
  case round =>
    obtain ⟨k, hk, rfl, hb⟩ := hrel
    by_cases hlt : k < xs.length
    · obtain rfl := HP.out (by omega)
      obtain rfl := HP'.out (by omega)
      have c1 := cell_on hb (HC.out k hlt)
      have c2 := cell_on hb (HC'.out k hlt)
      go_wp2
      go_quiet (fail)
      go_wp2
      go_roundw
      case rel => exact ⟨k + 1, by omega, by go_num, hb.trans (below_eq ⟨_, rfl⟩)⟩
      case measure => (simp [intOf]; try omega)
    · go_wp2
      go_ret
      exact ⟨rfl, hb⟩
set_option maxRecDepth 100000 in
theorem rEvents_same (v v' : Value) (xs : List Ev) (w : World) (h : RdEv w v xs) (h' : RdEv w v' xs) :
    Calls Tryz.prog 14 #[v, v'] w fun e w' => e = .returned (.bool true) ∧ Below w.heap.size w w' := by
  have hlen := h.2
  obtain ⟨p, cap, b, off, rfl, hcap, hp, hcell⟩ := h.parts
  obtain ⟨p', cap', b', off', rfl, hcap', hp', hcell'⟩ := h'.parts
  have HC := Lib.hid hcell; clear hcell
  have HC' := Lib.hid hcell'; clear hcell'
  have HP := Lib.hid hp; clear hp h
  have HP' := Lib.hid hp'; clear hp' h'
  go_enter Tryz.func14, Tryz.ntmps14
  go_wp2
  go_loopw [5] (fun i wr => ∃ k : Nat, k ≤ xs.length ∧ i = .int .i64 k ∧ Below w.heap.size w wr) (fun i _ => xs.length - (intOf i).toNat)
  case atStart => exact ⟨0, Nat.zero_le _, rfl, Below.refl _ _⟩
  case round =>
    obtain ⟨k, hk, rfl, hb⟩ := hrel
    by_cases hlt : k < xs.length
    · obtain rfl := HP.out (by omega)
      obtain rfl := HP'.out (by omega)
      obtain ⟨c1, c2, c3, c4⟩ := HC.out k hlt
      obtain ⟨d1, d2, d3, d4⟩ := HC'.out k hlt
      generalize xs[k] = x at *
      obtain ⟨xt, xn, xk, xm⟩ := x
      have c1 := cell_on hb c1
      have c2 := cell_on hb c2
      have c3 := cell_on hb c3
      have c4 := cell_on hb c4
      have d1 := cell_on hb d1
      have d2 := cell_on hb d2
      have d3 := cell_on hb d3
      have d4 := cell_on hb d4
      go_wp2
      go_quiet (fail)
      go_wp2
      go_roundw
      case rel => exact ⟨k + 1, by omega, by go_num, hb.trans (below_eq ⟨_, rfl⟩)⟩
      case measure => (simp [intOf]; try omega)
    · go_wp2
      go_ret
      exact ⟨rfl, hb⟩
end Go.Proofs.YtohbkohidpgjpaaGreatDoor

/- Plain laws on what a loop over a list picks and appends. No program in sight. -/
namespace Go.Proofs.YtohbkohidpgjpaaGreatDoor

/-- what is appended at the first n elements of a list -/
def selN {α β : Type} (f : Nat → α → Option β) (xs : List α) : Nat → List β
  | 0 => []
  | n + 1 => match xs[n]? with
    | none => selN f xs n
    | some x => match f n x with
      | none => selN f xs n
      | some r => selN f xs n ++ [r]
theorem selN_none {α β : Type} (f : Nat → α → Option β) (xs : List α) (n : Nat) (h : n < xs.length) (hf : f n xs[n] = none) : selN f xs (n + 1) = selN f xs n := by
  rw [selN, List.getElem?_eq_getElem h]; simp only [hf]
theorem selN_some {α β : Type} (f : Nat → α → Option β) (xs : List α) (n : Nat) (r : β) (h : n < xs.length) (hf : f n xs[n] = some r) : selN f xs (n + 1) = selN f xs n ++ [r] := by
  rw [selN, List.getElem?_eq_getElem h]; simp only [hf]
theorem selN_length {α β : Type} (f : Nat → α → Option β) (xs : List α) (n : Nat) : (selN f xs n).length ≤ n := by
  induction n with
  | zero => exact Nat.le_refl _
  | succ n ih =>
    rw [selN]
    split
    · omega
    · split
      · omega
      · simp; omega
/-- what holds for all that is picked -/
theorem selN_all {α β : Type} (f : Nat → α → Option β) (xs : List α) (P : β → Prop) (hP : ∀ i (h : i < xs.length) r, f i xs[i] = some r → P r) (n : Nat) : ∀ r ∈ selN f xs n, P r := by
  induction n with
  | zero => intro r h; simp [selN] at h
  | succ n ih =>
    by_cases hn : n < xs.length
    · cases hf : f n xs[n] with
      | none => rw [selN_none f xs n hn hf]; exact ih
      | some x =>
        rw [selN_some f xs n x hn hf]
        intro r h
        rcases List.mem_append.1 h with h | h
        · exact ih r h
        · obtain rfl := List.mem_singleton.1 h
          exact hP n hn _ hf
    · rw [selN, List.getElem?_eq_none (by omega)]; exact ih
/-- how many times something is seen in the first n elements -/
def cntN {α : Type} (p : α → Bool) (xs : List α) (n : Nat) : Nat := (xs.take n).countP p
theorem cntN_succ {α : Type} (p : α → Bool) (xs : List α) (n : Nat) (h : n < xs.length) : cntN p xs (n + 1) = cntN p xs n + (if p xs[n] = true then 1 else 0) := by
  rw [cntN, List.take_succ_eq_append_getElem h, List.countP_append]
  simp [cntN, List.countP_cons]
theorem cntN_le {α : Type} (p : α → Bool) (xs : List α) (n : Nat) : cntN p xs n ≤ n := by
  unfold cntN
  exact Nat.le_trans List.countP_le_length (by simp; omega)
end Go.Proofs.YtohbkohidpgjpaaGreatDoor

/- Contracts on what is picked of a trace: the program's and the reference's EventsAt, for all arguments. -/
namespace Go.Proofs.YtohbkohidpgjpaaGreatDoor
open Go.RowKit

noncomputable def eaB (xs : List Ev) (node : Int) : Bool := tsB xs && inR node 0 7
def eaF (node : Int) (i : Nat) (x : Ev) : Option Int := if x.n = node then some (i : Int) else none
noncomputable def eaL (xs : List Ev) (node : Int) : List Int := if eaB xs node = true then selN (eaF node) xs xs.length else []

set_option maxRecDepth 100000 in
set_option maxHeartbeats 4000000 in
theorem implEvents_any (node : Int) (v : Value) (xs : List Ev) (w : World) (h : RdEv w v xs) :
    Calls Tryz.prog 20 #[v, .int .i64 node] w fun e w' => ∃ v', e = .returned (.tuple #[v', .bool (eaB xs node)]) ∧ OwI w.heap.size w' v' (eaL xs node) ∧ Below w.heap.size w w' := by
  have HT := Lib.hid (isTrace_any v xs w h)
  have hlen := h.2
  obtain ⟨i0, hi, hz0, hz1, hz2⟩ := info_parts infoInt
  obtain ⟨p, cap, b, off, rfl, hcap, hp, hcell⟩ := h.parts
  have HC := Lib.hid hcell; clear hcell
  have HP := Lib.hid hp; clear hp h
  cases hB : eaB xs node
  · have HV : Hid (eaL xs node = []) := Lib.hid (by simp [eaL, hB])
    cases h1 : tsB xs
    · rw [h1] at HT
      go_enter Tryz.func20, Tryz.ntmps20
      go_wp2_with fail
      refine HT.out.mono ?_
      rintro e w1 ⟨rfl, hb⟩
      go_wp2
      refine bodyPost_ret (v := (.tuple #[.slice none 0 0, .bool false])) (by simp [results, Tryz.results20, go_sem, *]) rfl ?_
      exact ⟨_, rfl, by rw [HV.out]; exact ⟨⟨rfl, .inl ⟨rfl, rfl⟩⟩, Nat.zero_le _⟩, hb⟩
    · have h2 : inR node 0 7 = false := by simpa [eaB, h1] using hB
      rw [h1] at HT
      clear h1 hB
      go_enter Tryz.func20, Tryz.ntmps20
      go_wp2_with fail
      refine HT.out.mono ?_
      rintro e w1 ⟨rfl, hb⟩
      have HB := Lib.hid hb; clear hb
      go_wp2_with ((go_at_call 49; refine (isNode_any _ _).mono ?_; rintro e w' ⟨rfl, rfl⟩))
      refine bodyPost_ret (v := (.tuple #[.slice none 0 0, .bool false])) (by simp [results, Tryz.results20, go_sem, *]) rfl ?_
      exact ⟨_, rfl, by rw [HV.out]; exact ⟨⟨rfl, .inl ⟨rfl, rfl⟩⟩, Nat.zero_le _⟩, HB.out⟩
  · have HV : Hid (eaL xs node = selN (eaF node) xs xs.length) := Lib.hid (by simp [eaL, hB])
    simp only [eaB, Bool.and_eq_true] at hB
    obtain ⟨h1, h2⟩ := hB
    have h30 := (tsB_true.1 h1).1
    rw [h1] at HT
    clear h1
    go_enter Tryz.func20, Tryz.ntmps20
    go_wp2_with fail
    refine HT.out.mono ?_
    rintro e w1 ⟨rfl, hb⟩
    have HB := Lib.hid hb; clear hb
    go_wp2_with ((go_at_call 49; refine (isNode_any _ _).mono ?_; rintro e w' ⟨rfl, rfl⟩))
    go_loopw [6, 19] (fun v i wr => ∃ n : Nat, n ≤ xs.length ∧ i = .int .i64 n ∧ OwI w.heap.size wr v (selN (eaF node) xs n) ∧ Below w.heap.size w wr) (fun _ i _ => xs.length - (intOf i).toNat)
    case atStart => exact ⟨0, Nat.zero_le _, rfl, ⟨⟨rfl, .inl ⟨rfl, rfl⟩⟩, Nat.zero_le _⟩, HB.out⟩
    case round =>
      clear HB
      obtain ⟨n, hn, rfl, hown, hb⟩ := hrel
      by_cases hlt : n < xs.length
      · obtain rfl := HP.out (by omega)
        obtain ⟨c1, c2, c3, c4⟩ := HC.out n hlt
        have c1 := cell_on hb c1
        have c2 := cell_on hb c2
        have c3 := cell_on hb c3
        have c4 := cell_on hb c4
        have hsl := selN_length (eaF node) xs n
        have hsz := hb.size
        by_cases he : xs[n].n = node
        · have HS := Lib.hid (selN_some (eaF node) xs n n hlt (by simp [eaF, he]))
          have hO := hown.1
          generalize hL : selN (eaF node) xs n = L at *
          go_wp2_with (first | (at_builtin; go_loud (refine wpList_append_own _ rfl _ _ 44 rfl (w.heap.size) 3 i0 (.int .i64 0) 1 8 Tryz.underlying44 hi hz0 hz1 hz2 rfl (by decide) _ _ _ rfl ((hO.alloc _).alloc _) ⟨wr.heap.size + 1, 0, none⟩ 1 1 [.int .i64 n] rfl rfl ?c1 ?c2 ?c3 ?c4 ?c5 ?_)))
          try (case c1 => first | exact cells_new _ #[_] _ | rfl)
          try (case c2 => first | rfl | (intro u hu; simp at hu; subst hu; rfl))
          try (case c3 => first | omega | (unfold maxLen; omega))
          try (case c4 => first | omega | ((try simp only [World.heap_size_alloc]); omega))
          try (case c5 => first | omega | (simp; omega))
          intro v' w2 hown' hgrow
          try intro _
          go_wp2
          go_roundw
          case rel => exact ⟨n + 1, by omega, by go_num, by rw [HS.out]; exact ⟨by simpa using hown', by simp; omega⟩, Below.grown (Below.trans hb (by go_grown)) hgrow (by simp; omega) (fun j hj => (hO.lt j hj).1)⟩
          case measure => simp [intOf]; omega
        · have HS := Lib.hid (selN_none (eaF node) xs n hlt (by simp [eaF, he]))
          go_wp2
          go_roundw
          case rel => exact ⟨n + 1, by omega, by go_num, by rw [HS.out]; exact hown.below (by go_grown), by go_grown⟩
          case measure => simp [intOf]; omega
      · obtain rfl : n = xs.length := by omega
        have HH := Lib.hid (And.intro hown hb); clear hown hb
        go_wp2
        refine bodyPost_ret (v := (.tuple #[u6, .bool true])) (by simp [results, Tryz.results20, go_sem, *]) rfl ?_
        exact ⟨_, rfl, by rw [HV.out]; exact HH.out.1, HH.out.2⟩
/-- an empty literal that was laid first -/
theorem lit0 (w : World) {w1 : World} (hb : Below (w.alloc (.cells #[] 3)).heap.size (w.alloc (.cells #[] 3)) w1) : OwI w.heap.size w1 (.slice (some ⟨w.heap.size, 0, none⟩) 0 0) [] :=
  OwI.below ⟨World.ownsRow_lit w #[] 0 (Nat.le_refl _) (Nat.zero_le _) rfl, Nat.zero_le _⟩ hb

set_option maxRecDepth 100000 in
set_option maxHeartbeats 4000000 in
theorem specEvents_any (node : Int) (v : Value) (xs : List Ev) (w : World) (h : RdEv w v xs) :
    Calls Tryz.prog 21 #[v, .int .i64 node] w fun e w' => ∃ v', e = .returned (.tuple #[v', .bool (eaB xs node)]) ∧ OwI w.heap.size w' v' (eaL xs node) ∧ Below w.heap.size w w' := by
  have HR := Lib.hid h
  have HT := Lib.hid (l17Good_any v xs)
  have hlen := h.2
  obtain ⟨i0, hi, hz0, hz1, hz2⟩ := info_parts infoInt
  obtain ⟨p, cap, b, off, rfl, hcap, hp, hcell⟩ := h.parts
  have HC := Lib.hid hcell; clear hcell
  have HP := Lib.hid hp; clear hp h
  cases hB : eaB xs node
  · have HV : Hid (eaL xs node = []) := Lib.hid (by simp [eaL, hB])
    cases h1 : tsB xs
    · simp only [h1] at HT
      go_enter Tryz.func21, Tryz.ntmps21
      go_wp2_with fail
      refine (HT.out _ (HR.out.below (by go_grown))).mono ?_
      rintro e w1 ⟨rfl, hb⟩
      have HE := Lib.hid (lit0 w hb)
      have HB := Lib.hid (Below.trans (by go_grown) (hb.mono (by simp)) : Below w.heap.size w w1); clear hb
      go_wp2
      refine bodyPost_ret (v := (.tuple #[.slice (some ⟨w.heap.size, 0, none⟩) 0 0, .bool false])) (by simp [results, Tryz.results21, go_sem, *]) rfl ?_
      exact ⟨_, rfl, by rw [HV.out]; exact HE.out, HB.out⟩
    · have h2 : inR node 0 7 = false := by simpa [eaB, h1] using hB
      simp only [h1] at HT
      clear h1 hB
      go_enter Tryz.func21, Tryz.ntmps21
      go_wp2_with fail
      refine (HT.out _ (HR.out.below (by go_grown))).mono ?_
      rintro e w1 ⟨rfl, hb⟩
      have HE := Lib.hid (lit0 w hb)
      have HB := Lib.hid (Below.trans (by go_grown) (hb.mono (by simp)) : Below w.heap.size w w1); clear hb
      go_wp2_with ((go_at_call 50; refine (l17Node_any _ _).mono ?_; rintro e w' ⟨rfl, rfl⟩))
      refine bodyPost_ret (v := (.tuple #[.slice (some ⟨w.heap.size, 0, none⟩) 0 0, .bool false])) (by simp [results, Tryz.results21, go_sem, *]) rfl ?_
      exact ⟨_, rfl, by rw [HV.out]; exact HE.out, HB.out⟩
  · have HV : Hid (eaL xs node = selN (eaF node) xs xs.length) := Lib.hid (by simp [eaL, hB])
    simp only [eaB, Bool.and_eq_true] at hB
    obtain ⟨h1, h2⟩ := hB
    have h30 := (tsB_true.1 h1).1
    simp only [h1] at HT
    clear h1
    go_enter Tryz.func21, Tryz.ntmps21
    go_wp2_with fail
    refine (HT.out _ (HR.out.below (by go_grown))).mono ?_
    rintro e w1 ⟨rfl, hb⟩
    have HE := Lib.hid (lit0 w hb)
    have HB := Lib.hid (Below.trans (by go_grown) (hb.mono (by simp)) : Below w.heap.size w w1); clear hb
    go_wp2_with ((go_at_call 50; refine (l17Node_any _ _).mono ?_; rintro e w' ⟨rfl, rfl⟩))
    go_loopw [6, 7] (fun v i wr => ∃ n : Nat, n ≤ xs.length ∧ i = .int .i64 n ∧ OwI w.heap.size wr v (selN (eaF node) xs n) ∧ Below w.heap.size w wr) (fun _ i _ => xs.length - (intOf i).toNat)
    case atStart => exact ⟨0, Nat.zero_le _, rfl, HE.out, HB.out⟩
    case round =>
      clear HB HE
      obtain ⟨n, hn, rfl, hown, hb⟩ := hrel
      by_cases hlt : n < xs.length
      · obtain rfl := HP.out (by omega)
        obtain ⟨c1, c2, c3, c4⟩ := HC.out n hlt
        have c1 := cell_on hb c1
        have c2 := cell_on hb c2
        have c3 := cell_on hb c3
        have c4 := cell_on hb c4
        have hsl := selN_length (eaF node) xs n
        have hsz := hb.size
        by_cases he : xs[n].n = node
        · have HS := Lib.hid (selN_some (eaF node) xs n n hlt (by simp [eaF, he]))
          have hO := hown.1
          generalize hL : selN (eaF node) xs n = L at *
          go_wp2_with (first | (at_builtin; go_loud (refine wpList_append_own _ rfl _ _ 44 rfl (w.heap.size) 3 i0 (.int .i64 0) 1 8 Tryz.underlying44 hi hz0 hz1 hz2 rfl (by decide) _ _ _ rfl (hO.alloc _) ⟨wr.heap.size, 0, none⟩ 1 1 [.int .i64 n] rfl rfl ?c1 ?c2 ?c3 ?c4 ?c5 ?_)))
          try (case c1 => first | exact cells_new _ #[_] _ | rfl)
          try (case c2 => first | rfl | (intro u hu; simp at hu; subst hu; rfl))
          try (case c3 => first | omega | (unfold maxLen; omega))
          try (case c4 => first | omega | ((try simp only [World.heap_size_alloc]); omega))
          try (case c5 => first | omega | (simp; omega))
          intro v' w2 hown' hgrow
          try intro _
          go_wp2
          go_roundw
          case rel => exact ⟨n + 1, by omega, by go_num, by rw [HS.out]; exact ⟨by simpa using hown', by simp; omega⟩, Below.grown (Below.trans hb (by go_grown)) hgrow (by simp; omega) (fun j hj => (hO.lt j hj).1)⟩
          case measure => simp [intOf]; omega
        · have HS := Lib.hid (selN_none (eaF node) xs n hlt (by simp [eaF, he]))
          go_wp2
          go_roundw
          case rel => exact ⟨n + 1, by omega, by go_num, by rw [HS.out]; exact hown.below (by go_grown), by go_grown⟩
          case measure => simp [intOf]; omega
      · obtain rfl : n = xs.length := by omega
        have HH := Lib.hid (And.intro hown hb); clear hown hb
        go_wp2
        refine bodyPost_ret (v := (.tuple #[u6, .bool true])) (by simp [results, Tryz.results21, go_sem, *]) rfl ?_
        exact ⟨_, rfl, by rw [HV.out]; exact HH.out.1, HH.out.2⟩
end Go.Proofs.YtohbkohidpgjpaaGreatDoor

/- A slice of bytes that came in as an argument, opened. -/
namespace Go.Proofs.YtohbkohidpgjpaaGreatDoor
open Go.ChangeShapes Go.WideShapes Go.ChangeAt Go.RowKit

def AsY (w : World) (v : Value) (xs : List Int) : Prop :=
  (xs.length ≤ 1073741824 → RdY w v xs) ∧ xs.length ≤ 9223372036854775807 ∧ ∃ (p : Option Addr) (cap : Nat), v = .slice p xs.length cap
def ArgY (w : World) (v : Value) : Prop := ∃ xs : List Int, AsY w v xs

set_option maxRecDepth 100000 in
theorem open_argY {H : Type} {enc : TypeId × Value → H} {W : World} {base : Nat} {v : Value} {d : DataW H} {p : List MemPlace}
    (hok : Value.okWide Tryz.prog W .any base 22 v) (h : DataW.Trod enc Tryz.prog W 0 (fun _ => true) true 22 v d p) : ArgY W v := by
  obtain ⟨a0, len, cap, rfl⟩ := okWide_slice Tryz.underlying22 hok
  obtain ⟨fuel, hf⟩ := h
  rcases open_ints Tryz.underlying22 Tryz.underlying5 (by kernel_rfl) hf with ⟨hcs, _⟩ | ⟨a, len', cap', zs, hcs, _, hl, hm, hz, _, hcell, hwf⟩
  · simp [Value.cells] at hcs
    obtain ⟨rfl, rfl, rfl⟩ := hcs
    exact ⟨[], fun _ => ⟨⟨rfl, none, 0, 0, 0, rfl, Nat.le_refl _, fun _ => rfl, fun h => by cases h⟩, by simp, by simp⟩, by simp, none, 0, rfl⟩
  · simp [Value.cells] at hcs
    obtain ⟨rfl, rfl, rfl⟩ := hcs
    have hz' : zs.length = cap := by simpa using hz
    have hlen : (zs.take len).length = len := by rw [List.length_take]; omega
    have hb : ∀ b ∈ zs.take len, 0 ≤ b ∧ b ≤ 255 := fun b hb => bounds_u8 (hwf b (List.mem_of_mem_take hb))
    refine ⟨zs.take len, fun hs => ⟨?_, hs, hb⟩, by rw [hlen]; unfold maxLen at hm; omega, some a, cap, by rw [hlen]⟩
    rw [hlen]
    by_cases h0 : 0 < len
    · obtain ⟨b, off, rfl, hc⟩ := ints_at hcell (by omega)
      refine ⟨by simp; omega, some ⟨b, off, none⟩, cap, b, off, rfl, hl, (by intro h; cases h), fun _ => ⟨rfl, fun k hk => ?_⟩⟩
      have h1 := hc k (by omega)
      have hk1 : k < zs.length := by omega
      have hk2 : k < len := by omega
      rw [h1]
      simp [hk1, hk2]
    · have h00 : len = 0 := by omega
      subst h00
      exact ⟨by simp, some a, cap, 0, 0, rfl, hl, (by intro h; cases h), fun h => by omega⟩

/-- 'too many bytes' -/
theorem rBig_any (v : Value) (xs : List Int) (w : World) (h : AsY w v xs) :
    Calls Tryz.prog 4 #[v] w fun e w' => e = .returned (.bool (decide (65536 < xs.length))) ∧ w = w' := by
  obtain ⟨_, _, p, cap, rfl⟩ := h
  go_enter Tryz.func4, Tryz.ntmps4
  go_wp2
  go_ret
  exact ⟨ret_bool (by simp; omega), rfl⟩
end Go.Proofs.YtohbkohidpgjpaaGreatDoor

/- The table of the words of events: what a row's list of variables says of its cells. -/
namespace Go.Proofs.YtohbkohidpgjpaaGreatDoor
open Go.ChangeShapes Go.WideShapes Go.ChangeAt Go.RowKit

theorem trword_eq {s : ByteArray} {k : Nat} (hk : k < 5) (h : some (DataW.lit (.string s.data.toList) : DataW Unit) = [(DataW.lit (.string []) : DataW Unit), .lit (.string [115, 101, 110, 116]), .lit (.string [114, 101, 99, 101, 105, 118, 101, 100]), .lit (.string [108, 111, 115, 116]), .lit (.string [114, 101, 108, 101, 97, 115, 101, 100])][k]?) : s = trW k := by
  have hk' : k = 0 ∨ k = 1 ∨ k = 2 ∨ k = 3 ∨ k = 4 := by omega
  rcases hk' with rfl | rfl | rfl | rfl | rfl <;>
  · simp at h
    exact bytes_inj (by rw [h]; rfl)
theorem trwords_at {W : World} {L : List (String × DataW Unit)} (h : laidMet Tryz.prog L W) (n : String) (hg : Tryz.prog.globalNamed n = some 0) (ht : (Tryz.prog.globals[(0 : Nat)]?).map (·.type) = some 56) (hm : (n, Rows.laid_loop_example_g00840_impl_traceWords) ∈ L) : TrAt W := by
  obtain ⟨g, t, cs, fuel, p, hg', ht', hv, hd⟩ := Lib.laidMet.reads h hm
  obtain rfl := Option.some.inj (hg.symm.trans hg')
  obtain rfl := Option.some.inj (ht.symm.trans ht')
  intro k hk
  obtain ⟨xs, m, _, ex, _, hl, hel⟩ := DataW.trod_array Tryz.underlying56 hd
  have c9 : Tryz.prog.cellsOf 9 = 1 := by kernel_rfl
  have hE := hel k hk
  rw [c9, Nat.mul_one, List.getElem?_eq_getElem (by omega)] at hE
  obtain ⟨s, e1, e2, _⟩ := DataW.trod_string Tryz.underlying9 hE
  have e3 : xs.map (·.1) = _ := (DataW.agg.inj (Prod.mk.inj ex).1).symm
  have e4 := congrArg (fun l => l[k]?) e3
  simp only [List.getElem?_map, List.getElem?_eq_getElem (show k < xs.length by omega), e2, Option.map_some] at e4
  have hs := trword_eq hk e4
  rw [World.var?_cell hg hv k, ← hs]
  have : cs.toList[k]? = some (.string s) := by
    have h0 : ((cs.toList.drop k).take 1)[0]? = some (.string s) := by rw [e1]; rfl
    simpa using h0
  simpa using this
theorem trwords_of {W : World} {L : List (String × DataW Unit)} (h : laidMet Tryz.prog L W) (hm : ("loop.example/g00840/impl.traceWords", Rows.laid_loop_example_g00840_impl_traceWords) ∈ L) : TrAt W :=
  trwords_at h _ (by kernel_rfl) (by kernel_rfl) hm
end Go.Proofs.YtohbkohidpgjpaaGreatDoor

/- The table of powers: what a row's list of variables says of its cells. -/
namespace Go.Proofs.YtohbkohidpgjpaaGreatDoor
open Go.ChangeShapes Go.WideShapes Go.ChangeAt Go.RowKit

theorem pow10_at {W : World} {L : List (String × DataW Unit)} (h : laidMet Tryz.prog L W) (hg : Tryz.prog.globalNamed "internal/strconv.uint64pow10" = some 1) (ht : (Tryz.prog.globals[(1 : Nat)]?).map (·.type) = some 105) (hm : ("internal/strconv.uint64pow10", Rows.laid_internal_strconv_uint64pow10) ∈ L) : PowAt W := by
  obtain ⟨g, t, cs, fuel, p, hg', ht', hv, hd⟩ := Lib.laidMet.reads h hm
  obtain rfl := Option.some.inj (hg.symm.trans hg')
  obtain rfl := Option.some.inj (ht.symm.trans ht')
  rw [show (Rows.laid_internal_strconv_uint64pow10 : DataW Unit) = Lib.tabData .u64 Lib.pow10Tab from rfl] at hd
  unfold PowAt Lib.TabIs
  rw [hv, ← Lib.cells_of_tab Tryz.underlying105 Tryz.underlying49 (by kernel_rfl) (by kernel_rfl) hd]
theorem pow10_of {W : World} {L : List (String × DataW Unit)} (h : laidMet Tryz.prog L W) (hm : ("internal/strconv.uint64pow10", Rows.laid_internal_strconv_uint64pow10) ∈ L) : PowAt W :=
  pow10_at h (by kernel_rfl) (by kernel_rfl) hm
end Go.Proofs.YtohbkohidpgjpaaGreatDoor

/- The library's two errors: what a row's list of variables says of their cells. -/
namespace Go.Proofs.YtohbkohidpgjpaaGreatDoor
open Go.ChangeShapes Go.WideShapes Go.ChangeAt Go.RowKit

theorem laid_head {P : Program} {W : World} {x : String × DataW Unit} : ∀ {L : List (String × DataW Unit)}, laidMet P L W → x ∈ L → ∃ r, laidMet P (x :: r) W
  | [], _, hm => by cases hm
  | y :: L, h, hm => by
    rcases List.mem_cons.1 hm with rfl | hm
    · exact ⟨L, h⟩
    · exact laid_head h.tail hm
theorem star_err : "*" ++ "errors.errorString" = "*errors.errorString" := by decide
theorem row_err (u : TypeId) (h : Tryz.prog.typeName? 3 u = some "*errors.errorString") : u = 133 :=
  typeName_ptr_named (nm := "errors.errorString") (by rw [star_err]; kernel_rfl) (by kernel_rfl) (by decide) u (by rw [star_err]; exact h)
theorem errs_of {W : World} {L : List (String × DataW Unit)} (h : laidMet Tryz.prog L W) (hm : ("strconv.ErrSyntax", Rows.laid_strconv_ErrSyntax) ∈ L ∧ ("strconv.ErrRange", Rows.laid_strconv_ErrRange) ∈ L) : ErrAt W := by
  obtain ⟨r1, h1⟩ := laid_head h hm.1
  obtain ⟨r2, h2⟩ := laid_head h hm.2
  obtain ⟨a0, s0, hv0, -, -, -⟩ := laid_sentinel h1 (g := 5) (by kernel_rfl) (by kernel_rfl) Tryz.underlying87 (tp := 133) row_err Tryz.underlying133 Tryz.underlying135 rfl rfl Tryz.underlying9 (by kernel_rfl) (by kernel_rfl)
  obtain ⟨a1, s1, hv1, -, -, -⟩ := laid_sentinel h2 (g := 6) (by kernel_rfl) (by kernel_rfl) Tryz.underlying87 (tp := 133) row_err Tryz.underlying133 Tryz.underlying135 rfl rfl Tryz.underlying9 (by kernel_rfl) (by kernel_rfl)
  exact ⟨⟨_, _, hv0⟩, _, _, hv1⟩
end Go.Proofs.YtohbkohidpgjpaaGreatDoor
