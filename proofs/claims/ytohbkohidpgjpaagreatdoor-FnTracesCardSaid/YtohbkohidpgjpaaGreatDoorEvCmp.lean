/- Contracts: cmp.Compare on integers, and the program's comparison of two events by their ticks; for all integers and events. -/
import Derived.Test.YtohbkohidpgjpaaGreatDoorEv1
namespace Go.Proofs.YtohbkohidpgjpaaGreatDoor
open Go.RowKit

def cmpI (x y : Int) : Int := if x < y then -1 else if y < x then 1 else 0
theorem nanI_any (x : Int) (w : World) : Calls Tryz.prog 67 #[.int .i64 x] w fun e w' => e = .returned (.bool false) ∧ w = w' := by
  go_enter Tryz.func67, Tryz.ntmps67
  go_wp2
  go_ret
  exact ⟨by simp, rfl⟩
theorem cmpI_any (x y : Int) (w : World) : Calls Tryz.prog 43 #[.int .i64 x, .int .i64 y] w fun e w' => e = .returned (.int .i64 (cmpI x y)) ∧ w = w' := by
  have H1 := Lib.hid (nanI_any x w)
  have H2 := Lib.hid (nanI_any y w)
  by_cases h1 : x < y
  · go_enter Tryz.func43, Tryz.ntmps43
    go_wp2_with fail
    refine H1.out.mono ?_
    rintro e w1 ⟨rfl, rfl⟩
    go_wp2_with fail
    refine H2.out.mono ?_
    rintro e w1 ⟨rfl, rfl⟩
    go_wp2
    go_ret
    exact ⟨ret_int (by simp [cmpI, h1]), rfl⟩
  · by_cases h2 : y < x
    · go_enter Tryz.func43, Tryz.ntmps43
      go_wp2_with fail
      refine H1.out.mono ?_
      rintro e w1 ⟨rfl, rfl⟩
      go_wp2_with fail
      refine H2.out.mono ?_
      rintro e w1 ⟨rfl, rfl⟩
      go_wp2
      go_ret
      exact ⟨ret_int (by rw [cmpI, if_neg (by omega), if_pos (by omega)]), rfl⟩
    · go_enter Tryz.func43, Tryz.ntmps43
      go_wp2_with fail
      refine H1.out.mono ?_
      rintro e w1 ⟨rfl, rfl⟩
      go_wp2_with fail
      refine H2.out.mono ?_
      rintro e w1 ⟨rfl, rfl⟩
      go_wp2
      go_ret
      exact ⟨ret_int (by rw [cmpI, if_neg (by omega), if_neg (by omega)]), rfl⟩
theorem mtC_any (x y : Ev) (w : World) : Calls Tryz.prog 42 #[x.v, y.v] w fun e w' => e = .returned (.int .i64 (cmpI x.t y.t)) ∧ Below w.heap.size w w' := by
  obtain ⟨t, n, k, m⟩ := x
  obtain ⟨t2, n2, k2, m2⟩ := y
  have H := Lib.hid (fun w => cmpI_any t t2 w)
  go_enter Tryz.func42, Tryz.ntmps42
  go_wp2_with fail
  refine (H.out _).mono ?_
  rintro e w' ⟨rfl, rfl⟩
  go_wp2
  go_ret
  exact ⟨rfl, by go_grown⟩
theorem cmpI_neg {x y : Int} (h : x < y) : cmpI x y = -1 := by rw [cmpI, if_pos h]
theorem cmpI_not {x y : Int} (h : ¬ x < y) : ¬ cmpI x y < 0 := by
  unfold cmpI
  rw [if_neg h]
  split <;> omega
theorem flatEv_get {R : List Ev} {k : Nat} {x : Ev} (h : R[k]? = some x) : (R.flatMap Ev.cells)[k * 4]? = some (.int .i64 x.t) ∧ (R.flatMap Ev.cells)[k * 4 + 1]? = some (.int .i64 x.n) ∧ (R.flatMap Ev.cells)[k * 4 + 2]? = some (.int .i64 x.k) ∧ (R.flatMap Ev.cells)[k * 4 + 3]? = some (.int .i64 x.m) := by
  obtain ⟨hk, rfl⟩ := List.getElem?_eq_some_iff.1 h
  exact ⟨flat_get Ev.cells 4 Ev.cells_length R k 0 hk (by omega), flat_get Ev.cells 4 Ev.cells_length R k 1 hk (by omega), flat_get Ev.cells 4 Ev.cells_length R k 2 hk (by omega), flat_get Ev.cells 4 Ev.cells_length R k 3 hk (by omega)⟩
theorem flatEv_len (R : List Ev) : (R.flatMap Ev.cells).length = R.length * 4 := by
  induction R with
  | nil => rfl
  | cons y r ih => rw [List.flatMap_cons, List.length_append, ih, Ev.cells_length, List.length_cons]; omega
theorem flatEv_set (ys : List Ev) (k : Nat) (x : Ev) (h : k < ys.length) : ((((ys.flatMap Ev.cells).set (k * 4) (.int .i64 x.t)).set (k * 4 + 1) (.int .i64 x.n)).set (k * 4 + 2) (.int .i64 x.k)).set (k * 4 + 3) (.int .i64 x.m) = (ys.set k x).flatMap Ev.cells := by
  induction ys generalizing k with
  | nil => simp at h
  | cons y ys ih =>
    cases k with
    | zero => simp
    | succ k =>
      rw [List.flatMap_cons, List.set_append, if_neg (by simp; omega), List.set_append, if_neg (by simp; omega), List.set_append, if_neg (by simp; omega), List.set_append, if_neg (by simp; omega), List.set_cons_succ, List.flatMap_cons]
      have := ih k (by simpa using h)
      rw [show (k + 1) * 4 - y.cells.length = k * 4 from by simp; omega, show (k + 1) * 4 + 1 - y.cells.length = k * 4 + 1 from by simp; omega, show (k + 1) * 4 + 2 - y.cells.length = k * 4 + 2 from by simp; omega, show (k + 1) * 4 + 3 - y.cells.length = k * 4 + 3 from by simp; omega, this]
/-- the array of a sort: events in a slice of the call's own, at its block g -/
def Arr (B : Nat) (w : World) (g n cap : Nat) (R : List Ev) : Prop := w.ownsRow B 25 4 (.slice (some ⟨g, 0, none⟩) n cap) n (R.flatMap Ev.cells) ∧ R.length = n
theorem Arr.cells {B : Nat} {w : World} {g n cap : Nat} {R : List Ev} (h : Arr B w g n cap R) {k : Nat} {x : Ev} (hx : R[k]? = some x) :
    w.cell? ⟨g, k * 4, none⟩ = some (.int .i64 x.t) ∧ w.cell? ⟨g, k * 4 + 1, none⟩ = some (.int .i64 x.n) ∧ w.cell? ⟨g, k * 4 + 2, none⟩ = some (.int .i64 x.k) ∧ w.cell? ⟨g, k * 4 + 3, none⟩ = some (.int .i64 x.m) := by
  have hk := (List.getElem?_eq_some_iff.1 hx).1
  have hn := h.2
  obtain ⟨c0, c1, c2, c3⟩ := flatEv_get hx
  exact ⟨(h.1.cellAt (k * 4) (by omega)).trans c0, (h.1.cellAt (k * 4 + 1) (by omega)).trans c1, (h.1.cellAt (k * 4 + 2) (by omega)).trans c2, (h.1.cellAt (k * 4 + 3) (by omega)).trans c3⟩
/-- four cells stored over an element -/
def set4 (w : World) (g k : Nat) (x : Ev) : World := (((w.setCell ⟨g, k * 4, none⟩ (.int .i64 x.t)).setCell ⟨g, k * 4 + 1, none⟩ (.int .i64 x.n)).setCell ⟨g, k * 4 + 2, none⟩ (.int .i64 x.k)).setCell ⟨g, k * 4 + 3, none⟩ (.int .i64 x.m)
theorem Arr.set {B : Nat} {w : World} {g n cap : Nat} {R : List Ev} (h : Arr B w g n cap R) {k : Nat} (x : Ev) (hk : k < n) : Arr B (set4 w g k x) g n cap (R.set k x) ∧ w.grownBy (set4 w g k x) (some g) := by
  have hs0 := h.1.stored (k * 4) (.int .i64 x.t)
  have hs1 := hs0.1.stored (k * 4 + 1) (.int .i64 x.n)
  have hs2 := hs1.1.stored (k * 4 + 2) (.int .i64 x.k)
  have hs3 := hs2.1.stored (k * 4 + 3) (.int .i64 x.m)
  have hn := h.2
  refine ⟨⟨?_, by rw [List.length_set]; exact h.2⟩, grown_trans hs0.2 (grown_trans hs1.2 (grown_trans hs2.2 hs3.2))⟩
  rw [← flatEv_set R k x (by omega)]
  exact hs3.1
theorem Arr.frozen {B : Nat} {w : World} {g n cap : Nat} {R : List Ev} (h : Arr B w g n cap R) (i : Nat) : w.frozen? ⟨g, i, none⟩ = false := h.1.frozenAt i
theorem Arr.below {B : Nat} {w w' : World} {g n cap : Nat} {R : List Ev} (h : Arr B w g n cap R) (hb : Below w.heap.size w w') : Arr B w' g n cap R := ⟨own_below h.1 hb, h.2⟩
theorem Arr.ge {B : Nat} {w : World} {g n cap : Nat} {R : List Ev} (h : Arr B w g n cap R) : B ≤ g := (h.1.lt g rfl).1
theorem Arr.le {B : Nat} {w : World} {g n cap : Nat} {R : List Ev} (h : Arr B w g n cap R) : n ≤ cap := by
  obtain ⟨q, cap', g', hv, hcap, _⟩ := own_shape h.1
  cases hv; exact hcap
end Go.Proofs.YtohbkohidpgjpaaGreatDoor
