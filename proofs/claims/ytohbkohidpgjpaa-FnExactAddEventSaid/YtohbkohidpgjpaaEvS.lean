/- The struct Event (4 integers) and slices of it: how they read, and contracts of the harness's functions on them: copy, compare (equal ones), mark, look for marks, count. Condition: at most 2^30 elements. -/
import Derived.Test.YtohbkohidpgjpaaOpenSl
import Derived.Test.YtohbkohidpgjpaaOpenInts
import Derived.Deep.RegionHeld3
import Derived.Handy
namespace Go.Proofs.Ytohbkohidpgjpaa
open Go.ChangeShapes Go.WideShapes Go.ChangeAt Go.RowKit Go.Deep

structure Ev where
  t : Int
  n : Int
  k : Int
  m : Int
instance : Inhabited Ev := ⟨⟨0, 0, 0, 0⟩⟩
abbrev Ev.v (x : Ev) : Value := .agg #[.int .i64 x.t, .int .i64 x.n, .int .i64 x.k, .int .i64 x.m]
abbrev Ev.cells (x : Ev) : List Value := [.int .i64 x.t, .int .i64 x.n, .int .i64 x.k, .int .i64 x.m]
abbrev Ev.o (x : Ev) : Obj := .cells #[.int .i64 x.t, .int .i64 x.n, .int .i64 x.k, .int .i64 x.m] 34
theorem Ev.cells_length (x : Ev) : x.cells.length = 4 := rfl
theorem infoEv : (Try.prog.info? 34).map (fun i => (i.zero, i.size, i.bytes)) = some (some (.agg #[.int .i64 0, .int .i64 0, .int .i64 0, .int .i64 0]), 4, 32) := by kernel_rfl
def RdEv (w : World) (v : Value) (xs : List Ev) : Prop := Rd w v 4 xs.length (xs.flatMap Ev.cells) ∧ xs.length ≤ 1073741824
def OwEv (B : Nat) (w : World) (v : Value) (xs : List Ev) : Prop := w.ownsRow B 34 4 v xs.length (xs.flatMap Ev.cells) ∧ xs.length ≤ 1073741824
theorem OwEv.rd {B : Nat} {w : World} {v : Value} {xs : List Ev} (h : OwEv B w v xs) : RdEv w v xs := ⟨rd_of_own h.1, h.2⟩
theorem RdEv.below {w w' : World} {v : Value} {xs : List Ev} (h : RdEv w v xs) (hb : Below w.heap.size w w') : RdEv w' v xs := ⟨h.1.below hb, h.2⟩
theorem RdEv.grown {w w' : World} {v : Value} {xs : List Ev} {row : Option Nat} (h : RdEv w v xs) (hg : w.grownBy w' row) (hne : v.ownBlock = none ∨ v.ownBlock ≠ row) : RdEv w' v xs := ⟨h.1.grown hg hne, h.2⟩
theorem OwEv.below {B : Nat} {w w' : World} {v : Value} {xs : List Ev} (h : OwEv B w v xs) (hb : Below w.heap.size w w') : OwEv B w' v xs := ⟨own_below h.1 hb, h.2⟩
theorem OwEv.base {B B' : Nat} {w : World} {v : Value} {xs : List Ev} (h : OwEv B w v xs) (hb : B' ≤ B) : OwEv B' w v xs := ⟨own_base h.1 hb, h.2⟩
theorem OwEv.grown {B : Nat} {w w' : World} {v : Value} {xs : List Ev} {row : Option Nat} (h : OwEv B w v xs) (hg : w.grownBy w' row) (hne : v.ownBlock = none ∨ v.ownBlock ≠ row) : OwEv B w' v xs := ⟨h.1.kept hg hne, h.2⟩
theorem OwEv.lt {B : Nat} {w : World} {v : Value} {xs : List Ev} (h : OwEv B w v xs) : ∀ k, v.ownBlock = some k → B ≤ k ∧ k < w.heap.size := h.1.lt
/-- What is known of such a slice, taken apart for a walk. -/
theorem RdEv.parts {w : World} {v : Value} {xs : List Ev} (h : RdEv w v xs) : ∃ (p : Option Addr) (cap b off : Nat), v = .slice p xs.length cap ∧ xs.length ≤ cap ∧ (0 < xs.length → p = some ⟨b, off, none⟩) ∧
    (∀ k (hk : k < xs.length), w.cell? ⟨b, off + k * 4, none⟩ = some (.int .i64 xs[k].t) ∧ w.cell? ⟨b, off + k * 4 + 1, none⟩ = some (.int .i64 xs[k].n) ∧ w.cell? ⟨b, off + k * 4 + 2, none⟩ = some (.int .i64 xs[k].k) ∧ w.cell? ⟨b, off + k * 4 + 3, none⟩ = some (.int .i64 xs[k].m)) := by
  obtain ⟨⟨hl, p, cap, b, off, hv, hcap, _, hc⟩, _⟩ := h
  refine ⟨p, cap, b, off, hv, hcap, fun h => (hc h).1, fun k hk => ⟨?_, ?_, ?_, ?_⟩⟩
  · rw [(hc (by omega)).2 (k * 4) (by omega)]
    exact flat_get Ev.cells 4 Ev.cells_length xs k 0 hk (by omega)
  · rw [Nat.add_assoc, (hc (by omega)).2 (k * 4 + 1) (by omega)]
    exact flat_get Ev.cells 4 Ev.cells_length xs k 1 hk (by omega)
  · rw [Nat.add_assoc, (hc (by omega)).2 (k * 4 + 2) (by omega)]
    exact flat_get Ev.cells 4 Ev.cells_length xs k 2 hk (by omega)
  · rw [Nat.add_assoc, (hc (by omega)).2 (k * 4 + 3) (by omega)]
    exact flat_get Ev.cells 4 Ev.cells_length xs k 3 hk (by omega)
theorem flatEv_succ (xs : List Ev) (k : Nat) (h : k < xs.length) : (xs.take (k + 1)).flatMap Ev.cells = (xs.take k).flatMap Ev.cells ++ xs[k].cells := by
  rw [List.take_succ_eq_append_getElem h, List.flatMap_append]; simp

set_option maxRecDepth 100000 in
theorem toEv1_any (x : Ev) (w : World) :
    Calls Try.prog 13 #[x.v] w fun e w' => e = .returned x.v ∧ Below w.heap.size w w' := by
  obtain ⟨t, n, k, m⟩ := x
  go_enter Try.func13, Try.ntmps13
  go_wp2
  go_returns
  exact ⟨rfl, by go_grown⟩
set_option maxRecDepth 100000 in
theorem eqEv1_ex (x : Ev) (w : World) :
    Calls Try.prog 21 #[x.v, x.v] w fun e w' => e = .returned (.bool true) ∧ (w.alloc x.o).alloc x.o = w' := by
  obtain ⟨t, n, k, m⟩ := x
  go_enter Try.func21, Try.ntmps21
  go_wp2
  go_ret
  exact ⟨rfl, rfl⟩
set_option maxRecDepth 100000 in
set_option maxHeartbeats 2000000 in
theorem toEv_any (v : Value) (xs : List Ev) (w : World) (h : RdEv w v xs) :
    Calls Try.prog 7 #[v] w fun e w' => ∃ v', e = .returned v' ∧ OwEv w.heap.size w' v' xs ∧ Below w.heap.size w w' := by
  have hlen := h.2
  obtain ⟨p, cap, b, off, rfl, hcap, hp, hcell⟩ := h.parts
  have HC := Lib.hid hcell; clear hcell
  have HP := Lib.hid hp; clear hp
  obtain ⟨i0, hi, hz0, hz1, hz2⟩ := info_parts infoEv
  go_enter Try.func7, Try.ntmps7
  go_wp2_with (at_make; refine wpList_make_full _ rfl _ _ 24 rfl w.heap.size 34 i0 (.agg #[.int .i64 0, .int .i64 0, .int .i64 0, .int .i64 0]) 4 Try.underlying24 hi hz0 hz1 _ _ _ _ xs.length rfl rfl rfl rfl ?b2 ?b3 (Nat.le_refl _) ?_)
  case b2 => rw [hz2]; omega
  case b3 => unfold maxLen; omega
  intro w0 hown0 hgrow0
  go_wp2
  go_loopw [4] (fun i wr => ∃ (k : Nat) (L : List Value), k ≤ xs.length ∧ i = .int .i64 k ∧ wr.ownsRow w.heap.size 34 4 (.slice (some ⟨w.heap.size, 0, none⟩) xs.length xs.length) xs.length L ∧ Hid (L.take (k * 4) = (xs.take k).flatMap Ev.cells) ∧ Below w.heap.size w wr ∧ w.heap.size < wr.heap.size)
    (fun i _ => xs.length - (intOf i).toNat)
  case atStart => exact ⟨0, _, Nat.zero_le _, rfl, hown0, Lib.hid rfl, (Below.refl _ _).grown hgrow0 (Nat.le_refl _) (fun k h => by cases h), (hown0.lt w.heap.size rfl).2⟩
  case round =>
    obtain ⟨k, L, hk, rfl, hown, HL, hb, hlt0⟩ := hrel
    by_cases hlt : k < xs.length
    · obtain rfl := HP.out (by omega)
      have HLl := Lib.hid hown.1
      obtain ⟨c0, c1, c2, c3⟩ := HC.out k hlt
      have c0 := (hb.cell (World.block_lt_of_cell? w _ c0)).trans c0
      have c1 := (hb.cell (World.block_lt_of_cell? w _ c1)).trans c1
      have c2 := (hb.cell (World.block_lt_of_cell? w _ c2)).trans c2
      have c3 := (hb.cell (World.block_lt_of_cell? w _ c3)).trans c3
      go_wp2_with fail
      refine (toEv1_any ⟨xs[k].t, xs[k].n, xs[k].k, xs[k].m⟩ wr).mono ?_
      rintro e w1 ⟨rfl, hb1⟩
      have hown1 := own_below hown hb1
      have d0 : w1.cell? ⟨w.heap.size, k * 4, none⟩ = some (L[k * 4]'(by have := HLl.out; omega)) := by rw [hown1.cellAt (k * 4) (by omega), List.getElem?_eq_getElem (by have := HLl.out; omega)]
      have d1 : w1.cell? ⟨w.heap.size, k * 4 + 1, none⟩ = some (L[k * 4 + 1]'(by have := HLl.out; omega)) := by rw [hown1.cellAt (k * 4 + 1) (by omega), List.getElem?_eq_getElem (by have := HLl.out; omega)]
      have d2 : w1.cell? ⟨w.heap.size, k * 4 + 2, none⟩ = some (L[k * 4 + 2]'(by have := HLl.out; omega)) := by rw [hown1.cellAt (k * 4 + 2) (by omega), List.getElem?_eq_getElem (by have := HLl.out; omega)]
      have d3 : w1.cell? ⟨w.heap.size, k * 4 + 3, none⟩ = some (L[k * 4 + 3]'(by have := HLl.out; omega)) := by rw [hown1.cellAt (k * 4 + 3) (by omega), List.getElem?_eq_getElem (by have := HLl.out; omega)]
      have f0 := hown1.frozenAt (k * 4)
      have f1 := hown1.frozenAt (k * 4 + 1)
      have f2 := hown1.frozenAt (k * 4 + 2)
      have f3 := hown1.frozenAt (k * 4 + 3)
      have hs0 := hown1.stored (k * 4) (.int .i64 xs[k].t)
      have hs1 := hs0.1.stored (k * 4 + 1) (.int .i64 xs[k].n)
      have hs2 := hs1.1.stored (k * 4 + 2) (.int .i64 xs[k].k)
      have hs3 := hs2.1.stored (k * 4 + 3) (.int .i64 xs[k].m)
      have HS0 := Lib.hid hs0.2
      have HS1 := Lib.hid hs1.2
      have HS2 := Lib.hid hs2.2
      have HS3 := Lib.hid hs3
      clear hs0 hs1 hs2 hs3
      have HB1 := Lib.hid hb1; clear hb1
      clear c0 c1 c2 c3
      go_wp2
      go_roundw
      case rel =>
        have q0 : Below w.heap.size w w1 := hb.trans (HB1.out.mono hb.size)
        have q1 := q0.grown HS0.out q0.size (fun j hj => by cases hj; exact Nat.le_refl _)
        have q2 := q1.grown HS1.out q1.size (fun j hj => by cases hj; exact Nat.le_refl _)
        have q3 := q2.grown HS2.out q2.size (fun j hj => by cases hj; exact Nat.le_refl _)
        have q4 := q3.grown HS3.out.2 q3.size (fun j hj => by cases hj; exact Nat.le_refl _)
        refine ⟨k + 1, _, by omega, by go_num, HS3.out.1, Lib.hid ?_, q4, (HS3.out.1.lt w.heap.size rfl).2⟩
        rw [flatEv_succ xs k hlt, ← HL.out, Nat.add_mul, Nat.one_mul, take_set_succ _ (k * 4 + 3) _ (by simp; have := HLl.out; omega), take_set_succ _ (k * 4 + 2) _ (by simp; have := HLl.out; omega), take_set_succ _ (k * 4 + 1) _ (by simp; have := HLl.out; omega), take_set_succ _ (k * 4) _ (by have := HLl.out; omega)]
        simp
      case measure => simp [intOf]; omega
    · have hL : L = xs.flatMap Ev.cells := by
        have h1 := HL.out
        have h2 := hown.1
        rwa [List.take_of_length_le (by omega), List.take_of_length_le (by omega)] at h1
      have HX := Lib.hid hL; clear hL
      go_wp2
      go_ret
      refine ⟨_, rfl, ⟨by rw [← HX.out]; exact hown, hlen⟩, hb⟩

set_option maxRecDepth 100000 in
set_option maxHeartbeats 2000000 in
theorem eqEv_below (v v' : Value) (xs : List Ev) (w : World) (h : RdEv w v xs) (h' : RdEv w v' xs) :
    Calls Try.prog 9 #[v, v'] w fun e w' => e = .returned (.bool true) ∧ Below w.heap.size w w' := by
  have hlen := h.2
  obtain ⟨p, cap, b, off, rfl, hcap, hp, hcell⟩ := h.parts
  obtain ⟨p', cap', b', off', rfl, hcap', hp', hcell'⟩ := h'.parts
  have HC := Lib.hid hcell; clear hcell
  have HP := Lib.hid hp; clear hp
  have HC' := Lib.hid hcell'; clear hcell'
  have HP' := Lib.hid hp'; clear hp'
  go_enter Try.func9, Try.ntmps9
  go_wp2
  go_loopw [5] (fun i wr => ∃ (k : Nat), k ≤ xs.length ∧ i = .int .i64 k ∧ Below w.heap.size w wr)
    (fun i _ => xs.length - (intOf i).toNat)
  case atStart => exact ⟨0, Nat.zero_le _, rfl, Below.refl _ _⟩
  case round =>
    obtain ⟨k, hk, rfl, hb⟩ := hrel
    by_cases hlt : k < xs.length
    · obtain rfl := HP.out (by omega)
      obtain rfl := HP'.out (by omega)
      obtain ⟨c0, c1, c2, c3⟩ := HC.out k hlt
      obtain ⟨d0, d1, d2, d3⟩ := HC'.out k hlt
      have c0 := (hb.cell (World.block_lt_of_cell? w _ c0)).trans c0
      have c1 := (hb.cell (World.block_lt_of_cell? w _ c1)).trans c1
      have c2 := (hb.cell (World.block_lt_of_cell? w _ c2)).trans c2
      have c3 := (hb.cell (World.block_lt_of_cell? w _ c3)).trans c3
      have d0 := (hb.cell (World.block_lt_of_cell? w _ d0)).trans d0
      have d1 := (hb.cell (World.block_lt_of_cell? w _ d1)).trans d1
      have d2 := (hb.cell (World.block_lt_of_cell? w _ d2)).trans d2
      have d3 := (hb.cell (World.block_lt_of_cell? w _ d3)).trans d3
      go_wp2_with fail
      go_region_held3 (fun w' => w'.cell? ⟨b, off + k * 4, none⟩ = some (.int .i64 xs[k].t) ∧ w'.cell? ⟨b, off + k * 4 + 1, none⟩ = some (.int .i64 xs[k].n) ∧ w'.cell? ⟨b, off + k * 4 + 2, none⟩ = some (.int .i64 xs[k].k) ∧ w'.cell? ⟨b, off + k * 4 + 3, none⟩ = some (.int .i64 xs[k].m) ∧ w'.cell? ⟨b', off' + k * 4, none⟩ = some (.int .i64 xs[k].t) ∧ w'.cell? ⟨b', off' + k * 4 + 1, none⟩ = some (.int .i64 xs[k].n) ∧ w'.cell? ⟨b', off' + k * 4 + 2, none⟩ = some (.int .i64 xs[k].k) ∧ w'.cell? ⟨b', off' + k * 4 + 3, none⟩ = some (.int .i64 xs[k].m)) (go_keep)
        (first | (go_at_call 21; refine (eqEv1_ex ⟨xs[k].t, xs[k].n, xs[k].k, xs[k].m⟩ _).mono ?_; rintro e w' ⟨rfl, rfl⟩))
      go_wp2
      go_roundw
      case rel => exact ⟨k + 1, by omega, by go_num, by have := hb.size; go_grown⟩
      case measure => simp [intOf]; omega
    · go_wp2
      go_ret
      exact ⟨rfl, hb⟩

/-- The marks of n such structs from c on. -/
def marksEv (c : Int) : Nat → List Ev
  | 0 => []
  | n + 1 => marksEv c n ++ [⟨c + 4 * n, c + 4 * n + 1, c + 4 * n + 1 + 1, c + 4 * n + 1 + 1 + 1⟩]
theorem marksEv_length (c : Int) (n : Nat) : (marksEv c n).length = n := by
  induction n with
  | zero => rfl
  | succ n ih => simp [marksEv, ih]
theorem marksEv_get (c : Int) (n j : Nat) (h : j < n) : (marksEv c n)[j]'(by rw [marksEv_length]; exact h) = ⟨c + 4 * j, c + 4 * j + 1, c + 4 * j + 1 + 1, c + 4 * j + 1 + 1 + 1⟩ := by
  induction n with
  | zero => omega
  | succ n ih =>
    simp only [marksEv]
    by_cases hj : j < n
    · rw [List.getElem_append_left (by rw [marksEv_length]; exact hj)]; exact ih hj
    · have : j = n := by omega
      subst this
      simp [List.getElem_append_right, marksEv_length]

set_option maxRecDepth 100000 in
set_option maxHeartbeats 4000000 in
theorem markEv_any (v : Value) (xs : List Ev) (c : Int) (B : Nat) (w : World) (h : OwEv B w v xs) (h0 : 0 ≤ c) (h1 : c ≤ 1152921504606846976) :
    Calls Try.prog 10 #[v, .int .i64 c] w fun e w' => e = .returned (.int .i64 (c + 4 * xs.length)) ∧ OwEv B w' v (marksEv c xs.length) ∧ w.grownBy w' v.ownBlock := by
  have hlen := h.2
  obtain ⟨p, cap, g, rfl, hcap, hp⟩ := own_shape h.1
  have HP := Lib.hid hp; clear hp
  have HO := Lib.hid h.1; clear h
  go_enter Try.func10, Try.ntmps10
  go_wp2
  go_loopw [1, 5] (fun a i wr => ∃ (k : Nat) (L : List Value), k ≤ xs.length ∧ i = .int .i64 k ∧ a = .int .i64 (c + 4 * k) ∧ wr.ownsRow B 34 4 (.slice p xs.length cap) xs.length L ∧ Hid (L.take (k * 4) = (marksEv c k).flatMap Ev.cells) ∧ w.grownBy wr (Value.slice p xs.length cap).ownBlock)
    (fun _ i _ => xs.length - (intOf i).toNat)
  case atStart => exact ⟨0, _, Nat.zero_le _, rfl, by simp, HO.out, Lib.hid rfl, World.grownBy.refl _ _⟩
  case round =>
    obtain ⟨k, L, hk, rfl, rfl, hown, HL, hb⟩ := hrel
    by_cases hlt : k < xs.length
    · obtain ⟨rfl, hge⟩ := HP.out (by omega)
      have HLl := Lib.hid hown.1
      have d0 : wr.cell? ⟨g, k * 4, none⟩ = some (L[k * 4]'(by have := HLl.out; omega)) := by rw [hown.cellAt (k * 4) (by omega), List.getElem?_eq_getElem (by have := HLl.out; omega)]
      have d1 : wr.cell? ⟨g, k * 4 + 1, none⟩ = some (L[k * 4 + 1]'(by have := HLl.out; omega)) := by rw [hown.cellAt (k * 4 + 1) (by omega), List.getElem?_eq_getElem (by have := HLl.out; omega)]
      have d2 : wr.cell? ⟨g, k * 4 + 2, none⟩ = some (L[k * 4 + 2]'(by have := HLl.out; omega)) := by rw [hown.cellAt (k * 4 + 2) (by omega), List.getElem?_eq_getElem (by have := HLl.out; omega)]
      have d3 : wr.cell? ⟨g, k * 4 + 3, none⟩ = some (L[k * 4 + 3]'(by have := HLl.out; omega)) := by rw [hown.cellAt (k * 4 + 3) (by omega), List.getElem?_eq_getElem (by have := HLl.out; omega)]
      have f0 := hown.frozenAt (k * 4)
      have f1 := hown.frozenAt (k * 4 + 1)
      have f2 := hown.frozenAt (k * 4 + 2)
      have f3 := hown.frozenAt (k * 4 + 3)
      have hs0 := hown.stored (k * 4) (.int .i64 (c + 4 * k))
      have hs1 := hs0.1.stored (k * 4 + 1) (.int .i64 (c + 4 * k + 1))
      have hs2 := hs1.1.stored (k * 4 + 2) (.int .i64 (c + 4 * k + 1 + 1))
      have hs3 := hs2.1.stored (k * 4 + 3) (.int .i64 (c + 4 * k + 1 + 1 + 1))
      have HS0 := Lib.hid hs0.2
      have HS1 := Lib.hid hs1.2
      have HS2 := Lib.hid hs2.2
      have HS3 := Lib.hid hs3
      clear hs0 hs1 hs2 hs3
      go_wp2
      go_roundw
      case rel =>
        refine ⟨k + 1, _, by omega, by go_num, by go_num, HS3.out.1, Lib.hid ?_, grown_trans (grown_trans (grown_trans (grown_trans (hb) HS0.out) HS1.out) HS2.out) HS3.out.2⟩
        rw [Nat.add_mul, Nat.one_mul, take_set_succ _ (k * 4 + 3) _ (by simp; have := HLl.out; omega), take_set_succ _ (k * 4 + 2) _ (by simp; have := HLl.out; omega), take_set_succ _ (k * 4 + 1) _ (by simp; have := HLl.out; omega), take_set_succ _ (k * 4) _ (by have := HLl.out; omega), HL.out]
        simp [marksEv]
      case measure => simp [intOf]; omega
    · have hkn : k = xs.length := by omega
      have hL : L = (marksEv c xs.length).flatMap Ev.cells := by
        have h1 := HL.out
        have h2 := hown.1
        rwa [List.take_of_length_le (by omega), hkn] at h1
      have HX := Lib.hid hL; clear hL
      have HK := Lib.hid hkn; clear hkn
      go_wp2
      go_ret
      refine ⟨ret_int (by rw [HK.out]), ⟨by rw [← HX.out, marksEv_length]; exact hown, by rw [marksEv_length]; exact hlen⟩, hb⟩

set_option maxRecDepth 100000 in
set_option maxHeartbeats 4000000 in
theorem heldEv_any (v : Value) (n : Nat) (c : Int) (w : World) (h : RdEv w v (marksEv c n)) (h0 : 0 ≤ c) (h1 : c ≤ 1152921504606846976) :
    Calls Try.prog 11 #[v, .int .i64 c] w fun e w' => e = .returned (.int .i64 (c + 4 * n)) ∧ Below w.heap.size w w' := by
  have hlen := h.2
  obtain ⟨p, cap, b, off, rfl, hcap, hp, hcell0⟩ := h.parts
  rw [marksEv_length] at *
  have hcell : ∀ k, k < n → w.cell? ⟨b, off + k * 4, none⟩ = some (.int .i64 (c + 4 * k)) ∧ w.cell? ⟨b, off + k * 4 + 1, none⟩ = some (.int .i64 (c + 4 * k + 1)) ∧ w.cell? ⟨b, off + k * 4 + 2, none⟩ = some (.int .i64 (c + 4 * k + 1 + 1)) ∧ w.cell? ⟨b, off + k * 4 + 3, none⟩ = some (.int .i64 (c + 4 * k + 1 + 1 + 1)) := fun k hk => by
    have h2 := hcell0 k (by rw [marksEv_length]; exact hk)
    simp only [marksEv_get c n k hk] at h2
    exact h2
  clear hcell0
  have HC := Lib.hid hcell; clear hcell
  have HP := Lib.hid hp; clear hp
  go_enter Try.func11, Try.ntmps11
  go_wp2
  go_loop [1, 5] (fun a i => ∃ (k : Nat), k ≤ n ∧ i = .int .i64 k ∧ a = .int .i64 (c + 4 * k))
    (fun _ i => n - (intOf i).toNat)
  case atStart => exact ⟨0, Nat.zero_le _, rfl, by simp⟩
  case round =>
    obtain ⟨k, hk, rfl, rfl⟩ := hrel
    by_cases hlt : k < n
    · obtain rfl := HP.out (by omega)
      obtain ⟨c0, c1, c2, c3⟩ := HC.out k hlt
      go_wp2
      go_round
      case rel => exact ⟨k + 1, by omega, by go_num, by go_num⟩
      case measure => simp [intOf]; omega
    · have hkn : k = n := by omega
      subst hkn
      go_wp2
      go_ret
      exact ⟨rfl, Below.refl _ _⟩

def AsEv (w : World) (v : Value) (xs : List Ev) : Prop := Rd w v 4 xs.length (xs.flatMap Ev.cells) ∧ xs.length ≤ 9223372036854775807
theorem AsEv.rd {w : World} {v : Value} {xs : List Ev} (h : AsEv w v xs) (hl : xs.length ≤ 1073741824) : RdEv w v xs := ⟨h.1, hl⟩
def ArgEv (w : World) (v : Value) : Prop := ∃ xs : List Ev, AsEv w v xs
def szEv (xs : List Ev) (left : Int) : Int := if left - xs.length < 0 then -1 else left - xs.length
theorem szEv_ge (xs : List Ev) (left : Int) (h : ¬ szEv xs left < 0) : (xs.length : Int) ≤ left ∧ szEv xs left = left - xs.length := by
  unfold szEv at *; split at h <;> simp_all <;> omega
set_option maxRecDepth 100000 in
theorem szEv_any (v : Value) (xs : List Ev) (left : Int) (w : World) (h : AsEv w v xs) (h0 : 0 ≤ left) (h1 : left ≤ 1048576) :
    Calls Try.prog 5 #[v, .int .i64 left] w fun e w' => e = .returned (.int .i64 (szEv xs left)) ∧ w = w' := by
  have hn := h.2
  obtain ⟨_, p, cap, b, off, rfl, _⟩ := h.1
  by_cases hlt : left - xs.length < 0
  · go_enter Try.func5, Try.ntmps5
    go_wp2
    go_ret
    exact ⟨by simp [szEv, hlt], rfl⟩
  · go_enter Try.func5, Try.ntmps5
    go_wp2
    go_ret
    exact ⟨ret_int (by rw [szEv, if_neg (by omega)]), rfl⟩
theorem trodEv {H : Type} {enc : TypeId × Value → H} {W : World} {n : Nat} {cs : List Value} {y : DataW H × List MemPlace} (h : DataW.trod enc Try.prog W 0 (fun _ => true) true n 32 cs = some y) :
    ∃ x : Ev, cs = x.cells ∧ True := by
  obtain ⟨hl, hf⟩ := trod_fields Try.underlying32 (by kernel_rfl) (by kernel_rfl) h
  match cs, hl with
  | [c0, c1, c2, c3], _ =>
    obtain ⟨_, _, h0⟩ := hf 0 _ c0 rfl rfl
    obtain ⟨_, _, h1⟩ := hf 1 _ c1 rfl rfl
    obtain ⟨_, _, h2⟩ := hf 2 _ c2 rfl rfl
    obtain ⟨_, _, h3⟩ := hf 3 _ c3 rfl rfl
    obtain ⟨a0, e0, _⟩ := DataW.trod_int Try.underlying3 h0
    obtain ⟨a1, e1, _⟩ := DataW.trod_int Try.underlying3 h1
    obtain ⟨a2, e2, _⟩ := DataW.trod_int Try.underlying3 h2
    obtain ⟨a3, e3, _⟩ := DataW.trod_int Try.underlying3 h3
    simp at e0 e1 e2 e3
    exact ⟨⟨a0, a1, a2, a3⟩, by simp [e0, e1, e2, e3], trivial⟩
def ArgEv1 (_w : World) (v : Value) : Prop := ∃ x : Ev, v = x.v
set_option maxRecDepth 100000 in
theorem open_argEv1 {H : Type} {enc : TypeId × Value → H} {W : World} {base : Nat} {v : Value} {d : DataW H} {p : List MemPlace}
    (hok : Value.okWide Try.prog W .any base 32 v) (h : DataW.Trod enc Try.prog W 0 (fun _ => true) true 32 v d p) : ArgEv1 W v := by
  obtain ⟨cs, rfl, _⟩ := okWide_struct Try.underlying32 hok
  obtain ⟨fuel, hf⟩ := h
  obtain ⟨x, hx, _⟩ := trodEv hf
  obtain ⟨l⟩ := cs
  have hl : l = x.cells := by simpa [Value.cells] using hx
  exact ⟨x, by rw [hl]⟩
set_option maxRecDepth 100000 in
theorem open_argEv {H : Type} {enc : TypeId × Value → H} {W : World} {base : Nat} {v : Value} {d : DataW H} {p : List MemPlace}
    (hok : Value.okWide Try.prog W .any base 22 v) (h : DataW.Trod enc Try.prog W 0 (fun _ => true) true 22 v d p) : ArgEv W v := by
  obtain ⟨xs, h1, h2, _, _⟩ := open_sl Ev.cells 4 (fun _ => True) (by omega) Ev.cells_length Try.underlying22 (by kernel_rfl) (fun n cs y h => trodEv h) hok h
  exact ⟨xs, h1, h2⟩
end Go.Proofs.Ytohbkohidpgjpaa
