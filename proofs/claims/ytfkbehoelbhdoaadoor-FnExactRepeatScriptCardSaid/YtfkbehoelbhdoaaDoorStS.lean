/- The struct Step (3 integers) and slices of it: how they read, and contracts of the harness's functions on them: copy, compare (equal ones), mark, look for marks, count. Condition: at most 2^30 elements. -/
import Derived.Test.YtfkbehoelbhdoaaDoorOpenSl
import Derived.Test.YtfkbehoelbhdoaaDoorOpenInts
import Derived.Test.YtfkbehoelbhdoaaDoorTxt
import Derived.Test.YtfkbehoelbhdoaaDoorKeep
import Derived.Deep.RegionHeld3
import Derived.Handy
namespace Go.Proofs.YtfkbehoelbhdoaaDoor
open Go.ChangeShapes Go.WideShapes Go.ChangeAt Go.RowKit Go.Deep

structure St where
  kd : Int
  nd : Int
  dt : ByteArray
instance : Inhabited St := ⟨⟨0, 0, ⟨#[]⟩⟩⟩
abbrev St.v (x : St) : Value := .agg #[.int .i64 x.kd, .int .i64 x.nd, .string x.dt]
abbrev St.cells (x : St) : List Value := [.int .i64 x.kd, .int .i64 x.nd, .string x.dt]
abbrev St.o (x : St) : Obj := .cells #[.int .i64 x.kd, .int .i64 x.nd, .string x.dt] 52
theorem St.cells_length (x : St) : x.cells.length = 3 := rfl
/-- the strings are no longer than a string may be -/
def St.ok (x : St) : Prop := x.dt.size ≤ 9223372036854775807
theorem infoSt : (Tryd.prog.info? 52).map (fun i => (i.zero, i.size, i.bytes)) = some (some (.agg #[.int .i64 0, .int .i64 0, .string ⟨#[]⟩]), 3, 32) := by kernel_rfl
def RdSt (w : World) (v : Value) (xs : List St) : Prop := Rd w v 3 xs.length (xs.flatMap St.cells) ∧ xs.length ≤ 1073741824 ∧ ∀ x ∈ xs, x.ok
def OwSt (B : Nat) (w : World) (v : Value) (xs : List St) : Prop := w.ownsRow B 52 3 v xs.length (xs.flatMap St.cells) ∧ xs.length ≤ 1073741824 ∧ ∀ x ∈ xs, x.ok
theorem OwSt.rd {B : Nat} {w : World} {v : Value} {xs : List St} (h : OwSt B w v xs) : RdSt w v xs := ⟨rd_of_own h.1, h.2⟩
theorem RdSt.below {w w' : World} {v : Value} {xs : List St} (h : RdSt w v xs) (hb : Below w.heap.size w w') : RdSt w' v xs := ⟨h.1.below hb, h.2⟩
theorem RdSt.grown {w w' : World} {v : Value} {xs : List St} {row : Option Nat} (h : RdSt w v xs) (hg : w.grownBy w' row) (hne : v.ownBlock = none ∨ v.ownBlock ≠ row) : RdSt w' v xs := ⟨h.1.grown hg hne, h.2⟩
theorem OwSt.below {B : Nat} {w w' : World} {v : Value} {xs : List St} (h : OwSt B w v xs) (hb : Below w.heap.size w w') : OwSt B w' v xs := ⟨own_below h.1 hb, h.2⟩
theorem OwSt.base {B B' : Nat} {w : World} {v : Value} {xs : List St} (h : OwSt B w v xs) (hb : B' ≤ B) : OwSt B' w v xs := ⟨own_base h.1 hb, h.2⟩
theorem OwSt.grown {B : Nat} {w w' : World} {v : Value} {xs : List St} {row : Option Nat} (h : OwSt B w v xs) (hg : w.grownBy w' row) (hne : v.ownBlock = none ∨ v.ownBlock ≠ row) : OwSt B w' v xs := ⟨h.1.kept hg hne, h.2⟩
theorem OwSt.lt {B : Nat} {w : World} {v : Value} {xs : List St} (h : OwSt B w v xs) : ∀ k, v.ownBlock = some k → B ≤ k ∧ k < w.heap.size := h.1.lt
/-- What is known of such a slice, taken apart for a walk. -/
theorem RdSt.parts {w : World} {v : Value} {xs : List St} (h : RdSt w v xs) : ∃ (p : Option Addr) (cap b off : Nat), v = .slice p xs.length cap ∧ xs.length ≤ cap ∧ (0 < xs.length → p = some ⟨b, off, none⟩) ∧
    (∀ k (hk : k < xs.length), w.cell? ⟨b, off + k * 3, none⟩ = some (.int .i64 xs[k].kd) ∧ w.cell? ⟨b, off + k * 3 + 1, none⟩ = some (.int .i64 xs[k].nd) ∧ w.cell? ⟨b, off + k * 3 + 2, none⟩ = some (.string xs[k].dt)) := by
  obtain ⟨⟨hl, p, cap, b, off, hv, hcap, _, hc⟩, _⟩ := h
  refine ⟨p, cap, b, off, hv, hcap, fun h => (hc h).1, fun k hk => ⟨?_, ?_, ?_⟩⟩
  · rw [(hc (by omega)).2 (k * 3) (by omega)]
    exact flat_get St.cells 3 St.cells_length xs k 0 hk (by omega)
  · rw [Nat.add_assoc, (hc (by omega)).2 (k * 3 + 1) (by omega)]
    exact flat_get St.cells 3 St.cells_length xs k 1 hk (by omega)
  · rw [Nat.add_assoc, (hc (by omega)).2 (k * 3 + 2) (by omega)]
    exact flat_get St.cells 3 St.cells_length xs k 2 hk (by omega)
theorem flatSt_succ (xs : List St) (k : Nat) (h : k < xs.length) : (xs.take (k + 1)).flatMap St.cells = (xs.take k).flatMap St.cells ++ xs[k].cells := by
  rw [List.take_succ_eq_append_getElem h, List.flatMap_append]; simp

theorem toSt1_any (x : St) (w : World) :
    Calls Tryd.prog 39 #[x.v] w fun e w' => e = .returned x.v ∧ Below w.heap.size w w' := by
  obtain ⟨kd, nd, dt⟩ := x
  go_enter Tryd.func39, Tryd.ntmps39
  go_wp2
  go_returns
  exact ⟨rfl, by go_grown⟩
theorem eqSt1_ex (x : St) (w : World) :
    Calls Tryd.prog 53 #[x.v, x.v] w fun e w' => e = .returned (.bool true) ∧ (w.alloc x.o).alloc x.o = w' := by
  obtain ⟨kd, nd, dt⟩ := x
  go_enter Tryd.func53, Tryd.ntmps53
  go_wp2
  go_ret
  exact ⟨rfl, rfl⟩
set_option maxRecDepth 100000 in
set_option maxHeartbeats 2000000 in
theorem toSt_any (v : Value) (xs : List St) (w : World) (h : RdSt w v xs) :
    Calls Tryd.prog 16 #[v] w fun e w' => ∃ v', e = .returned v' ∧ OwSt w.heap.size w' v' xs ∧ Below w.heap.size w w' := by
  have hlen := h.2.1
  have hok := Lib.hid h.2.2
  obtain ⟨p, cap, b, off, rfl, hcap, hp, hcell⟩ := h.parts
  have HC := Lib.hid hcell; clear hcell
  have HP := Lib.hid hp; clear hp
  obtain ⟨i0, hi, hz0, hz1, hz2⟩ := info_parts infoSt
  go_enter Tryd.func16, Tryd.ntmps16
  go_wp2_with (at_make; refine wpList_make_full _ rfl _ _ 25 rfl w.heap.size 52 i0 (.agg #[.int .i64 0, .int .i64 0, .string ⟨#[]⟩]) 3 Tryd.underlying25 hi hz0 hz1 _ _ _ _ xs.length rfl rfl rfl rfl ?b2 ?b3 (Nat.le_refl _) ?_)
  case b2 => rw [hz2]; omega
  case b3 => unfold maxLen; omega
  intro w0 hown0 hgrow0
  go_wp2
  go_loopw [4] (fun i wr => ∃ (k : Nat) (L : List Value), k ≤ xs.length ∧ i = .int .i64 k ∧ wr.ownsRow w.heap.size 52 3 (.slice (some ⟨w.heap.size, 0, none⟩) xs.length xs.length) xs.length L ∧ Hid (L.take (k * 3) = (xs.take k).flatMap St.cells) ∧ Below w.heap.size w wr ∧ w.heap.size < wr.heap.size)
    (fun i _ => xs.length - (intOf i).toNat)
  case atStart => exact ⟨0, _, Nat.zero_le _, rfl, hown0, Lib.hid rfl, (Below.refl _ _).grown hgrow0 (Nat.le_refl _) (fun k h => by cases h), (hown0.lt w.heap.size rfl).2⟩
  case round =>
    obtain ⟨k, L, hk, rfl, hown, HL, hb, hlt0⟩ := hrel
    by_cases hlt : k < xs.length
    · obtain rfl := HP.out (by omega)
      have HLl := Lib.hid hown.1
      obtain ⟨c0, c1, c2⟩ := HC.out k hlt
      have c0 := (hb.cell (World.block_lt_of_cell? w _ c0)).trans c0
      have c1 := (hb.cell (World.block_lt_of_cell? w _ c1)).trans c1
      have c2 := (hb.cell (World.block_lt_of_cell? w _ c2)).trans c2
      go_wp2_with fail
      refine (toSt1_any ⟨xs[k].kd, xs[k].nd, xs[k].dt⟩ wr).mono ?_
      rintro e w1 ⟨rfl, hb1⟩
      have hown1 := own_below hown hb1
      have d0 : w1.cell? ⟨w.heap.size, k * 3, none⟩ = some (L[k * 3]'(by have := HLl.out; omega)) := by rw [hown1.cellAt (k * 3) (by omega), List.getElem?_eq_getElem (by have := HLl.out; omega)]
      have d1 : w1.cell? ⟨w.heap.size, k * 3 + 1, none⟩ = some (L[k * 3 + 1]'(by have := HLl.out; omega)) := by rw [hown1.cellAt (k * 3 + 1) (by omega), List.getElem?_eq_getElem (by have := HLl.out; omega)]
      have d2 : w1.cell? ⟨w.heap.size, k * 3 + 2, none⟩ = some (L[k * 3 + 2]'(by have := HLl.out; omega)) := by rw [hown1.cellAt (k * 3 + 2) (by omega), List.getElem?_eq_getElem (by have := HLl.out; omega)]
      have f0 := hown1.frozenAt (k * 3)
      have f1 := hown1.frozenAt (k * 3 + 1)
      have f2 := hown1.frozenAt (k * 3 + 2)
      have hs0 := hown1.stored (k * 3) (.int .i64 xs[k].kd)
      have hs1 := hs0.1.stored (k * 3 + 1) (.int .i64 xs[k].nd)
      have hs2 := hs1.1.stored (k * 3 + 2) (.string xs[k].dt)
      have HS0 := Lib.hid hs0.2
      have HS1 := Lib.hid hs1.2
      have HS2 := Lib.hid hs2
      clear hs0 hs1 hs2
      have HB1 := Lib.hid hb1; clear hb1
      clear c0 c1 c2
      go_wp2
      go_roundw
      case rel =>
        have q0 : Below w.heap.size w w1 := hb.trans (HB1.out.mono hb.size)
        have q1 := q0.grown HS0.out q0.size (fun j hj => by cases hj; exact Nat.le_refl _)
        have q2 := q1.grown HS1.out q1.size (fun j hj => by cases hj; exact Nat.le_refl _)
        have q3 := q2.grown HS2.out.2 q2.size (fun j hj => by cases hj; exact Nat.le_refl _)
        refine ⟨k + 1, _, by omega, by go_num, HS2.out.1, Lib.hid ?_, q3, (HS2.out.1.lt w.heap.size rfl).2⟩
        rw [flatSt_succ xs k hlt, ← HL.out, Nat.add_mul, Nat.one_mul, take_set_succ _ (k * 3 + 2) _ (by simp; have := HLl.out; omega), take_set_succ _ (k * 3 + 1) _ (by simp; have := HLl.out; omega), take_set_succ _ (k * 3) _ (by have := HLl.out; omega)]
        simp
      case measure => simp [intOf]; omega
    · have hL : L = xs.flatMap St.cells := by
        have h1 := HL.out
        have h2 := hown.1
        rwa [List.take_of_length_le (by omega), List.take_of_length_le (by omega)] at h1
      have HX := Lib.hid hL; clear hL
      go_wp2
      go_ret
      refine ⟨_, rfl, ⟨by rw [← HX.out]; exact hown, hlen, hok.out⟩, hb⟩

set_option maxRecDepth 100000 in
set_option maxHeartbeats 2000000 in
theorem eqSt_below (v v' : Value) (xs : List St) (w : World) (h : RdSt w v xs) (h' : RdSt w v' xs) :
    Calls Tryd.prog 18 #[v, v'] w fun e w' => e = .returned (.bool true) ∧ Below w.heap.size w w' := by
  have hlen := h.2.1
  have hok := Lib.hid h.2.2
  obtain ⟨p, cap, b, off, rfl, hcap, hp, hcell⟩ := h.parts
  obtain ⟨p', cap', b', off', rfl, hcap', hp', hcell'⟩ := h'.parts
  have HC := Lib.hid hcell; clear hcell
  have HP := Lib.hid hp; clear hp
  have HC' := Lib.hid hcell'; clear hcell'
  have HP' := Lib.hid hp'; clear hp'
  go_enter Tryd.func18, Tryd.ntmps18
  go_wp2
  go_loopw [5] (fun i wr => ∃ (k : Nat), k ≤ xs.length ∧ i = .int .i64 k ∧ Below w.heap.size w wr)
    (fun i _ => xs.length - (intOf i).toNat)
  case atStart => exact ⟨0, Nat.zero_le _, rfl, Below.refl _ _⟩
  case round =>
    obtain ⟨k, hk, rfl, hb⟩ := hrel
    by_cases hlt : k < xs.length
    · obtain rfl := HP.out (by omega)
      obtain rfl := HP'.out (by omega)
      obtain ⟨c0, c1, c2⟩ := HC.out k hlt
      obtain ⟨d0, d1, d2⟩ := HC'.out k hlt
      have c0 := (hb.cell (World.block_lt_of_cell? w _ c0)).trans c0
      have c1 := (hb.cell (World.block_lt_of_cell? w _ c1)).trans c1
      have c2 := (hb.cell (World.block_lt_of_cell? w _ c2)).trans c2
      have d0 := (hb.cell (World.block_lt_of_cell? w _ d0)).trans d0
      have d1 := (hb.cell (World.block_lt_of_cell? w _ d1)).trans d1
      have d2 := (hb.cell (World.block_lt_of_cell? w _ d2)).trans d2
      go_wp2_with fail
      go_region_held3 (fun w' => w'.cell? ⟨b, off + k * 3, none⟩ = some (.int .i64 xs[k].kd) ∧ w'.cell? ⟨b, off + k * 3 + 1, none⟩ = some (.int .i64 xs[k].nd) ∧ w'.cell? ⟨b, off + k * 3 + 2, none⟩ = some (.string xs[k].dt) ∧ w'.cell? ⟨b', off' + k * 3, none⟩ = some (.int .i64 xs[k].kd) ∧ w'.cell? ⟨b', off' + k * 3 + 1, none⟩ = some (.int .i64 xs[k].nd) ∧ w'.cell? ⟨b', off' + k * 3 + 2, none⟩ = some (.string xs[k].dt)) (go_keep)
        (first | (go_at_call 53; refine (eqSt1_ex ⟨xs[k].kd, xs[k].nd, xs[k].dt⟩ _).mono ?_; rintro e w' ⟨rfl, rfl⟩))
      go_wp2
      go_roundw
      case rel => exact ⟨k + 1, by omega, by go_num, by have := hb.size; go_grown⟩
      case measure => simp [intOf]; omega
    · go_wp2
      go_ret
      exact ⟨rfl, hb⟩

/-- The marks of n such structs from c on. -/
def marksSt (c : Int) : Nat → List St
  | 0 => []
  | n + 1 => marksSt c n ++ [⟨c + 3 * n, c + 3 * n + 1, mkText (c + 3 * n + 1 + 1)⟩]
theorem marksSt_length (c : Int) (n : Nat) : (marksSt c n).length = n := by
  induction n with
  | zero => rfl
  | succ n ih => simp [marksSt, ih]
theorem marksSt_get (c : Int) (n j : Nat) (h : j < n) : (marksSt c n)[j]'(by rw [marksSt_length]; exact h) = ⟨c + 3 * j, c + 3 * j + 1, mkText (c + 3 * j + 1 + 1)⟩ := by
  induction n with
  | zero => omega
  | succ n ih =>
    simp only [marksSt]
    by_cases hj : j < n
    · rw [List.getElem_append_left (by rw [marksSt_length]; exact hj)]; exact ih hj
    · have : j = n := by omega
      subst this
      simp [List.getElem_append_right, marksSt_length]

theorem marksSt_ok (c : Int) (n : Nat) (h1 : c + 3 * n ≤ 4611686018427387904) : ∀ x ∈ marksSt c n, x.ok := by
  induction n with
  | zero => intro x hx; cases hx
  | succ n ih =>
    intro x hx
    rcases List.mem_append.1 hx with h | h
    · exact ih (by omega) x h
    · rw [List.mem_singleton] at h
      subst h
      exact mkText_size _ (by omega)

set_option maxRecDepth 100000 in
set_option maxHeartbeats 4000000 in
theorem markSt_any (v : Value) (xs : List St) (c : Int) (B : Nat) (w : World) (h : OwSt B w v xs) (h0 : 0 ≤ c) (h1 : c ≤ 1152921504606846976) :
    Calls Tryd.prog 24 #[v, .int .i64 c] w fun e w' => e = .returned (.int .i64 (c + 3 * xs.length)) ∧ OwSt B w' v (marksSt c xs.length) ∧ w.grownBy w' v.ownBlock := by
  have hlen := h.2.1
  have hok := Lib.hid h.2.2
  obtain ⟨p, cap, g, rfl, hcap, hp⟩ := own_shape h.1
  have HP := Lib.hid hp; clear hp
  have HO := Lib.hid h.1; clear h
  go_enter Tryd.func24, Tryd.ntmps24
  go_wp2
  go_loopw [1, 5] (fun a i wr => ∃ (k : Nat) (L : List Value), k ≤ xs.length ∧ i = .int .i64 k ∧ a = .int .i64 (c + 3 * k) ∧ wr.ownsRow B 52 3 (.slice p xs.length cap) xs.length L ∧ Hid (L.take (k * 3) = (marksSt c k).flatMap St.cells) ∧ w.grownBy wr (Value.slice p xs.length cap).ownBlock)
    (fun _ i _ => xs.length - (intOf i).toNat)
  case atStart => exact ⟨0, _, Nat.zero_le _, rfl, by simp, HO.out, Lib.hid rfl, World.grownBy.refl _ _⟩
  case round =>
    obtain ⟨k, L, hk, rfl, rfl, hown, HL, hb⟩ := hrel
    by_cases hlt : k < xs.length
    · obtain ⟨rfl, hge⟩ := HP.out (by omega)
      have HLl := Lib.hid hown.1
      obtain ⟨u0, d0⟩ := own_has hown (k * 3) (by omega)
      obtain ⟨u1, d1⟩ := own_has hown (k * 3 + 1) (by omega)
      have f0 := hown.frozenAt (k * 3)
      have f1 := hown.frozenAt (k * 3 + 1)
      have hs0 := hown.stored (k * 3) (.int .i64 (c + 3 * k))
      have hs1 := hs0.1.stored (k * 3 + 1) (.int .i64 (c + 3 * k + 1))
      have HS0 := Lib.hid hs0
      have HS1 := Lib.hid hs1
      clear hs0 hs1
      go_wp2_with fail
      refine (markText_any (c + 3 * k + 1 + 1) _ (by omega)).mono ?_
      rintro e v1 ⟨rfl, hbv1⟩
      have ho1 := own_below HS1.out.1 hbv1
      have HBV1 := Lib.hid hbv1; clear hbv1
      clear d0 f0 d1 f1
      obtain ⟨u2, d2⟩ := own_has ho1 (k * 3 + 2) (by omega)
      have f2 := ho1.frozenAt (k * 3 + 2)
      have hs2 := ho1.stored (k * 3 + 2) (.string (mkText (c + 3 * k + 1 + 1)))
      have HS2 := Lib.hid hs2
      clear hs2
      go_wp2
      go_roundw
      case rel =>
        refine ⟨k + 1, _, by omega, by go_num, by go_num, HS2.out.1, Lib.hid ?_, grown_trans (grown_trans (grown_trans (grown_trans (hb) HS0.out.2) HS1.out.2) (grown_of_below HBV1.out)) HS2.out.2⟩
        rw [Nat.add_mul, Nat.one_mul, take_set_succ _ (k * 3 + 2) _ (by simp; have := HLl.out; omega), take_set_succ _ (k * 3 + 1) _ (by simp; have := HLl.out; omega), take_set_succ _ (k * 3) _ (by have := HLl.out; omega), HL.out]
        simp [marksSt]
      case measure => simp [intOf]; omega
    · have hkn : k = xs.length := by omega
      have hL : L = (marksSt c xs.length).flatMap St.cells := by
        have h1 := HL.out
        have h2 := hown.1
        rwa [List.take_of_length_le (by omega), hkn] at h1
      have HX := Lib.hid hL; clear hL
      have HK := Lib.hid hkn; clear hkn
      go_wp2
      go_ret
      refine ⟨ret_int (by rw [HK.out]), ⟨by rw [← HX.out, marksSt_length]; exact hown, by rw [marksSt_length]; exact hlen, marksSt_ok c xs.length (by omega)⟩, hb⟩

set_option maxRecDepth 100000 in
set_option maxHeartbeats 4000000 in
theorem heldSt_any (v : Value) (n : Nat) (c : Int) (w : World) (h : RdSt w v (marksSt c n)) (h0 : 0 ≤ c) (h1 : c ≤ 1152921504606846976) :
    Calls Tryd.prog 34 #[v, .int .i64 c] w fun e w' => e = .returned (.int .i64 (c + 3 * n)) ∧ Below w.heap.size w w' := by
  have hlen := h.2.1
  have hok := Lib.hid h.2.2
  obtain ⟨p, cap, b, off, rfl, hcap, hp, hcell0⟩ := h.parts
  rw [marksSt_length] at *
  have hcell : ∀ k, k < n → w.cell? ⟨b, off + k * 3, none⟩ = some (.int .i64 (c + 3 * k)) ∧ w.cell? ⟨b, off + k * 3 + 1, none⟩ = some (.int .i64 (c + 3 * k + 1)) ∧ w.cell? ⟨b, off + k * 3 + 2, none⟩ = some (.string (mkText (c + 3 * k + 1 + 1))) := fun k hk => by
    have h2 := hcell0 k (by rw [marksSt_length]; exact hk)
    simp only [marksSt_get c n k hk] at h2
    exact h2
  clear hcell0
  have HC := Lib.hid hcell; clear hcell
  have HP := Lib.hid hp; clear hp
  go_enter Tryd.func34, Tryd.ntmps34
  go_wp2
  go_loopw [1, 5] (fun a i wr => ∃ (k : Nat), k ≤ n ∧ i = .int .i64 k ∧ a = .int .i64 (c + 3 * k) ∧ Below w.heap.size w wr)
    (fun _ i _ => n - (intOf i).toNat)
  case atStart => exact ⟨0, Nat.zero_le _, rfl, by simp, Below.refl _ _⟩
  case round =>
    obtain ⟨k, hk, rfl, rfl, hb⟩ := hrel
    by_cases hlt : k < n
    · obtain rfl := HP.out (by omega)
      obtain ⟨c0, c1, c2⟩ := HC.out k hlt
      have c0 := cell_on hb c0
      have c1 := cell_on hb c1
      have c2 := cell_on hb c2
      go_wp2_with fail
      have hBh := Lib.hid hb
      go_region_held3 (fun w' => Below w.heap.size w w' ∧ w'.cell? ⟨b, off + k * 3 + 2, none⟩ = some (.string (mkText (c + 3 * k + 1 + 1)))) (first | exact keepB1 (by assumption) hbel | exact ⟨hBh.out.drew, by go_keep⟩)
        (first | (go_at_call 59; refine (markText_any (c + 3 * k + 1 + 1) _ (by omega)).mono ?_; rintro e w' ⟨rfl, hbel⟩))
      go_wp2
      go_roundw
      case rel => exact ⟨k + 1, by omega, by go_num, by go_num, (by assumption : Below w.heap.size w _ ∧ _).1⟩
      case measure => simp [intOf]; omega
    · have hkn : k = n := by omega
      subst hkn
      go_wp2
      go_ret
      exact ⟨rfl, hb⟩

def AsSt (w : World) (v : Value) (xs : List St) : Prop := Rd w v 3 xs.length (xs.flatMap St.cells) ∧ xs.length ≤ 9223372036854775807 ∧ ∀ x ∈ xs, x.ok
theorem AsSt.rd {w : World} {v : Value} {xs : List St} (h : AsSt w v xs) (hl : xs.length ≤ 1073741824) : RdSt w v xs := ⟨h.1, hl, h.2.2⟩
theorem AsSt.below {w w' : World} {v : Value} {xs : List St} (h : AsSt w v xs) (hb : Below w.heap.size w w') : AsSt w' v xs := ⟨h.1.below hb, h.2⟩
theorem AsSt.parts {w : World} {v : Value} {xs : List St} (h : AsSt w v xs) : ∃ (p : Option Addr) (cap b off : Nat), v = .slice p xs.length cap ∧ xs.length ≤ cap ∧ (0 < xs.length → p = some ⟨b, off, none⟩) ∧
    (∀ k (hk : k < xs.length), w.cell? ⟨b, off + k * 3, none⟩ = some (.int .i64 xs[k].kd) ∧ w.cell? ⟨b, off + k * 3 + 1, none⟩ = some (.int .i64 xs[k].nd) ∧ w.cell? ⟨b, off + k * 3 + 2, none⟩ = some (.string xs[k].dt)) := by
  obtain ⟨⟨hl, p, cap, b, off, hv, hcap, _, hc⟩, _⟩ := h
  refine ⟨p, cap, b, off, hv, hcap, fun h => (hc h).1, fun k hk => ⟨?_, ?_, ?_⟩⟩
  · rw [(hc (by omega)).2 (k * 3) (by omega)]
    exact flat_get St.cells 3 St.cells_length xs k 0 hk (by omega)
  · rw [Nat.add_assoc, (hc (by omega)).2 (k * 3 + 1) (by omega)]
    exact flat_get St.cells 3 St.cells_length xs k 1 hk (by omega)
  · rw [Nat.add_assoc, (hc (by omega)).2 (k * 3 + 2) (by omega)]
    exact flat_get St.cells 3 St.cells_length xs k 2 hk (by omega)
def ArgSt (w : World) (v : Value) : Prop := ∃ xs : List St, AsSt w v xs
/-- how many letters are left behind one, behind all -/
def szSt1 (x : St) (left : Int) : Int := if left - x.dt.size < 0 then -1 else left - x.dt.size
def szStL : List St → Int → Int
  | [], left => left
  | x :: xs, left => if szSt1 x left < 0 then -1 else szStL xs (szSt1 x left)
def szSt (xs : List St) (left : Int) : Int := if left - xs.length < 0 then -1 else szStL xs (left - xs.length)
theorem szSt1_le (x : St) (left : Int) : szSt1 x left < 0 ∨ szSt1 x left ≤ left := by unfold szSt1; split <;> omega
theorem szStL_le (xs : List St) (left : Int) : szStL xs left < 0 ∨ szStL xs left ≤ left := by
  induction xs generalizing left with
  | nil => exact .inr (Int.le_refl _)
  | cons x xs ih =>
    unfold szStL
    have h1 := szSt1_le x left
    have h2 := ih (szSt1 x left)
    split <;> omega
theorem szSt_ge (xs : List St) (left : Int) (h : ¬ szSt xs left < 0) : (xs.length : Int) ≤ left ∧ szSt xs left ≤ left - xs.length := by
  have h1 := szStL_le xs (left - xs.length)
  unfold szSt at *
  split at h <;> simp_all <;> omega
theorem szStL_step (xs : List St) (k : Nat) (left : Int) (h : k < xs.length) : szStL (xs.drop k) left = if szSt1 xs[k] left < 0 then -1 else szStL (xs.drop (k + 1)) (szSt1 xs[k] left) := by
  rw [List.drop_eq_getElem_cons h]; rfl
theorem szSt1_any (x : St) (left : Int) (w : World) (h : x.ok) (h0 : 0 ≤ left) (h1 : left ≤ 1048576) :
    Calls Tryd.prog 37 #[x.v, .int .i64 left] w fun e w' => e = .returned (.int .i64 (szSt1 x left)) ∧ Below w.heap.size w w' := by
  obtain ⟨kd, nd, dt⟩ := x
  simp only [St.ok] at h
  by_cases hlt : left - dt.size < 0
  · go_enter Tryd.func37, Tryd.ntmps37
    go_wp2
    go_ret
    exact ⟨by simp [szSt1, hlt], by go_grown⟩
  · go_enter Tryd.func37, Tryd.ntmps37
    go_wp2
    go_ret
    exact ⟨ret_int (by rw [szSt1, if_neg (by simpa using hlt)]), by go_grown⟩
set_option maxRecDepth 100000 in
set_option maxHeartbeats 2000000 in
theorem szSt_any (v : Value) (xs : List St) (left : Int) (w : World) (h : AsSt w v xs) (h0 : 0 ≤ left) (h1 : left ≤ 1048576) :
    Calls Tryd.prog 14 #[v, .int .i64 left] w fun e w' => e = .returned (.int .i64 (szSt xs left)) ∧ Below w.heap.size w w' := by
  have hn := h.2.1
  have hok := Lib.hid h.2.2
  obtain ⟨p, cap, b, off, rfl, hcap, hp, hcell⟩ := h.parts
  have HC := Lib.hid hcell; clear hcell
  have HP := Lib.hid hp; clear hp
  by_cases hlt : left - xs.length < 0
  · go_enter Tryd.func14, Tryd.ntmps14
    go_wp2
    go_ret
    exact ⟨by simp [szSt, hlt], Below.refl _ _⟩
  · have HV : Hid (szSt xs left = szStL xs (left - xs.length)) := Lib.hid (by simp [szSt, hlt])
    go_enter Tryd.func14, Tryd.ntmps14
    go_wp2
    go_loopw [1, 5] (fun l i wr => ∃ (k : Nat) (q : Int), k ≤ xs.length ∧ i = .int .i64 k ∧ l = .int .i64 q ∧ 0 ≤ q ∧ q ≤ 1048576 ∧ Hid (szStL (xs.drop k) q = szStL xs (left - xs.length)) ∧ Below w.heap.size w wr)
      (fun _ i _ => xs.length - (intOf i).toNat)
    case atStart => exact ⟨0, left - xs.length, Nat.zero_le _, rfl, by go_num, by omega, by omega, Lib.hid rfl, Below.refl _ _⟩
    case round =>
      obtain ⟨k, q, hk, rfl, rfl, hq0, hq1, HL, hb⟩ := hrel
      by_cases hlt2 : k < xs.length
      · obtain rfl := HP.out (by omega)
        obtain ⟨c0, c1, c2⟩ := HC.out k hlt2
        have c0 := (hb.cell (World.block_lt_of_cell? w _ c0)).trans c0
        have c1 := (hb.cell (World.block_lt_of_cell? w _ c1)).trans c1
        have c2 := (hb.cell (World.block_lt_of_cell? w _ c2)).trans c2
        have HS := Lib.hid (szStL_step xs k q hlt2)
        have HT := Lib.hid (fun w => szSt1_any ⟨xs[k].kd, xs[k].nd, xs[k].dt⟩ q w (hok.out xs[k] (List.getElem_mem _)) hq0 hq1)
        have hle := szSt1_le xs[k] q
        rw [show szSt1 ⟨xs[k].kd, xs[k].nd, xs[k].dt⟩ q = szSt1 xs[k] q from rfl] at HT
        generalize szSt1 xs[k] q = r at HS HT hle
        by_cases hr : r < 0
        · go_wp2_with fail
          refine (HT.out _).mono ?_
          rintro e w1 ⟨rfl, hb1⟩
          go_wp2
          go_ret
          exact ⟨ret_int (by rw [HV.out, ← HL.out, HS.out, if_pos (by omega)]), hb.trans (hb1.mono hb.size)⟩
        · go_wp2_with fail
          refine (HT.out _).mono ?_
          rintro e w1 ⟨rfl, hb1⟩
          go_wp2
          go_roundw
          case rel => exact ⟨k + 1, r, by omega, by go_num, rfl, by omega, by omega, Lib.hid (by rw [← HL.out, HS.out, if_neg (by omega)]), hb.trans (hb1.mono hb.size)⟩
          case measure => simp [intOf]; omega
      · have HE : Hid (q = szStL xs (left - xs.length)) := Lib.hid (by rw [← HL.out, List.drop_of_length_le (by omega)]; rfl)
        go_wp2
        go_ret
        exact ⟨ret_int (by rw [HV.out, HE.out]), hb⟩
set_option maxRecDepth 100000 in
theorem trodSt {H : Type} {enc : TypeId × Value → H} {W : World} {n : Nat} {cs : List Value} {y : DataW H × List MemPlace} (h : DataW.trod enc Tryd.prog W 0 (fun _ => true) true n 48 cs = some y) :
    ∃ x : St, cs = x.cells ∧ x.ok := by
  obtain ⟨hl, hf⟩ := trod_fields Tryd.underlying48 (by kernel_rfl) (by kernel_rfl) h
  match cs, hl with
  | [c0, c1, c2], _ =>
    obtain ⟨_, _, h0⟩ := hf 0 _ c0 rfl rfl
    obtain ⟨_, _, h1⟩ := hf 1 _ c1 rfl rfl
    obtain ⟨_, _, h2⟩ := hf 2 _ c2 rfl rfl
    obtain ⟨a0, e0, _⟩ := DataW.trod_int Tryd.underlying3 h0
    obtain ⟨a1, e1, _⟩ := DataW.trod_int Tryd.underlying3 h1
    obtain ⟨a2, e2, _, z2⟩ := DataW.trod_string Tryd.underlying9 h2
    simp at e0 e1 e2
    exact ⟨⟨a0, a1, a2⟩, by simp [e0, e1, e2], z2⟩
def ArgSt1 (_w : World) (v : Value) : Prop := ∃ x : St, v = x.v ∧ x.ok
set_option maxRecDepth 100000 in
theorem open_argSt1 {H : Type} {enc : TypeId × Value → H} {W : World} {base : Nat} {v : Value} {d : DataW H} {p : List MemPlace}
    (hok : Value.okWide Tryd.prog W .any base 48 v) (h : DataW.Trod enc Tryd.prog W 0 (fun _ => true) true 48 v d p) : ArgSt1 W v := by
  obtain ⟨cs, rfl, _⟩ := okWide_struct Tryd.underlying48 hok
  obtain ⟨fuel, hf⟩ := h
  obtain ⟨x, hx, hgd⟩ := trodSt hf
  obtain ⟨l⟩ := cs
  have hl : l = x.cells := by simpa [Value.cells] using hx
  exact ⟨x, by rw [hl], hgd⟩
set_option maxRecDepth 100000 in
theorem open_argSt {H : Type} {enc : TypeId × Value → H} {W : World} {base : Nat} {v : Value} {d : DataW H} {p : List MemPlace}
    (hok : Value.okWide Tryd.prog W .any base 22 v) (h : DataW.Trod enc Tryd.prog W 0 (fun _ => true) true 22 v d p) : ArgSt W v := by
  obtain ⟨xs, h1, h2, h3, _⟩ := open_sl St.cells 3 St.ok (by omega) St.cells_length Tryd.underlying22 (by kernel_rfl) (fun n cs y h => trodSt h) hok h
  exact ⟨xs, h1, h2, h3⟩
end Go.Proofs.YtfkbehoelbhdoaaDoor
