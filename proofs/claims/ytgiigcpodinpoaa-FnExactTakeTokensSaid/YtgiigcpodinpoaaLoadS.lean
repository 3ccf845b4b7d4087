/- Contracts of the harness's functions on slices of loads: copy, compare (equal ones), mark. Condition: at most 2^30 elements. -/
import Derived.Test.YtgiigcpodinpoaaRate2
import Derived.Test.YtgiigcpodinpoaaOpenRate
import Derived.Test.YtgiigcpodinpoaaCur
import Derived.Deep.RegionHeld3
namespace Go.Proofs.Ytgiigcpodinpoaa
open Go.RowKit

theorem infoLd : (Try.prog.info? 40).map (fun i => (i.zero, i.size, i.bytes)) = some (some (.agg #[.int .i64 0, .int .i64 0]), 2, 16) := by kernel_rfl
abbrev Ld.cells (x : Ld) : List Value := [.int .i64 x.t, .int .i64 x.s]
theorem Ld.cells_length (x : Ld) : x.cells.length = 2 := rfl

def RdLd (w : World) (v : Value) (xs : List Ld) : Prop := Rd w v 2 xs.length (xs.flatMap Ld.cells) ∧ xs.length ≤ 1073741824
def OwLd (B : Nat) (w : World) (v : Value) (xs : List Ld) : Prop := w.ownsRow B 40 2 v xs.length (xs.flatMap Ld.cells) ∧ xs.length ≤ 1073741824
theorem OwLd.rd {B : Nat} {w : World} {v : Value} {xs : List Ld} (h : OwLd B w v xs) : RdLd w v xs := ⟨rd_of_own h.1, h.2⟩
theorem RdLd.below {w w' : World} {v : Value} {xs : List Ld} (h : RdLd w v xs) (hb : Below w.heap.size w w') : RdLd w' v xs := ⟨h.1.below hb, h.2⟩
theorem OwLd.below {B : Nat} {w w' : World} {v : Value} {xs : List Ld} (h : OwLd B w v xs) (hb : Below w.heap.size w w') : OwLd B w' v xs := ⟨own_below h.1 hb, h.2⟩
theorem OwLd.grown {B : Nat} {w w' : World} {v : Value} {xs : List Ld} {row : Option Nat} (h : OwLd B w v xs) (hg : w.grownBy w' row) (hne : v.ownBlock = none ∨ v.ownBlock ≠ row) : OwLd B w' v xs := ⟨h.1.kept hg hne, h.2⟩
theorem OwLd.lt {B : Nat} {w : World} {v : Value} {xs : List Ld} (h : OwLd B w v xs) : ∀ k, v.ownBlock = some k → B ≤ k ∧ k < w.heap.size := h.1.lt

/-- What is known of a slice of loads, taken apart for a walk. -/
theorem RdLd.parts {w : World} {v : Value} {xs : List Ld} (h : RdLd w v xs) : ∃ (p : Option Addr) (cap b off : Nat), v = .slice p xs.length cap ∧ xs.length ≤ cap ∧ (0 < xs.length → p = some ⟨b, off, none⟩) ∧
    (∀ k (hk : k < xs.length), w.cell? ⟨b, off + k * 2, none⟩ = some (.int .i64 xs[k].t) ∧ w.cell? ⟨b, off + k * 2 + 1, none⟩ = some (.int .i64 xs[k].s)) := by
  obtain ⟨⟨hl, p, cap, b, off, hv, hcap, _, hc⟩, _⟩ := h
  refine ⟨p, cap, b, off, hv, hcap, fun h => (hc h).1, fun k hk => ⟨?_, ?_⟩⟩
  · rw [(hc (by omega)).2 (k * 2) (by omega)]
    exact flat_get Ld.cells 2 Ld.cells_length xs k 0 hk (by omega)
  · rw [Nat.add_assoc, (hc (by omega)).2 (k * 2 + 1) (by omega)]
    exact flat_get Ld.cells 2 Ld.cells_length xs k 1 hk (by omega)
theorem flat_take_succ (xs : List Ld) (k : Nat) (h : k < xs.length) : (xs.take (k + 1)).flatMap Ld.cells = (xs.take k).flatMap Ld.cells ++ xs[k].cells := by
  rw [List.take_succ_eq_append_getElem h, List.flatMap_append]; simp

set_option maxRecDepth 100000 in
set_option maxHeartbeats 1000000 in
theorem toLd_S (v : Value) (xs : List Ld) (w : World) (h : RdLd w v xs) :
    Calls Try.prog 31 #[v] w fun e w' => ∃ v', e = .returned v' ∧ OwLd w.heap.size w' v' xs ∧ Below w.heap.size w w' := by
  have hlen := h.2
  obtain ⟨p, cap, b, off, rfl, hcap, hp, hcell⟩ := h.parts
  have HC := Lib.hid hcell; clear hcell
  have HP := Lib.hid hp; clear hp
  obtain ⟨i0, hi, hz0, hz1, hz2⟩ := info_parts infoLd
  go_enter Try.func31, Try.ntmps31
  go_wp2_with (at_make; refine wpList_make_full _ rfl _ _ 47 rfl w.heap.size 40 i0 (.agg #[.int .i64 0, .int .i64 0]) 2 Try.underlying47 hi hz0 hz1 _ _ _ _ xs.length rfl rfl rfl rfl ?b2 ?b3 (Nat.le_refl _) ?_)
  case b2 => rw [hz2]; omega
  case b3 => unfold maxLen; omega
  intro w0 hown0 hgrow0
  go_wp2
  go_loopw [4] (fun i wr => ∃ (k : Nat) (L : List Value), k ≤ xs.length ∧ i = .int .i64 k ∧ wr.ownsRow w.heap.size 40 2 (.slice (some ⟨w.heap.size, 0, none⟩) xs.length xs.length) xs.length L ∧ Hid (L.take (k * 2) = (xs.take k).flatMap Ld.cells) ∧ Below w.heap.size w wr ∧ w.heap.size < wr.heap.size)
    (fun i _ => xs.length - (intOf i).toNat)
  case atStart => exact ⟨0, _, Nat.zero_le _, rfl, hown0, Lib.hid rfl, (Below.refl _ _).grown hgrow0 (Nat.le_refl _) (fun k h => by cases h), (hown0.lt w.heap.size rfl).2⟩
  case round =>
    obtain ⟨k, L, hk, rfl, hown, HL, hb, hlt0⟩ := hrel
    by_cases hlt : k < xs.length
    · obtain rfl := HP.out (by omega)
      have HLl := Lib.hid hown.1
      have c1 : wr.cell? ⟨b, off + k * 2, none⟩ = some (.int .i64 xs[k].t) := by
        have h1 := (HC.out k hlt).1
        rw [hb.cell (World.block_lt_of_cell? w _ h1), h1]
      have c2 : wr.cell? ⟨b, off + k * 2 + 1, none⟩ = some (.int .i64 xs[k].s) := by
        have h1 := (HC.out k hlt).2
        rw [hb.cell (World.block_lt_of_cell? w _ h1), h1]
      go_wp2_with fail
      refine (toLoad_any ⟨xs[k].t, xs[k].s⟩ wr).mono ?_
      rintro e w1 ⟨rfl, hb1⟩
      have hown1 := own_below hown hb1
      have d1 : w1.cell? ⟨w.heap.size, k * 2, none⟩ = some (L[k * 2]'(by have := HLl.out; omega)) := by rw [hown1.cellAt (k * 2) (by omega), List.getElem?_eq_getElem (by have := HLl.out; omega)]
      have d2 : w1.cell? ⟨w.heap.size, k * 2 + 1, none⟩ = some (L[k * 2 + 1]'(by have := HLl.out; omega)) := by rw [hown1.cellAt (k * 2 + 1) (by omega), List.getElem?_eq_getElem (by have := HLl.out; omega)]
      have f1 := hown1.frozenAt (k * 2)
      have f2 := hown1.frozenAt (k * 2 + 1)
      have hst := hown1.stored (k * 2) (.int .i64 xs[k].t)
      have HS2 := Lib.hid (hst.1.stored (k * 2 + 1) (.int .i64 xs[k].s))
      have HS1 := Lib.hid hst.2; clear hst
      have HB1 := Lib.hid hb1; clear hb1
      clear c1 c2
      go_wp2
      go_roundw
      case rel =>
        have hb2 : Below w.heap.size w w1 := hb.trans (HB1.out.mono hb.size)
        have hb3 := hb2.grown HS1.out hb2.size (fun j hj => by cases hj; exact Nat.le_refl _)
        have hb4 := hb3.grown HS2.out.2 hb3.size (fun j hj => by cases hj; exact Nat.le_refl _)
        refine ⟨k + 1, _, by omega, by go_num, HS2.out.1, Lib.hid ?_, hb4, (HS2.out.1.lt w.heap.size rfl).2⟩
        rw [flat_take_succ xs k hlt, ← HL.out, Nat.add_mul, Nat.one_mul, take_set_succ _ (k * 2 + 1) _ (by simp; have := HLl.out; omega), take_set_succ _ (k * 2) _ (by have := HLl.out; omega)]
        simp
      case measure => simp [intOf]; omega
    · have hL : L = xs.flatMap Ld.cells := by
        have h1 := HL.out
        have h2 := hown.1
        rwa [List.take_of_length_le (by omega), List.take_of_length_le (by omega)] at h1
      have HX := Lib.hid hL; clear hL
      go_wp2
      go_ret
      refine ⟨_, rfl, ⟨by rw [← HX.out]; exact hown, hlen⟩, hb⟩

theorem eqLoad_ex (x : Ld) (w : World) :
    Calls Try.prog 67 #[x.v, x.v] w fun e w' => e = .returned (.bool true) ∧ (w.alloc (.cells #[.int .i64 x.t, .int .i64 x.s] 40)).alloc (.cells #[.int .i64 x.t, .int .i64 x.s] 40) = w' := by
  obtain ⟨t, s⟩ := x
  go_enter Try.func67, Try.ntmps67
  go_wp2
  go_ret
  exact ⟨rfl, rfl⟩

set_option maxHeartbeats 1000000 in
/-- Two slices that read as one list are found equal. -/
theorem eqLd_below (v v' : Value) (xs : List Ld) (w : World) (h : RdLd w v xs) (h' : RdLd w v' xs) :
    Calls Try.prog 33 #[v, v'] w fun e w' => e = .returned (.bool true) ∧ Below w.heap.size w w' := by
  have hlen := h.2
  obtain ⟨p, cap, b, off, rfl, hcap, hp, hcell⟩ := h.parts
  obtain ⟨p', cap', b', off', rfl, hcap', hp', hcell'⟩ := h'.parts
  have HC := Lib.hid hcell; clear hcell
  have HP := Lib.hid hp; clear hp
  have HC' := Lib.hid hcell'; clear hcell'
  have HP' := Lib.hid hp'; clear hp'
  go_enter Try.func33, Try.ntmps33
  go_wp2
  go_loopw [5] (fun i wr => ∃ (k : Nat), k ≤ xs.length ∧ i = .int .i64 k ∧ Below w.heap.size w wr)
    (fun i _ => xs.length - (intOf i).toNat)
  case atStart => exact ⟨0, Nat.zero_le _, rfl, Below.refl _ _⟩
  case round =>
    obtain ⟨k, hk, rfl, hb⟩ := hrel
    by_cases hlt : k < xs.length
    · obtain rfl := HP.out (by omega)
      obtain rfl := HP'.out (by omega)
      obtain ⟨c1, c2⟩ := HC.out k hlt
      obtain ⟨d1, d2⟩ := HC'.out k hlt
      have c1 := (hb.cell (World.block_lt_of_cell? w _ c1)).trans c1
      have c2 := (hb.cell (World.block_lt_of_cell? w _ c2)).trans c2
      have d1 := (hb.cell (World.block_lt_of_cell? w _ d1)).trans d1
      have d2 := (hb.cell (World.block_lt_of_cell? w _ d2)).trans d2
      go_wp2_with fail
      go_region_held3 (fun w' => w'.cell? ⟨b, off + k * 2, none⟩ = some (.int .i64 xs[k].t) ∧ w'.cell? ⟨b, off + k * 2 + 1, none⟩ = some (.int .i64 xs[k].s) ∧ w'.cell? ⟨b', off' + k * 2, none⟩ = some (.int .i64 xs[k].t) ∧ w'.cell? ⟨b', off' + k * 2 + 1, none⟩ = some (.int .i64 xs[k].s)) (go_keep)
        (first | (go_at_call 67; refine (eqLoad_ex ⟨xs[k].t, xs[k].s⟩ _).mono ?_; rintro e w' ⟨rfl, rfl⟩))
      go_wp2
      go_roundw
      case rel => exact ⟨k + 1, by omega, by go_num, by have := hb.size; go_grown⟩
      case measure => simp [intOf]; omega
    · go_wp2
      go_ret
      exact ⟨rfl, hb⟩

/-- The marks of n loads from c on. -/
def marksLd (c : Int) : Nat → List Ld
  | 0 => []
  | n + 1 => marksLd c n ++ [⟨c + 2 * n, c + 2 * n + 1⟩]
theorem marksLd_length (c : Int) (n : Nat) : (marksLd c n).length = n := by
  induction n with
  | zero => rfl
  | succ n ih => simp [marksLd, ih]

set_option maxRecDepth 100000 in
set_option maxHeartbeats 2000000 in
theorem markLd_any (v : Value) (xs : List Ld) (c : Int) (B : Nat) (w : World) (h : OwLd B w v xs) (h0 : 0 ≤ c) (h1 : c ≤ 1152921504606846976) :
    Calls Try.prog 37 #[v, .int .i64 c] w fun e w' => e = .returned (.int .i64 (c + 2 * xs.length)) ∧ OwLd B w' v (marksLd c xs.length) ∧ w.grownBy w' v.ownBlock := by
  have hlen := h.2
  obtain ⟨p, cap, g, rfl, hcap, hp⟩ := own_shape h.1
  have HP := Lib.hid hp; clear hp
  have HO := Lib.hid h.1; clear h
  go_enter Try.func37, Try.ntmps37
  go_wp2
  go_loopw [1, 5] (fun a i wr => ∃ (k : Nat) (L : List Value), k ≤ xs.length ∧ i = .int .i64 k ∧ a = .int .i64 (c + 2 * k) ∧ wr.ownsRow B 40 2 (.slice p xs.length cap) xs.length L ∧ Hid (L.take (k * 2) = (marksLd c k).flatMap Ld.cells) ∧ w.grownBy wr (Value.slice p xs.length cap).ownBlock)
    (fun _ i _ => xs.length - (intOf i).toNat)
  case atStart => exact ⟨0, _, Nat.zero_le _, rfl, by simp, HO.out, Lib.hid rfl, World.grownBy.refl _ _⟩
  case round =>
    obtain ⟨k, L, hk, rfl, rfl, hown, HL, hb⟩ := hrel
    by_cases hlt : k < xs.length
    · obtain ⟨rfl, hge⟩ := HP.out (by omega)
      have HLl := Lib.hid hown.1
      have d1 : wr.cell? ⟨g, k * 2, none⟩ = some (L[k * 2]'(by have := HLl.out; omega)) := by rw [hown.cellAt (k * 2) (by omega), List.getElem?_eq_getElem (by have := HLl.out; omega)]
      have d2 : wr.cell? ⟨g, k * 2 + 1, none⟩ = some (L[k * 2 + 1]'(by have := HLl.out; omega)) := by rw [hown.cellAt (k * 2 + 1) (by omega), List.getElem?_eq_getElem (by have := HLl.out; omega)]
      have f1 := hown.frozenAt (k * 2)
      have f2 := hown.frozenAt (k * 2 + 1)
      have hst := hown.stored (k * 2) (.int .i64 (c + 2 * k))
      have HS2 := Lib.hid (hst.1.stored (k * 2 + 1) (.int .i64 (c + 2 * k + 1)))
      have HS1 := Lib.hid hst.2; clear hst
      go_wp2
      go_roundw
      case rel =>
        refine ⟨k + 1, _, by omega, by go_num, by go_num, HS2.out.1, Lib.hid ?_, grown_trans (grown_trans hb HS1.out) HS2.out.2⟩
        rw [Nat.add_mul, Nat.one_mul, take_set_succ _ (k * 2 + 1) _ (by simp; have := HLl.out; omega), take_set_succ _ (k * 2) _ (by have := HLl.out; omega), HL.out]
        simp [marksLd]
      case measure => simp [intOf]; omega
    · have hkn : k = xs.length := by omega
      have hL : L = (marksLd c xs.length).flatMap Ld.cells := by
        have h1 := HL.out
        have h2 := hown.1
        rwa [List.take_of_length_le (by omega), hkn] at h1
      have HX := Lib.hid hL; clear hL
      have HK := Lib.hid hkn; clear hkn
      go_wp2
      go_ret
      refine ⟨ret_int (by rw [HK.out]), ⟨by rw [← HX.out, marksLd_length]; exact hown, by rw [marksLd_length]; exact hlen⟩, hb⟩

/-- loads that came in -/
def AsLd (w : World) (v : Value) (xs : List Ld) : Prop := Rd w v 2 xs.length (xs.flatMap Ld.cells) ∧ xs.length ≤ 9223372036854775807
theorem AsLd.rd {w : World} {v : Value} {xs : List Ld} (h : AsLd w v xs) (hl : xs.length ≤ 1073741824) : RdLd w v xs := ⟨h.1, hl⟩
def ArgLdS (w : World) (v : Value) : Prop := ∃ xs : List Ld, AsLd w v xs
def szLdS (xs : List Ld) (left : Int) : Int := if left - xs.length < 0 then -1 else left - xs.length
theorem szLdS_any (v : Value) (xs : List Ld) (left : Int) (w : World) (h : AsLd w v xs) (h0 : 0 ≤ left) (h1 : left ≤ 1048576) :
    Calls Try.prog 29 #[v, .int .i64 left] w fun e w' => e = .returned (.int .i64 (szLdS xs left)) ∧ w = w' := by
  have hn := h.2
  obtain ⟨_, p, cap, b, off, rfl, _⟩ := h.1
  by_cases hlt : left - xs.length < 0
  · go_enter Try.func29, Try.ntmps29
    go_wp2
    go_ret
    exact ⟨by simp [szLdS, hlt], rfl⟩
  · go_enter Try.func29, Try.ntmps29
    go_wp2
    go_ret
    exact ⟨ret_int (by rw [szLdS, if_neg (by omega)]), rfl⟩
end Go.Proofs.Ytgiigcpodinpoaa
