/- The struct Counter (2 integers) and slices of it: how they read, and contracts of the harness's functions on them: copy, compare (equal ones), mark, look for marks, count. Condition: at most 2^30 elements. -/
import Derived.Test.YtmochhgmhhopoaaDoorOpenSl
import Derived.Test.YtmochhgmhhopoaaDoorOpenInts
import Derived.Test.YtmochhgmhhopoaaDoorTxt
import Derived.Test.YtmochhgmhhopoaaDoorKeep
import Derived.Deep.RegionHeld3
import Derived.Handy
namespace Go.Proofs.YtmochhgmhhopoaaDoor
open Go.ChangeShapes Go.WideShapes Go.ChangeAt Go.RowKit Go.Deep

structure Ct where
  nm : ByteArray
  vl : Int
instance : Inhabited Ct := ⟨⟨⟨#[]⟩, 0⟩⟩
abbrev Ct.v (x : Ct) : Value := .agg #[.string x.nm, .int .i64 x.vl]
abbrev Ct.cells (x : Ct) : List Value := [.string x.nm, .int .i64 x.vl]
abbrev Ct.o (x : Ct) : Obj := .cells #[.string x.nm, .int .i64 x.vl] 55
theorem Ct.cells_length (x : Ct) : x.cells.length = 2 := rfl
/-- the strings are no longer than a string may be -/
def Ct.ok (x : Ct) : Prop := x.nm.size ≤ 9223372036854775807
theorem infoCt : (Tryd.prog.info? 55).map (fun i => (i.zero, i.size, i.bytes)) = some (some (.agg #[.string ⟨#[]⟩, .int .i64 0]), 2, 24) := by kernel_rfl
def RdCt (w : World) (v : Value) (xs : List Ct) : Prop := Rd w v 2 xs.length (xs.flatMap Ct.cells) ∧ xs.length ≤ 1073741824 ∧ ∀ x ∈ xs, x.ok
def OwCt (B : Nat) (w : World) (v : Value) (xs : List Ct) : Prop := w.ownsRow B 55 2 v xs.length (xs.flatMap Ct.cells) ∧ xs.length ≤ 1073741824 ∧ ∀ x ∈ xs, x.ok
theorem OwCt.rd {B : Nat} {w : World} {v : Value} {xs : List Ct} (h : OwCt B w v xs) : RdCt w v xs := ⟨rd_of_own h.1, h.2⟩
theorem RdCt.below {w w' : World} {v : Value} {xs : List Ct} (h : RdCt w v xs) (hb : Below w.heap.size w w') : RdCt w' v xs := ⟨h.1.below hb, h.2⟩
theorem RdCt.grown {w w' : World} {v : Value} {xs : List Ct} {row : Option Nat} (h : RdCt w v xs) (hg : w.grownBy w' row) (hne : v.ownBlock = none ∨ v.ownBlock ≠ row) : RdCt w' v xs := ⟨h.1.grown hg hne, h.2⟩
theorem OwCt.below {B : Nat} {w w' : World} {v : Value} {xs : List Ct} (h : OwCt B w v xs) (hb : Below w.heap.size w w') : OwCt B w' v xs := ⟨own_below h.1 hb, h.2⟩
theorem OwCt.base {B B' : Nat} {w : World} {v : Value} {xs : List Ct} (h : OwCt B w v xs) (hb : B' ≤ B) : OwCt B' w v xs := ⟨own_base h.1 hb, h.2⟩
theorem OwCt.grown {B : Nat} {w w' : World} {v : Value} {xs : List Ct} {row : Option Nat} (h : OwCt B w v xs) (hg : w.grownBy w' row) (hne : v.ownBlock = none ∨ v.ownBlock ≠ row) : OwCt B w' v xs := ⟨h.1.kept hg hne, h.2⟩
theorem OwCt.lt {B : Nat} {w : World} {v : Value} {xs : List Ct} (h : OwCt B w v xs) : ∀ k, v.ownBlock = some k → B ≤ k ∧ k < w.heap.size := h.1.lt
/-- What is known of such a slice, taken apart for a walk. -/
theorem RdCt.parts {w : World} {v : Value} {xs : List Ct} (h : RdCt w v xs) : ∃ (p : Option Addr) (cap b off : Nat), v = .slice p xs.length cap ∧ xs.length ≤ cap ∧ (0 < xs.length → p = some ⟨b, off, none⟩) ∧
    (∀ k (hk : k < xs.length), w.cell? ⟨b, off + k * 2, none⟩ = some (.string xs[k].nm) ∧ w.cell? ⟨b, off + k * 2 + 1, none⟩ = some (.int .i64 xs[k].vl)) := by
  obtain ⟨⟨hl, p, cap, b, off, hv, hcap, _, hc⟩, _⟩ := h
  refine ⟨p, cap, b, off, hv, hcap, fun h => (hc h).1, fun k hk => ⟨?_, ?_⟩⟩
  · rw [(hc (by omega)).2 (k * 2) (by omega)]
    exact flat_get Ct.cells 2 Ct.cells_length xs k 0 hk (by omega)
  · rw [Nat.add_assoc, (hc (by omega)).2 (k * 2 + 1) (by omega)]
    exact flat_get Ct.cells 2 Ct.cells_length xs k 1 hk (by omega)
theorem flatCt_succ (xs : List Ct) (k : Nat) (h : k < xs.length) : (xs.take (k + 1)).flatMap Ct.cells = (xs.take k).flatMap Ct.cells ++ xs[k].cells := by
  rw [List.take_succ_eq_append_getElem h, List.flatMap_append]; simp

theorem toCt1_any (x : Ct) (w : World) :
    Calls Tryd.prog 51 #[x.v] w fun e w' => e = .returned x.v ∧ Below w.heap.size w w' := by
  obtain ⟨nm, vl⟩ := x
  go_enter Tryd.func51, Tryd.ntmps51
  go_wp2
  go_returns
  exact ⟨rfl, by go_grown⟩
theorem eqCt1_ex (x : Ct) (w : World) :
    Calls Tryd.prog 54 #[x.v, x.v] w fun e w' => e = .returned (.bool true) ∧ (w.alloc x.o).alloc x.o = w' := by
  obtain ⟨nm, vl⟩ := x
  go_enter Tryd.func54, Tryd.ntmps54
  go_wp2
  go_ret
  exact ⟨rfl, rfl⟩
set_option maxRecDepth 100000 in
set_option maxHeartbeats 2000000 in
theorem toCt_any (v : Value) (xs : List Ct) (w : World) (h : RdCt w v xs) :
    Calls Tryd.prog 16 #[v] w fun e w' => ∃ v', e = .returned v' ∧ OwCt w.heap.size w' v' xs ∧ Below w.heap.size w w' := by
  have hlen := h.2.1
  have hok := Lib.hid h.2.2
  obtain ⟨p, cap, b, off, rfl, hcap, hp, hcell⟩ := h.parts
  have HC := Lib.hid hcell; clear hcell
  have HP := Lib.hid hp; clear hp
  obtain ⟨i0, hi, hz0, hz1, hz2⟩ := info_parts infoCt
  go_enter Tryd.func16, Tryd.ntmps16
  go_wp2_with (at_make; refine wpList_make_full _ rfl _ _ 25 rfl w.heap.size 55 i0 (.agg #[.string ⟨#[]⟩, .int .i64 0]) 2 Tryd.underlying25 hi hz0 hz1 _ _ _ _ xs.length rfl rfl rfl rfl ?b2 ?b3 (Nat.le_refl _) ?_)
  case b2 => rw [hz2]; omega
  case b3 => unfold maxLen; omega
  intro w0 hown0 hgrow0
  go_wp2
  go_loopw [4] (fun i wr => ∃ (k : Nat) (L : List Value), k ≤ xs.length ∧ i = .int .i64 k ∧ wr.ownsRow w.heap.size 55 2 (.slice (some ⟨w.heap.size, 0, none⟩) xs.length xs.length) xs.length L ∧ Hid (L.take (k * 2) = (xs.take k).flatMap Ct.cells) ∧ Below w.heap.size w wr ∧ w.heap.size < wr.heap.size)
    (fun i _ => xs.length - (intOf i).toNat)
  case atStart => exact ⟨0, _, Nat.zero_le _, rfl, hown0, Lib.hid rfl, (Below.refl _ _).grown hgrow0 (Nat.le_refl _) (fun k h => by cases h), (hown0.lt w.heap.size rfl).2⟩
  case round =>
    obtain ⟨k, L, hk, rfl, hown, HL, hb, hlt0⟩ := hrel
    by_cases hlt : k < xs.length
    · obtain rfl := HP.out (by omega)
      have HLl := Lib.hid hown.1
      obtain ⟨c0, c1⟩ := HC.out k hlt
      have c0 := (hb.cell (World.block_lt_of_cell? w _ c0)).trans c0
      have c1 := (hb.cell (World.block_lt_of_cell? w _ c1)).trans c1
      go_wp2_with fail
      refine (toCt1_any ⟨xs[k].nm, xs[k].vl⟩ wr).mono ?_
      rintro e w1 ⟨rfl, hb1⟩
      have hown1 := own_below hown hb1
      have d0 : w1.cell? ⟨w.heap.size, k * 2, none⟩ = some (L[k * 2]'(by have := HLl.out; omega)) := by rw [hown1.cellAt (k * 2) (by omega), List.getElem?_eq_getElem (by have := HLl.out; omega)]
      have d1 : w1.cell? ⟨w.heap.size, k * 2 + 1, none⟩ = some (L[k * 2 + 1]'(by have := HLl.out; omega)) := by rw [hown1.cellAt (k * 2 + 1) (by omega), List.getElem?_eq_getElem (by have := HLl.out; omega)]
      have f0 := hown1.frozenAt (k * 2)
      have f1 := hown1.frozenAt (k * 2 + 1)
      have hs0 := hown1.stored (k * 2) (.string xs[k].nm)
      have hs1 := hs0.1.stored (k * 2 + 1) (.int .i64 xs[k].vl)
      have HS0 := Lib.hid hs0.2
      have HS1 := Lib.hid hs1
      clear hs0 hs1
      have HB1 := Lib.hid hb1; clear hb1
      clear c0 c1
      go_wp2
      go_roundw
      case rel =>
        have q0 : Below w.heap.size w w1 := hb.trans (HB1.out.mono hb.size)
        have q1 := q0.grown HS0.out q0.size (fun j hj => by cases hj; exact Nat.le_refl _)
        have q2 := q1.grown HS1.out.2 q1.size (fun j hj => by cases hj; exact Nat.le_refl _)
        refine ⟨k + 1, _, by omega, by go_num, HS1.out.1, Lib.hid ?_, q2, (HS1.out.1.lt w.heap.size rfl).2⟩
        rw [flatCt_succ xs k hlt, ← HL.out, Nat.add_mul, Nat.one_mul, take_set_succ _ (k * 2 + 1) _ (by simp; have := HLl.out; omega), take_set_succ _ (k * 2) _ (by have := HLl.out; omega)]
        simp
      case measure => simp [intOf]; omega
    · have hL : L = xs.flatMap Ct.cells := by
        have h1 := HL.out
        have h2 := hown.1
        rwa [List.take_of_length_le (by omega), List.take_of_length_le (by omega)] at h1
      have HX := Lib.hid hL; clear hL
      go_wp2
      go_ret
      refine ⟨_, rfl, ⟨by rw [← HX.out]; exact hown, hlen, hok.out⟩, hb⟩

set_option maxRecDepth 100000 in
set_option maxHeartbeats 2000000 in
theorem eqCt_below (v v' : Value) (xs : List Ct) (w : World) (h : RdCt w v xs) (h' : RdCt w v' xs) :
    Calls Tryd.prog 18 #[v, v'] w fun e w' => e = .returned (.bool true) ∧ Below w.heap.size w w' := by
  have hlen := h.2.1
  have hok := Lib.hid h.2.2
  obtain ⟨p, cap, b, off, rfl, hcap, hp, hcell⟩ := h.parts
  obtain ⟨p', cap', b', off', rfl, hcap', hp', hcell'⟩ := h'.parts
  have HC := Lib.hid hcell; clear hcell
  have HP := Lib.hid hp; clear hp
  have HC' := Lib.hid hcell'; clear hcell'
  have HP' := Lib.hid hp'; clear hp'
  go_enter Tryd.func18, Tryd.ntmps18
  go_wp2
  go_loopw [5] (fun i wr => ∃ (k : Nat), k ≤ xs.length ∧ i = .int .i64 k ∧ Below w.heap.size w wr)
    (fun i _ => xs.length - (intOf i).toNat)
  case atStart => exact ⟨0, Nat.zero_le _, rfl, Below.refl _ _⟩
  case round =>
    obtain ⟨k, hk, rfl, hb⟩ := hrel
    by_cases hlt : k < xs.length
    · obtain rfl := HP.out (by omega)
      obtain rfl := HP'.out (by omega)
      obtain ⟨c0, c1⟩ := HC.out k hlt
      obtain ⟨d0, d1⟩ := HC'.out k hlt
      have c0 := (hb.cell (World.block_lt_of_cell? w _ c0)).trans c0
      have c1 := (hb.cell (World.block_lt_of_cell? w _ c1)).trans c1
      have d0 := (hb.cell (World.block_lt_of_cell? w _ d0)).trans d0
      have d1 := (hb.cell (World.block_lt_of_cell? w _ d1)).trans d1
      go_wp2_with fail
      go_region_held3 (fun w' => w'.cell? ⟨b, off + k * 2, none⟩ = some (.string xs[k].nm) ∧ w'.cell? ⟨b, off + k * 2 + 1, none⟩ = some (.int .i64 xs[k].vl) ∧ w'.cell? ⟨b', off' + k * 2, none⟩ = some (.string xs[k].nm) ∧ w'.cell? ⟨b', off' + k * 2 + 1, none⟩ = some (.int .i64 xs[k].vl)) (go_keep)
        (first | (go_at_call 54; refine (eqCt1_ex ⟨xs[k].nm, xs[k].vl⟩ _).mono ?_; rintro e w' ⟨rfl, rfl⟩))
      go_wp2
      go_roundw
      case rel => exact ⟨k + 1, by omega, by go_num, by have := hb.size; go_grown⟩
      case measure => simp [intOf]; omega
    · go_wp2
      go_ret
      exact ⟨rfl, hb⟩

/-- The marks of n such structs from c on. -/
def marksCt (c : Int) : Nat → List Ct
  | 0 => []
  | n + 1 => marksCt c n ++ [⟨mkText (c + 2 * n), c + 2 * n + 1⟩]
theorem marksCt_length (c : Int) (n : Nat) : (marksCt c n).length = n := by
  induction n with
  | zero => rfl
  | succ n ih => simp [marksCt, ih]
theorem marksCt_get (c : Int) (n j : Nat) (h : j < n) : (marksCt c n)[j]'(by rw [marksCt_length]; exact h) = ⟨mkText (c + 2 * j), c + 2 * j + 1⟩ := by
  induction n with
  | zero => omega
  | succ n ih =>
    simp only [marksCt]
    by_cases hj : j < n
    · rw [List.getElem_append_left (by rw [marksCt_length]; exact hj)]; exact ih hj
    · have : j = n := by omega
      subst this
      simp [List.getElem_append_right, marksCt_length]

theorem marksCt_ok (c : Int) (n : Nat) (h1 : c + 2 * n ≤ 4611686018427387904) : ∀ x ∈ marksCt c n, x.ok := by
  induction n with
  | zero => intro x hx; cases hx
  | succ n ih =>
    intro x hx
    rcases List.mem_append.1 hx with h | h
    · exact ih (by omega) x h
    · rw [List.mem_singleton] at h
      subst h
      exact mkText_size _ (by omega)

set_option maxRecDepth 100000 in
set_option maxHeartbeats 4000000 in
theorem markCt_any (v : Value) (xs : List Ct) (c : Int) (B : Nat) (w : World) (h : OwCt B w v xs) (h0 : 0 ≤ c) (h1 : c ≤ 1152921504606846976) :
    Calls Tryd.prog 25 #[v, .int .i64 c] w fun e w' => e = .returned (.int .i64 (c + 2 * xs.length)) ∧ OwCt B w' v (marksCt c xs.length) ∧ w.grownBy w' v.ownBlock := by
  have hlen := h.2.1
  have hok := Lib.hid h.2.2
  obtain ⟨p, cap, g, rfl, hcap, hp⟩ := own_shape h.1
  have HP := Lib.hid hp; clear hp
  have HO := Lib.hid h.1; clear h
  go_enter Tryd.func25, Tryd.ntmps25
  go_wp2
  go_loopw [1, 5] (fun a i wr => ∃ (k : Nat) (L : List Value), k ≤ xs.length ∧ i = .int .i64 k ∧ a = .int .i64 (c + 2 * k) ∧ wr.ownsRow B 55 2 (.slice p xs.length cap) xs.length L ∧ Hid (L.take (k * 2) = (marksCt c k).flatMap Ct.cells) ∧ w.grownBy wr (Value.slice p xs.length cap).ownBlock)
    (fun _ i _ => xs.length - (intOf i).toNat)
  case atStart => exact ⟨0, _, Nat.zero_le _, rfl, by simp, HO.out, Lib.hid rfl, World.grownBy.refl _ _⟩
  case round =>
    obtain ⟨k, L, hk, rfl, rfl, hown, HL, hb⟩ := hrel
    by_cases hlt : k < xs.length
    · obtain ⟨rfl, hge⟩ := HP.out (by omega)
      have HLl := Lib.hid hown.1
      go_wp2_with fail
      refine (markText_any (c + 2 * k) _ (by omega)).mono ?_
      rintro e v1 ⟨rfl, hbv1⟩
      have ho1 := own_below hown hbv1
      have HBV1 := Lib.hid hbv1; clear hbv1
      obtain ⟨u0, d0⟩ := own_has ho1 (k * 2) (by omega)
      obtain ⟨u1, d1⟩ := own_has ho1 (k * 2 + 1) (by omega)
      have f0 := ho1.frozenAt (k * 2)
      have f1 := ho1.frozenAt (k * 2 + 1)
      have hs0 := ho1.stored (k * 2) (.string (mkText (c + 2 * k)))
      have hs1 := hs0.1.stored (k * 2 + 1) (.int .i64 (c + 2 * k + 1))
      have HS0 := Lib.hid hs0
      have HS1 := Lib.hid hs1
      clear hs0 hs1
      go_wp2
      go_roundw
      case rel =>
        refine ⟨k + 1, _, by omega, by go_num, by go_num, HS1.out.1, Lib.hid ?_, grown_trans (grown_trans (grown_trans (hb) (grown_of_below HBV1.out)) HS0.out.2) HS1.out.2⟩
        rw [Nat.add_mul, Nat.one_mul, take_set_succ _ (k * 2 + 1) _ (by simp; have := HLl.out; omega), take_set_succ _ (k * 2) _ (by have := HLl.out; omega), HL.out]
        simp [marksCt]
      case measure => simp [intOf]; omega
    · have hkn : k = xs.length := by omega
      have hL : L = (marksCt c xs.length).flatMap Ct.cells := by
        have h1 := HL.out
        have h2 := hown.1
        rwa [List.take_of_length_le (by omega), hkn] at h1
      have HX := Lib.hid hL; clear hL
      have HK := Lib.hid hkn; clear hkn
      go_wp2
      go_ret
      refine ⟨ret_int (by rw [HK.out]), ⟨by rw [← HX.out, marksCt_length]; exact hown, by rw [marksCt_length]; exact hlen, marksCt_ok c xs.length (by omega)⟩, hb⟩

set_option maxRecDepth 100000 in
set_option maxHeartbeats 4000000 in
theorem heldCt_any (v : Value) (n : Nat) (c : Int) (w : World) (h : RdCt w v (marksCt c n)) (h0 : 0 ≤ c) (h1 : c ≤ 1152921504606846976) :
    Calls Tryd.prog 26 #[v, .int .i64 c] w fun e w' => e = .returned (.int .i64 (c + 2 * n)) ∧ Below w.heap.size w w' := by
  have hlen := h.2.1
  have hok := Lib.hid h.2.2
  obtain ⟨p, cap, b, off, rfl, hcap, hp, hcell0⟩ := h.parts
  rw [marksCt_length] at *
  have hcell : ∀ k, k < n → w.cell? ⟨b, off + k * 2, none⟩ = some (.string (mkText (c + 2 * k))) ∧ w.cell? ⟨b, off + k * 2 + 1, none⟩ = some (.int .i64 (c + 2 * k + 1)) := fun k hk => by
    have h2 := hcell0 k (by rw [marksCt_length]; exact hk)
    simp only [marksCt_get c n k hk] at h2
    exact h2
  clear hcell0
  have HC := Lib.hid hcell; clear hcell
  have HP := Lib.hid hp; clear hp
  go_enter Tryd.func26, Tryd.ntmps26
  go_wp2
  go_loopw [1, 5] (fun a i wr => ∃ (k : Nat), k ≤ n ∧ i = .int .i64 k ∧ a = .int .i64 (c + 2 * k) ∧ Below w.heap.size w wr)
    (fun _ i _ => n - (intOf i).toNat)
  case atStart => exact ⟨0, Nat.zero_le _, rfl, by simp, Below.refl _ _⟩
  case round =>
    obtain ⟨k, hk, rfl, rfl, hb⟩ := hrel
    by_cases hlt : k < n
    · obtain rfl := HP.out (by omega)
      obtain ⟨c0, c1⟩ := HC.out k hlt
      have c0 := cell_on hb c0
      have c1 := cell_on hb c1
      go_wp2_with fail
      have hBh := Lib.hid hb
      go_region_held3 (fun w' => Below w.heap.size w w' ∧ w'.cell? ⟨b, off + k * 2, none⟩ = some (.string (mkText (c + 2 * k))) ∧ w'.cell? ⟨b, off + k * 2 + 1, none⟩ = some (.int .i64 (c + 2 * k + 1))) (first | exact keepB2 (by assumption) hbel | exact ⟨hBh.out.drew, by go_keep, by go_keep⟩)
        (first | (go_at_call 65; refine (markText_any (c + 2 * k) _ (by omega)).mono ?_; rintro e w' ⟨rfl, hbel⟩))
      go_wp2
      go_roundw
      case rel => exact ⟨k + 1, by omega, by go_num, by go_num, (by assumption : Below w.heap.size w _ ∧ _).1⟩
      case measure => simp [intOf]; omega
    · have hkn : k = n := by omega
      subst hkn
      go_wp2
      go_ret
      exact ⟨rfl, hb⟩

def AsCt (w : World) (v : Value) (xs : List Ct) : Prop := Rd w v 2 xs.length (xs.flatMap Ct.cells) ∧ xs.length ≤ 9223372036854775807 ∧ ∀ x ∈ xs, x.ok
theorem AsCt.rd {w : World} {v : Value} {xs : List Ct} (h : AsCt w v xs) (hl : xs.length ≤ 1073741824) : RdCt w v xs := ⟨h.1, hl, h.2.2⟩
theorem AsCt.below {w w' : World} {v : Value} {xs : List Ct} (h : AsCt w v xs) (hb : Below w.heap.size w w') : AsCt w' v xs := ⟨h.1.below hb, h.2⟩
theorem AsCt.parts {w : World} {v : Value} {xs : List Ct} (h : AsCt w v xs) : ∃ (p : Option Addr) (cap b off : Nat), v = .slice p xs.length cap ∧ xs.length ≤ cap ∧ (0 < xs.length → p = some ⟨b, off, none⟩) ∧
    (∀ k (hk : k < xs.length), w.cell? ⟨b, off + k * 2, none⟩ = some (.string xs[k].nm) ∧ w.cell? ⟨b, off + k * 2 + 1, none⟩ = some (.int .i64 xs[k].vl)) := by
  obtain ⟨⟨hl, p, cap, b, off, hv, hcap, _, hc⟩, _⟩ := h
  refine ⟨p, cap, b, off, hv, hcap, fun h => (hc h).1, fun k hk => ⟨?_, ?_⟩⟩
  · rw [(hc (by omega)).2 (k * 2) (by omega)]
    exact flat_get Ct.cells 2 Ct.cells_length xs k 0 hk (by omega)
  · rw [Nat.add_assoc, (hc (by omega)).2 (k * 2 + 1) (by omega)]
    exact flat_get Ct.cells 2 Ct.cells_length xs k 1 hk (by omega)
def ArgCt (w : World) (v : Value) : Prop := ∃ xs : List Ct, AsCt w v xs
/-- how many letters are left behind one, behind all -/
def szCt1 (x : Ct) (left : Int) : Int := if left - x.nm.size < 0 then -1 else left - x.nm.size
def szCtL : List Ct → Int → Int
  | [], left => left
  | x :: xs, left => if szCt1 x left < 0 then -1 else szCtL xs (szCt1 x left)
def szCt (xs : List Ct) (left : Int) : Int := if left - xs.length < 0 then -1 else szCtL xs (left - xs.length)
theorem szCt1_le (x : Ct) (left : Int) : szCt1 x left < 0 ∨ szCt1 x left ≤ left := by unfold szCt1; split <;> omega
theorem szCtL_le (xs : List Ct) (left : Int) : szCtL xs left < 0 ∨ szCtL xs left ≤ left := by
  induction xs generalizing left with
  | nil => exact .inr (Int.le_refl _)
  | cons x xs ih =>
    unfold szCtL
    have h1 := szCt1_le x left
    have h2 := ih (szCt1 x left)
    split <;> omega
theorem szCt_ge (xs : List Ct) (left : Int) (h : ¬ szCt xs left < 0) : (xs.length : Int) ≤ left ∧ szCt xs left ≤ left - xs.length := by
  have h1 := szCtL_le xs (left - xs.length)
  unfold szCt at *
  split at h <;> simp_all <;> omega
theorem szCtL_step (xs : List Ct) (k : Nat) (left : Int) (h : k < xs.length) : szCtL (xs.drop k) left = if szCt1 xs[k] left < 0 then -1 else szCtL (xs.drop (k + 1)) (szCt1 xs[k] left) := by
  rw [List.drop_eq_getElem_cons h]; rfl
theorem szCt1_any (x : Ct) (left : Int) (w : World) (h : x.ok) (h0 : 0 ≤ left) (h1 : left ≤ 1048576) :
    Calls Tryd.prog 49 #[x.v, .int .i64 left] w fun e w' => e = .returned (.int .i64 (szCt1 x left)) ∧ Below w.heap.size w w' := by
  obtain ⟨nm, vl⟩ := x
  simp only [Ct.ok] at h
  by_cases hlt : left - nm.size < 0
  · go_enter Tryd.func49, Tryd.ntmps49
    go_wp2
    go_ret
    exact ⟨by simp [szCt1, hlt], by go_grown⟩
  · go_enter Tryd.func49, Tryd.ntmps49
    go_wp2
    go_ret
    exact ⟨ret_int (by rw [szCt1, if_neg (by simpa using hlt)]), by go_grown⟩
set_option maxRecDepth 100000 in
set_option maxHeartbeats 2000000 in
theorem szCt_any (v : Value) (xs : List Ct) (left : Int) (w : World) (h : AsCt w v xs) (h0 : 0 ≤ left) (h1 : left ≤ 1048576) :
    Calls Tryd.prog 14 #[v, .int .i64 left] w fun e w' => e = .returned (.int .i64 (szCt xs left)) ∧ Below w.heap.size w w' := by
  have hn := h.2.1
  have hok := Lib.hid h.2.2
  obtain ⟨p, cap, b, off, rfl, hcap, hp, hcell⟩ := h.parts
  have HC := Lib.hid hcell; clear hcell
  have HP := Lib.hid hp; clear hp
  by_cases hlt : left - xs.length < 0
  · go_enter Tryd.func14, Tryd.ntmps14
    go_wp2
    go_ret
    exact ⟨by simp [szCt, hlt], Below.refl _ _⟩
  · have HV : Hid (szCt xs left = szCtL xs (left - xs.length)) := Lib.hid (by simp [szCt, hlt])
    go_enter Tryd.func14, Tryd.ntmps14
    go_wp2
    go_loopw [1, 5] (fun l i wr => ∃ (k : Nat) (q : Int), k ≤ xs.length ∧ i = .int .i64 k ∧ l = .int .i64 q ∧ 0 ≤ q ∧ q ≤ 1048576 ∧ Hid (szCtL (xs.drop k) q = szCtL xs (left - xs.length)) ∧ Below w.heap.size w wr)
      (fun _ i _ => xs.length - (intOf i).toNat)
    case atStart => exact ⟨0, left - xs.length, Nat.zero_le _, rfl, by go_num, by omega, by omega, Lib.hid rfl, Below.refl _ _⟩
    case round =>
      obtain ⟨k, q, hk, rfl, rfl, hq0, hq1, HL, hb⟩ := hrel
      by_cases hlt2 : k < xs.length
      · obtain rfl := HP.out (by omega)
        obtain ⟨c0, c1⟩ := HC.out k hlt2
        have c0 := (hb.cell (World.block_lt_of_cell? w _ c0)).trans c0
        have c1 := (hb.cell (World.block_lt_of_cell? w _ c1)).trans c1
        have HS := Lib.hid (szCtL_step xs k q hlt2)
        have HT := Lib.hid (fun w => szCt1_any ⟨xs[k].nm, xs[k].vl⟩ q w (hok.out xs[k] (List.getElem_mem _)) hq0 hq1)
        have hle := szCt1_le xs[k] q
        rw [show szCt1 ⟨xs[k].nm, xs[k].vl⟩ q = szCt1 xs[k] q from rfl] at HT
        generalize szCt1 xs[k] q = r at HS HT hle
        by_cases hr : r < 0
        · go_wp2_with fail
          refine (HT.out _).mono ?_
          rintro e w1 ⟨rfl, hb1⟩
          go_wp2
          go_ret
          exact ⟨ret_int (by rw [HV.out, ← HL.out, HS.out, if_pos (by omega)]), hb.trans (hb1.mono hb.size)⟩
        · go_wp2_with fail
          refine (HT.out _).mono ?_
          rintro e w1 ⟨rfl, hb1⟩
          go_wp2
          go_roundw
          case rel => exact ⟨k + 1, r, by omega, by go_num, rfl, by omega, by omega, Lib.hid (by rw [← HL.out, HS.out, if_neg (by omega)]), hb.trans (hb1.mono hb.size)⟩
          case measure => simp [intOf]; omega
      · have HE : Hid (q = szCtL xs (left - xs.length)) := Lib.hid (by rw [← HL.out, List.drop_of_length_le (by omega)]; rfl)
        go_wp2
        go_ret
        exact ⟨ret_int (by rw [HV.out, HE.out]), hb⟩
set_option maxRecDepth 100000 in
theorem trodCt {H : Type} {enc : TypeId × Value → H} {W : World} {n : Nat} {cs : List Value} {y : DataW H × List MemPlace} (h : DataW.trod enc Tryd.prog W 0 (fun _ => true) true n 61 cs = some y) :
    ∃ x : Ct, cs = x.cells ∧ x.ok := by
  obtain ⟨hl, hf⟩ := trod_fields Tryd.underlying61 (by kernel_rfl) (by kernel_rfl) h
  match cs, hl with
  | [c0, c1], _ =>
    obtain ⟨_, _, h0⟩ := hf 0 _ c0 rfl rfl
    obtain ⟨_, _, h1⟩ := hf 1 _ c1 rfl rfl
    obtain ⟨a0, e0, _, z0⟩ := DataW.trod_string Tryd.underlying9 h0
    obtain ⟨a1, e1, _⟩ := DataW.trod_int Tryd.underlying3 h1
    simp at e0 e1
    exact ⟨⟨a0, a1⟩, by simp [e0, e1], z0⟩
def ArgCt1 (_w : World) (v : Value) : Prop := ∃ x : Ct, v = x.v ∧ x.ok
set_option maxRecDepth 100000 in
theorem open_argCt1 {H : Type} {enc : TypeId × Value → H} {W : World} {base : Nat} {v : Value} {d : DataW H} {p : List MemPlace}
    (hok : Value.okWide Tryd.prog W .any base 61 v) (h : DataW.Trod enc Tryd.prog W 0 (fun _ => true) true 61 v d p) : ArgCt1 W v := by
  obtain ⟨cs, rfl, _⟩ := okWide_struct Tryd.underlying61 hok
  obtain ⟨fuel, hf⟩ := h
  obtain ⟨x, hx, hgd⟩ := trodCt hf
  obtain ⟨l⟩ := cs
  have hl : l = x.cells := by simpa [Value.cells] using hx
  exact ⟨x, by rw [hl], hgd⟩
set_option maxRecDepth 100000 in
theorem open_argCt {H : Type} {enc : TypeId × Value → H} {W : World} {base : Nat} {v : Value} {d : DataW H} {p : List MemPlace}
    (hok : Value.okWide Tryd.prog W .any base 22 v) (h : DataW.Trod enc Tryd.prog W 0 (fun _ => true) true 22 v d p) : ArgCt W v := by
  obtain ⟨xs, h1, h2, h3, _⟩ := open_sl Ct.cells 2 Ct.ok (by omega) Ct.cells_length Tryd.underlying22 (by kernel_rfl) (fun n cs y h => trodCt h) hok h
  exact ⟨xs, h1, h2, h3⟩
end Go.Proofs.YtmochhgmhhopoaaDoor
