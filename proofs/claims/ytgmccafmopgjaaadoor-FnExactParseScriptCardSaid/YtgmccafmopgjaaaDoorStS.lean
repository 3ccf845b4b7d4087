/- The struct Step (3 integers) and slices of it: how they read, and contracts of the harness's functions on them: copy, compare (equal ones), mark, look for marks, count. Condition: at most 2^30 elements. -/
import Derived.Test.YtgmccafmopgjaaaDoorOpenSl
import Derived.Test.YtgmccafmopgjaaaDoorOpenInts
import Derived.Test.YtgmccafmopgjaaaDoorTxt
import Derived.Test.YtgmccafmopgjaaaDoorKeep
import Derived.Deep.RegionHeld3
import Derived.Handy
namespace Go.Proofs.YtgmccafmopgjaaaDoor
open Go.ChangeShapes Go.WideShapes Go.ChangeAt Go.RowKit Go.Deep

structure St where
  kd : Int
  nd : Int
  dt : ByteArray
instance : Inhabited St := ⟨⟨0, 0, ⟨#[]⟩⟩⟩
abbrev St.v (x : St) : Value := .agg #[.int .i64 x.kd, .int .i64 x.nd, .string x.dt]
abbrev St.cells (x : St) : List Value := [.int .i64 x.kd, .int .i64 x.nd, .string x.dt]
abbrev St.o (x : St) : Obj := .cells #[.int .i64 x.kd, .int .i64 x.nd, .string x.dt] 50
theorem St.cells_length (x : St) : x.cells.length = 3 := rfl
/-- the strings are no longer than a string may be -/
def St.ok (x : St) : Prop := x.dt.size ≤ 9223372036854775807
theorem infoSt : (Tryd.prog.info? 50).map (fun i => (i.zero, i.size, i.bytes)) = some (some (.agg #[.int .i64 0, .int .i64 0, .string ⟨#[]⟩]), 3, 32) := by kernel_rfl
def RdSt (w : World) (v : Value) (xs : List St) : Prop := Rd w v 3 xs.length (xs.flatMap St.cells) ∧ xs.length ≤ 1073741824 ∧ ∀ x ∈ xs, x.ok
def OwSt (B : Nat) (w : World) (v : Value) (xs : List St) : Prop := w.ownsRow B 50 3 v xs.length (xs.flatMap St.cells) ∧ xs.length ≤ 1073741824 ∧ ∀ x ∈ xs, x.ok
theorem OwSt.rd {B : Nat} {w : World} {v : Value} {xs : List St} (h : OwSt B w v xs) : RdSt w v xs := ⟨rd_of_own h.1, h.2⟩
theorem RdSt.below {w w' : World} {v : Value} {xs : List St} (h : RdSt w v xs) (hb : Below w.heap.size w w') : RdSt w' v xs := ⟨h.1.below hb, h.2⟩
theorem RdSt.grown {w w' : World} {v : Value} {xs : List St} {row : Option Nat} (h : RdSt w v xs) (hg : w.grownBy w' row) (hne : v.ownBlock = none ∨ v.ownBlock ≠ row) : RdSt w' v xs := ⟨h.1.grown hg hne, h.2⟩
theorem OwSt.below {B : Nat} {w w' : World} {v : Value} {xs : List St} (h : OwSt B w v xs) (hb : Below w.heap.size w w') : OwSt B w' v xs := ⟨own_below h.1 hb, h.2⟩
theorem OwSt.base {B B' : Nat} {w : World} {v : Value} {xs : List St} (h : OwSt B w v xs) (hb : B' ≤ B) : OwSt B' w v xs := ⟨own_base h.1 hb, h.2⟩
theorem OwSt.grown {B : Nat} {w w' : World} {v : Value} {xs : List St} {row : Option Nat} (h : OwSt B w v xs) (hg : w.grownBy w' row) (hne : v.ownBlock = none ∨ v.ownBlock ≠ row) : OwSt B w' v xs := ⟨h.1.kept hg hne, h.2⟩
theorem OwSt.lt {B : Nat} {w : World} {v : Value} {xs : List St} (h : OwSt B w v xs) : ∀ k, v.ownBlock = some k → B ≤ k ∧ k < w.heap.size := h.1.lt
/-- What is known of such a slice, taken apart for a walk. -/
theorem RdSt.parts {w : World} {v : Value} {xs : List St} (h : RdSt w v xs) : ∃ (p : Option Addr) (cap b off : Nat), v = .slice p xs.length cap ∧ xs.length ≤ cap ∧ (0 < xs.length → p = some ⟨b, off, none⟩) ∧
    (∀ k (hk : k < xs.length), w.cell? ⟨b, off + k * 3, none⟩ = some (.int .i64 xs[k].kd) ∧ w.cell? ⟨b, off + k * 3 + 1, none⟩ = some (.int .i64 xs[k].nd) ∧ w.cell? ⟨b, off + k * 3 + 2, none⟩ = some (.string xs[k].dt)) := by
  obtain ⟨⟨hl, p, cap, b, off, hv, hcap, _, hc⟩, _⟩ := h
  refine ⟨p, cap, b, off, hv, hcap, fun h => (hc h).1, fun k hk => ⟨?_, ?_, ?_⟩⟩
  · rw [(hc (by omega)).2 (k * 3) (by omega)]
    exact flat_get St.cells 3 St.cells_length xs k 0 hk (by omega)
  · rw [Nat.add_assoc, (hc (by omega)).2 (k * 3 + 1) (by omega)]
    exact flat_get St.cells 3 St.cells_length xs k 1 hk (by omega)
  · rw [Nat.add_assoc, (hc (by omega)).2 (k * 3 + 2) (by omega)]
    exact flat_get St.cells 3 St.cells_length xs k 2 hk (by omega)
theorem flatSt_succ (xs : List St) (k : Nat) (h : k < xs.length) : (xs.take (k + 1)).flatMap St.cells = (xs.take k).flatMap St.cells ++ xs[k].cells := by
  rw [List.take_succ_eq_append_getElem h, List.flatMap_append]; simp

theorem eqSt1_ex (x : St) (w : World) :
    Calls Tryd.prog 29 #[x.v, x.v] w fun e w' => e = .returned (.bool true) ∧ (w.alloc x.o).alloc x.o = w' := by
  obtain ⟨kd, nd, dt⟩ := x
  go_enter Tryd.func29, Tryd.ntmps29
  go_wp2
  go_ret
  exact ⟨rfl, rfl⟩

set_option maxRecDepth 100000 in
set_option maxHeartbeats 2000000 in
theorem eqSt_below (v v' : Value) (xs : List St) (w : World) (h : RdSt w v xs) (h' : RdSt w v' xs) :
    Calls Tryd.prog 10 #[v, v'] w fun e w' => e = .returned (.bool true) ∧ Below w.heap.size w w' := by
  have hlen := h.2.1
  have hok := Lib.hid h.2.2
  obtain ⟨p, cap, b, off, rfl, hcap, hp, hcell⟩ := h.parts
  obtain ⟨p', cap', b', off', rfl, hcap', hp', hcell'⟩ := h'.parts
  have HC := Lib.hid hcell; clear hcell
  have HP := Lib.hid hp; clear hp
  have HC' := Lib.hid hcell'; clear hcell'
  have HP' := Lib.hid hp'; clear hp'
  go_enter Tryd.func10, Tryd.ntmps10
  go_wp2
  go_loopw [5] (fun i wr => ∃ (k : Nat), k ≤ xs.length ∧ i = .int .i64 k ∧ Below w.heap.size w wr)
    (fun i _ => xs.length - (intOf i).toNat)
  case atStart => exact ⟨0, Nat.zero_le _, rfl, Below.refl _ _⟩
  case round =>
    obtain ⟨k, hk, rfl, hb⟩ := hrel
    by_cases hlt : k < xs.length
    · obtain rfl := HP.out (by omega)
      obtain rfl := HP'.out (by omega)
      obtain ⟨c0, c1, c2⟩ := HC.out k hlt
      obtain ⟨d0, d1, d2⟩ := HC'.out k hlt
      have c0 := (hb.cell (World.block_lt_of_cell? w _ c0)).trans c0
      have c1 := (hb.cell (World.block_lt_of_cell? w _ c1)).trans c1
      have c2 := (hb.cell (World.block_lt_of_cell? w _ c2)).trans c2
      have d0 := (hb.cell (World.block_lt_of_cell? w _ d0)).trans d0
      have d1 := (hb.cell (World.block_lt_of_cell? w _ d1)).trans d1
      have d2 := (hb.cell (World.block_lt_of_cell? w _ d2)).trans d2
      go_wp2_with fail
      go_region_held3 (fun w' => w'.cell? ⟨b, off + k * 3, none⟩ = some (.int .i64 xs[k].kd) ∧ w'.cell? ⟨b, off + k * 3 + 1, none⟩ = some (.int .i64 xs[k].nd) ∧ w'.cell? ⟨b, off + k * 3 + 2, none⟩ = some (.string xs[k].dt) ∧ w'.cell? ⟨b', off' + k * 3, none⟩ = some (.int .i64 xs[k].kd) ∧ w'.cell? ⟨b', off' + k * 3 + 1, none⟩ = some (.int .i64 xs[k].nd) ∧ w'.cell? ⟨b', off' + k * 3 + 2, none⟩ = some (.string xs[k].dt)) (go_keep)
        (first | (go_at_call 29; refine (eqSt1_ex ⟨xs[k].kd, xs[k].nd, xs[k].dt⟩ _).mono ?_; rintro e w' ⟨rfl, rfl⟩))
      go_wp2
      go_roundw
      case rel => exact ⟨k + 1, by omega, by go_num, by have := hb.size; go_grown⟩
      case measure => simp [intOf]; omega
    · go_wp2
      go_ret
      exact ⟨rfl, hb⟩

/-- The marks of n such structs from c on. -/
def marksSt (c : Int) : Nat → List St
  | 0 => []
  | n + 1 => marksSt c n ++ [⟨c + 3 * n, c + 3 * n + 1, mkText (c + 3 * n + 1 + 1)⟩]
theorem marksSt_length (c : Int) (n : Nat) : (marksSt c n).length = n := by
  induction n with
  | zero => rfl
  | succ n ih => simp [marksSt, ih]
theorem marksSt_get (c : Int) (n j : Nat) (h : j < n) : (marksSt c n)[j]'(by rw [marksSt_length]; exact h) = ⟨c + 3 * j, c + 3 * j + 1, mkText (c + 3 * j + 1 + 1)⟩ := by
  induction n with
  | zero => omega
  | succ n ih =>
    simp only [marksSt]
    by_cases hj : j < n
    · rw [List.getElem_append_left (by rw [marksSt_length]; exact hj)]; exact ih hj
    · have : j = n := by omega
      subst this
      simp [List.getElem_append_right, marksSt_length]

theorem marksSt_ok (c : Int) (n : Nat) (h1 : c + 3 * n ≤ 4611686018427387904) : ∀ x ∈ marksSt c n, x.ok := by
  induction n with
  | zero => intro x hx; cases hx
  | succ n ih =>
    intro x hx
    rcases List.mem_append.1 hx with h | h
    · exact ih (by omega) x h
    · rw [List.mem_singleton] at h
      subst h
      exact mkText_size _ (by omega)

set_option maxRecDepth 100000 in
set_option maxHeartbeats 4000000 in
theorem markSt_any (v : Value) (xs : List St) (c : Int) (B : Nat) (w : World) (h : OwSt B w v xs) (h0 : 0 ≤ c) (h1 : c ≤ 1152921504606846976) :
    Calls Tryd.prog 11 #[v, .int .i64 c] w fun e w' => e = .returned (.int .i64 (c + 3 * xs.length)) ∧ OwSt B w' v (marksSt c xs.length) ∧ w.grownBy w' v.ownBlock := by
  have hlen := h.2.1
  have hok := Lib.hid h.2.2
  obtain ⟨p, cap, g, rfl, hcap, hp⟩ := own_shape h.1
  have HP := Lib.hid hp; clear hp
  have HO := Lib.hid h.1; clear h
  go_enter Tryd.func11, Tryd.ntmps11
  go_wp2
  go_loopw [1, 5] (fun a i wr => ∃ (k : Nat) (L : List Value), k ≤ xs.length ∧ i = .int .i64 k ∧ a = .int .i64 (c + 3 * k) ∧ wr.ownsRow B 50 3 (.slice p xs.length cap) xs.length L ∧ Hid (L.take (k * 3) = (marksSt c k).flatMap St.cells) ∧ w.grownBy wr (Value.slice p xs.length cap).ownBlock)
    (fun _ i _ => xs.length - (intOf i).toNat)
  case atStart => exact ⟨0, _, Nat.zero_le _, rfl, by simp, HO.out, Lib.hid rfl, World.grownBy.refl _ _⟩
  case round =>
    obtain ⟨k, L, hk, rfl, rfl, hown, HL, hb⟩ := hrel
    by_cases hlt : k < xs.length
    · obtain ⟨rfl, hge⟩ := HP.out (by omega)
      have HLl := Lib.hid hown.1
      obtain ⟨u0, d0⟩ := own_has hown (k * 3) (by omega)
      obtain ⟨u1, d1⟩ := own_has hown (k * 3 + 1) (by omega)
      have f0 := hown.frozenAt (k * 3)
      have f1 := hown.frozenAt (k * 3 + 1)
      have hs0 := hown.stored (k * 3) (.int .i64 (c + 3 * k))
      have hs1 := hs0.1.stored (k * 3 + 1) (.int .i64 (c + 3 * k + 1))
      have HS0 := Lib.hid hs0
      have HS1 := Lib.hid hs1
      clear hs0 hs1
      go_wp2_with fail
      refine (markText_any (c + 3 * k + 1 + 1) _ (by omega)).mono ?_
      rintro e v1 ⟨rfl, hbv1⟩
      have ho1 := own_below HS1.out.1 hbv1
      have HBV1 := Lib.hid hbv1; clear hbv1
      clear d0 f0 d1 f1
      obtain ⟨u2, d2⟩ := own_has ho1 (k * 3 + 2) (by omega)
      have f2 := ho1.frozenAt (k * 3 + 2)
      have hs2 := ho1.stored (k * 3 + 2) (.string (mkText (c + 3 * k + 1 + 1)))
      have HS2 := Lib.hid hs2
      clear hs2
      go_wp2
      go_roundw
      case rel =>
        refine ⟨k + 1, _, by omega, by go_num, by go_num, HS2.out.1, Lib.hid ?_, grown_trans (grown_trans (grown_trans (grown_trans (hb) HS0.out.2) HS1.out.2) (grown_of_below HBV1.out)) HS2.out.2⟩
        rw [Nat.add_mul, Nat.one_mul, take_set_succ _ (k * 3 + 2) _ (by simp; have := HLl.out; omega), take_set_succ _ (k * 3 + 1) _ (by simp; have := HLl.out; omega), take_set_succ _ (k * 3) _ (by have := HLl.out; omega), HL.out]
        simp [marksSt]
      case measure => simp [intOf]; omega
    · have hkn : k = xs.length := by omega
      have hL : L = (marksSt c xs.length).flatMap St.cells := by
        have h1 := HL.out
        have h2 := hown.1
        rwa [List.take_of_length_le (by omega), hkn] at h1
      have HX := Lib.hid hL; clear hL
      have HK := Lib.hid hkn; clear hkn
      go_wp2
      go_ret
      refine ⟨ret_int (by rw [HK.out]), ⟨by rw [← HX.out, marksSt_length]; exact hown, by rw [marksSt_length]; exact hlen, marksSt_ok c xs.length (by omega)⟩, hb⟩

set_option maxRecDepth 100000 in
set_option maxHeartbeats 4000000 in
theorem heldSt_any (v : Value) (n : Nat) (c : Int) (w : World) (h : RdSt w v (marksSt c n)) (h0 : 0 ≤ c) (h1 : c ≤ 1152921504606846976) :
    Calls Tryd.prog 12 #[v, .int .i64 c] w fun e w' => e = .returned (.int .i64 (c + 3 * n)) ∧ Below w.heap.size w w' := by
  have hlen := h.2.1
  have hok := Lib.hid h.2.2
  obtain ⟨p, cap, b, off, rfl, hcap, hp, hcell0⟩ := h.parts
  rw [marksSt_length] at *
  have hcell : ∀ k, k < n → w.cell? ⟨b, off + k * 3, none⟩ = some (.int .i64 (c + 3 * k)) ∧ w.cell? ⟨b, off + k * 3 + 1, none⟩ = some (.int .i64 (c + 3 * k + 1)) ∧ w.cell? ⟨b, off + k * 3 + 2, none⟩ = some (.string (mkText (c + 3 * k + 1 + 1))) := fun k hk => by
    have h2 := hcell0 k (by rw [marksSt_length]; exact hk)
    simp only [marksSt_get c n k hk] at h2
    exact h2
  clear hcell0
  have HC := Lib.hid hcell; clear hcell
  have HP := Lib.hid hp; clear hp
  go_enter Tryd.func12, Tryd.ntmps12
  go_wp2
  go_loopw [1, 5] (fun a i wr => ∃ (k : Nat), k ≤ n ∧ i = .int .i64 k ∧ a = .int .i64 (c + 3 * k) ∧ Below w.heap.size w wr)
    (fun _ i _ => n - (intOf i).toNat)
  case atStart => exact ⟨0, Nat.zero_le _, rfl, by simp, Below.refl _ _⟩
  case round =>
    obtain ⟨k, hk, rfl, rfl, hb⟩ := hrel
    by_cases hlt : k < n
    · obtain rfl := HP.out (by omega)
      obtain ⟨c0, c1, c2⟩ := HC.out k hlt
      have c0 := cell_on hb c0
      have c1 := cell_on hb c1
      have c2 := cell_on hb c2
      go_wp2_with fail
      have hBh := Lib.hid hb
      go_region_held3 (fun w' => Below w.heap.size w w' ∧ w'.cell? ⟨b, off + k * 3 + 2, none⟩ = some (.string (mkText (c + 3 * k + 1 + 1)))) (first | exact keepB1 (by assumption) hbel | exact ⟨hBh.out.drew, by go_keep⟩)
        (first | (go_at_call 30; refine (markText_any (c + 3 * k + 1 + 1) _ (by omega)).mono ?_; rintro e w' ⟨rfl, hbel⟩))
      go_wp2
      go_roundw
      case rel => exact ⟨k + 1, by omega, by go_num, by go_num, (by assumption : Below w.heap.size w _ ∧ _).1⟩
      case measure => simp [intOf]; omega
    · have hkn : k = n := by omega
      subst hkn
      go_wp2
      go_ret
      exact ⟨rfl, hb⟩

def AsSt (w : World) (v : Value) (xs : List St) : Prop := Rd w v 3 xs.length (xs.flatMap St.cells) ∧ xs.length ≤ 9223372036854775807 ∧ ∀ x ∈ xs, x.ok
theorem AsSt.rd {w : World} {v : Value} {xs : List St} (h : AsSt w v xs) (hl : xs.length ≤ 1073741824) : RdSt w v xs := ⟨h.1, hl, h.2.2⟩
theorem AsSt.below {w w' : World} {v : Value} {xs : List St} (h : AsSt w v xs) (hb : Below w.heap.size w w') : AsSt w' v xs := ⟨h.1.below hb, h.2⟩
theorem AsSt.parts {w : World} {v : Value} {xs : List St} (h : AsSt w v xs) : ∃ (p : Option Addr) (cap b off : Nat), v = .slice p xs.length cap ∧ xs.length ≤ cap ∧ (0 < xs.length → p = some ⟨b, off, none⟩) ∧
    (∀ k (hk : k < xs.length), w.cell? ⟨b, off + k * 3, none⟩ = some (.int .i64 xs[k].kd) ∧ w.cell? ⟨b, off + k * 3 + 1, none⟩ = some (.int .i64 xs[k].nd) ∧ w.cell? ⟨b, off + k * 3 + 2, none⟩ = some (.string xs[k].dt)) := by
  obtain ⟨⟨hl, p, cap, b, off, hv, hcap, _, hc⟩, _⟩ := h
  refine ⟨p, cap, b, off, hv, hcap, fun h => (hc h).1, fun k hk => ⟨?_, ?_, ?_⟩⟩
  · rw [(hc (by omega)).2 (k * 3) (by omega)]
    exact flat_get St.cells 3 St.cells_length xs k 0 hk (by omega)
  · rw [Nat.add_assoc, (hc (by omega)).2 (k * 3 + 1) (by omega)]
    exact flat_get St.cells 3 St.cells_length xs k 1 hk (by omega)
  · rw [Nat.add_assoc, (hc (by omega)).2 (k * 3 + 2) (by omega)]
    exact flat_get St.cells 3 St.cells_length xs k 2 hk (by omega)
def ArgSt (w : World) (v : Value) : Prop := ∃ xs : List St, AsSt w v xs
/-- how many letters are left behind one, behind all -/
def szSt1 (x : St) (left : Int) : Int := if left - x.dt.size < 0 then -1 else left - x.dt.size
def szStL : List St → Int → Int
  | [], left => left
  | x :: xs, left => if szSt1 x left < 0 then -1 else szStL xs (szSt1 x left)
def szSt (xs : List St) (left : Int) : Int := if left - xs.length < 0 then -1 else szStL xs (left - xs.length)
theorem szSt1_le (x : St) (left : Int) : szSt1 x left < 0 ∨ szSt1 x left ≤ left := by unfold szSt1; split <;> omega
theorem szStL_le (xs : List St) (left : Int) : szStL xs left < 0 ∨ szStL xs left ≤ left := by
  induction xs generalizing left with
  | nil => exact .inr (Int.le_refl _)
  | cons x xs ih =>
    unfold szStL
    have h1 := szSt1_le x left
    have h2 := ih (szSt1 x left)
    split <;> omega
theorem szSt_ge (xs : List St) (left : Int) (h : ¬ szSt xs left < 0) : (xs.length : Int) ≤ left ∧ szSt xs left ≤ left - xs.length := by
  have h1 := szStL_le xs (left - xs.length)
  unfold szSt at *
  split at h <;> simp_all <;> omega
theorem szStL_step (xs : List St) (k : Nat) (left : Int) (h : k < xs.length) : szStL (xs.drop k) left = if szSt1 xs[k] left < 0 then -1 else szStL (xs.drop (k + 1)) (szSt1 xs[k] left) := by
  rw [List.drop_eq_getElem_cons h]; rfl
end Go.Proofs.YtgmccafmopgjaaaDoor
