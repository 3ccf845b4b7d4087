/- Contracts of the harness's functions on slices of integers: copy, compare (equal ones), mark, look for the marks. Condition: at most 2^30 elements. -/
import Derived.Test.YtihpibdodlgpaaaGreatDoorMem
namespace Go.Proofs.YtihpibdodlgpaaaGreatDoor
open Go.RowKit

theorem infoInt : (Tryz.prog.info? 3).map (fun i => (i.zero, i.size, i.bytes)) = some (some (.int .i64 0), 1, 8) := by kernel_rfl

def RdI (w : World) (v : Value) (xs : List Int) : Prop := Rd w v 1 xs.length (xs.map (Value.int .i64)) ∧ xs.length ≤ 1073741824
def OwI (B : Nat) (w : World) (v : Value) (xs : List Int) : Prop := w.ownsRow B 3 1 v xs.length (xs.map (Value.int .i64)) ∧ xs.length ≤ 1073741824
theorem OwI.rd {B : Nat} {w : World} {v : Value} {xs : List Int} (h : OwI B w v xs) : RdI w v xs := ⟨rd_of_own h.1, h.2⟩
theorem RdI.below {w w' : World} {v : Value} {xs : List Int} (h : RdI w v xs) (hb : Below w.heap.size w w') : RdI w' v xs := ⟨h.1.below hb, h.2⟩
theorem OwI.below {B : Nat} {w w' : World} {v : Value} {xs : List Int} (h : OwI B w v xs) (hb : Below w.heap.size w w') : OwI B w' v xs := ⟨own_below h.1 hb, h.2⟩
theorem OwI.base {B B' : Nat} {w : World} {v : Value} {xs : List Int} (h : OwI B w v xs) (hb : B' ≤ B) : OwI B' w v xs := ⟨own_base h.1 hb, h.2⟩

theorem RdI.grown {w w' : World} {v : Value} {xs : List Int} {row : Option Nat} (h : RdI w v xs) (hg : w.grownBy w' row) (hne : v.ownBlock = none ∨ v.ownBlock ≠ row) : RdI w' v xs := ⟨h.1.grown hg hne, h.2⟩
theorem OwI.lt {B : Nat} {w : World} {v : Value} {xs : List Int} (h : OwI B w v xs) : ∀ k, v.ownBlock = some k → B ≤ k ∧ k < w.heap.size := h.1.lt
theorem OwI.grown {B : Nat} {w w' : World} {v : Value} {xs : List Int} {row : Option Nat} (h : OwI B w v xs) (hg : w.grownBy w' row) (hne : v.ownBlock = none ∨ v.ownBlock ≠ row) : OwI B w' v xs := ⟨h.1.kept hg hne, h.2⟩
/-- What is known of a slice of integers, taken apart for a walk. -/
theorem RdI.parts {w : World} {v : Value} {xs : List Int} (h : RdI w v xs) : ∃ (p : Option Addr) (cap b off : Nat), v = .slice p xs.length cap ∧ xs.length ≤ cap ∧ (0 < xs.length → p = some ⟨b, off, none⟩) ∧
    (∀ k (hk : k < xs.length), w.cell? ⟨b, off + k, none⟩ = some (.int .i64 xs[k])) := by
  obtain ⟨⟨hl, p, cap, b, off, hv, hcap, _, hc⟩, _⟩ := h
  refine ⟨p, cap, b, off, hv, hcap, fun h => (hc h).1, fun k hk => ?_⟩
  rw [(hc (by omega)).2 k (by omega)]
  simp [hk]

set_option maxHeartbeats 1000000 in
theorem toIntS_any (v : Value) (xs : List Int) (w : World) (h : RdI w v xs) :
    Calls Tryz.prog 44 #[v] w fun e w' => ∃ v', e = .returned v' ∧ OwI w.heap.size w' v' xs ∧ Below w.heap.size w w' := by
  have hlen := h.2
  obtain ⟨p, cap, b, off, rfl, hcap, hp, hcell⟩ := h.parts
  have HC := Lib.hid hcell; clear hcell
  have HP := Lib.hid hp; clear hp
  obtain ⟨i0, hi, hz0, hz1, hz2⟩ := info_parts infoInt
  go_enter Tryz.func44, Tryz.ntmps44
  go_wp2_with (at_make; refine wpList_make_full _ rfl _ _ 22 rfl w.heap.size 3 i0 (.int .i64 0) 1 Tryz.underlying22 hi hz0 hz1 _ _ _ _ xs.length rfl rfl rfl rfl ?b2 ?b3 (Nat.le_refl _) ?_)
  case b2 => rw [hz2]; omega
  case b3 => unfold maxLen; omega
  intro w0 hown0 hgrow0
  go_wp2
  go_loopw [4] (fun i wr => ∃ (k : Nat) (L : List Value), k ≤ xs.length ∧ i = .int .i64 k ∧ wr.ownsRow w.heap.size 3 1 (.slice (some ⟨w.heap.size, 0, none⟩) xs.length xs.length) xs.length L ∧ Hid (L.take k = (xs.take k).map (Value.int .i64)) ∧ Below w.heap.size w wr)
    (fun i _ => xs.length - (intOf i).toNat)
  case atStart => exact ⟨0, _, Nat.zero_le _, rfl, hown0, Lib.hid rfl, (Below.refl _ _).grown hgrow0 (Nat.le_refl _) (fun k h => by cases h)⟩
  case round =>
    obtain ⟨k, L, hk, rfl, hown, HL, hb⟩ := hrel
    by_cases hlt : k < xs.length
    · obtain rfl := HP.out (by omega)
      have hLl : L.length = xs.length := by have := hown.1; omega
      have c1 : wr.cell? ⟨b, off + k, none⟩ = some (.int .i64 xs[k]) := by
        have h1 := HC.out k hlt
        rw [hb.cell (World.block_lt_of_cell? w ⟨b, off + k, none⟩ h1), h1]
      have c2 : wr.cell? ⟨w.heap.size, k, none⟩ = some L[k] := by rw [hown.cellAt k (by omega), List.getElem?_eq_getElem (by omega)]
      have c3 := hown.frozenAt k
      have hst := hown.stored k (.int .i64 xs[k])
      go_wp2
      go_roundw
      case rel => exact ⟨k + 1, L.set k (.int .i64 xs[k]), by omega, by go_num, hst.1, Lib.hid (by rw [take_set_succ L k _ (by omega), take_map_succ _ xs k hlt, HL.out]), hb.grown hst.2 (hb.size) (fun j hj => by cases hj; exact Nat.le_refl _)⟩
      case measure => simp [intOf]; omega
    · have hL : L = xs.map (Value.int .i64) := by
        have h1 := HL.out
        have h2 := hown.1
        rwa [List.take_of_length_le (by omega), List.take_of_length_le (by omega)] at h1
      have HX := Lib.hid hL; clear hL
      go_wp2
      go_ret
      refine ⟨_, rfl, ⟨by rw [← HX.out]; exact hown, hlen⟩, hb⟩

/-- Two slices that read as one list are found equal. -/
theorem eqIntS_same (v v' : Value) (xs : List Int) (w : World) (h : RdI w v xs) (h' : RdI w v' xs) :
    Calls Tryz.prog 53 #[v, v'] w fun e w' => e = .returned (.bool true) ∧ ∃ n, w' = w.drewN n := by
  have hlen := h.2
  obtain ⟨p, cap, b, off, rfl, hcap, hp, hcell⟩ := h.parts
  obtain ⟨p', cap', b', off', rfl, hcap', hp', hcell'⟩ := h'.parts
  have HC := Lib.hid hcell; clear hcell
  have HP := Lib.hid hp; clear hp
  have HC' := Lib.hid hcell'; clear hcell'
  have HP' := Lib.hid hp'; clear hp'
  go_enter Tryz.func53, Tryz.ntmps53
  go_wp2
  go_loopw [5] (fun i wr => ∃ (k n : Nat), k ≤ xs.length ∧ i = .int .i64 k ∧ wr = w.drewN n)
    (fun i _ => xs.length - (intOf i).toNat)
  case atStart => exact ⟨0, 0, Nat.zero_le _, rfl, rfl⟩
  case round =>
    obtain ⟨k, n, hk, rfl, rfl⟩ := hrel
    by_cases hlt : k < xs.length
    · obtain rfl := HP.out (by omega)
      obtain rfl := HP'.out (by omega)
      have c1 := HC.out k hlt
      have c2 := HC'.out k hlt
      go_wp2
      go_quiet (fail)
      go_wp2
      go_roundw
      case rel => exact ⟨k + 1, n + nq, by omega, by go_num, by simp⟩
      case measure => simp [intOf]; omega
    · go_wp2
      go_ret
      exact ⟨rfl, n, rfl⟩

theorem eqI_below (v v' : Value) (xs : List Int) (w : World) (h : RdI w v xs) (h' : RdI w v' xs) :
    Calls Tryz.prog 53 #[v, v'] w fun e w' => e = .returned (.bool true) ∧ Below w.heap.size w w' :=
  (eqIntS_same v v' xs w h h').mono fun _ _ ⟨he, hb⟩ => ⟨he, below_eq hb⟩
/-- The marks k, k + 1, ... -/
def marksI (k : Int) : Nat → List Int
  | 0 => []
  | n + 1 => marksI k n ++ [k + n]
theorem marksI_length (k : Int) (n : Nat) : (marksI k n).length = n := by
  induction n with
  | zero => rfl
  | succ n ih => simp [marksI, ih]
theorem marksI_get (k : Int) (n j : Nat) (h : j < n) : (marksI k n)[j]'(by rw [marksI_length]; exact h) = k + j := by
  induction n with
  | zero => omega
  | succ n ih =>
    simp only [marksI]
    by_cases hj : j < n
    · rw [List.getElem_append_left (by rw [marksI_length]; exact hj)]; exact ih hj
    · have : j = n := by omega
      subst this
      simp [List.getElem_append_right, marksI_length]


theorem toI_any (v : Value) (xs : List Int) (w : World) (h : RdI w v xs) :
    Calls Tryz.prog 44 #[v] w fun e w' => ∃ v', e = .returned v' ∧ OwI w.heap.size w' v' xs ∧ Below w.heap.size w w' := toIntS_any v xs w h
end Go.Proofs.YtihpibdodlgpaaaGreatDoor
