/- Contracts of the reference's reader of choices (l1Cur): next, pick, one, among. It reads bytes, then goes on by a sequence of its own; what it answers is only bounded here. Condition: at most 2^40 reads. -/
import Derived.Test.YtohbkohidpgjpaaGreatDoorOpenInts
namespace Go.Proofs.YtohbkohidpgjpaaGreatDoor
open Go.RowKit

/-- bytes -/
def RdY (w : World) (v : Value) (bs : List Int) : Prop := Rd w v 1 bs.length (bs.map (Value.int .u8)) ∧ bs.length ≤ 1073741824 ∧ ∀ b ∈ bs, 0 ≤ b ∧ b ≤ 255
theorem RdY.grown {w w' : World} {v : Value} {xs : List Int} {row : Option Nat} (h : RdY w v xs) (hg : w.grownBy w' row) (hne : 0 < xs.length → v.ownBlock = none ∨ v.ownBlock ≠ row) : RdY w' v xs := ⟨h.1.grown0 hg hne, h.2⟩
theorem RdY.below {w w' : World} {v : Value} {xs : List Int} (h : RdY w v xs) (hb : Below w.heap.size w w') : RdY w' v xs := ⟨h.1.below hb, h.2⟩
theorem RdY.parts {w : World} {v : Value} {xs : List Int} (h : RdY w v xs) : ∃ (p : Option Addr) (cap b off : Nat), v = .slice p xs.length cap ∧ xs.length ≤ cap ∧ (0 < xs.length → p = some ⟨b, off, none⟩) ∧
    (∀ k (hk : k < xs.length), w.cell? ⟨b, off + k, none⟩ = some (.int .u8 xs[k])) := by
  obtain ⟨⟨hl, p, cap, b, off, hv, hcap, _, hc⟩, _⟩ := h
  refine ⟨p, cap, b, off, hv, hcap, fun h => (hc h).1, fun k hk => ?_⟩
  rw [(hc (by omega)).2 k (by omega)]
  simp [hk]

/-- Block B is a reader that has read at most u times. -/
def Cur (w : World) (B u : Nat) : Prop :=
  ∃ (cv : Value) (bs : List Int) (n : Nat) (sd : Int), w.heap[B]? = some (.cells #[cv, .int .i64 n, .int .u64 sd] 51 (0, 0)) ∧ n ≤ u ∧ RdY w cv bs ∧ (0 < bs.length → ∀ k, cv.ownBlock = some k → k < B)
theorem ne_row {n B : Nat} {v : Value} (h : 0 < n → ∀ k, v.ownBlock = some k → k < B) {g : Nat} (hg : B ≤ g) : 0 < n → v.ownBlock = none ∨ v.ownBlock ≠ some g := by
  intro hn
  cases hv : v.ownBlock with
  | none => exact .inl rfl
  | some k => exact .inr fun e => by have := h hn k hv; have := Option.some.inj e; omega
theorem Cur.lt {w : World} {B u : Nat} (h : Cur w B u) : B < w.heap.size := by
  obtain ⟨_, _, _, _, hh, _⟩ := h; exact (Array.getElem?_eq_some_iff.1 hh).1
theorem Cur.below {w w' : World} {B u : Nat} (h : Cur w B u) (hb : Below w.heap.size w w') : Cur w' B u := by
  have hlt := h.lt
  obtain ⟨cv, bs, n, sd, hh, hn, hr, hne⟩ := h
  exact ⟨cv, bs, n, sd, by rw [hb.block B hlt]; exact hh, hn, hr.below hb, hne⟩
theorem Cur.mono {w : World} {B u u' : Nat} (h : Cur w B u) (hu : u ≤ u') : Cur w B u' := by
  obtain ⟨cv, bs, n, sd, hh, hn, r⟩ := h; exact ⟨cv, bs, n, sd, hh, by omega, r⟩
theorem grown_below {w w' : World} {row : Option Nat} (h : Below w.heap.size w w') : w.grownBy w' row := ⟨h.os, h.tape, h.output, h.size, fun k hk _ => h.block k hk⟩
/-- what was made since w0 was w: old memory is as it was -/
theorem below_of_grown {w0 w w' : World} {B : Nat} (hb : Below w0.heap.size w0 w) (hg : w.grownBy w' (some B)) (hB : w0.heap.size ≤ B) : Below w0.heap.size w0 w' :=
  hb.grown hg hb.size (fun k hk => by cases hk; exact hB)

theorem cur_step {w : World} {B u : Nat} {cv : Value} {bs : List Int} {n : Nat} {sd : Int} (hh : w.heap[B]? = some (.cells #[cv, .int .i64 n, .int .u64 sd] 51 (0, 0))) (hn : n ≤ u) (hr : RdY w cv bs) (hne : 0 < bs.length → ∀ k, cv.ownBlock = some k → k < B) (sd' : Int) (a c : Nat) :
    Cur ((((w.drewN a).setCell ⟨B, 1, none⟩ (.int .i64 ((n : Int) + 1))).setCell ⟨B, 2, none⟩ (.int .u64 sd')).drewN c) B (u + 1) ∧
    w.grownBy ((((w.drewN a).setCell ⟨B, 1, none⟩ (.int .i64 ((n : Int) + 1))).setCell ⟨B, 2, none⟩ (.int .u64 sd')).drewN c) (some B) := by
  have h1 := heap_setCell_same (w.drewN a) B 1 _ _ (.int .i64 ((n : Int) + 1)) hh
  have h2 := heap_setCell_same _ B 2 _ _ (.int .u64 sd') h1
  have hg : w.grownBy ((((w.drewN a).setCell ⟨B, 1, none⟩ (.int .i64 ((n : Int) + 1))).setCell ⟨B, 2, none⟩ (.int .u64 sd')).drewN c) (some B) := by
    refine ⟨rfl, rfl, rfl, by simp, fun k _ hk => ?_⟩
    have hk' : k ≠ B := fun e => hk (by rw [e])
    exact (heap_setCell_other _ ⟨B, 2, none⟩ k _ hk').trans (heap_setCell_other _ ⟨B, 1, none⟩ k _ hk')
  exact ⟨⟨cv, bs, n + 1, sd', h2, by omega, hr.grown hg (ne_row hne (Nat.le_refl _)), hne⟩, hg⟩
theorem and255 (x : Int) (h0 : 0 ≤ x) (h1 : x < 18446744073709551616) : ∃ y : Nat, bits .and .u64 x 255 = y ∧ y ≤ 255 := by
  refine ⟨_, u64_and x 255 h0 h1 (by omega) (by omega), ?_⟩
  exact Nat.and_le_right

theorem and255w (e : Int) : ∃ y : Nat, wrap64 (bits .and .u64 (IntKind.u64.wrap e / 1099511627776) 255) = y ∧ y ≤ 255 := by
  have hw : 0 ≤ IntKind.u64.wrap e ∧ IntKind.u64.wrap e < 18446744073709551616 := by rw [IntKind.wrap_u64]; omega
  obtain ⟨y, hy, hy2⟩ := and255 (IntKind.u64.wrap e / 1099511627776) (by omega) (by omega)
  exact ⟨y, by rw [hy, IntWalk.wrap64_in _ (by omega)], hy2⟩

set_option maxHeartbeats 2000000 in
theorem next_any (B u : Nat) (w : World) (h : Cur w B u) (hu : u ≤ 1099511627776) :
    Calls Tryz.prog 69 #[.pointer (some ⟨B, 0, none⟩)] w fun e w' => ∃ x : Nat, e = .returned (.int .i64 x) ∧ x ≤ 255 ∧ Cur w' B (u + 1) ∧ w.grownBy w' (some B) := by
  obtain ⟨cv, bs, n, sd, hh, hn, hr, hne⟩ := h
  have HR := Lib.hid hr
  have HNE := Lib.hid hne; clear hne
  have c0 : w.cell? ⟨B, 0, none⟩ = some cv := by rw [cell_of_row _ _ _ _ _ _ hh]; rfl
  have c1 : w.cell? ⟨B, 1, none⟩ = some (.int .i64 n) := by rw [cell_of_row _ _ _ _ _ _ hh]; rfl
  have c2 : w.cell? ⟨B, 2, none⟩ = some (.int .u64 sd) := by rw [cell_of_row _ _ _ _ _ _ hh]; rfl
  have f1 := frozen_of_row w B 1 _ _ hh
  have f2 := frozen_of_row w B 2 _ _ hh
  obtain ⟨p, cap, b, off, rfl, hcap, hp, hcell⟩ := hr.parts
  have HB := Lib.hid hr.2.2
  have hbl := hr.2.1
  clear hr
  have HC := Lib.hid hcell; clear hcell
  have HP := Lib.hid hp; clear hp
  have HH := Lib.hid hh; clear hh
  by_cases hlt : n < bs.length
  · obtain rfl := HP.out (by omega)
    have c3 := HC.out n hlt
    obtain ⟨z1, z2⟩ := HB.out bs[n] (List.getElem_mem hlt)
    go_enter Tryz.func69, Tryz.ntmps69
    go_wp2
    go_quiet (fail)
    go_wp2
    go_quiet (fail)
    go_wp2
    go_quiet (fail)
    go_wp2
    go_ret
    have hs := fun sd' a c => cur_step HH.out hn HR.out HNE.out sd' a c
    obtain ⟨z, hz⟩ := Int.eq_ofNat_of_zero_le z1
    exact ⟨z, by rw [← hz]; rfl, by omega, (hs _ _ _).1, (hs _ _ _).2⟩
  · go_enter Tryz.func69, Tryz.ntmps69
    go_wp2
    go_quiet (fail)
    go_wp2
    go_quiet (fail)
    go_wp2
    go_ret
    have hs := fun sd' a c => cur_step HH.out hn HR.out HNE.out sd' a c
    obtain ⟨y, hy, hy2⟩ := and255w (IntKind.u64.wrap (IntKind.u64.wrap (sd * 6364136223846793005)) + 840840)
    exact ⟨y, ret_int hy, hy2, (hs _ _ _).1, (hs _ _ _).2⟩

def Cr (w : World) (B u : Nat) (P : Nat → Prop) (e : Ending) (w' : World) : Prop := ∃ k : Nat, P k ∧ e = .returned (.int .i64 k) ∧ Cur w' B u ∧ w.grownBy w' (some B)

set_option maxHeartbeats 2000000 in
/-- a number below n -/
theorem pick_any (B u n : Nat) (w : World) (h : Cur w B u) (hu : u ≤ 1000000000000) (h1 : 1 ≤ n) (hn : n ≤ 2147483647) :
    Calls Tryz.prog 51 #[.pointer (some ⟨B, 0, none⟩), .int .i64 n] w (Cr w B (u + 2) (· < n)) := by
  by_cases hn1 : n ≤ 1
  · have H := Lib.hid h; clear h
    go_enter Tryz.func51, Tryz.ntmps51
    go_wp2
    go_ret
    exact ⟨0, by omega, rfl, H.out.mono (by omega), World.grownBy.refl _ _⟩
  · by_cases h200 : n ≤ 200
    · have H := Lib.hid h; clear h
      go_enter Tryz.func51, Tryz.ntmps51
      go_wp2_with fail
      refine (next_any B u w H.out (by omega)).mono ?_
      rintro e w1 ⟨x, rfl, hx, hc, hg⟩
      go_wp2
      go_ret
      exact ⟨x % n, Nat.mod_lt _ (by omega), by simp, hc.mono (by omega), hg⟩
    · have H := Lib.hid h; clear h
      go_enter Tryz.func51, Tryz.ntmps51
      go_wp2_with fail
      refine (next_any B u w H.out (by omega)).mono ?_
      rintro e w1 ⟨x, rfl, hx, hc, hg⟩
      go_wp2_with fail
      refine (next_any B (u + 1) w1 hc (by omega)).mono ?_
      rintro e w2 ⟨y, rfl, hy, hc2, hg2⟩
      go_wp2
      go_ret
      exact ⟨(x * 256 + y) % n, Nat.mod_lt _ (by omega), by simp, hc2, grown_trans hg hg2⟩

def Cb (w : World) (B u : Nat) (e : Ending) (w' : World) : Prop := ∃ b : Bool, e = .returned (.bool b) ∧ Cur w' B u ∧ w.grownBy w' (some B)
theorem one_any (B u n : Nat) (w : World) (h : Cur w B u) (hu : u ≤ 1000000000000) (h1 : 1 ≤ n) (hn : n ≤ 2147483647) :
    Calls Tryz.prog 33 #[.pointer (some ⟨B, 0, none⟩), .int .i64 n] w (Cb w B (u + 2)) := by
  have H := Lib.hid h; clear h
  go_enter Tryz.func33, Tryz.ntmps33
  go_wp2_with fail
  refine (pick_any B u n w H.out hu h1 hn).mono ?_
  rintro e w1 ⟨k, hk, rfl, hc, hg⟩
  go_wp2
  go_ret
  exact ⟨_, rfl, hc, hg⟩

def Ci (w : World) (B u : Nat) (P : Int → Prop) (e : Ending) (w' : World) : Prop := ∃ x : Int, P x ∧ e = .returned (.int .i64 x) ∧ Cur w' B u ∧ w.grownBy w' (some B)
/-- one of some numbers -/
theorem among_any (B u : Nat) (v : Value) (xs : List Int) (w : World) (h : Cur w B u) (hu : u ≤ 1000000000000) (hr : RdI w v xs) (h1 : 1 ≤ xs.length) (hne : v.ownBlock = none ∨ v.ownBlock ≠ some B) :
    Calls Tryz.prog 24 #[.pointer (some ⟨B, 0, none⟩), v] w (Ci w B (u + 2) (· ∈ xs)) := by
  have hlen := hr.2
  have HR := Lib.hid hr
  obtain ⟨p, cap, b, off, rfl, hcap, hp, _⟩ := hr.parts
  obtain rfl := hp (by omega)
  clear hp hr
  have H := Lib.hid h; clear h
  have HN := Lib.hid hne; clear hne
  go_enter Tryz.func24, Tryz.ntmps24
  go_wp2_with fail
  refine (pick_any B u xs.length w H.out hu h1 (by omega)).mono ?_
  rintro e w1 ⟨k, hk, rfl, hc, hg⟩
  obtain ⟨p', cap', b', off', hv, _, hp', hcell⟩ := (RdI.grown HR.out hg HN.out).parts
  have hp' := hp' (by omega)
  simp only [Value.slice.injEq] at hv
  obtain ⟨rfl, _, rfl⟩ := hv
  simp only [Option.some.injEq, Addr.mk.injEq, and_true] at hp'
  obtain ⟨rfl, rfl⟩ := hp'
  have c1 := hcell k hk
  clear hcell
  go_wp2
  go_ret
  exact ⟨xs[k], List.getElem_mem hk, rfl, hc, hg⟩
/-- a new reader over bytes -/
theorem cur_new (w : World) (v : Value) (bs : List Int) (h : RdY w v bs) :
    Cur (w.alloc (.cells #[v, .int .i64 0, .int .u64 0] 51)) w.heap.size 0 := by
  exact ⟨v, bs, 0, 0, heap_alloc_new w _, Nat.le_refl _, h.below (below_alloc1 _ _), fun hn k hk => h.1.lt (by omega) hn k hk⟩
/-- a cell of a block that was made behind the reader may change -/
theorem Cur.set {w : World} {B u g : Nat} (h : Cur w B u) (hg : B < g) (i : Nat) (v : Value) : Cur (w.setCell ⟨g, i, none⟩ v) B u := by
  obtain ⟨cv, bs, n, sd, hh, hn, hr, hne⟩ := h
  refine ⟨cv, bs, n, sd, ?_, hn, hr.grown (row := some g) ⟨rfl, rfl, rfl, by simp, fun k _ hk => heap_setCell_other _ ⟨g, i, none⟩ k _ (fun e => hk (by rw [e]))⟩ (ne_row hne (by omega)), hne⟩
  exact (heap_setCell_other _ ⟨g, i, none⟩ B _ (by simp; omega)).trans hh

/-- a part of a literal slice of integers that has just been laid -/
theorem lit_rd (w : World) (xs : List Int) (N : Nat) (hN : xs.length = N) (k : Nat) (hk : k ≤ N) (hn : N ≤ 1073741824) :
    RdI (w.alloc (.cells (xs.map (Value.int .i64)).toArray 3)) (.slice (some ⟨w.heap.size, 0, none⟩) k N) (xs.take k) := by
  subst hN
  refine ⟨⟨by simp, some ⟨w.heap.size, 0, none⟩, xs.length, w.heap.size, 0, by rw [List.length_take, Nat.min_eq_left hk], by rw [List.length_take]; omega, (by intro h; cases h), fun _ => ⟨rfl, fun j hj => ?_⟩⟩, by rw [List.length_take]; omega⟩
  rw [List.length_take] at hj
  rw [cell_of_row _ w.heap.size _ _ _ (0, 0) (heap_alloc_new w _)]
  have h1 : j < k := by omega
  have h2 : j < xs.length := by omega
  simp [h1, h2]

/-- one of some numbers that were just laid -/
theorem among_lit (B u : Nat) (xs : List Int) (N : Nat) (w : World) {A : Array Value} {g : Nat} (h : Cur w B u) (hu : u ≤ 1000000000000) (hg : g = w.heap.size) (hA : A = (xs.map (Value.int .i64)).toArray) (hN : xs.length = N) (h1 : 1 ≤ N) (hn : N ≤ 1073741824) :
    Calls Tryz.prog 24 #[.pointer (some ⟨B, 0, none⟩), .slice (some ⟨g, 0, none⟩) N N] (w.alloc (.cells A 3)) fun e w' => ∃ x : Int, e = .returned (.int .i64 x) ∧ Cur w' B (u + 2) ∧ w.grownBy w' (some B) := by
  subst hA hg
  have hr := lit_rd w xs N hN N (Nat.le_refl _) hn
  have hlt := h.lt
  rw [show xs.take N = xs by rw [← hN]; exact List.take_length] at hr
  refine (among_any B u _ xs _ (h.below (below_alloc1 _ _)) hu hr (by omega) (.inr (by simp [Value.ownBlock]; omega))).mono ?_
  rintro e w' ⟨x, _, rfl, hc, hg⟩
  exact ⟨x, rfl, hc, grown_trans (World.grownBy_alloc w _ _) hg⟩

theorem cur_old {w w' : World} {B u : Nat} {o : Obj} (_h : Cur w B u) (hg : (w.alloc o).grownBy w' (some B)) : w.grownBy w' (some B) := grown_trans (World.grownBy_alloc w o _) hg

/-- some number -/
def SomeI (w : World) (e : Ending) (w' : World) : Prop := ∃ x : Int, e = .returned (.int .i64 x) ∧ Below w.heap.size w w'
def SomeII (w : World) (e : Ending) (w' : World) : Prop := ∃ x y : Int, e = .returned (.tuple #[.int .i64 x, .int .i64 y]) ∧ Below w.heap.size w w'

theorem new_grown {w w' : World} {o : Obj} (hg : (w.alloc o).grownBy w' (some w.heap.size)) : Below w.heap.size w w' :=
  below_of_grown (below_alloc1 w o) hg (Nat.le_refl _)

end Go.Proofs.YtohbkohidpgjpaaGreatDoor
