/- Contract: the library's swapRangeCmpFunc on events, two parts of equal length apart, for all of at most 1000 events. -/
import Derived.Test.YtohbkohidpgjpaaGreatDoorEvCmp
import Derived.Test.YtohbkohidpgjpaaGreatDoorSwMath
import Derived.BigRegion
namespace Go.Proofs.YtohbkohidpgjpaaGreatDoor
open Go.RowKit

set_option maxRecDepth 100000 in
set_option maxHeartbeats 4000000 in
theorem swapR_any (g n cap B : Nat) (X p Y q Z : List Ev) (a b m : Nat) (w : World) (f : Value) (hO : Arr B w g n cap (X ++ (p ++ (Y ++ (q ++ Z))))) (ha : X.length = a) (hb : a + m + Y.length = b) (hm : p.length = m) (hq : q.length = m) (hn : n ≤ 1000) (hBw : B ≤ w.heap.size) :
    Calls Tryz.prog 104 #[.slice (some ⟨g, 0, none⟩) n cap, .int .i64 a, .int .i64 b, .int .i64 m, f] w fun e w' => e = .returned (.tuple #[]) ∧ Arr B w' g n cap (X ++ (q ++ (Y ++ (p ++ Z)))) ∧ Below B w w' := by
  have hlen := hO.2
  simp only [List.length_append] at hlen
  have hge := hO.ge
  have hcap := hO.le
  rw [← swr_zero] at hO
  have HO := Lib.hid hO; clear hO
  have HSt := Lib.hid (fun i (x y : Ev) hx hy => swr_at (X := X) (p := p) (Y := Y) (q := q) (Z := Z) (i := i) (x := x) (y := y) (hm.trans hq.symm) hx hy)
  have HEnd := Lib.hid (swr_full X p Y q Z (hm.trans hq.symm))
  rw [ha, hm, hb] at HSt
  rw [hm] at HEnd
  have hbm : b + m ≤ n := by omega
  have ham : a + m ≤ b := by omega
  have HX := Lib.hid (And.intro hm hq)
  clear ha hb hlen hm hq
  go_enter Tryz.func104, Tryz.ntmps104
  go_wp2
  go_loopw [10] (fun i wr => ∃ k : Nat, k ≤ m ∧ i = .int .i64 k ∧ Hid (Arr B wr g n cap (swr X p Y q Z k)) ∧ Hid (Below B w wr)) (fun i _ => m - (intOf i).toNat)
  case atStart => exact ⟨0, Nat.zero_le _, rfl, HO.out, Lib.hid (Below.refl _ _)⟩
  case round =>
    clear HO
    obtain ⟨k, hk, rfl, HOk, HGk⟩ := hrel
    by_cases hlt : k < m
    · obtain ⟨⟨xt, xn, xk, xm⟩, hx⟩ : ∃ x, p[k]? = some x := ⟨_, List.getElem?_eq_getElem (by have := HX.out.1; omega)⟩
      obtain ⟨⟨yt, yn, yk, ym⟩, hy⟩ : ∃ y, q[k]? = some y := ⟨_, List.getElem?_eq_getElem (by have := HX.out; omega)⟩
      obtain ⟨e1, e2, e3⟩ := HSt.out k _ _ hx hy
      clear hx hy
      obtain ⟨c0, c1, c2, c3⟩ := HOk.out.cells e1
      obtain ⟨c4, c5, c6, c7⟩ := HOk.out.cells e2
      have hs := HOk.out.set (k := a + k) ⟨yt, yn, yk, ym⟩ (by omega)
      have f0 := HOk.out.frozen ((a + k) * 4)
      have f1 := HOk.out.frozen ((a + k) * 4 + 1)
      have f2 := HOk.out.frozen ((a + k) * 4 + 2)
      have f3 := HOk.out.frozen ((a + k) * 4 + 3)
      have hs2 := hs.1.set (k := b + k) ⟨xt, xn, xk, xm⟩ (by omega)
      obtain ⟨d0, d1, d2, d3⟩ := hs.1.cells (k := b + k) (x := ⟨yt, yn, yk, ym⟩) (by rw [List.getElem?_set_ne (by omega)]; exact e2)
      have h0 := hs.1.frozen ((b + k) * 4)
      have h1 := hs.1.frozen ((b + k) * 4 + 1)
      have h2 := hs.1.frozen ((b + k) * 4 + 2)
      have h3 := hs.1.frozen ((b + k) * 4 + 3)
      rw [e3] at hs2
      have HS2 := Lib.hid hs2; clear hs2
      have HS1 := Lib.hid hs; clear hs
      simp only [set4] at d0 d1 d2 d3 h0 h1 h2 h3 HS1 HS2
      clear e1 e2 e3
      go_wp2
      go_region
      go_wp2
      go_roundw
      case rel => exact ⟨k + 1, by omega, by go_num, Lib.hid (HS2.out.1.below (Below.refl _ _).drew), Lib.hid ((HGk.out.grown (grown_trans HS1.out.2 HS2.out.2) (Nat.le_trans hBw HGk.out.size) (fun j hj => by cases hj; exact hge)).drew)⟩
      case measure => simp [intOf]; omega
    · obtain rfl : k = m := by omega
      rw [HEnd.out] at HOk
      go_wp2
      go_end0
      exact ⟨rfl, HOk.out, HGk.out⟩
end Go.Proofs.YtohbkohidpgjpaaGreatDoor
