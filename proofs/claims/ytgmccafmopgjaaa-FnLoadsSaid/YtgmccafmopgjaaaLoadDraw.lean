/- Contracts of the reference's drawings of lists of loads: each answers SOME list in new memory, at most 40 long. -/
import Derived.Test.YtgmccafmopgjaaaBuckDraws
import Derived.Test.YtgmccafmopgjaaaLoadA
import Derived.Test.YtgmccafmopgjaaaRate2
import Derived.OwnWalk
namespace Go.Proofs.Ytgmccafmopgjaaa
open Go.RowKit

theorem OwLd.neB {w W : World} {v : Value} {xs : List Ld} {B : Nat} (h : OwLd w.heap.size W v xs) (hB : B < w.heap.size) : v.ownBlock = none ∨ v.ownBlock ≠ some B := by
  cases hv : v.ownBlock with
  | none => exact .inl rfl
  | some k => exact .inr fun e => by have := (h.lt k hv).1; have := Option.some.inj e; omega
theorem Dr.app {w W W' : World} {B u : Nat} {v : Value} {xs : List Ld} (h : Dr w W B u) (ho : OwLd w.heap.size W v xs) (hg : W.grownBy W' v.ownBlock) : Dr w W' B u := by
  have hlt := h.lt
  cases hv : v.ownBlock with
  | none =>
    rw [hv] at hg
    exact ⟨h.cur.below ⟨hg.os, hg.tape, hg.output, hg.size, fun k hk => hg.block k hk (by simp)⟩, grown_trans h.grown ⟨hg.os, hg.tape, hg.output, hg.size, fun k hk _ => hg.block k hk (by simp)⟩, hlt⟩
  | some g =>
    rw [hv] at hg
    have hge := (ho.lt g hv).1
    refine ⟨?_, ⟨hg.os.trans h.grown.os, hg.tape.trans h.grown.tape, hg.output.trans h.grown.output, Nat.le_trans h.size hg.size, fun k hk hne => (hg.block k (by have := h.size; omega) (by simp; omega)).trans (h.grown.block k hk hne)⟩, hlt⟩
    obtain ⟨cv, bs, n, sd, hh, hn, hr, hne⟩ := h.cur
    exact ⟨cv, bs, n, sd, (hg.block B (by have := h.size; omega) (by simp; omega)).trans hh, hn, hr.grown hg (ne_row hne (by omega)), hne⟩
theorem flat_snoc (xs : List Ld) (x : Ld) : (xs ++ [x]).flatMap Ld.cells = xs.flatMap Ld.cells ++ x.cells := by rw [List.flatMap_append]; simp
def slLen : Value → Nat
  | .slice _ n _ => n
  | _ => 0
theorem least_ex (a b : Int) (w : World) : Calls Try.prog 76 #[.int .i64 a, .int .i64 b] w fun e w' => (∃ y : Int, e = .returned (.int .i64 y)) ∧ w = w' := (l1Least_any a b w).mono fun _ _ ⟨h, hw⟩ => ⟨⟨_, h⟩, hw⟩
theorem most_ex (a b : Int) (w : World) : Calls Try.prog 62 #[.int .i64 a, .int .i64 b] w fun e w' => (∃ y : Int, e = .returned (.int .i64 y)) ∧ w = w' := (l1Most_any a b w).mono fun _ _ ⟨h, hw⟩ => ⟨⟨_, h⟩, hw⟩

set_option maxRecDepth 100000 in
set_option maxHeartbeats 8000000 in
theorem loads_any (B u : Nat) (f : Int) (w : World) (h : Cur w B u) (hu : u ≤ 100000) :
    Calls Try.prog 66 #[.pointer (some ⟨B, 0, none⟩), .int .i64 f] w fun e w' => ∃ v xs, e = .returned v ∧ OwLd w.heap.size w' v xs ∧ xs.length ≤ 40 ∧ Dr w w' B (u + 1000) := by
  obtain ⟨i0, hi, hz0, hz1, hz2⟩ := info_parts infoLd
  have hlt := h.lt
  have D0 := Lib.hid (Dr.start h); clear h
  have O0 : Hid (OwLd w.heap.size (w.alloc (.cells #[] 51)) (.slice (some ⟨w.heap.size, 0, none⟩) 0 0) []) := Lib.hid ⟨World.ownsRow_lit w #[] 0 (Nat.le_refl _) (Nat.zero_le _) rfl, Nat.zero_le _⟩
  go_enter Try.func66, Try.ntmps66
  go_wp2_with fail
  refine (pick_any B u 8 _ (D0.out.alloc _).cur (by omega) (by omega) (by omega)).mono ?_
  rintro e w3 ⟨k3, hk3, rfl, hc3, hg3⟩
  have D3 := Lib.hid ((D0.out.alloc _).call hc3 hg3)
  have O3 := Lib.hid (O0.out.grown hg3 (O0.out.neB hlt))
  clear hc3 hg3 D0 O0
  go_wp2
  go_loopw [1, 5, 6] (fun fr v i wr => ∃ (xs : List Ld) (ff : Int) (j : Nat), fr = .int .i64 ff ∧ i = .int .i64 j ∧ xs.length + j ≤ 7 ∧ OwLd w.heap.size wr v xs ∧ Dr w wr B (u + 2 + (7 - j) * 30)) (fun _ _ i _ => (intOf i).toNat)
  case atStart => exact ⟨[], f, k3, rfl, rfl, by simp; omega, O3.out, D3.out.mono (by omega)⟩
  case round =>
    clear D3 O3
    obtain ⟨xs, ff, j, rfl, rfl, hj, hO, hD⟩ := hrel
    have zr := hD.size
    by_cases hj0 : 0 < j
    · obtain ⟨j', rfl⟩ : ∃ j', j = j' + 1 := ⟨j - 1, by omega⟩
      have OO := Lib.hid hO; clear hO
      have DD := Lib.hid hD; clear hD
      go_wp2_with fail
      refine (load_any B _ ff wr DD.out.cur (by omega)).mono ?_
      rintro e W1 ⟨⟨xt, xz⟩, rfl, d1⟩
      have D1 := Lib.hid (DD.out.call d1.cur d1.grown)
      have O1 := Lib.hid (OO.out.grown d1.grown (OO.out.neB hlt))
      clear d1 DD OO
      have z1 := D1.out.size
      go_wp2_with (first | (at_builtin; go_loud (refine wpList_append_own _ rfl _ _ 46 rfl w.heap.size 51 i0 (.agg #[.int .i64 0, .int .i64 0]) 2 16 Try.underlying46 hi hz0 hz1 hz2 rfl (by decide) _ _ _ rfl (((O1.out.below (below_alloc1 _ (.cells #[.int .i64 xt, .int .i64 xz] 51)))).1.alloc _) ⟨W1.heap.size + 1, 0, none⟩ 1 1 [.int .i64 xt, .int .i64 xz] rfl rfl ?c15 ?c25 ?c35 ?c45 ?c55 ?_)))
      try (case c15 => first | exact cells_at _ #[_, _] _ (by simp) | rfl)
      try (case c25 => first | rfl | (intro u hu; simp at hu; rcases hu with rfl | rfl <;> rfl) | simp)
      try (case c35 => first | omega | (unfold maxLen; omega))
      try (case c45 => first | omega | ((try simp only [World.heap_size_alloc]); omega))
      try (case c55 => first | omega | (simp; omega))
      intro v5 w5 hown5 hgrow5
      try intro _
      have D5 := Lib.hid (Dr.app ((D1.out.alloc (.cells #[.int .i64 xt, .int .i64 xz] 51)).alloc (.cells #[.int .i64 xt, .int .i64 xz] 51)) ((O1.out.below (below_alloc1 _ _)).below (below_alloc1 _ _)) hgrow5)
      have O5 : Hid (OwLd w.heap.size w5 v5 (xs ++ [⟨xt, xz⟩])) := Lib.hid ⟨by rw [flat_snoc, List.length_append]; exact hown5, by simp; omega⟩
      have T5 := Lib.hid ((hgrow5.block W1.heap.size (by simp; omega) (fun e => by have := (O1.out.lt _ e.symm).2; omega)).trans (heap_alloc2_old W1 (.cells #[.int .i64 xt, .int .i64 xz] 51) (.cells #[.int .i64 xt, .int .i64 xz] 51)))
      clear hown5 hgrow5 O1 D1
      have z5 := D5.out.size
      have th := T5.out; have t0 := cell_of_row w5 (W1.heap.size) 0 _ _ _ th; simp at t0; have tf0 := frozen_of_row w5 (W1.heap.size) 0 _ _ th; have t1 := cell_of_row w5 (W1.heap.size) 1 _ _ _ th; simp at t1; have tf1 := frozen_of_row w5 (W1.heap.size) 1 _ _ th; clear th
      go_wp2
      go_roundw
      case rel => exact ⟨_, xt, j', rfl, by go_num, by simp; omega, O5.out, D5.out.mono (by omega)⟩
      case measure => (simp [intOf]; try omega)
    · have OO := Lib.hid hO; clear hO
      have DD := Lib.hid hD; clear hD
      go_wp2_with fail
      refine (one_any B _ 24 _ DD.out.cur (by omega) (by omega) (by omega)).mono ?_
      rintro e W2 ⟨b, rfl, hc2, hg2⟩
      have D2 := Lib.hid (DD.out.call hc2 hg2)
      have O2 := Lib.hid (OO.out.grown hg2 (OO.out.neB hlt))
      clear hc2 hg2 DD OO
      cases b
      · go_wp2
        refine bodyPost_ret (v := u5) (by simp [results, Try.results66, go_sem, *]) rfl ?_
        exact ⟨_, _, rfl, O2.out, by omega, D2.out.mono (by omega)⟩
      · go_wp2
        go_loopw [5] (fun v wr => ∃ ys : List Ld, ys.length ≤ 32 ∧ OwLd w.heap.size wr v ys ∧ Dr w wr B (u + 300 + ys.length * 3)) (fun v _ => 40 - slLen v)
        case atStart => exact ⟨xs, by omega, O2.out, D2.out.mono (by omega)⟩
        case round =>
          clear D2 O2
          rename_i wq
          obtain ⟨ys, hl, hO, hD⟩ := hrel
          obtain ⟨p1, cap1, g1, rfl, hcap1, hp1⟩ := own_shape hO.1
          clear hp1
          have OO := Lib.hid hO; clear hO
          have DD := Lib.hid hD; clear hD
          go_wp2_with fail
          refine (pick_any B _ 2 _ DD.out.cur (by omega) (by omega) (by omega)).mono ?_
          rintro e W3 ⟨k6, hk6, rfl, hc3, hg3⟩
          have D3 := Lib.hid (DD.out.call hc3 hg3)
          have O3 := Lib.hid (OO.out.grown hg3 (OO.out.neB hlt))
          clear hc3 hg3 OO DD
          have z3 := D3.out.size
          by_cases hlt2 : (ys.length : Int) < 20 + (k6 : Int)
          · go_wp2_with fail
            refine (most_ex _ _ _).mono ?_
            rintro e w' ⟨⟨y1, rfl⟩, rfl⟩
            go_wp2_with fail
            refine (least_ex _ _ _).mono ?_
            rintro e w' ⟨⟨y2, rfl⟩, rfl⟩
            go_wp2_with (first | (at_builtin; go_loud (refine wpList_append_own _ rfl _ _ 46 rfl w.heap.size 51 i0 (.agg #[.int .i64 0, .int .i64 0]) 2 16 Try.underlying46 hi hz0 hz1 hz2 rfl (by decide) _ _ _ rfl ((O3.out).1.alloc _) ⟨W3.heap.size, 0, none⟩ 1 1 [.int .i64 y2, .int .i64 1] rfl rfl ?c19 ?c29 ?c39 ?c49 ?c59 ?_)))
            try (case c19 => first | exact cells_at _ #[_, _] _ (by simp) | rfl)
            try (case c29 => first | rfl | (intro u hu; simp at hu; rcases hu with rfl | rfl <;> rfl) | simp)
            try (case c39 => first | omega | (unfold maxLen; omega))
            try (case c49 => first | omega | ((try simp only [World.heap_size_alloc]); omega))
            try (case c59 => first | omega | (simp; omega))
            intro v9 w9 hown9 hgrow9
            try intro _
            have D9 := Lib.hid (Dr.app (D3.out.alloc (.cells #[.int .i64 y2, .int .i64 1] 51)) (O3.out.below (below_alloc1 _ _)) hgrow9)
            have O9 : Hid (OwLd w.heap.size w9 v9 (ys ++ [⟨y2, 1⟩])) := Lib.hid ⟨by rw [flat_snoc, List.length_append]; exact hown9, by simp; omega⟩
            obtain ⟨p9, cap9, g9, rfl, _, _⟩ := own_shape O9.out.1
            clear hown9 hgrow9
            go_wp2
            go_roundw
            case rel => exact ⟨ys ++ [⟨y2, 1⟩], by simp; omega, O9.out, D9.out.mono (by simp; omega)⟩
            case measure => (simp [slLen]; try omega)
          · go_wp2
            refine bodyPost_ret (v := (.slice p1 ys.length cap1)) (by simp [results, Try.results66, go_sem, *]) rfl ?_
            exact ⟨_, _, rfl, O3.out, by omega, D3.out.mono (by omega)⟩
end Go.Proofs.Ytgmccafmopgjaaa
