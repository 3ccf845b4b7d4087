/- Contracts of the reference's drawings for the law on random lists: each answers SOME numbers and lists (nothing more is needed), reading at most 65536 bytes. -/
import Derived.Test.YtbkkggbpekhenaaDrawsOf20
import Derived.Test.YtbkkggbpekhenaaDrawKit
namespace Go.Proofs.Ytbkkggbpekhenaa
open Go.RowKit

theorem new_dr {w w' : World} {o : Obj} {u : Nat} (h : Dr (w.alloc o) w' w.heap.size u) : Below w.heap.size w w' := new_grown h.grown
theorem OwI.neB {w W : World} {v : Value} {xs : List Int} {B : Nat} (h : OwI w.heap.size W v xs) (hB : B < w.heap.size) : v.ownBlock = none ∨ v.ownBlock ≠ some B := by
  cases hv : v.ownBlock with
  | none => exact .inl rfl
  | some k => exact .inr fun e => by have := (h.lt k hv).1; have := Option.some.inj e; omega
theorem Dr.appI {w W W' : World} {B u : Nat} {v : Value} {xs : List Int} (h : Dr w W B u) (ho : OwI w.heap.size W v xs) (hg : W.grownBy W' v.ownBlock) : Dr w W' B u := by
  have hlt := h.lt
  cases hv : v.ownBlock with
  | none =>
    rw [hv] at hg
    exact ⟨h.cur.below ⟨hg.os, hg.tape, hg.output, hg.size, fun k hk => hg.block k hk (by simp)⟩, grown_trans h.grown ⟨hg.os, hg.tape, hg.output, hg.size, fun k hk _ => hg.block k hk (by simp)⟩, hlt⟩
  | some g =>
    rw [hv] at hg
    have hge := (ho.lt g hv).1
    refine ⟨?_, ⟨hg.os.trans h.grown.os, hg.tape.trans h.grown.tape, hg.output.trans h.grown.output, Nat.le_trans h.size hg.size, fun k hk hne => (hg.block k (by have := h.size; omega) (by simp; omega)).trans (h.grown.block k hk hne)⟩, hlt⟩
    obtain ⟨cv, bs, n, sd, hh, hn, hr, hne⟩ := h.cur
    exact ⟨cv, bs, n, sd, (hg.block B (by have := h.size; omega) (by simp; omega)).trans hh, hn, hr.grown hg (ne_row hne (by omega)), hne⟩
/-- the memory behind a drawing that laid its reader first -/
def Dn (w W : World) (u : Nat) : Prop := ∃ o, Dr (w.alloc o) W w.heap.size u
theorem Dn.cur {w W : World} {u : Nat} (h : Dn w W u) : Cur W w.heap.size u := h.elim fun _ h => h.cur
theorem Dn.call {w W W' : World} {u u' : Nat} (h : Dn w W u) (hc : Cur W' w.heap.size u') (hg : W.grownBy W' (some w.heap.size)) : Dn w W' u' := h.elim fun o h => ⟨o, h.call hc hg⟩
theorem Dn.alloc {w W : World} {u : Nat} (h : Dn w W u) (x : Obj) : Dn w (W.alloc x) u := h.elim fun o h => ⟨o, h.alloc x⟩
theorem Dn.mono {w W : World} {u u' : Nat} (h : Dn w W u) (hu : u ≤ u') : Dn w W u' := h.elim fun o h => ⟨o, h.mono hu⟩
theorem Dn.size {w W : World} {u : Nat} (h : Dn w W u) : w.heap.size + 1 ≤ W.heap.size := by
  obtain ⟨o, h⟩ := h
  simpa using h.size
theorem Dn.below {w W : World} {u : Nat} (h : Dn w W u) : Below w.heap.size w W := h.elim fun _ h => new_dr h
theorem OwI.neC {C B : Nat} {W : World} {v : Value} {xs : List Int} (h : OwI C W v xs) (hB : B < C) : v.ownBlock = none ∨ v.ownBlock ≠ some B := by
  cases hv : v.ownBlock with
  | none => exact .inl rfl
  | some k => exact .inr fun e => by have := (h.lt k hv).1; have := Option.some.inj e; omega
theorem Dn.appI {w W W' : World} {u : Nat} {v : Value} {xs : List Int} (h : Dn w W u) (ho : OwI (w.heap.size + 1) W v xs) (hg : W.grownBy W' v.ownBlock) : Dn w W' u := by
  obtain ⟨o, h⟩ := h
  exact ⟨o, h.appI (by simpa using ho) hg⟩
def slLenI : Value → Nat
  | .slice _ n _ => n
  | _ => 0
def SomeIL (w : World) (e : Ending) (w' : World) : Prop := ∃ (x : Int) (v : Value) (xs : List Int), e = .returned (.tuple #[.int .i64 x, v]) ∧ OwI w.heap.size w' v xs ∧ xs.length ≤ 60 ∧ Below w.heap.size w w'
def SomeIII (w : World) (e : Ending) (w' : World) : Prop := ∃ a b c : Int, e = .returned (.tuple #[.int .i64 a, .int .i64 b, .int .i64 c]) ∧ Below w.heap.size w w'
def SomeIIII (w : World) (e : Ending) (w' : World) : Prop := ∃ a b c d : Int, e = .returned (.tuple #[.int .i64 a, .int .i64 b, .int .i64 c, .int .i64 d]) ∧ Below w.heap.size w w'
def litCnt : List Int := [0, 1, 3, 10, 50, -1, 51]
def litFrom : List Int := [0, 5, 1000000, -1, 1000001]
def litMany : List Int := [0, 1, 7, 50, -1, 51]
def litSpan : List Int := [1, 2, 10, 1000, 0, 1001]
def litFate : List Int := [0, 1, 8, 40, -1, 41]
def litPer : List Int := [0, 1, 30, 99, 100, -1, 101]
set_option maxRecDepth 100000 in
set_option maxHeartbeats 4000000 in
theorem drawRolls_any (v : Value) (bs : List Int) (w : World) (h : RdY w v bs) :
    Calls Try.prog 15 #[v] w (SomeIII w) := by
  obtain ⟨p, cap, b, off, rfl, _, _, _⟩ := h.parts
  have HC := Lib.hid (cur_new w _ bs h); clear h
  go_enter Try.func15, Try.ntmps15
  go_wp2_with fail
  refine (state20_any w.heap.size 0 _ HC.out (by omega)).mono ?_
  rintro e w1 ⟨x, _, rfl, hc, hg⟩
  have D0 := Lib.hid (Dr.call (Dr.start HC.out) hc hg)
  clear hc hg HC
  go_wp2_with fail
  refine (below20_any w.heap.size _ _ D0.out.cur (by omega)).mono ?_
  rintro e w2 ⟨n, _, rfl, hc2, hg2⟩
  have D1 := Lib.hid (D0.out.call hc2 hg2)
  clear hc2 hg2 D0
  go_wp2_with fail
  refine (pick_any w.heap.size _ 24 _ (D1.out.alloc _).cur (by omega) (by omega) (by omega)).mono ?_
  rintro e wp2 ⟨kp2, hkp2, rfl, hcp2, hgp2⟩
  have zp2 := D1.out.size
  have HRp2 := Lib.hid ((lit_rd w2 litCnt 7 rfl (5 + kp2 / 11) (by omega) (by omega)).grown hgp2 (.inr (by simp [Value.ownBlock]; simp at zp2; omega)))
  have Dp2 := Lib.hid ((D1.out.alloc _).call hcp2 hgp2)
  clear hcp2 hgp2 D1
  go_wp2_with fail
  refine (among_any w.heap.size _ _ (litCnt.take (5 + kp2 / 11)) _ Dp2.out.cur (by omega) HRp2.out (by simp [litCnt]; omega) (.inr (by simp [Value.ownBlock]; simp at zp2; omega))).mono ?_
  rintro e wq2 ⟨c, _, rfl, hcq2, hgq2⟩
  have D2 := Lib.hid (Dp2.out.call hcq2 hgq2)
  clear hcq2 hgq2 Dp2 HRp2 zp2
  go_wp2
  refine bodyPost_ret (v := (.tuple #[.int .i64 x, .int .i64 n, .int .i64 c])) (by simp [results, Try.results15, go_sem, *]) rfl ?_
  exact ⟨x, n, c, rfl, new_dr D2.out⟩
set_option maxRecDepth 100000 in
set_option maxHeartbeats 4000000 in
theorem drawSpread_any (v : Value) (bs : List Int) (w : World) (h : RdY w v bs) :
    Calls Try.prog 19 #[v] w (SomeIIII w) := by
  obtain ⟨p, cap, b, off, rfl, _, _, _⟩ := h.parts
  have HC := Lib.hid (cur_new w _ bs h); clear h
  go_enter Try.func19, Try.ntmps19
  go_wp2_with fail
  refine (state20_any w.heap.size 0 _ HC.out (by omega)).mono ?_
  rintro e w1 ⟨x, _, rfl, hc, hg⟩
  have D0 := Lib.hid (Dr.call (Dr.start HC.out) hc hg)
  clear hc hg HC
  go_wp2_with fail
  refine (pick_any w.heap.size _ 24 _ (D0.out.alloc _).cur (by omega) (by omega) (by omega)).mono ?_
  rintro e wp1 ⟨kp1, hkp1, rfl, hcp1, hgp1⟩
  have zp1 := D0.out.size
  have HRp1 := Lib.hid ((lit_rd w1 litFrom 5 rfl (3 + kp1 / 11) (by omega) (by omega)).grown hgp1 (.inr (by simp [Value.ownBlock]; simp at zp1; omega)))
  have Dp1 := Lib.hid ((D0.out.alloc _).call hcp1 hgp1)
  clear hcp1 hgp1 D0
  go_wp2_with fail
  refine (among_any w.heap.size _ _ (litFrom.take (3 + kp1 / 11)) _ Dp1.out.cur (by omega) HRp1.out (by simp [litFrom]; omega) (.inr (by simp [Value.ownBlock]; simp at zp1; omega))).mono ?_
  rintro e wq1 ⟨f, _, rfl, hcq1, hgq1⟩
  have D1 := Lib.hid (Dp1.out.call hcq1 hgq1)
  clear hcq1 hgq1 Dp1 HRp1 zp1
  go_wp2_with fail
  refine (pick_any w.heap.size _ 24 _ (D1.out.alloc _).cur (by omega) (by omega) (by omega)).mono ?_
  rintro e wp2 ⟨kp2, hkp2, rfl, hcp2, hgp2⟩
  have zp2 := D1.out.size
  have HRp2 := Lib.hid ((lit_rd wq1 litMany 6 rfl (4 + kp2 / 11) (by omega) (by omega)).grown hgp2 (.inr (by simp [Value.ownBlock]; simp at zp2; omega)))
  have Dp2 := Lib.hid ((D1.out.alloc _).call hcp2 hgp2)
  clear hcp2 hgp2 D1
  go_wp2_with fail
  refine (among_any w.heap.size _ _ (litMany.take (4 + kp2 / 11)) _ Dp2.out.cur (by omega) HRp2.out (by simp [litMany]; omega) (.inr (by simp [Value.ownBlock]; simp at zp2; omega))).mono ?_
  rintro e wq2 ⟨c, _, rfl, hcq2, hgq2⟩
  have D2 := Lib.hid (Dp2.out.call hcq2 hgq2)
  clear hcq2 hgq2 Dp2 HRp2 zp2
  go_wp2_with fail
  refine (pick_any w.heap.size _ 24 _ (D2.out.alloc _).cur (by omega) (by omega) (by omega)).mono ?_
  rintro e wp3 ⟨kp3, hkp3, rfl, hcp3, hgp3⟩
  have zp3 := D2.out.size
  have HRp3 := Lib.hid ((lit_rd wq2 litSpan 6 rfl (4 + kp3 / 11) (by omega) (by omega)).grown hgp3 (.inr (by simp [Value.ownBlock]; simp at zp3; omega)))
  have Dp3 := Lib.hid ((D2.out.alloc _).call hcp3 hgp3)
  clear hcp3 hgp3 D2
  go_wp2_with fail
  refine (among_any w.heap.size _ _ (litSpan.take (4 + kp3 / 11)) _ Dp3.out.cur (by omega) HRp3.out (by simp [litSpan]; omega) (.inr (by simp [Value.ownBlock]; simp at zp3; omega))).mono ?_
  rintro e wq3 ⟨s, _, rfl, hcq3, hgq3⟩
  have D3 := Lib.hid (Dp3.out.call hcq3 hgq3)
  clear hcq3 hgq3 Dp3 HRp3 zp3
  go_wp2
  refine bodyPost_ret (v := (.tuple #[.int .i64 x, .int .i64 f, .int .i64 c, .int .i64 s])) (by simp [results, Try.results19, go_sem, *]) rfl ?_
  exact ⟨x, f, c, s, rfl, new_dr D3.out⟩
set_option maxRecDepth 100000 in
set_option maxHeartbeats 4000000 in
theorem drawFates_any (v : Value) (bs : List Int) (w : World) (h : RdY w v bs) :
    Calls Try.prog 23 #[v] w (SomeIII w) := by
  obtain ⟨p, cap, b, off, rfl, _, _, _⟩ := h.parts
  have HC := Lib.hid (cur_new w _ bs h); clear h
  go_enter Try.func23, Try.ntmps23
  go_wp2_with fail
  refine (state20_any w.heap.size 0 _ HC.out (by omega)).mono ?_
  rintro e w1 ⟨x, _, rfl, hc, hg⟩
  have D0 := Lib.hid (Dr.call (Dr.start HC.out) hc hg)
  clear hc hg HC
  go_wp2_with fail
  refine (pick_any w.heap.size _ 24 _ (D0.out.alloc _).cur (by omega) (by omega) (by omega)).mono ?_
  rintro e wp1 ⟨kp1, hkp1, rfl, hcp1, hgp1⟩
  have zp1 := D0.out.size
  have HRp1 := Lib.hid ((lit_rd w1 litFate 6 rfl (4 + kp1 / 11) (by omega) (by omega)).grown hgp1 (.inr (by simp [Value.ownBlock]; simp at zp1; omega)))
  have Dp1 := Lib.hid ((D0.out.alloc _).call hcp1 hgp1)
  clear hcp1 hgp1 D0
  go_wp2_with fail
  refine (among_any w.heap.size _ _ (litFate.take (4 + kp1 / 11)) _ Dp1.out.cur (by omega) HRp1.out (by simp [litFate]; omega) (.inr (by simp [Value.ownBlock]; simp at zp1; omega))).mono ?_
  rintro e wq1 ⟨f, _, rfl, hcq1, hgq1⟩
  have D1 := Lib.hid (Dp1.out.call hcq1 hgq1)
  clear hcq1 hgq1 Dp1 HRp1 zp1
  go_wp2_with fail
  refine (pick_any w.heap.size _ 24 _ (D1.out.alloc _).cur (by omega) (by omega) (by omega)).mono ?_
  rintro e wp2 ⟨kp2, hkp2, rfl, hcp2, hgp2⟩
  have zp2 := D1.out.size
  have HRp2 := Lib.hid ((lit_rd wq1 litPer 7 rfl (5 + kp2 / 11) (by omega) (by omega)).grown hgp2 (.inr (by simp [Value.ownBlock]; simp at zp2; omega)))
  have Dp2 := Lib.hid ((D1.out.alloc _).call hcp2 hgp2)
  clear hcp2 hgp2 D1
  go_wp2_with fail
  refine (among_any w.heap.size _ _ (litPer.take (5 + kp2 / 11)) _ Dp2.out.cur (by omega) HRp2.out (by simp [litPer]; omega) (.inr (by simp [Value.ownBlock]; simp at zp2; omega))).mono ?_
  rintro e wq2 ⟨c, _, rfl, hcq2, hgq2⟩
  have D2 := Lib.hid (Dp2.out.call hcq2 hgq2)
  clear hcq2 hgq2 Dp2 HRp2 zp2
  go_wp2
  refine bodyPost_ret (v := (.tuple #[.int .i64 x, .int .i64 f, .int .i64 c])) (by simp [results, Try.results23, go_sem, *]) rfl ?_
  exact ⟨x, f, c, rfl, new_dr D2.out⟩
set_option maxRecDepth 100000 in
set_option maxHeartbeats 4000000 in
theorem drawShuffle_any (v : Value) (bs : List Int) (w : World) (h : RdY w v bs) :
    Calls Try.prog 11 #[v] w (SomeIL w) := by
  obtain ⟨i0, hi, hz0, hz1, hz2⟩ := info_parts infoInt
  obtain ⟨p, cap, b, off, rfl, _, _, _⟩ := h.parts
  have HC := Lib.hid (cur_new w _ bs h); clear h
  go_enter Try.func11, Try.ntmps11
  go_wp2_with fail
  refine (state20_any w.heap.size 0 _ HC.out (by omega)).mono ?_
  rintro e w1 ⟨x, _, rfl, hc, hg⟩
  have D0 : Hid (Dn w w1 8) := Lib.hid ⟨_, Dr.call (Dr.start HC.out) hc hg⟩
  clear hc hg HC
  have z0 := D0.out.size
  have O0 : Hid (OwI (w.heap.size + 1) (w1.alloc (.cells #[] 3)) (.slice (some ⟨w1.heap.size, 0, none⟩) 0 0) []) := Lib.hid ⟨World.ownsRow_lit w1 #[] 0 z0 (Nat.zero_le _) rfl, Nat.zero_le _⟩
  go_wp2_with fail
  refine (pick_any w.heap.size _ 9 _ (D0.out.alloc _).cur (by omega) (by omega) (by omega)).mono ?_
  rintro e w2 ⟨k1, hk1, rfl, hc1, hg1⟩
  have D1 := Lib.hid ((D0.out.alloc _).call hc1 hg1)
  have O1 := Lib.hid (O0.out.grown hg1 (O0.out.neC (Nat.lt_succ_self _)))
  clear hc1 hg1 D0 O0
  go_wp2
  go_loopw [6, 7] (fun v i wr => ∃ (xs : List Int) (j : Nat), i = .int .i64 j ∧ xs.length + j ≤ 9 ∧ Hid (OwI (w.heap.size + 1) wr v xs) ∧ Hid (Dn w wr (10 + (9 - j) * 2))) (fun _ i _ => (intOf i).toNat)
  case atStart => exact ⟨[], k1, rfl, by simp; omega, O1, Lib.hid (D1.out.mono (by omega))⟩
  case round =>
    clear D1 O1
    obtain ⟨xs, j, rfl, hj, OO, DD⟩ := hrel
    have zr := DD.out.size
    by_cases hj0 : 0 < j
    · obtain ⟨j', rfl⟩ : ∃ j', j = j' + 1 := ⟨j - 1, by omega⟩
      go_wp2_with fail
      refine (among_lit w.heap.size _ [0, 1, 2, -7, 100] 5 _ DD.out.cur (by omega) (by simp) rfl rfl (by omega) (by omega)).mono ?_
      rintro e W1 ⟨y, rfl, hc1, hg1⟩
      have D1 := Lib.hid (DD.out.call hc1 hg1)
      have O1 := Lib.hid (OO.out.grown hg1 (OO.out.neC (Nat.lt_succ_self _)))
      clear hc1 hg1 DD OO
      have z1 := D1.out.size
      go_wp2_with (first | (at_builtin; go_loud (refine wpList_append_own _ rfl _ _ 22 rfl (w.heap.size + 1) 3 i0 (.int .i64 0) 1 8 Try.underlying22 hi hz0 hz1 hz2 rfl (by decide) _ _ _ rfl (O1.out.1.alloc _) ⟨W1.heap.size, 0, none⟩ 1 1 [.int .i64 y] rfl rfl ?c1A ?c2A ?c3A ?c4A ?c5A ?_)))
      try (case c1A => first | exact cells_new _ #[.int .i64 y] _ | exact cells_at _ #[.int .i64 y] _ (by simp) | rfl)
      try (case c2A => first | rfl | exact ⟨rfl, rfl, rfl⟩ | exact ⟨rfl, rfl⟩ | (intro u hu; simp at hu; rcases hu with rfl | rfl | rfl | rfl <;> rfl) | (intro u hu; simp at hu; rcases hu with rfl | rfl | rfl <;> rfl) | (intro u hu; simp at hu; rcases hu with rfl | rfl <;> rfl) | (intro u hu; simp at hu; subst hu; rfl))
      try (case c3A => first | omega | (unfold maxLen; omega))
      try (case c4A => first | omega | ((try simp only [World.heap_size_alloc]); omega))
      try (case c5A => first | omega | (simp; omega))
      intro v' w2 hown' hgrow
      try intro _
      have D2 := Lib.hid (Dn.appI (D1.out.alloc (.cells #[.int .i64 y] 3)) (O1.out.below (below_alloc1 _ _)) hgrow)
      have O2 : Hid (OwI (w.heap.size + 1) w2 v' (xs ++ [y])) := Lib.hid ⟨by rw [List.map_append, List.length_append]; exact hown', by simp; omega⟩
      clear hown' hgrow D1 O1
      go_wp2
      go_roundw
      case rel => exact ⟨_, j', by go_num, by simp; omega, O2, Lib.hid (D2.out.mono (by omega))⟩
      case measure => (simp [intOf]; try omega)
    · go_wp2_with fail
      refine (one_any w.heap.size _ 24 _ DD.out.cur (by omega) (by omega) (by omega)).mono ?_
      rintro e W2 ⟨b, rfl, hc2, hg2⟩
      have D2 := Lib.hid (DD.out.call hc2 hg2)
      have O2 := Lib.hid (OO.out.grown hg2 (OO.out.neC (Nat.lt_succ_self _)))
      clear hc2 hg2 DD OO
      cases b
      · go_wp2
        refine bodyPost_ret (v := (.tuple #[.int .i64 x, u6])) (by simp [results, Try.results11, go_sem, *]) rfl ?_
        exact ⟨x, _, xs, rfl, O2.out.base (Nat.le_succ _), by omega, D2.out.below⟩
      · skip
        have hx9 : xs.length ≤ 51 := by omega
        have D3 : Hid (Dn w W2 (200 + 4 * xs.length)) := Lib.hid (D2.out.mono (by omega))
        clear D2 hj hj0 zr
        obtain ⟨p3, cap3, g3, rfl, hcap3, _⟩ := own_shape O2.out.1
        go_wp2
        go_loopw [6] (fun v wr => ∃ (xs : List Int) (p : Option Addr) (cap : Nat), v = .slice p xs.length cap ∧ xs.length ≤ 51 ∧ Hid (OwI (w.heap.size + 1) wr v xs) ∧ Hid (Dn w wr (200 + 4 * xs.length))) (fun v _ => 60 - slLenI v)
        case atStart => exact ⟨xs, p3, cap3, rfl, hx9, O2, D3⟩
        case round =>
          clear D3 O2
          obtain ⟨xs, p, cap, rfl, hj, OO, DD⟩ := hrel
          have zr := DD.out.size
          go_wp2_with fail
          refine (pick_any w.heap.size _ 2 _ DD.out.cur (by omega) (by omega) (by omega)).mono ?_
          rintro e W3 ⟨k3, hk3, rfl, hc3, hg3⟩
          have D3 := Lib.hid (DD.out.call hc3 hg3)
          have O3 := Lib.hid (OO.out.grown hg3 (OO.out.neC (Nat.lt_succ_self _)))
          clear hc3 hg3 DD OO
          have z3 := D3.out.size
          by_cases hl : xs.length < 50 + k3
          · skip
            go_wp2_with (first | (at_builtin; go_loud (refine wpList_append_own _ rfl _ _ 22 rfl (w.heap.size + 1) 3 i0 (.int .i64 0) 1 8 Try.underlying22 hi hz0 hz1 hz2 rfl (by decide) _ _ _ rfl (O3.out.1.alloc _) ⟨W3.heap.size, 0, none⟩ 1 1 [.int .i64 (xs.length : Int)] rfl rfl ?c1B ?c2B ?c3B ?c4B ?c5B ?_)))
            try (case c1B => first | exact cells_new _ #[.int .i64 (xs.length : Int)] _ | exact cells_at _ #[.int .i64 (xs.length : Int)] _ (by simp) | rfl)
            try (case c2B => first | rfl | exact ⟨rfl, rfl, rfl⟩ | exact ⟨rfl, rfl⟩ | (intro u hu; simp at hu; rcases hu with rfl | rfl | rfl | rfl <;> rfl) | (intro u hu; simp at hu; rcases hu with rfl | rfl | rfl <;> rfl) | (intro u hu; simp at hu; rcases hu with rfl | rfl <;> rfl) | (intro u hu; simp at hu; subst hu; rfl))
            try (case c3B => first | omega | (unfold maxLen; omega))
            try (case c4B => first | omega | ((try simp only [World.heap_size_alloc]); omega))
            try (case c5B => first | omega | (simp; omega))
            intro v' w2 hown' hgrow
            try intro _
            have D4 := Lib.hid (Dn.appI (D3.out.alloc (.cells #[.int .i64 (xs.length : Int)] 3)) (O3.out.below (below_alloc1 _ _)) hgrow)
            have O4 : Hid (OwI (w.heap.size + 1) w2 v' (xs ++ [(xs.length : Int)])) := Lib.hid ⟨by rw [List.map_append, List.length_append]; exact hown', by simp; omega⟩
            clear hown' hgrow D3 O3
            obtain ⟨p4, cap4, g4, rfl, _, _⟩ := own_shape O4.out.1
            go_wp2
            go_roundw
            case rel => exact ⟨xs ++ [(xs.length : Int)], p4, cap4, by simp, by simp; omega, O4, Lib.hid (D4.out.mono (by simp; omega))⟩
            case measure => (simp [slLenI]; omega)
          · go_wp2
            refine bodyPost_ret (v := (.tuple #[.int .i64 x, .slice p xs.length cap])) (by simp [results, Try.results11, go_sem, *]) rfl ?_
            exact ⟨x, _, xs, rfl, O3.out.base (Nat.le_succ _), by omega, D3.out.below⟩
set_option maxRecDepth 100000 in
set_option maxHeartbeats 4000000 in
theorem drawPick_any (v : Value) (bs : List Int) (w : World) (h : RdY w v bs) :
    Calls Try.prog 20 #[v] w (SomeIL w) := by
  obtain ⟨i0, hi, hz0, hz1, hz2⟩ := info_parts infoInt
  obtain ⟨p, cap, b, off, rfl, _, _, _⟩ := h.parts
  have HC := Lib.hid (cur_new w _ bs h); clear h
  go_enter Try.func20, Try.ntmps20
  go_wp2_with fail
  refine (state20_any w.heap.size 0 _ HC.out (by omega)).mono ?_
  rintro e w1 ⟨x, _, rfl, hc, hg⟩
  have D0 : Hid (Dn w w1 8) := Lib.hid ⟨_, Dr.call (Dr.start HC.out) hc hg⟩
  clear hc hg HC
  have z0 := D0.out.size
  have O0 : Hid (OwI (w.heap.size + 1) (w1.alloc (.cells #[] 3)) (.slice (some ⟨w1.heap.size, 0, none⟩) 0 0) []) := Lib.hid ⟨World.ownsRow_lit w1 #[] 0 z0 (Nat.zero_le _) rfl, Nat.zero_le _⟩
  go_wp2_with fail
  refine (pick_any w.heap.size _ 7 _ (D0.out.alloc _).cur (by omega) (by omega) (by omega)).mono ?_
  rintro e w2 ⟨k1, hk1, rfl, hc1, hg1⟩
  have D1 := Lib.hid ((D0.out.alloc _).call hc1 hg1)
  have O1 := Lib.hid (O0.out.grown hg1 (O0.out.neC (Nat.lt_succ_self _)))
  clear hc1 hg1 D0 O0
  go_wp2
  go_loopw [6, 7] (fun v i wr => ∃ (xs : List Int) (j : Nat), i = .int .i64 j ∧ xs.length + j ≤ 7 ∧ Hid (OwI (w.heap.size + 1) wr v xs) ∧ Hid (Dn w wr (10 + (7 - j) * 2))) (fun _ i _ => (intOf i).toNat)
  case atStart => exact ⟨[], k1, rfl, by simp; omega, O1, Lib.hid (D1.out.mono (by omega))⟩
  case round =>
    clear D1 O1
    obtain ⟨xs, j, rfl, hj, OO, DD⟩ := hrel
    have zr := DD.out.size
    by_cases hj0 : 0 < j
    · obtain ⟨j', rfl⟩ : ∃ j', j = j' + 1 := ⟨j - 1, by omega⟩
      go_wp2_with fail
      refine (among_lit w.heap.size _ [0, 0, 1, 5, 1000] 5 _ DD.out.cur (by omega) (by simp) rfl rfl (by omega) (by omega)).mono ?_
      rintro e W1 ⟨y, rfl, hc1, hg1⟩
      have D1 := Lib.hid (DD.out.call hc1 hg1)
      have O1 := Lib.hid (OO.out.grown hg1 (OO.out.neC (Nat.lt_succ_self _)))
      clear hc1 hg1 DD OO
      have z1 := D1.out.size
      go_wp2_with (first | (at_builtin; go_loud (refine wpList_append_own _ rfl _ _ 22 rfl (w.heap.size + 1) 3 i0 (.int .i64 0) 1 8 Try.underlying22 hi hz0 hz1 hz2 rfl (by decide) _ _ _ rfl (O1.out.1.alloc _) ⟨W1.heap.size, 0, none⟩ 1 1 [.int .i64 y] rfl rfl ?c1A ?c2A ?c3A ?c4A ?c5A ?_)))
      try (case c1A => first | exact cells_new _ #[.int .i64 y] _ | exact cells_at _ #[.int .i64 y] _ (by simp) | rfl)
      try (case c2A => first | rfl | exact ⟨rfl, rfl, rfl⟩ | exact ⟨rfl, rfl⟩ | (intro u hu; simp at hu; rcases hu with rfl | rfl | rfl | rfl <;> rfl) | (intro u hu; simp at hu; rcases hu with rfl | rfl | rfl <;> rfl) | (intro u hu; simp at hu; rcases hu with rfl | rfl <;> rfl) | (intro u hu; simp at hu; subst hu; rfl))
      try (case c3A => first | omega | (unfold maxLen; omega))
      try (case c4A => first | omega | ((try simp only [World.heap_size_alloc]); omega))
      try (case c5A => first | omega | (simp; omega))
      intro v' w2 hown' hgrow
      try intro _
      have D2 := Lib.hid (Dn.appI (D1.out.alloc (.cells #[.int .i64 y] 3)) (O1.out.below (below_alloc1 _ _)) hgrow)
      have O2 : Hid (OwI (w.heap.size + 1) w2 v' (xs ++ [y])) := Lib.hid ⟨by rw [List.map_append, List.length_append]; exact hown', by simp; omega⟩
      clear hown' hgrow D1 O1
      go_wp2
      go_roundw
      case rel => exact ⟨_, j', by go_num, by simp; omega, O2, Lib.hid (D2.out.mono (by omega))⟩
      case measure => (simp [intOf]; try omega)
    · go_wp2_with fail
      refine (pick_any w.heap.size _ 24 _ DD.out.cur (by omega) (by omega) (by omega)).mono ?_
      rintro e W2 ⟨kb, hkb, rfl, hc2, hg2⟩
      have D2 := Lib.hid (DD.out.call hc2 hg2)
      have O2 := Lib.hid (OO.out.grown hg2 (OO.out.neC (Nat.lt_succ_self _)))
      clear hc2 hg2 DD OO
      have z2 := D2.out.size
      generalize hkz : (kb : Int) = kz
      clear hkz
      by_cases q0 : kz = 0
      · subst q0
        go_wp2_with fail
        refine (among_lit w.heap.size _ [-1, 1001] 2 _ D2.out.cur (by omega) (by simp) rfl rfl (by omega) (by omega)).mono ?_
        rintro e W4 ⟨y, rfl, hc4, hg4⟩
        have D4 := Lib.hid (D2.out.call hc4 hg4)
        have O4 := Lib.hid (O2.out.grown hg4 (O2.out.neC (Nat.lt_succ_self _)))
        clear hc4 hg4 D2 O2
        have z4 := D4.out.size
        go_wp2_with (first | (at_builtin; go_loud (refine wpList_append_own _ rfl _ _ 22 rfl (w.heap.size + 1) 3 i0 (.int .i64 0) 1 8 Try.underlying22 hi hz0 hz1 hz2 rfl (by decide) _ _ _ rfl (O4.out.1.alloc _) ⟨W4.heap.size, 0, none⟩ 1 1 [.int .i64 y] rfl rfl ?c1C ?c2C ?c3C ?c4C ?c5C ?_)))
        try (case c1C => first | exact cells_new _ #[.int .i64 y] _ | exact cells_at _ #[.int .i64 y] _ (by simp) | rfl)
        try (case c2C => first | rfl | exact ⟨rfl, rfl, rfl⟩ | exact ⟨rfl, rfl⟩ | (intro u hu; simp at hu; rcases hu with rfl | rfl | rfl | rfl <;> rfl) | (intro u hu; simp at hu; rcases hu with rfl | rfl | rfl <;> rfl) | (intro u hu; simp at hu; rcases hu with rfl | rfl <;> rfl) | (intro u hu; simp at hu; subst hu; rfl))
        try (case c3C => first | omega | (unfold maxLen; omega))
        try (case c4C => first | omega | ((try simp only [World.heap_size_alloc]); omega))
        try (case c5C => first | omega | (simp; omega))
        intro v' w2 hown' hgrow
        try intro _
        have D5 := Lib.hid (Dn.appI (D4.out.alloc (.cells #[.int .i64 y] 3)) (O4.out.below (below_alloc1 _ _)) hgrow)
        have O5 : Hid (OwI (w.heap.size + 1) w2 v' (xs ++ [y])) := Lib.hid ⟨by rw [List.map_append, List.length_append]; exact hown', by simp; omega⟩
        clear hown' hgrow D4 O4
        go_wp2
        refine bodyPost_ret (v := (.tuple #[.int .i64 x, v'])) (by simp [results, Try.results20, go_sem, *]) rfl ?_
        exact ⟨x, _, _, rfl, O5.out.base (Nat.le_succ _), by simp; omega, D5.out.below⟩
      · skip
        by_cases q1 : kz = 1
        · subst q1
          have hx9 : xs.length ≤ 21 := by omega
          have D3 : Hid (Dn w W2 (200 + 4 * xs.length)) := Lib.hid (D2.out.mono (by omega))
          clear D2 hj hj0 zr
          obtain ⟨p3, cap3, g3, rfl, hcap3, _⟩ := own_shape O2.out.1
          go_wp2
          go_loopw [6] (fun v wr => ∃ (xs : List Int) (p : Option Addr) (cap : Nat), v = .slice p xs.length cap ∧ xs.length ≤ 21 ∧ Hid (OwI (w.heap.size + 1) wr v xs) ∧ Hid (Dn w wr (200 + 4 * xs.length))) (fun v _ => 30 - slLenI v)
          case atStart => exact ⟨xs, p3, cap3, rfl, hx9, O2, D3⟩
          case round =>
            clear D3 O2
            obtain ⟨xs, p, cap, rfl, hj, OO, DD⟩ := hrel
            have zr := DD.out.size
            go_wp2_with fail
            refine (pick_any w.heap.size _ 2 _ DD.out.cur (by omega) (by omega) (by omega)).mono ?_
            rintro e W3 ⟨k3, hk3, rfl, hc3, hg3⟩
            have D3 := Lib.hid (DD.out.call hc3 hg3)
            have O3 := Lib.hid (OO.out.grown hg3 (OO.out.neC (Nat.lt_succ_self _)))
            clear hc3 hg3 DD OO
            have z3 := D3.out.size
            by_cases hl : xs.length < 20 + k3
            · skip
              go_wp2_with (first | (at_builtin; go_loud (refine wpList_append_own _ rfl _ _ 22 rfl (w.heap.size + 1) 3 i0 (.int .i64 0) 1 8 Try.underlying22 hi hz0 hz1 hz2 rfl (by decide) _ _ _ rfl (O3.out.1.alloc _) ⟨W3.heap.size, 0, none⟩ 1 1 [.int .i64 1] rfl rfl ?c1B ?c2B ?c3B ?c4B ?c5B ?_)))
              try (case c1B => first | exact cells_new _ #[.int .i64 1] _ | exact cells_at _ #[.int .i64 1] _ (by simp) | rfl)
              try (case c2B => first | rfl | exact ⟨rfl, rfl, rfl⟩ | exact ⟨rfl, rfl⟩ | (intro u hu; simp at hu; rcases hu with rfl | rfl | rfl | rfl <;> rfl) | (intro u hu; simp at hu; rcases hu with rfl | rfl | rfl <;> rfl) | (intro u hu; simp at hu; rcases hu with rfl | rfl <;> rfl) | (intro u hu; simp at hu; subst hu; rfl))
              try (case c3B => first | omega | (unfold maxLen; omega))
              try (case c4B => first | omega | ((try simp only [World.heap_size_alloc]); omega))
              try (case c5B => first | omega | (simp; omega))
              intro v' w2 hown' hgrow
              try intro _
              have D4 := Lib.hid (Dn.appI (D3.out.alloc (.cells #[.int .i64 1] 3)) (O3.out.below (below_alloc1 _ _)) hgrow)
              have O4 : Hid (OwI (w.heap.size + 1) w2 v' (xs ++ [1])) := Lib.hid ⟨by rw [List.map_append, List.length_append]; exact hown', by simp; omega⟩
              clear hown' hgrow D3 O3
              obtain ⟨p4, cap4, g4, rfl, _, _⟩ := own_shape O4.out.1
              go_wp2
              go_roundw
              case rel => exact ⟨xs ++ [1], p4, cap4, by simp, by simp; omega, O4, Lib.hid (D4.out.mono (by simp; omega))⟩
              case measure => (simp [slLenI]; omega)
            · go_wp2
              refine bodyPost_ret (v := (.tuple #[.int .i64 x, .slice p xs.length cap])) (by simp [results, Try.results20, go_sem, *]) rfl ?_
              exact ⟨x, _, xs, rfl, O3.out.base (Nat.le_succ _), by omega, D3.out.below⟩
        · go_wp2
          refine bodyPost_ret (v := (.tuple #[.int .i64 x, u6])) (by simp [results, Try.results20, go_sem, *]) rfl ?_
          exact ⟨x, _, xs, rfl, O2.out.base (Nat.le_succ _), by omega, D2.out.below⟩
end Go.Proofs.Ytbkkggbpekhenaa
