/- Contracts of the reference's drawings of counters: each answers SOME name, SOME list of counters (nothing more is needed), reading at most 65536 bytes. -/
import Derived.Test.YtmochhgmhhopoaaDoorOfT
import Derived.Test.YtmochhgmhhopoaaDoorCnt10
namespace Go.Proofs.YtmochhgmhhopoaaDoor
open Go.RowKit

theorem cname_draw (B u : Nat) (w : World) (h : Cur w B u) (hu : u ≤ 1000000) :
    Calls Tryd.prog 85 #[.pointer (some ⟨B, 0, none⟩)] w fun e w' => ∃ x : ByteArray, x.size ≤ 21 ∧ e = .returned (.string x) ∧ Cur w' B (u + 4) ∧ w.grownBy w' (some B) := by
  have H := Lib.hid h; clear h
  go_enter Tryd.func85, Tryd.ntmps85
  go_wp2_with fail
  refine (one_any B u 20 _ H.out (by omega) (by omega) (by omega)).mono ?_
  rintro e w1 ⟨b, rfl, hc1, hg1⟩
  have HC := Lib.hid hc1; clear hc1
  have HG := Lib.hid hg1; clear hg1
  cases b
  · go_wp2_with fail
    refine (of_lit B (u + 2) [⟨#[115, 101, 110, 116]⟩, ⟨#[108, 111, 115, 116]⟩, ⟨#[108, 111, 115, 116, 46, 117, 112]⟩, ⟨#[108, 111, 115, 116, 46, 100, 111, 119, 110]⟩, ⟨#[108, 111, 115, 116, 115]⟩, ⟨#[97]⟩, ⟨#[97, 46, 98, 46, 99]⟩, ⟨#[114, 101, 112, 97, 105, 114]⟩] 8 21 _ HC.out (by omega) (by simp) rfl rfl (by omega) (by omega) (by decide) (by omega)).mono ?_
    rintro e w2 ⟨x, hx, rfl, hc2, hg2⟩
    go_wp2
    go_ret
    exact ⟨x, hx, rfl, hc2, grown_trans HG.out hg2⟩
  · go_wp2_with fail
    refine (of_lit B (u + 2) [⟨#[]⟩, ⟨#[46]⟩, ⟨#[97, 46]⟩, ⟨#[65]⟩, ⟨#[97, 46, 46, 98]⟩, ⟨#[97, 98, 99, 100, 101, 102, 103, 104, 105, 106, 107, 108, 109, 110, 111, 112, 113, 114, 115, 116]⟩, ⟨#[97, 98, 99, 100, 101, 102, 103, 104, 105, 106, 107, 108, 109, 110, 111, 112, 113, 114, 115, 116, 117]⟩] 7 21 _ HC.out (by omega) (by simp) rfl rfl (by omega) (by omega) (by decide) (by omega)).mono ?_
    rintro e w2 ⟨x, hx, rfl, hc2, hg2⟩
    go_wp2
    go_ret
    exact ⟨x, hx, rfl, hc2, grown_trans HG.out hg2⟩

theorem OwCt.neB {w W : World} {v : Value} {xs : List Ct} {B : Nat} (h : OwCt w.heap.size W v xs) (hB : B < w.heap.size) : v.ownBlock = none ∨ v.ownBlock ≠ some B := by
  cases hv : v.ownBlock with
  | none => exact .inl rfl
  | some k => exact .inr fun e => by have := (h.lt k hv).1; have := Option.some.inj e; omega
theorem Dr.appCt {w W W' : World} {B u : Nat} {v : Value} {xs : List Ct} (h : Dr w W B u) (ho : OwCt w.heap.size W v xs) (hg : W.grownBy W' v.ownBlock) : Dr w W' B u := by
  have hlt := h.lt
  cases hv : v.ownBlock with
  | none =>
    rw [hv] at hg
    exact ⟨h.cur.below ⟨hg.os, hg.tape, hg.output, hg.size, fun k hk => hg.block k hk (by simp)⟩, grown_trans h.grown ⟨hg.os, hg.tape, hg.output, hg.size, fun k hk _ => hg.block k hk (by simp)⟩, hlt⟩
  | some g =>
    rw [hv] at hg
    have hge := (ho.lt g hv).1
    refine ⟨?_, ⟨hg.os.trans h.grown.os, hg.tape.trans h.grown.tape, hg.output.trans h.grown.output, Nat.le_trans h.size hg.size, fun k hk hne => (hg.block k (by have := h.size; omega) (by simp; omega)).trans (h.grown.block k hk hne)⟩, hlt⟩
    obtain ⟨cv, bs, n, sd, hh, hn, hr, hne⟩ := h.cur
    exact ⟨cv, bs, n, sd, (hg.block B (by have := h.size; omega) (by simp; omega)).trans hh, hn, hr.grown hg (ne_row hne (by omega)), hne⟩
theorem flatCt_snoc (xs : List Ct) (x : Ct) : (xs ++ [x]).flatMap Ct.cells = xs.flatMap Ct.cells ++ x.cells := by rw [List.flatMap_append]; simp
/-- the names are short -/
def Nms (xs : List Ct) : Prop := ∀ x ∈ xs, x.nm.size ≤ 21
theorem Nms.snoc {xs : List Ct} {x : Ct} (h : Nms xs) (hx : x.nm.size ≤ 21) : Nms (xs ++ [x]) := by
  intro y hy
  rcases List.mem_append.1 hy with hy | hy
  · exact h y hy
  · rw [List.mem_singleton.1 hy]; exact hx
theorem Nms.ok {xs : List Ct} (h : Nms xs) : ∀ x ∈ xs, x.ok := fun x hx => by have := h x hx; unfold Ct.ok; omega
theorem Nms.big {xs : List Ct} (h : Nms xs) : ∀ x ∈ xs, x.nm.size ≤ 1048576 := fun x hx => by have := h x hx; omega
theorem bcL_length (xs : List Ct) (s : ByteArray) (n : Int) : (bcL xs s n).length ≤ xs.length + 1 := by
  unfold bcL
  split
  · exact bumpL_length xs s n
  · exact Nat.zero_le _
theorem Nms.bc {xs : List Ct} (h : Nms xs) {s : ByteArray} (hs : s.size ≤ 21) (n : Int) : Nms (bcL xs s n) := by
  unfold bcL
  split
  · exact bumpL_mem h hs hs
  · intro x hx; cases hx
theorem new_dr {w w' : World} {o : Obj} {u : Nat} (h : Dr (w.alloc o) w' w.heap.size u) : Below w.heap.size w w' := new_grown h.grown
def SomeCt (w : World) (B u : Nat) (e : Ending) (w' : World) : Prop := ∃ v xs, e = .returned v ∧ OwCt w.heap.size w' v xs ∧ xs.length ≤ 14 ∧ Nms xs ∧ Dr w w' B u
set_option maxRecDepth 100000 in
set_option maxHeartbeats 8000000 in
theorem counters_any (B u : Nat) (w : World) (h : Cur w B u) (hu : u ≤ 100000) :
    Calls Tryd.prog 82 #[.pointer (some ⟨B, 0, none⟩)] w (SomeCt w B (u + 100)) := by
  obtain ⟨i0, hi, hz0, hz1, hz2⟩ := info_parts infoCt
  have hlt := h.lt
  have D0 := Lib.hid (Dr.start h); clear h
  have O0 : Hid (OwCt w.heap.size (w.alloc (.cells #[] 55)) (.slice (some ⟨w.heap.size, 0, none⟩) 0 0) []) := Lib.hid ⟨World.ownsRow_lit w #[] 0 (Nat.le_refl _) (Nat.zero_le _) rfl, Nat.zero_le _, by simp⟩
  go_enter Tryd.func82, Tryd.ntmps82
  go_wp2_with fail
  refine (pick_any B u 8 _ (D0.out.alloc _).cur (by omega) (by omega) (by omega)).mono ?_
  rintro e w1 ⟨k1, hk1, rfl, hc1, hg1⟩
  have D1 := Lib.hid ((D0.out.alloc _).call hc1 hg1)
  have O1 := Lib.hid (O0.out.grown hg1 (O0.out.neB hlt))
  clear hc1 hg1 D0 O0
  go_wp2
  go_loopw [3, 4, 5, 6] (fun v i _ _ wr => ∃ (xs : List Ct) (j : Nat), i = .int .i64 j ∧ xs.length + j ≤ 7 ∧ Hid (OwCt w.heap.size wr v xs) ∧ Hid (Nms xs) ∧ Hid (Dr w wr B (u + 2 + (7 - j) * 6))) (fun _ i _ _ _ => (intOf i).toNat)
  case atStart => exact ⟨[], k1, rfl, by simp; omega, O1, Lib.hid (by intro x hx; cases hx), Lib.hid (D1.out.mono (by omega))⟩
  case round =>
    clear D1 O1
    obtain ⟨xs, j, rfl, hj, OO, HS, DD⟩ := hrel
    have zr := DD.out.size
    by_cases hj0 : 0 < j
    · obtain ⟨j', rfl⟩ : ∃ j', j = j' + 1 := ⟨j - 1, by omega⟩
      go_wp2_with fail
      refine (cname_draw B _ _ DD.out.cur (by omega)).mono ?_
      rintro e W1 ⟨nm, hnm, rfl, hc1, hg1⟩
      have D1 := Lib.hid (DD.out.call hc1 hg1)
      have O1 := Lib.hid (OO.out.grown hg1 (OO.out.neB hlt))
      clear hc1 hg1 DD OO
      go_wp2_with fail
      refine (among_lit B _ [0, 1, 2, 50, 500000, 1000000] 6 _ D1.out.cur (by omega) (by simp) rfl rfl (by omega) (by omega)).mono ?_
      rintro e W2 ⟨a, rfl, hc2, hg2⟩
      have D2 := Lib.hid (D1.out.call hc2 hg2)
      have O2 := Lib.hid (O1.out.grown hg2 (O1.out.neB hlt))
      clear hc2 hg2 D1 O1
      have HBp := Lib.hid (fun h => specBump_any u3 xs nm a W2 h HS.out.big (by omega))
      have hbl := bcL_length xs nm a
      have HSb := Lib.hid (HS.out.bc hnm a)
      go_wp2_with fail
      refine (HBp.out O2.out.rd).mono ?_
      rintro e W3 ⟨v3, rfl, o3, b3⟩
      have D3 := Lib.hid (D2.out.call (D2.out.cur.below b3) (grown_below b3))
      have O3 := Lib.hid (O2.out.below b3)
      have P3 := Lib.hid (o3.base D2.out.size)
      clear o3 b3 D2 O2 HBp
      generalize bcL xs nm a = ys at *
      cases bcB xs nm a
      · clear P3 HSb hbl
        go_wp2
        go_roundw
        case rel => exact ⟨xs, j', by go_num, by omega, O3, HS, Lib.hid (D3.out.mono (by omega))⟩
        case measure => (simp [intOf]; try omega)
      · clear O3
        go_wp2
        go_roundw
        case rel => exact ⟨ys, j', by go_num, by omega, P3, HSb, Lib.hid (D3.out.mono (by omega))⟩
        case measure => (simp [intOf]; try omega)
    · go_wp2_with fail
      refine (pick_any B _ 30 _ DD.out.cur (by omega) (by omega) (by omega)).mono ?_
      rintro e W1 ⟨k, hk, rfl, hc1, hg1⟩
      have D1 := Lib.hid (DD.out.call hc1 hg1)
      have O1 := Lib.hid (OO.out.grown hg1 (OO.out.neB hlt))
      clear hc1 hg1 DD OO
      have D1 : Hid (Dr w W1 B (u + 50)) := Lib.hid (D1.out.mono (by omega))
      have hx7 : xs.length ≤ 7 := by omega
      clear hj hj0
      generalize hkk : (k : Int) = kk
      clear hkk
      have zr := D1.out.size
      by_cases q0 : kk = 0
      · subst q0
        go_wp2_with fail
        refine (cname_draw B _ _ D1.out.cur (by omega)).mono ?_
        rintro e W2 ⟨nm, hnm, rfl, hc1, hg1⟩
        have D2 := Lib.hid (D1.out.call hc1 hg1)
        have O2 := Lib.hid (O1.out.grown hg1 (O1.out.neB hlt))
        clear hc1 hg1 D1 O1
        go_wp2_with fail
        refine (among_lit B _ [-1, 0, 1000001] 3 _ D2.out.cur (by omega) (by simp) rfl rfl (by omega) (by omega)).mono ?_
        rintro e W3 ⟨a, rfl, hc2, hg2⟩
        have D3 := Lib.hid (D2.out.call hc2 hg2)
        have O3 := Lib.hid (O2.out.grown hg2 (O2.out.neB hlt))
        clear hc2 hg2 D2 O2
        have HS1 : Hid (Nms (xs ++ [⟨nm, a⟩])) := Lib.hid (HS.out.snoc hnm)
        have z3 := D3.out.size
        go_wp2_with (first | (at_builtin; go_loud (refine wpList_append_own _ rfl _ _ 25 rfl (w.heap.size) 55 i0 (.agg #[.string ⟨#[]⟩, .int .i64 0]) 2 24 Tryd.underlying25 hi hz0 hz1 hz2 rfl (by decide) _ _ _ rfl (O3.out.1.alloc _) ⟨W3.heap.size, 0, none⟩ 1 1 [.string nm, .int .i64 a] rfl rfl ?c1A ?c2A ?c3A ?c4A ?c5A ?_)))
        try (case c1A => first | exact cells_new _ #[.string nm, .int .i64 a] _ | exact cells_at _ #[.string nm, .int .i64 a] _ (by simp) | rfl)
        try (case c2A => first | rfl | exact ⟨rfl, rfl, rfl⟩ | exact ⟨rfl, rfl⟩ | (intro u hu; simp at hu; rcases hu with rfl | rfl | rfl | rfl <;> rfl) | (intro u hu; simp at hu; rcases hu with rfl | rfl | rfl <;> rfl) | (intro u hu; simp at hu; rcases hu with rfl | rfl <;> rfl) | (intro u hu; simp at hu; subst hu; rfl))
        try (case c3A => first | omega | (unfold maxLen; omega))
        try (case c4A => first | omega | ((try simp only [World.heap_size_alloc]); omega))
        try (case c5A => first | omega | (simp; omega))
        intro v' w2 hown' hgrow
        try intro _
        have D4 := Lib.hid (Dr.appCt (D3.out.alloc (.cells #[.string nm, .int .i64 a] 55)) (O3.out.below (below_alloc1 _ _)) hgrow)
        have O4 : Hid (OwCt w.heap.size w2 v' (xs ++ [⟨nm, a⟩])) := Lib.hid ⟨by rw [flatCt_snoc, List.length_append]; exact hown', by simp; omega, HS1.out.ok⟩
        clear hown' hgrow D3 O3
        go_wp2
        refine bodyPost_ret (v := v') (by simp [results, Tryd.results82, go_sem, *]) rfl ?_
        exact ⟨v', _, rfl, O4.out, by simp; omega, HS1.out, D4.out.mono (by omega)⟩
      · by_cases q1 : kk = 1
        · subst q1
          have O2 : Hid (OwCt w.heap.size (W1.alloc (.cells #[] 55)) (.slice (some ⟨W1.heap.size, 0, none⟩) 0 0) []) := Lib.hid ⟨World.ownsRow_lit W1 #[] 0 zr (Nat.zero_le _) rfl, Nat.zero_le _, by simp⟩
          have D2 := Lib.hid (D1.out.alloc (.cells #[] 55))
          clear O1 HS D1
          go_wp2
          go_loopw [3, 7] (fun v i wr => ∃ (xs : List Ct) (j : Nat), i = .int .i64 j ∧ xs.length ≤ j ∧ j ≤ 13 ∧ Hid (OwCt w.heap.size wr v xs) ∧ Hid (Nms xs) ∧ Hid (Dr w wr B (u + 50 + j * 2))) (fun _ i _ => 14 - (intOf i).toNat)
          case atStart => exact ⟨[], 0, rfl, Nat.le_refl _, by omega, O2, Lib.hid (by intro x hx; cases hx), Lib.hid (D2.out.mono (by omega))⟩
          case round =>
            clear D2 O2
            obtain ⟨xs, j, rfl, hxj, hj, OO, HS, DD⟩ := hrel
            have zr := DD.out.size
            go_wp2_with fail
            refine (pick_any B _ 2 _ DD.out.cur (by omega) (by omega) (by omega)).mono ?_
            rintro e W2 ⟨k2, hk2, rfl, hc2, hg2⟩
            have D2 := Lib.hid (DD.out.call hc2 hg2)
            have O2 := Lib.hid (OO.out.grown hg2 (OO.out.neB hlt))
            clear hc2 hg2 DD OO
            have z2 := D2.out.size
            by_cases hlt2 : j < 12 + k2
            · have hcv : (convert 50 9 (.slice (some ⟨W2.heap.size, 0, none⟩) 1 1)).run Tryd.prog (W2.alloc (.cells #[.int .u8 (97 + (j : Int))] 5)) = .ok (.string ⟨[UInt8.ofNat (97 + j)].toArray⟩) (W2.alloc (.cells #[.int .u8 (97 + (j : Int))] 5)) :=
                run_convert_bytes_back (P := Tryd.prog) _ 50 9 5 ⟨W2.heap.size, 0, none⟩ 1 [UInt8.ofNat (97 + j)] Tryd.underlying50 Tryd.underlying5 Tryd.underlying9 (fun i hi => by
                  obtain rfl : i = 0 := by simpa using hi
                  rw [cells_new W2 #[.int .u8 (97 + (j : Int))] 5 0 _ rfl]
                  simp only [List.getElem_cons_zero, UInt8.toNat_ofNat']
                  rw [show ((97 + j) % 2 ^ 8 : Nat) = 97 + j from by omega]
                  simp)
              have h97 : IntKind.u8.wrap (97 + (j : Int)) = 97 + (j : Int) := by rw [IntKind.wrap_u8]; omega
              have HS1 : Hid (Nms (xs ++ [⟨⟨#[110]⟩ ++ ⟨#[97 + UInt8.ofNat j]⟩, (j : Int) % 3⟩])) := Lib.hid (HS.out.snoc (by rw [ByteArray.size_append]; exact (by decide : 2 ≤ 21)))
              go_wp2_with (first | (at_builtin; go_loud (refine wpList_append_own _ rfl _ _ 25 rfl (w.heap.size) 55 i0 (.agg #[.string ⟨#[]⟩, .int .i64 0]) 2 24 Tryd.underlying25 hi hz0 hz1 hz2 rfl (by decide) _ _ _ rfl ((O2.out.1.alloc _).alloc _) ⟨W2.heap.size + 1, 0, none⟩ 1 1 [.string (⟨#[110]⟩ ++ ⟨#[97 + UInt8.ofNat j]⟩), .int .i64 ((j : Int) % 3)] rfl rfl ?c1B ?c2B ?c3B ?c4B ?c5B ?_)))
              try (case c1B => first | exact cells_new _ #[.string (⟨#[110]⟩ ++ ⟨#[97 + UInt8.ofNat j]⟩), .int .i64 ((j : Int) % 3)] _ | exact cells_at _ #[.string (⟨#[110]⟩ ++ ⟨#[97 + UInt8.ofNat j]⟩), .int .i64 ((j : Int) % 3)] _ (by simp) | rfl)
              try (case c2B => first | rfl | exact ⟨rfl, rfl, rfl⟩ | exact ⟨rfl, rfl⟩ | (intro u hu; simp at hu; rcases hu with rfl | rfl | rfl | rfl <;> rfl) | (intro u hu; simp at hu; rcases hu with rfl | rfl | rfl <;> rfl) | (intro u hu; simp at hu; rcases hu with rfl | rfl <;> rfl) | (intro u hu; simp at hu; subst hu; rfl))
              try (case c3B => first | omega | (unfold maxLen; omega))
              try (case c4B => first | omega | ((try simp only [World.heap_size_alloc]); omega))
              try (case c5B => first | omega | (simp; omega))
              intro v' w2 hown' hgrow
              try intro _
              have D4 := Lib.hid (Dr.appCt ((D2.out.alloc (.cells #[.int .u8 (97 + (j : Int))] 5)).alloc (.cells #[.string (⟨#[110]⟩ ++ ⟨#[97 + UInt8.ofNat j]⟩), .int .i64 ((j : Int) % 3)] 55)) ((O2.out.below (below_alloc1 _ _)).below (below_alloc1 _ _)) hgrow)
              have O4 : Hid (OwCt w.heap.size w2 v' (xs ++ [⟨⟨#[110]⟩ ++ ⟨#[97 + UInt8.ofNat j]⟩, (j : Int) % 3⟩])) := Lib.hid ⟨by rw [flatCt_snoc, List.length_append]; exact hown', by simp; omega, HS1.out.ok⟩
              clear hown' hgrow D2 O2
              go_wp2
              go_roundw
              case rel => exact ⟨_, j + 1, by go_num, by simp; omega, by omega, O4, HS1, Lib.hid (D4.out.mono (by omega))⟩
              case measure => simp [intOf]; omega
            · go_wp2
              refine bodyPost_ret (v := u3) (by simp [results, Tryd.results82, go_sem, *]) rfl ?_
              exact ⟨_, xs, rfl, O2.out, by omega, HS.out, D2.out.mono (by omega)⟩
        · go_wp2
          refine bodyPost_ret (v := u3) (by simp [results, Tryd.results82, go_sem, *]) rfl ?_
          exact ⟨_, xs, rfl, O1.out, by omega, HS.out, D1.out.mono (by omega)⟩
end Go.Proofs.YtmochhgmhhopoaaDoor
