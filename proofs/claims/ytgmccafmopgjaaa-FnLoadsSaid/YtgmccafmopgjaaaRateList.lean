/- Contracts on lists of loads: the program's areLoads, the reference's l19List, for all lists of at most 2^30 loads. -/
import Derived.Test.YtgmccafmopgjaaaLoadS
import Derived.Test.YtgmccafmopgjaaaRate3
import Derived.Test.YtgmccafmopgjaaaKeep
namespace Go.Proofs.Ytgmccafmopgjaaa
open Go.RowKit

/-- at most 20 valid loads, in ascending order of their ticks -/
def LsP (xs : List Ld) : Prop := xs.length ≤ 20 ∧ (∀ k (h : k < xs.length), ldB xs[k] = true) ∧ ∀ k (h : k + 1 < xs.length), xs[k].t ≤ xs[k + 1].t
open Classical in
noncomputable def lsB (xs : List Ld) : Bool := decide (LsP xs)
theorem lsB_true {xs : List Ld} : lsB xs = true ↔ LsP xs := by simp [lsB]
theorem lsB_false {xs : List Ld} : lsB xs = false ↔ ¬ LsP xs := by simp [lsB]

theorem bad_any (x : Ld) (w : World) :
    Calls Try.prog 87 #[x.v] w fun e w' => e = .returned (.bool (!ldB x)) ∧ Below w.heap.size w w' := by
  have H := Lib.hid (isLoad_any x)
  obtain ⟨t, s⟩ := x
  go_enter Try.func87, Try.ntmps87
  go_wp2_with fail
  refine (H.out _).mono ?_
  rintro e w1 ⟨rfl, hb⟩
  go_wp2
  go_ret
  exact ⟨rfl, Below.trans (by go_grown) (hb.mono (by simp <;> omega))⟩
theorem cmp_any (x y : Ld) (w : World) :
    Calls Try.prog 90 #[x.v, y.v] w fun e w' => e = .returned (.int .i64 (wrap64 (x.t - y.t))) ∧ (w.alloc (.cells #[.int .i64 x.t, .int .i64 x.s] 51)).alloc (.cells #[.int .i64 y.t, .int .i64 y.s] 51) = w' := by
  obtain ⟨t, s⟩ := x
  obtain ⟨t', s'⟩ := y
  go_enter Try.func90, Try.ntmps90
  go_wp2
  go_ret
  exact ⟨rfl, rfl⟩

/-- the first load that is not valid, from k on -/
def badAt (xs : List Ld) : Int := match xs.findIdx? (fun x => !ldB x) with | some k => k | none => -1
theorem index_any (v : Value) (xs : List Ld) (w : World) (h : RdLd w v xs) :
    Calls Try.prog 91 #[v, .func (.func 87) #[] #[]] w fun e w' => (∃ k : Int, e = .returned (.int .i64 k) ∧ (k = -1 ∧ (∀ j (h : j < xs.length), ldB xs[j] = true) ∨ 0 ≤ k ∧ ∃ j, ∃ (h : j < xs.length), ldB xs[j] = false)) ∧ Below w.heap.size w w' := by
  have hlen := h.2
  obtain ⟨p, cap, b, off, rfl, hcap, hp, hcell⟩ := h.parts
  have HC := Lib.hid hcell; clear hcell
  have HP := Lib.hid hp; clear hp
  go_enter Try.func91, Try.ntmps91
  go_wp2
  go_loopw [8] (fun i wr => ∃ (k : Nat), k ≤ xs.length ∧ i = .int .i64 k ∧ Below w.heap.size w wr ∧ Hid (∀ j (h : j < xs.length), j < k → ldB xs[j] = true))
    (fun i _ => xs.length - (intOf i).toNat)
  case atStart => exact ⟨0, Nat.zero_le _, rfl, Below.refl _ _, Lib.hid fun j _ h => absurd h (by omega)⟩
  case round =>
    obtain ⟨k, hk, rfl, hb, HF⟩ := hrel
    by_cases hlt : k < xs.length
    · obtain rfl := HP.out (by omega)
      obtain ⟨c1, c2⟩ := HC.out k hlt
      have c1 := (hb.cell (World.block_lt_of_cell? w _ c1)).trans c1
      have c2 := (hb.cell (World.block_lt_of_cell? w _ c2)).trans c2
      cases hx : ldB xs[k]
      · have HX := Lib.hid hx; clear hx
        go_wp2_with (go_at_call 87; refine (bad_any ⟨xs[k].t, xs[k].s⟩ _).mono ?_; rintro e w1 ⟨rfl, hb1⟩; rw [show ldB ⟨xs[k].t, xs[k].s⟩ = false from HX.out])
        go_ret
        exact ⟨⟨k, rfl, .inr ⟨by omega, k, hlt, HX.out⟩⟩, hb.trans (hb1.mono hb.size)⟩
      · have HX := Lib.hid hx; clear hx
        go_wp2_with (go_at_call 87; refine (bad_any ⟨xs[k].t, xs[k].s⟩ _).mono ?_; rintro e w1 ⟨rfl, hb1⟩; rw [show ldB ⟨xs[k].t, xs[k].s⟩ = true from HX.out])
        go_roundw
        case rel => exact ⟨k + 1, by omega, by go_num, hb.trans (hb1.mono hb.size), Lib.hid fun j h hj => (by
          by_cases he : j = k
          · subst he; exact HX.out
          · exact HF.out j h (by omega))⟩
        case measure => simp [intOf]; omega
    · go_wp2
      go_ret
      exact ⟨⟨-1, rfl, .inl ⟨rfl, fun j h => HF.out j h (by omega)⟩⟩, hb⟩
theorem contains_any (v : Value) (xs : List Ld) (w : World) (h : RdLd w v xs) :
    Calls Try.prog 86 #[v, .func (.func 87) #[] #[]] w fun e w' => (∃ r : Bool, e = .returned (.bool r) ∧ (r = false ∧ (∀ j (h : j < xs.length), ldB xs[j] = true) ∨ r = true ∧ ∃ j, ∃ (h : j < xs.length), ldB xs[j] = false)) ∧ Below w.heap.size w w' := by
  have H := Lib.hid (index_any v xs w h)
  obtain ⟨p, cap, b, off, rfl, _⟩ := h.parts
  clear h
  go_enter Try.func86, Try.ntmps86
  go_wp2_with fail
  refine H.out.mono ?_
  rintro e w1 ⟨⟨k, rfl, hk⟩, hb⟩
  rcases hk with ⟨rfl, h1⟩ | ⟨h0, h1⟩
  · have H1 := Lib.hid h1; clear h1
    go_wp2
    go_ret
    exact ⟨⟨false, rfl, .inl ⟨rfl, H1.out⟩⟩, hb⟩
  · have H1 := Lib.hid h1; clear h1
    go_wp2
    go_ret
    exact ⟨⟨true, rfl, .inr ⟨rfl, H1.out⟩⟩, hb⟩
theorem sorted_any (v : Value) (xs : List Ld) (w : World) (h : RdLd w v xs) (hg : ∀ j (h : j < xs.length), ldB xs[j] = true) :
    Calls Try.prog 89 #[v, .func (.func 90) #[] #[]] w fun e w' => (∃ r : Bool, e = .returned (.bool r) ∧ (r = true ↔ ∀ k (h : k + 1 < xs.length), xs[k].t ≤ xs[k + 1].t)) ∧ Below w.heap.size w w' := by
  have hlen := h.2
  obtain ⟨p, cap, b, off, rfl, hcap, hp, hcell⟩ := h.parts
  have HC := Lib.hid hcell; clear hcell
  have HP := Lib.hid hp; clear hp
  have HG := Lib.hid hg; clear hg
  go_enter Try.func89, Try.ntmps89
  go_wp2
  go_loopw [5] (fun i wr => ∃ (k : Int), -1 ≤ k ∧ k + 1 ≤ xs.length ∧ i = .int .i64 k ∧ Below w.heap.size w wr ∧ Hid (∀ j (h : j + 1 < xs.length), k ≤ j → xs[j].t ≤ xs[j + 1].t))
    (fun i _ => (intOf i + 1).toNat)
  case atStart => exact ⟨xs.length - 1, by omega, by omega, by go_num, Below.refl _ _, Lib.hid fun j h hj => absurd hj (by omega)⟩
  case round =>
    obtain ⟨k, hk0, hk1, rfl, hb, HF⟩ := hrel
    by_cases hlt : 0 < k
    · obtain ⟨m, hm⟩ : ∃ m : Nat, k = m := ⟨k.toNat, by omega⟩
      subst hm
      obtain ⟨n, hn⟩ : ∃ n : Nat, m = n + 1 := ⟨m - 1, by omega⟩
      have hm1 : m < xs.length := by omega
      have hn1 : n < xs.length := by omega
      obtain rfl := HP.out (by omega)
      obtain ⟨c1, c2⟩ := HC.out m hm1
      obtain ⟨d1, d2⟩ := HC.out n hn1
      have c1 := (hb.cell (World.block_lt_of_cell? w _ c1)).trans c1
      have c2 := (hb.cell (World.block_lt_of_cell? w _ c2)).trans c2
      have d1 := (hb.cell (World.block_lt_of_cell? w _ d1)).trans d1
      have d2 := (hb.cell (World.block_lt_of_cell? w _ d2)).trans d2
      obtain ⟨⟨g1, g2⟩, _⟩ := ldB_iff.1 (HG.out n hn1)
      obtain ⟨⟨g3, g4⟩, _⟩ := ldB_iff.1 (HG.out m hm1)
      have w1 : IntKind.i64.wrap ((m : Int) - 1) = n := by rw [IntKind.wrap_i64]; omega
      have hS := cmp_any ⟨xs[m].t, xs[m].s⟩ ⟨xs[n].t, xs[n].s⟩
      rw [show wrap64 ((⟨xs[m].t, xs[m].s⟩ : Ld).t - (⟨xs[n].t, xs[n].s⟩ : Ld).t) = xs[m].t - xs[n].t from by simp only [wrap64]; omega] at hS
      have HS := Lib.hid hS; clear hS
      have HN := Lib.hid hn; clear hn
      by_cases hlt2 : xs[m].t - xs[n].t < 0
      · go_wp2_with fail
        go_region_held3 (fun w' => w'.cell? ⟨b, off + m * 2, none⟩ = some (.int .i64 xs[m].t) ∧ w'.cell? ⟨b, off + m * 2 + 1, none⟩ = some (.int .i64 xs[m].s) ∧ w'.cell? ⟨b, off + n * 2, none⟩ = some (.int .i64 xs[n].t) ∧ w'.cell? ⟨b, off + n * 2 + 1, none⟩ = some (.int .i64 xs[n].s)) (go_keep)
          (first | (go_at_call 90; refine (HS.out _).mono ?_; rintro e w' ⟨rfl, rfl⟩))
        clear w1
        go_wp2
        go_ret
        refine ⟨⟨false, rfl, by simp only [Bool.false_eq_true, false_iff]; intro h; have := h n (by have := HN.out; omega); simp only [← HN.out] at this; omega⟩, by have := hb.size; go_grown⟩
      · go_wp2_with fail
        go_region_held3 (fun w' => w'.cell? ⟨b, off + m * 2, none⟩ = some (.int .i64 xs[m].t) ∧ w'.cell? ⟨b, off + m * 2 + 1, none⟩ = some (.int .i64 xs[m].s) ∧ w'.cell? ⟨b, off + n * 2, none⟩ = some (.int .i64 xs[n].t) ∧ w'.cell? ⟨b, off + n * 2 + 1, none⟩ = some (.int .i64 xs[n].s)) (go_keep)
          (first | (go_at_call 90; refine (HS.out _).mono ?_; rintro e w' ⟨rfl, rfl⟩))
        clear w1
        go_wp2
        go_roundw
        case rel =>
          refine ⟨m - 1, by omega, by omega, by go_num, by have := hb.size; go_grown, Lib.hid fun j h hj => ?_⟩
          by_cases he : (m : Int) ≤ j
          · exact HF.out j h he
          · have : j = n := by have := HN.out; omega
            subst this
            simp only [← HN.out]
            first | done | omega
        case measure => (simp [intOf]; try omega)
    · go_wp2
      go_ret
      exact ⟨.inr ⟨rfl, fun j h => HF.out j h (by omega)⟩, hb⟩

theorem areLoads_any (v : Value) (xs : List Ld) (w : World) (h : RdLd w v xs) :
    Calls Try.prog 67 #[v] w fun e w' => e = .returned (.bool (lsB xs)) ∧ Below w.heap.size w w' := by
  have hlen := h.2
  have HR := Lib.hid h
  have HX := Lib.hid (contains_any v xs w h)
  obtain ⟨p, cap, b, off, rfl, hcap, _⟩ := h.parts
  clear h
  by_cases h20 : xs.length ≤ 20
  · go_enter Try.func67, Try.ntmps67
    go_wp2_with fail
    refine HX.out.mono ?_
    rintro e w1 ⟨⟨r, rfl, hr⟩, hb⟩
    rcases hr with ⟨rfl, hr⟩ | ⟨rfl, hr⟩
    · have HY := Lib.hid (sorted_any _ xs w1 (HR.out.below hb) hr)
      have HG := Lib.hid hr; clear hr
      go_wp2_with fail
      refine HY.out.mono ?_
      rintro e w2 ⟨⟨r, rfl, hr⟩, hb2⟩
      have hv : lsB xs = r := by
        cases r
        · exact lsB_false.2 fun ⟨_, _, h3⟩ => absurd (hr.2 h3) (by simp)
        · exact lsB_true.2 ⟨h20, HG.out, hr.1 rfl⟩
      have HV := Lib.hid hv; clear hv hr
      go_wp2
      go_ret
      exact ⟨ret_bool HV.out.symm, hb.trans (hb2.mono hb.size)⟩
    · have hv : lsB xs = false := lsB_false.2 fun ⟨_, h2, _⟩ => by
        obtain ⟨j, hj, he⟩ := hr
        rw [h2 j hj] at he
        cases he
      have HV := Lib.hid hv; clear hv hr
      go_wp2
      go_ret
      exact ⟨ret_bool HV.out.symm, hb⟩
  · have hv : lsB xs = false := lsB_false.2 fun ⟨h1, _, _⟩ => h20 h1
    have HV := Lib.hid hv; clear hv
    go_enter Try.func67, Try.ntmps67
    go_wp2
    go_ret
    exact ⟨ret_bool HV.out.symm, Below.refl _ _⟩

set_option maxHeartbeats 1000000 in
theorem l19List_any (v : Value) (xs : List Ld) (w : World) (h : RdLd w v xs) :
    Calls Try.prog 68 #[v] w fun e w' => e = .returned (.bool (lsB xs)) ∧ Below w.heap.size w w' := by
  have hlen := h.2
  obtain ⟨p, cap, b, off, rfl, hcap, hp, hcell⟩ := h.parts
  have HC := Lib.hid hcell; clear hcell
  have HP := Lib.hid hp; clear hp
  go_enter Try.func68, Try.ntmps68
  go_wp2
  go_loopw [3] (fun i wr => ∃ (k : Nat), k ≤ xs.length ∧ i = .int .i64 k ∧ Below w.heap.size w wr ∧ Hid ((∀ j (h : j < xs.length), j < k → ldB xs[j] = true) ∧ ∀ j (h : j + 1 < xs.length), j + 1 < k → xs[j].t ≤ xs[j + 1].t))
    (fun i _ => xs.length - (intOf i).toNat)
  case atStart => exact ⟨0, Nat.zero_le _, rfl, Below.refl _ _, Lib.hid ⟨fun j _ h => absurd h (by omega), fun j _ h => absurd h (by omega)⟩⟩
  case round =>
    obtain ⟨k, hk, rfl, hb, HF⟩ := hrel
    by_cases hlt : k < xs.length
    · obtain rfl := HP.out (by omega)
      obtain ⟨c1, c2⟩ := HC.out k hlt
      have c1 := (hb.cell (World.block_lt_of_cell? w _ c1)).trans c1
      have c2 := (hb.cell (World.block_lt_of_cell? w _ c2)).trans c2
      have hz := hb.size
      have hL := l19Load_any ⟨xs[k].t, xs[k].s⟩
      cases hx : ldB xs[k]
      · rw [show ldB ⟨xs[k].t, xs[k].s⟩ = false from hx] at hL
        have HL := Lib.hid hL; clear hL
        have HV : Hid (lsB xs = false) := Lib.hid (lsB_false.2 fun ⟨_, h2, _⟩ => by rw [h2 k hlt] at hx; cases hx)
        clear hx
        go_wp2_with fail
        refine wp_region_held_drew (S := (fun w' => Below w.heap.size w w' ∧ w'.cell? ⟨b, off + k * 2, none⟩ = some (.int .i64 xs[k].t) ∧ w'.cell? ⟨b, off + k * 2 + 1, none⟩ = some (.int .i64 xs[k].s))) (by kernel_rfl) ?rx1s (fun hHeld => ?rx10)
        case rx1s => ((try dsimp only); exact ⟨hb.drew, c1, c2⟩)
        try simp only [Act.put, List.setIfInBounds_toArray, List.set_cons_zero, List.set_cons_succ]
        refine take_at 0 (some 10) (v := ?vx1_1) rfl rfl (by kernel_rfl) (by kernel_rfl) (by kernel_rfl) (fun _ _ _ h => h) (Or.inl ⟨by kernel_rfl, ?yx1_1⟩) hHeld ?zx1_1
        case yx1_1 => (intro wS hSw; (try dsimp only at hSw); go_simp; (try with_reducible rfl))
        try simp only [Act.put, List.setIfInBounds_toArray, List.set_cons_zero, List.set_cons_succ]
        refine take_at 1 (some 11) (v := ?vx1_2) rfl rfl (by kernel_rfl) (by kernel_rfl) (by kernel_rfl) (fun _ _ _ h => h) (Or.inl ⟨by kernel_rfl, ?yx1_2⟩) hHeld ?zx1_2
        case yx1_2 => (intro wS hSw; (try dsimp only at hSw); go_simp; (try with_reducible rfl))
        try simp only [Act.put, List.setIfInBounds_toArray, List.set_cons_zero, List.set_cons_succ]
        refine take_at 2 (some 12) (v := ?vx1_3) rfl rfl (by kernel_rfl) (by kernel_rfl) (by kernel_rfl) (fun _ _ _ h => h) (Or.inl ⟨by kernel_rfl, ?yx1_3⟩) hHeld ?zx1_3
        case yx1_3 => (intro wS hSw; (try dsimp only at hSw); go_simp; (try with_reducible rfl))
        try simp only [Act.put, List.setIfInBounds_toArray, List.set_cons_zero, List.set_cons_succ]
        refine take_at 3 (some 13) (v := ?vx1_4) rfl rfl (by kernel_rfl) (by kernel_rfl) (by kernel_rfl) (fun _ _ _ h => h) (Or.inl ⟨by kernel_rfl, ?yx1_4⟩) hHeld ?zx1_4
        case yx1_4 => (intro wS hSw; (try dsimp only at hSw); go_simp; (try with_reducible rfl))
        try simp only [Act.put, List.setIfInBounds_toArray, List.set_cons_zero, List.set_cons_succ]
        refine wpAnyH_ready (rs := [4]) (by kernel_rfl) (by simp) ?_
        refine cons_at (some 14) rfl rfl (by kernel_rfl) (fun K hK => ?kx1_6) AllReadyH.nil
        go_simp
        (go_at_call 81; refine (HL.out _).mono ?_; rintro e w' ⟨rfl, hbel⟩)
        try go_wp2_with fail
        refine hK.out _ _ ?sx1_6 (fun hHeld => ?_)
        case sx1_6 => ((try dsimp only); exact keepB2 (by assumption) hbel)
        clear hK K
        try simp only [Act.put, List.setIfInBounds_toArray, List.set_cons_zero, List.set_cons_succ]
        refine take_at 5 (some 15) (v := ?vx1_7) rfl rfl (by kernel_rfl) (by kernel_rfl) (by kernel_rfl) (fun _ _ _ h => h) (Or.inl ⟨by kernel_rfl, ?yx1_7⟩) hHeld ?zx1_7
        case yx1_7 => (intro wS hSw; (try dsimp only at hSw); go_simp; (try with_reducible rfl))
        try simp only [Act.put, List.setIfInBounds_toArray, List.set_cons_zero, List.set_cons_succ]
        refine take_at 6 (some 16) (v := ?vx1_8) rfl rfl (by kernel_rfl) (by kernel_rfl) (by kernel_rfl) (fun _ _ _ h => h) (Or.inl ⟨by kernel_rfl, ?yx1_8⟩) hHeld ?zx1_8
        case yx1_8 => (intro wS hSw; (try dsimp only at hSw); go_simp; (try with_reducible rfl))
        try simp only [Act.put, List.setIfInBounds_toArray, List.set_cons_zero, List.set_cons_succ]
        refine take_at 7 (some 17) (v := undef) rfl rfl (by kernel_rfl) (by kernel_rfl) (by kernel_rfl) (fun _ _ _ h => h) (Or.inr ⟨by kernel_rfl, rfl⟩) hHeld ?_
        try simp only [Act.put, List.setIfInBounds_toArray, List.set_cons_zero, List.set_cons_succ]
        refine take_at 8 (some 18) (v := undef) rfl rfl (by kernel_rfl) (by kernel_rfl) (by kernel_rfl) (fun _ _ _ h => h) (Or.inr ⟨by kernel_rfl, rfl⟩) hHeld ?_
        try simp only [Act.put, List.setIfInBounds_toArray, List.set_cons_zero, List.set_cons_succ]
        refine take_at 9 (some 19) (v := undef) rfl rfl (by kernel_rfl) (by kernel_rfl) (by kernel_rfl) (fun _ _ _ h => h) (Or.inr ⟨by kernel_rfl, rfl⟩) hHeld ?_
        try simp only [Act.put, List.setIfInBounds_toArray, List.set_cons_zero, List.set_cons_succ]
        refine take_at 10 (some 20) (v := undef) rfl rfl (by kernel_rfl) (by kernel_rfl) (by kernel_rfl) (fun _ _ _ h => h) (Or.inr ⟨by kernel_rfl, rfl⟩) hHeld ?_
        try simp only [Act.put, List.setIfInBounds_toArray, List.set_cons_zero, List.set_cons_succ]
        refine take_at 11 (some 21) (v := undef) rfl rfl (by kernel_rfl) (by kernel_rfl) (by kernel_rfl) (fun _ _ _ h => h) (Or.inr ⟨by kernel_rfl, rfl⟩) hHeld ?_
        try simp only [Act.put, List.setIfInBounds_toArray, List.set_cons_zero, List.set_cons_succ]
        refine take_at 12 (some 22) (v := undef) rfl rfl (by kernel_rfl) (by kernel_rfl) (by kernel_rfl) (fun _ _ _ h => h) (Or.inr ⟨by kernel_rfl, rfl⟩) hHeld ?_
        try simp only [Act.put, List.setIfInBounds_toArray, List.set_cons_zero, List.set_cons_succ]
        refine take_at 13 (some 23) (v := undef) rfl rfl (by kernel_rfl) (by kernel_rfl) (by kernel_rfl) (fun _ _ _ h => h) (Or.inr ⟨by kernel_rfl, rfl⟩) hHeld ?_
        try simp only [Act.put, List.setIfInBounds_toArray, List.set_cons_zero, List.set_cons_succ]
        refine take_at 14 (some 24) (v := undef) rfl rfl (by kernel_rfl) (by kernel_rfl) (by kernel_rfl) (fun _ _ _ h => h) (Or.inr ⟨by kernel_rfl, rfl⟩) hHeld ?_
        try simp only [Act.put, List.setIfInBounds_toArray, List.set_cons_zero, List.set_cons_succ]
        refine take_at 15 (some 25) (v := undef) rfl rfl (by kernel_rfl) (by kernel_rfl) (by kernel_rfl) (fun _ _ _ h => h) (Or.inr ⟨by kernel_rfl, rfl⟩) hHeld ?_
        try simp only [Act.put, List.setIfInBounds_toArray, List.set_cons_zero, List.set_cons_succ]
        refine take_at 16 (some 26) (v := undef) rfl rfl (by kernel_rfl) (by kernel_rfl) (by kernel_rfl) (fun _ _ _ h => h) (Or.inr ⟨by kernel_rfl, rfl⟩) hHeld ?_
        try simp only [Act.put, List.setIfInBounds_toArray, List.set_cons_zero, List.set_cons_succ]
        refine take_at 17 (some 27) (v := undef) rfl rfl (by kernel_rfl) (by kernel_rfl) (by kernel_rfl) (fun _ _ _ h => h) (Or.inr ⟨by kernel_rfl, rfl⟩) hHeld ?_
        try simp only [Act.put, List.setIfInBounds_toArray, List.set_cons_zero, List.set_cons_succ]
        refine take_at 18 (some 28) (v := undef) rfl rfl (by kernel_rfl) (by kernel_rfl) (by kernel_rfl) (fun _ _ _ h => h) (Or.inr ⟨by kernel_rfl, rfl⟩) hHeld ?_
        try simp only [Act.put, List.setIfInBounds_toArray, List.set_cons_zero, List.set_cons_succ]
        refine take_at 19 (some 29) (v := undef) rfl rfl (by kernel_rfl) (by kernel_rfl) (by kernel_rfl) (fun _ _ _ h => h) (Or.inr ⟨by kernel_rfl, rfl⟩) hHeld ?_
        try simp only [Act.put, List.setIfInBounds_toArray, List.set_cons_zero, List.set_cons_succ]
        refine take_at 20 (some 30) (v := undef) rfl rfl (by kernel_rfl) (by kernel_rfl) (by kernel_rfl) (fun _ _ _ h => h) (Or.inr ⟨by kernel_rfl, rfl⟩) hHeld ?_
        try simp only [Act.put, List.setIfInBounds_toArray, List.set_cons_zero, List.set_cons_succ]
        refine take_at 21 (some 31) (v := undef) rfl rfl (by kernel_rfl) (by kernel_rfl) (by kernel_rfl) (fun _ _ _ h => h) (Or.inr ⟨by kernel_rfl, rfl⟩) hHeld ?_
        try simp only [Act.put, List.setIfInBounds_toArray, List.set_cons_zero, List.set_cons_succ]
        refine take_at 22 (some 32) (v := undef) rfl rfl (by kernel_rfl) (by kernel_rfl) (by kernel_rfl) (fun _ _ _ h => h) (Or.inr ⟨by kernel_rfl, rfl⟩) hHeld ?_
        try simp only [Act.put, List.setIfInBounds_toArray, List.set_cons_zero, List.set_cons_succ]
        refine take_at 23 (some 33) (v := ?vx1_25) rfl rfl (by kernel_rfl) (by kernel_rfl) (by kernel_rfl) (fun _ _ _ h => h) (Or.inl ⟨by kernel_rfl, ?yx1_25⟩) hHeld ?zx1_25
        case yx1_25 => (intro wS hSw; (try dsimp only at hSw); go_simp; (try with_reducible rfl))
        try simp only [Act.put, List.setIfInBounds_toArray, List.set_cons_zero, List.set_cons_succ]
        refine wpAnyH_done (by kernel_rfl) ?_ _
        go_wp2
        go_ret
        exact ⟨ret_bool HV.out.symm, hHeld.1⟩
      · rw [show ldB ⟨xs[k].t, xs[k].s⟩ = true from hx] at hL
        have HL := Lib.hid hL; clear hL
        have HG := Lib.hid hx; clear hx
        by_cases hk0 : k = 0
        · subst hk0
          simp only [Nat.zero_mul, Nat.add_zero] at c1 c2
          go_wp2_with fail
          refine wp_region_held_drew (S := (fun w' => Below w.heap.size w w' ∧ w'.cell? ⟨b, off, none⟩ = some (.int .i64 xs[0].t) ∧ w'.cell? ⟨b, off + 1, none⟩ = some (.int .i64 xs[0].s))) (by kernel_rfl) ?rx2s (fun hHeld => ?rx20)
          case rx2s => ((try dsimp only); exact ⟨hb.drew, c1, c2⟩)
          try simp only [Act.put, List.setIfInBounds_toArray, List.set_cons_zero, List.set_cons_succ]
          refine take_at 0 (some 10) (v := ?vx2_1) rfl rfl (by kernel_rfl) (by kernel_rfl) (by kernel_rfl) (fun _ _ _ h => h) (Or.inl ⟨by kernel_rfl, ?yx2_1⟩) hHeld ?zx2_1
          case yx2_1 => (intro wS hSw; (try dsimp only at hSw); go_simp; (try with_reducible rfl))
          try simp only [Act.put, List.setIfInBounds_toArray, List.set_cons_zero, List.set_cons_succ]
          refine take_at 1 (some 11) (v := ?vx2_2) rfl rfl (by kernel_rfl) (by kernel_rfl) (by kernel_rfl) (fun _ _ _ h => h) (Or.inl ⟨by kernel_rfl, ?yx2_2⟩) hHeld ?zx2_2
          case yx2_2 => (intro wS hSw; (try dsimp only at hSw); go_simp; (try with_reducible rfl))
          try simp only [Act.put, List.setIfInBounds_toArray, List.set_cons_zero, List.set_cons_succ]
          refine take_at 2 (some 12) (v := ?vx2_3) rfl rfl (by kernel_rfl) (by kernel_rfl) (by kernel_rfl) (fun _ _ _ h => h) (Or.inl ⟨by kernel_rfl, ?yx2_3⟩) hHeld ?zx2_3
          case yx2_3 => (intro wS hSw; (try dsimp only at hSw); go_simp; (try with_reducible rfl))
          try simp only [Act.put, List.setIfInBounds_toArray, List.set_cons_zero, List.set_cons_succ]
          refine take_at 3 (some 13) (v := ?vx2_4) rfl rfl (by kernel_rfl) (by kernel_rfl) (by kernel_rfl) (fun _ _ _ h => h) (Or.inl ⟨by kernel_rfl, ?yx2_4⟩) hHeld ?zx2_4
          case yx2_4 => (intro wS hSw; (try dsimp only at hSw); go_simp; (try with_reducible rfl))
          try simp only [Act.put, List.setIfInBounds_toArray, List.set_cons_zero, List.set_cons_succ]
          refine wpAnyH_ready (rs := [4]) (by kernel_rfl) (by simp) ?_
          refine cons_at (some 14) rfl rfl (by kernel_rfl) (fun K hK => ?kx2_6) AllReadyH.nil
          go_simp
          (go_at_call 81; refine (HL.out _).mono ?_; rintro e w' ⟨rfl, hbel⟩)
          try go_wp2_with fail
          refine hK.out _ _ ?sx2_6 (fun hHeld => ?_)
          case sx2_6 => ((try dsimp only); exact keepB2 (by assumption) hbel)
          clear hK K
          try simp only [Act.put, List.setIfInBounds_toArray, List.set_cons_zero, List.set_cons_succ]
          refine take_at 5 (some 15) (v := ?vx2_7) rfl rfl (by kernel_rfl) (by kernel_rfl) (by kernel_rfl) (fun _ _ _ h => h) (Or.inl ⟨by kernel_rfl, ?yx2_7⟩) hHeld ?zx2_7
          case yx2_7 => (intro wS hSw; (try dsimp only at hSw); go_simp; (try with_reducible rfl))
          try simp only [Act.put, List.setIfInBounds_toArray, List.set_cons_zero, List.set_cons_succ]
          refine take_at 6 (some 16) (v := ?vx2_8) rfl rfl (by kernel_rfl) (by kernel_rfl) (by kernel_rfl) (fun _ _ _ h => h) (Or.inl ⟨by kernel_rfl, ?yx2_8⟩) hHeld ?zx2_8
          case yx2_8 => (intro wS hSw; (try dsimp only at hSw); go_simp; (try with_reducible rfl))
          try simp only [Act.put, List.setIfInBounds_toArray, List.set_cons_zero, List.set_cons_succ]
          refine take_at 7 (some 17) (v := ?vx2_9) rfl rfl (by kernel_rfl) (by kernel_rfl) (by kernel_rfl) (fun _ _ _ h => h) (Or.inl ⟨by kernel_rfl, ?yx2_9⟩) hHeld ?zx2_9
          case yx2_9 => (intro wS hSw; (try dsimp only at hSw); go_simp; (try with_reducible rfl))
          try simp only [Act.put, List.setIfInBounds_toArray, List.set_cons_zero, List.set_cons_succ]
          refine take_at 8 (some 18) (v := ?vx2_10) rfl rfl (by kernel_rfl) (by kernel_rfl) (by kernel_rfl) (fun _ _ _ h => h) (Or.inl ⟨by kernel_rfl, ?yx2_10⟩) hHeld ?zx2_10
          case yx2_10 => (intro wS hSw; (try dsimp only at hSw); go_simp; (try with_reducible rfl))
          try simp only [Act.put, List.setIfInBounds_toArray, List.set_cons_zero, List.set_cons_succ]
          refine take_at 9 (some 19) (v := ?vx2_11) rfl rfl (by kernel_rfl) (by kernel_rfl) (by kernel_rfl) (fun _ _ _ h => h) (Or.inl ⟨by kernel_rfl, ?yx2_11⟩) hHeld ?zx2_11
          case yx2_11 => (intro wS hSw; (try dsimp only at hSw); go_simp; (try with_reducible rfl))
          try simp only [Act.put, List.setIfInBounds_toArray, List.set_cons_zero, List.set_cons_succ]
          refine take_at 10 (some 20) (v := undef) rfl rfl (by kernel_rfl) (by kernel_rfl) (by kernel_rfl) (fun _ _ _ h => h) (Or.inr ⟨by kernel_rfl, rfl⟩) hHeld ?_
          try simp only [Act.put, List.setIfInBounds_toArray, List.set_cons_zero, List.set_cons_succ]
          refine take_at 11 (some 21) (v := undef) rfl rfl (by kernel_rfl) (by kernel_rfl) (by kernel_rfl) (fun _ _ _ h => h) (Or.inr ⟨by kernel_rfl, rfl⟩) hHeld ?_
          try simp only [Act.put, List.setIfInBounds_toArray, List.set_cons_zero, List.set_cons_succ]
          refine take_at 12 (some 22) (v := undef) rfl rfl (by kernel_rfl) (by kernel_rfl) (by kernel_rfl) (fun _ _ _ h => h) (Or.inr ⟨by kernel_rfl, rfl⟩) hHeld ?_
          try simp only [Act.put, List.setIfInBounds_toArray, List.set_cons_zero, List.set_cons_succ]
          refine take_at 13 (some 23) (v := undef) rfl rfl (by kernel_rfl) (by kernel_rfl) (by kernel_rfl) (fun _ _ _ h => h) (Or.inr ⟨by kernel_rfl, rfl⟩) hHeld ?_
          try simp only [Act.put, List.setIfInBounds_toArray, List.set_cons_zero, List.set_cons_succ]
          refine take_at 14 (some 24) (v := undef) rfl rfl (by kernel_rfl) (by kernel_rfl) (by kernel_rfl) (fun _ _ _ h => h) (Or.inr ⟨by kernel_rfl, rfl⟩) hHeld ?_
          try simp only [Act.put, List.setIfInBounds_toArray, List.set_cons_zero, List.set_cons_succ]
          refine take_at 15 (some 25) (v := undef) rfl rfl (by kernel_rfl) (by kernel_rfl) (by kernel_rfl) (fun _ _ _ h => h) (Or.inr ⟨by kernel_rfl, rfl⟩) hHeld ?_
          try simp only [Act.put, List.setIfInBounds_toArray, List.set_cons_zero, List.set_cons_succ]
          refine take_at 16 (some 26) (v := undef) rfl rfl (by kernel_rfl) (by kernel_rfl) (by kernel_rfl) (fun _ _ _ h => h) (Or.inr ⟨by kernel_rfl, rfl⟩) hHeld ?_
          try simp only [Act.put, List.setIfInBounds_toArray, List.set_cons_zero, List.set_cons_succ]
          refine take_at 17 (some 27) (v := undef) rfl rfl (by kernel_rfl) (by kernel_rfl) (by kernel_rfl) (fun _ _ _ h => h) (Or.inr ⟨by kernel_rfl, rfl⟩) hHeld ?_
          try simp only [Act.put, List.setIfInBounds_toArray, List.set_cons_zero, List.set_cons_succ]
          refine take_at 18 (some 28) (v := undef) rfl rfl (by kernel_rfl) (by kernel_rfl) (by kernel_rfl) (fun _ _ _ h => h) (Or.inr ⟨by kernel_rfl, rfl⟩) hHeld ?_
          try simp only [Act.put, List.setIfInBounds_toArray, List.set_cons_zero, List.set_cons_succ]
          refine take_at 19 (some 29) (v := undef) rfl rfl (by kernel_rfl) (by kernel_rfl) (by kernel_rfl) (fun _ _ _ h => h) (Or.inr ⟨by kernel_rfl, rfl⟩) hHeld ?_
          try simp only [Act.put, List.setIfInBounds_toArray, List.set_cons_zero, List.set_cons_succ]
          refine take_at 20 (some 30) (v := undef) rfl rfl (by kernel_rfl) (by kernel_rfl) (by kernel_rfl) (fun _ _ _ h => h) (Or.inr ⟨by kernel_rfl, rfl⟩) hHeld ?_
          try simp only [Act.put, List.setIfInBounds_toArray, List.set_cons_zero, List.set_cons_succ]
          refine take_at 21 (some 31) (v := undef) rfl rfl (by kernel_rfl) (by kernel_rfl) (by kernel_rfl) (fun _ _ _ h => h) (Or.inr ⟨by kernel_rfl, rfl⟩) hHeld ?_
          try simp only [Act.put, List.setIfInBounds_toArray, List.set_cons_zero, List.set_cons_succ]
          refine take_at 22 (some 32) (v := ?vx2_24) rfl rfl (by kernel_rfl) (by kernel_rfl) (by kernel_rfl) (fun _ _ _ h => h) (Or.inl ⟨by kernel_rfl, ?yx2_24⟩) hHeld ?zx2_24
          case yx2_24 => (intro wS hSw; (try dsimp only at hSw); go_simp; (try with_reducible rfl))
          try simp only [Act.put, List.setIfInBounds_toArray, List.set_cons_zero, List.set_cons_succ]
          refine take_at 23 (some 33) (v := ?vx2_25) rfl rfl (by kernel_rfl) (by kernel_rfl) (by kernel_rfl) (fun _ _ _ h => h) (Or.inl ⟨by kernel_rfl, ?yx2_25⟩) hHeld ?zx2_25
          case yx2_25 => (intro wS hSw; (try dsimp only at hSw); go_simp; (try with_reducible rfl))
          try simp only [Act.put, List.setIfInBounds_toArray, List.set_cons_zero, List.set_cons_succ]
          refine wpAnyH_done (by kernel_rfl) ?_ _
          go_wp2
          go_roundw
          case rel => exact ⟨1, by omega, by go_num, hHeld.1, Lib.hid ⟨fun j h hj => (by have hj0 : j = 0 := (by omega); subst hj0; exact HG.out), fun j h hj => absurd hj (by omega)⟩⟩
          case measure => simp [intOf]; omega
        · obtain ⟨m, hm⟩ : ∃ m : Nat, k = m + 1 := ⟨k - 1, by omega⟩
          have hm1 : m < xs.length := by omega
          have hk1 : 0 < k := by omega
          obtain ⟨d1, d2⟩ := HC.out m hm1
          have d1 := (hb.cell (World.block_lt_of_cell? w _ d1)).trans d1
          clear d2
          have w1 : IntKind.i64.wrap ((k : Int) - 1) = m := by rw [IntKind.wrap_i64]; omega
          have HM := Lib.hid hm; clear hm hk0
          by_cases hgt : xs[k].t < xs[m].t
          · have HV : Hid (lsB xs = false) := Lib.hid (lsB_false.2 fun ⟨_, _, h3⟩ => by
              have := h3 m (by have := HM.out; omega)
              simp only [← HM.out] at this
              omega)
            go_wp2_with fail
            refine wp_region_held_drew (S := (fun w' => Below w.heap.size w w' ∧ w'.cell? ⟨b, off + k * 2, none⟩ = some (.int .i64 xs[k].t) ∧ w'.cell? ⟨b, off + k * 2 + 1, none⟩ = some (.int .i64 xs[k].s) ∧ w'.cell? ⟨b, off + m * 2, none⟩ = some (.int .i64 xs[m].t))) (by kernel_rfl) ?rx3s (fun hHeld => ?rx30)
            case rx3s => ((try dsimp only); exact ⟨hb.drew, c1, c2, d1⟩)
            try simp only [Act.put, List.setIfInBounds_toArray, List.set_cons_zero, List.set_cons_succ]
            refine take_at 0 (some 10) (v := ?vx3_1) rfl rfl (by kernel_rfl) (by kernel_rfl) (by kernel_rfl) (fun _ _ _ h => h) (Or.inl ⟨by kernel_rfl, ?yx3_1⟩) hHeld ?zx3_1
            case yx3_1 => (intro wS hSw; (try dsimp only at hSw); go_simp; (try with_reducible rfl))
            try simp only [Act.put, List.setIfInBounds_toArray, List.set_cons_zero, List.set_cons_succ]
            refine take_at 1 (some 11) (v := ?vx3_2) rfl rfl (by kernel_rfl) (by kernel_rfl) (by kernel_rfl) (fun _ _ _ h => h) (Or.inl ⟨by kernel_rfl, ?yx3_2⟩) hHeld ?zx3_2
            case yx3_2 => (intro wS hSw; (try dsimp only at hSw); go_simp; (try with_reducible rfl))
            try simp only [Act.put, List.setIfInBounds_toArray, List.set_cons_zero, List.set_cons_succ]
            refine take_at 2 (some 12) (v := ?vx3_3) rfl rfl (by kernel_rfl) (by kernel_rfl) (by kernel_rfl) (fun _ _ _ h => h) (Or.inl ⟨by kernel_rfl, ?yx3_3⟩) hHeld ?zx3_3
            case yx3_3 => (intro wS hSw; (try dsimp only at hSw); go_simp; (try with_reducible rfl))
            try simp only [Act.put, List.setIfInBounds_toArray, List.set_cons_zero, List.set_cons_succ]
            refine take_at 3 (some 13) (v := ?vx3_4) rfl rfl (by kernel_rfl) (by kernel_rfl) (by kernel_rfl) (fun _ _ _ h => h) (Or.inl ⟨by kernel_rfl, ?yx3_4⟩) hHeld ?zx3_4
            case yx3_4 => (intro wS hSw; (try dsimp only at hSw); go_simp; (try with_reducible rfl))
            try simp only [Act.put, List.setIfInBounds_toArray, List.set_cons_zero, List.set_cons_succ]
            refine wpAnyH_ready (rs := [4]) (by kernel_rfl) (by simp) ?_
            refine cons_at (some 14) rfl rfl (by kernel_rfl) (fun K hK => ?kx3_6) AllReadyH.nil
            go_simp
            (go_at_call 81; refine (HL.out _).mono ?_; rintro e w' ⟨rfl, hbel⟩)
            try go_wp2_with fail
            refine hK.out _ _ ?sx3_6 (fun hHeld => ?_)
            case sx3_6 => ((try dsimp only); exact keepB3 (by assumption) hbel)
            clear hK K
            try simp only [Act.put, List.setIfInBounds_toArray, List.set_cons_zero, List.set_cons_succ]
            refine take_at 5 (some 15) (v := ?vx3_7) rfl rfl (by kernel_rfl) (by kernel_rfl) (by kernel_rfl) (fun _ _ _ h => h) (Or.inl ⟨by kernel_rfl, ?yx3_7⟩) hHeld ?zx3_7
            case yx3_7 => (intro wS hSw; (try dsimp only at hSw); go_simp; (try with_reducible rfl))
            try simp only [Act.put, List.setIfInBounds_toArray, List.set_cons_zero, List.set_cons_succ]
            refine take_at 6 (some 16) (v := ?vx3_8) rfl rfl (by kernel_rfl) (by kernel_rfl) (by kernel_rfl) (fun _ _ _ h => h) (Or.inl ⟨by kernel_rfl, ?yx3_8⟩) hHeld ?zx3_8
            case yx3_8 => (intro wS hSw; (try dsimp only at hSw); go_simp; (try with_reducible rfl))
            try simp only [Act.put, List.setIfInBounds_toArray, List.set_cons_zero, List.set_cons_succ]
            refine take_at 7 (some 17) (v := ?vx3_9) rfl rfl (by kernel_rfl) (by kernel_rfl) (by kernel_rfl) (fun _ _ _ h => h) (Or.inl ⟨by kernel_rfl, ?yx3_9⟩) hHeld ?zx3_9
            case yx3_9 => (intro wS hSw; (try dsimp only at hSw); go_simp; (try with_reducible rfl))
            try simp only [Act.put, List.setIfInBounds_toArray, List.set_cons_zero, List.set_cons_succ]
            refine take_at 8 (some 18) (v := ?vx3_10) rfl rfl (by kernel_rfl) (by kernel_rfl) (by kernel_rfl) (fun _ _ _ h => h) (Or.inl ⟨by kernel_rfl, ?yx3_10⟩) hHeld ?zx3_10
            case yx3_10 => (intro wS hSw; (try dsimp only at hSw); go_simp; (try with_reducible rfl))
            try simp only [Act.put, List.setIfInBounds_toArray, List.set_cons_zero, List.set_cons_succ]
            refine take_at 9 (some 19) (v := ?vx3_11) rfl rfl (by kernel_rfl) (by kernel_rfl) (by kernel_rfl) (fun _ _ _ h => h) (Or.inl ⟨by kernel_rfl, ?yx3_11⟩) hHeld ?zx3_11
            case yx3_11 => (intro wS hSw; (try dsimp only at hSw); go_simp; (try with_reducible rfl))
            try simp only [Act.put, List.setIfInBounds_toArray, List.set_cons_zero, List.set_cons_succ]
            refine take_at 10 (some 20) (v := ?vx3_12) rfl rfl (by kernel_rfl) (by kernel_rfl) (by kernel_rfl) (fun _ _ _ h => h) (Or.inl ⟨by kernel_rfl, ?yx3_12⟩) hHeld ?zx3_12
            case yx3_12 => (intro wS hSw; (try dsimp only at hSw); go_simp; (try with_reducible rfl))
            try simp only [Act.put, List.setIfInBounds_toArray, List.set_cons_zero, List.set_cons_succ]
            refine take_at 11 (some 21) (v := ?vx3_13) rfl rfl (by kernel_rfl) (by kernel_rfl) (by kernel_rfl) (fun _ _ _ h => h) (Or.inl ⟨by kernel_rfl, ?yx3_13⟩) hHeld ?zx3_13
            case yx3_13 => (intro wS hSw; (try dsimp only at hSw); go_simp; (try with_reducible rfl))
            try simp only [Act.put, List.setIfInBounds_toArray, List.set_cons_zero, List.set_cons_succ]
            refine take_at 12 (some 22) (v := ?vx3_14) rfl rfl (by kernel_rfl) (by kernel_rfl) (by kernel_rfl) (fun _ _ _ h => h) (Or.inl ⟨by kernel_rfl, ?yx3_14⟩) hHeld ?zx3_14
            case yx3_14 => (intro wS hSw; (try dsimp only at hSw); go_simp; (try with_reducible rfl))
            try simp only [Act.put, List.setIfInBounds_toArray, List.set_cons_zero, List.set_cons_succ]
            refine take_at 13 (some 23) (v := ?vx3_15) rfl rfl (by kernel_rfl) (by kernel_rfl) (by kernel_rfl) (fun _ _ _ h => h) (Or.inl ⟨by kernel_rfl, ?yx3_15⟩) hHeld ?zx3_15
            case yx3_15 => (intro wS hSw; (try dsimp only at hSw); go_simp; (try with_reducible rfl))
            try simp only [Act.put, List.setIfInBounds_toArray, List.set_cons_zero, List.set_cons_succ]
            refine take_at 14 (some 24) (v := ?vx3_16) rfl rfl (by kernel_rfl) (by kernel_rfl) (by kernel_rfl) (fun _ _ _ h => h) (Or.inl ⟨by kernel_rfl, ?yx3_16⟩) hHeld ?zx3_16
            case yx3_16 => (intro wS hSw; (try dsimp only at hSw); go_simp; (try with_reducible rfl))
            try simp only [Act.put, List.setIfInBounds_toArray, List.set_cons_zero, List.set_cons_succ]
            refine take_at 15 (some 25) (v := ?vx3_17) rfl rfl (by kernel_rfl) (by kernel_rfl) (by kernel_rfl) (fun _ _ _ h => h) (Or.inl ⟨by kernel_rfl, ?yx3_17⟩) hHeld ?zx3_17
            case yx3_17 => (intro wS hSw; (try dsimp only at hSw); go_simp; (try with_reducible rfl))
            try simp only [Act.put, List.setIfInBounds_toArray, List.set_cons_zero, List.set_cons_succ]
            refine take_at 16 (some 26) (v := ?vx3_18) rfl rfl (by kernel_rfl) (by kernel_rfl) (by kernel_rfl) (fun _ _ _ h => h) (Or.inl ⟨by kernel_rfl, ?yx3_18⟩) hHeld ?zx3_18
            case yx3_18 => (intro wS hSw; (try dsimp only at hSw); go_simp; (try with_reducible rfl))
            try simp only [Act.put, List.setIfInBounds_toArray, List.set_cons_zero, List.set_cons_succ]
            refine take_at 17 (some 27) (v := ?vx3_19) rfl rfl (by kernel_rfl) (by kernel_rfl) (by kernel_rfl) (fun _ _ _ h => h) (Or.inl ⟨by kernel_rfl, ?yx3_19⟩) hHeld ?zx3_19
            case yx3_19 => (intro wS hSw; (try dsimp only at hSw); go_simp; (try with_reducible rfl))
            try simp only [Act.put, List.setIfInBounds_toArray, List.set_cons_zero, List.set_cons_succ]
            refine take_at 18 (some 28) (v := ?vx3_20) rfl rfl (by kernel_rfl) (by kernel_rfl) (by kernel_rfl) (fun _ _ _ h => h) (Or.inl ⟨by kernel_rfl, ?yx3_20⟩) hHeld ?zx3_20
            case yx3_20 => (intro wS hSw; (try dsimp only at hSw); go_simp; (try with_reducible rfl))
            try simp only [Act.put, List.setIfInBounds_toArray, List.set_cons_zero, List.set_cons_succ]
            refine take_at 19 (some 29) (v := ?vx3_21) rfl rfl (by kernel_rfl) (by kernel_rfl) (by kernel_rfl) (fun _ _ _ h => h) (Or.inl ⟨by kernel_rfl, ?yx3_21⟩) hHeld ?zx3_21
            case yx3_21 => (intro wS hSw; (try dsimp only at hSw); go_simp; (try with_reducible rfl))
            try simp only [Act.put, List.setIfInBounds_toArray, List.set_cons_zero, List.set_cons_succ]
            refine take_at 20 (some 30) (v := ?vx3_22) rfl rfl (by kernel_rfl) (by kernel_rfl) (by kernel_rfl) (fun _ _ _ h => h) (Or.inl ⟨by kernel_rfl, ?yx3_22⟩) hHeld ?zx3_22
            case yx3_22 => (intro wS hSw; (try dsimp only at hSw); go_simp; (try with_reducible rfl))
            try simp only [Act.put, List.setIfInBounds_toArray, List.set_cons_zero, List.set_cons_succ]
            refine take_at 21 (some 31) (v := ?vx3_23) rfl rfl (by kernel_rfl) (by kernel_rfl) (by kernel_rfl) (fun _ _ _ h => h) (Or.inl ⟨by kernel_rfl, ?yx3_23⟩) hHeld ?zx3_23
            case yx3_23 => (intro wS hSw; (try dsimp only at hSw); go_simp; (try with_reducible rfl))
            try simp only [Act.put, List.setIfInBounds_toArray, List.set_cons_zero, List.set_cons_succ]
            refine take_at 22 (some 32) (v := ?vx3_24) rfl rfl (by kernel_rfl) (by kernel_rfl) (by kernel_rfl) (fun _ _ _ h => h) (Or.inl ⟨by kernel_rfl, ?yx3_24⟩) hHeld ?zx3_24
            case yx3_24 => (intro wS hSw; (try dsimp only at hSw); go_simp; (try with_reducible rfl))
            try simp only [Act.put, List.setIfInBounds_toArray, List.set_cons_zero, List.set_cons_succ]
            refine take_at 23 (some 33) (v := ?vx3_25) rfl rfl (by kernel_rfl) (by kernel_rfl) (by kernel_rfl) (fun _ _ _ h => h) (Or.inl ⟨by kernel_rfl, ?yx3_25⟩) hHeld ?zx3_25
            case yx3_25 => (intro wS hSw; (try dsimp only at hSw); go_simp; (try with_reducible rfl))
            try simp only [Act.put, List.setIfInBounds_toArray, List.set_cons_zero, List.set_cons_succ]
            refine wpAnyH_done (by kernel_rfl) ?_ _
            clear w1
            go_wp2
            go_ret
            exact ⟨ret_bool HV.out.symm, hHeld.1⟩
          · go_wp2_with fail
            refine wp_region_held_drew (S := (fun w' => Below w.heap.size w w' ∧ w'.cell? ⟨b, off + k * 2, none⟩ = some (.int .i64 xs[k].t) ∧ w'.cell? ⟨b, off + k * 2 + 1, none⟩ = some (.int .i64 xs[k].s) ∧ w'.cell? ⟨b, off + m * 2, none⟩ = some (.int .i64 xs[m].t))) (by kernel_rfl) ?rx4s (fun hHeld => ?rx40)
            case rx4s => ((try dsimp only); exact ⟨hb.drew, c1, c2, d1⟩)
            try simp only [Act.put, List.setIfInBounds_toArray, List.set_cons_zero, List.set_cons_succ]
            refine take_at 0 (some 10) (v := ?vx4_1) rfl rfl (by kernel_rfl) (by kernel_rfl) (by kernel_rfl) (fun _ _ _ h => h) (Or.inl ⟨by kernel_rfl, ?yx4_1⟩) hHeld ?zx4_1
            case yx4_1 => (intro wS hSw; (try dsimp only at hSw); go_simp; (try with_reducible rfl))
            try simp only [Act.put, List.setIfInBounds_toArray, List.set_cons_zero, List.set_cons_succ]
            refine take_at 1 (some 11) (v := ?vx4_2) rfl rfl (by kernel_rfl) (by kernel_rfl) (by kernel_rfl) (fun _ _ _ h => h) (Or.inl ⟨by kernel_rfl, ?yx4_2⟩) hHeld ?zx4_2
            case yx4_2 => (intro wS hSw; (try dsimp only at hSw); go_simp; (try with_reducible rfl))
            try simp only [Act.put, List.setIfInBounds_toArray, List.set_cons_zero, List.set_cons_succ]
            refine take_at 2 (some 12) (v := ?vx4_3) rfl rfl (by kernel_rfl) (by kernel_rfl) (by kernel_rfl) (fun _ _ _ h => h) (Or.inl ⟨by kernel_rfl, ?yx4_3⟩) hHeld ?zx4_3
            case yx4_3 => (intro wS hSw; (try dsimp only at hSw); go_simp; (try with_reducible rfl))
            try simp only [Act.put, List.setIfInBounds_toArray, List.set_cons_zero, List.set_cons_succ]
            refine take_at 3 (some 13) (v := ?vx4_4) rfl rfl (by kernel_rfl) (by kernel_rfl) (by kernel_rfl) (fun _ _ _ h => h) (Or.inl ⟨by kernel_rfl, ?yx4_4⟩) hHeld ?zx4_4
            case yx4_4 => (intro wS hSw; (try dsimp only at hSw); go_simp; (try with_reducible rfl))
            try simp only [Act.put, List.setIfInBounds_toArray, List.set_cons_zero, List.set_cons_succ]
            refine wpAnyH_ready (rs := [4]) (by kernel_rfl) (by simp) ?_
            refine cons_at (some 14) rfl rfl (by kernel_rfl) (fun K hK => ?kx4_6) AllReadyH.nil
            go_simp
            (go_at_call 81; refine (HL.out _).mono ?_; rintro e w' ⟨rfl, hbel⟩)
            try go_wp2_with fail
            refine hK.out _ _ ?sx4_6 (fun hHeld => ?_)
            case sx4_6 => ((try dsimp only); exact keepB3 (by assumption) hbel)
            clear hK K
            try simp only [Act.put, List.setIfInBounds_toArray, List.set_cons_zero, List.set_cons_succ]
            refine take_at 5 (some 15) (v := ?vx4_7) rfl rfl (by kernel_rfl) (by kernel_rfl) (by kernel_rfl) (fun _ _ _ h => h) (Or.inl ⟨by kernel_rfl, ?yx4_7⟩) hHeld ?zx4_7
            case yx4_7 => (intro wS hSw; (try dsimp only at hSw); go_simp; (try with_reducible rfl))
            try simp only [Act.put, List.setIfInBounds_toArray, List.set_cons_zero, List.set_cons_succ]
            refine take_at 6 (some 16) (v := ?vx4_8) rfl rfl (by kernel_rfl) (by kernel_rfl) (by kernel_rfl) (fun _ _ _ h => h) (Or.inl ⟨by kernel_rfl, ?yx4_8⟩) hHeld ?zx4_8
            case yx4_8 => (intro wS hSw; (try dsimp only at hSw); go_simp; (try with_reducible rfl))
            try simp only [Act.put, List.setIfInBounds_toArray, List.set_cons_zero, List.set_cons_succ]
            refine take_at 7 (some 17) (v := ?vx4_9) rfl rfl (by kernel_rfl) (by kernel_rfl) (by kernel_rfl) (fun _ _ _ h => h) (Or.inl ⟨by kernel_rfl, ?yx4_9⟩) hHeld ?zx4_9
            case yx4_9 => (intro wS hSw; (try dsimp only at hSw); go_simp; (try with_reducible rfl))
            try simp only [Act.put, List.setIfInBounds_toArray, List.set_cons_zero, List.set_cons_succ]
            refine take_at 8 (some 18) (v := ?vx4_10) rfl rfl (by kernel_rfl) (by kernel_rfl) (by kernel_rfl) (fun _ _ _ h => h) (Or.inl ⟨by kernel_rfl, ?yx4_10⟩) hHeld ?zx4_10
            case yx4_10 => (intro wS hSw; (try dsimp only at hSw); go_simp; (try with_reducible rfl))
            try simp only [Act.put, List.setIfInBounds_toArray, List.set_cons_zero, List.set_cons_succ]
            refine take_at 9 (some 19) (v := ?vx4_11) rfl rfl (by kernel_rfl) (by kernel_rfl) (by kernel_rfl) (fun _ _ _ h => h) (Or.inl ⟨by kernel_rfl, ?yx4_11⟩) hHeld ?zx4_11
            case yx4_11 => (intro wS hSw; (try dsimp only at hSw); go_simp; (try with_reducible rfl))
            try simp only [Act.put, List.setIfInBounds_toArray, List.set_cons_zero, List.set_cons_succ]
            refine take_at 10 (some 20) (v := ?vx4_12) rfl rfl (by kernel_rfl) (by kernel_rfl) (by kernel_rfl) (fun _ _ _ h => h) (Or.inl ⟨by kernel_rfl, ?yx4_12⟩) hHeld ?zx4_12
            case yx4_12 => (intro wS hSw; (try dsimp only at hSw); go_simp; (try with_reducible rfl))
            try simp only [Act.put, List.setIfInBounds_toArray, List.set_cons_zero, List.set_cons_succ]
            refine take_at 11 (some 21) (v := ?vx4_13) rfl rfl (by kernel_rfl) (by kernel_rfl) (by kernel_rfl) (fun _ _ _ h => h) (Or.inl ⟨by kernel_rfl, ?yx4_13⟩) hHeld ?zx4_13
            case yx4_13 => (intro wS hSw; (try dsimp only at hSw); go_simp; (try with_reducible rfl))
            try simp only [Act.put, List.setIfInBounds_toArray, List.set_cons_zero, List.set_cons_succ]
            refine take_at 12 (some 22) (v := ?vx4_14) rfl rfl (by kernel_rfl) (by kernel_rfl) (by kernel_rfl) (fun _ _ _ h => h) (Or.inl ⟨by kernel_rfl, ?yx4_14⟩) hHeld ?zx4_14
            case yx4_14 => (intro wS hSw; (try dsimp only at hSw); go_simp; (try with_reducible rfl))
            try simp only [Act.put, List.setIfInBounds_toArray, List.set_cons_zero, List.set_cons_succ]
            refine take_at 13 (some 23) (v := ?vx4_15) rfl rfl (by kernel_rfl) (by kernel_rfl) (by kernel_rfl) (fun _ _ _ h => h) (Or.inl ⟨by kernel_rfl, ?yx4_15⟩) hHeld ?zx4_15
            case yx4_15 => (intro wS hSw; (try dsimp only at hSw); go_simp; (try with_reducible rfl))
            try simp only [Act.put, List.setIfInBounds_toArray, List.set_cons_zero, List.set_cons_succ]
            refine take_at 14 (some 24) (v := ?vx4_16) rfl rfl (by kernel_rfl) (by kernel_rfl) (by kernel_rfl) (fun _ _ _ h => h) (Or.inl ⟨by kernel_rfl, ?yx4_16⟩) hHeld ?zx4_16
            case yx4_16 => (intro wS hSw; (try dsimp only at hSw); go_simp; (try with_reducible rfl))
            try simp only [Act.put, List.setIfInBounds_toArray, List.set_cons_zero, List.set_cons_succ]
            refine take_at 15 (some 25) (v := ?vx4_17) rfl rfl (by kernel_rfl) (by kernel_rfl) (by kernel_rfl) (fun _ _ _ h => h) (Or.inl ⟨by kernel_rfl, ?yx4_17⟩) hHeld ?zx4_17
            case yx4_17 => (intro wS hSw; (try dsimp only at hSw); go_simp; (try with_reducible rfl))
            try simp only [Act.put, List.setIfInBounds_toArray, List.set_cons_zero, List.set_cons_succ]
            refine take_at 16 (some 26) (v := ?vx4_18) rfl rfl (by kernel_rfl) (by kernel_rfl) (by kernel_rfl) (fun _ _ _ h => h) (Or.inl ⟨by kernel_rfl, ?yx4_18⟩) hHeld ?zx4_18
            case yx4_18 => (intro wS hSw; (try dsimp only at hSw); go_simp; (try with_reducible rfl))
            try simp only [Act.put, List.setIfInBounds_toArray, List.set_cons_zero, List.set_cons_succ]
            refine take_at 17 (some 27) (v := ?vx4_19) rfl rfl (by kernel_rfl) (by kernel_rfl) (by kernel_rfl) (fun _ _ _ h => h) (Or.inl ⟨by kernel_rfl, ?yx4_19⟩) hHeld ?zx4_19
            case yx4_19 => (intro wS hSw; (try dsimp only at hSw); go_simp; (try with_reducible rfl))
            try simp only [Act.put, List.setIfInBounds_toArray, List.set_cons_zero, List.set_cons_succ]
            refine take_at 18 (some 28) (v := ?vx4_20) rfl rfl (by kernel_rfl) (by kernel_rfl) (by kernel_rfl) (fun _ _ _ h => h) (Or.inl ⟨by kernel_rfl, ?yx4_20⟩) hHeld ?zx4_20
            case yx4_20 => (intro wS hSw; (try dsimp only at hSw); go_simp; (try with_reducible rfl))
            try simp only [Act.put, List.setIfInBounds_toArray, List.set_cons_zero, List.set_cons_succ]
            refine take_at 19 (some 29) (v := ?vx4_21) rfl rfl (by kernel_rfl) (by kernel_rfl) (by kernel_rfl) (fun _ _ _ h => h) (Or.inl ⟨by kernel_rfl, ?yx4_21⟩) hHeld ?zx4_21
            case yx4_21 => (intro wS hSw; (try dsimp only at hSw); go_simp; (try with_reducible rfl))
            try simp only [Act.put, List.setIfInBounds_toArray, List.set_cons_zero, List.set_cons_succ]
            refine take_at 20 (some 30) (v := ?vx4_22) rfl rfl (by kernel_rfl) (by kernel_rfl) (by kernel_rfl) (fun _ _ _ h => h) (Or.inl ⟨by kernel_rfl, ?yx4_22⟩) hHeld ?zx4_22
            case yx4_22 => (intro wS hSw; (try dsimp only at hSw); go_simp; (try with_reducible rfl))
            try simp only [Act.put, List.setIfInBounds_toArray, List.set_cons_zero, List.set_cons_succ]
            refine take_at 21 (some 31) (v := ?vx4_23) rfl rfl (by kernel_rfl) (by kernel_rfl) (by kernel_rfl) (fun _ _ _ h => h) (Or.inl ⟨by kernel_rfl, ?yx4_23⟩) hHeld ?zx4_23
            case yx4_23 => (intro wS hSw; (try dsimp only at hSw); go_simp; (try with_reducible rfl))
            try simp only [Act.put, List.setIfInBounds_toArray, List.set_cons_zero, List.set_cons_succ]
            refine take_at 22 (some 32) (v := ?vx4_24) rfl rfl (by kernel_rfl) (by kernel_rfl) (by kernel_rfl) (fun _ _ _ h => h) (Or.inl ⟨by kernel_rfl, ?yx4_24⟩) hHeld ?zx4_24
            case yx4_24 => (intro wS hSw; (try dsimp only at hSw); go_simp; (try with_reducible rfl))
            try simp only [Act.put, List.setIfInBounds_toArray, List.set_cons_zero, List.set_cons_succ]
            refine take_at 23 (some 33) (v := ?vx4_25) rfl rfl (by kernel_rfl) (by kernel_rfl) (by kernel_rfl) (fun _ _ _ h => h) (Or.inl ⟨by kernel_rfl, ?yx4_25⟩) hHeld ?zx4_25
            case yx4_25 => (intro wS hSw; (try dsimp only at hSw); go_simp; (try with_reducible rfl))
            try simp only [Act.put, List.setIfInBounds_toArray, List.set_cons_zero, List.set_cons_succ]
            refine wpAnyH_done (by kernel_rfl) ?_ _
            clear w1
            go_wp2
            go_roundw
            case rel =>
              refine ⟨k + 1, by omega, by go_num, hHeld.1, Lib.hid ⟨fun j h hj => ?_, fun j h hj => ?_⟩⟩
              · by_cases he : j = k
                · subst he; exact HG.out
                · exact HF.out.1 j h (by omega)
              · by_cases he : j + 1 = k
                · obtain rfl : j = m := by have := HM.out; omega
                  simp only [← HM.out]; omega
                · exact HF.out.2 j h (by omega)
            case measure => simp [intOf]; omega
    · by_cases h20 : xs.length ≤ 20
      · have hv : lsB xs = true := lsB_true.2 ⟨h20, fun j h => HF.out.1 j h (by omega), fun j h => HF.out.2 j h (by omega)⟩
        have HV := Lib.hid hv; clear hv
        go_wp2
        go_ret
        exact ⟨ret_bool (by rw [HV.out]; simp; omega), hb⟩
      · have hv : lsB xs = false := lsB_false.2 fun h => h20 h.1
        have HV := Lib.hid hv; clear hv
        go_wp2
        go_ret
        exact ⟨ret_bool (by rw [HV.out]; simp; omega), hb⟩
end Go.Proofs.Ytgmccafmopgjaaa
