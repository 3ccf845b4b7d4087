/- Contracts on lists of events: the program's IsTrace, the reference's l17Good, for all lists of at most 2^30 events. -/
import Derived.Test.YtohbkohidpgjpaaEv1
namespace Go.Proofs.Ytohbkohidpgjpaa
open Go.RowKit

/-- at most 30 valid events, in ascending order of their ticks -/
def TsP (xs : List Ev) : Prop := xs.length ≤ 30 ∧ (∀ k (h : k < xs.length), evB xs[k] = true) ∧ ∀ k (h : k + 1 < xs.length), xs[k].t ≤ xs[k + 1].t
open Classical in
noncomputable def tsB (xs : List Ev) : Bool := decide (TsP xs)
theorem tsB_true {xs : List Ev} : tsB xs = true ↔ TsP xs := by simp [tsB]
theorem tsB_false {xs : List Ev} : tsB xs = false ↔ ¬ TsP xs := by simp [tsB]

/-- what a comparison of two numbers answers -/
def cmpE (x y : Int) : Int := if x < y then -1 else if y < x then 1 else 0
theorem cmpE_neg (x y : Int) : x < y ↔ cmpE x y < 0 := by
  unfold cmpE; split
  · simp [*]
  · split <;> simp [*]
theorem cmpE_lt {x y : Int} (h : x < y) : cmpE x y = -1 := if_pos h
theorem cmpE_gt {x y : Int} (h1 : ¬ x < y) (h2 : y < x) : cmpE x y = 1 := by unfold cmpE; rw [if_neg h1, if_pos h2]
theorem cmpE_eq {x y : Int} (h1 : ¬ x < y) (h2 : ¬ y < x) : cmpE x y = 0 := by unfold cmpE; rw [if_neg h1, if_neg h2]
theorem isNaN_any (x : Int) (w : World) : Calls Try.prog 30 #[.int .i64 x] w fun e w' => e = .returned (.bool false) ∧ w = w' := by
  go_enter Try.func30, Try.ntmps30
  go_wp2
  go_ret
  exact ⟨rfl, rfl⟩
theorem compare_any (x y : Int) (w : World) : Calls Try.prog 20 #[.int .i64 x, .int .i64 y] w fun e w' => e = .returned (.int .i64 (cmpE x y)) ∧ w = w' := by
  by_cases h1 : x < y
  · go_enter Try.func20, Try.ntmps20
    go_wp2_with ((go_at_call 30; refine (isNaN_any _ _).mono ?_; rintro e w' ⟨rfl, rfl⟩))
    go_ret
    exact ⟨by rw [cmpE_lt (by omega)]; rfl, rfl⟩
  · by_cases h2 : y < x
    · go_enter Try.func20, Try.ntmps20
      go_wp2_with ((go_at_call 30; refine (isNaN_any _ _).mono ?_; rintro e w' ⟨rfl, rfl⟩))
      go_ret
      exact ⟨by (first | rw [cmpE_gt (by omega) (by omega)] | rw [cmpE_eq (by omega) (by omega)]); rfl, rfl⟩
    · go_enter Try.func20, Try.ntmps20
      go_wp2_with ((go_at_call 30; refine (isNaN_any _ _).mono ?_; rintro e w' ⟨rfl, rfl⟩))
      go_ret
      exact ⟨by (first | rw [cmpE_gt (by omega) (by omega)] | rw [cmpE_eq (by omega) (by omega)]); rfl, rfl⟩
theorem bad_any (x : Ev) (w : World) :
    Calls Try.prog 24 #[x.v] w fun e w' => e = .returned (.bool (!evB x)) ∧ Below w.heap.size w w' := by
  have H := Lib.hid (isEvent_any x)
  obtain ⟨t, n, k, m⟩ := x
  go_enter Try.func24, Try.ntmps24
  go_wp2_with fail
  refine (H.out _).mono ?_
  rintro e w1 ⟨rfl, hb⟩
  go_wp2
  go_ret
  exact ⟨rfl, Below.trans (by go_grown) (hb.mono (by simp <;> omega))⟩
theorem cmp_any (x y : Ev) (w : World) :
    Calls Try.prog 27 #[x.v, y.v] w fun e w' => e = .returned (.int .i64 (cmpE x.t y.t)) ∧ (w.alloc x.o).alloc y.o = w' := by
  obtain ⟨t, n, k, m⟩ := x
  obtain ⟨t', n', k', m'⟩ := y
  go_enter Try.func27, Try.ntmps27
  go_wp2_with ((go_at_call 20; refine (compare_any _ _ _).mono ?_; rintro e w' ⟨rfl, rfl⟩))
  go_ret
  exact ⟨rfl, rfl⟩

/-- the first event that is not valid, from k on -/
def badAt (xs : List Ev) : Int := match xs.findIdx? (fun x => !evB x) with | some k => k | none => -1
theorem index_any (v : Value) (xs : List Ev) (w : World) (h : RdEv w v xs) :
    Calls Try.prog 35 #[v, .func (.func 24) #[] #[]] w fun e w' => (∃ k : Int, e = .returned (.int .i64 k) ∧ (k = -1 ∧ (∀ j (h : j < xs.length), evB xs[j] = true) ∨ 0 ≤ k ∧ ∃ j, ∃ (h : j < xs.length), evB xs[j] = false)) ∧ Below w.heap.size w w' := by
  have hlen := h.2
  obtain ⟨p, cap, b, off, rfl, hcap, hp, hcell⟩ := h.parts
  have HC := Lib.hid hcell; clear hcell
  have HP := Lib.hid hp; clear hp
  go_enter Try.func35, Try.ntmps35
  go_wp2
  go_loopw [8] (fun i wr => ∃ (k : Nat), k ≤ xs.length ∧ i = .int .i64 k ∧ Below w.heap.size w wr ∧ Hid (∀ j (h : j < xs.length), j < k → evB xs[j] = true))
    (fun i _ => xs.length - (intOf i).toNat)
  case atStart => exact ⟨0, Nat.zero_le _, rfl, Below.refl _ _, Lib.hid fun j _ h => absurd h (by omega)⟩
  case round =>
    obtain ⟨k, hk, rfl, hb, HF⟩ := hrel
    by_cases hlt : k < xs.length
    · obtain rfl := HP.out (by omega)
      obtain ⟨c1, c2, c3, c4⟩ := HC.out k hlt
      have c1 := (hb.cell (World.block_lt_of_cell? w _ c1)).trans c1
      have c2 := (hb.cell (World.block_lt_of_cell? w _ c2)).trans c2
      have c3 := (hb.cell (World.block_lt_of_cell? w _ c3)).trans c3
      have c4 := (hb.cell (World.block_lt_of_cell? w _ c4)).trans c4
      cases hx : evB xs[k]
      · have HX := Lib.hid hx; clear hx
        go_wp2_with (go_at_call 24; refine (bad_any ⟨xs[k].t, xs[k].n, xs[k].k, xs[k].m⟩ _).mono ?_; rintro e w1 ⟨rfl, hb1⟩; rw [show evB ⟨xs[k].t, xs[k].n, xs[k].k, xs[k].m⟩ = false from HX.out])
        go_ret
        exact ⟨⟨k, rfl, .inr ⟨by omega, k, hlt, HX.out⟩⟩, hb.trans (hb1.mono hb.size)⟩
      · have HX := Lib.hid hx; clear hx
        go_wp2_with (go_at_call 24; refine (bad_any ⟨xs[k].t, xs[k].n, xs[k].k, xs[k].m⟩ _).mono ?_; rintro e w1 ⟨rfl, hb1⟩; rw [show evB ⟨xs[k].t, xs[k].n, xs[k].k, xs[k].m⟩ = true from HX.out])
        go_roundw
        case rel => exact ⟨k + 1, by omega, by go_num, hb.trans (hb1.mono hb.size), Lib.hid fun j h hj => (by
          by_cases he : j = k
          · subst he; exact HX.out
          · exact HF.out j h (by omega))⟩
        case measure => simp [intOf]; omega
    · go_wp2
      go_ret
      exact ⟨⟨-1, rfl, .inl ⟨rfl, fun j h => HF.out j h (by omega)⟩⟩, hb⟩
theorem contains_any (v : Value) (xs : List Ev) (w : World) (h : RdEv w v xs) :
    Calls Try.prog 23 #[v, .func (.func 24) #[] #[]] w fun e w' => (∃ r : Bool, e = .returned (.bool r) ∧ (r = false ∧ (∀ j (h : j < xs.length), evB xs[j] = true) ∨ r = true ∧ ∃ j, ∃ (h : j < xs.length), evB xs[j] = false)) ∧ Below w.heap.size w w' := by
  have H := Lib.hid (index_any v xs w h)
  obtain ⟨p, cap, b, off, rfl, _⟩ := h.parts
  clear h
  go_enter Try.func23, Try.ntmps23
  go_wp2_with fail
  refine H.out.mono ?_
  rintro e w1 ⟨⟨k, rfl, hk⟩, hb⟩
  rcases hk with ⟨rfl, h1⟩ | ⟨h0, h1⟩
  · have H1 := Lib.hid h1; clear h1
    go_wp2
    go_ret
    exact ⟨⟨false, rfl, .inl ⟨rfl, H1.out⟩⟩, hb⟩
  · have H1 := Lib.hid h1; clear h1
    go_wp2
    go_ret
    exact ⟨⟨true, rfl, .inr ⟨rfl, H1.out⟩⟩, hb⟩
theorem sorted_any (v : Value) (xs : List Ev) (w : World) (h : RdEv w v xs) (hg : ∀ j (h : j < xs.length), evB xs[j] = true) :
    Calls Try.prog 26 #[v, .func (.func 27) #[] #[]] w fun e w' => (∃ r : Bool, e = .returned (.bool r) ∧ (r = true ↔ ∀ k (h : k + 1 < xs.length), xs[k].t ≤ xs[k + 1].t)) ∧ Below w.heap.size w w' := by
  have hlen := h.2
  obtain ⟨p, cap, b, off, rfl, hcap, hp, hcell⟩ := h.parts
  have HC := Lib.hid hcell; clear hcell
  have HP := Lib.hid hp; clear hp
  have HG := Lib.hid hg; clear hg
  go_enter Try.func26, Try.ntmps26
  go_wp2
  go_loopw [5] (fun i wr => ∃ (k : Int), -1 ≤ k ∧ k + 1 ≤ xs.length ∧ i = .int .i64 k ∧ Below w.heap.size w wr ∧ Hid (∀ j (h : j + 1 < xs.length), k ≤ j → xs[j].t ≤ xs[j + 1].t))
    (fun i _ => (intOf i + 1).toNat)
  case atStart => exact ⟨xs.length - 1, by omega, by omega, by go_num, Below.refl _ _, Lib.hid fun j h hj => absurd hj (by omega)⟩
  case round =>
    obtain ⟨k, hk0, hk1, rfl, hb, HF⟩ := hrel
    by_cases hlt : 0 < k
    · obtain ⟨m, hm⟩ : ∃ m : Nat, k = m := ⟨k.toNat, by omega⟩
      subst hm
      obtain ⟨n, hn⟩ : ∃ n : Nat, m = n + 1 := ⟨m - 1, by omega⟩
      have hm1 : m < xs.length := by omega
      have hn1 : n < xs.length := by omega
      obtain rfl := HP.out (by omega)
      obtain ⟨c1, c2, c3, c4⟩ := HC.out m hm1
      obtain ⟨d1, d2, d3, d4⟩ := HC.out n hn1
      have c1 := (hb.cell (World.block_lt_of_cell? w _ c1)).trans c1
      have c2 := (hb.cell (World.block_lt_of_cell? w _ c2)).trans c2
      have c3 := (hb.cell (World.block_lt_of_cell? w _ c3)).trans c3
      have c4 := (hb.cell (World.block_lt_of_cell? w _ c4)).trans c4
      have d1 := (hb.cell (World.block_lt_of_cell? w _ d1)).trans d1
      have d2 := (hb.cell (World.block_lt_of_cell? w _ d2)).trans d2
      have d3 := (hb.cell (World.block_lt_of_cell? w _ d3)).trans d3
      have d4 := (hb.cell (World.block_lt_of_cell? w _ d4)).trans d4
      obtain ⟨⟨g1, g2⟩, _⟩ := evB_iff.1 (HG.out n hn1)
      obtain ⟨⟨g3, g4⟩, _⟩ := evB_iff.1 (HG.out m hm1)
      have w1 : IntKind.i64.wrap ((m : Int) - 1) = n := by rw [IntKind.wrap_i64]; omega
      have hS := cmp_any ⟨xs[m].t, xs[m].n, xs[m].k, xs[m].m⟩ ⟨xs[n].t, xs[n].n, xs[n].k, xs[n].m⟩
      have hcI : (xs[m].t < xs[n].t ↔ cmpE xs[m].t xs[n].t < 0) := cmpE_neg _ _
      generalize cmpE (⟨xs[m].t, xs[m].n, xs[m].k, xs[m].m⟩ : Ev).t (⟨xs[n].t, xs[n].n, xs[n].k, xs[n].m⟩ : Ev).t = cI at hS hcI
      have HS := Lib.hid hS; clear hS
      have HI := Lib.hid hcI; clear hcI
      have HN := Lib.hid hn; clear hn
      by_cases hlt2 : cI < 0
      · go_wp2_with fail
        go_region_held3 (fun w' => w'.cell? ⟨b, off + m * 4, none⟩ = some (.int .i64 xs[m].t) ∧ w'.cell? ⟨b, off + m * 4 + 1, none⟩ = some (.int .i64 xs[m].n) ∧ w'.cell? ⟨b, off + m * 4 + 2, none⟩ = some (.int .i64 xs[m].k) ∧ w'.cell? ⟨b, off + m * 4 + 3, none⟩ = some (.int .i64 xs[m].m) ∧ w'.cell? ⟨b, off + n * 4, none⟩ = some (.int .i64 xs[n].t) ∧ w'.cell? ⟨b, off + n * 4 + 1, none⟩ = some (.int .i64 xs[n].n) ∧ w'.cell? ⟨b, off + n * 4 + 2, none⟩ = some (.int .i64 xs[n].k) ∧ w'.cell? ⟨b, off + n * 4 + 3, none⟩ = some (.int .i64 xs[n].m)) (go_keep)
          (first | (go_at_call 27; refine (HS.out _).mono ?_; rintro e w' ⟨rfl, rfl⟩))
        clear w1
        go_wp2
        go_ret
        refine ⟨⟨false, rfl, by simp only [Bool.false_eq_true, false_iff]; intro h; have := h n (by have := HN.out; omega); simp only [← HN.out] at this; have := HI.out.2 hlt2; omega⟩, by have := hb.size; go_grown⟩
      · go_wp2_with fail
        go_region_held3 (fun w' => w'.cell? ⟨b, off + m * 4, none⟩ = some (.int .i64 xs[m].t) ∧ w'.cell? ⟨b, off + m * 4 + 1, none⟩ = some (.int .i64 xs[m].n) ∧ w'.cell? ⟨b, off + m * 4 + 2, none⟩ = some (.int .i64 xs[m].k) ∧ w'.cell? ⟨b, off + m * 4 + 3, none⟩ = some (.int .i64 xs[m].m) ∧ w'.cell? ⟨b, off + n * 4, none⟩ = some (.int .i64 xs[n].t) ∧ w'.cell? ⟨b, off + n * 4 + 1, none⟩ = some (.int .i64 xs[n].n) ∧ w'.cell? ⟨b, off + n * 4 + 2, none⟩ = some (.int .i64 xs[n].k) ∧ w'.cell? ⟨b, off + n * 4 + 3, none⟩ = some (.int .i64 xs[n].m)) (go_keep)
          (first | (go_at_call 27; refine (HS.out _).mono ?_; rintro e w' ⟨rfl, rfl⟩))
        clear w1
        go_wp2
        go_roundw
        case rel =>
          refine ⟨m - 1, by omega, by omega, by go_num, by have := hb.size; go_grown, Lib.hid fun j h hj => ?_⟩
          by_cases he : (m : Int) ≤ j
          · exact HF.out j h he
          · have : j = n := by have := HN.out; omega
            subst this
            simp only [← HN.out]
            have := HI.out.1
            omega
        case measure => (simp [intOf]; try omega)
    · go_wp2
      go_ret
      exact ⟨.inr ⟨rfl, fun j h => HF.out j h (by omega)⟩, hb⟩

theorem isTrace_any (v : Value) (xs : List Ev) (w : World) (h : RdEv w v xs) :
    Calls Try.prog 16 #[v] w fun e w' => e = .returned (.bool (tsB xs)) ∧ Below w.heap.size w w' := by
  have hlen := h.2
  have HR := Lib.hid h
  have HX := Lib.hid (contains_any v xs w h)
  obtain ⟨p, cap, b, off, rfl, hcap, _⟩ := h.parts
  clear h
  by_cases h30 : xs.length ≤ 30
  · go_enter Try.func16, Try.ntmps16
    go_wp2_with fail
    refine HX.out.mono ?_
    rintro e w1 ⟨⟨r, rfl, hr⟩, hb⟩
    rcases hr with ⟨rfl, hr⟩ | ⟨rfl, hr⟩
    · have HY := Lib.hid (sorted_any _ xs w1 (HR.out.below hb) hr)
      have HG := Lib.hid hr; clear hr
      go_wp2_with fail
      refine HY.out.mono ?_
      rintro e w2 ⟨⟨r, rfl, hr⟩, hb2⟩
      have hv : tsB xs = r := by
        cases r
        · exact tsB_false.2 fun ⟨_, _, h3⟩ => absurd (hr.2 h3) (by simp)
        · exact tsB_true.2 ⟨h30, HG.out, hr.1 rfl⟩
      have HV := Lib.hid hv; clear hv hr
      go_wp2
      go_ret
      exact ⟨ret_bool HV.out.symm, hb.trans (hb2.mono hb.size)⟩
    · have hv : tsB xs = false := tsB_false.2 fun ⟨_, h2, _⟩ => by
        obtain ⟨j, hj, he⟩ := hr
        rw [h2 j hj] at he
        cases he
      have HV := Lib.hid hv; clear hv hr
      go_wp2
      go_ret
      exact ⟨ret_bool HV.out.symm, hb⟩
  · have hv : tsB xs = false := tsB_false.2 fun ⟨h1, _, _⟩ => h30 h1
    have HV := Lib.hid hv; clear hv
    go_enter Try.func16, Try.ntmps16
    go_wp2
    go_ret
    exact ⟨ret_bool HV.out.symm, Below.refl _ _⟩

set_option maxHeartbeats 1000000 in
theorem l17Good_any (v : Value) (xs : List Ev) (w : World) (h : RdEv w v xs) :
    Calls Try.prog 15 #[v] w fun e w' => e = .returned (.bool (tsB xs)) ∧ Below w.heap.size w w' := by
  have hlen := h.2
  obtain ⟨p, cap, b, off, rfl, hcap, hp, hcell⟩ := h.parts
  have HC := Lib.hid hcell; clear hcell
  have HP := Lib.hid hp; clear hp
  go_enter Try.func15, Try.ntmps15
  go_wp2
  go_loopw [3] (fun i wr => ∃ (k : Nat), k ≤ xs.length ∧ i = .int .i64 k ∧ Below w.heap.size w wr ∧ Hid ((∀ j (h : j < xs.length), j < k → evB xs[j] = true) ∧ ∀ j (h : j + 1 < xs.length), j + 1 < k → xs[j].t ≤ xs[j + 1].t))
    (fun i _ => xs.length - (intOf i).toNat)
  case atStart => exact ⟨0, Nat.zero_le _, rfl, Below.refl _ _, Lib.hid ⟨fun j _ h => absurd h (by omega), fun j _ h => absurd h (by omega)⟩⟩
  case round =>
    obtain ⟨k, hk, rfl, hb, HF⟩ := hrel
    by_cases hlt : k < xs.length
    · obtain rfl := HP.out (by omega)
      obtain ⟨c1, c2, c3, c4⟩ := HC.out k hlt
      have c1 := (hb.cell (World.block_lt_of_cell? w _ c1)).trans c1
      have c2 := (hb.cell (World.block_lt_of_cell? w _ c2)).trans c2
      have c3 := (hb.cell (World.block_lt_of_cell? w _ c3)).trans c3
      have c4 := (hb.cell (World.block_lt_of_cell? w _ c4)).trans c4
      have hz := hb.size
      have hL := l17One_any ⟨xs[k].t, xs[k].n, xs[k].k, xs[k].m⟩
      cases hx : evB xs[k]
      · rw [show evB ⟨xs[k].t, xs[k].n, xs[k].k, xs[k].m⟩ = false from hx] at hL
        have HL := Lib.hid hL; clear hL
        have HV : Hid (tsB xs = false) := Lib.hid (tsB_false.2 fun ⟨_, h2, _⟩ => by rw [h2 k hlt] at hx; cases hx)
        clear hx
        go_wp2_with fail
        refine wp_region_held_drew (S := (fun w' => Below w.heap.size w w' ∧ w'.cell? ⟨b, off + k * 4, none⟩ = some (.int .i64 xs[k].t) ∧ w'.cell? ⟨b, off + k * 4 + 1, none⟩ = some (.int .i64 xs[k].n) ∧ w'.cell? ⟨b, off + k * 4 + 2, none⟩ = some (.int .i64 xs[k].k) ∧ w'.cell? ⟨b, off + k * 4 + 3, none⟩ = some (.int .i64 xs[k].m))) (by kernel_rfl) ?rx1s (fun hHeld => ?rx10)
        case rx1s => ((try dsimp only); exact ⟨hb.drew, c1, c2, c3, c4⟩)
        try simp only [Act.put, List.setIfInBounds_toArray, List.set_cons_zero, List.set_cons_succ]
        refine take_at 0 (some 10) (v := ?vx1_1) rfl rfl (by kernel_rfl) (by kernel_rfl) (by kernel_rfl) (fun _ _ _ h => h) (Or.inl ⟨by kernel_rfl, ?yx1_1⟩) hHeld ?zx1_1
        case yx1_1 => (intro wS hSw; (try dsimp only at hSw); go_simp; (try with_reducible rfl))
        try simp only [Act.put, List.setIfInBounds_toArray, List.set_cons_zero, List.set_cons_succ]
        refine take_at 1 (some 11) (v := ?vx1_2) rfl rfl (by kernel_rfl) (by kernel_rfl) (by kernel_rfl) (fun _ _ _ h => h) (Or.inl ⟨by kernel_rfl, ?yx1_2⟩) hHeld ?zx1_2
        case yx1_2 => (intro wS hSw; (try dsimp only at hSw); go_simp; (try with_reducible rfl))
        try simp only [Act.put, List.setIfInBounds_toArray, List.set_cons_zero, List.set_cons_succ]
        refine take_at 2 (some 12) (v := ?vx1_3) rfl rfl (by kernel_rfl) (by kernel_rfl) (by kernel_rfl) (fun _ _ _ h => h) (Or.inl ⟨by kernel_rfl, ?yx1_3⟩) hHeld ?zx1_3
        case yx1_3 => (intro wS hSw; (try dsimp only at hSw); go_simp; (try with_reducible rfl))
        try simp only [Act.put, List.setIfInBounds_toArray, List.set_cons_zero, List.set_cons_succ]
        refine take_at 3 (some 13) (v := ?vx1_4) rfl rfl (by kernel_rfl) (by kernel_rfl) (by kernel_rfl) (fun _ _ _ h => h) (Or.inl ⟨by kernel_rfl, ?yx1_4⟩) hHeld ?zx1_4
        case yx1_4 => (intro wS hSw; (try dsimp only at hSw); go_simp; (try with_reducible rfl))
        try simp only [Act.put, List.setIfInBounds_toArray, List.set_cons_zero, List.set_cons_succ]
        refine wpAnyH_ready (rs := [4]) (by kernel_rfl) (by simp) ?_
        refine cons_at (some 14) rfl rfl (by kernel_rfl) (fun K hK => ?kx1_6) AllReadyH.nil
        go_simp
        (go_at_call 22; refine (HL.out _).mono ?_; rintro e w' ⟨rfl, hbel⟩)
        try go_wp2_with fail
        refine hK.out _ _ ?sx1_6 (fun hHeld => ?_)
        case sx1_6 => ((try dsimp only); exact keepB4 (by assumption) hbel)
        clear hK K
        try simp only [Act.put, List.setIfInBounds_toArray, List.set_cons_zero, List.set_cons_succ]
        refine take_at 5 (some 15) (v := ?vx1_7) rfl rfl (by kernel_rfl) (by kernel_rfl) (by kernel_rfl) (fun _ _ _ h => h) (Or.inl ⟨by kernel_rfl, ?yx1_7⟩) hHeld ?zx1_7
        case yx1_7 => (intro wS hSw; (try dsimp only at hSw); go_simp; (try with_reducible rfl))
        try simp only [Act.put, List.setIfInBounds_toArray, List.set_cons_zero, List.set_cons_succ]
        refine take_at 6 (some 16) (v := ?vx1_8) rfl rfl (by kernel_rfl) (by kernel_rfl) (by kernel_rfl) (fun _ _ _ h => h) (Or.inl ⟨by kernel_rfl, ?yx1_8⟩) hHeld ?zx1_8
        case yx1_8 => (intro wS hSw; (try dsimp only at hSw); go_simp; (try with_reducible rfl))
        try simp only [Act.put, List.setIfInBounds_toArray, List.set_cons_zero, List.set_cons_succ]
        refine take_at 7 (some 17) (v := undef) rfl rfl (by kernel_rfl) (by kernel_rfl) (by kernel_rfl) (fun _ _ _ h => h) (Or.inr ⟨by kernel_rfl, rfl⟩) hHeld ?_
        try simp only [Act.put, List.setIfInBounds_toArray, List.set_cons_zero, List.set_cons_succ]
        refine take_at 8 (some 18) (v := undef) rfl rfl (by kernel_rfl) (by kernel_rfl) (by kernel_rfl) (fun _ _ _ h => h) (Or.inr ⟨by kernel_rfl, rfl⟩) hHeld ?_
        try simp only [Act.put, List.setIfInBounds_toArray, List.set_cons_zero, List.set_cons_succ]
        refine take_at 9 (some 19) (v := undef) rfl rfl (by kernel_rfl) (by kernel_rfl) (by kernel_rfl) (fun _ _ _ h => h) (Or.inr ⟨by kernel_rfl, rfl⟩) hHeld ?_
        try simp only [Act.put, List.setIfInBounds_toArray, List.set_cons_zero, List.set_cons_succ]
        refine take_at 10 (some 20) (v := undef) rfl rfl (by kernel_rfl) (by kernel_rfl) (by kernel_rfl) (fun _ _ _ h => h) (Or.inr ⟨by kernel_rfl, rfl⟩) hHeld ?_
        try simp only [Act.put, List.setIfInBounds_toArray, List.set_cons_zero, List.set_cons_succ]
        refine take_at 11 (some 21) (v := undef) rfl rfl (by kernel_rfl) (by kernel_rfl) (by kernel_rfl) (fun _ _ _ h => h) (Or.inr ⟨by kernel_rfl, rfl⟩) hHeld ?_
        try simp only [Act.put, List.setIfInBounds_toArray, List.set_cons_zero, List.set_cons_succ]
        refine take_at 12 (some 22) (v := undef) rfl rfl (by kernel_rfl) (by kernel_rfl) (by kernel_rfl) (fun _ _ _ h => h) (Or.inr ⟨by kernel_rfl, rfl⟩) hHeld ?_
        try simp only [Act.put, List.setIfInBounds_toArray, List.set_cons_zero, List.set_cons_succ]
        refine take_at 13 (some 23) (v := undef) rfl rfl (by kernel_rfl) (by kernel_rfl) (by kernel_rfl) (fun _ _ _ h => h) (Or.inr ⟨by kernel_rfl, rfl⟩) hHeld ?_
        try simp only [Act.put, List.setIfInBounds_toArray, List.set_cons_zero, List.set_cons_succ]
        refine take_at 14 (some 24) (v := undef) rfl rfl (by kernel_rfl) (by kernel_rfl) (by kernel_rfl) (fun _ _ _ h => h) (Or.inr ⟨by kernel_rfl, rfl⟩) hHeld ?_
        try simp only [Act.put, List.setIfInBounds_toArray, List.set_cons_zero, List.set_cons_succ]
        refine take_at 15 (some 25) (v := undef) rfl rfl (by kernel_rfl) (by kernel_rfl) (by kernel_rfl) (fun _ _ _ h => h) (Or.inr ⟨by kernel_rfl, rfl⟩) hHeld ?_
        try simp only [Act.put, List.setIfInBounds_toArray, List.set_cons_zero, List.set_cons_succ]
        refine take_at 16 (some 26) (v := undef) rfl rfl (by kernel_rfl) (by kernel_rfl) (by kernel_rfl) (fun _ _ _ h => h) (Or.inr ⟨by kernel_rfl, rfl⟩) hHeld ?_
        try simp only [Act.put, List.setIfInBounds_toArray, List.set_cons_zero, List.set_cons_succ]
        refine take_at 17 (some 27) (v := undef) rfl rfl (by kernel_rfl) (by kernel_rfl) (by kernel_rfl) (fun _ _ _ h => h) (Or.inr ⟨by kernel_rfl, rfl⟩) hHeld ?_
        try simp only [Act.put, List.setIfInBounds_toArray, List.set_cons_zero, List.set_cons_succ]
        refine take_at 18 (some 28) (v := undef) rfl rfl (by kernel_rfl) (by kernel_rfl) (by kernel_rfl) (fun _ _ _ h => h) (Or.inr ⟨by kernel_rfl, rfl⟩) hHeld ?_
        try simp only [Act.put, List.setIfInBounds_toArray, List.set_cons_zero, List.set_cons_succ]
        refine take_at 19 (some 29) (v := undef) rfl rfl (by kernel_rfl) (by kernel_rfl) (by kernel_rfl) (fun _ _ _ h => h) (Or.inr ⟨by kernel_rfl, rfl⟩) hHeld ?_
        try simp only [Act.put, List.setIfInBounds_toArray, List.set_cons_zero, List.set_cons_succ]
        refine take_at 20 (some 30) (v := undef) rfl rfl (by kernel_rfl) (by kernel_rfl) (by kernel_rfl) (fun _ _ _ h => h) (Or.inr ⟨by kernel_rfl, rfl⟩) hHeld ?_
        try simp only [Act.put, List.setIfInBounds_toArray, List.set_cons_zero, List.set_cons_succ]
        refine take_at 21 (some 31) (v := undef) rfl rfl (by kernel_rfl) (by kernel_rfl) (by kernel_rfl) (fun _ _ _ h => h) (Or.inr ⟨by kernel_rfl, rfl⟩) hHeld ?_
        try simp only [Act.put, List.setIfInBounds_toArray, List.set_cons_zero, List.set_cons_succ]
        refine take_at 22 (some 32) (v := undef) rfl rfl (by kernel_rfl) (by kernel_rfl) (by kernel_rfl) (fun _ _ _ h => h) (Or.inr ⟨by kernel_rfl, rfl⟩) hHeld ?_
        try simp only [Act.put, List.setIfInBounds_toArray, List.set_cons_zero, List.set_cons_succ]
        refine take_at 23 (some 33) (v := ?vx1_25) rfl rfl (by kernel_rfl) (by kernel_rfl) (by kernel_rfl) (fun _ _ _ h => h) (Or.inl ⟨by kernel_rfl, ?yx1_25⟩) hHeld ?zx1_25
        case yx1_25 => (intro wS hSw; (try dsimp only at hSw); go_simp; (try with_reducible rfl))
        try simp only [Act.put, List.setIfInBounds_toArray, List.set_cons_zero, List.set_cons_succ]
        refine wpAnyH_done (by kernel_rfl) ?_ _
        go_wp2
        go_ret
        exact ⟨ret_bool HV.out.symm, hHeld.1⟩
      · rw [show evB ⟨xs[k].t, xs[k].n, xs[k].k, xs[k].m⟩ = true from hx] at hL
        have HL := Lib.hid hL; clear hL
        have HG := Lib.hid hx; clear hx
        by_cases hk0 : k = 0
        · subst hk0
          simp only [Nat.zero_mul, Nat.add_zero] at c1 c2 c3 c4
          go_wp2_with fail
          refine wp_region_held_drew (S := (fun w' => Below w.heap.size w w' ∧ w'.cell? ⟨b, off, none⟩ = some (.int .i64 xs[0].t) ∧ w'.cell? ⟨b, off + 1, none⟩ = some (.int .i64 xs[0].n) ∧ w'.cell? ⟨b, off + 2, none⟩ = some (.int .i64 xs[0].k) ∧ w'.cell? ⟨b, off + 3, none⟩ = some (.int .i64 xs[0].m))) (by kernel_rfl) ?rx2s (fun hHeld => ?rx20)
          case rx2s => ((try dsimp only); exact ⟨hb.drew, c1, c2, c3, c4⟩)
          try simp only [Act.put, List.setIfInBounds_toArray, List.set_cons_zero, List.set_cons_succ]
          refine take_at 0 (some 10) (v := ?vx2_1) rfl rfl (by kernel_rfl) (by kernel_rfl) (by kernel_rfl) (fun _ _ _ h => h) (Or.inl ⟨by kernel_rfl, ?yx2_1⟩) hHeld ?zx2_1
          case yx2_1 => (intro wS hSw; (try dsimp only at hSw); go_simp; (try with_reducible rfl))
          try simp only [Act.put, List.setIfInBounds_toArray, List.set_cons_zero, List.set_cons_succ]
          refine take_at 1 (some 11) (v := ?vx2_2) rfl rfl (by kernel_rfl) (by kernel_rfl) (by kernel_rfl) (fun _ _ _ h => h) (Or.inl ⟨by kernel_rfl, ?yx2_2⟩) hHeld ?zx2_2
          case yx2_2 => (intro wS hSw; (try dsimp only at hSw); go_simp; (try with_reducible rfl))
          try simp only [Act.put, List.setIfInBounds_toArray, List.set_cons_zero, List.set_cons_succ]
          refine take_at 2 (some 12) (v := ?vx2_3) rfl rfl (by kernel_rfl) (by kernel_rfl) (by kernel_rfl) (fun _ _ _ h => h) (Or.inl ⟨by kernel_rfl, ?yx2_3⟩) hHeld ?zx2_3
          case yx2_3 => (intro wS hSw; (try dsimp only at hSw); go_simp; (try with_reducible rfl))
          try simp only [Act.put, List.setIfInBounds_toArray, List.set_cons_zero, List.set_cons_succ]
          refine take_at 3 (some 13) (v := ?vx2_4) rfl rfl (by kernel_rfl) (by kernel_rfl) (by kernel_rfl) (fun _ _ _ h => h) (Or.inl ⟨by kernel_rfl, ?yx2_4⟩) hHeld ?zx2_4
          case yx2_4 => (intro wS hSw; (try dsimp only at hSw); go_simp; (try with_reducible rfl))
          try simp only [Act.put, List.setIfInBounds_toArray, List.set_cons_zero, List.set_cons_succ]
          refine wpAnyH_ready (rs := [4]) (by kernel_rfl) (by simp) ?_
          refine cons_at (some 14) rfl rfl (by kernel_rfl) (fun K hK => ?kx2_6) AllReadyH.nil
          go_simp
          (go_at_call 22; refine (HL.out _).mono ?_; rintro e w' ⟨rfl, hbel⟩)
          try go_wp2_with fail
          refine hK.out _ _ ?sx2_6 (fun hHeld => ?_)
          case sx2_6 => ((try dsimp only); exact keepB4 (by assumption) hbel)
          clear hK K
          try simp only [Act.put, List.setIfInBounds_toArray, List.set_cons_zero, List.set_cons_succ]
          refine take_at 5 (some 15) (v := ?vx2_7) rfl rfl (by kernel_rfl) (by kernel_rfl) (by kernel_rfl) (fun _ _ _ h => h) (Or.inl ⟨by kernel_rfl, ?yx2_7⟩) hHeld ?zx2_7
          case yx2_7 => (intro wS hSw; (try dsimp only at hSw); go_simp; (try with_reducible rfl))
          try simp only [Act.put, List.setIfInBounds_toArray, List.set_cons_zero, List.set_cons_succ]
          refine take_at 6 (some 16) (v := ?vx2_8) rfl rfl (by kernel_rfl) (by kernel_rfl) (by kernel_rfl) (fun _ _ _ h => h) (Or.inl ⟨by kernel_rfl, ?yx2_8⟩) hHeld ?zx2_8
          case yx2_8 => (intro wS hSw; (try dsimp only at hSw); go_simp; (try with_reducible rfl))
          try simp only [Act.put, List.setIfInBounds_toArray, List.set_cons_zero, List.set_cons_succ]
          refine take_at 7 (some 17) (v := ?vx2_9) rfl rfl (by kernel_rfl) (by kernel_rfl) (by kernel_rfl) (fun _ _ _ h => h) (Or.inl ⟨by kernel_rfl, ?yx2_9⟩) hHeld ?zx2_9
          case yx2_9 => (intro wS hSw; (try dsimp only at hSw); go_simp; (try with_reducible rfl))
          try simp only [Act.put, List.setIfInBounds_toArray, List.set_cons_zero, List.set_cons_succ]
          refine take_at 8 (some 18) (v := ?vx2_10) rfl rfl (by kernel_rfl) (by kernel_rfl) (by kernel_rfl) (fun _ _ _ h => h) (Or.inl ⟨by kernel_rfl, ?yx2_10⟩) hHeld ?zx2_10
          case yx2_10 => (intro wS hSw; (try dsimp only at hSw); go_simp; (try with_reducible rfl))
          try simp only [Act.put, List.setIfInBounds_toArray, List.set_cons_zero, List.set_cons_succ]
          refine take_at 9 (some 19) (v := ?vx2_11) rfl rfl (by kernel_rfl) (by kernel_rfl) (by kernel_rfl) (fun _ _ _ h => h) (Or.inl ⟨by kernel_rfl, ?yx2_11⟩) hHeld ?zx2_11
          case yx2_11 => (intro wS hSw; (try dsimp only at hSw); go_simp; (try with_reducible rfl))
          try simp only [Act.put, List.setIfInBounds_toArray, List.set_cons_zero, List.set_cons_succ]
          refine take_at 10 (some 20) (v := undef) rfl rfl (by kernel_rfl) (by kernel_rfl) (by kernel_rfl) (fun _ _ _ h => h) (Or.inr ⟨by kernel_rfl, rfl⟩) hHeld ?_
          try simp only [Act.put, List.setIfInBounds_toArray, List.set_cons_zero, List.set_cons_succ]
          refine take_at 11 (some 21) (v := undef) rfl rfl (by kernel_rfl) (by kernel_rfl) (by kernel_rfl) (fun _ _ _ h => h) (Or.inr ⟨by kernel_rfl, rfl⟩) hHeld ?_
          try simp only [Act.put, List.setIfInBounds_toArray, List.set_cons_zero, List.set_cons_succ]
          refine take_at 12 (some 22) (v := undef) rfl rfl (by kernel_rfl) (by kernel_rfl) (by kernel_rfl) (fun _ _ _ h => h) (Or.inr ⟨by kernel_rfl, rfl⟩) hHeld ?_
          try simp only [Act.put, List.setIfInBounds_toArray, List.set_cons_zero, List.set_cons_succ]
          refine take_at 13 (some 23) (v := undef) rfl rfl (by kernel_rfl) (by kernel_rfl) (by kernel_rfl) (fun _ _ _ h => h) (Or.inr ⟨by kernel_rfl, rfl⟩) hHeld ?_
          try simp only [Act.put, List.setIfInBounds_toArray, List.set_cons_zero, List.set_cons_succ]
          refine take_at 14 (some 24) (v := undef) rfl rfl (by kernel_rfl) (by kernel_rfl) (by kernel_rfl) (fun _ _ _ h => h) (Or.inr ⟨by kernel_rfl, rfl⟩) hHeld ?_
          try simp only [Act.put, List.setIfInBounds_toArray, List.set_cons_zero, List.set_cons_succ]
          refine take_at 15 (some 25) (v := undef) rfl rfl (by kernel_rfl) (by kernel_rfl) (by kernel_rfl) (fun _ _ _ h => h) (Or.inr ⟨by kernel_rfl, rfl⟩) hHeld ?_
          try simp only [Act.put, List.setIfInBounds_toArray, List.set_cons_zero, List.set_cons_succ]
          refine take_at 16 (some 26) (v := undef) rfl rfl (by kernel_rfl) (by kernel_rfl) (by kernel_rfl) (fun _ _ _ h => h) (Or.inr ⟨by kernel_rfl, rfl⟩) hHeld ?_
          try simp only [Act.put, List.setIfInBounds_toArray, List.set_cons_zero, List.set_cons_succ]
          refine take_at 17 (some 27) (v := undef) rfl rfl (by kernel_rfl) (by kernel_rfl) (by kernel_rfl) (fun _ _ _ h => h) (Or.inr ⟨by kernel_rfl, rfl⟩) hHeld ?_
          try simp only [Act.put, List.setIfInBounds_toArray, List.set_cons_zero, List.set_cons_succ]
          refine take_at 18 (some 28) (v := undef) rfl rfl (by kernel_rfl) (by kernel_rfl) (by kernel_rfl) (fun _ _ _ h => h) (Or.inr ⟨by kernel_rfl, rfl⟩) hHeld ?_
          try simp only [Act.put, List.setIfInBounds_toArray, List.set_cons_zero, List.set_cons_succ]
          refine take_at 19 (some 29) (v := undef) rfl rfl (by kernel_rfl) (by kernel_rfl) (by kernel_rfl) (fun _ _ _ h => h) (Or.inr ⟨by kernel_rfl, rfl⟩) hHeld ?_
          try simp only [Act.put, List.setIfInBounds_toArray, List.set_cons_zero, List.set_cons_succ]
          refine take_at 20 (some 30) (v := undef) rfl rfl (by kernel_rfl) (by kernel_rfl) (by kernel_rfl) (fun _ _ _ h => h) (Or.inr ⟨by kernel_rfl, rfl⟩) hHeld ?_
          try simp only [Act.put, List.setIfInBounds_toArray, List.set_cons_zero, List.set_cons_succ]
          refine take_at 21 (some 31) (v := undef) rfl rfl (by kernel_rfl) (by kernel_rfl) (by kernel_rfl) (fun _ _ _ h => h) (Or.inr ⟨by kernel_rfl, rfl⟩) hHeld ?_
          try simp only [Act.put, List.setIfInBounds_toArray, List.set_cons_zero, List.set_cons_succ]
          refine take_at 22 (some 32) (v := ?vx2_24) rfl rfl (by kernel_rfl) (by kernel_rfl) (by kernel_rfl) (fun _ _ _ h => h) (Or.inl ⟨by kernel_rfl, ?yx2_24⟩) hHeld ?zx2_24
          case yx2_24 => (intro wS hSw; (try dsimp only at hSw); go_simp; (try with_reducible rfl))
          try simp only [Act.put, List.setIfInBounds_toArray, List.set_cons_zero, List.set_cons_succ]
          refine take_at 23 (some 33) (v := ?vx2_25) rfl rfl (by kernel_rfl) (by kernel_rfl) (by kernel_rfl) (fun _ _ _ h => h) (Or.inl ⟨by kernel_rfl, ?yx2_25⟩) hHeld ?zx2_25
          case yx2_25 => (intro wS hSw; (try dsimp only at hSw); go_simp; (try with_reducible rfl))
          try simp only [Act.put, List.setIfInBounds_toArray, List.set_cons_zero, List.set_cons_succ]
          refine wpAnyH_done (by kernel_rfl) ?_ _
          go_wp2
          go_roundw
          case rel => exact ⟨1, by omega, by go_num, hHeld.1, Lib.hid ⟨fun j h hj => (by have hj0 : j = 0 := (by omega); subst hj0; exact HG.out), fun j h hj => absurd hj (by omega)⟩⟩
          case measure => simp [intOf]; omega
        · obtain ⟨m, hm⟩ : ∃ m : Nat, k = m + 1 := ⟨k - 1, by omega⟩
          have hm1 : m < xs.length := by omega
          have hk1 : 0 < k := by omega
          obtain ⟨d1, d2, d3, d4⟩ := HC.out m hm1
          have d1 := (hb.cell (World.block_lt_of_cell? w _ d1)).trans d1
          clear d2 d3 d4
          have w1 : IntKind.i64.wrap ((k : Int) - 1) = m := by rw [IntKind.wrap_i64]; omega
          have HM := Lib.hid hm; clear hm hk0
          by_cases hgt : xs[k].t < xs[m].t
          · have HV : Hid (tsB xs = false) := Lib.hid (tsB_false.2 fun ⟨_, _, h3⟩ => by
              have := h3 m (by have := HM.out; omega)
              simp only [← HM.out] at this
              omega)
            go_wp2_with fail
            refine wp_region_held_drew (S := (fun w' => Below w.heap.size w w' ∧ w'.cell? ⟨b, off + k * 4, none⟩ = some (.int .i64 xs[k].t) ∧ w'.cell? ⟨b, off + k * 4 + 1, none⟩ = some (.int .i64 xs[k].n) ∧ w'.cell? ⟨b, off + k * 4 + 2, none⟩ = some (.int .i64 xs[k].k) ∧ w'.cell? ⟨b, off + k * 4 + 3, none⟩ = some (.int .i64 xs[k].m) ∧ w'.cell? ⟨b, off + m * 4, none⟩ = some (.int .i64 xs[m].t))) (by kernel_rfl) ?rx3s (fun hHeld => ?rx30)
            case rx3s => ((try dsimp only); exact ⟨hb.drew, c1, c2, c3, c4, d1⟩)
            try simp only [Act.put, List.setIfInBounds_toArray, List.set_cons_zero, List.set_cons_succ]
            refine take_at 0 (some 10) (v := ?vx3_1) rfl rfl (by kernel_rfl) (by kernel_rfl) (by kernel_rfl) (fun _ _ _ h => h) (Or.inl ⟨by kernel_rfl, ?yx3_1⟩) hHeld ?zx3_1
            case yx3_1 => (intro wS hSw; (try dsimp only at hSw); go_simp; (try with_reducible rfl))
            try simp only [Act.put, List.setIfInBounds_toArray, List.set_cons_zero, List.set_cons_succ]
            refine take_at 1 (some 11) (v := ?vx3_2) rfl rfl (by kernel_rfl) (by kernel_rfl) (by kernel_rfl) (fun _ _ _ h => h) (Or.inl ⟨by kernel_rfl, ?yx3_2⟩) hHeld ?zx3_2
            case yx3_2 => (intro wS hSw; (try dsimp only at hSw); go_simp; (try with_reducible rfl))
            try simp only [Act.put, List.setIfInBounds_toArray, List.set_cons_zero, List.set_cons_succ]
            refine take_at 2 (some 12) (v := ?vx3_3) rfl rfl (by kernel_rfl) (by kernel_rfl) (by kernel_rfl) (fun _ _ _ h => h) (Or.inl ⟨by kernel_rfl, ?yx3_3⟩) hHeld ?zx3_3
            case yx3_3 => (intro wS hSw; (try dsimp only at hSw); go_simp; (try with_reducible rfl))
            try simp only [Act.put, List.setIfInBounds_toArray, List.set_cons_zero, List.set_cons_succ]
            refine take_at 3 (some 13) (v := ?vx3_4) rfl rfl (by kernel_rfl) (by kernel_rfl) (by kernel_rfl) (fun _ _ _ h => h) (Or.inl ⟨by kernel_rfl, ?yx3_4⟩) hHeld ?zx3_4
            case yx3_4 => (intro wS hSw; (try dsimp only at hSw); go_simp; (try with_reducible rfl))
            try simp only [Act.put, List.setIfInBounds_toArray, List.set_cons_zero, List.set_cons_succ]
            refine wpAnyH_ready (rs := [4]) (by kernel_rfl) (by simp) ?_
            refine cons_at (some 14) rfl rfl (by kernel_rfl) (fun K hK => ?kx3_6) AllReadyH.nil
            go_simp
            (go_at_call 22; refine (HL.out _).mono ?_; rintro e w' ⟨rfl, hbel⟩)
            try go_wp2_with fail
            refine hK.out _ _ ?sx3_6 (fun hHeld => ?_)
            case sx3_6 => ((try dsimp only); exact keepB5 (by assumption) hbel)
            clear hK K
            try simp only [Act.put, List.setIfInBounds_toArray, List.set_cons_zero, List.set_cons_succ]
            refine take_at 5 (some 15) (v := ?vx3_7) rfl rfl (by kernel_rfl) (by kernel_rfl) (by kernel_rfl) (fun _ _ _ h => h) (Or.inl ⟨by kernel_rfl, ?yx3_7⟩) hHeld ?zx3_7
            case yx3_7 => (intro wS hSw; (try dsimp only at hSw); go_simp; (try with_reducible rfl))
            try simp only [Act.put, List.setIfInBounds_toArray, List.set_cons_zero, List.set_cons_succ]
            refine take_at 6 (some 16) (v := ?vx3_8) rfl rfl (by kernel_rfl) (by kernel_rfl) (by kernel_rfl) (fun _ _ _ h => h) (Or.inl ⟨by kernel_rfl, ?yx3_8⟩) hHeld ?zx3_8
            case yx3_8 => (intro wS hSw; (try dsimp only at hSw); go_simp; (try with_reducible rfl))
            try simp only [Act.put, List.setIfInBounds_toArray, List.set_cons_zero, List.set_cons_succ]
            refine take_at 7 (some 17) (v := ?vx3_9) rfl rfl (by kernel_rfl) (by kernel_rfl) (by kernel_rfl) (fun _ _ _ h => h) (Or.inl ⟨by kernel_rfl, ?yx3_9⟩) hHeld ?zx3_9
            case yx3_9 => (intro wS hSw; (try dsimp only at hSw); go_simp; (try with_reducible rfl))
            try simp only [Act.put, List.setIfInBounds_toArray, List.set_cons_zero, List.set_cons_succ]
            refine take_at 8 (some 18) (v := ?vx3_10) rfl rfl (by kernel_rfl) (by kernel_rfl) (by kernel_rfl) (fun _ _ _ h => h) (Or.inl ⟨by kernel_rfl, ?yx3_10⟩) hHeld ?zx3_10
            case yx3_10 => (intro wS hSw; (try dsimp only at hSw); go_simp; (try with_reducible rfl))
            try simp only [Act.put, List.setIfInBounds_toArray, List.set_cons_zero, List.set_cons_succ]
            refine take_at 9 (some 19) (v := ?vx3_11) rfl rfl (by kernel_rfl) (by kernel_rfl) (by kernel_rfl) (fun _ _ _ h => h) (Or.inl ⟨by kernel_rfl, ?yx3_11⟩) hHeld ?zx3_11
            case yx3_11 => (intro wS hSw; (try dsimp only at hSw); go_simp; (try with_reducible rfl))
            try simp only [Act.put, List.setIfInBounds_toArray, List.set_cons_zero, List.set_cons_succ]
            refine take_at 10 (some 20) (v := ?vx3_12) rfl rfl (by kernel_rfl) (by kernel_rfl) (by kernel_rfl) (fun _ _ _ h => h) (Or.inl ⟨by kernel_rfl, ?yx3_12⟩) hHeld ?zx3_12
            case yx3_12 => (intro wS hSw; (try dsimp only at hSw); go_simp; (try with_reducible rfl))
            try simp only [Act.put, List.setIfInBounds_toArray, List.set_cons_zero, List.set_cons_succ]
            refine take_at 11 (some 21) (v := ?vx3_13) rfl rfl (by kernel_rfl) (by kernel_rfl) (by kernel_rfl) (fun _ _ _ h => h) (Or.inl ⟨by kernel_rfl, ?yx3_13⟩) hHeld ?zx3_13
            case yx3_13 => (intro wS hSw; (try dsimp only at hSw); go_simp; (try with_reducible rfl))
            try simp only [Act.put, List.setIfInBounds_toArray, List.set_cons_zero, List.set_cons_succ]
            refine take_at 12 (some 22) (v := ?vx3_14) rfl rfl (by kernel_rfl) (by kernel_rfl) (by kernel_rfl) (fun _ _ _ h => h) (Or.inl ⟨by kernel_rfl, ?yx3_14⟩) hHeld ?zx3_14
            case yx3_14 => (intro wS hSw; (try dsimp only at hSw); go_simp; (try with_reducible rfl))
            try simp only [Act.put, List.setIfInBounds_toArray, List.set_cons_zero, List.set_cons_succ]
            refine take_at 13 (some 23) (v := ?vx3_15) rfl rfl (by kernel_rfl) (by kernel_rfl) (by kernel_rfl) (fun _ _ _ h => h) (Or.inl ⟨by kernel_rfl, ?yx3_15⟩) hHeld ?zx3_15
            case yx3_15 => (intro wS hSw; (try dsimp only at hSw); go_simp; (try with_reducible rfl))
            try simp only [Act.put, List.setIfInBounds_toArray, List.set_cons_zero, List.set_cons_succ]
            refine take_at 14 (some 24) (v := ?vx3_16) rfl rfl (by kernel_rfl) (by kernel_rfl) (by kernel_rfl) (fun _ _ _ h => h) (Or.inl ⟨by kernel_rfl, ?yx3_16⟩) hHeld ?zx3_16
            case yx3_16 => (intro wS hSw; (try dsimp only at hSw); go_simp; (try with_reducible rfl))
            try simp only [Act.put, List.setIfInBounds_toArray, List.set_cons_zero, List.set_cons_succ]
            refine take_at 15 (some 25) (v := ?vx3_17) rfl rfl (by kernel_rfl) (by kernel_rfl) (by kernel_rfl) (fun _ _ _ h => h) (Or.inl ⟨by kernel_rfl, ?yx3_17⟩) hHeld ?zx3_17
            case yx3_17 => (intro wS hSw; (try dsimp only at hSw); go_simp; (try with_reducible rfl))
            try simp only [Act.put, List.setIfInBounds_toArray, List.set_cons_zero, List.set_cons_succ]
            refine take_at 16 (some 26) (v := ?vx3_18) rfl rfl (by kernel_rfl) (by kernel_rfl) (by kernel_rfl) (fun _ _ _ h => h) (Or.inl ⟨by kernel_rfl, ?yx3_18⟩) hHeld ?zx3_18
            case yx3_18 => (intro wS hSw; (try dsimp only at hSw); go_simp; (try with_reducible rfl))
            try simp only [Act.put, List.setIfInBounds_toArray, List.set_cons_zero, List.set_cons_succ]
            refine take_at 17 (some 27) (v := ?vx3_19) rfl rfl (by kernel_rfl) (by kernel_rfl) (by kernel_rfl) (fun _ _ _ h => h) (Or.inl ⟨by kernel_rfl, ?yx3_19⟩) hHeld ?zx3_19
            case yx3_19 => (intro wS hSw; (try dsimp only at hSw); go_simp; (try with_reducible rfl))
            try simp only [Act.put, List.setIfInBounds_toArray, List.set_cons_zero, List.set_cons_succ]
            refine take_at 18 (some 28) (v := ?vx3_20) rfl rfl (by kernel_rfl) (by kernel_rfl) (by kernel_rfl) (fun _ _ _ h => h) (Or.inl ⟨by kernel_rfl, ?yx3_20⟩) hHeld ?zx3_20
            case yx3_20 => (intro wS hSw; (try dsimp only at hSw); go_simp; (try with_reducible rfl))
            try simp only [Act.put, List.setIfInBounds_toArray, List.set_cons_zero, List.set_cons_succ]
            refine take_at 19 (some 29) (v := ?vx3_21) rfl rfl (by kernel_rfl) (by kernel_rfl) (by kernel_rfl) (fun _ _ _ h => h) (Or.inl ⟨by kernel_rfl, ?yx3_21⟩) hHeld ?zx3_21
            case yx3_21 => (intro wS hSw; (try dsimp only at hSw); go_simp; (try with_reducible rfl))
            try simp only [Act.put, List.setIfInBounds_toArray, List.set_cons_zero, List.set_cons_succ]
            refine take_at 20 (some 30) (v := ?vx3_22) rfl rfl (by kernel_rfl) (by kernel_rfl) (by kernel_rfl) (fun _ _ _ h => h) (Or.inl ⟨by kernel_rfl, ?yx3_22⟩) hHeld ?zx3_22
            case yx3_22 => (intro wS hSw; (try dsimp only at hSw); go_simp; (try with_reducible rfl))
            try simp only [Act.put, List.setIfInBounds_toArray, List.set_cons_zero, List.set_cons_succ]
            refine take_at 21 (some 31) (v := ?vx3_23) rfl rfl (by kernel_rfl) (by kernel_rfl) (by kernel_rfl) (fun _ _ _ h => h) (Or.inl ⟨by kernel_rfl, ?yx3_23⟩) hHeld ?zx3_23
            case yx3_23 => (intro wS hSw; (try dsimp only at hSw); go_simp; (try with_reducible rfl))
            try simp only [Act.put, List.setIfInBounds_toArray, List.set_cons_zero, List.set_cons_succ]
            refine take_at 22 (some 32) (v := ?vx3_24) rfl rfl (by kernel_rfl) (by kernel_rfl) (by kernel_rfl) (fun _ _ _ h => h) (Or.inl ⟨by kernel_rfl, ?yx3_24⟩) hHeld ?zx3_24
            case yx3_24 => (intro wS hSw; (try dsimp only at hSw); go_simp; (try with_reducible rfl))
            try simp only [Act.put, List.setIfInBounds_toArray, List.set_cons_zero, List.set_cons_succ]
            refine take_at 23 (some 33) (v := ?vx3_25) rfl rfl (by kernel_rfl) (by kernel_rfl) (by kernel_rfl) (fun _ _ _ h => h) (Or.inl ⟨by kernel_rfl, ?yx3_25⟩) hHeld ?zx3_25
            case yx3_25 => (intro wS hSw; (try dsimp only at hSw); go_simp; (try with_reducible rfl))
            try simp only [Act.put, List.setIfInBounds_toArray, List.set_cons_zero, List.set_cons_succ]
            refine wpAnyH_done (by kernel_rfl) ?_ _
            clear w1
            go_wp2
            go_ret
            exact ⟨ret_bool HV.out.symm, hHeld.1⟩
          · go_wp2_with fail
            refine wp_region_held_drew (S := (fun w' => Below w.heap.size w w' ∧ w'.cell? ⟨b, off + k * 4, none⟩ = some (.int .i64 xs[k].t) ∧ w'.cell? ⟨b, off + k * 4 + 1, none⟩ = some (.int .i64 xs[k].n) ∧ w'.cell? ⟨b, off + k * 4 + 2, none⟩ = some (.int .i64 xs[k].k) ∧ w'.cell? ⟨b, off + k * 4 + 3, none⟩ = some (.int .i64 xs[k].m) ∧ w'.cell? ⟨b, off + m * 4, none⟩ = some (.int .i64 xs[m].t))) (by kernel_rfl) ?rx4s (fun hHeld => ?rx40)
            case rx4s => ((try dsimp only); exact ⟨hb.drew, c1, c2, c3, c4, d1⟩)
            try simp only [Act.put, List.setIfInBounds_toArray, List.set_cons_zero, List.set_cons_succ]
            refine take_at 0 (some 10) (v := ?vx4_1) rfl rfl (by kernel_rfl) (by kernel_rfl) (by kernel_rfl) (fun _ _ _ h => h) (Or.inl ⟨by kernel_rfl, ?yx4_1⟩) hHeld ?zx4_1
            case yx4_1 => (intro wS hSw; (try dsimp only at hSw); go_simp; (try with_reducible rfl))
            try simp only [Act.put, List.setIfInBounds_toArray, List.set_cons_zero, List.set_cons_succ]
            refine take_at 1 (some 11) (v := ?vx4_2) rfl rfl (by kernel_rfl) (by kernel_rfl) (by kernel_rfl) (fun _ _ _ h => h) (Or.inl ⟨by kernel_rfl, ?yx4_2⟩) hHeld ?zx4_2
            case yx4_2 => (intro wS hSw; (try dsimp only at hSw); go_simp; (try with_reducible rfl))
            try simp only [Act.put, List.setIfInBounds_toArray, List.set_cons_zero, List.set_cons_succ]
            refine take_at 2 (some 12) (v := ?vx4_3) rfl rfl (by kernel_rfl) (by kernel_rfl) (by kernel_rfl) (fun _ _ _ h => h) (Or.inl ⟨by kernel_rfl, ?yx4_3⟩) hHeld ?zx4_3
            case yx4_3 => (intro wS hSw; (try dsimp only at hSw); go_simp; (try with_reducible rfl))
            try simp only [Act.put, List.setIfInBounds_toArray, List.set_cons_zero, List.set_cons_succ]
            refine take_at 3 (some 13) (v := ?vx4_4) rfl rfl (by kernel_rfl) (by kernel_rfl) (by kernel_rfl) (fun _ _ _ h => h) (Or.inl ⟨by kernel_rfl, ?yx4_4⟩) hHeld ?zx4_4
            case yx4_4 => (intro wS hSw; (try dsimp only at hSw); go_simp; (try with_reducible rfl))
            try simp only [Act.put, List.setIfInBounds_toArray, List.set_cons_zero, List.set_cons_succ]
            refine wpAnyH_ready (rs := [4]) (by kernel_rfl) (by simp) ?_
            refine cons_at (some 14) rfl rfl (by kernel_rfl) (fun K hK => ?kx4_6) AllReadyH.nil
            go_simp
            (go_at_call 22; refine (HL.out _).mono ?_; rintro e w' ⟨rfl, hbel⟩)
            try go_wp2_with fail
            refine hK.out _ _ ?sx4_6 (fun hHeld => ?_)
            case sx4_6 => ((try dsimp only); exact keepB5 (by assumption) hbel)
            clear hK K
            try simp only [Act.put, List.setIfInBounds_toArray, List.set_cons_zero, List.set_cons_succ]
            refine take_at 5 (some 15) (v := ?vx4_7) rfl rfl (by kernel_rfl) (by kernel_rfl) (by kernel_rfl) (fun _ _ _ h => h) (Or.inl ⟨by kernel_rfl, ?yx4_7⟩) hHeld ?zx4_7
            case yx4_7 => (intro wS hSw; (try dsimp only at hSw); go_simp; (try with_reducible rfl))
            try simp only [Act.put, List.setIfInBounds_toArray, List.set_cons_zero, List.set_cons_succ]
            refine take_at 6 (some 16) (v := ?vx4_8) rfl rfl (by kernel_rfl) (by kernel_rfl) (by kernel_rfl) (fun _ _ _ h => h) (Or.inl ⟨by kernel_rfl, ?yx4_8⟩) hHeld ?zx4_8
            case yx4_8 => (intro wS hSw; (try dsimp only at hSw); go_simp; (try with_reducible rfl))
            try simp only [Act.put, List.setIfInBounds_toArray, List.set_cons_zero, List.set_cons_succ]
            refine take_at 7 (some 17) (v := ?vx4_9) rfl rfl (by kernel_rfl) (by kernel_rfl) (by kernel_rfl) (fun _ _ _ h => h) (Or.inl ⟨by kernel_rfl, ?yx4_9⟩) hHeld ?zx4_9
            case yx4_9 => (intro wS hSw; (try dsimp only at hSw); go_simp; (try with_reducible rfl))
            try simp only [Act.put, List.setIfInBounds_toArray, List.set_cons_zero, List.set_cons_succ]
            refine take_at 8 (some 18) (v := ?vx4_10) rfl rfl (by kernel_rfl) (by kernel_rfl) (by kernel_rfl) (fun _ _ _ h => h) (Or.inl ⟨by kernel_rfl, ?yx4_10⟩) hHeld ?zx4_10
            case yx4_10 => (intro wS hSw; (try dsimp only at hSw); go_simp; (try with_reducible rfl))
            try simp only [Act.put, List.setIfInBounds_toArray, List.set_cons_zero, List.set_cons_succ]
            refine take_at 9 (some 19) (v := ?vx4_11) rfl rfl (by kernel_rfl) (by kernel_rfl) (by kernel_rfl) (fun _ _ _ h => h) (Or.inl ⟨by kernel_rfl, ?yx4_11⟩) hHeld ?zx4_11
            case yx4_11 => (intro wS hSw; (try dsimp only at hSw); go_simp; (try with_reducible rfl))
            try simp only [Act.put, List.setIfInBounds_toArray, List.set_cons_zero, List.set_cons_succ]
            refine take_at 10 (some 20) (v := ?vx4_12) rfl rfl (by kernel_rfl) (by kernel_rfl) (by kernel_rfl) (fun _ _ _ h => h) (Or.inl ⟨by kernel_rfl, ?yx4_12⟩) hHeld ?zx4_12
            case yx4_12 => (intro wS hSw; (try dsimp only at hSw); go_simp; (try with_reducible rfl))
            try simp only [Act.put, List.setIfInBounds_toArray, List.set_cons_zero, List.set_cons_succ]
            refine take_at 11 (some 21) (v := ?vx4_13) rfl rfl (by kernel_rfl) (by kernel_rfl) (by kernel_rfl) (fun _ _ _ h => h) (Or.inl ⟨by kernel_rfl, ?yx4_13⟩) hHeld ?zx4_13
            case yx4_13 => (intro wS hSw; (try dsimp only at hSw); go_simp; (try with_reducible rfl))
            try simp only [Act.put, List.setIfInBounds_toArray, List.set_cons_zero, List.set_cons_succ]
            refine take_at 12 (some 22) (v := ?vx4_14) rfl rfl (by kernel_rfl) (by kernel_rfl) (by kernel_rfl) (fun _ _ _ h => h) (Or.inl ⟨by kernel_rfl, ?yx4_14⟩) hHeld ?zx4_14
            case yx4_14 => (intro wS hSw; (try dsimp only at hSw); go_simp; (try with_reducible rfl))
            try simp only [Act.put, List.setIfInBounds_toArray, List.set_cons_zero, List.set_cons_succ]
            refine take_at 13 (some 23) (v := ?vx4_15) rfl rfl (by kernel_rfl) (by kernel_rfl) (by kernel_rfl) (fun _ _ _ h => h) (Or.inl ⟨by kernel_rfl, ?yx4_15⟩) hHeld ?zx4_15
            case yx4_15 => (intro wS hSw; (try dsimp only at hSw); go_simp; (try with_reducible rfl))
            try simp only [Act.put, List.setIfInBounds_toArray, List.set_cons_zero, List.set_cons_succ]
            refine take_at 14 (some 24) (v := ?vx4_16) rfl rfl (by kernel_rfl) (by kernel_rfl) (by kernel_rfl) (fun _ _ _ h => h) (Or.inl ⟨by kernel_rfl, ?yx4_16⟩) hHeld ?zx4_16
            case yx4_16 => (intro wS hSw; (try dsimp only at hSw); go_simp; (try with_reducible rfl))
            try simp only [Act.put, List.setIfInBounds_toArray, List.set_cons_zero, List.set_cons_succ]
            refine take_at 15 (some 25) (v := ?vx4_17) rfl rfl (by kernel_rfl) (by kernel_rfl) (by kernel_rfl) (fun _ _ _ h => h) (Or.inl ⟨by kernel_rfl, ?yx4_17⟩) hHeld ?zx4_17
            case yx4_17 => (intro wS hSw; (try dsimp only at hSw); go_simp; (try with_reducible rfl))
            try simp only [Act.put, List.setIfInBounds_toArray, List.set_cons_zero, List.set_cons_succ]
            refine take_at 16 (some 26) (v := ?vx4_18) rfl rfl (by kernel_rfl) (by kernel_rfl) (by kernel_rfl) (fun _ _ _ h => h) (Or.inl ⟨by kernel_rfl, ?yx4_18⟩) hHeld ?zx4_18
            case yx4_18 => (intro wS hSw; (try dsimp only at hSw); go_simp; (try with_reducible rfl))
            try simp only [Act.put, List.setIfInBounds_toArray, List.set_cons_zero, List.set_cons_succ]
            refine take_at 17 (some 27) (v := ?vx4_19) rfl rfl (by kernel_rfl) (by kernel_rfl) (by kernel_rfl) (fun _ _ _ h => h) (Or.inl ⟨by kernel_rfl, ?yx4_19⟩) hHeld ?zx4_19
            case yx4_19 => (intro wS hSw; (try dsimp only at hSw); go_simp; (try with_reducible rfl))
            try simp only [Act.put, List.setIfInBounds_toArray, List.set_cons_zero, List.set_cons_succ]
            refine take_at 18 (some 28) (v := ?vx4_20) rfl rfl (by kernel_rfl) (by kernel_rfl) (by kernel_rfl) (fun _ _ _ h => h) (Or.inl ⟨by kernel_rfl, ?yx4_20⟩) hHeld ?zx4_20
            case yx4_20 => (intro wS hSw; (try dsimp only at hSw); go_simp; (try with_reducible rfl))
            try simp only [Act.put, List.setIfInBounds_toArray, List.set_cons_zero, List.set_cons_succ]
            refine take_at 19 (some 29) (v := ?vx4_21) rfl rfl (by kernel_rfl) (by kernel_rfl) (by kernel_rfl) (fun _ _ _ h => h) (Or.inl ⟨by kernel_rfl, ?yx4_21⟩) hHeld ?zx4_21
            case yx4_21 => (intro wS hSw; (try dsimp only at hSw); go_simp; (try with_reducible rfl))
            try simp only [Act.put, List.setIfInBounds_toArray, List.set_cons_zero, List.set_cons_succ]
            refine take_at 20 (some 30) (v := ?vx4_22) rfl rfl (by kernel_rfl) (by kernel_rfl) (by kernel_rfl) (fun _ _ _ h => h) (Or.inl ⟨by kernel_rfl, ?yx4_22⟩) hHeld ?zx4_22
            case yx4_22 => (intro wS hSw; (try dsimp only at hSw); go_simp; (try with_reducible rfl))
            try simp only [Act.put, List.setIfInBounds_toArray, List.set_cons_zero, List.set_cons_succ]
            refine take_at 21 (some 31) (v := ?vx4_23) rfl rfl (by kernel_rfl) (by kernel_rfl) (by kernel_rfl) (fun _ _ _ h => h) (Or.inl ⟨by kernel_rfl, ?yx4_23⟩) hHeld ?zx4_23
            case yx4_23 => (intro wS hSw; (try dsimp only at hSw); go_simp; (try with_reducible rfl))
            try simp only [Act.put, List.setIfInBounds_toArray, List.set_cons_zero, List.set_cons_succ]
            refine take_at 22 (some 32) (v := ?vx4_24) rfl rfl (by kernel_rfl) (by kernel_rfl) (by kernel_rfl) (fun _ _ _ h => h) (Or.inl ⟨by kernel_rfl, ?yx4_24⟩) hHeld ?zx4_24
            case yx4_24 => (intro wS hSw; (try dsimp only at hSw); go_simp; (try with_reducible rfl))
            try simp only [Act.put, List.setIfInBounds_toArray, List.set_cons_zero, List.set_cons_succ]
            refine take_at 23 (some 33) (v := ?vx4_25) rfl rfl (by kernel_rfl) (by kernel_rfl) (by kernel_rfl) (fun _ _ _ h => h) (Or.inl ⟨by kernel_rfl, ?yx4_25⟩) hHeld ?zx4_25
            case yx4_25 => (intro wS hSw; (try dsimp only at hSw); go_simp; (try with_reducible rfl))
            try simp only [Act.put, List.setIfInBounds_toArray, List.set_cons_zero, List.set_cons_succ]
            refine wpAnyH_done (by kernel_rfl) ?_ _
            clear w1
            go_wp2
            go_roundw
            case rel =>
              refine ⟨k + 1, by omega, by go_num, hHeld.1, Lib.hid ⟨fun j h hj => ?_, fun j h hj => ?_⟩⟩
              · by_cases he : j = k
                · subst he; exact HG.out
                · exact HF.out.1 j h (by omega)
              · by_cases he : j + 1 = k
                · obtain rfl : j = m := by have := HM.out; omega
                  simp only [← HM.out]; omega
                · exact HF.out.2 j h (by omega)
            case measure => simp [intOf]; omega
    · by_cases h30 : xs.length ≤ 30
      · have hv : tsB xs = true := tsB_true.2 ⟨h30, fun j h => HF.out.1 j h (by omega), fun j h => HF.out.2 j h (by omega)⟩
        have HV := Lib.hid hv; clear hv
        go_wp2
        go_ret
        exact ⟨ret_bool (by rw [HV.out]; simp; omega), hb⟩
      · have hv : tsB xs = false := tsB_false.2 fun h => h30 h.1
        have HV := Lib.hid hv; clear hv
        go_wp2
        go_ret
        exact ⟨ret_bool (by rw [HV.out]; simp; omega), hb⟩
end Go.Proofs.Ytohbkohidpgjpaa
