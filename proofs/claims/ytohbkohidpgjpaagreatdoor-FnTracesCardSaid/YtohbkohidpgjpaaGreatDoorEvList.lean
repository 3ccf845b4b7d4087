/- Contracts on lists of events: the program's IsTrace, the reference's l17Good, for all lists of at most 2^30 events. -/
import Derived.Test.YtohbkohidpgjpaaGreatDoorEv1
namespace Go.Proofs.YtohbkohidpgjpaaGreatDoor
open Go.RowKit

/-- at most 30 valid events, in ascending order of their ticks -/
def TsP (xs : List Ev) : Prop := xs.length ≤ 30 ∧ (∀ k (h : k < xs.length), evB xs[k] = true) ∧ ∀ k (h : k + 1 < xs.length), xs[k].t ≤ xs[k + 1].t
open Classical in
noncomputable def tsB (xs : List Ev) : Bool := decide (TsP xs)
theorem tsB_true {xs : List Ev} : tsB xs = true ↔ TsP xs := by simp [tsB]
theorem tsB_false {xs : List Ev} : tsB xs = false ↔ ¬ TsP xs := by simp [tsB]

/-- what a comparison of two numbers answers -/
def cmpE (x y : Int) : Int := if x < y then -1 else if y < x then 1 else 0
theorem cmpE_neg (x y : Int) : x < y ↔ cmpE x y < 0 := by
  unfold cmpE; split
  · simp [*]
  · split <;> simp [*]
theorem cmpE_lt {x y : Int} (h : x < y) : cmpE x y = -1 := if_pos h
theorem cmpE_gt {x y : Int} (h1 : ¬ x < y) (h2 : y < x) : cmpE x y = 1 := by unfold cmpE; rw [if_neg h1, if_pos h2]
theorem cmpE_eq {x y : Int} (h1 : ¬ x < y) (h2 : ¬ y < x) : cmpE x y = 0 := by unfold cmpE; rw [if_neg h1, if_neg h2]
theorem isNaN_any (x : Int) (w : World) : Calls Tryz.prog 67 #[.int .i64 x] w fun e w' => e = .returned (.bool false) ∧ w = w' := by
  go_enter Tryz.func67, Tryz.ntmps67
  go_wp2
  go_ret
  exact ⟨rfl, rfl⟩
theorem compare_any (x y : Int) (w : World) : Calls Tryz.prog 43 #[.int .i64 x, .int .i64 y] w fun e w' => e = .returned (.int .i64 (cmpE x y)) ∧ w = w' := by
  by_cases h1 : x < y
  · go_enter Tryz.func43, Tryz.ntmps43
    go_wp2_with ((go_at_call 67; refine (isNaN_any _ _).mono ?_; rintro e w' ⟨rfl, rfl⟩))
    go_ret
    exact ⟨by rw [cmpE_lt (by omega)]; rfl, rfl⟩
  · by_cases h2 : y < x
    · go_enter Tryz.func43, Tryz.ntmps43
      go_wp2_with ((go_at_call 67; refine (isNaN_any _ _).mono ?_; rintro e w' ⟨rfl, rfl⟩))
      go_ret
      exact ⟨by (first | rw [cmpE_gt (by omega) (by omega)] | rw [cmpE_eq (by omega) (by omega)]); rfl, rfl⟩
    · go_enter Tryz.func43, Tryz.ntmps43
      go_wp2_with ((go_at_call 67; refine (isNaN_any _ _).mono ?_; rintro e w' ⟨rfl, rfl⟩))
      go_ret
      exact ⟨by (first | rw [cmpE_gt (by omega) (by omega)] | rw [cmpE_eq (by omega) (by omega)]); rfl, rfl⟩
theorem bad_any (x : Ev) (w : World) :
    Calls Tryz.prog 45 #[x.v] w fun e w' => e = .returned (.bool (!evB x)) ∧ Below w.heap.size w w' := by
  have H := Lib.hid (isEvent_any x)
  obtain ⟨t, n, k, m⟩ := x
  go_enter Tryz.func45, Tryz.ntmps45
  go_wp2_with fail
  refine (H.out _).mono ?_
  rintro e w1 ⟨rfl, hb⟩
  go_wp2
  go_ret
  exact ⟨rfl, Below.trans (by go_grown) (hb.mono (by simp <;> omega))⟩
theorem cmp_any (x y : Ev) (w : World) :
    Calls Tryz.prog 47 #[x.v, y.v] w fun e w' => e = .returned (.int .i64 (cmpE x.t y.t)) ∧ (w.alloc x.o).alloc y.o = w' := by
  obtain ⟨t, n, k, m⟩ := x
  obtain ⟨t', n', k', m'⟩ := y
  go_enter Tryz.func47, Tryz.ntmps47
  go_wp2_with ((go_at_call 43; refine (compare_any _ _ _).mono ?_; rintro e w' ⟨rfl, rfl⟩))
  go_ret
  exact ⟨rfl, rfl⟩

/-- the first event that is not valid, from k on -/
def badAt (xs : List Ev) : Int := match xs.findIdx? (fun x => !evB x) with | some k => k | none => -1
theorem index_any (v : Value) (xs : List Ev) (w : World) (h : RdEv w v xs) :
    Calls Tryz.prog 68 #[v, .func (.func 45) #[] #[]] w fun e w' => (∃ k : Int, e = .returned (.int .i64 k) ∧ (k = -1 ∧ (∀ j (h : j < xs.length), evB xs[j] = true) ∨ 0 ≤ k ∧ ∃ j, ∃ (h : j < xs.length), evB xs[j] = false)) ∧ Below w.heap.size w w' := by
  have hlen := h.2
  obtain ⟨p, cap, b, off, rfl, hcap, hp, hcell⟩ := h.parts
  have HC := Lib.hid hcell; clear hcell
  have HP := Lib.hid hp; clear hp
  go_enter Tryz.func68, Tryz.ntmps68
  go_wp2
  go_loopw [8] (fun i wr => ∃ (k : Nat), k ≤ xs.length ∧ i = .int .i64 k ∧ Below w.heap.size w wr ∧ Hid (∀ j (h : j < xs.length), j < k → evB xs[j] = true))
    (fun i _ => xs.length - (intOf i).toNat)
  case atStart => exact ⟨0, Nat.zero_le _, rfl, Below.refl _ _, Lib.hid fun j _ h => absurd h (by omega)⟩
  case round =>
    obtain ⟨k, hk, rfl, hb, HF⟩ := hrel
    by_cases hlt : k < xs.length
    · obtain rfl := HP.out (by omega)
      obtain ⟨c1, c2, c3, c4⟩ := HC.out k hlt
      have c1 := (hb.cell (World.block_lt_of_cell? w _ c1)).trans c1
      have c2 := (hb.cell (World.block_lt_of_cell? w _ c2)).trans c2
      have c3 := (hb.cell (World.block_lt_of_cell? w _ c3)).trans c3
      have c4 := (hb.cell (World.block_lt_of_cell? w _ c4)).trans c4
      cases hx : evB xs[k]
      · have HX := Lib.hid hx; clear hx
        go_wp2_with (go_at_call 45; refine (bad_any ⟨xs[k].t, xs[k].n, xs[k].k, xs[k].m⟩ _).mono ?_; rintro e w1 ⟨rfl, hb1⟩; rw [show evB ⟨xs[k].t, xs[k].n, xs[k].k, xs[k].m⟩ = false from HX.out])
        go_ret
        exact ⟨⟨k, rfl, .inr ⟨by omega, k, hlt, HX.out⟩⟩, hb.trans (hb1.mono hb.size)⟩
      · have HX := Lib.hid hx; clear hx
        go_wp2_with (go_at_call 45; refine (bad_any ⟨xs[k].t, xs[k].n, xs[k].k, xs[k].m⟩ _).mono ?_; rintro e w1 ⟨rfl, hb1⟩; rw [show evB ⟨xs[k].t, xs[k].n, xs[k].k, xs[k].m⟩ = true from HX.out])
        go_roundw
        case rel => exact ⟨k + 1, by omega, by go_num, hb.trans (hb1.mono hb.size), Lib.hid fun j h hj => (by
          by_cases he : j = k
          · subst he; exact HX.out
          · exact HF.out j h (by omega))⟩
        case measure => simp [intOf]; omega
    · go_wp2
      go_ret
      exact ⟨⟨-1, rfl, .inl ⟨rfl, fun j h => HF.out j h (by omega)⟩⟩, hb⟩
theorem contains_any (v : Value) (xs : List Ev) (w : World) (h : RdEv w v xs) :
    Calls Tryz.prog 44 #[v, .func (.func 45) #[] #[]] w fun e w' => (∃ r : Bool, e = .returned (.bool r) ∧ (r = false ∧ (∀ j (h : j < xs.length), evB xs[j] = true) ∨ r = true ∧ ∃ j, ∃ (h : j < xs.length), evB xs[j] = false)) ∧ Below w.heap.size w w' := by
  have H := Lib.hid (index_any v xs w h)
  obtain ⟨p, cap, b, off, rfl, _⟩ := h.parts
  clear h
  go_enter Tryz.func44, Tryz.ntmps44
  go_wp2_with fail
  refine H.out.mono ?_
  rintro e w1 ⟨⟨k, rfl, hk⟩, hb⟩
  rcases hk with ⟨rfl, h1⟩ | ⟨h0, h1⟩
  · have H1 := Lib.hid h1; clear h1
    go_wp2
    go_ret
    exact ⟨⟨false, rfl, .inl ⟨rfl, H1.out⟩⟩, hb⟩
  · have H1 := Lib.hid h1; clear h1
    go_wp2
    go_ret
    exact ⟨⟨true, rfl, .inr ⟨rfl, H1.out⟩⟩, hb⟩
theorem sorted_any (v : Value) (xs : List Ev) (w : World) (h : RdEv w v xs) (hg : ∀ j (h : j < xs.length), evB xs[j] = true) :
    Calls Tryz.prog 46 #[v, .func (.func 47) #[] #[]] w fun e w' => (∃ r : Bool, e = .returned (.bool r) ∧ (r = true ↔ ∀ k (h : k + 1 < xs.length), xs[k].t ≤ xs[k + 1].t)) ∧ Below w.heap.size w w' := by
  have hlen := h.2
  obtain ⟨p, cap, b, off, rfl, hcap, hp, hcell⟩ := h.parts
  have HC := Lib.hid hcell; clear hcell
  have HP := Lib.hid hp; clear hp
  have HG := Lib.hid hg; clear hg
  go_enter Tryz.func46, Tryz.ntmps46
  go_wp2
  go_loopw [5] (fun i wr => ∃ (k : Int), -1 ≤ k ∧ k + 1 ≤ xs.length ∧ i = .int .i64 k ∧ Below w.heap.size w wr ∧ Hid (∀ j (h : j + 1 < xs.length), k ≤ j → xs[j].t ≤ xs[j + 1].t))
    (fun i _ => (intOf i + 1).toNat)
  case atStart => exact ⟨xs.length - 1, by omega, by omega, by go_num, Below.refl _ _, Lib.hid fun j h hj => absurd hj (by omega)⟩
  case round =>
    obtain ⟨k, hk0, hk1, rfl, hb, HF⟩ := hrel
    by_cases hlt : 0 < k
    · obtain ⟨m, hm⟩ : ∃ m : Nat, k = m := ⟨k.toNat, by omega⟩
      subst hm
      obtain ⟨n, hn⟩ : ∃ n : Nat, m = n + 1 := ⟨m - 1, by omega⟩
      have hm1 : m < xs.length := by omega
      have hn1 : n < xs.length := by omega
      obtain rfl := HP.out (by omega)
      obtain ⟨c1, c2, c3, c4⟩ := HC.out m hm1
      obtain ⟨d1, d2, d3, d4⟩ := HC.out n hn1
      have c1 := (hb.cell (World.block_lt_of_cell? w _ c1)).trans c1
      have c2 := (hb.cell (World.block_lt_of_cell? w _ c2)).trans c2
      have c3 := (hb.cell (World.block_lt_of_cell? w _ c3)).trans c3
      have c4 := (hb.cell (World.block_lt_of_cell? w _ c4)).trans c4
      have d1 := (hb.cell (World.block_lt_of_cell? w _ d1)).trans d1
      have d2 := (hb.cell (World.block_lt_of_cell? w _ d2)).trans d2
      have d3 := (hb.cell (World.block_lt_of_cell? w _ d3)).trans d3
      have d4 := (hb.cell (World.block_lt_of_cell? w _ d4)).trans d4
      obtain ⟨⟨g1, g2⟩, _⟩ := evB_iff.1 (HG.out n hn1)
      obtain ⟨⟨g3, g4⟩, _⟩ := evB_iff.1 (HG.out m hm1)
      have w1 : IntKind.i64.wrap ((m : Int) - 1) = n := by rw [IntKind.wrap_i64]; omega
      have hS := cmp_any ⟨xs[m].t, xs[m].n, xs[m].k, xs[m].m⟩ ⟨xs[n].t, xs[n].n, xs[n].k, xs[n].m⟩
      have hcI : (xs[m].t < xs[n].t ↔ cmpE xs[m].t xs[n].t < 0) := cmpE_neg _ _
      generalize cmpE (⟨xs[m].t, xs[m].n, xs[m].k, xs[m].m⟩ : Ev).t (⟨xs[n].t, xs[n].n, xs[n].k, xs[n].m⟩ : Ev).t = cI at hS hcI
      have HS := Lib.hid hS; clear hS
      have HI := Lib.hid hcI; clear hcI
      have HN := Lib.hid hn; clear hn
      by_cases hlt2 : cI < 0
      · go_wp2_with fail
        go_region_held3 (fun w' => w'.cell? ⟨b, off + m * 4, none⟩ = some (.int .i64 xs[m].t) ∧ w'.cell? ⟨b, off + m * 4 + 1, none⟩ = some (.int .i64 xs[m].n) ∧ w'.cell? ⟨b, off + m * 4 + 2, none⟩ = some (.int .i64 xs[m].k) ∧ w'.cell? ⟨b, off + m * 4 + 3, none⟩ = some (.int .i64 xs[m].m) ∧ w'.cell? ⟨b, off + n * 4, none⟩ = some (.int .i64 xs[n].t) ∧ w'.cell? ⟨b, off + n * 4 + 1, none⟩ = some (.int .i64 xs[n].n) ∧ w'.cell? ⟨b, off + n * 4 + 2, none⟩ = some (.int .i64 xs[n].k) ∧ w'.cell? ⟨b, off + n * 4 + 3, none⟩ = some (.int .i64 xs[n].m)) (go_keep)
          (first | (go_at_call 47; refine (HS.out _).mono ?_; rintro e w' ⟨rfl, rfl⟩))
        clear w1
        go_wp2
        go_ret
        refine ⟨⟨false, rfl, by simp only [Bool.false_eq_true, false_iff]; intro h; have := h n (by have := HN.out; omega); simp only [← HN.out] at this; have := HI.out.2 hlt2; omega⟩, by have := hb.size; go_grown⟩
      · go_wp2_with fail
        go_region_held3 (fun w' => w'.cell? ⟨b, off + m * 4, none⟩ = some (.int .i64 xs[m].t) ∧ w'.cell? ⟨b, off + m * 4 + 1, none⟩ = some (.int .i64 xs[m].n) ∧ w'.cell? ⟨b, off + m * 4 + 2, none⟩ = some (.int .i64 xs[m].k) ∧ w'.cell? ⟨b, off + m * 4 + 3, none⟩ = some (.int .i64 xs[m].m) ∧ w'.cell? ⟨b, off + n * 4, none⟩ = some (.int .i64 xs[n].t) ∧ w'.cell? ⟨b, off + n * 4 + 1, none⟩ = some (.int .i64 xs[n].n) ∧ w'.cell? ⟨b, off + n * 4 + 2, none⟩ = some (.int .i64 xs[n].k) ∧ w'.cell? ⟨b, off + n * 4 + 3, none⟩ = some (.int .i64 xs[n].m)) (go_keep)
          (first | (go_at_call 47; refine (HS.out _).mono ?_; rintro e w' ⟨rfl, rfl⟩))
        clear w1
        go_wp2
        go_roundw
        case rel =>
          refine ⟨m - 1, by omega, by omega, by go_num, by have := hb.size; go_grown, Lib.hid fun j h hj => ?_⟩
          by_cases he : (m : Int) ≤ j
          · exact HF.out j h he
          · have : j = n := by have := HN.out; omega
            subst this
            simp only [← HN.out]
            have := HI.out.1
            omega
        case measure => (simp [intOf]; try omega)
    · go_wp2
      go_ret
      exact ⟨.inr ⟨rfl, fun j h => HF.out j h (by omega)⟩, hb⟩

theorem isTrace_any (v : Value) (xs : List Ev) (w : World) (h : RdEv w v xs) :
    Calls Tryz.prog 16 #[v] w fun e w' => e = .returned (.bool (tsB xs)) ∧ Below w.heap.size w w' := by
  have hlen := h.2
  have HR := Lib.hid h
  have HX := Lib.hid (contains_any v xs w h)
  obtain ⟨p, cap, b, off, rfl, hcap, _⟩ := h.parts
  clear h
  by_cases h30 : xs.length ≤ 30
  · go_enter Tryz.func16, Tryz.ntmps16
    go_wp2_with fail
    refine HX.out.mono ?_
    rintro e w1 ⟨⟨r, rfl, hr⟩, hb⟩
    rcases hr with ⟨rfl, hr⟩ | ⟨rfl, hr⟩
    · have HY := Lib.hid (sorted_any _ xs w1 (HR.out.below hb) hr)
      have HG := Lib.hid hr; clear hr
      go_wp2_with fail
      refine HY.out.mono ?_
      rintro e w2 ⟨⟨r, rfl, hr⟩, hb2⟩
      have hv : tsB xs = r := by
        cases r
        · exact tsB_false.2 fun ⟨_, _, h3⟩ => absurd (hr.2 h3) (by simp)
        · exact tsB_true.2 ⟨h30, HG.out, hr.1 rfl⟩
      have HV := Lib.hid hv; clear hv hr
      go_wp2
      go_ret
      exact ⟨ret_bool HV.out.symm, hb.trans (hb2.mono hb.size)⟩
    · have hv : tsB xs = false := tsB_false.2 fun ⟨_, h2, _⟩ => by
        obtain ⟨j, hj, he⟩ := hr
        rw [h2 j hj] at he
        cases he
      have HV := Lib.hid hv; clear hv hr
      go_wp2
      go_ret
      exact ⟨ret_bool HV.out.symm, hb⟩
  · have hv : tsB xs = false := tsB_false.2 fun ⟨h1, _, _⟩ => h30 h1
    have HV := Lib.hid hv; clear hv
    go_enter Tryz.func16, Tryz.ntmps16
    go_wp2
    go_ret
    exact ⟨ret_bool HV.out.symm, Below.refl _ _⟩

set_option maxHeartbeats 1000000 in
theorem l17Good_any (v : Value) (xs : List Ev) (w : World) (h : RdEv w v xs) :
    Calls Tryz.prog 39 #[v] w fun e w' => e = .returned (.bool (tsB xs)) ∧ Below w.heap.size w w' := by
  have hlen := h.2
  obtain ⟨p, cap, b, off, rfl, hcap, hp, hcell⟩ := h.parts
  have HC := Lib.hid hcell; clear hcell
  have HP := Lib.hid hp; clear hp
  go_enter Tryz.func39, Tryz.ntmps39
  go_wp2
  go_loopw [3] (fun i wr => ∃ (k : Nat), k ≤ xs.length ∧ i = .int .i64 k ∧ Below w.heap.size w wr ∧ Hid ((∀ j (h : j < xs.length), j < k → evB xs[j] = true) ∧ ∀ j (h : j + 1 < xs.length), j + 1 < k → xs[j].t ≤ xs[j + 1].t))
    (fun i _ => xs.length - (intOf i).toNat)
  case atStart => exact ⟨0, Nat.zero_le _, rfl, Below.refl _ _, Lib.hid ⟨fun j _ h => absurd h (by omega), fun j _ h => absurd h (by omega)⟩⟩
  case round =>
    obtain ⟨k, hk, rfl, hb, HF⟩ := hrel
    by_cases hlt : k < xs.length
    · obtain rfl := HP.out (by omega)
      obtain ⟨c1, c2, c3, c4⟩ := HC.out k hlt
      have c1 := (hb.cell (World.block_lt_of_cell? w _ c1)).trans c1
      have c2 := (hb.cell (World.block_lt_of_cell? w _ c2)).trans c2
      have c3 := (hb.cell (World.block_lt_of_cell? w _ c3)).trans c3
      have c4 := (hb.cell (World.block_lt_of_cell? w _ c4)).trans c4
      have hz := hb.size
      have hL := l17One_any ⟨xs[k].t, xs[k].n, xs[k].k, xs[k].m⟩
      cases hx : evB xs[k]
      · rw [show evB ⟨xs[k].t, xs[k].n, xs[k].k, xs[k].m⟩ = false from hx] at hL
        have HL := Lib.hid hL; clear hL
        have HV : Hid (tsB xs = false) := Lib.hid (tsB_false.2 fun ⟨_, h2, _⟩ => by rw [h2 k hlt] at hx; cases hx)
        clear hx
        go_wp2_with fail
        refine wp_region_held_drew (S := (fun w' => Below w.heap.size w w' ∧ w'.cell? ⟨b, off + k * 4, none⟩ = some (.int .i64 xs[k].t) ∧ w'.cell? ⟨b, off + k * 4 + 1, none⟩ = some (.int .i64 xs[k].n) ∧ w'.cell? ⟨b, off + k * 4 + 2, none⟩ = some (.int .i64 xs[k].k) ∧ w'.cell? ⟨b, off + k * 4 + 3, none⟩ = some (.int .i64 xs[k].m))) (by kernel_rfl) ?rx8s (fun hHeld => ?rx80)
        case rx8s => ((try dsimp only); exact ⟨hb.drew, c1, c2, c3, c4⟩)
        try simp only [Act.put, List.setIfInBounds_toArray, List.set_cons_zero, List.set_cons_succ]
        refine take_at 0 (some 10) (v := ?vx8_1) rfl rfl (by kernel_rfl) (by kernel_rfl) (by kernel_rfl) (fun _ _ _ h => h) (Or.inl ⟨by kernel_rfl, ?yx8_1⟩) hHeld ?zx8_1
        case yx8_1 => (intro wS hSw; (try dsimp only at hSw); go_simp; (try with_reducible rfl))
        try simp only [Act.put, List.setIfInBounds_toArray, List.set_cons_zero, List.set_cons_succ]
        refine take_at 1 (some 11) (v := ?vx8_2) rfl rfl (by kernel_rfl) (by kernel_rfl) (by kernel_rfl) (fun _ _ _ h => h) (Or.inl ⟨by kernel_rfl, ?yx8_2⟩) hHeld ?zx8_2
        case yx8_2 => (intro wS hSw; (try dsimp only at hSw); go_simp; (try with_reducible rfl))
        try simp only [Act.put, List.setIfInBounds_toArray, List.set_cons_zero, List.set_cons_succ]
        refine take_at 2 (some 12) (v := ?vx8_3) rfl rfl (by kernel_rfl) (by kernel_rfl) (by kernel_rfl) (fun _ _ _ h => h) (Or.inl ⟨by kernel_rfl, ?yx8_3⟩) hHeld ?zx8_3
        case yx8_3 => (intro wS hSw; (try dsimp only at hSw); go_simp; (try with_reducible rfl))
        try simp only [Act.put, List.setIfInBounds_toArray, List.set_cons_zero, List.set_cons_succ]
        refine take_at 3 (some 13) (v := ?vx8_4) rfl rfl (by kernel_rfl) (by kernel_rfl) (by kernel_rfl) (fun _ _ _ h => h) (Or.inl ⟨by kernel_rfl, ?yx8_4⟩) hHeld ?zx8_4
        case yx8_4 => (intro wS hSw; (try dsimp only at hSw); go_simp; (try with_reducible rfl))
        try simp only [Act.put, List.setIfInBounds_toArray, List.set_cons_zero, List.set_cons_succ]
        refine wpAnyH_ready (rs := [4]) (by kernel_rfl) (by simp) ?_
        refine cons_at (some 14) rfl rfl (by kernel_rfl) (fun K hK => ?kx8_6) AllReadyH.nil
        go_simp
        (go_at_call 27; refine (HL.out _).mono ?_; rintro e w' ⟨rfl, hbel⟩)
        try go_wp2_with fail
        refine hK.out _ _ ?sx8_6 (fun hHeld => ?_)
        case sx8_6 => ((try dsimp only); exact keepB4 (by assumption) hbel)
        clear hK K
        try simp only [Act.put, List.setIfInBounds_toArray, List.set_cons_zero, List.set_cons_succ]
        refine take_at 5 (some 15) (v := ?vx8_7) rfl rfl (by kernel_rfl) (by kernel_rfl) (by kernel_rfl) (fun _ _ _ h => h) (Or.inl ⟨by kernel_rfl, ?yx8_7⟩) hHeld ?zx8_7
        case yx8_7 => (intro wS hSw; (try dsimp only at hSw); go_simp; (try with_reducible rfl))
        try simp only [Act.put, List.setIfInBounds_toArray, List.set_cons_zero, List.set_cons_succ]
        refine take_at 6 (some 16) (v := ?vx8_8) rfl rfl (by kernel_rfl) (by kernel_rfl) (by kernel_rfl) (fun _ _ _ h => h) (Or.inl ⟨by kernel_rfl, ?yx8_8⟩) hHeld ?zx8_8
        case yx8_8 => (intro wS hSw; (try dsimp only at hSw); go_simp; (try with_reducible rfl))
        try simp only [Act.put, List.setIfInBounds_toArray, List.set_cons_zero, List.set_cons_succ]
        refine take_at 7 (some 17) (v := undef) rfl rfl (by kernel_rfl) (by kernel_rfl) (by kernel_rfl) (fun _ _ _ h => h) (Or.inr ⟨by kernel_rfl, rfl⟩) hHeld ?_
        try simp only [Act.put, List.setIfInBounds_toArray, List.set_cons_zero, List.set_cons_succ]
        refine take_at 8 (some 18) (v := undef) rfl rfl (by kernel_rfl) (by kernel_rfl) (by kernel_rfl) (fun _ _ _ h => h) (Or.inr ⟨by kernel_rfl, rfl⟩) hHeld ?_
        try simp only [Act.put, List.setIfInBounds_toArray, List.set_cons_zero, List.set_cons_succ]
        refine take_at 9 (some 19) (v := undef) rfl rfl (by kernel_rfl) (by kernel_rfl) (by kernel_rfl) (fun _ _ _ h => h) (Or.inr ⟨by kernel_rfl, rfl⟩) hHeld ?_
        try simp only [Act.put, List.setIfInBounds_toArray, List.set_cons_zero, List.set_cons_succ]
        refine take_at 10 (some 20) (v := undef) rfl rfl (by kernel_rfl) (by kernel_rfl) (by kernel_rfl) (fun _ _ _ h => h) (Or.inr ⟨by kernel_rfl, rfl⟩) hHeld ?_
        try simp only [Act.put, List.setIfInBounds_toArray, List.set_cons_zero, List.set_cons_succ]
        refine take_at 11 (some 21) (v := undef) rfl rfl (by kernel_rfl) (by kernel_rfl) (by kernel_rfl) (fun _ _ _ h => h) (Or.inr ⟨by kernel_rfl, rfl⟩) hHeld ?_
        try simp only [Act.put, List.setIfInBounds_toArray, List.set_cons_zero, List.set_cons_succ]
        refine take_at 12 (some 22) (v := undef) rfl rfl (by kernel_rfl) (by kernel_rfl) (by kernel_rfl) (fun _ _ _ h => h) (Or.inr ⟨by kernel_rfl, rfl⟩) hHeld ?_
        try simp only [Act.put, List.setIfInBounds_toArray, List.set_cons_zero, List.set_cons_succ]
        refine take_at 13 (some 23) (v := undef) rfl rfl (by kernel_rfl) (by kernel_rfl) (by kernel_rfl) (fun _ _ _ h => h) (Or.inr ⟨by kernel_rfl, rfl⟩) hHeld ?_
        try simp only [Act.put, List.setIfInBounds_toArray, List.set_cons_zero, List.set_cons_succ]
        refine take_at 14 (some 24) (v := undef) rfl rfl (by kernel_rfl) (by kernel_rfl) (by kernel_rfl) (fun _ _ _ h => h) (Or.inr ⟨by kernel_rfl, rfl⟩) hHeld ?_
        try simp only [Act.put, List.setIfInBounds_toArray, List.set_cons_zero, List.set_cons_succ]
        refine take_at 15 (some 25) (v := undef) rfl rfl (by kernel_rfl) (by kernel_rfl) (by kernel_rfl) (fun _ _ _ h => h) (Or.inr ⟨by kernel_rfl, rfl⟩) hHeld ?_
        try simp only [Act.put, List.setIfInBounds_toArray, List.set_cons_zero, List.set_cons_succ]
        refine take_at 16 (some 26) (v := undef) rfl rfl (by kernel_rfl) (by kernel_rfl) (by kernel_rfl) (fun _ _ _ h => h) (Or.inr ⟨by kernel_rfl, rfl⟩) hHeld ?_
        try simp only [Act.put, List.setIfInBounds_toArray, List.set_cons_zero, List.set_cons_succ]
        refine take_at 17 (some 27) (v := undef) rfl rfl (by kernel_rfl) (by kernel_rfl) (by kernel_rfl) (fun _ _ _ h => h) (Or.inr ⟨by kernel_rfl, rfl⟩) hHeld ?_
        try simp only [Act.put, List.setIfInBounds_toArray, List.set_cons_zero, List.set_cons_succ]
        refine take_at 18 (some 28) (v := undef) rfl rfl (by kernel_rfl) (by kernel_rfl) (by kernel_rfl) (fun _ _ _ h => h) (Or.inr ⟨by kernel_rfl, rfl⟩) hHeld ?_
        try simp only [Act.put, List.setIfInBounds_toArray, List.set_cons_zero, List.set_cons_succ]
        refine take_at 19 (some 29) (v := undef) rfl rfl (by kernel_rfl) (by kernel_rfl) (by kernel_rfl) (fun _ _ _ h => h) (Or.inr ⟨by kernel_rfl, rfl⟩) hHeld ?_
        try simp only [Act.put, List.setIfInBounds_toArray, List.set_cons_zero, List.set_cons_succ]
        refine take_at 20 (some 30) (v := undef) rfl rfl (by kernel_rfl) (by kernel_rfl) (by kernel_rfl) (fun _ _ _ h => h) (Or.inr ⟨by kernel_rfl, rfl⟩) hHeld ?_
        try simp only [Act.put, List.setIfInBounds_toArray, List.set_cons_zero, List.set_cons_succ]
        refine take_at 21 (some 31) (v := undef) rfl rfl (by kernel_rfl) (by kernel_rfl) (by kernel_rfl) (fun _ _ _ h => h) (Or.inr ⟨by kernel_rfl, rfl⟩) hHeld ?_
        try simp only [Act.put, List.setIfInBounds_toArray, List.set_cons_zero, List.set_cons_succ]
        refine take_at 22 (some 32) (v := undef) rfl rfl (by kernel_rfl) (by kernel_rfl) (by kernel_rfl) (fun _ _ _ h => h) (Or.inr ⟨by kernel_rfl, rfl⟩) hHeld ?_
        try simp only [Act.put, List.setIfInBounds_toArray, List.set_cons_zero, List.set_cons_succ]
        refine take_at 23 (some 33) (v := ?vx8_25) rfl rfl (by kernel_rfl) (by kernel_rfl) (by kernel_rfl) (fun _ _ _ h => h) (Or.inl ⟨by kernel_rfl, ?yx8_25⟩) hHeld ?zx8_25
        case yx8_25 => (intro wS hSw; (try dsimp only at hSw); go_simp; (try with_reducible rfl))
        try simp only [Act.put, List.setIfInBounds_toArray, List.set_cons_zero, List.set_cons_succ]
        refine wpAnyH_done (by kernel_rfl) ?_ _
        go_wp2
        go_ret
        exact ⟨ret_bool HV.out.symm, hHeld.1⟩
      · rw [show evB ⟨xs[k].t, xs[k].n, xs[k].k, xs[k].m⟩ = true from hx] at hL
        have HL := Lib.hid hL; clear hL
        have HG := Lib.hid hx; clear hx
        by_cases hk0 : k = 0
        · subst hk0
          simp only [Nat.zero_mul, Nat.add_zero] at c1 c2 c3 c4
          go_wp2_with fail
          refine wp_region_held_drew (S := (fun w' => Below w.heap.size w w' ∧ w'.cell? ⟨b, off, none⟩ = some (.int .i64 xs[0].t) ∧ w'.cell? ⟨b, off + 1, none⟩ = some (.int .i64 xs[0].n) ∧ w'.cell? ⟨b, off + 2, none⟩ = some (.int .i64 xs[0].k) ∧ w'.cell? ⟨b, off + 3, none⟩ = some (.int .i64 xs[0].m))) (by kernel_rfl) ?rx9s (fun hHeld => ?rx90)
          case rx9s => ((try dsimp only); exact ⟨hb.drew, c1, c2, c3, c4⟩)
          try simp only [Act.put, List.setIfInBounds_toArray, List.set_cons_zero, List.set_cons_succ]
          refine take_at 0 (some 10) (v := ?vx9_1) rfl rfl (by kernel_rfl) (by kernel_rfl) (by kernel_rfl) (fun _ _ _ h => h) (Or.inl ⟨by kernel_rfl, ?yx9_1⟩) hHeld ?zx9_1
          case yx9_1 => (intro wS hSw; (try dsimp only at hSw); go_simp; (try with_reducible rfl))
          try simp only [Act.put, List.setIfInBounds_toArray, List.set_cons_zero, List.set_cons_succ]
          refine take_at 1 (some 11) (v := ?vx9_2) rfl rfl (by kernel_rfl) (by kernel_rfl) (by kernel_rfl) (fun _ _ _ h => h) (Or.inl ⟨by kernel_rfl, ?yx9_2⟩) hHeld ?zx9_2
          case yx9_2 => (intro wS hSw; (try dsimp only at hSw); go_simp; (try with_reducible rfl))
          try simp only [Act.put, List.setIfInBounds_toArray, List.set_cons_zero, List.set_cons_succ]
          refine take_at 2 (some 12) (v := ?vx9_3) rfl rfl (by kernel_rfl) (by kernel_rfl) (by kernel_rfl) (fun _ _ _ h => h) (Or.inl ⟨by kernel_rfl, ?yx9_3⟩) hHeld ?zx9_3
          case yx9_3 => (intro wS hSw; (try dsimp only at hSw); go_simp; (try with_reducible rfl))
          try simp only [Act.put, List.setIfInBounds_toArray, List.set_cons_zero, List.set_cons_succ]
          refine take_at 3 (some 13) (v := ?vx9_4) rfl rfl (by kernel_rfl) (by kernel_rfl) (by kernel_rfl) (fun _ _ _ h => h) (Or.inl ⟨by kernel_rfl, ?yx9_4⟩) hHeld ?zx9_4
          case yx9_4 => (intro wS hSw; (try dsimp only at hSw); go_simp; (try with_reducible rfl))
          try simp only [Act.put, List.setIfInBounds_toArray, List.set_cons_zero, List.set_cons_succ]
          refine wpAnyH_ready (rs := [4]) (by kernel_rfl) (by simp) ?_
          refine cons_at (some 14) rfl rfl (by kernel_rfl) (fun K hK => ?kx9_6) AllReadyH.nil
          go_simp
          (go_at_call 27; refine (HL.out _).mono ?_; rintro e w' ⟨rfl, hbel⟩)
          try go_wp2_with fail
          refine hK.out _ _ ?sx9_6 (fun hHeld => ?_)
          case sx9_6 => ((try dsimp only); exact keepB4 (by assumption) hbel)
          clear hK K
          try simp only [Act.put, List.setIfInBounds_toArray, List.set_cons_zero, List.set_cons_succ]
          refine take_at 5 (some 15) (v := ?vx9_7) rfl rfl (by kernel_rfl) (by kernel_rfl) (by kernel_rfl) (fun _ _ _ h => h) (Or.inl ⟨by kernel_rfl, ?yx9_7⟩) hHeld ?zx9_7
          case yx9_7 => (intro wS hSw; (try dsimp only at hSw); go_simp; (try with_reducible rfl))
          try simp only [Act.put, List.setIfInBounds_toArray, List.set_cons_zero, List.set_cons_succ]
          refine take_at 6 (some 16) (v := ?vx9_8) rfl rfl (by kernel_rfl) (by kernel_rfl) (by kernel_rfl) (fun _ _ _ h => h) (Or.inl ⟨by kernel_rfl, ?yx9_8⟩) hHeld ?zx9_8
          case yx9_8 => (intro wS hSw; (try dsimp only at hSw); go_simp; (try with_reducible rfl))
          try simp only [Act.put, List.setIfInBounds_toArray, List.set_cons_zero, List.set_cons_succ]
          refine take_at 7 (some 17) (v := ?vx9_9) rfl rfl (by kernel_rfl) (by kernel_rfl) (by kernel_rfl) (fun _ _ _ h => h) (Or.inl ⟨by kernel_rfl, ?yx9_9⟩) hHeld ?zx9_9
          case yx9_9 => (intro wS hSw; (try dsimp only at hSw); go_simp; (try with_reducible rfl))
          try simp only [Act.put, List.setIfInBounds_toArray, List.set_cons_zero, List.set_cons_succ]
          refine take_at 8 (some 18) (v := ?vx9_10) rfl rfl (by kernel_rfl) (by kernel_rfl) (by kernel_rfl) (fun _ _ _ h => h) (Or.inl ⟨by kernel_rfl, ?yx9_10⟩) hHeld ?zx9_10
          case yx9_10 => (intro wS hSw; (try dsimp only at hSw); go_simp; (try with_reducible rfl))
          try simp only [Act.put, List.setIfInBounds_toArray, List.set_cons_zero, List.set_cons_succ]
          refine take_at 9 (some 19) (v := ?vx9_11) rfl rfl (by kernel_rfl) (by kernel_rfl) (by kernel_rfl) (fun _ _ _ h => h) (Or.inl ⟨by kernel_rfl, ?yx9_11⟩) hHeld ?zx9_11
          case yx9_11 => (intro wS hSw; (try dsimp only at hSw); go_simp; (try with_reducible rfl))
          try simp only [Act.put, List.setIfInBounds_toArray, List.set_cons_zero, List.set_cons_succ]
          refine take_at 10 (some 20) (v := undef) rfl rfl (by kernel_rfl) (by kernel_rfl) (by kernel_rfl) (fun _ _ _ h => h) (Or.inr ⟨by kernel_rfl, rfl⟩) hHeld ?_
          try simp only [Act.put, List.setIfInBounds_toArray, List.set_cons_zero, List.set_cons_succ]
          refine take_at 11 (some 21) (v := undef) rfl rfl (by kernel_rfl) (by kernel_rfl) (by kernel_rfl) (fun _ _ _ h => h) (Or.inr ⟨by kernel_rfl, rfl⟩) hHeld ?_
          try simp only [Act.put, List.setIfInBounds_toArray, List.set_cons_zero, List.set_cons_succ]
          refine take_at 12 (some 22) (v := undef) rfl rfl (by kernel_rfl) (by kernel_rfl) (by kernel_rfl) (fun _ _ _ h => h) (Or.inr ⟨by kernel_rfl, rfl⟩) hHeld ?_
          try simp only [Act.put, List.setIfInBounds_toArray, List.set_cons_zero, List.set_cons_succ]
          refine take_at 13 (some 23) (v := undef) rfl rfl (by kernel_rfl) (by kernel_rfl) (by kernel_rfl) (fun _ _ _ h => h) (Or.inr ⟨by kernel_rfl, rfl⟩) hHeld ?_
          try simp only [Act.put, List.setIfInBounds_toArray, List.set_cons_zero, List.set_cons_succ]
          refine take_at 14 (some 24) (v := undef) rfl rfl (by kernel_rfl) (by kernel_rfl) (by kernel_rfl) (fun _ _ _ h => h) (Or.inr ⟨by kernel_rfl, rfl⟩) hHeld ?_
          try simp only [Act.put, List.setIfInBounds_toArray, List.set_cons_zero, List.set_cons_succ]
          refine take_at 15 (some 25) (v := undef) rfl rfl (by kernel_rfl) (by kernel_rfl) (by kernel_rfl) (fun _ _ _ h => h) (Or.inr ⟨by kernel_rfl, rfl⟩) hHeld ?_
          try simp only [Act.put, List.setIfInBounds_toArray, List.set_cons_zero, List.set_cons_succ]
          refine take_at 16 (some 26) (v := undef) rfl rfl (by kernel_rfl) (by kernel_rfl) (by kernel_rfl) (fun _ _ _ h => h) (Or.inr ⟨by kernel_rfl, rfl⟩) hHeld ?_
          try simp only [Act.put, List.setIfInBounds_toArray, List.set_cons_zero, List.set_cons_succ]
          refine take_at 17 (some 27) (v := undef) rfl rfl (by kernel_rfl) (by kernel_rfl) (by kernel_rfl) (fun _ _ _ h => h) (Or.inr ⟨by kernel_rfl, rfl⟩) hHeld ?_
          try simp only [Act.put, List.setIfInBounds_toArray, List.set_cons_zero, List.set_cons_succ]
          refine take_at 18 (some 28) (v := undef) rfl rfl (by kernel_rfl) (by kernel_rfl) (by kernel_rfl) (fun _ _ _ h => h) (Or.inr ⟨by kernel_rfl, rfl⟩) hHeld ?_
          try simp only [Act.put, List.setIfInBounds_toArray, List.set_cons_zero, List.set_cons_succ]
          refine take_at 19 (some 29) (v := undef) rfl rfl (by kernel_rfl) (by kernel_rfl) (by kernel_rfl) (fun _ _ _ h => h) (Or.inr ⟨by kernel_rfl, rfl⟩) hHeld ?_
          try simp only [Act.put, List.setIfInBounds_toArray, List.set_cons_zero, List.set_cons_succ]
          refine take_at 20 (some 30) (v := undef) rfl rfl (by kernel_rfl) (by kernel_rfl) (by kernel_rfl) (fun _ _ _ h => h) (Or.inr ⟨by kernel_rfl, rfl⟩) hHeld ?_
          try simp only [Act.put, List.setIfInBounds_toArray, List.set_cons_zero, List.set_cons_succ]
          refine take_at 21 (some 31) (v := undef) rfl rfl (by kernel_rfl) (by kernel_rfl) (by kernel_rfl) (fun _ _ _ h => h) (Or.inr ⟨by kernel_rfl, rfl⟩) hHeld ?_
          try simp only [Act.put, List.setIfInBounds_toArray, List.set_cons_zero, List.set_cons_succ]
          refine take_at 22 (some 32) (v := ?vx9_24) rfl rfl (by kernel_rfl) (by kernel_rfl) (by kernel_rfl) (fun _ _ _ h => h) (Or.inl ⟨by kernel_rfl, ?yx9_24⟩) hHeld ?zx9_24
          case yx9_24 => (intro wS hSw; (try dsimp only at hSw); go_simp; (try with_reducible rfl))
          try simp only [Act.put, List.setIfInBounds_toArray, List.set_cons_zero, List.set_cons_succ]
          refine take_at 23 (some 33) (v := ?vx9_25) rfl rfl (by kernel_rfl) (by kernel_rfl) (by kernel_rfl) (fun _ _ _ h => h) (Or.inl ⟨by kernel_rfl, ?yx9_25⟩) hHeld ?zx9_25
          case yx9_25 => (intro wS hSw; (try dsimp only at hSw); go_simp; (try with_reducible rfl))
          try simp only [Act.put, List.setIfInBounds_toArray, List.set_cons_zero, List.set_cons_succ]
          refine wpAnyH_done (by kernel_rfl) ?_ _
          go_wp2
          go_roundw
          case rel => exact ⟨1, by omega, by go_num, hHeld.1, Lib.hid ⟨fun j h hj => (by have hj0 : j = 0 := (by omega); subst hj0; exact HG.out), fun j h hj => absurd hj (by omega)⟩⟩
          case measure => simp [intOf]; omega
        · obtain ⟨m, hm⟩ : ∃ m : Nat, k = m + 1 := ⟨k - 1, by omega⟩
          have hm1 : m < xs.length := by omega
          have hk1 : 0 < k := by omega
          obtain ⟨d1, d2, d3, d4⟩ := HC.out m hm1
          have d1 := (hb.cell (World.block_lt_of_cell? w _ d1)).trans d1
          clear d2 d3 d4
          have w1 : IntKind.i64.wrap ((k : Int) - 1) = m := by rw [IntKind.wrap_i64]; omega
          have HM := Lib.hid hm; clear hm hk0
          by_cases hgt : xs[k].t < xs[m].t
          · have HV : Hid (tsB xs = false) := Lib.hid (tsB_false.2 fun ⟨_, _, h3⟩ => by
              have := h3 m (by have := HM.out; omega)
              simp only [← HM.out] at this
              omega)
            go_wp2_with fail
            refine wp_region_held_drew (S := (fun w' => Below w.heap.size w w' ∧ w'.cell? ⟨b, off + k * 4, none⟩ = some (.int .i64 xs[k].t) ∧ w'.cell? ⟨b, off + k * 4 + 1, none⟩ = some (.int .i64 xs[k].n) ∧ w'.cell? ⟨b, off + k * 4 + 2, none⟩ = some (.int .i64 xs[k].k) ∧ w'.cell? ⟨b, off + k * 4 + 3, none⟩ = some (.int .i64 xs[k].m) ∧ w'.cell? ⟨b, off + m * 4, none⟩ = some (.int .i64 xs[m].t))) (by kernel_rfl) ?rx10s (fun hHeld => ?rx100)
            case rx10s => ((try dsimp only); exact ⟨hb.drew, c1, c2, c3, c4, d1⟩)
            try simp only [Act.put, List.setIfInBounds_toArray, List.set_cons_zero, List.set_cons_succ]
            refine take_at 0 (some 10) (v := ?vx10_1) rfl rfl (by kernel_rfl) (by kernel_rfl) (by kernel_rfl) (fun _ _ _ h => h) (Or.inl ⟨by kernel_rfl, ?yx10_1⟩) hHeld ?zx10_1
            case yx10_1 => (intro wS hSw; (try dsimp only at hSw); go_simp; (try with_reducible rfl))
            try simp only [Act.put, List.setIfInBounds_toArray, List.set_cons_zero, List.set_cons_succ]
            refine take_at 1 (some 11) (v := ?vx10_2) rfl rfl (by kernel_rfl) (by kernel_rfl) (by kernel_rfl) (fun _ _ _ h => h) (Or.inl ⟨by kernel_rfl, ?yx10_2⟩) hHeld ?zx10_2
            case yx10_2 => (intro wS hSw; (try dsimp only at hSw); go_simp; (try with_reducible rfl))
            try simp only [Act.put, List.setIfInBounds_toArray, List.set_cons_zero, List.set_cons_succ]
            refine take_at 2 (some 12) (v := ?vx10_3) rfl rfl (by kernel_rfl) (by kernel_rfl) (by kernel_rfl) (fun _ _ _ h => h) (Or.inl ⟨by kernel_rfl, ?yx10_3⟩) hHeld ?zx10_3
            case yx10_3 => (intro wS hSw; (try dsimp only at hSw); go_simp; (try with_reducible rfl))
            try simp only [Act.put, List.setIfInBounds_toArray, List.set_cons_zero, List.set_cons_succ]
            refine take_at 3 (some 13) (v := ?vx10_4) rfl rfl (by kernel_rfl) (by kernel_rfl) (by kernel_rfl) (fun _ _ _ h => h) (Or.inl ⟨by kernel_rfl, ?yx10_4⟩) hHeld ?zx10_4
            case yx10_4 => (intro wS hSw; (try dsimp only at hSw); go_simp; (try with_reducible rfl))
            try simp only [Act.put, List.setIfInBounds_toArray, List.set_cons_zero, List.set_cons_succ]
            refine wpAnyH_ready (rs := [4]) (by kernel_rfl) (by simp) ?_
            refine cons_at (some 14) rfl rfl (by kernel_rfl) (fun K hK => ?kx10_6) AllReadyH.nil
            go_simp
            (go_at_call 27; refine (HL.out _).mono ?_; rintro e w' ⟨rfl, hbel⟩)
            try go_wp2_with fail
            refine hK.out _ _ ?sx10_6 (fun hHeld => ?_)
            case sx10_6 => ((try dsimp only); exact keepB5 (by assumption) hbel)
            clear hK K
            try simp only [Act.put, List.setIfInBounds_toArray, List.set_cons_zero, List.set_cons_succ]
            refine take_at 5 (some 15) (v := ?vx10_7) rfl rfl (by kernel_rfl) (by kernel_rfl) (by kernel_rfl) (fun _ _ _ h => h) (Or.inl ⟨by kernel_rfl, ?yx10_7⟩) hHeld ?zx10_7
            case yx10_7 => (intro wS hSw; (try dsimp only at hSw); go_simp; (try with_reducible rfl))
            try simp only [Act.put, List.setIfInBounds_toArray, List.set_cons_zero, List.set_cons_succ]
            refine take_at 6 (some 16) (v := ?vx10_8) rfl rfl (by kernel_rfl) (by kernel_rfl) (by kernel_rfl) (fun _ _ _ h => h) (Or.inl ⟨by kernel_rfl, ?yx10_8⟩) hHeld ?zx10_8
            case yx10_8 => (intro wS hSw; (try dsimp only at hSw); go_simp; (try with_reducible rfl))
            try simp only [Act.put, List.setIfInBounds_toArray, List.set_cons_zero, List.set_cons_succ]
            refine take_at 7 (some 17) (v := ?vx10_9) rfl rfl (by kernel_rfl) (by kernel_rfl) (by kernel_rfl) (fun _ _ _ h => h) (Or.inl ⟨by kernel_rfl, ?yx10_9⟩) hHeld ?zx10_9
            case yx10_9 => (intro wS hSw; (try dsimp only at hSw); go_simp; (try with_reducible rfl))
            try simp only [Act.put, List.setIfInBounds_toArray, List.set_cons_zero, List.set_cons_succ]
            refine take_at 8 (some 18) (v := ?vx10_10) rfl rfl (by kernel_rfl) (by kernel_rfl) (by kernel_rfl) (fun _ _ _ h => h) (Or.inl ⟨by kernel_rfl, ?yx10_10⟩) hHeld ?zx10_10
            case yx10_10 => (intro wS hSw; (try dsimp only at hSw); go_simp; (try with_reducible rfl))
            try simp only [Act.put, List.setIfInBounds_toArray, List.set_cons_zero, List.set_cons_succ]
            refine take_at 9 (some 19) (v := ?vx10_11) rfl rfl (by kernel_rfl) (by kernel_rfl) (by kernel_rfl) (fun _ _ _ h => h) (Or.inl ⟨by kernel_rfl, ?yx10_11⟩) hHeld ?zx10_11
            case yx10_11 => (intro wS hSw; (try dsimp only at hSw); go_simp; (try with_reducible rfl))
            try simp only [Act.put, List.setIfInBounds_toArray, List.set_cons_zero, List.set_cons_succ]
            refine take_at 10 (some 20) (v := ?vx10_12) rfl rfl (by kernel_rfl) (by kernel_rfl) (by kernel_rfl) (fun _ _ _ h => h) (Or.inl ⟨by kernel_rfl, ?yx10_12⟩) hHeld ?zx10_12
            case yx10_12 => (intro wS hSw; (try dsimp only at hSw); go_simp; (try with_reducible rfl))
            try simp only [Act.put, List.setIfInBounds_toArray, List.set_cons_zero, List.set_cons_succ]
            refine take_at 11 (some 21) (v := ?vx10_13) rfl rfl (by kernel_rfl) (by kernel_rfl) (by kernel_rfl) (fun _ _ _ h => h) (Or.inl ⟨by kernel_rfl, ?yx10_13⟩) hHeld ?zx10_13
            case yx10_13 => (intro wS hSw; (try dsimp only at hSw); go_simp; (try with_reducible rfl))
            try simp only [Act.put, List.setIfInBounds_toArray, List.set_cons_zero, List.set_cons_succ]
            refine take_at 12 (some 22) (v := ?vx10_14) rfl rfl (by kernel_rfl) (by kernel_rfl) (by kernel_rfl) (fun _ _ _ h => h) (Or.inl ⟨by kernel_rfl, ?yx10_14⟩) hHeld ?zx10_14
            case yx10_14 => (intro wS hSw; (try dsimp only at hSw); go_simp; (try with_reducible rfl))
            try simp only [Act.put, List.setIfInBounds_toArray, List.set_cons_zero, List.set_cons_succ]
            refine take_at 13 (some 23) (v := ?vx10_15) rfl rfl (by kernel_rfl) (by kernel_rfl) (by kernel_rfl) (fun _ _ _ h => h) (Or.inl ⟨by kernel_rfl, ?yx10_15⟩) hHeld ?zx10_15
            case yx10_15 => (intro wS hSw; (try dsimp only at hSw); go_simp; (try with_reducible rfl))
            try simp only [Act.put, List.setIfInBounds_toArray, List.set_cons_zero, List.set_cons_succ]
            refine take_at 14 (some 24) (v := ?vx10_16) rfl rfl (by kernel_rfl) (by kernel_rfl) (by kernel_rfl) (fun _ _ _ h => h) (Or.inl ⟨by kernel_rfl, ?yx10_16⟩) hHeld ?zx10_16
            case yx10_16 => (intro wS hSw; (try dsimp only at hSw); go_simp; (try with_reducible rfl))
            try simp only [Act.put, List.setIfInBounds_toArray, List.set_cons_zero, List.set_cons_succ]
            refine take_at 15 (some 25) (v := ?vx10_17) rfl rfl (by kernel_rfl) (by kernel_rfl) (by kernel_rfl) (fun _ _ _ h => h) (Or.inl ⟨by kernel_rfl, ?yx10_17⟩) hHeld ?zx10_17
            case yx10_17 => (intro wS hSw; (try dsimp only at hSw); go_simp; (try with_reducible rfl))
            try simp only [Act.put, List.setIfInBounds_toArray, List.set_cons_zero, List.set_cons_succ]
            refine take_at 16 (some 26) (v := ?vx10_18) rfl rfl (by kernel_rfl) (by kernel_rfl) (by kernel_rfl) (fun _ _ _ h => h) (Or.inl ⟨by kernel_rfl, ?yx10_18⟩) hHeld ?zx10_18
            case yx10_18 => (intro wS hSw; (try dsimp only at hSw); go_simp; (try with_reducible rfl))
            try simp only [Act.put, List.setIfInBounds_toArray, List.set_cons_zero, List.set_cons_succ]
            refine take_at 17 (some 27) (v := ?vx10_19) rfl rfl (by kernel_rfl) (by kernel_rfl) (by kernel_rfl) (fun _ _ _ h => h) (Or.inl ⟨by kernel_rfl, ?yx10_19⟩) hHeld ?zx10_19
            case yx10_19 => (intro wS hSw; (try dsimp only at hSw); go_simp; (try with_reducible rfl))
            try simp only [Act.put, List.setIfInBounds_toArray, List.set_cons_zero, List.set_cons_succ]
            refine take_at 18 (some 28) (v := ?vx10_20) rfl rfl (by kernel_rfl) (by kernel_rfl) (by kernel_rfl) (fun _ _ _ h => h) (Or.inl ⟨by kernel_rfl, ?yx10_20⟩) hHeld ?zx10_20
            case yx10_20 => (intro wS hSw; (try dsimp only at hSw); go_simp; (try with_reducible rfl))
            try simp only [Act.put, List.setIfInBounds_toArray, List.set_cons_zero, List.set_cons_succ]
            refine take_at 19 (some 29) (v := ?vx10_21) rfl rfl (by kernel_rfl) (by kernel_rfl) (by kernel_rfl) (fun _ _ _ h => h) (Or.inl ⟨by kernel_rfl, ?yx10_21⟩) hHeld ?zx10_21
            case yx10_21 => (intro wS hSw; (try dsimp only at hSw); go_simp; (try with_reducible rfl))
            try simp only [Act.put, List.setIfInBounds_toArray, List.set_cons_zero, List.set_cons_succ]
            refine take_at 20 (some 30) (v := ?vx10_22) rfl rfl (by kernel_rfl) (by kernel_rfl) (by kernel_rfl) (fun _ _ _ h => h) (Or.inl ⟨by kernel_rfl, ?yx10_22⟩) hHeld ?zx10_22
            case yx10_22 => (intro wS hSw; (try dsimp only at hSw); go_simp; (try with_reducible rfl))
            try simp only [Act.put, List.setIfInBounds_toArray, List.set_cons_zero, List.set_cons_succ]
            refine take_at 21 (some 31) (v := ?vx10_23) rfl rfl (by kernel_rfl) (by kernel_rfl) (by kernel_rfl) (fun _ _ _ h => h) (Or.inl ⟨by kernel_rfl, ?yx10_23⟩) hHeld ?zx10_23
            case yx10_23 => (intro wS hSw; (try dsimp only at hSw); go_simp; (try with_reducible rfl))
            try simp only [Act.put, List.setIfInBounds_toArray, List.set_cons_zero, List.set_cons_succ]
            refine take_at 22 (some 32) (v := ?vx10_24) rfl rfl (by kernel_rfl) (by kernel_rfl) (by kernel_rfl) (fun _ _ _ h => h) (Or.inl ⟨by kernel_rfl, ?yx10_24⟩) hHeld ?zx10_24
            case yx10_24 => (intro wS hSw; (try dsimp only at hSw); go_simp; (try with_reducible rfl))
            try simp only [Act.put, List.setIfInBounds_toArray, List.set_cons_zero, List.set_cons_succ]
            refine take_at 23 (some 33) (v := ?vx10_25) rfl rfl (by kernel_rfl) (by kernel_rfl) (by kernel_rfl) (fun _ _ _ h => h) (Or.inl ⟨by kernel_rfl, ?yx10_25⟩) hHeld ?zx10_25
            case yx10_25 => (intro wS hSw; (try dsimp only at hSw); go_simp; (try with_reducible rfl))
            try simp only [Act.put, List.setIfInBounds_toArray, List.set_cons_zero, List.set_cons_succ]
            refine wpAnyH_done (by kernel_rfl) ?_ _
            clear w1
            go_wp2
            go_ret
            exact ⟨ret_bool HV.out.symm, hHeld.1⟩
          · go_wp2_with fail
            refine wp_region_held_drew (S := (fun w' => Below w.heap.size w w' ∧ w'.cell? ⟨b, off + k * 4, none⟩ = some (.int .i64 xs[k].t) ∧ w'.cell? ⟨b, off + k * 4 + 1, none⟩ = some (.int .i64 xs[k].n) ∧ w'.cell? ⟨b, off + k * 4 + 2, none⟩ = some (.int .i64 xs[k].k) ∧ w'.cell? ⟨b, off + k * 4 + 3, none⟩ = some (.int .i64 xs[k].m) ∧ w'.cell? ⟨b, off + m * 4, none⟩ = some (.int .i64 xs[m].t))) (by kernel_rfl) ?rx11s (fun hHeld => ?rx110)
            case rx11s => ((try dsimp only); exact ⟨hb.drew, c1, c2, c3, c4, d1⟩)
            try simp only [Act.put, List.setIfInBounds_toArray, List.set_cons_zero, List.set_cons_succ]
            refine take_at 0 (some 10) (v := ?vx11_1) rfl rfl (by kernel_rfl) (by kernel_rfl) (by kernel_rfl) (fun _ _ _ h => h) (Or.inl ⟨by kernel_rfl, ?yx11_1⟩) hHeld ?zx11_1
            case yx11_1 => (intro wS hSw; (try dsimp only at hSw); go_simp; (try with_reducible rfl))
            try simp only [Act.put, List.setIfInBounds_toArray, List.set_cons_zero, List.set_cons_succ]
            refine take_at 1 (some 11) (v := ?vx11_2) rfl rfl (by kernel_rfl) (by kernel_rfl) (by kernel_rfl) (fun _ _ _ h => h) (Or.inl ⟨by kernel_rfl, ?yx11_2⟩) hHeld ?zx11_2
            case yx11_2 => (intro wS hSw; (try dsimp only at hSw); go_simp; (try with_reducible rfl))
            try simp only [Act.put, List.setIfInBounds_toArray, List.set_cons_zero, List.set_cons_succ]
            refine take_at 2 (some 12) (v := ?vx11_3) rfl rfl (by kernel_rfl) (by kernel_rfl) (by kernel_rfl) (fun _ _ _ h => h) (Or.inl ⟨by kernel_rfl, ?yx11_3⟩) hHeld ?zx11_3
            case yx11_3 => (intro wS hSw; (try dsimp only at hSw); go_simp; (try with_reducible rfl))
            try simp only [Act.put, List.setIfInBounds_toArray, List.set_cons_zero, List.set_cons_succ]
            refine take_at 3 (some 13) (v := ?vx11_4) rfl rfl (by kernel_rfl) (by kernel_rfl) (by kernel_rfl) (fun _ _ _ h => h) (Or.inl ⟨by kernel_rfl, ?yx11_4⟩) hHeld ?zx11_4
            case yx11_4 => (intro wS hSw; (try dsimp only at hSw); go_simp; (try with_reducible rfl))
            try simp only [Act.put, List.setIfInBounds_toArray, List.set_cons_zero, List.set_cons_succ]
            refine wpAnyH_ready (rs := [4]) (by kernel_rfl) (by simp) ?_
            refine cons_at (some 14) rfl rfl (by kernel_rfl) (fun K hK => ?kx11_6) AllReadyH.nil
            go_simp
            (go_at_call 27; refine (HL.out _).mono ?_; rintro e w' ⟨rfl, hbel⟩)
            try go_wp2_with fail
            refine hK.out _ _ ?sx11_6 (fun hHeld => ?_)
            case sx11_6 => ((try dsimp only); exact keepB5 (by assumption) hbel)
            clear hK K
            try simp only [Act.put, List.setIfInBounds_toArray, List.set_cons_zero, List.set_cons_succ]
            refine take_at 5 (some 15) (v := ?vx11_7) rfl rfl (by kernel_rfl) (by kernel_rfl) (by kernel_rfl) (fun _ _ _ h => h) (Or.inl ⟨by kernel_rfl, ?yx11_7⟩) hHeld ?zx11_7
            case yx11_7 => (intro wS hSw; (try dsimp only at hSw); go_simp; (try with_reducible rfl))
            try simp only [Act.put, List.setIfInBounds_toArray, List.set_cons_zero, List.set_cons_succ]
            refine take_at 6 (some 16) (v := ?vx11_8) rfl rfl (by kernel_rfl) (by kernel_rfl) (by kernel_rfl) (fun _ _ _ h => h) (Or.inl ⟨by kernel_rfl, ?yx11_8⟩) hHeld ?zx11_8
            case yx11_8 => (intro wS hSw; (try dsimp only at hSw); go_simp; (try with_reducible rfl))
            try simp only [Act.put, List.setIfInBounds_toArray, List.set_cons_zero, List.set_cons_succ]
            refine take_at 7 (some 17) (v := ?vx11_9) rfl rfl (by kernel_rfl) (by kernel_rfl) (by kernel_rfl) (fun _ _ _ h => h) (Or.inl ⟨by kernel_rfl, ?yx11_9⟩) hHeld ?zx11_9
            case yx11_9 => (intro wS hSw; (try dsimp only at hSw); go_simp; (try with_reducible rfl))
            try simp only [Act.put, List.setIfInBounds_toArray, List.set_cons_zero, List.set_cons_succ]
            refine take_at 8 (some 18) (v := ?vx11_10) rfl rfl (by kernel_rfl) (by kernel_rfl) (by kernel_rfl) (fun _ _ _ h => h) (Or.inl ⟨by kernel_rfl, ?yx11_10⟩) hHeld ?zx11_10
            case yx11_10 => (intro wS hSw; (try dsimp only at hSw); go_simp; (try with_reducible rfl))
            try simp only [Act.put, List.setIfInBounds_toArray, List.set_cons_zero, List.set_cons_succ]
            refine take_at 9 (some 19) (v := ?vx11_11) rfl rfl (by kernel_rfl) (by kernel_rfl) (by kernel_rfl) (fun _ _ _ h => h) (Or.inl ⟨by kernel_rfl, ?yx11_11⟩) hHeld ?zx11_11
            case yx11_11 => (intro wS hSw; (try dsimp only at hSw); go_simp; (try with_reducible rfl))
            try simp only [Act.put, List.setIfInBounds_toArray, List.set_cons_zero, List.set_cons_succ]
            refine take_at 10 (some 20) (v := ?vx11_12) rfl rfl (by kernel_rfl) (by kernel_rfl) (by kernel_rfl) (fun _ _ _ h => h) (Or.inl ⟨by kernel_rfl, ?yx11_12⟩) hHeld ?zx11_12
            case yx11_12 => (intro wS hSw; (try dsimp only at hSw); go_simp; (try with_reducible rfl))
            try simp only [Act.put, List.setIfInBounds_toArray, List.set_cons_zero, List.set_cons_succ]
            refine take_at 11 (some 21) (v := ?vx11_13) rfl rfl (by kernel_rfl) (by kernel_rfl) (by kernel_rfl) (fun _ _ _ h => h) (Or.inl ⟨by kernel_rfl, ?yx11_13⟩) hHeld ?zx11_13
            case yx11_13 => (intro wS hSw; (try dsimp only at hSw); go_simp; (try with_reducible rfl))
            try simp only [Act.put, List.setIfInBounds_toArray, List.set_cons_zero, List.set_cons_succ]
            refine take_at 12 (some 22) (v := ?vx11_14) rfl rfl (by kernel_rfl) (by kernel_rfl) (by kernel_rfl) (fun _ _ _ h => h) (Or.inl ⟨by kernel_rfl, ?yx11_14⟩) hHeld ?zx11_14
            case yx11_14 => (intro wS hSw; (try dsimp only at hSw); go_simp; (try with_reducible rfl))
            try simp only [Act.put, List.setIfInBounds_toArray, List.set_cons_zero, List.set_cons_succ]
            refine take_at 13 (some 23) (v := ?vx11_15) rfl rfl (by kernel_rfl) (by kernel_rfl) (by kernel_rfl) (fun _ _ _ h => h) (Or.inl ⟨by kernel_rfl, ?yx11_15⟩) hHeld ?zx11_15
            case yx11_15 => (intro wS hSw; (try dsimp only at hSw); go_simp; (try with_reducible rfl))
            try simp only [Act.put, List.setIfInBounds_toArray, List.set_cons_zero, List.set_cons_succ]
            refine take_at 14 (some 24) (v := ?vx11_16) rfl rfl (by kernel_rfl) (by kernel_rfl) (by kernel_rfl) (fun _ _ _ h => h) (Or.inl ⟨by kernel_rfl, ?yx11_16⟩) hHeld ?zx11_16
            case yx11_16 => (intro wS hSw; (try dsimp only at hSw); go_simp; (try with_reducible rfl))
            try simp only [Act.put, List.setIfInBounds_toArray, List.set_cons_zero, List.set_cons_succ]
            refine take_at 15 (some 25) (v := ?vx11_17) rfl rfl (by kernel_rfl) (by kernel_rfl) (by kernel_rfl) (fun _ _ _ h => h) (Or.inl ⟨by kernel_rfl, ?yx11_17⟩) hHeld ?zx11_17
            case yx11_17 => (intro wS hSw; (try dsimp only at hSw); go_simp; (try with_reducible rfl))
            try simp only [Act.put, List.setIfInBounds_toArray, List.set_cons_zero, List.set_cons_succ]
            refine take_at 16 (some 26) (v := ?vx11_18) rfl rfl (by kernel_rfl) (by kernel_rfl) (by kernel_rfl) (fun _ _ _ h => h) (Or.inl ⟨by kernel_rfl, ?yx11_18⟩) hHeld ?zx11_18
            case yx11_18 => (intro wS hSw; (try dsimp only at hSw); go_simp; (try with_reducible rfl))
            try simp only [Act.put, List.setIfInBounds_toArray, List.set_cons_zero, List.set_cons_succ]
            refine take_at 17 (some 27) (v := ?vx11_19) rfl rfl (by kernel_rfl) (by kernel_rfl) (by kernel_rfl) (fun _ _ _ h => h) (Or.inl ⟨by kernel_rfl, ?yx11_19⟩) hHeld ?zx11_19
            case yx11_19 => (intro wS hSw; (try dsimp only at hSw); go_simp; (try with_reducible rfl))
            try simp only [Act.put, List.setIfInBounds_toArray, List.set_cons_zero, List.set_cons_succ]
            refine take_at 18 (some 28) (v := ?vx11_20) rfl rfl (by kernel_rfl) (by kernel_rfl) (by kernel_rfl) (fun _ _ _ h => h) (Or.inl ⟨by kernel_rfl, ?yx11_20⟩) hHeld ?zx11_20
            case yx11_20 => (intro wS hSw; (try dsimp only at hSw); go_simp; (try with_reducible rfl))
            try simp only [Act.put, List.setIfInBounds_toArray, List.set_cons_zero, List.set_cons_succ]
            refine take_at 19 (some 29) (v := ?vx11_21) rfl rfl (by kernel_rfl) (by kernel_rfl) (by kernel_rfl) (fun _ _ _ h => h) (Or.inl ⟨by kernel_rfl, ?yx11_21⟩) hHeld ?zx11_21
            case yx11_21 => (intro wS hSw; (try dsimp only at hSw); go_simp; (try with_reducible rfl))
            try simp only [Act.put, List.setIfInBounds_toArray, List.set_cons_zero, List.set_cons_succ]
            refine take_at 20 (some 30) (v := ?vx11_22) rfl rfl (by kernel_rfl) (by kernel_rfl) (by kernel_rfl) (fun _ _ _ h => h) (Or.inl ⟨by kernel_rfl, ?yx11_22⟩) hHeld ?zx11_22
            case yx11_22 => (intro wS hSw; (try dsimp only at hSw); go_simp; (try with_reducible rfl))
            try simp only [Act.put, List.setIfInBounds_toArray, List.set_cons_zero, List.set_cons_succ]
            refine take_at 21 (some 31) (v := ?vx11_23) rfl rfl (by kernel_rfl) (by kernel_rfl) (by kernel_rfl) (fun _ _ _ h => h) (Or.inl ⟨by kernel_rfl, ?yx11_23⟩) hHeld ?zx11_23
            case yx11_23 => (intro wS hSw; (try dsimp only at hSw); go_simp; (try with_reducible rfl))
            try simp only [Act.put, List.setIfInBounds_toArray, List.set_cons_zero, List.set_cons_succ]
            refine take_at 22 (some 32) (v := ?vx11_24) rfl rfl (by kernel_rfl) (by kernel_rfl) (by kernel_rfl) (fun _ _ _ h => h) (Or.inl ⟨by kernel_rfl, ?yx11_24⟩) hHeld ?zx11_24
            case yx11_24 => (intro wS hSw; (try dsimp only at hSw); go_simp; (try with_reducible rfl))
            try simp only [Act.put, List.setIfInBounds_toArray, List.set_cons_zero, List.set_cons_succ]
            refine take_at 23 (some 33) (v := ?vx11_25) rfl rfl (by kernel_rfl) (by kernel_rfl) (by kernel_rfl) (fun _ _ _ h => h) (Or.inl ⟨by kernel_rfl, ?yx11_25⟩) hHeld ?zx11_25
            case yx11_25 => (intro wS hSw; (try dsimp only at hSw); go_simp; (try with_reducible rfl))
            try simp only [Act.put, List.setIfInBounds_toArray, List.set_cons_zero, List.set_cons_succ]
            refine wpAnyH_done (by kernel_rfl) ?_ _
            clear w1
            go_wp2
            go_roundw
            case rel =>
              refine ⟨k + 1, by omega, by go_num, hHeld.1, Lib.hid ⟨fun j h hj => ?_, fun j h hj => ?_⟩⟩
              · by_cases he : j = k
                · subst he; exact HG.out
                · exact HF.out.1 j h (by omega)
              · by_cases he : j + 1 = k
                · obtain rfl : j = m := by have := HM.out; omega
                  simp only [← HM.out]; omega
                · exact HF.out.2 j h (by omega)
            case measure => simp [intOf]; omega
    · by_cases h30 : xs.length ≤ 30
      · have hv : tsB xs = true := tsB_true.2 ⟨h30, fun j h => HF.out.1 j h (by omega), fun j h => HF.out.2 j h (by omega)⟩
        have HV := Lib.hid hv; clear hv
        go_wp2
        go_ret
        exact ⟨ret_bool (by rw [HV.out]; simp; omega), hb⟩
      · have hv : tsB xs = false := tsB_false.2 fun h => h30 h.1
        have HV := Lib.hid hv; clear hv
        go_wp2
        go_ret
        exact ⟨ret_bool (by rw [HV.out]; simp; omega), hb⟩
end Go.Proofs.YtohbkohidpgjpaaGreatDoor
