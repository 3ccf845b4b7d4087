/- Contracts of the library's IndexFunc and ContainsFunc with the program's tests on elements: whether one of the elements passes. -/
import Derived.Test.YtihpibdodlgpaaaGreatDoorNetD
import Derived.Test.YtihpibdodlgpaaaGreatDoorNum
import Derived.Handy
namespace Go.Proofs.YtihpibdodlgpaaaGreatDoor
open Go.RowKit

set_option maxRecDepth 100000 in
set_option maxHeartbeats 4000000 in
theorem idxA_any (P : NPk → Bool) (v : Value) (xs : List NPk) (w : World) (h : kPk.At 0 w v xs) (hn : xs.length ≤ 1048576)
    (HC : ∀ x : NPk, x ∈ xs → ∀ (W : World), Below w.heap.size w W → Calls Tryz.prog 115 #[.agg #[.int .i64 x.kd, .int .i64 x.nm, .int .i64 x.tr, .int .i64 x.ld, .string x.dt]] W fun e w' => e = .returned (.bool (P x)) ∧ Below W.heap.size W w') :
    Calls Tryz.prog 117 #[v, .func (.func 115) #[] #[]] w fun e w' => (∃ r : Int, e = .returned (.int .i64 r) ∧ (r = -1 ∧ xs.any P = false ∨ 0 ≤ r ∧ xs.any P = true)) ∧ Below w.heap.size w w' := by
  obtain ⟨p, cap, b, off, rfl, hcap, hp, hcell⟩ := h.parts
  have HCe := Lib.hid hcell; clear hcell
  have HPt := Lib.hid hp; clear hp h
  have HCl := Lib.hid HC; clear HC
  go_enter Tryz.func117, Tryz.ntmps117
  go_wp2
  go_loopw [5, 8] (fun _ i wr => ∃ k : Nat, k ≤ xs.length ∧ i = .int .i64 k ∧ Hid (∀ x ∈ xs.take k, P x = false) ∧ Below w.heap.size w wr) (fun _ i _ => xs.length - (intOf i).toNat)
  case atStart => exact ⟨0, Nat.zero_le _, rfl, Lib.hid (by simp), Below.refl _ _⟩
  case round =>
    obtain ⟨k, hk, rfl, HF, hb⟩ := hrel
    by_cases hlt : k < xs.length
    · obtain rfl := HPt.out (by omega)
      obtain ⟨c, hC, hcl⟩ := HCe.out k hlt
      have hmem := List.getElem_mem hlt
      have HTk : Hid (xs.take (k + 1) = xs.take k ++ [xs[k]]) := Lib.hid (List.take_succ_eq_append_getElem hlt)
      have HAny : Hid (P xs[k] = true → xs.any P = true) := Lib.hid (fun h => List.any_eq_true.2 ⟨_, hmem, h⟩)
      generalize xs[k] = x at *
      obtain rfl : c = [.int .i64 x.kd, .int .i64 x.nm, .int .i64 x.tr, .int .i64 x.ld, .string x.dt] := hC
      have d0 : _ = some (Value.int .i64 x.kd) := cell_on hb (hcl 0 _ rfl)
      rw [show off + k * kPk.sz + 0 = off + k * 5 from rfl] at d0
      have d1 : _ = some (Value.int .i64 x.nm) := cell_on hb (hcl 1 _ rfl)
      rw [show off + k * kPk.sz + 1 = off + k * 5 + 1 from rfl] at d1
      have d2 : _ = some (Value.int .i64 x.tr) := cell_on hb (hcl 2 _ rfl)
      rw [show off + k * kPk.sz + 2 = off + k * 5 + 2 from rfl] at d2
      have d3 : _ = some (Value.int .i64 x.ld) := cell_on hb (hcl 3 _ rfl)
      rw [show off + k * kPk.sz + 3 = off + k * 5 + 3 from rfl] at d3
      have d4 : _ = some (Value.string x.dt) := cell_on hb (hcl 4 _ rfl)
      rw [show off + k * kPk.sz + 4 = off + k * 5 + 4 from rfl] at d4
      have HL := Lib.hid (HCl.out x hmem  wr hb )
      have HX := Lib.hid hb; clear hb hcl hmem
      cases hx : P x
      · rw [hx] at HL
        have HX0 := Lib.hid hx; clear hx
        go_wp2_with (go_at_call 115; refine HL.out.mono ?_; rintro e w1 ⟨rfl, hb1⟩)
        go_roundw
        case rel => exact ⟨k + 1, by omega, by go_num, Lib.hid (by rw [HTk.out]; intro y hy; rcases List.mem_append.1 hy with hy | hy; exact HF.out y hy; rw [List.mem_singleton.1 hy]; exact HX0.out), HX.out.trans (hb1.mono HX.out.size)⟩
        case measure => simp [intOf]; omega
      · rw [hx] at HL
        have HA2 := Lib.hid (HAny.out hx); clear hx
        go_wp2_with (go_at_call 115; refine HL.out.mono ?_; rintro e w1 ⟨rfl, hb1⟩)
        go_ret
        exact ⟨⟨k, rfl, .inr ⟨by omega, HA2.out⟩⟩, HX.out.trans (hb1.mono HX.out.size)⟩
    · obtain rfl : k = xs.length := by omega
      have HN : Hid (xs.any P = false) := Lib.hid (List.any_eq_false.2 (fun y hy => by have h := HF.out y (by rw [List.take_length]; exact hy); simp [h]))
      go_wp2
      go_ret
      exact ⟨⟨-1, rfl, .inl ⟨rfl, HN.out⟩⟩, hb⟩
set_option maxRecDepth 100000 in
set_option maxHeartbeats 4000000 in
theorem conA_any (P : NPk → Bool) (v : Value) (xs : List NPk) (w : World) (h : kPk.At 0 w v xs) (hn : xs.length ≤ 1048576)
    (HC : ∀ x : NPk, x ∈ xs → ∀ (W : World), Below w.heap.size w W → Calls Tryz.prog 115 #[.agg #[.int .i64 x.kd, .int .i64 x.nm, .int .i64 x.tr, .int .i64 x.ld, .string x.dt]] W fun e w' => e = .returned (.bool (P x)) ∧ Below W.heap.size W w') :
    Calls Tryz.prog 90 #[v, .func (.func 115) #[] #[]] w fun e w' => e = .returned (.bool (xs.any P)) ∧ Below w.heap.size w w' := by
  have H := Lib.hid (idxA_any P v xs w h hn HC)
  obtain ⟨p, cap, b, off, rfl, _, _, _⟩ := h.parts
  clear h HC
  go_enter Tryz.func90, Tryz.ntmps90
  go_wp2_with fail
  refine H.out.mono ?_
  rintro e w1 ⟨⟨r, rfl, hr⟩, hb⟩
  rcases hr with ⟨rfl, h1⟩ | ⟨h0, h1⟩
  · have H1 := Lib.hid h1; clear h1
    go_wp2
    go_ret
    exact ⟨ret_bool (by simp [H1.out]), hb⟩
  · have H1 := Lib.hid h1; clear h1
    go_wp2
    go_ret
    exact ⟨ret_bool (by simp [H1.out]), hb⟩
set_option maxRecDepth 100000 in
set_option maxHeartbeats 4000000 in
theorem idxB_any (P : NPk → Bool) (v : Value) (xs : List NPk) (w : World) (h : kPk.At 0 w v xs) (hn : xs.length ≤ 1048576)
    (HC : ∀ x : NPk, x ∈ xs → ∀ (W : World), Below w.heap.size w W → Calls Tryz.prog 91 #[.agg #[.int .i64 x.kd, .int .i64 x.nm, .int .i64 x.tr, .int .i64 x.ld, .string x.dt]] W fun e w' => e = .returned (.bool (P x)) ∧ Below W.heap.size W w') :
    Calls Tryz.prog 117 #[v, .func (.func 91) #[] #[]] w fun e w' => (∃ r : Int, e = .returned (.int .i64 r) ∧ (r = -1 ∧ xs.any P = false ∨ 0 ≤ r ∧ xs.any P = true)) ∧ Below w.heap.size w w' := by
  obtain ⟨p, cap, b, off, rfl, hcap, hp, hcell⟩ := h.parts
  have HCe := Lib.hid hcell; clear hcell
  have HPt := Lib.hid hp; clear hp h
  have HCl := Lib.hid HC; clear HC
  go_enter Tryz.func117, Tryz.ntmps117
  go_wp2
  go_loopw [5, 8] (fun _ i wr => ∃ k : Nat, k ≤ xs.length ∧ i = .int .i64 k ∧ Hid (∀ x ∈ xs.take k, P x = false) ∧ Below w.heap.size w wr) (fun _ i _ => xs.length - (intOf i).toNat)
  case atStart => exact ⟨0, Nat.zero_le _, rfl, Lib.hid (by simp), Below.refl _ _⟩
  case round =>
    obtain ⟨k, hk, rfl, HF, hb⟩ := hrel
    by_cases hlt : k < xs.length
    · obtain rfl := HPt.out (by omega)
      obtain ⟨c, hC, hcl⟩ := HCe.out k hlt
      have hmem := List.getElem_mem hlt
      have HTk : Hid (xs.take (k + 1) = xs.take k ++ [xs[k]]) := Lib.hid (List.take_succ_eq_append_getElem hlt)
      have HAny : Hid (P xs[k] = true → xs.any P = true) := Lib.hid (fun h => List.any_eq_true.2 ⟨_, hmem, h⟩)
      generalize xs[k] = x at *
      obtain rfl : c = [.int .i64 x.kd, .int .i64 x.nm, .int .i64 x.tr, .int .i64 x.ld, .string x.dt] := hC
      have d0 : _ = some (Value.int .i64 x.kd) := cell_on hb (hcl 0 _ rfl)
      rw [show off + k * kPk.sz + 0 = off + k * 5 from rfl] at d0
      have d1 : _ = some (Value.int .i64 x.nm) := cell_on hb (hcl 1 _ rfl)
      rw [show off + k * kPk.sz + 1 = off + k * 5 + 1 from rfl] at d1
      have d2 : _ = some (Value.int .i64 x.tr) := cell_on hb (hcl 2 _ rfl)
      rw [show off + k * kPk.sz + 2 = off + k * 5 + 2 from rfl] at d2
      have d3 : _ = some (Value.int .i64 x.ld) := cell_on hb (hcl 3 _ rfl)
      rw [show off + k * kPk.sz + 3 = off + k * 5 + 3 from rfl] at d3
      have d4 : _ = some (Value.string x.dt) := cell_on hb (hcl 4 _ rfl)
      rw [show off + k * kPk.sz + 4 = off + k * 5 + 4 from rfl] at d4
      have HL := Lib.hid (HCl.out x hmem  wr hb )
      have HX := Lib.hid hb; clear hb hcl hmem
      cases hx : P x
      · rw [hx] at HL
        have HX0 := Lib.hid hx; clear hx
        go_wp2_with (go_at_call 91; refine HL.out.mono ?_; rintro e w1 ⟨rfl, hb1⟩)
        go_roundw
        case rel => exact ⟨k + 1, by omega, by go_num, Lib.hid (by rw [HTk.out]; intro y hy; rcases List.mem_append.1 hy with hy | hy; exact HF.out y hy; rw [List.mem_singleton.1 hy]; exact HX0.out), HX.out.trans (hb1.mono HX.out.size)⟩
        case measure => simp [intOf]; omega
      · rw [hx] at HL
        have HA2 := Lib.hid (HAny.out hx); clear hx
        go_wp2_with (go_at_call 91; refine HL.out.mono ?_; rintro e w1 ⟨rfl, hb1⟩)
        go_ret
        exact ⟨⟨k, rfl, .inr ⟨by omega, HA2.out⟩⟩, HX.out.trans (hb1.mono HX.out.size)⟩
    · obtain rfl : k = xs.length := by omega
      have HN : Hid (xs.any P = false) := Lib.hid (List.any_eq_false.2 (fun y hy => by have h := HF.out y (by rw [List.take_length]; exact hy); simp [h]))
      go_wp2
      go_ret
      exact ⟨⟨-1, rfl, .inl ⟨rfl, HN.out⟩⟩, hb⟩
set_option maxRecDepth 100000 in
set_option maxHeartbeats 4000000 in
theorem conB_any (P : NPk → Bool) (v : Value) (xs : List NPk) (w : World) (h : kPk.At 0 w v xs) (hn : xs.length ≤ 1048576)
    (HC : ∀ x : NPk, x ∈ xs → ∀ (W : World), Below w.heap.size w W → Calls Tryz.prog 91 #[.agg #[.int .i64 x.kd, .int .i64 x.nm, .int .i64 x.tr, .int .i64 x.ld, .string x.dt]] W fun e w' => e = .returned (.bool (P x)) ∧ Below W.heap.size W w') :
    Calls Tryz.prog 90 #[v, .func (.func 91) #[] #[]] w fun e w' => e = .returned (.bool (xs.any P)) ∧ Below w.heap.size w w' := by
  have H := Lib.hid (idxB_any P v xs w h hn HC)
  obtain ⟨p, cap, b, off, rfl, _, _, _⟩ := h.parts
  clear h HC
  go_enter Tryz.func90, Tryz.ntmps90
  go_wp2_with fail
  refine H.out.mono ?_
  rintro e w1 ⟨⟨r, rfl, hr⟩, hb⟩
  rcases hr with ⟨rfl, h1⟩ | ⟨h0, h1⟩
  · have H1 := Lib.hid h1; clear h1
    go_wp2
    go_ret
    exact ⟨ret_bool (by simp [H1.out]), hb⟩
  · have H1 := Lib.hid h1; clear h1
    go_wp2
    go_ret
    exact ⟨ret_bool (by simp [H1.out]), hb⟩
set_option maxRecDepth 100000 in
set_option maxHeartbeats 4000000 in
theorem idxC_any (P : NRq → Bool) (A : Nat) (v : Value) (xs : List NRq) (w : World) (h : kRq.At 0 w v xs) (hn : xs.length ≤ 1048576)
    (HC : ∀ x : NRq, x ∈ xs → ∀ (W : World), Below w.heap.size w W → Calls Tryz.prog 121 #[.agg #[.int .i64 x.n, .int .i64 x.s, .int .i64 x.u, .int .i64 x.t], .pointer (some ⟨A, 0, none⟩)] W fun e w' => e = .returned (.bool (P x)) ∧ Below W.heap.size W w') :
    Calls Tryz.prog 140 #[v, .func (.func 121) #[] #[.pointer (some ⟨A, 0, none⟩)]] w fun e w' => (∃ r : Int, e = .returned (.int .i64 r) ∧ (r = -1 ∧ xs.any P = false ∨ 0 ≤ r ∧ xs.any P = true)) ∧ Below w.heap.size w w' := by
  obtain ⟨p, cap, b, off, rfl, hcap, hp, hcell⟩ := h.parts
  have HCe := Lib.hid hcell; clear hcell
  have HPt := Lib.hid hp; clear hp h
  have HCl := Lib.hid HC; clear HC
  go_enter Tryz.func140, Tryz.ntmps140
  go_wp2
  go_loopw [5, 8] (fun _ i wr => ∃ k : Nat, k ≤ xs.length ∧ i = .int .i64 k ∧ Hid (∀ x ∈ xs.take k, P x = false) ∧ Below w.heap.size w wr) (fun _ i _ => xs.length - (intOf i).toNat)
  case atStart => exact ⟨0, Nat.zero_le _, rfl, Lib.hid (by simp), Below.refl _ _⟩
  case round =>
    obtain ⟨k, hk, rfl, HF, hb⟩ := hrel
    by_cases hlt : k < xs.length
    · obtain rfl := HPt.out (by omega)
      obtain ⟨c, hC, hcl⟩ := HCe.out k hlt
      have hmem := List.getElem_mem hlt
      have HTk : Hid (xs.take (k + 1) = xs.take k ++ [xs[k]]) := Lib.hid (List.take_succ_eq_append_getElem hlt)
      have HAny : Hid (P xs[k] = true → xs.any P = true) := Lib.hid (fun h => List.any_eq_true.2 ⟨_, hmem, h⟩)
      generalize xs[k] = x at *
      obtain rfl : c = [.int .i64 x.n, .int .i64 x.s, .int .i64 x.u, .int .i64 x.t] := hC
      have d0 : _ = some (Value.int .i64 x.n) := cell_on hb (hcl 0 _ rfl)
      rw [show off + k * kRq.sz + 0 = off + k * 4 from rfl] at d0
      have d1 : _ = some (Value.int .i64 x.s) := cell_on hb (hcl 1 _ rfl)
      rw [show off + k * kRq.sz + 1 = off + k * 4 + 1 from rfl] at d1
      have d2 : _ = some (Value.int .i64 x.u) := cell_on hb (hcl 2 _ rfl)
      rw [show off + k * kRq.sz + 2 = off + k * 4 + 2 from rfl] at d2
      have d3 : _ = some (Value.int .i64 x.t) := cell_on hb (hcl 3 _ rfl)
      rw [show off + k * kRq.sz + 3 = off + k * 4 + 3 from rfl] at d3
      have HL := Lib.hid (HCl.out x hmem  wr hb )
      have HX := Lib.hid hb; clear hb hcl hmem
      cases hx : P x
      · rw [hx] at HL
        have HX0 := Lib.hid hx; clear hx
        go_wp2_with (go_at_call 121; refine HL.out.mono ?_; rintro e w1 ⟨rfl, hb1⟩)
        go_roundw
        case rel => exact ⟨k + 1, by omega, by go_num, Lib.hid (by rw [HTk.out]; intro y hy; rcases List.mem_append.1 hy with hy | hy; exact HF.out y hy; rw [List.mem_singleton.1 hy]; exact HX0.out), HX.out.trans (hb1.mono HX.out.size)⟩
        case measure => simp [intOf]; omega
      · rw [hx] at HL
        have HA2 := Lib.hid (HAny.out hx); clear hx
        go_wp2_with (go_at_call 121; refine HL.out.mono ?_; rintro e w1 ⟨rfl, hb1⟩)
        go_ret
        exact ⟨⟨k, rfl, .inr ⟨by omega, HA2.out⟩⟩, HX.out.trans (hb1.mono HX.out.size)⟩
    · obtain rfl : k = xs.length := by omega
      have HN : Hid (xs.any P = false) := Lib.hid (List.any_eq_false.2 (fun y hy => by have h := HF.out y (by rw [List.take_length]; exact hy); simp [h]))
      go_wp2
      go_ret
      exact ⟨⟨-1, rfl, .inl ⟨rfl, HN.out⟩⟩, hb⟩
set_option maxRecDepth 100000 in
set_option maxHeartbeats 4000000 in
theorem conC_any (P : NRq → Bool) (A : Nat) (v : Value) (xs : List NRq) (w : World) (h : kRq.At 0 w v xs) (hn : xs.length ≤ 1048576)
    (HC : ∀ x : NRq, x ∈ xs → ∀ (W : World), Below w.heap.size w W → Calls Tryz.prog 121 #[.agg #[.int .i64 x.n, .int .i64 x.s, .int .i64 x.u, .int .i64 x.t], .pointer (some ⟨A, 0, none⟩)] W fun e w' => e = .returned (.bool (P x)) ∧ Below W.heap.size W w') :
    Calls Tryz.prog 120 #[v, .func (.func 121) #[] #[.pointer (some ⟨A, 0, none⟩)]] w fun e w' => e = .returned (.bool (xs.any P)) ∧ Below w.heap.size w w' := by
  have H := Lib.hid (idxC_any P A v xs w h hn HC)
  obtain ⟨p, cap, b, off, rfl, _, _, _⟩ := h.parts
  clear h HC
  go_enter Tryz.func120, Tryz.ntmps120
  go_wp2_with fail
  refine H.out.mono ?_
  rintro e w1 ⟨⟨r, rfl, hr⟩, hb⟩
  rcases hr with ⟨rfl, h1⟩ | ⟨h0, h1⟩
  · have H1 := Lib.hid h1; clear h1
    go_wp2
    go_ret
    exact ⟨ret_bool (by simp [H1.out]), hb⟩
  · have H1 := Lib.hid h1; clear h1
    go_wp2
    go_ret
    exact ⟨ret_bool (by simp [H1.out]), hb⟩
set_option maxRecDepth 100000 in
set_option maxHeartbeats 4000000 in
theorem idxD_any (P : NEn → Bool) (A : Nat) (v : Value) (xs : List NEn) (w : World) (h : kEn.At 0 w v xs) (hn : xs.length ≤ 1048576)
    (HC : ∀ x : NEn, x ∈ xs → ∀ (v0 : Value) (W : World), Below w.heap.size w W → kI.At 0 W v0 x.fs → Calls Tryz.prog 125 #[.agg #[.int .i64 x.n, v0, .int .i64 x.u], .pointer (some ⟨A, 0, none⟩)] W fun e w' => e = .returned (.bool (P x)) ∧ Below W.heap.size W w') :
    Calls Tryz.prog 142 #[v, .func (.func 125) #[] #[.pointer (some ⟨A, 0, none⟩)]] w fun e w' => (∃ r : Int, e = .returned (.int .i64 r) ∧ (r = -1 ∧ xs.any P = false ∨ 0 ≤ r ∧ xs.any P = true)) ∧ Below w.heap.size w w' := by
  obtain ⟨p, cap, b, off, rfl, hcap, hp, hcell⟩ := h.parts
  have HCe := Lib.hid hcell; clear hcell
  have HPt := Lib.hid hp; clear hp h
  have HCl := Lib.hid HC; clear HC
  go_enter Tryz.func142, Tryz.ntmps142
  go_wp2
  go_loopw [5, 8] (fun _ i wr => ∃ k : Nat, k ≤ xs.length ∧ i = .int .i64 k ∧ Hid (∀ x ∈ xs.take k, P x = false) ∧ Below w.heap.size w wr) (fun _ i _ => xs.length - (intOf i).toNat)
  case atStart => exact ⟨0, Nat.zero_le _, rfl, Lib.hid (by simp), Below.refl _ _⟩
  case round =>
    obtain ⟨k, hk, rfl, HF, hb⟩ := hrel
    by_cases hlt : k < xs.length
    · obtain rfl := HPt.out (by omega)
      obtain ⟨c, hC, hcl⟩ := HCe.out k hlt
      have hmem := List.getElem_mem hlt
      have HTk : Hid (xs.take (k + 1) = xs.take k ++ [xs[k]]) := Lib.hid (List.take_succ_eq_append_getElem hlt)
      have HAny : Hid (P xs[k] = true → xs.any P = true) := Lib.hid (fun h => List.any_eq_true.2 ⟨_, hmem, h⟩)
      generalize xs[k] = x at *
      obtain ⟨v0, rfl, a0⟩ := hC
      obtain ⟨pv0, cv0, _, _, rfl, hcv0, _, _⟩ := a0.parts
      have d0 : _ = some (Value.int .i64 x.n) := cell_on hb (hcl 0 _ rfl)
      rw [show off + k * kEn.sz + 0 = off + k * 3 from rfl] at d0
      have d1 : _ = some (Value.slice pv0 x.fs.length cv0) := cell_on hb (hcl 1 _ rfl)
      rw [show off + k * kEn.sz + 1 = off + k * 3 + 1 from rfl] at d1
      have d2 : _ = some (Value.int .i64 x.u) := cell_on hb (hcl 2 _ rfl)
      rw [show off + k * kEn.sz + 2 = off + k * 3 + 2 from rfl] at d2
      have HL := Lib.hid (HCl.out x hmem _ wr hb (a0.below hb))
      have HX := Lib.hid hb; clear hb hcl hmem a0
      cases hx : P x
      · rw [hx] at HL
        have HX0 := Lib.hid hx; clear hx
        go_wp2_with (go_at_call 125; refine HL.out.mono ?_; rintro e w1 ⟨rfl, hb1⟩)
        go_roundw
        case rel => exact ⟨k + 1, by omega, by go_num, Lib.hid (by rw [HTk.out]; intro y hy; rcases List.mem_append.1 hy with hy | hy; exact HF.out y hy; rw [List.mem_singleton.1 hy]; exact HX0.out), HX.out.trans (hb1.mono HX.out.size)⟩
        case measure => simp [intOf]; omega
      · rw [hx] at HL
        have HA2 := Lib.hid (HAny.out hx); clear hx
        go_wp2_with (go_at_call 125; refine HL.out.mono ?_; rintro e w1 ⟨rfl, hb1⟩)
        go_ret
        exact ⟨⟨k, rfl, .inr ⟨by omega, HA2.out⟩⟩, HX.out.trans (hb1.mono HX.out.size)⟩
    · obtain rfl : k = xs.length := by omega
      have HN : Hid (xs.any P = false) := Lib.hid (List.any_eq_false.2 (fun y hy => by have h := HF.out y (by rw [List.take_length]; exact hy); simp [h]))
      go_wp2
      go_ret
      exact ⟨⟨-1, rfl, .inl ⟨rfl, HN.out⟩⟩, hb⟩
set_option maxRecDepth 100000 in
set_option maxHeartbeats 4000000 in
theorem conD_any (P : NEn → Bool) (A : Nat) (v : Value) (xs : List NEn) (w : World) (h : kEn.At 0 w v xs) (hn : xs.length ≤ 1048576)
    (HC : ∀ x : NEn, x ∈ xs → ∀ (v0 : Value) (W : World), Below w.heap.size w W → kI.At 0 W v0 x.fs → Calls Tryz.prog 125 #[.agg #[.int .i64 x.n, v0, .int .i64 x.u], .pointer (some ⟨A, 0, none⟩)] W fun e w' => e = .returned (.bool (P x)) ∧ Below W.heap.size W w') :
    Calls Tryz.prog 124 #[v, .func (.func 125) #[] #[.pointer (some ⟨A, 0, none⟩)]] w fun e w' => e = .returned (.bool (xs.any P)) ∧ Below w.heap.size w w' := by
  have H := Lib.hid (idxD_any P A v xs w h hn HC)
  obtain ⟨p, cap, b, off, rfl, _, _, _⟩ := h.parts
  clear h HC
  go_enter Tryz.func124, Tryz.ntmps124
  go_wp2_with fail
  refine H.out.mono ?_
  rintro e w1 ⟨⟨r, rfl, hr⟩, hb⟩
  rcases hr with ⟨rfl, h1⟩ | ⟨h0, h1⟩
  · have H1 := Lib.hid h1; clear h1
    go_wp2
    go_ret
    exact ⟨ret_bool (by simp [H1.out]), hb⟩
  · have H1 := Lib.hid h1; clear h1
    go_wp2
    go_ret
    exact ⟨ret_bool (by simp [H1.out]), hb⟩
set_option maxRecDepth 100000 in
set_option maxHeartbeats 4000000 in
theorem idxE_any (P : ByteArray → Bool) (v : Value) (xs : List ByteArray) (w : World) (h : kS.At 0 w v xs) (hn : xs.length ≤ 1048576)
    (HC : ∀ x : ByteArray, x ∈ xs → ∀ (W : World), Below w.heap.size w W → Calls Tryz.prog 135 #[.string x] W fun e w' => e = .returned (.bool (P x)) ∧ Below W.heap.size W w') :
    Calls Tryz.prog 144 #[v, .func (.func 135) #[] #[]] w fun e w' => (∃ r : Int, e = .returned (.int .i64 r) ∧ (r = -1 ∧ xs.any P = false ∨ 0 ≤ r ∧ xs.any P = true)) ∧ Below w.heap.size w w' := by
  obtain ⟨p, cap, b, off, rfl, hcap, hp, hcell⟩ := h.parts
  have HCe := Lib.hid hcell; clear hcell
  have HPt := Lib.hid hp; clear hp h
  have HCl := Lib.hid HC; clear HC
  go_enter Tryz.func144, Tryz.ntmps144
  go_wp2
  go_loopw [5, 8] (fun _ i wr => ∃ k : Nat, k ≤ xs.length ∧ i = .int .i64 k ∧ Hid (∀ x ∈ xs.take k, P x = false) ∧ Below w.heap.size w wr) (fun _ i _ => xs.length - (intOf i).toNat)
  case atStart => exact ⟨0, Nat.zero_le _, rfl, Lib.hid (by simp), Below.refl _ _⟩
  case round =>
    obtain ⟨k, hk, rfl, HF, hb⟩ := hrel
    by_cases hlt : k < xs.length
    · obtain rfl := HPt.out (by omega)
      obtain ⟨c, hC, hcl⟩ := HCe.out k hlt
      have hmem := List.getElem_mem hlt
      have HTk : Hid (xs.take (k + 1) = xs.take k ++ [xs[k]]) := Lib.hid (List.take_succ_eq_append_getElem hlt)
      have HAny : Hid (P xs[k] = true → xs.any P = true) := Lib.hid (fun h => List.any_eq_true.2 ⟨_, hmem, h⟩)
      generalize xs[k] = x at *
      obtain rfl : c = [.string x] := hC
      have d0 := cell_on hb (hcl 0 _ rfl)
      rw [show off + k * kS.sz + 0 = off + k from by show off + k * 1 + 0 = off + k; omega] at d0
      have HL := Lib.hid (HCl.out x hmem  wr hb )
      have HX := Lib.hid hb; clear hb hcl hmem
      cases hx : P x
      · rw [hx] at HL
        have HX0 := Lib.hid hx; clear hx
        go_wp2_with (go_at_call 135; refine HL.out.mono ?_; rintro e w1 ⟨rfl, hb1⟩)
        go_roundw
        case rel => exact ⟨k + 1, by omega, by go_num, Lib.hid (by rw [HTk.out]; intro y hy; rcases List.mem_append.1 hy with hy | hy; exact HF.out y hy; rw [List.mem_singleton.1 hy]; exact HX0.out), HX.out.trans (hb1.mono HX.out.size)⟩
        case measure => simp [intOf]; omega
      · rw [hx] at HL
        have HA2 := Lib.hid (HAny.out hx); clear hx
        go_wp2_with (go_at_call 135; refine HL.out.mono ?_; rintro e w1 ⟨rfl, hb1⟩)
        go_ret
        exact ⟨⟨k, rfl, .inr ⟨by omega, HA2.out⟩⟩, HX.out.trans (hb1.mono HX.out.size)⟩
    · obtain rfl : k = xs.length := by omega
      have HN : Hid (xs.any P = false) := Lib.hid (List.any_eq_false.2 (fun y hy => by have h := HF.out y (by rw [List.take_length]; exact hy); simp [h]))
      go_wp2
      go_ret
      exact ⟨⟨-1, rfl, .inl ⟨rfl, HN.out⟩⟩, hb⟩
set_option maxRecDepth 100000 in
set_option maxHeartbeats 4000000 in
theorem conE_any (P : ByteArray → Bool) (v : Value) (xs : List ByteArray) (w : World) (h : kS.At 0 w v xs) (hn : xs.length ≤ 1048576)
    (HC : ∀ x : ByteArray, x ∈ xs → ∀ (W : World), Below w.heap.size w W → Calls Tryz.prog 135 #[.string x] W fun e w' => e = .returned (.bool (P x)) ∧ Below W.heap.size W w') :
    Calls Tryz.prog 134 #[v, .func (.func 135) #[] #[]] w fun e w' => e = .returned (.bool (xs.any P)) ∧ Below w.heap.size w w' := by
  have H := Lib.hid (idxE_any P v xs w h hn HC)
  obtain ⟨p, cap, b, off, rfl, _, _, _⟩ := h.parts
  clear h HC
  go_enter Tryz.func134, Tryz.ntmps134
  go_wp2_with fail
  refine H.out.mono ?_
  rintro e w1 ⟨⟨r, rfl, hr⟩, hb⟩
  rcases hr with ⟨rfl, h1⟩ | ⟨h0, h1⟩
  · have H1 := Lib.hid h1; clear h1
    go_wp2
    go_ret
    exact ⟨ret_bool (by simp [H1.out]), hb⟩
  · have H1 := Lib.hid h1; clear h1
    go_wp2
    go_ret
    exact ⟨ret_bool (by simp [H1.out]), hb⟩
set_option maxRecDepth 100000 in
set_option maxHeartbeats 4000000 in
theorem idxF_any (P : NSl → Bool) (v : Value) (xs : List NSl) (w : World) (h : kSl.At 0 w v xs) (hn : xs.length ≤ 1048576)
    (HC : ∀ x : NSl, x ∈ xs → ∀ (W : World), Below w.heap.size w W → Calls Tryz.prog 138 #[.agg #[.bool x.hv, .string x.it]] W fun e w' => e = .returned (.bool (P x)) ∧ Below W.heap.size W w') :
    Calls Tryz.prog 146 #[v, .func (.func 138) #[] #[]] w fun e w' => (∃ r : Int, e = .returned (.int .i64 r) ∧ (r = -1 ∧ xs.any P = false ∨ 0 ≤ r ∧ xs.any P = true)) ∧ Below w.heap.size w w' := by
  obtain ⟨p, cap, b, off, rfl, hcap, hp, hcell⟩ := h.parts
  have HCe := Lib.hid hcell; clear hcell
  have HPt := Lib.hid hp; clear hp h
  have HCl := Lib.hid HC; clear HC
  go_enter Tryz.func146, Tryz.ntmps146
  go_wp2
  go_loopw [5, 8] (fun _ i wr => ∃ k : Nat, k ≤ xs.length ∧ i = .int .i64 k ∧ Hid (∀ x ∈ xs.take k, P x = false) ∧ Below w.heap.size w wr) (fun _ i _ => xs.length - (intOf i).toNat)
  case atStart => exact ⟨0, Nat.zero_le _, rfl, Lib.hid (by simp), Below.refl _ _⟩
  case round =>
    obtain ⟨k, hk, rfl, HF, hb⟩ := hrel
    by_cases hlt : k < xs.length
    · obtain rfl := HPt.out (by omega)
      obtain ⟨c, hC, hcl⟩ := HCe.out k hlt
      have hmem := List.getElem_mem hlt
      have HTk : Hid (xs.take (k + 1) = xs.take k ++ [xs[k]]) := Lib.hid (List.take_succ_eq_append_getElem hlt)
      have HAny : Hid (P xs[k] = true → xs.any P = true) := Lib.hid (fun h => List.any_eq_true.2 ⟨_, hmem, h⟩)
      generalize xs[k] = x at *
      obtain rfl : c = [.bool x.hv, .string x.it] := hC
      have d0 : _ = some (Value.bool x.hv) := cell_on hb (hcl 0 _ rfl)
      rw [show off + k * kSl.sz + 0 = off + k * 2 from rfl] at d0
      have d1 : _ = some (Value.string x.it) := cell_on hb (hcl 1 _ rfl)
      rw [show off + k * kSl.sz + 1 = off + k * 2 + 1 from rfl] at d1
      have HL := Lib.hid (HCl.out x hmem  wr hb )
      have HX := Lib.hid hb; clear hb hcl hmem
      cases hx : P x
      · rw [hx] at HL
        have HX0 := Lib.hid hx; clear hx
        go_wp2_with (go_at_call 138; refine HL.out.mono ?_; rintro e w1 ⟨rfl, hb1⟩)
        go_roundw
        case rel => exact ⟨k + 1, by omega, by go_num, Lib.hid (by rw [HTk.out]; intro y hy; rcases List.mem_append.1 hy with hy | hy; exact HF.out y hy; rw [List.mem_singleton.1 hy]; exact HX0.out), HX.out.trans (hb1.mono HX.out.size)⟩
        case measure => simp [intOf]; omega
      · rw [hx] at HL
        have HA2 := Lib.hid (HAny.out hx); clear hx
        go_wp2_with (go_at_call 138; refine HL.out.mono ?_; rintro e w1 ⟨rfl, hb1⟩)
        go_ret
        exact ⟨⟨k, rfl, .inr ⟨by omega, HA2.out⟩⟩, HX.out.trans (hb1.mono HX.out.size)⟩
    · obtain rfl : k = xs.length := by omega
      have HN : Hid (xs.any P = false) := Lib.hid (List.any_eq_false.2 (fun y hy => by have h := HF.out y (by rw [List.take_length]; exact hy); simp [h]))
      go_wp2
      go_ret
      exact ⟨⟨-1, rfl, .inl ⟨rfl, HN.out⟩⟩, hb⟩
set_option maxRecDepth 100000 in
set_option maxHeartbeats 4000000 in
theorem conF_any (P : NSl → Bool) (v : Value) (xs : List NSl) (w : World) (h : kSl.At 0 w v xs) (hn : xs.length ≤ 1048576)
    (HC : ∀ x : NSl, x ∈ xs → ∀ (W : World), Below w.heap.size w W → Calls Tryz.prog 138 #[.agg #[.bool x.hv, .string x.it]] W fun e w' => e = .returned (.bool (P x)) ∧ Below W.heap.size W w') :
    Calls Tryz.prog 137 #[v, .func (.func 138) #[] #[]] w fun e w' => e = .returned (.bool (xs.any P)) ∧ Below w.heap.size w w' := by
  have H := Lib.hid (idxF_any P v xs w h hn HC)
  obtain ⟨p, cap, b, off, rfl, _, _, _⟩ := h.parts
  clear h HC
  go_enter Tryz.func137, Tryz.ntmps137
  go_wp2_with fail
  refine H.out.mono ?_
  rintro e w1 ⟨⟨r, rfl, hr⟩, hb⟩
  rcases hr with ⟨rfl, h1⟩ | ⟨h0, h1⟩
  · have H1 := Lib.hid h1; clear h1
    go_wp2
    go_ret
    exact ⟨ret_bool (by simp [H1.out]), hb⟩
  · have H1 := Lib.hid h1; clear h1
    go_wp2
    go_ret
    exact ⟨ret_bool (by simp [H1.out]), hb⟩
end Go.Proofs.YtihpibdodlgpaaaGreatDoor
