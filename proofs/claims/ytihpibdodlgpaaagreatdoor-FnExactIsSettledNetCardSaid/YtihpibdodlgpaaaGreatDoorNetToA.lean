/- Contracts of the harness's functions that copy the data of networks: the copy holds the same, in new memory. -/
import Derived.Test.YtihpibdodlgpaaaGreatDoorNetD
import Derived.Handy
namespace Go.Proofs.YtihpibdodlgpaaaGreatDoor
open Go.RowKit

theorem infoNI : (Tryz.prog.info? 3).map (fun i => (i.zero, i.size, i.bytes)) = some (some (.int .i64 0), 1, 8) := by kernel_rfl
set_option maxRecDepth 100000 in
set_option maxHeartbeats 4000000 in
theorem toLI_any (v : Value) (xs : List Int) (w : World) (h : kI.At 0 w v xs) (hf : xs.length ≤ 1048576) :
    Calls Tryz.prog 44 #[v] w fun e w' => ∃ u, e = .returned u ∧ kI.At w.heap.size w' u xs ∧ Below w.heap.size w w' := by
  obtain ⟨p, cap, b, off, rfl, hcap, hp, hcell⟩ := h.parts
  have HC := Lib.hid hcell; clear hcell
  have HP := Lib.hid hp; clear hp h
  have hlen := hf
  obtain ⟨i0, hi, hz0, hz1, hz2⟩ := info_parts infoNI
  go_enter Tryz.func44, Tryz.ntmps44
  go_wp2_with (at_make; refine wpList_make_full _ rfl _ _ 22 rfl w.heap.size 3 i0 (.int .i64 0) 1 Tryz.underlying22 hi hz0 hz1 _ _ _ _ xs.length rfl rfl rfl rfl ?b2 ?b3 (Nat.le_refl _) ?_)
  case b2 => rw [hz2]; omega
  case b3 => unfold maxLen; omega
  intro w0 hown0 hgrow0
  go_wp2
  go_loopw [4] (fun i wr => ∃ (k : Nat) (L : List Value), k ≤ xs.length ∧ i = .int .i64 k ∧ wr.ownsRow w.heap.size 3 1 (.slice (some ⟨w.heap.size, 0, none⟩) xs.length xs.length) xs.length L ∧ Hid (∃ cs : List (List Value), L.take (k * 1) = cs.flatten ∧ cs.length = k ∧ ∀ (j : Nat) (c : List Value) (x : Int), cs[j]? = some c → xs[j]? = some x → kI.C (w.heap.size + 1) wr c x) ∧ Below w.heap.size w wr ∧ w.heap.size < wr.heap.size) (fun i _ => xs.length - (intOf i).toNat)
  case atStart => exact ⟨0, _, Nat.zero_le _, rfl, hown0, Lib.hid ⟨[], by simp, rfl, fun j c x h => by simp at h⟩, (Below.refl _ _).grown hgrow0 (Nat.le_refl _) (fun k h => by cases h), (hown0.lt w.heap.size rfl).2⟩
  case round =>
    obtain ⟨k, L, hk, rfl, hown, HL, hb, hlt0⟩ := hrel
    by_cases hlt : k < xs.length
    · obtain rfl := HP.out (by omega)
      have HLl := Lib.hid hown.1
      obtain ⟨c, hC, hcl⟩ := HC.out k hlt
      have HX : Hid (xs[k]? = some xs[k]) := Lib.hid (List.getElem?_eq_getElem hlt)
      generalize xs[k] = x at *
      obtain rfl : c = [.int .i64 x] := hC
      have d0 := cell_on hb (hcl 0 _ rfl)
      rw [show off + k * kI.sz + 0 = off + k from by show off + k * 1 + 0 = off + k; omega] at d0
      clear hcl
      have hown1 := hown
      have HB1 := Lib.hid hb
      have e0 : wr.cell? ⟨w.heap.size, k, none⟩ = some (L[k]'(by have := HLl.out; omega)) := by rw [hown1.cellAt (k) (by omega), List.getElem?_eq_getElem (by have := HLl.out; omega)]
      have fz0 := hown1.frozenAt (k)
      have hs0 := hown1.stored (k) (.int .i64 x)
      have HS := Lib.hid hs0.1
      have HG := Lib.hid (hs0.2)
      clear hs0
      have HLN : Hid (∃ cs : List (List Value), (L.set (k) (.int .i64 x)).take ((k + 1) * 1) = cs.flatten ∧ cs.length = k + 1 ∧ ∀ (j : Nat) (c : List Value) (z9 : Int), cs[j]? = some c → xs[j]? = some z9 → kI.C (w.heap.size + 1) (wr.setCell ⟨w.heap.size, k, none⟩ (.int .i64 x)) c z9) := Lib.hid (by
        obtain ⟨cs, h1, h2, h3⟩ := HL.out
        refine ⟨cs ++ [[.int .i64 x]], ?_, by rw [List.length_append, h2]; rfl, fun j c y hc hy => ?_⟩
        · rw [List.flatten_append, ← h1, show (k + 1) * 1 = k + 1 from by omega, show k * 1 = k from by omega, take_set_succ _ (k) _ (by first | (simp only [List.length_set]; have := HLl.out; omega) | (have := HLl.out; omega))]
          simp
        · rcases Nat.lt_trichotomy j k with hj | hj | hj
          · rw [List.getElem?_append_left (by omega)] at hc
            exact kI.grown (h3 j c y hc hy) HG.out (by omega)
          · subst hj
            rw [List.getElem?_append_right (by omega), h2, Nat.sub_self] at hc
            rw [HX.out] at hy
            cases hc; cases hy
            rfl
          · have := (List.getElem?_eq_some_iff.1 hc).1
            rw [List.length_append, h2] at this
            simp at this
            omega)
      go_wp2
      go_roundw
      case rel => exact ⟨k + 1, _, by omega, by go_num, HS.out, HLN, HB1.out.grown HG.out HB1.out.size (fun j hj => by cases hj; exact Nat.le_refl _), by have := HG.out.size; have := hlt0; omega⟩
      case measure => simp [intOf]; omega
    · obtain rfl : k = xs.length := by omega
      have HA : Hid (kI.At w.heap.size wr (.slice (some ⟨w.heap.size, 0, none⟩) xs.length xs.length) xs) := Lib.hid (by
        obtain ⟨cs, h1, h2, h3⟩ := HL.out
        have h4 := hown.1
        rw [List.take_of_length_le (by omega)] at h1
        subst h1
        exact Kd.At.of_own hown rfl (Nat.le_refl _) h2 (fun j c x hc hx => kI.base (h3 j c x hc hx) (by omega)))
      have HB := Lib.hid hb; clear hb hown HL
      go_wp2
      go_ret
      exact ⟨_, rfl, HA.out, HB.out⟩
theorem infoNS : (Tryz.prog.info? 9).map (fun i => (i.zero, i.size, i.bytes)) = some (some (.string ⟨#[]⟩), 1, 16) := by kernel_rfl
set_option maxRecDepth 100000 in
set_option maxHeartbeats 4000000 in
theorem toLS_any (v : Value) (xs : List ByteArray) (w : World) (h : kS.At 0 w v xs) (hf : fitL fitS 1048576 xs) :
    Calls Tryz.prog 77 #[v] w fun e w' => ∃ u, e = .returned u ∧ kS.At w.heap.size w' u xs ∧ Below w.heap.size w w' := by
  obtain ⟨p, cap, b, off, rfl, hcap, hp, hcell⟩ := h.parts
  have HC := Lib.hid hcell; clear hcell
  have HP := Lib.hid hp; clear hp h
  have hlen := hf.1
  have HF := Lib.hid hf.2; clear hf
  obtain ⟨i0, hi, hz0, hz1, hz2⟩ := info_parts infoNS
  go_enter Tryz.func77, Tryz.ntmps77
  go_wp2_with (at_make; refine wpList_make_full _ rfl _ _ 25 rfl w.heap.size 9 i0 (.string ⟨#[]⟩) 1 Tryz.underlying25 hi hz0 hz1 _ _ _ _ xs.length rfl rfl rfl rfl ?b2 ?b3 (Nat.le_refl _) ?_)
  case b2 => rw [hz2]; omega
  case b3 => unfold maxLen; omega
  intro w0 hown0 hgrow0
  go_wp2
  go_loopw [4] (fun i wr => ∃ (k : Nat) (L : List Value), k ≤ xs.length ∧ i = .int .i64 k ∧ wr.ownsRow w.heap.size 9 1 (.slice (some ⟨w.heap.size, 0, none⟩) xs.length xs.length) xs.length L ∧ Hid (∃ cs : List (List Value), L.take (k * 1) = cs.flatten ∧ cs.length = k ∧ ∀ (j : Nat) (c : List Value) (x : ByteArray), cs[j]? = some c → xs[j]? = some x → kS.C (w.heap.size + 1) wr c x) ∧ Below w.heap.size w wr ∧ w.heap.size < wr.heap.size) (fun i _ => xs.length - (intOf i).toNat)
  case atStart => exact ⟨0, _, Nat.zero_le _, rfl, hown0, Lib.hid ⟨[], by simp, rfl, fun j c x h => by simp at h⟩, (Below.refl _ _).grown hgrow0 (Nat.le_refl _) (fun k h => by cases h), (hown0.lt w.heap.size rfl).2⟩
  case round =>
    obtain ⟨k, L, hk, rfl, hown, HL, hb, hlt0⟩ := hrel
    by_cases hlt : k < xs.length
    · obtain rfl := HP.out (by omega)
      have HLl := Lib.hid hown.1
      obtain ⟨c, hC, hcl⟩ := HC.out k hlt
      have hfx := HF.out xs[k] (List.getElem_mem hlt)
      have HX : Hid (xs[k]? = some xs[k]) := Lib.hid (List.getElem?_eq_getElem hlt)
      generalize xs[k] = x at *
      obtain rfl : c = [.string x] := hC
      have d0 := cell_on hb (hcl 0 _ rfl)
      rw [show off + k * kS.sz + 0 = off + k from by show off + k * 1 + 0 = off + k; omega] at d0
      clear hcl
      have hown1 := hown
      have HB1 := Lib.hid hb
      have e0 : wr.cell? ⟨w.heap.size, k, none⟩ = some (L[k]'(by have := HLl.out; omega)) := by rw [hown1.cellAt (k) (by omega), List.getElem?_eq_getElem (by have := HLl.out; omega)]
      have fz0 := hown1.frozenAt (k)
      have hs0 := hown1.stored (k) (.string x)
      have HS := Lib.hid hs0.1
      have HG := Lib.hid (hs0.2)
      clear hs0
      have HLN : Hid (∃ cs : List (List Value), (L.set (k) (.string x)).take ((k + 1) * 1) = cs.flatten ∧ cs.length = k + 1 ∧ ∀ (j : Nat) (c : List Value) (z9 : ByteArray), cs[j]? = some c → xs[j]? = some z9 → kS.C (w.heap.size + 1) (wr.setCell ⟨w.heap.size, k, none⟩ (.string x)) c z9) := Lib.hid (by
        obtain ⟨cs, h1, h2, h3⟩ := HL.out
        refine ⟨cs ++ [[.string x]], ?_, by rw [List.length_append, h2]; rfl, fun j c y hc hy => ?_⟩
        · rw [List.flatten_append, ← h1, show (k + 1) * 1 = k + 1 from by omega, show k * 1 = k from by omega, take_set_succ _ (k) _ (by first | (simp only [List.length_set]; have := HLl.out; omega) | (have := HLl.out; omega))]
          simp
        · rcases Nat.lt_trichotomy j k with hj | hj | hj
          · rw [List.getElem?_append_left (by omega)] at hc
            exact kS.grown (h3 j c y hc hy) HG.out (by omega)
          · subst hj
            rw [List.getElem?_append_right (by omega), h2, Nat.sub_self] at hc
            rw [HX.out] at hy
            cases hc; cases hy
            rfl
          · have := (List.getElem?_eq_some_iff.1 hc).1
            rw [List.length_append, h2] at this
            simp at this
            omega)
      go_wp2
      go_roundw
      case rel => exact ⟨k + 1, _, by omega, by go_num, HS.out, HLN, HB1.out.grown HG.out HB1.out.size (fun j hj => by cases hj; exact Nat.le_refl _), by have := HG.out.size; have := hlt0; omega⟩
      case measure => simp [intOf]; omega
    · obtain rfl : k = xs.length := by omega
      have HA : Hid (kS.At w.heap.size wr (.slice (some ⟨w.heap.size, 0, none⟩) xs.length xs.length) xs) := Lib.hid (by
        obtain ⟨cs, h1, h2, h3⟩ := HL.out
        have h4 := hown.1
        rw [List.take_of_length_le (by omega)] at h1
        subst h1
        exact Kd.At.of_own hown rfl (Nat.le_refl _) h2 (fun j c x hc hx => kS.base (h3 j c x hc hx) (by omega)))
      have HB := Lib.hid hb; clear hb hown HL
      go_wp2
      go_ret
      exact ⟨_, rfl, HA.out, HB.out⟩
set_option maxRecDepth 100000 in
set_option maxHeartbeats 4000000 in
theorem toHd_any (x : NHd) (w : World) :
    Calls Tryz.prog 78 #[.agg #[.int .i64 x.n, .int .i64 x.u]] w fun e w' => e = .returned (.agg #[.int .i64 x.n, .int .i64 x.u]) ∧ Below w.heap.size w w' := by
  go_enter Tryz.func78, Tryz.ntmps78
  go_wp2
  go_returns
  exact ⟨rfl, by go_grown⟩
theorem infoNHd : (Tryz.prog.info? 130).map (fun i => (i.zero, i.size, i.bytes)) = some (some (.agg #[.int .i64 0, .int .i64 0]), 2, 16) := by kernel_rfl
set_option maxRecDepth 100000 in
set_option maxHeartbeats 4000000 in
theorem toLHd_any (v : Value) (xs : List NHd) (w : World) (h : kHd.At 0 w v xs) (hf : xs.length ≤ 1048576) :
    Calls Tryz.prog 46 #[v] w fun e w' => ∃ u, e = .returned u ∧ kHd.At w.heap.size w' u xs ∧ Below w.heap.size w w' := by
  obtain ⟨p, cap, b, off, rfl, hcap, hp, hcell⟩ := h.parts
  have HC := Lib.hid hcell; clear hcell
  have HP := Lib.hid hp; clear hp h
  have hlen := hf
  obtain ⟨i0, hi, hz0, hz1, hz2⟩ := info_parts infoNHd
  go_enter Tryz.func46, Tryz.ntmps46
  go_wp2_with (at_make; refine wpList_make_full _ rfl _ _ 41 rfl w.heap.size 130 i0 (.agg #[.int .i64 0, .int .i64 0]) 2 Tryz.underlying41 hi hz0 hz1 _ _ _ _ xs.length rfl rfl rfl rfl ?b2 ?b3 (Nat.le_refl _) ?_)
  case b2 => rw [hz2]; omega
  case b3 => unfold maxLen; omega
  intro w0 hown0 hgrow0
  go_wp2
  go_loopw [4] (fun i wr => ∃ (k : Nat) (L : List Value), k ≤ xs.length ∧ i = .int .i64 k ∧ wr.ownsRow w.heap.size 130 2 (.slice (some ⟨w.heap.size, 0, none⟩) xs.length xs.length) xs.length L ∧ Hid (∃ cs : List (List Value), L.take (k * 2) = cs.flatten ∧ cs.length = k ∧ ∀ (j : Nat) (c : List Value) (x : NHd), cs[j]? = some c → xs[j]? = some x → kHd.C (w.heap.size + 1) wr c x) ∧ Below w.heap.size w wr ∧ w.heap.size < wr.heap.size) (fun i _ => xs.length - (intOf i).toNat)
  case atStart => exact ⟨0, _, Nat.zero_le _, rfl, hown0, Lib.hid ⟨[], by simp, rfl, fun j c x h => by simp at h⟩, (Below.refl _ _).grown hgrow0 (Nat.le_refl _) (fun k h => by cases h), (hown0.lt w.heap.size rfl).2⟩
  case round =>
    obtain ⟨k, L, hk, rfl, hown, HL, hb, hlt0⟩ := hrel
    by_cases hlt : k < xs.length
    · obtain rfl := HP.out (by omega)
      have HLl := Lib.hid hown.1
      obtain ⟨c, hC, hcl⟩ := HC.out k hlt
      have HX : Hid (xs[k]? = some xs[k]) := Lib.hid (List.getElem?_eq_getElem hlt)
      generalize xs[k] = x at *
      obtain rfl : c = [.int .i64 x.n, .int .i64 x.u] := hC
      have d0 : _ = some (Value.int .i64 x.n) := cell_on hb (hcl 0 _ rfl)
      rw [show off + k * kHd.sz + 0 = off + k * 2 from rfl] at d0
      have d1 : _ = some (Value.int .i64 x.u) := cell_on hb (hcl 1 _ rfl)
      rw [show off + k * kHd.sz + 1 = off + k * 2 + 1 from rfl] at d1
      have H := Lib.hid (toHd_any x wr)
      clear hcl
      go_wp2_with fail
      refine H.out.mono ?_
      rintro e w1 ⟨rfl, b1⟩
      have hown1 := own_below hown b1
      have HB1 := Lib.hid (hb.trans (b1.mono hb.size))
      have HL1 : Hid (∃ cs : List (List Value), L.take (k * 2) = cs.flatten ∧ cs.length = k ∧ ∀ (j : Nat) (c : List Value) (x : NHd), cs[j]? = some c → xs[j]? = some x → kHd.C (w.heap.size + 1) w1 c x) := Lib.hid (by
        obtain ⟨cs, h1, h2, h3⟩ := HL.out
        exact ⟨cs, h1, h2, fun j c x hc hx => kHd.below (h3 j c x hc hx) b1⟩)
      clear d0 d1
      have e0 : w1.cell? ⟨w.heap.size, k * 2, none⟩ = some (L[k * 2]'(by have := HLl.out; omega)) := by rw [hown1.cellAt (k * 2) (by omega), List.getElem?_eq_getElem (by have := HLl.out; omega)]
      have fz0 := hown1.frozenAt (k * 2)
      have e1 : w1.cell? ⟨w.heap.size, k * 2 + 1, none⟩ = some (L[k * 2 + 1]'(by have := HLl.out; omega)) := by rw [hown1.cellAt (k * 2 + 1) (by omega), List.getElem?_eq_getElem (by have := HLl.out; omega)]
      have fz1 := hown1.frozenAt (k * 2 + 1)
      have hs0 := hown1.stored (k * 2) (.int .i64 x.n)
      have hs1 := hs0.1.stored (k * 2 + 1) (.int .i64 x.u)
      have HS := Lib.hid hs1.1
      have HG := Lib.hid (grown_trans (hs0.2) hs1.2)
      clear hs0 hs1
      have HLN : Hid (∃ cs : List (List Value), ((L.set (k * 2) (.int .i64 x.n)).set (k * 2 + 1) (.int .i64 x.u)).take ((k + 1) * 2) = cs.flatten ∧ cs.length = k + 1 ∧ ∀ (j : Nat) (c : List Value) (z9 : NHd), cs[j]? = some c → xs[j]? = some z9 → kHd.C (w.heap.size + 1) ((w1.setCell ⟨w.heap.size, k * 2, none⟩ (.int .i64 x.n)).setCell ⟨w.heap.size, k * 2 + 1, none⟩ (.int .i64 x.u)) c z9) := Lib.hid (by
        obtain ⟨cs, h1, h2, h3⟩ := HL1.out
        refine ⟨cs ++ [[.int .i64 x.n, .int .i64 x.u]], ?_, by rw [List.length_append, h2]; rfl, fun j c y hc hy => ?_⟩
        · rw [List.flatten_append, ← h1, show (k + 1) * 2 = k * 2 + 2 from by omega, take_set_succ _ (k * 2 + 1) _ (by first | (simp only [List.length_set]; have := HLl.out; omega) | (have := HLl.out; omega)), take_set_succ _ (k * 2) _ (by first | (simp only [List.length_set]; have := HLl.out; omega) | (have := HLl.out; omega))]
          simp
        · rcases Nat.lt_trichotomy j k with hj | hj | hj
          · rw [List.getElem?_append_left (by omega)] at hc
            exact kHd.grown (h3 j c y hc hy) HG.out (by omega)
          · subst hj
            rw [List.getElem?_append_right (by omega), h2, Nat.sub_self] at hc
            rw [HX.out] at hy
            cases hc; cases hy
            rfl
          · have := (List.getElem?_eq_some_iff.1 hc).1
            rw [List.length_append, h2] at this
            simp at this
            omega)
      go_wp2
      go_roundw
      case rel => exact ⟨k + 1, _, by omega, by go_num, HS.out, HLN, HB1.out.grown HG.out HB1.out.size (fun j hj => by cases hj; exact Nat.le_refl _), by have := HG.out.size; have := b1.size; omega⟩
      case measure => simp [intOf]; omega
    · obtain rfl : k = xs.length := by omega
      have HA : Hid (kHd.At w.heap.size wr (.slice (some ⟨w.heap.size, 0, none⟩) xs.length xs.length) xs) := Lib.hid (by
        obtain ⟨cs, h1, h2, h3⟩ := HL.out
        have h4 := hown.1
        rw [List.take_of_length_le (by omega)] at h1
        subst h1
        exact Kd.At.of_own hown rfl (Nat.le_refl _) h2 (fun j c x hc hx => kHd.base (h3 j c x hc hx) (by omega)))
      have HB := Lib.hid hb; clear hb hown HL
      go_wp2
      go_ret
      exact ⟨_, rfl, HA.out, HB.out⟩
set_option maxRecDepth 100000 in
set_option maxHeartbeats 4000000 in
theorem toRq_any (x : NRq) (w : World) :
    Calls Tryz.prog 113 #[.agg #[.int .i64 x.n, .int .i64 x.s, .int .i64 x.u, .int .i64 x.t]] w fun e w' => e = .returned (.agg #[.int .i64 x.n, .int .i64 x.s, .int .i64 x.u, .int .i64 x.t]) ∧ Below w.heap.size w w' := by
  go_enter Tryz.func113, Tryz.ntmps113
  go_wp2
  go_returns
  exact ⟨rfl, by go_grown⟩
theorem infoNRq : (Tryz.prog.info? 164).map (fun i => (i.zero, i.size, i.bytes)) = some (some (.agg #[.int .i64 0, .int .i64 0, .int .i64 0, .int .i64 0]), 4, 32) := by kernel_rfl
set_option maxRecDepth 100000 in
set_option maxHeartbeats 4000000 in
theorem toLRq_any (v : Value) (xs : List NRq) (w : World) (h : kRq.At 0 w v xs) (hf : xs.length ≤ 1048576) :
    Calls Tryz.prog 81 #[v] w fun e w' => ∃ u, e = .returned u ∧ kRq.At w.heap.size w' u xs ∧ Below w.heap.size w w' := by
  obtain ⟨p, cap, b, off, rfl, hcap, hp, hcell⟩ := h.parts
  have HC := Lib.hid hcell; clear hcell
  have HP := Lib.hid hp; clear hp h
  have hlen := hf
  obtain ⟨i0, hi, hz0, hz1, hz2⟩ := info_parts infoNRq
  go_enter Tryz.func81, Tryz.ntmps81
  go_wp2_with (at_make; refine wpList_make_full _ rfl _ _ 75 rfl w.heap.size 164 i0 (.agg #[.int .i64 0, .int .i64 0, .int .i64 0, .int .i64 0]) 4 Tryz.underlying75 hi hz0 hz1 _ _ _ _ xs.length rfl rfl rfl rfl ?b2 ?b3 (Nat.le_refl _) ?_)
  case b2 => rw [hz2]; omega
  case b3 => unfold maxLen; omega
  intro w0 hown0 hgrow0
  go_wp2
  go_loopw [4] (fun i wr => ∃ (k : Nat) (L : List Value), k ≤ xs.length ∧ i = .int .i64 k ∧ wr.ownsRow w.heap.size 164 4 (.slice (some ⟨w.heap.size, 0, none⟩) xs.length xs.length) xs.length L ∧ Hid (∃ cs : List (List Value), L.take (k * 4) = cs.flatten ∧ cs.length = k ∧ ∀ (j : Nat) (c : List Value) (x : NRq), cs[j]? = some c → xs[j]? = some x → kRq.C (w.heap.size + 1) wr c x) ∧ Below w.heap.size w wr ∧ w.heap.size < wr.heap.size) (fun i _ => xs.length - (intOf i).toNat)
  case atStart => exact ⟨0, _, Nat.zero_le _, rfl, hown0, Lib.hid ⟨[], by simp, rfl, fun j c x h => by simp at h⟩, (Below.refl _ _).grown hgrow0 (Nat.le_refl _) (fun k h => by cases h), (hown0.lt w.heap.size rfl).2⟩
  case round =>
    obtain ⟨k, L, hk, rfl, hown, HL, hb, hlt0⟩ := hrel
    by_cases hlt : k < xs.length
    · obtain rfl := HP.out (by omega)
      have HLl := Lib.hid hown.1
      obtain ⟨c, hC, hcl⟩ := HC.out k hlt
      have HX : Hid (xs[k]? = some xs[k]) := Lib.hid (List.getElem?_eq_getElem hlt)
      generalize xs[k] = x at *
      obtain rfl : c = [.int .i64 x.n, .int .i64 x.s, .int .i64 x.u, .int .i64 x.t] := hC
      have d0 : _ = some (Value.int .i64 x.n) := cell_on hb (hcl 0 _ rfl)
      rw [show off + k * kRq.sz + 0 = off + k * 4 from rfl] at d0
      have d1 : _ = some (Value.int .i64 x.s) := cell_on hb (hcl 1 _ rfl)
      rw [show off + k * kRq.sz + 1 = off + k * 4 + 1 from rfl] at d1
      have d2 : _ = some (Value.int .i64 x.u) := cell_on hb (hcl 2 _ rfl)
      rw [show off + k * kRq.sz + 2 = off + k * 4 + 2 from rfl] at d2
      have d3 : _ = some (Value.int .i64 x.t) := cell_on hb (hcl 3 _ rfl)
      rw [show off + k * kRq.sz + 3 = off + k * 4 + 3 from rfl] at d3
      have H := Lib.hid (toRq_any x wr)
      clear hcl
      go_wp2_with fail
      refine H.out.mono ?_
      rintro e w1 ⟨rfl, b1⟩
      have hown1 := own_below hown b1
      have HB1 := Lib.hid (hb.trans (b1.mono hb.size))
      have HL1 : Hid (∃ cs : List (List Value), L.take (k * 4) = cs.flatten ∧ cs.length = k ∧ ∀ (j : Nat) (c : List Value) (x : NRq), cs[j]? = some c → xs[j]? = some x → kRq.C (w.heap.size + 1) w1 c x) := Lib.hid (by
        obtain ⟨cs, h1, h2, h3⟩ := HL.out
        exact ⟨cs, h1, h2, fun j c x hc hx => kRq.below (h3 j c x hc hx) b1⟩)
      clear d0 d1 d2 d3
      have e0 : w1.cell? ⟨w.heap.size, k * 4, none⟩ = some (L[k * 4]'(by have := HLl.out; omega)) := by rw [hown1.cellAt (k * 4) (by omega), List.getElem?_eq_getElem (by have := HLl.out; omega)]
      have fz0 := hown1.frozenAt (k * 4)
      have e1 : w1.cell? ⟨w.heap.size, k * 4 + 1, none⟩ = some (L[k * 4 + 1]'(by have := HLl.out; omega)) := by rw [hown1.cellAt (k * 4 + 1) (by omega), List.getElem?_eq_getElem (by have := HLl.out; omega)]
      have fz1 := hown1.frozenAt (k * 4 + 1)
      have e2 : w1.cell? ⟨w.heap.size, k * 4 + 2, none⟩ = some (L[k * 4 + 2]'(by have := HLl.out; omega)) := by rw [hown1.cellAt (k * 4 + 2) (by omega), List.getElem?_eq_getElem (by have := HLl.out; omega)]
      have fz2 := hown1.frozenAt (k * 4 + 2)
      have e3 : w1.cell? ⟨w.heap.size, k * 4 + 3, none⟩ = some (L[k * 4 + 3]'(by have := HLl.out; omega)) := by rw [hown1.cellAt (k * 4 + 3) (by omega), List.getElem?_eq_getElem (by have := HLl.out; omega)]
      have fz3 := hown1.frozenAt (k * 4 + 3)
      have hs0 := hown1.stored (k * 4) (.int .i64 x.n)
      have hs1 := hs0.1.stored (k * 4 + 1) (.int .i64 x.s)
      have hs2 := hs1.1.stored (k * 4 + 2) (.int .i64 x.u)
      have hs3 := hs2.1.stored (k * 4 + 3) (.int .i64 x.t)
      have HS := Lib.hid hs3.1
      have HG := Lib.hid (grown_trans (grown_trans (grown_trans (hs0.2) hs1.2) hs2.2) hs3.2)
      clear hs0 hs1 hs2 hs3
      have HLN : Hid (∃ cs : List (List Value), ((((L.set (k * 4) (.int .i64 x.n)).set (k * 4 + 1) (.int .i64 x.s)).set (k * 4 + 2) (.int .i64 x.u)).set (k * 4 + 3) (.int .i64 x.t)).take ((k + 1) * 4) = cs.flatten ∧ cs.length = k + 1 ∧ ∀ (j : Nat) (c : List Value) (z9 : NRq), cs[j]? = some c → xs[j]? = some z9 → kRq.C (w.heap.size + 1) ((((w1.setCell ⟨w.heap.size, k * 4, none⟩ (.int .i64 x.n)).setCell ⟨w.heap.size, k * 4 + 1, none⟩ (.int .i64 x.s)).setCell ⟨w.heap.size, k * 4 + 2, none⟩ (.int .i64 x.u)).setCell ⟨w.heap.size, k * 4 + 3, none⟩ (.int .i64 x.t)) c z9) := Lib.hid (by
        obtain ⟨cs, h1, h2, h3⟩ := HL1.out
        refine ⟨cs ++ [[.int .i64 x.n, .int .i64 x.s, .int .i64 x.u, .int .i64 x.t]], ?_, by rw [List.length_append, h2]; rfl, fun j c y hc hy => ?_⟩
        · rw [List.flatten_append, ← h1, show (k + 1) * 4 = k * 4 + 4 from by omega, take_set_succ _ (k * 4 + 3) _ (by first | (simp only [List.length_set]; have := HLl.out; omega) | (have := HLl.out; omega)), take_set_succ _ (k * 4 + 2) _ (by first | (simp only [List.length_set]; have := HLl.out; omega) | (have := HLl.out; omega)), take_set_succ _ (k * 4 + 1) _ (by first | (simp only [List.length_set]; have := HLl.out; omega) | (have := HLl.out; omega)), take_set_succ _ (k * 4) _ (by first | (simp only [List.length_set]; have := HLl.out; omega) | (have := HLl.out; omega))]
          simp
        · rcases Nat.lt_trichotomy j k with hj | hj | hj
          · rw [List.getElem?_append_left (by omega)] at hc
            exact kRq.grown (h3 j c y hc hy) HG.out (by omega)
          · subst hj
            rw [List.getElem?_append_right (by omega), h2, Nat.sub_self] at hc
            rw [HX.out] at hy
            cases hc; cases hy
            rfl
          · have := (List.getElem?_eq_some_iff.1 hc).1
            rw [List.length_append, h2] at this
            simp at this
            omega)
      go_wp2
      go_roundw
      case rel => exact ⟨k + 1, _, by omega, by go_num, HS.out, HLN, HB1.out.grown HG.out HB1.out.size (fun j hj => by cases hj; exact Nat.le_refl _), by have := HG.out.size; have := b1.size; omega⟩
      case measure => simp [intOf]; omega
    · obtain rfl : k = xs.length := by omega
      have HA : Hid (kRq.At w.heap.size wr (.slice (some ⟨w.heap.size, 0, none⟩) xs.length xs.length) xs) := Lib.hid (by
        obtain ⟨cs, h1, h2, h3⟩ := HL.out
        have h4 := hown.1
        rw [List.take_of_length_le (by omega)] at h1
        subst h1
        exact Kd.At.of_own hown rfl (Nat.le_refl _) h2 (fun j c x hc hx => kRq.base (h3 j c x hc hx) (by omega)))
      have HB := Lib.hid hb; clear hb hown HL
      go_wp2
      go_ret
      exact ⟨_, rfl, HA.out, HB.out⟩
set_option maxRecDepth 100000 in
set_option maxHeartbeats 4000000 in
theorem toSl_any (x : NSl) (w : World) :
    Calls Tryz.prog 133 #[.agg #[.bool x.hv, .string x.it]] w fun e w' => e = .returned (.agg #[.bool x.hv, .string x.it]) ∧ Below w.heap.size w w' := by
  go_enter Tryz.func133, Tryz.ntmps133
  go_wp2
  go_returns
  exact ⟨rfl, by go_grown⟩
theorem infoNSl : (Tryz.prog.info? 182).map (fun i => (i.zero, i.size, i.bytes)) = some (some (.agg #[.bool false, .string ⟨#[]⟩]), 2, 24) := by kernel_rfl
set_option maxRecDepth 100000 in
set_option maxHeartbeats 4000000 in
theorem toLSl_any (v : Value) (xs : List NSl) (w : World) (h : kSl.At 0 w v xs) (hf : fitL fitSl 1048576 xs) :
    Calls Tryz.prog 112 #[v] w fun e w' => ∃ u, e = .returned u ∧ kSl.At w.heap.size w' u xs ∧ Below w.heap.size w w' := by
  obtain ⟨p, cap, b, off, rfl, hcap, hp, hcell⟩ := h.parts
  have HC := Lib.hid hcell; clear hcell
  have HP := Lib.hid hp; clear hp h
  have hlen := hf.1
  have HF := Lib.hid hf.2; clear hf
  obtain ⟨i0, hi, hz0, hz1, hz2⟩ := info_parts infoNSl
  go_enter Tryz.func112, Tryz.ntmps112
  go_wp2_with (at_make; refine wpList_make_full _ rfl _ _ 72 rfl w.heap.size 182 i0 (.agg #[.bool false, .string ⟨#[]⟩]) 2 Tryz.underlying72 hi hz0 hz1 _ _ _ _ xs.length rfl rfl rfl rfl ?b2 ?b3 (Nat.le_refl _) ?_)
  case b2 => rw [hz2]; omega
  case b3 => unfold maxLen; omega
  intro w0 hown0 hgrow0
  go_wp2
  go_loopw [4] (fun i wr => ∃ (k : Nat) (L : List Value), k ≤ xs.length ∧ i = .int .i64 k ∧ wr.ownsRow w.heap.size 182 2 (.slice (some ⟨w.heap.size, 0, none⟩) xs.length xs.length) xs.length L ∧ Hid (∃ cs : List (List Value), L.take (k * 2) = cs.flatten ∧ cs.length = k ∧ ∀ (j : Nat) (c : List Value) (x : NSl), cs[j]? = some c → xs[j]? = some x → kSl.C (w.heap.size + 1) wr c x) ∧ Below w.heap.size w wr ∧ w.heap.size < wr.heap.size) (fun i _ => xs.length - (intOf i).toNat)
  case atStart => exact ⟨0, _, Nat.zero_le _, rfl, hown0, Lib.hid ⟨[], by simp, rfl, fun j c x h => by simp at h⟩, (Below.refl _ _).grown hgrow0 (Nat.le_refl _) (fun k h => by cases h), (hown0.lt w.heap.size rfl).2⟩
  case round =>
    obtain ⟨k, L, hk, rfl, hown, HL, hb, hlt0⟩ := hrel
    by_cases hlt : k < xs.length
    · obtain rfl := HP.out (by omega)
      have HLl := Lib.hid hown.1
      obtain ⟨c, hC, hcl⟩ := HC.out k hlt
      have hfx := HF.out xs[k] (List.getElem_mem hlt)
      have HX : Hid (xs[k]? = some xs[k]) := Lib.hid (List.getElem?_eq_getElem hlt)
      generalize xs[k] = x at *
      obtain rfl : c = [.bool x.hv, .string x.it] := hC
      have d0 : _ = some (Value.bool x.hv) := cell_on hb (hcl 0 _ rfl)
      rw [show off + k * kSl.sz + 0 = off + k * 2 from rfl] at d0
      have d1 : _ = some (Value.string x.it) := cell_on hb (hcl 1 _ rfl)
      rw [show off + k * kSl.sz + 1 = off + k * 2 + 1 from rfl] at d1
      have H := Lib.hid (toSl_any x wr)
      clear hcl
      go_wp2_with fail
      refine H.out.mono ?_
      rintro e w1 ⟨rfl, b1⟩
      have hown1 := own_below hown b1
      have HB1 := Lib.hid (hb.trans (b1.mono hb.size))
      have HL1 : Hid (∃ cs : List (List Value), L.take (k * 2) = cs.flatten ∧ cs.length = k ∧ ∀ (j : Nat) (c : List Value) (x : NSl), cs[j]? = some c → xs[j]? = some x → kSl.C (w.heap.size + 1) w1 c x) := Lib.hid (by
        obtain ⟨cs, h1, h2, h3⟩ := HL.out
        exact ⟨cs, h1, h2, fun j c x hc hx => kSl.below (h3 j c x hc hx) b1⟩)
      clear d0 d1
      have e0 : w1.cell? ⟨w.heap.size, k * 2, none⟩ = some (L[k * 2]'(by have := HLl.out; omega)) := by rw [hown1.cellAt (k * 2) (by omega), List.getElem?_eq_getElem (by have := HLl.out; omega)]
      have fz0 := hown1.frozenAt (k * 2)
      have e1 : w1.cell? ⟨w.heap.size, k * 2 + 1, none⟩ = some (L[k * 2 + 1]'(by have := HLl.out; omega)) := by rw [hown1.cellAt (k * 2 + 1) (by omega), List.getElem?_eq_getElem (by have := HLl.out; omega)]
      have fz1 := hown1.frozenAt (k * 2 + 1)
      have hs0 := hown1.stored (k * 2) (.bool x.hv)
      have hs1 := hs0.1.stored (k * 2 + 1) (.string x.it)
      have HS := Lib.hid hs1.1
      have HG := Lib.hid (grown_trans (hs0.2) hs1.2)
      clear hs0 hs1
      have HLN : Hid (∃ cs : List (List Value), ((L.set (k * 2) (.bool x.hv)).set (k * 2 + 1) (.string x.it)).take ((k + 1) * 2) = cs.flatten ∧ cs.length = k + 1 ∧ ∀ (j : Nat) (c : List Value) (z9 : NSl), cs[j]? = some c → xs[j]? = some z9 → kSl.C (w.heap.size + 1) ((w1.setCell ⟨w.heap.size, k * 2, none⟩ (.bool x.hv)).setCell ⟨w.heap.size, k * 2 + 1, none⟩ (.string x.it)) c z9) := Lib.hid (by
        obtain ⟨cs, h1, h2, h3⟩ := HL1.out
        refine ⟨cs ++ [[.bool x.hv, .string x.it]], ?_, by rw [List.length_append, h2]; rfl, fun j c y hc hy => ?_⟩
        · rw [List.flatten_append, ← h1, show (k + 1) * 2 = k * 2 + 2 from by omega, take_set_succ _ (k * 2 + 1) _ (by first | (simp only [List.length_set]; have := HLl.out; omega) | (have := HLl.out; omega)), take_set_succ _ (k * 2) _ (by first | (simp only [List.length_set]; have := HLl.out; omega) | (have := HLl.out; omega))]
          simp
        · rcases Nat.lt_trichotomy j k with hj | hj | hj
          · rw [List.getElem?_append_left (by omega)] at hc
            exact kSl.grown (h3 j c y hc hy) HG.out (by omega)
          · subst hj
            rw [List.getElem?_append_right (by omega), h2, Nat.sub_self] at hc
            rw [HX.out] at hy
            cases hc; cases hy
            rfl
          · have := (List.getElem?_eq_some_iff.1 hc).1
            rw [List.length_append, h2] at this
            simp at this
            omega)
      go_wp2
      go_roundw
      case rel => exact ⟨k + 1, _, by omega, by go_num, HS.out, HLN, HB1.out.grown HG.out HB1.out.size (fun j hj => by cases hj; exact Nat.le_refl _), by have := HG.out.size; have := b1.size; omega⟩
      case measure => simp [intOf]; omega
    · obtain rfl : k = xs.length := by omega
      have HA : Hid (kSl.At w.heap.size wr (.slice (some ⟨w.heap.size, 0, none⟩) xs.length xs.length) xs) := Lib.hid (by
        obtain ⟨cs, h1, h2, h3⟩ := HL.out
        have h4 := hown.1
        rw [List.take_of_length_le (by omega)] at h1
        subst h1
        exact Kd.At.of_own hown rfl (Nat.le_refl _) h2 (fun j c x hc hx => kSl.base (h3 j c x hc hx) (by omega)))
      have HB := Lib.hid hb; clear hb hown HL
      go_wp2
      go_ret
      exact ⟨_, rfl, HA.out, HB.out⟩
set_option maxRecDepth 100000 in
set_option maxHeartbeats 4000000 in
theorem toPk_any (x : NPk) (w : World) :
    Calls Tryz.prog 82 #[.agg #[.int .i64 x.kd, .int .i64 x.nm, .int .i64 x.tr, .int .i64 x.ld, .string x.dt]] w fun e w' => e = .returned (.agg #[.int .i64 x.kd, .int .i64 x.nm, .int .i64 x.tr, .int .i64 x.ld, .string x.dt]) ∧ Below w.heap.size w w' := by
  go_enter Tryz.func82, Tryz.ntmps82
  go_wp2
  go_returns
  exact ⟨rfl, by go_grown⟩
theorem infoNPk : (Tryz.prog.info? 141).map (fun i => (i.zero, i.size, i.bytes)) = some (some (.agg #[.int .i64 0, .int .i64 0, .int .i64 0, .int .i64 0, .string ⟨#[]⟩]), 5, 48) := by kernel_rfl
set_option maxRecDepth 100000 in
set_option maxHeartbeats 4000000 in
theorem toLPk_any (v : Value) (xs : List NPk) (w : World) (h : kPk.At 0 w v xs) (hf : fitL fitPk 1048576 xs) :
    Calls Tryz.prog 49 #[v] w fun e w' => ∃ u, e = .returned u ∧ kPk.At w.heap.size w' u xs ∧ Below w.heap.size w w' := by
  obtain ⟨p, cap, b, off, rfl, hcap, hp, hcell⟩ := h.parts
  have HC := Lib.hid hcell; clear hcell
  have HP := Lib.hid hp; clear hp h
  have hlen := hf.1
  have HF := Lib.hid hf.2; clear hf
  obtain ⟨i0, hi, hz0, hz1, hz2⟩ := info_parts infoNPk
  go_enter Tryz.func49, Tryz.ntmps49
  go_wp2_with (at_make; refine wpList_make_full _ rfl _ _ 60 rfl w.heap.size 141 i0 (.agg #[.int .i64 0, .int .i64 0, .int .i64 0, .int .i64 0, .string ⟨#[]⟩]) 5 Tryz.underlying60 hi hz0 hz1 _ _ _ _ xs.length rfl rfl rfl rfl ?b2 ?b3 (Nat.le_refl _) ?_)
  case b2 => rw [hz2]; omega
  case b3 => unfold maxLen; omega
  intro w0 hown0 hgrow0
  go_wp2
  go_loopw [4] (fun i wr => ∃ (k : Nat) (L : List Value), k ≤ xs.length ∧ i = .int .i64 k ∧ wr.ownsRow w.heap.size 141 5 (.slice (some ⟨w.heap.size, 0, none⟩) xs.length xs.length) xs.length L ∧ Hid (∃ cs : List (List Value), L.take (k * 5) = cs.flatten ∧ cs.length = k ∧ ∀ (j : Nat) (c : List Value) (x : NPk), cs[j]? = some c → xs[j]? = some x → kPk.C (w.heap.size + 1) wr c x) ∧ Below w.heap.size w wr ∧ w.heap.size < wr.heap.size) (fun i _ => xs.length - (intOf i).toNat)
  case atStart => exact ⟨0, _, Nat.zero_le _, rfl, hown0, Lib.hid ⟨[], by simp, rfl, fun j c x h => by simp at h⟩, (Below.refl _ _).grown hgrow0 (Nat.le_refl _) (fun k h => by cases h), (hown0.lt w.heap.size rfl).2⟩
  case round =>
    obtain ⟨k, L, hk, rfl, hown, HL, hb, hlt0⟩ := hrel
    by_cases hlt : k < xs.length
    · obtain rfl := HP.out (by omega)
      have HLl := Lib.hid hown.1
      obtain ⟨c, hC, hcl⟩ := HC.out k hlt
      have hfx := HF.out xs[k] (List.getElem_mem hlt)
      have HX : Hid (xs[k]? = some xs[k]) := Lib.hid (List.getElem?_eq_getElem hlt)
      generalize xs[k] = x at *
      obtain rfl : c = [.int .i64 x.kd, .int .i64 x.nm, .int .i64 x.tr, .int .i64 x.ld, .string x.dt] := hC
      have d0 : _ = some (Value.int .i64 x.kd) := cell_on hb (hcl 0 _ rfl)
      rw [show off + k * kPk.sz + 0 = off + k * 5 from rfl] at d0
      have d1 : _ = some (Value.int .i64 x.nm) := cell_on hb (hcl 1 _ rfl)
      rw [show off + k * kPk.sz + 1 = off + k * 5 + 1 from rfl] at d1
      have d2 : _ = some (Value.int .i64 x.tr) := cell_on hb (hcl 2 _ rfl)
      rw [show off + k * kPk.sz + 2 = off + k * 5 + 2 from rfl] at d2
      have d3 : _ = some (Value.int .i64 x.ld) := cell_on hb (hcl 3 _ rfl)
      rw [show off + k * kPk.sz + 3 = off + k * 5 + 3 from rfl] at d3
      have d4 : _ = some (Value.string x.dt) := cell_on hb (hcl 4 _ rfl)
      rw [show off + k * kPk.sz + 4 = off + k * 5 + 4 from rfl] at d4
      have H := Lib.hid (toPk_any x wr)
      clear hcl
      go_wp2_with fail
      refine H.out.mono ?_
      rintro e w1 ⟨rfl, b1⟩
      have hown1 := own_below hown b1
      have HB1 := Lib.hid (hb.trans (b1.mono hb.size))
      have HL1 : Hid (∃ cs : List (List Value), L.take (k * 5) = cs.flatten ∧ cs.length = k ∧ ∀ (j : Nat) (c : List Value) (x : NPk), cs[j]? = some c → xs[j]? = some x → kPk.C (w.heap.size + 1) w1 c x) := Lib.hid (by
        obtain ⟨cs, h1, h2, h3⟩ := HL.out
        exact ⟨cs, h1, h2, fun j c x hc hx => kPk.below (h3 j c x hc hx) b1⟩)
      clear d0 d1 d2 d3 d4
      have e0 : w1.cell? ⟨w.heap.size, k * 5, none⟩ = some (L[k * 5]'(by have := HLl.out; omega)) := by rw [hown1.cellAt (k * 5) (by omega), List.getElem?_eq_getElem (by have := HLl.out; omega)]
      have fz0 := hown1.frozenAt (k * 5)
      have e1 : w1.cell? ⟨w.heap.size, k * 5 + 1, none⟩ = some (L[k * 5 + 1]'(by have := HLl.out; omega)) := by rw [hown1.cellAt (k * 5 + 1) (by omega), List.getElem?_eq_getElem (by have := HLl.out; omega)]
      have fz1 := hown1.frozenAt (k * 5 + 1)
      have e2 : w1.cell? ⟨w.heap.size, k * 5 + 2, none⟩ = some (L[k * 5 + 2]'(by have := HLl.out; omega)) := by rw [hown1.cellAt (k * 5 + 2) (by omega), List.getElem?_eq_getElem (by have := HLl.out; omega)]
      have fz2 := hown1.frozenAt (k * 5 + 2)
      have e3 : w1.cell? ⟨w.heap.size, k * 5 + 3, none⟩ = some (L[k * 5 + 3]'(by have := HLl.out; omega)) := by rw [hown1.cellAt (k * 5 + 3) (by omega), List.getElem?_eq_getElem (by have := HLl.out; omega)]
      have fz3 := hown1.frozenAt (k * 5 + 3)
      have e4 : w1.cell? ⟨w.heap.size, k * 5 + 4, none⟩ = some (L[k * 5 + 4]'(by have := HLl.out; omega)) := by rw [hown1.cellAt (k * 5 + 4) (by omega), List.getElem?_eq_getElem (by have := HLl.out; omega)]
      have fz4 := hown1.frozenAt (k * 5 + 4)
      have hs0 := hown1.stored (k * 5) (.int .i64 x.kd)
      have hs1 := hs0.1.stored (k * 5 + 1) (.int .i64 x.nm)
      have hs2 := hs1.1.stored (k * 5 + 2) (.int .i64 x.tr)
      have hs3 := hs2.1.stored (k * 5 + 3) (.int .i64 x.ld)
      have hs4 := hs3.1.stored (k * 5 + 4) (.string x.dt)
      have HS := Lib.hid hs4.1
      have HG := Lib.hid (grown_trans (grown_trans (grown_trans (grown_trans (hs0.2) hs1.2) hs2.2) hs3.2) hs4.2)
      clear hs0 hs1 hs2 hs3 hs4
      have HLN : Hid (∃ cs : List (List Value), (((((L.set (k * 5) (.int .i64 x.kd)).set (k * 5 + 1) (.int .i64 x.nm)).set (k * 5 + 2) (.int .i64 x.tr)).set (k * 5 + 3) (.int .i64 x.ld)).set (k * 5 + 4) (.string x.dt)).take ((k + 1) * 5) = cs.flatten ∧ cs.length = k + 1 ∧ ∀ (j : Nat) (c : List Value) (z9 : NPk), cs[j]? = some c → xs[j]? = some z9 → kPk.C (w.heap.size + 1) (((((w1.setCell ⟨w.heap.size, k * 5, none⟩ (.int .i64 x.kd)).setCell ⟨w.heap.size, k * 5 + 1, none⟩ (.int .i64 x.nm)).setCell ⟨w.heap.size, k * 5 + 2, none⟩ (.int .i64 x.tr)).setCell ⟨w.heap.size, k * 5 + 3, none⟩ (.int .i64 x.ld)).setCell ⟨w.heap.size, k * 5 + 4, none⟩ (.string x.dt)) c z9) := Lib.hid (by
        obtain ⟨cs, h1, h2, h3⟩ := HL1.out
        refine ⟨cs ++ [[.int .i64 x.kd, .int .i64 x.nm, .int .i64 x.tr, .int .i64 x.ld, .string x.dt]], ?_, by rw [List.length_append, h2]; rfl, fun j c y hc hy => ?_⟩
        · rw [List.flatten_append, ← h1, show (k + 1) * 5 = k * 5 + 5 from by omega, take_set_succ _ (k * 5 + 4) _ (by first | (simp only [List.length_set]; have := HLl.out; omega) | (have := HLl.out; omega)), take_set_succ _ (k * 5 + 3) _ (by first | (simp only [List.length_set]; have := HLl.out; omega) | (have := HLl.out; omega)), take_set_succ _ (k * 5 + 2) _ (by first | (simp only [List.length_set]; have := HLl.out; omega) | (have := HLl.out; omega)), take_set_succ _ (k * 5 + 1) _ (by first | (simp only [List.length_set]; have := HLl.out; omega) | (have := HLl.out; omega)), take_set_succ _ (k * 5) _ (by first | (simp only [List.length_set]; have := HLl.out; omega) | (have := HLl.out; omega))]
          simp
        · rcases Nat.lt_trichotomy j k with hj | hj | hj
          · rw [List.getElem?_append_left (by omega)] at hc
            exact kPk.grown (h3 j c y hc hy) HG.out (by omega)
          · subst hj
            rw [List.getElem?_append_right (by omega), h2, Nat.sub_self] at hc
            rw [HX.out] at hy
            cases hc; cases hy
            rfl
          · have := (List.getElem?_eq_some_iff.1 hc).1
            rw [List.length_append, h2] at this
            simp at this
            omega)
      go_wp2
      go_roundw
      case rel => exact ⟨k + 1, _, by omega, by go_num, HS.out, HLN, HB1.out.grown HG.out HB1.out.size (fun j hj => by cases hj; exact Nat.le_refl _), by have := HG.out.size; have := b1.size; omega⟩
      case measure => simp [intOf]; omega
    · obtain rfl : k = xs.length := by omega
      have HA : Hid (kPk.At w.heap.size wr (.slice (some ⟨w.heap.size, 0, none⟩) xs.length xs.length) xs) := Lib.hid (by
        obtain ⟨cs, h1, h2, h3⟩ := HL.out
        have h4 := hown.1
        rw [List.take_of_length_le (by omega)] at h1
        subst h1
        exact Kd.At.of_own hown rfl (Nat.le_refl _) h2 (fun j c x hc hx => kPk.base (h3 j c x hc hx) (by omega)))
      have HB := Lib.hid hb; clear hb hown HL
      go_wp2
      go_ret
      exact ⟨_, rfl, HA.out, HB.out⟩
end Go.Proofs.YtihpibdodlgpaaaGreatDoor
