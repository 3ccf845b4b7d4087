/- Contracts of the harness's functions that measure the data of networks: what is left, or a negative number; what is measured fits. -/
import Derived.Test.YtihpibdodlgpaaaGreatDoorNetD
import Derived.Handy
namespace Go.Proofs.YtihpibdodlgpaaaGreatDoor
open Go.RowKit

set_option maxRecDepth 100000 in
set_option maxHeartbeats 4000000 in
theorem szLI_any (v : Value) (xs : List Int) (left : Int) (w : World) (h : kI.At 0 w v xs) (hf : xs.length ≤ 9223372036854775807) (hl0 : 0 ≤ left) (hl1 : left ≤ 1048576) :
    Calls Tryz.prog 35 #[v, .int .i64 left] w fun e w' => ∃ r : Int, e = .returned (.int .i64 r) ∧ (r < 0 ∨ (0 ≤ r ∧ r ≤ left ∧ xs.length ≤ 1048576)) ∧ Below w.heap.size w w' := by
  obtain ⟨p, cap, b, off, rfl, hcap, hp, hcell⟩ := h.parts
  clear hp hcell h
  by_cases hlt : left - (xs.length : Int) < 0
  · go_enter Tryz.func35, Tryz.ntmps35
    go_wp2
    go_ret
    exact ⟨_, rfl, .inl (by omega), Below.refl _ _⟩
  · go_enter Tryz.func35, Tryz.ntmps35
    go_wp2
    go_ret
    exact ⟨_, rfl, .inr ⟨by omega, by omega, by omega⟩, Below.refl _ _⟩
set_option maxRecDepth 100000 in
set_option maxHeartbeats 4000000 in
theorem szLS_any (v : Value) (xs : List ByteArray) (left : Int) (w : World) (h : kS.At 0 w v xs) (hf : fitL fitS 9223372036854775807 xs) (hl0 : 0 ≤ left) (hl1 : left ≤ 1048576) :
    Calls Tryz.prog 63 #[v, .int .i64 left] w fun e w' => ∃ r : Int, e = .returned (.int .i64 r) ∧ (r < 0 ∨ (0 ≤ r ∧ r ≤ left ∧ fitL fitS 1048576 xs)) ∧ Below w.heap.size w w' := by
  obtain ⟨p, cap, b, off, rfl, hcap, hp, hcell⟩ := h.parts
  have HC := Lib.hid hcell; clear hcell
  have HP := Lib.hid hp; clear hp h
  have hlen := hf.1
  have HF := Lib.hid hf.2; clear hf
  by_cases hlt : left - (xs.length : Int) < 0
  · go_enter Tryz.func63, Tryz.ntmps63
    go_wp2
    go_ret
    exact ⟨_, rfl, .inl (by omega), Below.refl _ _⟩
  obtain ⟨l0, hl⟩ : ∃ l : Int, left - (xs.length : Int) = l := ⟨_, rfl⟩
  go_enter Tryz.func63, Tryz.ntmps63
  go_wp2
  go_loopw [1, 5] (fun lv i wr => ∃ (k : Nat) (l : Int), k ≤ xs.length ∧ i = .int .i64 k ∧ lv = .int .i64 l ∧ 0 ≤ l ∧ l ≤ left ∧ Hid (∀ x ∈ xs.take k, fitS 1048576 x) ∧ Below w.heap.size w wr) (fun _ i _ => xs.length - (intOf i).toNat)
  case atStart => exact ⟨0, left - (xs.length : Int), Nat.zero_le _, rfl, by first | rfl | go_num | (rw [hl]), by omega, by omega, Lib.hid (by simp), Below.refl _ _⟩
  case round =>
    obtain ⟨k, l, hk, rfl, rfl, hz0, hz1, HT, hb⟩ := hrel
    by_cases hlt2 : k < xs.length
    · obtain rfl := HP.out (by omega)
      obtain ⟨c, hC, hcl⟩ := HC.out k hlt2
      have hfx := HF.out xs[k] (List.getElem_mem hlt2)
      have HTk : Hid (xs.take (k + 1) = xs.take k ++ [xs[k]]) := Lib.hid (List.take_succ_eq_append_getElem hlt2)
      generalize xs[k] = x at *
      obtain rfl : c = [.string x] := hC
      have d0 := cell_on hb (hcl 0 _ rfl)
      rw [show off + k * kS.sz + 0 = off + k from by show off + k * 1 + 0 = off + k; omega] at d0
      have hfx : x.size ≤ 9223372036854775807 := hfx
      have HX := Lib.hid hb; clear hb hcl
      by_cases hlt3 : l - (x.size : Int) < 0
      · go_wp2
        go_ret
        exact ⟨_, rfl, .inl (by omega), HX.out⟩
      · go_wp2
        go_roundw
        case rel => exact ⟨k + 1, l - (x.size : Int), by omega, by go_num, by first | rfl | go_num, by omega, by omega, Lib.hid (by rw [HTk.out]; intro y hy; rcases List.mem_append.1 hy with hy | hy; exact HT.out y hy; rw [List.mem_singleton.1 hy]; show x.size ≤ 1048576; omega), HX.out⟩
        case measure => simp [intOf]; omega
    · obtain rfl : k = xs.length := by omega
      have HX := Lib.hid hb; clear hb
      have HG : Hid (fitL fitS 1048576 xs) := Lib.hid ⟨by omega, by have := HT.out; rwa [List.take_length] at this⟩
      go_wp2
      go_ret
      exact ⟨_, rfl, .inr ⟨by omega, by omega, HG.out⟩, HX.out⟩
set_option maxRecDepth 100000 in
set_option maxHeartbeats 4000000 in
theorem szLHd_any (v : Value) (xs : List NHd) (left : Int) (w : World) (h : kHd.At 0 w v xs) (hf : xs.length ≤ 9223372036854775807) (hl0 : 0 ≤ left) (hl1 : left ≤ 1048576) :
    Calls Tryz.prog 37 #[v, .int .i64 left] w fun e w' => ∃ r : Int, e = .returned (.int .i64 r) ∧ (r < 0 ∨ (0 ≤ r ∧ r ≤ left ∧ xs.length ≤ 1048576)) ∧ Below w.heap.size w w' := by
  obtain ⟨p, cap, b, off, rfl, hcap, hp, hcell⟩ := h.parts
  clear hp hcell h
  by_cases hlt : left - (xs.length : Int) < 0
  · go_enter Tryz.func37, Tryz.ntmps37
    go_wp2
    go_ret
    exact ⟨_, rfl, .inl (by omega), Below.refl _ _⟩
  · go_enter Tryz.func37, Tryz.ntmps37
    go_wp2
    go_ret
    exact ⟨_, rfl, .inr ⟨by omega, by omega, by omega⟩, Below.refl _ _⟩
set_option maxRecDepth 100000 in
set_option maxHeartbeats 4000000 in
theorem szLRq_any (v : Value) (xs : List NRq) (left : Int) (w : World) (h : kRq.At 0 w v xs) (hf : xs.length ≤ 9223372036854775807) (hl0 : 0 ≤ left) (hl1 : left ≤ 1048576) :
    Calls Tryz.prog 66 #[v, .int .i64 left] w fun e w' => ∃ r : Int, e = .returned (.int .i64 r) ∧ (r < 0 ∨ (0 ≤ r ∧ r ≤ left ∧ xs.length ≤ 1048576)) ∧ Below w.heap.size w w' := by
  obtain ⟨p, cap, b, off, rfl, hcap, hp, hcell⟩ := h.parts
  clear hp hcell h
  by_cases hlt : left - (xs.length : Int) < 0
  · go_enter Tryz.func66, Tryz.ntmps66
    go_wp2
    go_ret
    exact ⟨_, rfl, .inl (by omega), Below.refl _ _⟩
  · go_enter Tryz.func66, Tryz.ntmps66
    go_wp2
    go_ret
    exact ⟨_, rfl, .inr ⟨by omega, by omega, by omega⟩, Below.refl _ _⟩
set_option maxRecDepth 100000 in
set_option maxHeartbeats 4000000 in
theorem szSl_any (x : NSl) (left : Int) (w : World)  (hf : fitSl 9223372036854775807 x) (hl0 : 0 ≤ left) (hl1 : left ≤ 1048576) :
    Calls Tryz.prog 130 #[.agg #[.bool x.hv, .string x.it], .int .i64 left] w fun e w' => ∃ r : Int, e = .returned (.int .i64 r) ∧ (r < 0 ∨ (0 ≤ r ∧ r ≤ left ∧ fitSl 1048576 x)) ∧ Below w.heap.size w w' := by
  have hf : x.it.size ≤ 9223372036854775807 := hf
  by_cases hlt : left - (x.it.size : Int) < 0
  · go_enter Tryz.func130, Tryz.ntmps130
    go_wp2
    go_ret
    exact ⟨_, rfl, .inl (by omega), by go_grown⟩
  · go_enter Tryz.func130, Tryz.ntmps130
    go_wp2
    go_ret
    exact ⟨_, rfl, .inr ⟨by omega, by omega, show x.it.size ≤ 1048576 by omega⟩, by go_grown⟩
set_option maxRecDepth 100000 in
set_option maxHeartbeats 4000000 in
theorem szLSl_any (v : Value) (xs : List NSl) (left : Int) (w : World) (h : kSl.At 0 w v xs) (hf : fitL fitSl 9223372036854775807 xs) (hl0 : 0 ≤ left) (hl1 : left ≤ 1048576) :
    Calls Tryz.prog 104 #[v, .int .i64 left] w fun e w' => ∃ r : Int, e = .returned (.int .i64 r) ∧ (r < 0 ∨ (0 ≤ r ∧ r ≤ left ∧ fitL fitSl 1048576 xs)) ∧ Below w.heap.size w w' := by
  obtain ⟨p, cap, b, off, rfl, hcap, hp, hcell⟩ := h.parts
  have HC := Lib.hid hcell; clear hcell
  have HP := Lib.hid hp; clear hp h
  have hlen := hf.1
  have HF := Lib.hid hf.2; clear hf
  by_cases hlt : left - (xs.length : Int) < 0
  · go_enter Tryz.func104, Tryz.ntmps104
    go_wp2
    go_ret
    exact ⟨_, rfl, .inl (by omega), Below.refl _ _⟩
  obtain ⟨l0, hl⟩ : ∃ l : Int, left - (xs.length : Int) = l := ⟨_, rfl⟩
  go_enter Tryz.func104, Tryz.ntmps104
  go_wp2
  go_loopw [1, 5] (fun lv i wr => ∃ (k : Nat) (l : Int), k ≤ xs.length ∧ i = .int .i64 k ∧ lv = .int .i64 l ∧ 0 ≤ l ∧ l ≤ left ∧ Hid (∀ x ∈ xs.take k, fitSl 1048576 x) ∧ Below w.heap.size w wr) (fun _ i _ => xs.length - (intOf i).toNat)
  case atStart => exact ⟨0, left - (xs.length : Int), Nat.zero_le _, rfl, by first | rfl | go_num | (rw [hl]), by omega, by omega, Lib.hid (by simp), Below.refl _ _⟩
  case round =>
    obtain ⟨k, l, hk, rfl, rfl, hz0, hz1, HT, hb⟩ := hrel
    by_cases hlt2 : k < xs.length
    · obtain rfl := HP.out (by omega)
      obtain ⟨c, hC, hcl⟩ := HC.out k hlt2
      have hfx := HF.out xs[k] (List.getElem_mem hlt2)
      have HTk : Hid (xs.take (k + 1) = xs.take k ++ [xs[k]]) := Lib.hid (List.take_succ_eq_append_getElem hlt2)
      generalize xs[k] = x at *
      obtain rfl : c = [.bool x.hv, .string x.it] := hC
      have d0 : _ = some (Value.bool x.hv) := cell_on hb (hcl 0 _ rfl)
      rw [show off + k * kSl.sz + 0 = off + k * 2 from rfl] at d0
      have d1 : _ = some (Value.string x.it) := cell_on hb (hcl 1 _ rfl)
      rw [show off + k * kSl.sz + 1 = off + k * 2 + 1 from rfl] at d1
      have H := Lib.hid (szSl_any x  l wr  hfx hz0 (by omega))
      have HX := Lib.hid hb; clear hb hcl hfx
      go_wp2_with fail
      refine H.out.mono ?_
      rintro e w1 ⟨r, rfl, hr, b1⟩
      have HX1 := Lib.hid (HX.out.trans (b1.mono HX.out.size)); clear b1
      rcases hr with hr | ⟨hr0, hr1, hr2⟩
      · go_wp2
        go_ret
        exact ⟨_, rfl, .inl (by first | omega | decide), HX1.out⟩
      · have HR2 := Lib.hid hr2; clear hr2
        go_wp2
        go_roundw
        case rel => exact ⟨k + 1, r, by omega, by go_num, rfl, hr0, by omega, Lib.hid (by rw [HTk.out]; intro y hy; rcases List.mem_append.1 hy with hy | hy; exact HT.out y hy; rw [List.mem_singleton.1 hy]; exact HR2.out), HX1.out⟩
        case measure => simp [intOf]; omega
    · obtain rfl : k = xs.length := by omega
      have HX := Lib.hid hb; clear hb
      have HG : Hid (fitL fitSl 1048576 xs) := Lib.hid ⟨by omega, by have := HT.out; rwa [List.take_length] at this⟩
      go_wp2
      go_ret
      exact ⟨_, rfl, .inr ⟨by omega, by omega, HG.out⟩, HX.out⟩
set_option maxRecDepth 100000 in
set_option maxHeartbeats 4000000 in
theorem szPk_any (x : NPk) (left : Int) (w : World)  (hf : fitPk 9223372036854775807 x) (hl0 : 0 ≤ left) (hl1 : left ≤ 1048576) :
    Calls Tryz.prog 67 #[.agg #[.int .i64 x.kd, .int .i64 x.nm, .int .i64 x.tr, .int .i64 x.ld, .string x.dt], .int .i64 left] w fun e w' => ∃ r : Int, e = .returned (.int .i64 r) ∧ (r < 0 ∨ (0 ≤ r ∧ r ≤ left ∧ fitPk 1048576 x)) ∧ Below w.heap.size w w' := by
  have hf : x.dt.size ≤ 9223372036854775807 := hf
  by_cases hlt : left - (x.dt.size : Int) < 0
  · go_enter Tryz.func67, Tryz.ntmps67
    go_wp2
    go_ret
    exact ⟨_, rfl, .inl (by omega), by go_grown⟩
  · go_enter Tryz.func67, Tryz.ntmps67
    go_wp2
    go_ret
    exact ⟨_, rfl, .inr ⟨by omega, by omega, show x.dt.size ≤ 1048576 by omega⟩, by go_grown⟩
set_option maxRecDepth 100000 in
set_option maxHeartbeats 4000000 in
theorem szLPk_any (v : Value) (xs : List NPk) (left : Int) (w : World) (h : kPk.At 0 w v xs) (hf : fitL fitPk 9223372036854775807 xs) (hl0 : 0 ≤ left) (hl1 : left ≤ 1048576) :
    Calls Tryz.prog 40 #[v, .int .i64 left] w fun e w' => ∃ r : Int, e = .returned (.int .i64 r) ∧ (r < 0 ∨ (0 ≤ r ∧ r ≤ left ∧ fitL fitPk 1048576 xs)) ∧ Below w.heap.size w w' := by
  obtain ⟨p, cap, b, off, rfl, hcap, hp, hcell⟩ := h.parts
  have HC := Lib.hid hcell; clear hcell
  have HP := Lib.hid hp; clear hp h
  have hlen := hf.1
  have HF := Lib.hid hf.2; clear hf
  by_cases hlt : left - (xs.length : Int) < 0
  · go_enter Tryz.func40, Tryz.ntmps40
    go_wp2
    go_ret
    exact ⟨_, rfl, .inl (by omega), Below.refl _ _⟩
  obtain ⟨l0, hl⟩ : ∃ l : Int, left - (xs.length : Int) = l := ⟨_, rfl⟩
  go_enter Tryz.func40, Tryz.ntmps40
  go_wp2
  go_loopw [1, 5] (fun lv i wr => ∃ (k : Nat) (l : Int), k ≤ xs.length ∧ i = .int .i64 k ∧ lv = .int .i64 l ∧ 0 ≤ l ∧ l ≤ left ∧ Hid (∀ x ∈ xs.take k, fitPk 1048576 x) ∧ Below w.heap.size w wr) (fun _ i _ => xs.length - (intOf i).toNat)
  case atStart => exact ⟨0, left - (xs.length : Int), Nat.zero_le _, rfl, by first | rfl | go_num | (rw [hl]), by omega, by omega, Lib.hid (by simp), Below.refl _ _⟩
  case round =>
    obtain ⟨k, l, hk, rfl, rfl, hz0, hz1, HT, hb⟩ := hrel
    by_cases hlt2 : k < xs.length
    · obtain rfl := HP.out (by omega)
      obtain ⟨c, hC, hcl⟩ := HC.out k hlt2
      have hfx := HF.out xs[k] (List.getElem_mem hlt2)
      have HTk : Hid (xs.take (k + 1) = xs.take k ++ [xs[k]]) := Lib.hid (List.take_succ_eq_append_getElem hlt2)
      generalize xs[k] = x at *
      obtain rfl : c = [.int .i64 x.kd, .int .i64 x.nm, .int .i64 x.tr, .int .i64 x.ld, .string x.dt] := hC
      have d0 : _ = some (Value.int .i64 x.kd) := cell_on hb (hcl 0 _ rfl)
      rw [show off + k * kPk.sz + 0 = off + k * 5 from rfl] at d0
      have d1 : _ = some (Value.int .i64 x.nm) := cell_on hb (hcl 1 _ rfl)
      rw [show off + k * kPk.sz + 1 = off + k * 5 + 1 from rfl] at d1
      have d2 : _ = some (Value.int .i64 x.tr) := cell_on hb (hcl 2 _ rfl)
      rw [show off + k * kPk.sz + 2 = off + k * 5 + 2 from rfl] at d2
      have d3 : _ = some (Value.int .i64 x.ld) := cell_on hb (hcl 3 _ rfl)
      rw [show off + k * kPk.sz + 3 = off + k * 5 + 3 from rfl] at d3
      have d4 : _ = some (Value.string x.dt) := cell_on hb (hcl 4 _ rfl)
      rw [show off + k * kPk.sz + 4 = off + k * 5 + 4 from rfl] at d4
      have H := Lib.hid (szPk_any x  l wr  hfx hz0 (by omega))
      have HX := Lib.hid hb; clear hb hcl hfx
      go_wp2_with fail
      refine H.out.mono ?_
      rintro e w1 ⟨r, rfl, hr, b1⟩
      have HX1 := Lib.hid (HX.out.trans (b1.mono HX.out.size)); clear b1
      rcases hr with hr | ⟨hr0, hr1, hr2⟩
      · go_wp2
        go_ret
        exact ⟨_, rfl, .inl (by first | omega | decide), HX1.out⟩
      · have HR2 := Lib.hid hr2; clear hr2
        go_wp2
        go_roundw
        case rel => exact ⟨k + 1, r, by omega, by go_num, rfl, hr0, by omega, Lib.hid (by rw [HTk.out]; intro y hy; rcases List.mem_append.1 hy with hy | hy; exact HT.out y hy; rw [List.mem_singleton.1 hy]; exact HR2.out), HX1.out⟩
        case measure => simp [intOf]; omega
    · obtain rfl : k = xs.length := by omega
      have HX := Lib.hid hb; clear hb
      have HG : Hid (fitL fitPk 1048576 xs) := Lib.hid ⟨by omega, by have := HT.out; rwa [List.take_length] at this⟩
      go_wp2
      go_ret
      exact ⟨_, rfl, .inr ⟨by omega, by omega, HG.out⟩, HX.out⟩
set_option maxRecDepth 100000 in
set_option maxHeartbeats 4000000 in
theorem szLPq_any (v : Value) (xs : List (List NPk)) (left : Int) (w : World) (h : kPq.At 0 w v xs) (hf : fitL fitPq 9223372036854775807 xs) (hl0 : 0 ≤ left) (hl1 : left ≤ 1048576) :
    Calls Tryz.prog 16 #[v, .int .i64 left] w fun e w' => ∃ r : Int, e = .returned (.int .i64 r) ∧ (r < 0 ∨ (0 ≤ r ∧ r ≤ left ∧ fitL fitPq 1048576 xs)) ∧ Below w.heap.size w w' := by
  obtain ⟨p, cap, b, off, rfl, hcap, hp, hcell⟩ := h.parts
  have HC := Lib.hid hcell; clear hcell
  have HP := Lib.hid hp; clear hp h
  have hlen := hf.1
  have HF := Lib.hid hf.2; clear hf
  by_cases hlt : left - (xs.length : Int) < 0
  · go_enter Tryz.func16, Tryz.ntmps16
    go_wp2
    go_ret
    exact ⟨_, rfl, .inl (by omega), Below.refl _ _⟩
  obtain ⟨l0, hl⟩ : ∃ l : Int, left - (xs.length : Int) = l := ⟨_, rfl⟩
  go_enter Tryz.func16, Tryz.ntmps16
  go_wp2
  go_loopw [1, 5] (fun lv i wr => ∃ (k : Nat) (l : Int), k ≤ xs.length ∧ i = .int .i64 k ∧ lv = .int .i64 l ∧ 0 ≤ l ∧ l ≤ left ∧ Hid (∀ x ∈ xs.take k, fitPq 1048576 x) ∧ Below w.heap.size w wr) (fun _ i _ => xs.length - (intOf i).toNat)
  case atStart => exact ⟨0, left - (xs.length : Int), Nat.zero_le _, rfl, by first | rfl | go_num | (rw [hl]), by omega, by omega, Lib.hid (by simp), Below.refl _ _⟩
  case round =>
    obtain ⟨k, l, hk, rfl, rfl, hz0, hz1, HT, hb⟩ := hrel
    by_cases hlt2 : k < xs.length
    · obtain rfl := HP.out (by omega)
      obtain ⟨c, hC, hcl⟩ := HC.out k hlt2
      have hfx := HF.out xs[k] (List.getElem_mem hlt2)
      have HTk : Hid (xs.take (k + 1) = xs.take k ++ [xs[k]]) := Lib.hid (List.take_succ_eq_append_getElem hlt2)
      generalize xs[k] = x at *
      obtain ⟨v0, rfl, a0⟩ := hC
      obtain ⟨pv0, cv0, _, _, rfl, hcv0, _, _⟩ := a0.parts
      have d0 := cell_on hb (hcl 0 _ rfl)
      rw [show off + k * kPq.sz + 0 = off + k from by show off + k * 1 + 0 = off + k; omega] at d0
      have H := Lib.hid (szLPk_any _ x l wr (a0.below hb) hfx hz0 (by omega))
      have HX := Lib.hid hb; clear hb hcl hfx a0
      go_wp2_with fail
      refine H.out.mono ?_
      rintro e w1 ⟨r, rfl, hr, b1⟩
      have HX1 := Lib.hid (HX.out.trans (b1.mono HX.out.size)); clear b1
      rcases hr with hr | ⟨hr0, hr1, hr2⟩
      · go_wp2
        go_ret
        exact ⟨_, rfl, .inl (by first | omega | decide), HX1.out⟩
      · have HR2 := Lib.hid hr2; clear hr2
        go_wp2
        go_roundw
        case rel => exact ⟨k + 1, r, by omega, by go_num, rfl, hr0, by omega, Lib.hid (by rw [HTk.out]; intro y hy; rcases List.mem_append.1 hy with hy | hy; exact HT.out y hy; rw [List.mem_singleton.1 hy]; exact HR2.out), HX1.out⟩
        case measure => simp [intOf]; omega
    · obtain rfl : k = xs.length := by omega
      have HX := Lib.hid hb; clear hb
      have HG : Hid (fitL fitPq 1048576 xs) := Lib.hid ⟨by omega, by have := HT.out; rwa [List.take_length] at this⟩
      go_wp2
      go_ret
      exact ⟨_, rfl, .inr ⟨by omega, by omega, HG.out⟩, HX.out⟩
set_option maxRecDepth 100000 in
set_option maxHeartbeats 4000000 in
theorem szEn_any (x : NEn) (v0 : Value) (left : Int) (w : World) (a0 : kI.At 0 w v0 x.fs) (hf : fitEn 9223372036854775807 x) (hl0 : 0 ≤ left) (hl1 : left ≤ 1048576) :
    Calls Tryz.prog 103 #[.agg #[.int .i64 x.n, v0, .int .i64 x.u], .int .i64 left] w fun e w' => ∃ r : Int, e = .returned (.int .i64 r) ∧ (r < 0 ∨ (0 ≤ r ∧ r ≤ left ∧ fitEn 1048576 x)) ∧ Below w.heap.size w w' := by
  have f0 := hf
  obtain ⟨p0, c0, _, _, rfl, _, _, _⟩ := a0.parts
  have A0 := Lib.hid a0
  clear a0
  go_enter Tryz.func103, Tryz.ntmps103
  go_wp2_with fail
  refine (szLI_any _ x.fs left _ (A0.out.below (by go_grown)) f0 (by omega) (by omega)).mono ?_
  rintro e w1 ⟨r1, rfl, hr, b1⟩
  have B1 : Hid (Below w.heap.size w w1) := Lib.hid (Below.trans (by go_grown) (b1.mono (by simp <;> omega)))
  clear b1
  rcases hr with hr | ⟨hr0, hr1, hr2⟩
  · go_wp2
    go_ret
    exact ⟨_, rfl, .inl (by first | omega | decide), B1.out⟩
  have g0 := Lib.hid hr2
  clear hr2
  have h00 := hr0; have h01 := hr1; clear hr0 hr1
  go_wp2
  go_ret
  exact ⟨_, rfl, .inr ⟨by omega, by omega, g0.out⟩, B1.out⟩
set_option maxRecDepth 100000 in
set_option maxHeartbeats 4000000 in
theorem szLEn_any (v : Value) (xs : List NEn) (left : Int) (w : World) (h : kEn.At 0 w v xs) (hf : fitL fitEn 9223372036854775807 xs) (hl0 : 0 ≤ left) (hl1 : left ≤ 1048576) :
    Calls Tryz.prog 64 #[v, .int .i64 left] w fun e w' => ∃ r : Int, e = .returned (.int .i64 r) ∧ (r < 0 ∨ (0 ≤ r ∧ r ≤ left ∧ fitL fitEn 1048576 xs)) ∧ Below w.heap.size w w' := by
  obtain ⟨p, cap, b, off, rfl, hcap, hp, hcell⟩ := h.parts
  have HC := Lib.hid hcell; clear hcell
  have HP := Lib.hid hp; clear hp h
  have hlen := hf.1
  have HF := Lib.hid hf.2; clear hf
  by_cases hlt : left - (xs.length : Int) < 0
  · go_enter Tryz.func64, Tryz.ntmps64
    go_wp2
    go_ret
    exact ⟨_, rfl, .inl (by omega), Below.refl _ _⟩
  obtain ⟨l0, hl⟩ : ∃ l : Int, left - (xs.length : Int) = l := ⟨_, rfl⟩
  go_enter Tryz.func64, Tryz.ntmps64
  go_wp2
  go_loopw [1, 5] (fun lv i wr => ∃ (k : Nat) (l : Int), k ≤ xs.length ∧ i = .int .i64 k ∧ lv = .int .i64 l ∧ 0 ≤ l ∧ l ≤ left ∧ Hid (∀ x ∈ xs.take k, fitEn 1048576 x) ∧ Below w.heap.size w wr) (fun _ i _ => xs.length - (intOf i).toNat)
  case atStart => exact ⟨0, left - (xs.length : Int), Nat.zero_le _, rfl, by first | rfl | go_num | (rw [hl]), by omega, by omega, Lib.hid (by simp), Below.refl _ _⟩
  case round =>
    obtain ⟨k, l, hk, rfl, rfl, hz0, hz1, HT, hb⟩ := hrel
    by_cases hlt2 : k < xs.length
    · obtain rfl := HP.out (by omega)
      obtain ⟨c, hC, hcl⟩ := HC.out k hlt2
      have hfx := HF.out xs[k] (List.getElem_mem hlt2)
      have HTk : Hid (xs.take (k + 1) = xs.take k ++ [xs[k]]) := Lib.hid (List.take_succ_eq_append_getElem hlt2)
      generalize xs[k] = x at *
      obtain ⟨v0, rfl, a0⟩ := hC
      obtain ⟨pv0, cv0, _, _, rfl, hcv0, _, _⟩ := a0.parts
      have d0 : _ = some (Value.int .i64 x.n) := cell_on hb (hcl 0 _ rfl)
      rw [show off + k * kEn.sz + 0 = off + k * 3 from rfl] at d0
      have d1 : _ = some (Value.slice pv0 x.fs.length cv0) := cell_on hb (hcl 1 _ rfl)
      rw [show off + k * kEn.sz + 1 = off + k * 3 + 1 from rfl] at d1
      have d2 : _ = some (Value.int .i64 x.u) := cell_on hb (hcl 2 _ rfl)
      rw [show off + k * kEn.sz + 2 = off + k * 3 + 2 from rfl] at d2
      have H := Lib.hid (szEn_any x _ l wr (a0.below hb) hfx hz0 (by omega))
      have HX := Lib.hid hb; clear hb hcl hfx a0
      go_wp2_with fail
      refine H.out.mono ?_
      rintro e w1 ⟨r, rfl, hr, b1⟩
      have HX1 := Lib.hid (HX.out.trans (b1.mono HX.out.size)); clear b1
      rcases hr with hr | ⟨hr0, hr1, hr2⟩
      · go_wp2
        go_ret
        exact ⟨_, rfl, .inl (by first | omega | decide), HX1.out⟩
      · have HR2 := Lib.hid hr2; clear hr2
        go_wp2
        go_roundw
        case rel => exact ⟨k + 1, r, by omega, by go_num, rfl, hr0, by omega, Lib.hid (by rw [HTk.out]; intro y hy; rcases List.mem_append.1 hy with hy | hy; exact HT.out y hy; rw [List.mem_singleton.1 hy]; exact HR2.out), HX1.out⟩
        case measure => simp [intOf]; omega
    · obtain rfl : k = xs.length := by omega
      have HX := Lib.hid hb; clear hb
      have HG : Hid (fitL fitEn 1048576 xs) := Lib.hid ⟨by omega, by have := HT.out; rwa [List.take_length] at this⟩
      go_wp2
      go_ret
      exact ⟨_, rfl, .inr ⟨by omega, by omega, HG.out⟩, HX.out⟩
set_option maxRecDepth 100000 in
set_option maxHeartbeats 4000000 in
theorem szEl_any (x : NEl) (v0 : Value) (left : Int) (w : World) (a0 : kEn.At 0 w v0 x.en) (hf : fitEl 9223372036854775807 x) (hl0 : 0 ≤ left) (hl1 : left ≤ 1048576) :
    Calls Tryz.prog 38 #[.agg #[.int .i64 x.ck, v0], .int .i64 left] w fun e w' => ∃ r : Int, e = .returned (.int .i64 r) ∧ (r < 0 ∨ (0 ≤ r ∧ r ≤ left ∧ fitEl 1048576 x)) ∧ Below w.heap.size w w' := by
  have f0 := hf
  obtain ⟨p0, c0, _, _, rfl, _, _, _⟩ := a0.parts
  have A0 := Lib.hid a0
  clear a0
  go_enter Tryz.func38, Tryz.ntmps38
  go_wp2_with fail
  refine (szLEn_any _ x.en left _ (A0.out.below (by go_grown)) f0 (by omega) (by omega)).mono ?_
  rintro e w1 ⟨r1, rfl, hr, b1⟩
  have B1 : Hid (Below w.heap.size w w1) := Lib.hid (Below.trans (by go_grown) (b1.mono (by simp <;> omega)))
  clear b1
  rcases hr with hr | ⟨hr0, hr1, hr2⟩
  · go_wp2
    go_ret
    exact ⟨_, rfl, .inl (by first | omega | decide), B1.out⟩
  have g0 := Lib.hid hr2
  clear hr2
  have h00 := hr0; have h01 := hr1; clear hr0 hr1
  go_wp2
  go_ret
  exact ⟨_, rfl, .inr ⟨by omega, by omega, g0.out⟩, B1.out⟩
set_option maxRecDepth 100000 in
set_option maxHeartbeats 4000000 in
theorem szLEl_any (v : Value) (xs : List NEl) (left : Int) (w : World) (h : kEl.At 0 w v xs) (hf : fitL fitEl 9223372036854775807 xs) (hl0 : 0 ≤ left) (hl1 : left ≤ 1048576) :
    Calls Tryz.prog 14 #[v, .int .i64 left] w fun e w' => ∃ r : Int, e = .returned (.int .i64 r) ∧ (r < 0 ∨ (0 ≤ r ∧ r ≤ left ∧ fitL fitEl 1048576 xs)) ∧ Below w.heap.size w w' := by
  obtain ⟨p, cap, b, off, rfl, hcap, hp, hcell⟩ := h.parts
  have HC := Lib.hid hcell; clear hcell
  have HP := Lib.hid hp; clear hp h
  have hlen := hf.1
  have HF := Lib.hid hf.2; clear hf
  by_cases hlt : left - (xs.length : Int) < 0
  · go_enter Tryz.func14, Tryz.ntmps14
    go_wp2
    go_ret
    exact ⟨_, rfl, .inl (by omega), Below.refl _ _⟩
  obtain ⟨l0, hl⟩ : ∃ l : Int, left - (xs.length : Int) = l := ⟨_, rfl⟩
  go_enter Tryz.func14, Tryz.ntmps14
  go_wp2
  go_loopw [1, 5] (fun lv i wr => ∃ (k : Nat) (l : Int), k ≤ xs.length ∧ i = .int .i64 k ∧ lv = .int .i64 l ∧ 0 ≤ l ∧ l ≤ left ∧ Hid (∀ x ∈ xs.take k, fitEl 1048576 x) ∧ Below w.heap.size w wr) (fun _ i _ => xs.length - (intOf i).toNat)
  case atStart => exact ⟨0, left - (xs.length : Int), Nat.zero_le _, rfl, by first | rfl | go_num | (rw [hl]), by omega, by omega, Lib.hid (by simp), Below.refl _ _⟩
  case round =>
    obtain ⟨k, l, hk, rfl, rfl, hz0, hz1, HT, hb⟩ := hrel
    by_cases hlt2 : k < xs.length
    · obtain rfl := HP.out (by omega)
      obtain ⟨c, hC, hcl⟩ := HC.out k hlt2
      have hfx := HF.out xs[k] (List.getElem_mem hlt2)
      have HTk : Hid (xs.take (k + 1) = xs.take k ++ [xs[k]]) := Lib.hid (List.take_succ_eq_append_getElem hlt2)
      generalize xs[k] = x at *
      obtain ⟨v0, rfl, a0⟩ := hC
      obtain ⟨pv0, cv0, _, _, rfl, hcv0, _, _⟩ := a0.parts
      have d0 : _ = some (Value.int .i64 x.ck) := cell_on hb (hcl 0 _ rfl)
      rw [show off + k * kEl.sz + 0 = off + k * 2 from rfl] at d0
      have d1 : _ = some (Value.slice pv0 x.en.length cv0) := cell_on hb (hcl 1 _ rfl)
      rw [show off + k * kEl.sz + 1 = off + k * 2 + 1 from rfl] at d1
      have H := Lib.hid (szEl_any x _ l wr (a0.below hb) hfx hz0 (by omega))
      have HX := Lib.hid hb; clear hb hcl hfx a0
      go_wp2_with fail
      refine H.out.mono ?_
      rintro e w1 ⟨r, rfl, hr, b1⟩
      have HX1 := Lib.hid (HX.out.trans (b1.mono HX.out.size)); clear b1
      rcases hr with hr | ⟨hr0, hr1, hr2⟩
      · go_wp2
        go_ret
        exact ⟨_, rfl, .inl (by first | omega | decide), HX1.out⟩
      · have HR2 := Lib.hid hr2; clear hr2
        go_wp2
        go_roundw
        case rel => exact ⟨k + 1, r, by omega, by go_num, rfl, hr0, by omega, Lib.hid (by rw [HTk.out]; intro y hy; rcases List.mem_append.1 hy with hy | hy; exact HT.out y hy; rw [List.mem_singleton.1 hy]; exact HR2.out), HX1.out⟩
        case measure => simp [intOf]; omega
    · obtain rfl : k = xs.length := by omega
      have HX := Lib.hid hb; clear hb
      have HG : Hid (fitL fitEl 1048576 xs) := Lib.hid ⟨by omega, by have := HT.out; rwa [List.take_length] at this⟩
      go_wp2
      go_ret
      exact ⟨_, rfl, .inr ⟨by omega, by omega, HG.out⟩, HX.out⟩
set_option maxRecDepth 100000 in
set_option maxHeartbeats 4000000 in
theorem szRw_any (x : NRw) (v0 : Value) (left : Int) (w : World) (a0 : kSl.At 0 w v0 x.sl) (hf : fitRw 9223372036854775807 x) (hl0 : 0 ≤ left) (hl1 : left ≤ 1048576) :
    Calls Tryz.prog 65 #[.agg #[.int .i64 x.nx, v0], .int .i64 left] w fun e w' => ∃ r : Int, e = .returned (.int .i64 r) ∧ (r < 0 ∨ (0 ≤ r ∧ r ≤ left ∧ fitRw 1048576 x)) ∧ Below w.heap.size w w' := by
  have f0 := hf
  obtain ⟨p0, c0, _, _, rfl, _, _, _⟩ := a0.parts
  have A0 := Lib.hid a0
  clear a0
  go_enter Tryz.func65, Tryz.ntmps65
  go_wp2_with fail
  refine (szLSl_any _ x.sl left _ (A0.out.below (by go_grown)) f0 (by omega) (by omega)).mono ?_
  rintro e w1 ⟨r1, rfl, hr, b1⟩
  have B1 : Hid (Below w.heap.size w w1) := Lib.hid (Below.trans (by go_grown) (b1.mono (by simp <;> omega)))
  clear b1
  rcases hr with hr | ⟨hr0, hr1, hr2⟩
  · go_wp2
    go_ret
    exact ⟨_, rfl, .inl (by first | omega | decide), B1.out⟩
  have g0 := Lib.hid hr2
  clear hr2
  have h00 := hr0; have h01 := hr1; clear hr0 hr1
  go_wp2
  go_ret
  exact ⟨_, rfl, .inr ⟨by omega, by omega, g0.out⟩, B1.out⟩
set_option maxRecDepth 100000 in
set_option maxHeartbeats 4000000 in
theorem szRc_any (x : NRc) (v0 v1 : Value) (left : Int) (w : World) (a0 : kSl.At 0 w v0 x.rw.sl) (a1 : kRq.At 0 w v1 x.rq) (hf : fitRc 9223372036854775807 x) (hl0 : 0 ≤ left) (hl1 : left ≤ 1048576) :
    Calls Tryz.prog 39 #[.agg #[.bool x.st, .int .i64 x.ck, .int .i64 x.rw.nx, v0, v1], .int .i64 left] w fun e w' => ∃ r : Int, e = .returned (.int .i64 r) ∧ (r < 0 ∨ (0 ≤ r ∧ r ≤ left ∧ fitRc 1048576 x)) ∧ Below w.heap.size w w' := by
  obtain ⟨f0, f1⟩ := hf
  obtain ⟨p0, c0, _, _, rfl, _, _, _⟩ := a0.parts
  obtain ⟨p1, c1, _, _, rfl, _, _, _⟩ := a1.parts
  have A0 := Lib.hid a0
  clear a0
  have A1 := Lib.hid a1
  clear a1
  go_enter Tryz.func39, Tryz.ntmps39
  go_wp2_with fail
  refine (szRw_any x.rw _ left _ (A0.out.below (by go_grown)) f0 (by omega) (by omega)).mono ?_
  rintro e w1 ⟨r1, rfl, hr, b1⟩
  have B1 : Hid (Below w.heap.size w w1) := Lib.hid (Below.trans (by go_grown) (b1.mono (by simp <;> omega)))
  have X1 : Hid (w1.heap[w.heap.size]? = some (.cells #[.bool x.st, .int .i64 x.ck, .int .i64 x.rw.nx, .slice p0 x.rw.sl.length c0, .slice p1 x.rq.length c1] 96 (0, 0))) := Lib.hid ((b1.block w.heap.size (by simp)).trans (heap_alloc_new _ _))
  clear b1
  have yh := X1.out; have y0 := cell_of_row w1 (w.heap.size) 0 _ _ _ yh; simp at y0; have yf0 := frozen_of_row w1 (w.heap.size) 0 _ _ yh; have y1 := cell_of_row w1 (w.heap.size) 1 _ _ _ yh; simp at y1; have yf1 := frozen_of_row w1 (w.heap.size) 1 _ _ yh; have y2 := cell_of_row w1 (w.heap.size) 2 _ _ _ yh; simp at y2; have yf2 := frozen_of_row w1 (w.heap.size) 2 _ _ yh; have y3 := cell_of_row w1 (w.heap.size) 3 _ _ _ yh; simp at y3; have yf3 := frozen_of_row w1 (w.heap.size) 3 _ _ yh; have y4 := cell_of_row w1 (w.heap.size) 4 _ _ _ yh; simp at y4; have yf4 := frozen_of_row w1 (w.heap.size) 4 _ _ yh; clear yh
  rcases hr with hr | ⟨hr0, hr1, hr2⟩
  · go_wp2
    go_ret
    exact ⟨_, rfl, .inl (by first | omega | decide), B1.out⟩
  have g0 := Lib.hid hr2
  clear hr2
  have h00 := hr0; have h01 := hr1; clear hr0 hr1
  go_wp2_with fail
  refine (szLRq_any _ x.rq r1 _ (A1.out.below B1.out) f1 (by omega) (by omega)).mono ?_
  rintro e w2 ⟨r2, rfl, hr, b2⟩
  have B2 : Hid (Below w.heap.size w w2) := Lib.hid (B1.out.trans (b2.mono B1.out.size))
  clear b2
  clear y0 yf0 y1 yf1 y2 yf2 y3 yf3 y4 yf4
  rcases hr with hr | ⟨hr0, hr1, hr2⟩
  · go_wp2
    go_ret
    exact ⟨_, rfl, .inl (by first | omega | decide), B2.out⟩
  have g1 := Lib.hid hr2
  clear hr2
  have h10 := hr0; have h11 := hr1; clear hr0 hr1
  go_wp2
  go_ret
  exact ⟨_, rfl, .inr ⟨by omega, by omega, ⟨g0.out, g1.out⟩⟩, B2.out⟩
set_option maxRecDepth 100000 in
set_option maxHeartbeats 4000000 in
theorem szLRc_any (v : Value) (xs : List NRc) (left : Int) (w : World) (h : kRc.At 0 w v xs) (hf : fitL fitRc 9223372036854775807 xs) (hl0 : 0 ≤ left) (hl1 : left ≤ 1048576) :
    Calls Tryz.prog 15 #[v, .int .i64 left] w fun e w' => ∃ r : Int, e = .returned (.int .i64 r) ∧ (r < 0 ∨ (0 ≤ r ∧ r ≤ left ∧ fitL fitRc 1048576 xs)) ∧ Below w.heap.size w w' := by
  obtain ⟨p, cap, b, off, rfl, hcap, hp, hcell⟩ := h.parts
  have HC := Lib.hid hcell; clear hcell
  have HP := Lib.hid hp; clear hp h
  have hlen := hf.1
  have HF := Lib.hid hf.2; clear hf
  by_cases hlt : left - (xs.length : Int) < 0
  · go_enter Tryz.func15, Tryz.ntmps15
    go_wp2
    go_ret
    exact ⟨_, rfl, .inl (by omega), Below.refl _ _⟩
  obtain ⟨l0, hl⟩ : ∃ l : Int, left - (xs.length : Int) = l := ⟨_, rfl⟩
  go_enter Tryz.func15, Tryz.ntmps15
  go_wp2
  go_loopw [1, 5] (fun lv i wr => ∃ (k : Nat) (l : Int), k ≤ xs.length ∧ i = .int .i64 k ∧ lv = .int .i64 l ∧ 0 ≤ l ∧ l ≤ left ∧ Hid (∀ x ∈ xs.take k, fitRc 1048576 x) ∧ Below w.heap.size w wr) (fun _ i _ => xs.length - (intOf i).toNat)
  case atStart => exact ⟨0, left - (xs.length : Int), Nat.zero_le _, rfl, by first | rfl | go_num | (rw [hl]), by omega, by omega, Lib.hid (by simp), Below.refl _ _⟩
  case round =>
    obtain ⟨k, l, hk, rfl, rfl, hz0, hz1, HT, hb⟩ := hrel
    by_cases hlt2 : k < xs.length
    · obtain rfl := HP.out (by omega)
      obtain ⟨c, hC, hcl⟩ := HC.out k hlt2
      have hfx := HF.out xs[k] (List.getElem_mem hlt2)
      have HTk : Hid (xs.take (k + 1) = xs.take k ++ [xs[k]]) := Lib.hid (List.take_succ_eq_append_getElem hlt2)
      generalize xs[k] = x at *
      obtain ⟨v0, v1, rfl, a0, a1⟩ := hC
      obtain ⟨pv0, cv0, _, _, rfl, hcv0, _, _⟩ := a0.parts
      obtain ⟨pv1, cv1, _, _, rfl, hcv1, _, _⟩ := a1.parts
      have d0 : _ = some (Value.bool x.st) := cell_on hb (hcl 0 _ rfl)
      rw [show off + k * kRc.sz + 0 = off + k * 5 from rfl] at d0
      have d1 : _ = some (Value.int .i64 x.ck) := cell_on hb (hcl 1 _ rfl)
      rw [show off + k * kRc.sz + 1 = off + k * 5 + 1 from rfl] at d1
      have d2 : _ = some (Value.int .i64 x.rw.nx) := cell_on hb (hcl 2 _ rfl)
      rw [show off + k * kRc.sz + 2 = off + k * 5 + 2 from rfl] at d2
      have d3 : _ = some (Value.slice pv0 x.rw.sl.length cv0) := cell_on hb (hcl 3 _ rfl)
      rw [show off + k * kRc.sz + 3 = off + k * 5 + 3 from rfl] at d3
      have d4 : _ = some (Value.slice pv1 x.rq.length cv1) := cell_on hb (hcl 4 _ rfl)
      rw [show off + k * kRc.sz + 4 = off + k * 5 + 4 from rfl] at d4
      have H := Lib.hid (szRc_any x _ _ l wr (a0.below hb) (a1.below hb) hfx hz0 (by omega))
      have HX := Lib.hid hb; clear hb hcl hfx a0 a1
      go_wp2_with fail
      refine H.out.mono ?_
      rintro e w1 ⟨r, rfl, hr, b1⟩
      have HX1 := Lib.hid (HX.out.trans (b1.mono HX.out.size)); clear b1
      rcases hr with hr | ⟨hr0, hr1, hr2⟩
      · go_wp2
        go_ret
        exact ⟨_, rfl, .inl (by first | omega | decide), HX1.out⟩
      · have HR2 := Lib.hid hr2; clear hr2
        go_wp2
        go_roundw
        case rel => exact ⟨k + 1, r, by omega, by go_num, rfl, hr0, by omega, Lib.hid (by rw [HTk.out]; intro y hy; rcases List.mem_append.1 hy with hy | hy; exact HT.out y hy; rw [List.mem_singleton.1 hy]; exact HR2.out), HX1.out⟩
        case measure => simp [intOf]; omega
    · obtain rfl : k = xs.length := by omega
      have HX := Lib.hid hb; clear hb
      have HG : Hid (fitL fitRc 1048576 xs) := Lib.hid ⟨by omega, by have := HT.out; rwa [List.take_length] at this⟩
      go_wp2
      go_ret
      exact ⟨_, rfl, .inr ⟨by omega, by omega, HG.out⟩, HX.out⟩
set_option maxRecDepth 100000 in
set_option maxHeartbeats 4000000 in
theorem szSw_any (x : NSw) (v0 : Value) (left : Int) (w : World) (a0 : kS.At 0 w v0 x.it) (hf : fitSw 9223372036854775807 x) (hl0 : 0 ≤ left) (hl1 : left ≤ 1048576) :
    Calls Tryz.prog 36 #[.agg #[.int .i64 x.tr, .int .i64 x.sz, v0], .int .i64 left] w fun e w' => ∃ r : Int, e = .returned (.int .i64 r) ∧ (r < 0 ∨ (0 ≤ r ∧ r ≤ left ∧ fitSw 1048576 x)) ∧ Below w.heap.size w w' := by
  have f0 := hf
  obtain ⟨p0, c0, _, _, rfl, _, _, _⟩ := a0.parts
  have A0 := Lib.hid a0
  clear a0
  go_enter Tryz.func36, Tryz.ntmps36
  go_wp2_with fail
  refine (szLS_any _ x.it left _ (A0.out.below (by go_grown)) f0 (by omega) (by omega)).mono ?_
  rintro e w1 ⟨r1, rfl, hr, b1⟩
  have B1 : Hid (Below w.heap.size w w1) := Lib.hid (Below.trans (by go_grown) (b1.mono (by simp <;> omega)))
  clear b1
  rcases hr with hr | ⟨hr0, hr1, hr2⟩
  · go_wp2
    go_ret
    exact ⟨_, rfl, .inl (by first | omega | decide), B1.out⟩
  have g0 := Lib.hid hr2
  clear hr2
  have h00 := hr0; have h01 := hr1; clear hr0 hr1
  go_wp2
  go_ret
  exact ⟨_, rfl, .inr ⟨by omega, by omega, g0.out⟩, B1.out⟩
set_option maxRecDepth 100000 in
set_option maxHeartbeats 4000000 in
theorem szSr_any (x : NSr) (v0 v1 : Value) (left : Int) (w : World) (a0 : kS.At 0 w v0 x.sw.it) (a1 : kHd.At 0 w v1 x.hs) (hf : fitSr 9223372036854775807 x) (hl0 : 0 ≤ left) (hl1 : left ≤ 1048576) :
    Calls Tryz.prog 13 #[.agg #[.int .i64 x.sw.tr, .int .i64 x.sw.sz, v0, .int .i64 x.ck, .int .i64 x.qt, v1], .int .i64 left] w fun e w' => ∃ r : Int, e = .returned (.int .i64 r) ∧ (r < 0 ∨ (0 ≤ r ∧ r ≤ left ∧ fitSr 1048576 x)) ∧ Below w.heap.size w w' := by
  obtain ⟨f0, f1⟩ := hf
  obtain ⟨p0, c0, _, _, rfl, _, _, _⟩ := a0.parts
  obtain ⟨p1, c1, _, _, rfl, _, _, _⟩ := a1.parts
  have A0 := Lib.hid a0
  clear a0
  have A1 := Lib.hid a1
  clear a1
  go_enter Tryz.func13, Tryz.ntmps13
  go_wp2_with fail
  refine (szSw_any x.sw _ left _ (A0.out.below (by go_grown)) f0 (by omega) (by omega)).mono ?_
  rintro e w1 ⟨r1, rfl, hr, b1⟩
  have B1 : Hid (Below w.heap.size w w1) := Lib.hid (Below.trans (by go_grown) (b1.mono (by simp <;> omega)))
  have X1 : Hid (w1.heap[w.heap.size]? = some (.cells #[.int .i64 x.sw.tr, .int .i64 x.sw.sz, .slice p0 x.sw.it.length c0, .int .i64 x.ck, .int .i64 x.qt, .slice p1 x.hs.length c1] 30 (0, 0))) := Lib.hid ((b1.block w.heap.size (by simp)).trans (heap_alloc_new _ _))
  clear b1
  have yh := X1.out; have y0 := cell_of_row w1 (w.heap.size) 0 _ _ _ yh; simp at y0; have yf0 := frozen_of_row w1 (w.heap.size) 0 _ _ yh; have y1 := cell_of_row w1 (w.heap.size) 1 _ _ _ yh; simp at y1; have yf1 := frozen_of_row w1 (w.heap.size) 1 _ _ yh; have y2 := cell_of_row w1 (w.heap.size) 2 _ _ _ yh; simp at y2; have yf2 := frozen_of_row w1 (w.heap.size) 2 _ _ yh; have y3 := cell_of_row w1 (w.heap.size) 3 _ _ _ yh; simp at y3; have yf3 := frozen_of_row w1 (w.heap.size) 3 _ _ yh; have y4 := cell_of_row w1 (w.heap.size) 4 _ _ _ yh; simp at y4; have yf4 := frozen_of_row w1 (w.heap.size) 4 _ _ yh; have y5 := cell_of_row w1 (w.heap.size) 5 _ _ _ yh; simp at y5; have yf5 := frozen_of_row w1 (w.heap.size) 5 _ _ yh; clear yh
  rcases hr with hr | ⟨hr0, hr1, hr2⟩
  · go_wp2
    go_ret
    exact ⟨_, rfl, .inl (by first | omega | decide), B1.out⟩
  have g0 := Lib.hid hr2
  clear hr2
  have h00 := hr0; have h01 := hr1; clear hr0 hr1
  go_wp2_with fail
  refine (szLHd_any _ x.hs r1 _ (A1.out.below B1.out) f1 (by omega) (by omega)).mono ?_
  rintro e w2 ⟨r2, rfl, hr, b2⟩
  have B2 : Hid (Below w.heap.size w w2) := Lib.hid (B1.out.trans (b2.mono B1.out.size))
  clear b2
  clear y0 yf0 y1 yf1 y2 yf2 y3 yf3 y4 yf4 y5 yf5
  rcases hr with hr | ⟨hr0, hr1, hr2⟩
  · go_wp2
    go_ret
    exact ⟨_, rfl, .inl (by first | omega | decide), B2.out⟩
  have g1 := Lib.hid hr2
  clear hr2
  have h10 := hr0; have h11 := hr1; clear hr0 hr1
  go_wp2
  go_ret
  exact ⟨_, rfl, .inr ⟨by omega, by omega, ⟨g0.out, g1.out⟩⟩, B2.out⟩
set_option maxRecDepth 100000 in
set_option maxHeartbeats 4000000 in
theorem szTr_any (x : NTr) (v0 : Value) (left : Int) (w : World) (a0 : kI.At 0 w v0 x.pa) (hf : fitTr 9223372036854775807 x) (hl0 : 0 ≤ left) (hl1 : left ≤ 1048576) :
    Calls Tryz.prog 12 #[.agg #[v0], .int .i64 left] w fun e w' => ∃ r : Int, e = .returned (.int .i64 r) ∧ (r < 0 ∨ (0 ≤ r ∧ r ≤ left ∧ fitTr 1048576 x)) ∧ Below w.heap.size w w' := by
  have f0 := hf
  obtain ⟨p0, c0, _, _, rfl, _, _, _⟩ := a0.parts
  have A0 := Lib.hid a0
  clear a0
  go_enter Tryz.func12, Tryz.ntmps12
  go_wp2_with fail
  refine (szLI_any _ x.pa left _ (A0.out.below (by go_grown)) f0 (by omega) (by omega)).mono ?_
  rintro e w1 ⟨r1, rfl, hr, b1⟩
  have B1 : Hid (Below w.heap.size w w1) := Lib.hid (Below.trans (by go_grown) (b1.mono (by simp <;> omega)))
  clear b1
  rcases hr with hr | ⟨hr0, hr1, hr2⟩
  · go_wp2
    go_ret
    exact ⟨_, rfl, .inl (by first | omega | decide), B1.out⟩
  have g0 := Lib.hid hr2
  clear hr2
  have h00 := hr0; have h01 := hr1; clear hr0 hr1
  go_wp2
  go_ret
  exact ⟨_, rfl, .inr ⟨by omega, by omega, g0.out⟩, B1.out⟩
set_option maxRecDepth 100000 in
set_option maxHeartbeats 4000000 in
theorem szNt_any (x : NNet) (v0 v1 v2 v3 v4 v5 v6 : Value) (left : Int) (w : World) (a0 : kI.At 0 w v0 x.tr.pa) (a1 : kS.At 0 w v1 x.sr.sw.it) (a2 : kHd.At 0 w v2 x.sr.hs) (a3 : kEl.At 0 w v3 x.el) (a4 : kRc.At 0 w v4 x.rc) (a5 : kPq.At 0 w v5 x.dn) (a6 : kPq.At 0 w v6 x.up) (hf : fitNt 9223372036854775807 x) (hl0 : 0 ≤ left) (hl1 : left ≤ 1048576) :
    Calls Tryz.prog 5 #[.agg #[v0, .int .i64 x.sr.sw.tr, .int .i64 x.sr.sw.sz, v1, .int .i64 x.sr.ck, .int .i64 x.sr.qt, v2, v3, v4, v5, v6], .int .i64 left] w fun e w' => ∃ r : Int, e = .returned (.int .i64 r) ∧ (r < 0 ∨ (0 ≤ r ∧ r ≤ left ∧ fitNt 1048576 x)) ∧ Below w.heap.size w w' := by
  obtain ⟨f0, f1, f2, f3, f4, f5⟩ := hf
  obtain ⟨p0, c0, _, _, rfl, _, _, _⟩ := a0.parts
  obtain ⟨p1, c1, _, _, rfl, _, _, _⟩ := a1.parts
  obtain ⟨p2, c2, _, _, rfl, _, _, _⟩ := a2.parts
  obtain ⟨p3, c3, _, _, rfl, _, _, _⟩ := a3.parts
  obtain ⟨p4, c4, _, _, rfl, _, _, _⟩ := a4.parts
  obtain ⟨p5, c5, _, _, rfl, _, _, _⟩ := a5.parts
  obtain ⟨p6, c6, _, _, rfl, _, _, _⟩ := a6.parts
  have A0 := Lib.hid a0
  clear a0
  have A1 := Lib.hid a1
  clear a1
  have A2 := Lib.hid a2
  clear a2
  have A3 := Lib.hid a3
  clear a3
  have A4 := Lib.hid a4
  clear a4
  have A5 := Lib.hid a5
  clear a5
  have A6 := Lib.hid a6
  clear a6
  go_enter Tryz.func5, Tryz.ntmps5
  go_wp2_with fail
  refine (szTr_any x.tr _ left _ (A0.out.below (by go_grown)) f0 (by omega) (by omega)).mono ?_
  rintro e w1 ⟨r1, rfl, hr, b1⟩
  have B1 : Hid (Below w.heap.size w w1) := Lib.hid (Below.trans (by go_grown) (b1.mono (by simp <;> omega)))
  have X1 : Hid (w1.heap[w.heap.size]? = some (.cells #[.slice p0 x.tr.pa.length c0, .int .i64 x.sr.sw.tr, .int .i64 x.sr.sw.sz, .slice p1 x.sr.sw.it.length c1, .int .i64 x.sr.ck, .int .i64 x.sr.qt, .slice p2 x.sr.hs.length c2, .slice p3 x.el.length c3, .slice p4 x.rc.length c4, .slice p5 x.dn.length c5, .slice p6 x.up.length c6] 35 (0, 0))) := Lib.hid ((b1.block w.heap.size (by simp)).trans (heap_alloc_new _ _))
  clear b1
  have yh := X1.out; have y0 := cell_of_row w1 (w.heap.size) 0 _ _ _ yh; simp at y0; have yf0 := frozen_of_row w1 (w.heap.size) 0 _ _ yh; have y1 := cell_of_row w1 (w.heap.size) 1 _ _ _ yh; simp at y1; have yf1 := frozen_of_row w1 (w.heap.size) 1 _ _ yh; have y2 := cell_of_row w1 (w.heap.size) 2 _ _ _ yh; simp at y2; have yf2 := frozen_of_row w1 (w.heap.size) 2 _ _ yh; have y3 := cell_of_row w1 (w.heap.size) 3 _ _ _ yh; simp at y3; have yf3 := frozen_of_row w1 (w.heap.size) 3 _ _ yh; have y4 := cell_of_row w1 (w.heap.size) 4 _ _ _ yh; simp at y4; have yf4 := frozen_of_row w1 (w.heap.size) 4 _ _ yh; have y5 := cell_of_row w1 (w.heap.size) 5 _ _ _ yh; simp at y5; have yf5 := frozen_of_row w1 (w.heap.size) 5 _ _ yh; have y6 := cell_of_row w1 (w.heap.size) 6 _ _ _ yh; simp at y6; have yf6 := frozen_of_row w1 (w.heap.size) 6 _ _ yh; have y7 := cell_of_row w1 (w.heap.size) 7 _ _ _ yh; simp at y7; have yf7 := frozen_of_row w1 (w.heap.size) 7 _ _ yh; have y8 := cell_of_row w1 (w.heap.size) 8 _ _ _ yh; simp at y8; have yf8 := frozen_of_row w1 (w.heap.size) 8 _ _ yh; have y9 := cell_of_row w1 (w.heap.size) 9 _ _ _ yh; simp at y9; have yf9 := frozen_of_row w1 (w.heap.size) 9 _ _ yh; have y10 := cell_of_row w1 (w.heap.size) 10 _ _ _ yh; simp at y10; have yf10 := frozen_of_row w1 (w.heap.size) 10 _ _ yh; clear yh
  rcases hr with hr | ⟨hr0, hr1, hr2⟩
  · go_wp2
    go_ret
    exact ⟨_, rfl, .inl (by first | omega | decide), B1.out⟩
  have g0 := Lib.hid hr2
  clear hr2
  have h00 := hr0; have h01 := hr1; clear hr0 hr1
  go_wp2_with fail
  refine (szSr_any x.sr _ _ r1 _ (A1.out.below B1.out) (A2.out.below B1.out) f1 (by omega) (by omega)).mono ?_
  rintro e w2 ⟨r2, rfl, hr, b2⟩
  have B2 : Hid (Below w.heap.size w w2) := Lib.hid (B1.out.trans (b2.mono B1.out.size))
  have X2 := Lib.hid ((b2.block w.heap.size (Array.getElem?_eq_some_iff.1 X1.out).1).trans X1.out)
  clear b2
  clear y0 yf0 y1 yf1 y2 yf2 y3 yf3 y4 yf4 y5 yf5 y6 yf6 y7 yf7 y8 yf8 y9 yf9 y10 yf10
  have yh := X2.out; have y0 := cell_of_row w2 (w.heap.size) 0 _ _ _ yh; simp at y0; have yf0 := frozen_of_row w2 (w.heap.size) 0 _ _ yh; have y1 := cell_of_row w2 (w.heap.size) 1 _ _ _ yh; simp at y1; have yf1 := frozen_of_row w2 (w.heap.size) 1 _ _ yh; have y2 := cell_of_row w2 (w.heap.size) 2 _ _ _ yh; simp at y2; have yf2 := frozen_of_row w2 (w.heap.size) 2 _ _ yh; have y3 := cell_of_row w2 (w.heap.size) 3 _ _ _ yh; simp at y3; have yf3 := frozen_of_row w2 (w.heap.size) 3 _ _ yh; have y4 := cell_of_row w2 (w.heap.size) 4 _ _ _ yh; simp at y4; have yf4 := frozen_of_row w2 (w.heap.size) 4 _ _ yh; have y5 := cell_of_row w2 (w.heap.size) 5 _ _ _ yh; simp at y5; have yf5 := frozen_of_row w2 (w.heap.size) 5 _ _ yh; have y6 := cell_of_row w2 (w.heap.size) 6 _ _ _ yh; simp at y6; have yf6 := frozen_of_row w2 (w.heap.size) 6 _ _ yh; have y7 := cell_of_row w2 (w.heap.size) 7 _ _ _ yh; simp at y7; have yf7 := frozen_of_row w2 (w.heap.size) 7 _ _ yh; have y8 := cell_of_row w2 (w.heap.size) 8 _ _ _ yh; simp at y8; have yf8 := frozen_of_row w2 (w.heap.size) 8 _ _ yh; have y9 := cell_of_row w2 (w.heap.size) 9 _ _ _ yh; simp at y9; have yf9 := frozen_of_row w2 (w.heap.size) 9 _ _ yh; have y10 := cell_of_row w2 (w.heap.size) 10 _ _ _ yh; simp at y10; have yf10 := frozen_of_row w2 (w.heap.size) 10 _ _ yh; clear yh
  rcases hr with hr | ⟨hr0, hr1, hr2⟩
  · go_wp2
    go_ret
    exact ⟨_, rfl, .inl (by first | omega | decide), B2.out⟩
  have g1 := Lib.hid hr2
  clear hr2
  have h10 := hr0; have h11 := hr1; clear hr0 hr1
  go_wp2_with fail
  refine (szLEl_any _ x.el r2 _ (A3.out.below B2.out) f2 (by omega) (by omega)).mono ?_
  rintro e w3 ⟨r3, rfl, hr, b3⟩
  have B3 : Hid (Below w.heap.size w w3) := Lib.hid (B2.out.trans (b3.mono B2.out.size))
  have X3 := Lib.hid ((b3.block w.heap.size (Array.getElem?_eq_some_iff.1 X2.out).1).trans X2.out)
  clear b3
  clear y0 yf0 y1 yf1 y2 yf2 y3 yf3 y4 yf4 y5 yf5 y6 yf6 y7 yf7 y8 yf8 y9 yf9 y10 yf10
  have yh := X3.out; have y0 := cell_of_row w3 (w.heap.size) 0 _ _ _ yh; simp at y0; have yf0 := frozen_of_row w3 (w.heap.size) 0 _ _ yh; have y1 := cell_of_row w3 (w.heap.size) 1 _ _ _ yh; simp at y1; have yf1 := frozen_of_row w3 (w.heap.size) 1 _ _ yh; have y2 := cell_of_row w3 (w.heap.size) 2 _ _ _ yh; simp at y2; have yf2 := frozen_of_row w3 (w.heap.size) 2 _ _ yh; have y3 := cell_of_row w3 (w.heap.size) 3 _ _ _ yh; simp at y3; have yf3 := frozen_of_row w3 (w.heap.size) 3 _ _ yh; have y4 := cell_of_row w3 (w.heap.size) 4 _ _ _ yh; simp at y4; have yf4 := frozen_of_row w3 (w.heap.size) 4 _ _ yh; have y5 := cell_of_row w3 (w.heap.size) 5 _ _ _ yh; simp at y5; have yf5 := frozen_of_row w3 (w.heap.size) 5 _ _ yh; have y6 := cell_of_row w3 (w.heap.size) 6 _ _ _ yh; simp at y6; have yf6 := frozen_of_row w3 (w.heap.size) 6 _ _ yh; have y7 := cell_of_row w3 (w.heap.size) 7 _ _ _ yh; simp at y7; have yf7 := frozen_of_row w3 (w.heap.size) 7 _ _ yh; have y8 := cell_of_row w3 (w.heap.size) 8 _ _ _ yh; simp at y8; have yf8 := frozen_of_row w3 (w.heap.size) 8 _ _ yh; have y9 := cell_of_row w3 (w.heap.size) 9 _ _ _ yh; simp at y9; have yf9 := frozen_of_row w3 (w.heap.size) 9 _ _ yh; have y10 := cell_of_row w3 (w.heap.size) 10 _ _ _ yh; simp at y10; have yf10 := frozen_of_row w3 (w.heap.size) 10 _ _ yh; clear yh
  rcases hr with hr | ⟨hr0, hr1, hr2⟩
  · go_wp2
    go_ret
    exact ⟨_, rfl, .inl (by first | omega | decide), B3.out⟩
  have g2 := Lib.hid hr2
  clear hr2
  have h20 := hr0; have h21 := hr1; clear hr0 hr1
  go_wp2_with fail
  refine (szLRc_any _ x.rc r3 _ (A4.out.below B3.out) f3 (by omega) (by omega)).mono ?_
  rintro e w4 ⟨r4, rfl, hr, b4⟩
  have B4 : Hid (Below w.heap.size w w4) := Lib.hid (B3.out.trans (b4.mono B3.out.size))
  have X4 := Lib.hid ((b4.block w.heap.size (Array.getElem?_eq_some_iff.1 X3.out).1).trans X3.out)
  clear b4
  clear y0 yf0 y1 yf1 y2 yf2 y3 yf3 y4 yf4 y5 yf5 y6 yf6 y7 yf7 y8 yf8 y9 yf9 y10 yf10
  have yh := X4.out; have y0 := cell_of_row w4 (w.heap.size) 0 _ _ _ yh; simp at y0; have yf0 := frozen_of_row w4 (w.heap.size) 0 _ _ yh; have y1 := cell_of_row w4 (w.heap.size) 1 _ _ _ yh; simp at y1; have yf1 := frozen_of_row w4 (w.heap.size) 1 _ _ yh; have y2 := cell_of_row w4 (w.heap.size) 2 _ _ _ yh; simp at y2; have yf2 := frozen_of_row w4 (w.heap.size) 2 _ _ yh; have y3 := cell_of_row w4 (w.heap.size) 3 _ _ _ yh; simp at y3; have yf3 := frozen_of_row w4 (w.heap.size) 3 _ _ yh; have y4 := cell_of_row w4 (w.heap.size) 4 _ _ _ yh; simp at y4; have yf4 := frozen_of_row w4 (w.heap.size) 4 _ _ yh; have y5 := cell_of_row w4 (w.heap.size) 5 _ _ _ yh; simp at y5; have yf5 := frozen_of_row w4 (w.heap.size) 5 _ _ yh; have y6 := cell_of_row w4 (w.heap.size) 6 _ _ _ yh; simp at y6; have yf6 := frozen_of_row w4 (w.heap.size) 6 _ _ yh; have y7 := cell_of_row w4 (w.heap.size) 7 _ _ _ yh; simp at y7; have yf7 := frozen_of_row w4 (w.heap.size) 7 _ _ yh; have y8 := cell_of_row w4 (w.heap.size) 8 _ _ _ yh; simp at y8; have yf8 := frozen_of_row w4 (w.heap.size) 8 _ _ yh; have y9 := cell_of_row w4 (w.heap.size) 9 _ _ _ yh; simp at y9; have yf9 := frozen_of_row w4 (w.heap.size) 9 _ _ yh; have y10 := cell_of_row w4 (w.heap.size) 10 _ _ _ yh; simp at y10; have yf10 := frozen_of_row w4 (w.heap.size) 10 _ _ yh; clear yh
  rcases hr with hr | ⟨hr0, hr1, hr2⟩
  · go_wp2
    go_ret
    exact ⟨_, rfl, .inl (by first | omega | decide), B4.out⟩
  have g3 := Lib.hid hr2
  clear hr2
  have h30 := hr0; have h31 := hr1; clear hr0 hr1
  go_wp2_with fail
  refine (szLPq_any _ x.dn r4 _ (A5.out.below B4.out) f4 (by omega) (by omega)).mono ?_
  rintro e w5 ⟨r5, rfl, hr, b5⟩
  have B5 : Hid (Below w.heap.size w w5) := Lib.hid (B4.out.trans (b5.mono B4.out.size))
  have X5 := Lib.hid ((b5.block w.heap.size (Array.getElem?_eq_some_iff.1 X4.out).1).trans X4.out)
  clear b5
  clear y0 yf0 y1 yf1 y2 yf2 y3 yf3 y4 yf4 y5 yf5 y6 yf6 y7 yf7 y8 yf8 y9 yf9 y10 yf10
  have yh := X5.out; have y0 := cell_of_row w5 (w.heap.size) 0 _ _ _ yh; simp at y0; have yf0 := frozen_of_row w5 (w.heap.size) 0 _ _ yh; have y1 := cell_of_row w5 (w.heap.size) 1 _ _ _ yh; simp at y1; have yf1 := frozen_of_row w5 (w.heap.size) 1 _ _ yh; have y2 := cell_of_row w5 (w.heap.size) 2 _ _ _ yh; simp at y2; have yf2 := frozen_of_row w5 (w.heap.size) 2 _ _ yh; have y3 := cell_of_row w5 (w.heap.size) 3 _ _ _ yh; simp at y3; have yf3 := frozen_of_row w5 (w.heap.size) 3 _ _ yh; have y4 := cell_of_row w5 (w.heap.size) 4 _ _ _ yh; simp at y4; have yf4 := frozen_of_row w5 (w.heap.size) 4 _ _ yh; have y5 := cell_of_row w5 (w.heap.size) 5 _ _ _ yh; simp at y5; have yf5 := frozen_of_row w5 (w.heap.size) 5 _ _ yh; have y6 := cell_of_row w5 (w.heap.size) 6 _ _ _ yh; simp at y6; have yf6 := frozen_of_row w5 (w.heap.size) 6 _ _ yh; have y7 := cell_of_row w5 (w.heap.size) 7 _ _ _ yh; simp at y7; have yf7 := frozen_of_row w5 (w.heap.size) 7 _ _ yh; have y8 := cell_of_row w5 (w.heap.size) 8 _ _ _ yh; simp at y8; have yf8 := frozen_of_row w5 (w.heap.size) 8 _ _ yh; have y9 := cell_of_row w5 (w.heap.size) 9 _ _ _ yh; simp at y9; have yf9 := frozen_of_row w5 (w.heap.size) 9 _ _ yh; have y10 := cell_of_row w5 (w.heap.size) 10 _ _ _ yh; simp at y10; have yf10 := frozen_of_row w5 (w.heap.size) 10 _ _ yh; clear yh
  rcases hr with hr | ⟨hr0, hr1, hr2⟩
  · go_wp2
    go_ret
    exact ⟨_, rfl, .inl (by first | omega | decide), B5.out⟩
  have g4 := Lib.hid hr2
  clear hr2
  have h40 := hr0; have h41 := hr1; clear hr0 hr1
  go_wp2_with fail
  refine (szLPq_any _ x.up r5 _ (A6.out.below B5.out) f5 (by omega) (by omega)).mono ?_
  rintro e w6 ⟨r6, rfl, hr, b6⟩
  have B6 : Hid (Below w.heap.size w w6) := Lib.hid (B5.out.trans (b6.mono B5.out.size))
  clear b6
  clear y0 yf0 y1 yf1 y2 yf2 y3 yf3 y4 yf4 y5 yf5 y6 yf6 y7 yf7 y8 yf8 y9 yf9 y10 yf10
  rcases hr with hr | ⟨hr0, hr1, hr2⟩
  · go_wp2
    go_ret
    exact ⟨_, rfl, .inl (by first | omega | decide), B6.out⟩
  have g5 := Lib.hid hr2
  clear hr2
  have h50 := hr0; have h51 := hr1; clear hr0 hr1
  go_wp2
  go_ret
  exact ⟨_, rfl, .inr ⟨by omega, by omega, ⟨g0.out, g1.out, g2.out, g3.out, g4.out, g5.out⟩⟩, B6.out⟩
end Go.Proofs.YtihpibdodlgpaaaGreatDoor
