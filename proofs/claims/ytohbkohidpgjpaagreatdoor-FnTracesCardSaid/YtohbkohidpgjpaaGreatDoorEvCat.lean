/- Contracts: slices.Grow from nil and slices.Concat of two slices of events: the events of both, in new memory. Condition: at most 1000 events. -/
import Derived.Test.YtohbkohidpgjpaaGreatDoorEvS
import Derived.Test.YtohbkohidpgjpaaGreatDoorKeep
import Derived.Lib.AppendZeros
import Derived.Laws.AppendOwnNone
namespace Go.Proofs.YtohbkohidpgjpaaGreatDoor
open Go.RowKit

set_option maxRecDepth 100000 in
theorem grow_any (n : Nat) (w : World) (hn : n ≤ 1000) :
    Calls Tryz.prog 65 #[.slice none 0 0, .int .i64 n] w fun e w' => ∃ v, e = .returned v ∧ w'.ownsRow w.heap.size 25 4 v 0 [] ∧ Below w.heap.size w w' := by
  obtain ⟨i0, hi, hz0, hz1, hz2⟩ := info_parts infoEv
  by_cases h0 : 0 < n
  · have hr := fun ty => Lib.run_append_nil_zeros (P := Tryz.prog) w 32 3 ty 25 i0 _ .i64 .i64 Tryz.underlying32 Tryz.underlying3 hi hz0 n h0 (by rw [hz1]; omega) (by omega) (by rw [hz2]; omega)
    have hge := grownCap_ge w n 0 25
    have hle := grownCap_le_maxLen w n 0 25 (by unfold maxLen; omega)
    have hO : (w.drew.alloc (.cells (Builtin.zeroCells (Value.agg #[.int .i64 0, .int .i64 0, .int .i64 0, .int .i64 0]).cells n ++ Builtin.zeroCells (Value.agg #[.int .i64 0, .int .i64 0, .int .i64 0, .int .i64 0]).cells (grownCap w n 0 25 - n)) 25)).ownsRow w.heap.size 25 4 (.slice (some ⟨w.heap.size, 0, none⟩) 0 (grownCap w n 0 25)) 0 [] := by
      refine ⟨rfl, .inr ⟨w.heap.size, _, _, rfl, Nat.le_refl _, heap_alloc_new w.drew _, Nat.zero_le _, hle, ?_, rfl⟩⟩
      rw [Array.size_append, size_zeroCells, size_zeroCells]
      show n * 4 + _ * 4 = _
      omega
    have HO := Lib.hid hO; clear hO
    generalize hc : grownCap w n 0 25 = cap at *
    generalize ho : Obj.cells (Builtin.zeroCells (Value.agg #[.int .i64 0, .int .i64 0, .int .i64 0, .int .i64 0]).cells n ++ Builtin.zeroCells (Value.agg #[.int .i64 0, .int .i64 0, .int .i64 0, .int .i64 0]).cells (cap - n)) 25 = o at *
    clear hc ho
    have h0' : (0 : Int) < n := by omega
    go_enter Tryz.func65, Tryz.ntmps65
    go_wp2_with (at_builtin; refine Lib.wpList_append_run _ rfl _ _ _ _ rfl _ _ rfl rfl _ _ (hr _) ?_)
    go_wp2
    go_ret
    exact ⟨_, rfl, HO.out, ((Below.refl _ _).drew).alloc (Nat.le_refl _) _⟩
  · obtain rfl : n = 0 := by omega
    go_enter Tryz.func65, Tryz.ntmps65
    go_wp2
    go_ret
    exact ⟨_, rfl, World.ownsRow_nil _ _ _ _, Below.refl _ _⟩
set_option maxRecDepth 100000 in
set_option maxHeartbeats 4000000 in
theorem concat_any (v0 v1 : Value) (xs ys : List Ev) (b : Nat) (w : World) (h0 : RdEv w v0 xs) (h1 : RdEv w v1 ys) (c0 : w.cell? ⟨b, 0, none⟩ = some v0) (c1 : w.cell? ⟨b, 1, none⟩ = some v1) (hn : xs.length + ys.length ≤ 1000) :
    Calls Tryz.prog 40 #[.slice (some ⟨b, 0, none⟩) 2 2] w fun e w' => ∃ v, e = .returned v ∧ w'.ownsRow w.heap.size 25 4 v (xs.length + ys.length) ((xs ++ ys).flatMap Ev.cells) ∧ Below w.heap.size w w' := by
  have HS0 := Lib.hid h0.1.source
  have HS1 := Lib.hid h1.1.source
  have HL := Lib.hid (And.intro h0.1.1 h1.1.1)
  obtain ⟨p0, k0, _, _, rfl, _, _, _⟩ := h0.parts
  obtain ⟨p1, k1, _, _, rfl, _, _, _⟩ := h1.parts
  clear h0 h1
  obtain ⟨l0, hl0⟩ : ∃ l, xs.length = l := ⟨_, rfl⟩
  obtain ⟨l1, hl1⟩ : ∃ l, ys.length = l := ⟨_, rfl⟩
  rw [hl0] at HS0 c0 HL hn ⊢
  rw [hl1] at HS1 c1 HL hn ⊢
  clear hl0 hl1
  obtain ⟨N, hN⟩ : ∃ N, l0 + l1 = N := ⟨_, rfl⟩
  have hN2 : (l0 : Int) + l1 = N := by omega
  rw [hN] at hn ⊢
  obtain ⟨i0, hi, hz0, hz1, hz2⟩ := info_parts infoEv
  go_enter Tryz.func40, Tryz.ntmps40
  go_wp2
  go_loop [3, 5, 11] (fun sz _ i => (i = .int .i64 0 ∧ sz = .int .i64 0) ∨ (i = .int .i64 1 ∧ sz = .int .i64 l0) ∨ (i = .int .i64 2 ∧ sz = .int .i64 N)) (fun _ _ i => 2 - (intOf i).toNat)
  case atStart => exact .inl ⟨rfl, rfl⟩
  case round =>
    rcases hrel with ⟨rfl, rfl⟩ | ⟨rfl, rfl⟩ | ⟨rfl, rfl⟩
    · go_wp2
      go_round
      case rel => exact .inr (.inl ⟨rfl, by go_num⟩)
      case measure => simp [intOf]
    · go_wp2
      go_round
      case rel => exact .inr (.inr ⟨rfl, by go_num⟩)
      case measure => simp [intOf]
    · go_wp2_with fail
      refine (grow_any N w (by omega)).mono ?_
      rintro e w1 ⟨v, rfl, hO, hB⟩
      have HO := Lib.hid hO; clear hO
      have HB := Lib.hid hB; clear hB
      go_wp2
      go_loopw [6, 8, 27] (fun v _ i wr => ((i = .int .i64 0 ∧ Hid (wr.ownsRow w.heap.size 25 4 v 0 [])) ∨ (i = .int .i64 1 ∧ Hid (wr.ownsRow w.heap.size 25 4 v l0 (xs.flatMap Ev.cells))) ∨ (i = .int .i64 2 ∧ Hid (wr.ownsRow w.heap.size 25 4 v N ((xs ++ ys).flatMap Ev.cells)))) ∧ Hid (Below w.heap.size w wr)) (fun _ _ i _ => 2 - (intOf i).toNat)
      case atStart => exact ⟨.inl ⟨rfl, HO⟩, HB⟩
      case round =>
        clear HO HB
        obtain ⟨hrel, HB⟩ := hrel
        have hzb := HB.out.size
        rcases hrel with ⟨rfl, HO⟩ | ⟨rfl, HO⟩ | ⟨rfl, HO⟩
        · have d0 := cell_on HB.out c0
          rcases HS0.out with ⟨hv, hz, hnil⟩ | ⟨a, cap, hv, hcap, hcells⟩
          · have HE : Hid (wr.ownsRow w.heap.size 25 4 u6 l0 (xs.flatMap Ev.cells)) := Lib.hid (by rw [hz, hnil]; exact HO.out)
            rw [hv] at d0
            clear hv hz hnil
            go_wp2_with (at_builtin; refine wpList_append_own_none rfl _ _ 32 rfl w.heap.size 25 i0 4 Tryz.underlying32 hi _ _ _ rfl HO.out rfl ?_)
            go_wp2
            go_roundw
            case rel => exact ⟨.inr (.inl ⟨rfl, HE⟩), HB⟩
            case measure => simp [intOf]
          · rw [hv] at d0
            have HC := Lib.hid (cells_kept HB.out hcells); clear hv hcells
            go_wp2_with (at_builtin; refine wpList_append_own _ rfl _ _ 32 rfl w.heap.size 25 i0 _ 4 32 Tryz.underlying32 hi hz0 hz1 hz2 rfl (by decide) _ 0 [] rfl HO.out a l0 cap (xs.flatMap Ev.cells) rfl HL.out.1 HC.out (by intro u hu; obtain ⟨x, _, h⟩ := List.mem_flatMap.1 hu; simp at h; rcases h with rfl | rfl | rfl | rfl <;> rfl) ?c3 ?c4 hzb ?_)
            case c3 => unfold maxLen; omega
            case c4 => omega
            intro v' w2 hown hgrow _
            have HE := Lib.hid hown; clear hown
            have HB2 := Lib.hid (HB.out.grown hgrow hzb (fun j hj => (HO.out.lt j hj).1)); clear hgrow
            go_wp2
            go_roundw
            case rel => exact ⟨.inr (.inl ⟨rfl, Lib.hid (by simpa using HE.out)⟩), HB2⟩
            case measure => simp [intOf]
        · have d0 := cell_on HB.out c1
          rcases HS1.out with ⟨hv, hz, hnil⟩ | ⟨a, cap, hv, hcap, hcells⟩
          · have HE : Hid (wr.ownsRow w.heap.size 25 4 u6 N ((xs ++ ys).flatMap Ev.cells)) := Lib.hid (by rw [List.flatMap_append, hnil, List.append_nil, ← hN, hz]; exact HO.out)
            rw [hv] at d0
            clear hv hz hnil
            go_wp2_with (at_builtin; refine wpList_append_own_none rfl _ _ 32 rfl w.heap.size 25 i0 4 Tryz.underlying32 hi _ _ _ rfl HO.out rfl ?_)
            go_wp2
            go_roundw
            case rel => exact ⟨.inr (.inr ⟨rfl, HE⟩), HB⟩
            case measure => simp [intOf]
          · rw [hv] at d0
            have HC := Lib.hid (cells_kept HB.out hcells); clear hv hcells
            go_wp2_with (at_builtin; refine wpList_append_own _ rfl _ _ 32 rfl w.heap.size 25 i0 _ 4 32 Tryz.underlying32 hi hz0 hz1 hz2 rfl (by decide) _ l0 _ rfl HO.out a l1 cap (ys.flatMap Ev.cells) rfl HL.out.2 HC.out (by intro u hu; obtain ⟨x, _, h⟩ := List.mem_flatMap.1 hu; simp at h; rcases h with rfl | rfl | rfl | rfl <;> rfl) ?c3 ?c4 hzb ?_)
            case c3 => unfold maxLen; omega
            case c4 => omega
            intro v' w2 hown hgrow _
            have HE := Lib.hid hown; clear hown
            have HB2 := Lib.hid (HB.out.grown hgrow hzb (fun j hj => (HO.out.lt j hj).1)); clear hgrow
            go_wp2
            go_roundw
            case rel => exact ⟨.inr (.inr ⟨rfl, Lib.hid (by rw [List.flatMap_append]; exact HE.out)⟩), HB2⟩
            case measure => simp [intOf]
        · go_wp2
          go_ret
          exact ⟨_, rfl, HO.out, HB.out⟩
end Go.Proofs.YtohbkohidpgjpaaGreatDoor
