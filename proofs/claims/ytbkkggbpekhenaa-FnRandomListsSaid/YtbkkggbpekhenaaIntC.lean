/- Contracts of copies of slices of integers (slices.Clone, the reference's l1Own). Condition: at most 2^30 elements. -/
import Derived.Test.YtbkkggbpekhenaaIntS
import Derived.Lib.LazyBuf
import Derived.Laws.AppendOwnNone
namespace Go.Proofs.Ytbkkggbpekhenaa
open Go.RowKit

theorem ints_one (xs : List Int) : ∀ u ∈ xs.map (Value.int .i64), u.oneCell' = true := by
  intro u hu; obtain ⟨n, _, rfl⟩ := List.mem_map.1 hu; rfl
set_option maxHeartbeats 1000000 in
/-- A copy in new memory (nil stays nil). -/
theorem cloneInt (v : Value) (n : Nat) (cs : List Value) (w : World) (h : Rd w v 1 n cs) (hn : n ≤ 1073741824) (hone : ∀ u ∈ cs, u.oneCell' = true) :
    Calls Try.prog 36 #[v] w fun e w' => ∃ v', e = .returned v' ∧ w'.ownsRow w.heap.size 3 1 v' n cs ∧ Below w.heap.size w w' := by
  rcases h.source with ⟨rfl, rfl, rfl⟩ | ⟨a, cap, rfl, hcap, hcells⟩
  · have hnil := Go.run_eql_slice_nil (P := Try.prog) w 22 3 none 0 0 Try.underlying22
    go_enter Try.func36, Try.ntmps36
    go_wp2
    go_ret
    exact ⟨_, rfl, World.ownsRow_nil _ _ _ _, Below.refl _ _⟩
  · have hnil := Go.run_eql_slice_nil (P := Try.prog) w 22 3 (some a) n cap Try.underlying22
    have HC := Lib.hid (cells_kept (below_alloc1 w (.cells #[] 3)) hcells); clear hcells
    have hl := h.1
    have HL := Lib.hid hl; clear hl
    have hO := World.ownsRow_lit (e := 3) (size := 1) w #[] 0 (Nat.le_refl _) (Nat.zero_le _) rfl
    obtain ⟨i0, hi, hz0, hz1, hz2⟩ := info_parts infoInt
    go_enter Try.func36, Try.ntmps36
    go_wp2_with (at_builtin; refine wpList_append_own _ rfl _ _ 22 rfl w.heap.size 3 i0 (.int .i64 0) 1 8 Try.underlying22 hi hz0 hz1 hz2 rfl (by decide) _ 0 [] rfl hO a n cap cs rfl HL.out HC.out hone ?c3 ?c4 ?c5 ?_)
    case c3 => unfold maxLen; omega
    case c4 => omega
    intro v' w1 hown' hgrow _
    go_wp2
    go_ret
    refine ⟨v', rfl, by simpa using hown', (below_alloc1 _ _).grown hgrow (by simp) (fun j hj => (hO.lt j hj).1)⟩
theorem cloneInt_any (v : Value) (xs : List Int) (w : World) (h : RdI w v xs) :
    Calls Try.prog 36 #[v] w fun e w' => ∃ v', e = .returned v' ∧ OwI w.heap.size w' v' xs ∧ Below w.heap.size w w' :=
  (cloneInt v _ _ w h.1 h.2 (ints_one xs)).mono fun _ _ ⟨v', he, ho, hb⟩ => ⟨v', he, ⟨ho, h.2⟩, hb⟩
set_option maxHeartbeats 1000000 in
theorem l1Own_any (v : Value) (xs : List Int) (w : World) (h : RdI w v xs) :
    Calls Try.prog 38 #[v] w fun e w' => ∃ v', e = .returned v' ∧ OwI w.heap.size w' v' xs ∧ Below w.heap.size w w' := by
  have hn := h.2
  have hO := World.ownsRow_lit (e := 3) (size := 1) w #[] 0 (Nat.le_refl _) (Nat.zero_le _) rfl
  obtain ⟨i0, hi, hz0, hz1, hz2⟩ := info_parts infoInt
  rcases h.1.source with ⟨rfl, hx, _⟩ | ⟨a, cap, rfl, hcap, hcells⟩
  · obtain rfl : xs = [] := List.length_eq_zero_iff.1 hx
    go_enter Try.func38, Try.ntmps38
    go_wp2
    go_ret
    exact ⟨_, rfl, ⟨hO, by simp⟩, below_alloc1 _ _⟩
  · have HC := Lib.hid (cells_kept (below_alloc1 w (.cells #[] 3)) hcells); clear hcells
    go_enter Try.func38, Try.ntmps38
    go_wp2_with (at_builtin; refine wpList_append_own _ rfl _ _ 22 rfl w.heap.size 3 i0 (.int .i64 0) 1 8 Try.underlying22 hi hz0 hz1 hz2 rfl (by decide) _ 0 [] rfl hO a xs.length cap (xs.map (Value.int .i64)) rfl (by simp) HC.out (ints_one xs) ?c3 ?c4 ?c5 ?_)
    case c3 => unfold maxLen; omega
    case c4 => omega
    intro v' w1 hown' hgrow _
    go_wp2
    go_ret
    refine ⟨v', rfl, ⟨by simpa using hown', hn⟩, (below_alloc1 _ _).grown hgrow (by simp) (fun j hj => (hO.lt j hj).1)⟩
end Go.Proofs.Ytbkkggbpekhenaa
