/- The reader's choice among texts, and the text with a byte more, less, or another one. Condition: at most 2^40 reads. -/
import Derived.Test.YtgmccafmopgjaaaGreatDoorDrawKit
import Derived.Test.YtgmccafmopgjaaaGreatDoorStrS
import Derived.BigQuiet
namespace Go.Proofs.YtgmccafmopgjaaaGreatDoor
open Go.RowKit

/-- one of some texts -/
theorem of_any (B u : Nat) (v : Value) (xs : List ByteArray) (w : World) (h : Cur w B u) (hu : u ≤ 1000000000000) (hr : RdS w v xs) (h1 : 1 ≤ xs.length) (hne : v.ownBlock = none ∨ v.ownBlock ≠ some B) :
    Calls Tryz.prog 47 #[.pointer (some ⟨B, 0, none⟩), v] w fun e w' => ∃ x : ByteArray, x ∈ xs ∧ e = .returned (.string x) ∧ Cur w' B (u + 2) ∧ w.grownBy w' (some B) := by
  have hlen := hr.2.1
  have HR := Lib.hid hr
  obtain ⟨p, cap, b, off, rfl, hcap, hp, _⟩ := hr.parts
  obtain rfl := hp (by omega)
  clear hp hr
  have H := Lib.hid h; clear h
  have HN := Lib.hid hne; clear hne
  go_enter Tryz.func47, Tryz.ntmps47
  go_wp2_with fail
  refine (pick_any B u xs.length w H.out hu h1 (by omega)).mono ?_
  rintro e w1 ⟨k, hk, rfl, hc, hg⟩
  obtain ⟨p', cap', b', off', hv, _, hp', hcell⟩ := (RdS.grown HR.out hg HN.out).parts
  have hp' := hp' (by omega)
  simp only [Value.slice.injEq] at hv
  obtain ⟨rfl, _, rfl⟩ := hv
  simp only [Option.some.injEq, Addr.mk.injEq, and_true] at hp'
  obtain ⟨rfl, rfl⟩ := hp'
  have c1 := hcell k hk
  clear hcell
  go_wp2
  go_ret
  exact ⟨xs[k], List.getElem_mem hk, rfl, hc, hg⟩
theorem lit_rdS (w : World) (xs : List ByteArray) (N : Nat) (hN : xs.length = N) (hn : N ≤ 1073741824) (hok : ∀ x ∈ xs, x.size ≤ 9223372036854775807) :
    RdS (w.alloc (.cells (xs.map Value.string).toArray 9)) (.slice (some ⟨w.heap.size, 0, none⟩) N N) xs := by
  subst hN
  refine ⟨⟨by simp, some ⟨w.heap.size, 0, none⟩, xs.length, w.heap.size, 0, rfl, Nat.le_refl _, (by intro h; cases h), fun _ => ⟨rfl, fun j hj => ?_⟩⟩, hn, hok⟩
  rw [cell_of_row _ w.heap.size _ _ _ (0, 0) (heap_alloc_new w _)]
  simp
/-- one of some texts that were just laid -/
theorem of_lit (B u : Nat) (xs : List ByteArray) (N M : Nat) (w : World) {A : Array Value} {g : Nat} (h : Cur w B u) (hu : u ≤ 1000000000000) (hg : g = w.heap.size) (hA : A = (xs.map Value.string).toArray) (hN : xs.length = N) (h1 : 1 ≤ N) (hn : N ≤ 1073741824) (hM : ∀ x ∈ xs, x.size ≤ M) (hM1 : M ≤ 1000) :
    Calls Tryz.prog 47 #[.pointer (some ⟨B, 0, none⟩), .slice (some ⟨g, 0, none⟩) N N] (w.alloc (.cells A 9)) fun e w' => ∃ x : ByteArray, x.size ≤ M ∧ e = .returned (.string x) ∧ Cur w' B (u + 2) ∧ w.grownBy w' (some B) := by
  subst hA hg
  have hr := lit_rdS w xs N hN hn (fun x hx => Nat.le_trans (hM x hx) (by omega))
  have hlt := h.lt
  refine (of_any B u _ xs _ (h.below (below_alloc1 _ _)) hu hr (by omega) (.inr (by simp [Value.ownBlock]; omega))).mono ?_
  rintro e w' ⟨x, hx, rfl, hc, hg⟩
  exact ⟨x, hM x hx, rfl, hc, grown_trans (World.grownBy_alloc w _ _) hg⟩

def Ct8 (w : World) (B u N : Nat) (e : Ending) (w' : World) : Prop := ∃ x : ByteArray, x.size ≤ N ∧ e = .returned (.string x) ∧ Cur w' B u ∧ w.grownBy w' (some B)
set_option maxRecDepth 100000 in
set_option maxHeartbeats 4000000 in
theorem spoilt_any (B u : Nat) (t s : ByteArray) (w : World) (h : Cur w B u) (hu : u ≤ 1000000) (ht : t.size ≤ 1048576) (hs : s.size ≤ 100) (hs1 : 1 ≤ s.size) :
    Calls Tryz.prog 35 #[.pointer (some ⟨B, 0, none⟩), .string t, .string s] w (Ct8 w B (u + 6) (t.size + 1)) := by
  have H := Lib.hid h; clear h
  cases he : t.toList.isEmpty
  · have ht0 : 0 < t.size := by
      rw [ByteArray.toList_eq, List.isEmpty_eq_false_iff] at he
      have h1 : t.data.toList.length = t.size := Array.length_toList
      have := List.length_pos_iff.2 he
      omega
    go_enter Tryz.func35, Tryz.ntmps35
    go_wp2_with fail
    refine (pick_any B u t.size _ H.out (by omega) (by omega) (by omega)).mono ?_
    rintro e w1 ⟨i, hi, rfl, hc1, hg1⟩
    have HC := Lib.hid hc1; clear hc1
    have HG := Lib.hid hg1; clear hg1
    go_wp2_with fail
    refine (pick_any B _ s.size _ HC.out (by omega) (by omega) (by omega)).mono ?_
    rintro e w2 ⟨k, hk, rfl, hc2, hg2⟩
    have HC2 := Lib.hid hc2; clear hc2
    have HG2 := Lib.hid (grown_trans HG.out hg2); clear hg2 HG HC
    have hx1 : ((s.extract k s.size).extract 0 1).size = 1 := by simp; omega
    have hx2 : (s.extract k s.size).size = s.size - k := by simp
    go_wp2_with fail
    refine (pick_any B _ 3 _ HC2.out (by omega) (by omega) (by omega)).mono ?_
    rintro e w3 ⟨j, hj, rfl, hc3, hg3⟩
    have HC3 := Lib.hid hc3; clear hc3
    have HG3 := Lib.hid (grown_trans HG2.out hg3); clear hg3 HG2 HC2
    have e1 : (t.extract 0 i).size = i := by simp; omega
    have e2 : (t.extract i t.size).size = t.size - i := by simp
    have e3 : (t.extract (i + 1) t.size).size = t.size - (i + 1) := by simp
    generalize (s.extract k s.size).extract 0 1 = x at *
    have fin : ∀ y : ByteArray, y.size ≤ t.size + 1 → ∀ n, Ct8 w B (u + 6) (t.size + 1) (.returned (.string y)) (w3.drewN n) := fun y hy n => ⟨y, hy, rfl, HC3.out.below (below_eq ⟨n, rfl⟩), grown_trans HG3.out (grown_below (below_eq ⟨n, rfl⟩))⟩
    have FIN := Lib.hid fin; clear fin
    generalize hjj : (j : Int) = jj
    clear hjj
    by_cases q0 : jj = 0
    · subst q0
      go_wp2_with fail
      go_quiet (fail)
      go_wp2
      refine bodyPost_ret (v := (.string (t.extract 0 i ++ x ++ t.extract i t.size))) (by simp [results, Tryz.results35, go_sem, *]) rfl ?_
      exact FIN.out _ (by simp only [ByteArray.size_append]; omega) _
    · by_cases q1 : jj = 1
      · subst q1
        go_wp2_with fail
        go_quiet (fail)
        go_wp2
        refine bodyPost_ret (v := (.string (t.extract 0 i ++ x ++ t.extract (i + 1) t.size))) (by simp [results, Tryz.results35, go_sem, *]) rfl ?_
        exact FIN.out _ (by simp only [ByteArray.size_append]; omega) _
      · go_wp2_with fail
        go_quiet (fail)
        go_wp2
        refine bodyPost_ret (v := (.string (t.extract 0 i ++ t.extract (i + 1) t.size))) (by simp [results, Tryz.results35, go_sem, *]) rfl ?_
        exact FIN.out _ (by simp only [ByteArray.size_append]; omega) _
  · have hx1 : (s.extract 0 1).size = 1 := by simp; omega
    go_enter Tryz.func35, Tryz.ntmps35
    go_wp2
    go_ret
    exact ⟨_, by rw [hx1]; omega, rfl, H.out.mono (by omega), World.grownBy.refl _ _⟩
end Go.Proofs.YtgmccafmopgjaaaGreatDoor
