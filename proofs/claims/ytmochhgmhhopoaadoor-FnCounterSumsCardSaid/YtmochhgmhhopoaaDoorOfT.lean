/- The reader's choice among texts, and the text with a byte more, less, or another one. Condition: at most 2^40 reads. -/
import Derived.Test.YtmochhgmhhopoaaDoorDrawKit
import Derived.Test.YtmochhgmhhopoaaDoorStrS
namespace Go.Proofs.YtmochhgmhhopoaaDoor
open Go.RowKit

/-- one of some texts -/
theorem of_any (B u : Nat) (v : Value) (xs : List ByteArray) (w : World) (h : Cur w B u) (hu : u ≤ 1000000000000) (hr : RdS w v xs) (h1 : 1 ≤ xs.length) (hne : v.ownBlock = none ∨ v.ownBlock ≠ some B) :
    Calls Tryd.prog 104 #[.pointer (some ⟨B, 0, none⟩), v] w fun e w' => ∃ x : ByteArray, x ∈ xs ∧ e = .returned (.string x) ∧ Cur w' B (u + 2) ∧ w.grownBy w' (some B) := by
  have hlen := hr.2.1
  have HR := Lib.hid hr
  obtain ⟨p, cap, b, off, rfl, hcap, hp, _⟩ := hr.parts
  obtain rfl := hp (by omega)
  clear hp hr
  have H := Lib.hid h; clear h
  have HN := Lib.hid hne; clear hne
  go_enter Tryd.func104, Tryd.ntmps104
  go_wp2_with fail
  refine (pick_any B u xs.length w H.out hu h1 (by omega)).mono ?_
  rintro e w1 ⟨k, hk, rfl, hc, hg⟩
  obtain ⟨p', cap', b', off', hv, _, hp', hcell⟩ := (RdS.grown HR.out hg HN.out).parts
  have hp' := hp' (by omega)
  simp only [Value.slice.injEq] at hv
  obtain ⟨rfl, _, rfl⟩ := hv
  simp only [Option.some.injEq, Addr.mk.injEq, and_true] at hp'
  obtain ⟨rfl, rfl⟩ := hp'
  have c1 := hcell k hk
  clear hcell
  go_wp2
  go_ret
  exact ⟨xs[k], List.getElem_mem hk, rfl, hc, hg⟩
theorem lit_rdS (w : World) (xs : List ByteArray) (N : Nat) (hN : xs.length = N) (hn : N ≤ 1073741824) (hok : ∀ x ∈ xs, x.size ≤ 9223372036854775807) :
    RdS (w.alloc (.cells (xs.map Value.string).toArray 9)) (.slice (some ⟨w.heap.size, 0, none⟩) N N) xs := by
  subst hN
  refine ⟨⟨by simp, some ⟨w.heap.size, 0, none⟩, xs.length, w.heap.size, 0, rfl, Nat.le_refl _, (by intro h; cases h), fun _ => ⟨rfl, fun j hj => ?_⟩⟩, hn, hok⟩
  rw [cell_of_row _ w.heap.size _ _ _ (0, 0) (heap_alloc_new w _)]
  simp
/-- one of some texts that were just laid -/
theorem of_lit (B u : Nat) (xs : List ByteArray) (N M : Nat) (w : World) {A : Array Value} {g : Nat} (h : Cur w B u) (hu : u ≤ 1000000000000) (hg : g = w.heap.size) (hA : A = (xs.map Value.string).toArray) (hN : xs.length = N) (h1 : 1 ≤ N) (hn : N ≤ 1073741824) (hM : ∀ x ∈ xs, x.size ≤ M) (hM1 : M ≤ 1000) :
    Calls Tryd.prog 104 #[.pointer (some ⟨B, 0, none⟩), .slice (some ⟨g, 0, none⟩) N N] (w.alloc (.cells A 9)) fun e w' => ∃ x : ByteArray, x.size ≤ M ∧ e = .returned (.string x) ∧ Cur w' B (u + 2) ∧ w.grownBy w' (some B) := by
  subst hA hg
  have hr := lit_rdS w xs N hN hn (fun x hx => Nat.le_trans (hM x hx) (by omega))
  have hlt := h.lt
  refine (of_any B u _ xs _ (h.below (below_alloc1 _ _)) hu hr (by omega) (.inr (by simp [Value.ownBlock]; omega))).mono ?_
  rintro e w' ⟨x, hx, rfl, hc, hg⟩
  exact ⟨x, hM x hx, rfl, hc, grown_trans (World.grownBy_alloc w _ _) hg⟩

end Go.Proofs.YtmochhgmhhopoaaDoor
