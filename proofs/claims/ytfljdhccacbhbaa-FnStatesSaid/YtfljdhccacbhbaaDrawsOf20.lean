/- Contracts of the reference's drawings for the generator's laws: each answers SOME numbers (nothing more is needed: the laws hold for all), reading at most 65536 bytes. -/
import Derived.Test.YtfljdhccacbhbaaCur
import Derived.Test.YtfljdhccacbhbaaDraw2
namespace Go.Proofs.Ytfljdhccacbhbaa
open Go.RowKit

def LitL : List Int := [1, 2, 16807, 1000000, 2147483646, 0, 2147483647, -1]
set_option maxHeartbeats 4000000 in
theorem state20_any (B u : Nat) (w : World) (h : Cur w B u) (hu : u ≤ 1000000) :
    Calls Try.prog 60 #[.pointer (some ⟨B, 0, none⟩)] w (Ci w B (u + 8) (fun _ => True)) := by
  have hlt := h.lt
  have H := Lib.hid h; clear h
  go_enter Try.func60, Try.ntmps60
  go_wp2_with fail
  refine (pick_any B u 60 _ (H.out.below (below_alloc1 _ _)) (by omega) (by omega) (by omega)).mono ?_
  rintro e w1 ⟨k, hk, rfl, hc, hg⟩
  have HR := Lib.hid ((lit_rd w LitL 8 rfl (5 + k / 29) (by omega) (by omega)).grown hg (.inr (by simp [Value.ownBlock]; omega)))
  have hg1 := cur_old H.out hg
  clear hg
  go_wp2_with fail
  refine (among_any B (u + 2) _ (LitL.take (5 + k / 29)) _ hc (by omega) HR.out (by simp [LitL]; omega) (.inr (by simp [Value.ownBlock]; omega))).mono ?_
  rintro e w2 ⟨x, hx, rfl, hc2, hg2⟩
  have hxb : -1 ≤ x ∧ x ≤ 2147483647 := by
    have h1 := List.mem_of_mem_take hx
    simp [LitL] at h1
    omega
  clear hx
  obtain ⟨xb1, xb2⟩ := hxb
  have hg12 := grown_trans hg1 hg2
  clear hg1 hg2 hc
  go_wp2_with fail
  refine (one_any B (u + 4) 2 _ hc2 (by omega) (by omega) (by omega)).mono ?_
  rintro e w3 ⟨b, rfl, hc3, hg3⟩
  have hg13 := grown_trans hg12 hg3
  clear hg12 hg3 hc2
  cases b
  · go_wp2_with fail
    go_ret
    exact ⟨x, trivial, rfl, hc3.mono (by omega), hg13⟩
  · by_cases h1 : 0 < x
    · by_cases h2 : x < 2147483647
      · go_wp2_with fail
        refine (pick_any B (u + 6) 1000 _ hc3 (by omega) (by omega) (by omega)).mono ?_
        rintro e w4 ⟨m, hm, rfl, hc4, hg4⟩
        go_wp2
        go_ret
        exact ⟨_, trivial, rfl, hc4.mono (by omega), grown_trans hg13 hg4⟩
      · go_wp2_with fail
        go_ret
        exact ⟨x, trivial, rfl, hc3.mono (by omega), hg13⟩
    · go_wp2_with fail
      go_ret
      exact ⟨x, trivial, rfl, hc3.mono (by omega), hg13⟩

def LitB : List Int := [1, 2, 6, 100, 1000000, 0, 1000001]
set_option maxHeartbeats 4000000 in
theorem below20_any (B u : Nat) (w : World) (h : Cur w B u) (hu : u ≤ 1000000) :
    Calls Try.prog 63 #[.pointer (some ⟨B, 0, none⟩)] w (Ci w B (u + 8) (fun _ => True)) := by
  have hlt := h.lt
  have H := Lib.hid h; clear h
  go_enter Try.func63, Try.ntmps63
  go_wp2_with fail
  refine (pick_any B u 24 _ (H.out.below (below_alloc1 _ _)) (by omega) (by omega) (by omega)).mono ?_
  rintro e w1 ⟨k, hk, rfl, hc, hg⟩
  have HR := Lib.hid ((lit_rd w LitB 7 rfl (5 + k / 11) (by omega) (by omega)).grown hg (.inr (by simp [Value.ownBlock]; omega)))
  have hg1 := cur_old H.out hg
  clear hg
  go_wp2_with fail
  refine (among_any B (u + 2) _ (LitB.take (5 + k / 11)) _ hc (by omega) HR.out (by simp [LitB]; omega) (.inr (by simp [Value.ownBlock]; omega))).mono ?_
  rintro e w2 ⟨x, hx, rfl, hc2, hg2⟩
  go_wp2
  go_ret
  exact ⟨x, trivial, rfl, hc2.mono (by omega), grown_trans hg1 hg2⟩

set_option maxHeartbeats 4000000 in
theorem drawNext_any (v : Value) (bs : List Int) (w : World) (h : RdY w v bs) :
    Calls Try.prog 35 #[v] w (SomeI w) := by
  obtain ⟨p, cap, b, off, rfl, _, _, _⟩ := h.parts
  have HC := Lib.hid (cur_new w _ bs h); clear h
  go_enter Try.func35, Try.ntmps35
  go_wp2_with fail
  refine (state20_any w.heap.size 0 _ HC.out (by omega)).mono ?_
  rintro e w1 ⟨x, _, rfl, hc, hg⟩
  go_wp2
  go_ret
  exact ⟨x, rfl, new_grown hg⟩

def LitN : List Int := [0, 1, 2, 10, 2147483646, 1000000000000, -1, 1000000000001]
set_option maxHeartbeats 4000000 in
theorem drawSkip_any (v : Value) (bs : List Int) (w : World) (h : RdY w v bs) :
    Calls Try.prog 36 #[v] w (SomeII w) := by
  obtain ⟨p, cap, b, off, rfl, _, _, _⟩ := h.parts
  have HC := Lib.hid (cur_new w _ bs h); clear h
  go_enter Try.func36, Try.ntmps36
  go_wp2_with fail
  refine (state20_any w.heap.size 0 _ HC.out (by omega)).mono ?_
  rintro e w1 ⟨x, _, rfl, hc, hg⟩
  have hg1 := new_grown hg
  have hs1 := hg.size
  simp at hs1
  clear hg
  go_wp2_with fail
  refine (pick_any w.heap.size 8 24 _ (hc.below (below_alloc1 _ _)) (by omega) (by omega) (by omega)).mono ?_
  rintro e w2 ⟨k, hk, rfl, hc2, hg2⟩
  have HR := Lib.hid ((lit_rd w1 LitN 8 rfl (6 + k / 11) (by omega) (by omega)).grown hg2 (.inr (by simp [Value.ownBlock]; omega)))
  have hg3 := below_of_grown hg1 (cur_old hc hg2) (Nat.le_refl _)
  clear hg2 hg1 hc
  go_wp2_with fail
  refine (among_any w.heap.size 10 _ (LitN.take (6 + k / 11)) _ hc2 (by omega) HR.out (by simp [LitN]; omega) (.inr (by simp [Value.ownBlock]; omega))).mono ?_
  rintro e w3 ⟨y, hy, rfl, hc3, hg4⟩
  go_wp2
  go_ret2
  exact ⟨x, y, rfl, below_of_grown hg3 hg4 (Nat.le_refl _)⟩

set_option maxHeartbeats 4000000 in
theorem drawRoll_any (v : Value) (bs : List Int) (w : World) (h : RdY w v bs) :
    Calls Try.prog 37 #[v] w (SomeII w) := by
  obtain ⟨p, cap, b, off, rfl, _, _, _⟩ := h.parts
  have HC := Lib.hid (cur_new w _ bs h); clear h
  go_enter Try.func37, Try.ntmps37
  go_wp2_with fail
  refine (state20_any w.heap.size 0 _ HC.out (by omega)).mono ?_
  rintro e w1 ⟨x, _, rfl, hc, hg⟩
  have hg1 := new_grown hg
  clear hg
  go_wp2_with fail
  refine (below20_any w.heap.size 8 _ hc (by omega)).mono ?_
  rintro e w2 ⟨y, _, rfl, hc2, hg2⟩
  go_wp2
  go_ret2
  exact ⟨x, y, rfl, below_of_grown hg1 hg2 (Nat.le_refl _)⟩
end Go.Proofs.Ytfljdhccacbhbaa
