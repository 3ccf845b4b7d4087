/- Contracts of the reference's drawings for the generator's laws: each answers SOME numbers (nothing more is needed: the laws hold for all), reading at most 65536 bytes. -/
import Derived.Test.YtbkkggbpekhenaaCur
import Derived.Test.YtbkkggbpekhenaaDraw2
namespace Go.Proofs.Ytbkkggbpekhenaa
open Go.RowKit

def LitL : List Int := [1, 2, 16807, 1000000, 2147483646, 0, 2147483647, -1]
set_option maxHeartbeats 4000000 in
theorem state20_any (B u : Nat) (w : World) (h : Cur w B u) (hu : u ≤ 1000000) :
    Calls Try.prog 31 #[.pointer (some ⟨B, 0, none⟩)] w (Ci w B (u + 8) (fun _ => True)) := by
  have hlt := h.lt
  have H := Lib.hid h; clear h
  go_enter Try.func31, Try.ntmps31
  go_wp2_with fail
  refine (pick_any B u 60 _ (H.out.below (below_alloc1 _ _)) (by omega) (by omega) (by omega)).mono ?_
  rintro e w1 ⟨k, hk, rfl, hc, hg⟩
  have HR := Lib.hid ((lit_rd w LitL 8 rfl (5 + k / 29) (by omega) (by omega)).grown hg (.inr (by simp [Value.ownBlock]; omega)))
  have hg1 := cur_old H.out hg
  clear hg
  go_wp2_with fail
  refine (among_any B (u + 2) _ (LitL.take (5 + k / 29)) _ hc (by omega) HR.out (by simp [LitL]; omega) (.inr (by simp [Value.ownBlock]; omega))).mono ?_
  rintro e w2 ⟨x, hx, rfl, hc2, hg2⟩
  have hxb : -1 ≤ x ∧ x ≤ 2147483647 := by
    have h1 := List.mem_of_mem_take hx
    simp [LitL] at h1
    omega
  clear hx
  obtain ⟨xb1, xb2⟩ := hxb
  have hg12 := grown_trans hg1 hg2
  clear hg1 hg2 hc
  go_wp2_with fail
  refine (one_any B (u + 4) 2 _ hc2 (by omega) (by omega) (by omega)).mono ?_
  rintro e w3 ⟨b, rfl, hc3, hg3⟩
  have hg13 := grown_trans hg12 hg3
  clear hg12 hg3 hc2
  cases b
  · go_wp2_with fail
    go_ret
    exact ⟨x, trivial, rfl, hc3.mono (by omega), hg13⟩
  · by_cases h1 : 0 < x
    · by_cases h2 : x < 2147483647
      · go_wp2_with fail
        refine (pick_any B (u + 6) 1000 _ hc3 (by omega) (by omega) (by omega)).mono ?_
        rintro e w4 ⟨m, hm, rfl, hc4, hg4⟩
        go_wp2
        go_ret
        exact ⟨_, trivial, rfl, hc4.mono (by omega), grown_trans hg13 hg4⟩
      · go_wp2_with fail
        go_ret
        exact ⟨x, trivial, rfl, hc3.mono (by omega), hg13⟩
    · go_wp2_with fail
      go_ret
      exact ⟨x, trivial, rfl, hc3.mono (by omega), hg13⟩

def LitB : List Int := [1, 2, 6, 100, 1000000, 0, 1000001]
set_option maxHeartbeats 4000000 in
theorem below20_any (B u : Nat) (w : World) (h : Cur w B u) (hu : u ≤ 1000000) :
    Calls Try.prog 40 #[.pointer (some ⟨B, 0, none⟩)] w (Ci w B (u + 8) (fun _ => True)) := by
  have hlt := h.lt
  have H := Lib.hid h; clear h
  go_enter Try.func40, Try.ntmps40
  go_wp2_with fail
  refine (pick_any B u 24 _ (H.out.below (below_alloc1 _ _)) (by omega) (by omega) (by omega)).mono ?_
  rintro e w1 ⟨k, hk, rfl, hc, hg⟩
  have HR := Lib.hid ((lit_rd w LitB 7 rfl (5 + k / 11) (by omega) (by omega)).grown hg (.inr (by simp [Value.ownBlock]; omega)))
  have hg1 := cur_old H.out hg
  clear hg
  go_wp2_with fail
  refine (among_any B (u + 2) _ (LitB.take (5 + k / 11)) _ hc (by omega) HR.out (by simp [LitB]; omega) (.inr (by simp [Value.ownBlock]; omega))).mono ?_
  rintro e w2 ⟨x, hx, rfl, hc2, hg2⟩
  go_wp2
  go_ret
  exact ⟨x, trivial, rfl, hc2.mono (by omega), grown_trans hg1 hg2⟩


def LitN : List Int := [0, 1, 2, 10, 2147483646, 1000000000000, -1, 1000000000001]

end Go.Proofs.Ytbkkggbpekhenaa
