/- Contract: the library's rotateCmpFunc on events: two neighbouring parts of the array change their places. Condition: at most 1000 events. -/
import Derived.Test.YtohbkohidpgjpaaGreatDoorEvIns
namespace Go.Proofs.YtohbkohidpgjpaaGreatDoor
open Go.RowKit

set_option maxRecDepth 100000 in
set_option maxHeartbeats 4000000 in
theorem rot_any (g n cap B : Nat) (X U V Y : List Ev) (a m b : Nat) (w : World) (hO : Arr B w g n cap (X ++ (U ++ (V ++ Y)))) (ha : X.length = a) (hm : a + U.length = m) (hb : m + V.length = b) (hU : 0 < U.length) (hV : 0 < V.length) (hn : n ≤ 1000) (hBw : B ≤ w.heap.size) :
    Calls Tryz.prog 88 #[.slice (some ⟨g, 0, none⟩) n cap, .int .i64 a, .int .i64 m, .int .i64 b, mtF] w fun e w' => e = .returned (.tuple #[]) ∧ Arr B w' g n cap (X ++ (V ++ (U ++ Y))) ∧ Below B w w' := by
  have hlen := hO.2
  simp only [List.length_append] at hlen
  have hcap := hO.le
  obtain ⟨T, hT⟩ : ∃ T, X ++ (V ++ (U ++ Y)) = T := ⟨_, rfl⟩
  have hbn : b ≤ n := by omega
  have HO := Lib.hid hO; clear hO
  obtain ⟨i0, hi0⟩ : ∃ i, U.length = i := ⟨_, rfl⟩
  obtain ⟨j0, hj0⟩ : ∃ i, V.length = i := ⟨_, rfl⟩
  have HI : Hid (∃ P u v S, Arr B w g n cap (P ++ (u ++ (v ++ S))) ∧ P ++ (v ++ (u ++ S)) = T ∧ P.length + i0 = m ∧ u.length = i0 ∧ v.length = j0) := Lib.hid ⟨X, U, V, Y, HO.out, hT, by omega, hi0, hj0⟩
  rw [hi0] at hm hU
  rw [hj0] at hb hV
  rw [hT]
  clear HO hT hi0 hj0 hlen ha
  have e1 : (m : Int) - a = i0 := by omega
  have e2 : (b : Int) - m = j0 := by omega
  go_enter Tryz.func88, Tryz.ntmps88
  go_wp2
  go_loopw [10, 11] (fun x y wr => ∃ i j : Nat, x = .int .i64 i ∧ y = .int .i64 j ∧ 0 < i ∧ 0 < j ∧ i ≤ m ∧ m + j ≤ n ∧ Hid (∃ P u v S, Arr B wr g n cap (P ++ (u ++ (v ++ S))) ∧ P ++ (v ++ (u ++ S)) = T ∧ P.length + i = m ∧ u.length = i ∧ v.length = j) ∧ Hid (Below B w wr))
    (fun x y _ => (intOf x).toNat + (intOf y).toNat)
  case atStart => exact ⟨i0, j0, rfl, rfl, hU, hV, by omega, by omega, HI, Lib.hid (Below.refl _ _)⟩
  case round =>
    clear HI e1 e2 hU hV hm hb
    obtain ⟨i, j, rfl, rfl, hi, hj, him, hjm, HA, HB⟩ := hrel
    obtain ⟨P, u, v, S, hA, hT, hP, hu, hv⟩ := HA.out
    have hzb := HB.out.size
    clear HA
    obtain ⟨A, hAm⟩ : ∃ A, A + i = m := ⟨_, hP⟩
    have e1 : (m : Int) - i = A := by omega
    by_cases hij : i = j
    · subst hij
      have HC := Lib.hid (swapR_any g n cap B P u [] v S A m i wr mtF hA (by omega) (by simp; omega) hu hv hn (by omega))
      clear hA hu hv hP
      go_wp2_with fail
      refine HC.out.mono ?_
      rintro e w' ⟨rfl, hA2, hB2⟩
      have HA2 := Lib.hid hA2; clear hA2
      have HB2 := Lib.hid (HB.out.trans hB2); clear hB2
      go_wp2
      go_end0
      exact ⟨rfl, by rw [← hT]; exact HA2.out, HB2.out⟩
    · have hne : (i : Int) ≠ j := by omega
      rcases Nat.lt_or_gt_of_ne hij with hlt | hgt
      · have hng : ¬ (j : Int) < i := by omega
        have HL := Lib.hid (And.intro hu hv)
        obtain ⟨d, hd⟩ : ∃ d, d + i = j := ⟨j - i, by omega⟩
        have h2 : (j : Int) - i = d := by omega
        obtain ⟨M, hM⟩ : ∃ M, m + d = M := ⟨_, rfl⟩
        have h3 : (m : Int) + j - i = M := by omega
        have HC := Lib.hid (swapR_any g n cap B P u (v.take d) (v.drop d) S A M i wr mtF (by rw [← List.append_assoc (v.take d), List.take_append_drop]; exact hA) (by omega) (by rw [List.length_take]; omega) hu (by rw [List.length_drop]; omega) hn (by omega))
        clear hA hu hv
        go_wp2_with fail
        refine HC.out.mono ?_
        rintro e w' ⟨rfl, hA2, hB2⟩
        have HA2 := Lib.hid hA2; clear hA2
        have HB2 := Lib.hid (HB.out.trans hB2); clear hB2
        go_wp2
        go_roundw
        case rel =>
          refine ⟨i, d, rfl, rfl, hi, by omega, him, by omega, Lib.hid ⟨P, v.drop d, v.take d, u ++ S, HA2.out, ?_, hP, by rw [List.length_drop]; have := HL.out; omega, by rw [List.length_take]; have := HL.out; omega⟩, HB2⟩
          rw [← List.append_assoc (v.take d), List.take_append_drop]; exact hT
        case measure => simp [intOf] <;> omega
      · have hng : (j : Int) < i := by omega
        have HL := Lib.hid (And.intro hu hv)
        obtain ⟨d, hd⟩ : ∃ d, d + j = i := ⟨i - j, by omega⟩
        have h2 : (i : Int) - j = d := by omega
        have HC := Lib.hid (swapR_any g n cap B P (u.take j) (u.drop j) v S A m j wr mtF (by rw [← List.append_assoc (u.take j), List.take_append_drop]; exact hA) (by omega) (by rw [List.length_drop]; omega) (by rw [List.length_take]; omega) hv hn (by omega))
        clear hA hu hv
        go_wp2_with fail
        refine HC.out.mono ?_
        rintro e w' ⟨rfl, hA2, hB2⟩
        have HA2 := Lib.hid hA2; clear hA2
        have HB2 := Lib.hid (HB.out.trans hB2); clear hB2
        go_wp2
        go_roundw
        case rel =>
          refine ⟨d, j, rfl, rfl, by omega, hj, by omega, hjm, Lib.hid ⟨P ++ v, u.drop j, u.take j, S, by rw [List.append_assoc]; exact HA2.out, ?_, by rw [List.length_append]; have := HL.out; omega, by rw [List.length_drop]; have := HL.out; omega, by rw [List.length_take]; have := HL.out; omega⟩, HB2⟩
          rw [← List.append_assoc (u.take j), List.take_append_drop, List.append_assoc]; exact hT
        case measure => simp [intOf] <;> omega
end Go.Proofs.YtohbkohidpgjpaaGreatDoor
