/- Valid steps: the program's IsValidStep, the reference's l15Step, for every step. -/
import Derived.Test.YtgmccafmopgjaaaGreatDoorStS
import Derived.Test.YtgmccafmopgjaaaGreatDoorLet
namespace Go.Proofs.YtgmccafmopgjaaaGreatDoor
open Go.RowKit

/-- a valid step -/
def stB (x : St) : Bool :=
  if x.kd = 1 then decide (x.nd = 0) && (decide (x.dt.size ≤ 8) && letB x.dt)
  else if x.kd = 4 then decide (x.nd = 0) && x.dt.toList.isEmpty
  else inR x.kd 1 6 && inR x.nd 1 7 && x.dt.toList.isEmpty
theorem stB_one {x : St} (h : x.kd = 1) : stB x = (decide (x.nd = 0) && (decide (x.dt.size ≤ 8) && letB x.dt)) := by rw [stB, if_pos h]
theorem stB_four {x : St} (h : x.kd = 4) : stB x = (decide (x.nd = 0) && x.dt.toList.isEmpty) := by rw [stB, if_neg (by omega), if_pos h]
theorem stB_else {x : St} (h1 : x.kd ≠ 1) (h4 : x.kd ≠ 4) : stB x = (inR x.kd 1 6 && inR x.nd 1 7 && x.dt.toList.isEmpty) := by rw [stB, if_neg h1, if_neg h4]
theorem stB_kd {x : St} (h : stB x = true) : 1 ≤ x.kd ∧ x.kd ≤ 6 := by
  by_cases h1 : x.kd = 1
  · omega
  · by_cases h4 : x.kd = 4
    · omega
    · rw [stB_else h1 h4, Bool.and_eq_true, Bool.and_eq_true, inR_true] at h
      exact h.1.1
theorem isFace_any (n : Int) (w : World) : Calls Tryz.prog 30 #[.int .i64 n] w fun e w' => e = .returned (.bool (inR n 1 7)) ∧ w = w' := by
  go_enter Tryz.func30, Tryz.ntmps30
  go_wp2_with ((go_at_call 54; refine (within_any _ _ _ _).mono ?_; rintro e w' ⟨rfl, rfl⟩))
  go_ret
  exact ⟨rfl, rfl⟩
set_option maxHeartbeats 1000000 in
theorem valid_any (x : St) (w : World) (hx : x.ok) :
    Calls Tryz.prog 8 #[x.v] w fun e w' => e = .returned (.bool (stB x)) ∧ Below w.heap.size w w' := by
  obtain ⟨k, n, d⟩ := x
  have hd : d.size ≤ 9223372036854775807 := hx
  clear hx
  by_cases h1 : k = 1
  · subst h1
    rw [stB_one rfl]
    have H := Lib.hid (fun w => isItem_any d w hd)
    generalize (decide (d.size ≤ 8) && letB d) = b at H
    by_cases hn : n = 0
    · subst hn
      go_enter Tryz.func8, Tryz.ntmps8
      go_wp2_with fail
      refine (H.out _).mono ?_
      rintro e w1 ⟨rfl, hb⟩
      go_wp2
      go_ret
      exact ⟨by simp, Below.trans (by go_grown) (hb.mono (by simp))⟩
    · go_enter Tryz.func8, Tryz.ntmps8
      go_wp2
      go_ret
      exact ⟨ret_bool (by simp [hn]), by go_grown⟩
  · by_cases h4 : k = 4
    · subst h4
      rw [stB_four rfl]
      by_cases hn : n = 0
      · subst hn
        go_enter Tryz.func8, Tryz.ntmps8
        go_wp2
        go_ret
        exact ⟨by simp, by go_grown⟩
      · go_enter Tryz.func8, Tryz.ntmps8
        go_wp2
        go_ret
        exact ⟨ret_bool (by simp [hn]), by go_grown⟩
    · rw [stB_else h1 h4]
      have hw : k = 2 ∨ k = 3 ∨ k = 5 ∨ k = 6 → Calls Tryz.prog 8 #[(⟨k, n, d⟩ : St).v] w fun e w' => e = .returned (.bool (inR n 1 7 && d.toList.isEmpty)) ∧ Below w.heap.size w w' := by
        intro hk
        cases hi : inR n 1 7
        · have HI := Lib.hid (isFace_any n)
          rw [hi] at HI
          clear h1 h4 hi
          rcases hk with rfl | rfl | rfl | rfl <;>
          · go_enter Tryz.func8, Tryz.ntmps8
            go_wp2_with (go_at_call 30; refine (HI.out _).mono ?_; rintro e w' ⟨rfl, rfl⟩)
            go_ret
            exact ⟨rfl, by go_grown⟩
        · have HI := Lib.hid (isFace_any n)
          rw [hi] at HI
          clear h1 h4 hi
          rcases hk with rfl | rfl | rfl | rfl <;>
          · go_enter Tryz.func8, Tryz.ntmps8
            go_wp2_with (go_at_call 30; refine (HI.out _).mono ?_; rintro e w' ⟨rfl, rfl⟩)
            go_ret
            exact ⟨by simp, by go_grown⟩
      by_cases hk : k = 2 ∨ k = 3 ∨ k = 5 ∨ k = 6
      · rw [show inR k 1 6 = true from inR_true.2 (by omega), Bool.true_and]
        exact hw hk
      · clear hw
        rw [show inR k 1 6 = false from inR_false.2 (by omega), Bool.false_and, Bool.false_and]
        have h2 : ¬ k = 2 := by omega
        have h3 : ¬ k = 3 := by omega
        have h5 : ¬ k = 5 := by omega
        have h6 : ¬ k = 6 := by omega
        clear hk
        go_enter Tryz.func8, Tryz.ntmps8
        go_wp2
        go_ret
        exact ⟨rfl, by go_grown⟩
set_option maxHeartbeats 1000000 in
theorem l15Step_any (x : St) (w : World) (hx : x.ok) :
    Calls Tryz.prog 27 #[x.v] w fun e w' => e = .returned (.bool (stB x)) ∧ Below w.heap.size w w' := by
  obtain ⟨k, n, d⟩ := x
  have hd : d.size ≤ 9223372036854775807 := hx
  clear hx
  by_cases h1 : k = 1
  · subst h1
    rw [stB_one rfl]
    have H := Lib.hid (fun w => l4Letters_any d w hd)
    generalize (decide (d.size ≤ 8) && letB d) = b at H
    by_cases hn : n = 0
    · subst hn
      go_enter Tryz.func27, Tryz.ntmps27
      go_wp2_with fail
      refine (H.out _).mono ?_
      rintro e w1 ⟨rfl, hb⟩
      go_wp2
      go_ret
      exact ⟨by simp, Below.trans (by go_grown) (hb.mono (by simp))⟩
    · go_enter Tryz.func27, Tryz.ntmps27
      go_wp2
      go_ret
      exact ⟨ret_bool (by simp [hn]), by go_grown⟩
  · by_cases h4 : k = 4
    · subst h4
      rw [stB_four rfl]
      by_cases hn : n = 0
      · subst hn
        go_enter Tryz.func27, Tryz.ntmps27
        go_wp2
        go_ret
        exact ⟨by simp, by go_grown⟩
      · go_enter Tryz.func27, Tryz.ntmps27
        go_wp2
        go_ret
        exact ⟨ret_bool (by simp [hn]), by go_grown⟩
    · rw [stB_else h1 h4]
      cases hk : inR k 1 6
      · have HI := Lib.hid (l1In_any k 1 6)
        rw [hk] at HI
        go_enter Tryz.func27, Tryz.ntmps27
        go_wp2_with fail
        refine (HI.out _).mono ?_
        rintro e w' ⟨rfl, rfl⟩
        go_wp2
        go_ret
        exact ⟨rfl, by go_grown⟩
      · have HI := Lib.hid (l1In_any k 1 6)
        rw [hk] at HI
        cases hn : inR n 1 7
        · have HN := Lib.hid (l1In_any n 1 7)
          rw [hn] at HN
          clear hk hn
          go_enter Tryz.func27, Tryz.ntmps27
          go_wp2_with fail
          refine (HI.out _).mono ?_
          rintro e w' ⟨rfl, rfl⟩
          go_wp2_with fail
          refine (HN.out _).mono ?_
          rintro e w' ⟨rfl, rfl⟩
          go_wp2
          go_ret
          exact ⟨rfl, by go_grown⟩
        · have HN := Lib.hid (l1In_any n 1 7)
          rw [hn] at HN
          clear hk hn
          go_enter Tryz.func27, Tryz.ntmps27
          go_wp2_with fail
          refine (HI.out _).mono ?_
          rintro e w' ⟨rfl, rfl⟩
          go_wp2_with fail
          refine (HN.out _).mono ?_
          rintro e w' ⟨rfl, rfl⟩
          go_wp2
          go_ret
          exact ⟨by simp, by go_grown⟩
end Go.Proofs.YtgmccafmopgjaaaGreatDoor
