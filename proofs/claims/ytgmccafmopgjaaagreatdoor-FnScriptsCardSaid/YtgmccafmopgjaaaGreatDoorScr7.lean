/- The text of a step: the program's and the reference's StepText, for every step, where the table of words holds what the program's text lays. -/
import Derived.Test.YtgmccafmopgjaaaGreatDoorScr0
namespace Go.Proofs.YtgmccafmopgjaaaGreatDoor
open Go.RowKit

/-- the words of the kinds of steps, as the table holds them -/
def stW : Nat → ByteArray
  | 0 => ⟨#[]⟩
  | 1 => ⟨#[115, 101, 110, 100]⟩
  | 2 => ⟨#[100, 101, 108, 105, 118, 101, 114]⟩
  | 3 => ⟨#[108, 111, 115, 101]⟩
  | 4 => ⟨#[116, 105, 99, 107]⟩
  | 5 => ⟨#[117, 112]⟩
  | _ => ⟨#[108, 111, 115, 101, 32, 117, 112]⟩
/-- the table lies in the world -/
def WordsAt (w : World) : Prop := ∀ k, k < 7 → w.cell? ⟨0, k, none⟩ = some (.string (stW k))
theorem WordsAt.below {w w' : World} (h : WordsAt w) (hb : Below w.heap.size w w') : WordsAt w' := fun k hk => (hb.cell (World.block_lt_of_cell? w _ (h k hk))).trans (h k hk)
/-- a digit's text -/
def dig1 (n : Int) : ByteArray := ⟨#[UInt8.ofNat (48 + n.toNat)]⟩
theorem dig1_eq {n : Int} (h1 : 1 ≤ n) (h2 : n ≤ 7) : n = 1 ∨ n = 2 ∨ n = 3 ∨ n = 4 ∨ n = 5 ∨ n = 6 ∨ n = 7 := by omega
/-- the text of a valid step -/
def stT (x : St) : ByteArray :=
  if x.kd = 1 then (if x.dt.toList.isEmpty = true then stW 1 else stW 1 ++ (⟨#[32]⟩ ++ x.dt))
  else if x.kd = 4 then stW 4
  else stW x.kd.toNat ++ (⟨#[32]⟩ ++ dig1 x.nd)
set_option maxRecDepth 100000 in
theorem itoa1_any (n : Int) (w : World) (h1 : 1 ≤ n) (h2 : n ≤ 7) : Calls Tryz.prog 49 #[.int .i64 n] w fun e w' => e = .returned (.string (dig1 n)) ∧ w = w' := by
  rcases dig1_eq h1 h2 with rfl | rfl | rfl | rfl | rfl | rfl | rfl <;>
  · go_enter Tryz.func49, Tryz.ntmps49
    go_wp2
    go_ret
    exact ⟨str_same (by decide), rfl⟩
set_option maxRecDepth 100000 in
theorem num1_any (n : Int) (w : World) (h1 : 0 ≤ n) (h2 : n ≤ 7) : Calls Tryz.prog 52 #[.int .i64 n] w fun e w' => e = .returned (.string (dig1 n)) ∧ w = w' := by
  have h3 : n = 0 ∨ n = 1 ∨ n = 2 ∨ n = 3 ∨ n = 4 ∨ n = 5 ∨ n = 6 ∨ n = 7 := by omega
  rcases h3 with rfl | rfl | rfl | rfl | rfl | rfl | rfl | rfl <;>
  · go_enter Tryz.func52, Tryz.ntmps52
    go_wp2
    go_ret
    exact ⟨str_same (by decide), rfl⟩
theorem ba_assoc (a b c : ByteArray) : a ++ (b ++ c) = (a ++ b) ++ c := by
  apply ByteArray.ext
  simp
theorem stT_send {n : Int} {d : ByteArray} (h : d.toList.isEmpty = true) : stT ⟨1, n, d⟩ = stW 1 := by rw [stT, if_pos rfl, if_pos h]
theorem stT_data {n : Int} {d : ByteArray} (h : d.toList.isEmpty = false) : stT ⟨1, n, d⟩ = stW 1 ++ (⟨#[32]⟩ ++ d) := by rw [stT, if_pos rfl, if_neg (by rw [h]; exact Bool.false_ne_true)]
theorem stT_tick {n : Int} {d : ByteArray} : stT ⟨4, n, d⟩ = stW 4 := by rw [stT, if_neg (show ¬ ((4 : Int) = 1) by decide), if_pos rfl]
theorem stT_node {k n : Int} {d : ByteArray} (h1 : k ≠ 1) (h4 : k ≠ 4) : stT ⟨k, n, d⟩ = stW k.toNat ++ (⟨#[32]⟩ ++ dig1 n) := by rw [stT, if_neg h1, if_neg h4]
theorem dig1_size (n : Int) : (dig1 n).size = 1 := rfl
/-- what is known of a valid step, by its kind -/
theorem stB_cases {k n : Int} {d : ByteArray} (h : stB ⟨k, n, d⟩ = true) : k = 1 ∧ n = 0 ∧ d.size ≤ 8 ∨ k = 4 ∧ n = 0 ∧ d.toList.isEmpty = true ∨ (k = 2 ∨ k = 3 ∨ k = 5 ∨ k = 6) ∧ 1 ≤ n ∧ n ≤ 7 ∧ d.toList.isEmpty = true := by
  by_cases h1 : k = 1
  · rw [stB_one h1, Bool.and_eq_true, Bool.and_eq_true, decide_eq_true_eq, decide_eq_true_eq] at h
    exact .inl ⟨h1, h.1, h.2.1⟩
  · by_cases h4 : k = 4
    · rw [stB_four h4, Bool.and_eq_true, decide_eq_true_eq] at h
      exact .inr (.inl ⟨h4, h.1, h.2⟩)
    · rw [stB_else h1 h4, Bool.and_eq_true, Bool.and_eq_true, inR_true, inR_true] at h
      simp only at h
      exact .inr (.inr ⟨by omega, h.1.2.1, h.1.2.2, h.2⟩)
set_option maxRecDepth 100000 in
set_option maxHeartbeats 1000000 in
theorem l16Text_any (x : St) (w : World) (hx : stB x = true) :
    Calls Tryz.prog 28 #[x.v] w fun e w' => e = .returned (.string (stT x)) ∧ Below w.heap.size w w' := by
  obtain ⟨k, n, d⟩ := x
  rcases stB_cases hx with ⟨rfl, rfl, h8⟩ | ⟨rfl, rfl, he⟩ | ⟨hk, hn1, hn2, he⟩
  · clear hx
    have H := Lib.hid (fun w => num1_any 0 w (by decide) (by decide))
    cases he : d.toList.isEmpty
    · have HT := Lib.hid (stT_data (n := 0) he)
      go_enter Tryz.func28, Tryz.ntmps28
      go_wp2_with fail
      refine (H.out _).mono ?_
      rintro e w' ⟨rfl, rfl⟩
      go_wp2
      go_ret
      exact ⟨str_same (by rw [HT.out, ba_assoc]; rfl), by go_grown⟩
    · have HT := Lib.hid (stT_send (n := 0) he)
      go_enter Tryz.func28, Tryz.ntmps28
      go_wp2_with fail
      refine (H.out _).mono ?_
      rintro e w' ⟨rfl, rfl⟩
      go_wp2
      go_ret
      exact ⟨str_same (by rw [HT.out]; rfl), by go_grown⟩
  · clear hx
    have H := Lib.hid (fun w => num1_any 0 w (by decide) (by decide))
    go_enter Tryz.func28, Tryz.ntmps28
    go_wp2_with fail
    refine (H.out _).mono ?_
    rintro e w' ⟨rfl, rfl⟩
    go_wp2
    go_ret
    exact ⟨str_same (by rw [stT_tick]; rfl), by go_grown⟩
  · clear hx
    have H := Lib.hid (fun w => num1_any n w (by omega) (by omega))
    have hsz := dig1_size n
    rcases hk with rfl | rfl | rfl | rfl <;>
    · have HT := Lib.hid (fun k h1 h4 => stT_node (k := k) (n := n) (d := d) h1 h4)
      generalize dig1 n = t at H hsz HT
      go_enter Tryz.func28, Tryz.ntmps28
      go_wp2_with fail
      refine (H.out _).mono ?_
      rintro e w' ⟨rfl, rfl⟩
      go_wp2
      go_ret
      exact ⟨str_same (by rw [HT.out _ (by decide) (by decide), ba_assoc]; rfl), by go_grown⟩
set_option maxRecDepth 100000 in
set_option maxHeartbeats 1000000 in
theorem stepText_any (x : St) (w : World) (hx : stB x = true) (hW : WordsAt w) :
    Calls Tryz.prog 26 #[x.v] w fun e w' => e = .returned (.string (stT x)) ∧ Below w.heap.size w w' := by
  obtain ⟨k, n, d⟩ := x
  rcases stB_cases hx with ⟨rfl, rfl, h8⟩ | ⟨rfl, rfl, he⟩ | ⟨hk, hn1, hn2, he⟩
  · clear hx
    have hc := fun o => (hW.below (below_alloc1 w o)) 1 (by decide)
    simp only [stW] at hc
    clear hW
    cases he : d.toList.isEmpty
    · have HT := Lib.hid (stT_data (n := 0) he)
      go_enter Tryz.func26, Tryz.ntmps26
      go_wp2
      go_ret
      exact ⟨str_same HT.out.symm, by go_grown⟩
    · have HT := Lib.hid (stT_send (n := 0) he)
      go_enter Tryz.func26, Tryz.ntmps26
      go_wp2
      go_ret
      exact ⟨str_same HT.out.symm, by go_grown⟩
  · clear hx
    have hc := fun o => (hW.below (below_alloc1 w o)) 4 (by decide)
    simp only [stW] at hc
    clear hW
    go_enter Tryz.func26, Tryz.ntmps26
    go_wp2
    go_ret
    exact ⟨str_same stT_tick.symm, by go_grown⟩
  · clear hx
    have H := Lib.hid (fun w => itoa1_any n w (by omega) (by omega))
    have hn0 : ¬ n = 0 := by omega
    have hsz := dig1_size n
    rcases hk with rfl | rfl | rfl | rfl <;>
    · have HT := Lib.hid (fun k h1 h4 => stT_node (k := k) (n := n) (d := d) h1 h4)
      have hc2 := fun o => (hW.below (below_alloc1 w o)) 2 (by decide)
      have hc3 := fun o => (hW.below (below_alloc1 w o)) 3 (by decide)
      have hc5 := fun o => (hW.below (below_alloc1 w o)) 5 (by decide)
      have hc6 := fun o => (hW.below (below_alloc1 w o)) 6 (by decide)
      simp only [stW] at hc2 hc3 hc5 hc6
      generalize dig1 n = t at H hsz HT
      go_enter Tryz.func26, Tryz.ntmps26
      go_wp2_with fail
      refine (H.out _).mono ?_
      rintro e w' ⟨rfl, rfl⟩
      go_wp2
      go_ret
      exact ⟨str_same (by rw [HT.out _ (by decide) (by decide)]; rfl), by go_grown⟩
end Go.Proofs.YtgmccafmopgjaaaGreatDoor
