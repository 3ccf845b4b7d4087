/- The decimal texts of numbers: the reference's l1Num and the library's Itoa, for numbers from 0 to 10^9. Condition (Itoa): the library's table of powers lies where it is laid. -/
import Derived.Test.YtohbkohidpgjpaaGreatDoorShelf2
import Derived.Test.YtohbkohidpgjpaaGreatDoorKeep
import Derived.Test.YtohbkohidpgjpaaGreatDoorTxt
import Derived.Lib.LaidU8
import Derived.Lib.AppendIntMem
namespace Go.Proofs.YtohbkohidpgjpaaGreatDoor
open Go.RowKit

def numT (n : Nat) : ByteArray := ⟨(Lib.decDigits n).toArray⟩
theorem numT_lt {n : Nat} (h : n < 10) : numT n = ⟨#[UInt8.ofNat (48 + n)]⟩ := by
  rw [numT, Lib.decDigits.eq_1, dif_pos h]
theorem numT_ge {n : Nat} (h : ¬ n < 10) : numT n = numT (n / 10) ++ ⟨#[UInt8.ofNat (48 + n % 10)]⟩ := by
  rw [numT, Lib.decDigits.eq_1, dif_neg h]
  exact ByteArray.ext (by simp [numT])
theorem digs_at {n : Nat} (h : n < 10) : (⟨#[48, 49, 50, 51, 52, 53, 54, 55, 56, 57]⟩ : ByteArray).extract n (n + 1) = ⟨#[UInt8.ofNat (48 + n)]⟩ := by
  have : n = 0 ∨ n = 1 ∨ n = 2 ∨ n = 3 ∨ n = 4 ∨ n = 5 ∨ n = 6 ∨ n = 7 ∨ n = 8 ∨ n = 9 := by omega
  rcases this with rfl | rfl | rfl | rfl | rfl | rfl | rfl | rfl | rfl | rfl <;> rfl
theorem numT_size (n : Nat) : (numT n).size = Lib.nDigits n := by
  rw [← Lib.decDigits_length]; rfl
theorem numT_le (n : Nat) : (numT n).size ≤ n + 1 := by
  induction n using Nat.strongRecOn with
  | _ n ih =>
    by_cases h : n < 10
    · rw [numT_lt h]; exact Nat.succ_le_succ (Nat.zero_le _)
    · have h1 := ih (n / 10) (by omega)
      have h2 : (⟨#[UInt8.ofNat (48 + n % 10)]⟩ : ByteArray).size = 1 := rfl
      rw [numT_ge h, ByteArray.size_append, h2]
      omega
/-- the table of powers -/
def PowAt (w : World) : Prop := Lib.TabIs Tryz.prog w "internal/strconv.uint64pow10" .u64 Lib.pow10Tab
theorem PowAt.below {w w' : World} (h : PowAt w) (hb : Below w.heap.size w w') : PowAt w' := Lib.tabBelow_of_tabIs h w' hb
theorem itoa_any (n : Nat) (w : World) (h : n ≤ 1000000000) (ht : PowAt w) :
    Calls Tryz.prog 26 #[.int .i64 n] w fun e w' => e = .returned (.string (numT n)) ∧ Below w.heap.size w w' := by
  refine (Any.strconv_Itoa Tryz.lays171LaysM n (by omega) (by omega) w ht).mono ?_
  rintro e w' ⟨rfl, k, os, rfl⟩
  refine ⟨?_, Lib.below_grow _ _ (Nat.le_refl _) _ _⟩
  rw [Lib.itoa, if_neg (by omega)]
  rfl
set_option maxRecDepth 100000 in
theorem num_any (n : Nat) (w : World) (h : n ≤ 1000000000) : Calls Tryz.prog 59 #[.int .i64 n] w fun e w' => e = .returned (.string (numT n)) ∧ Below w.heap.size w w' := by
  induction n using Nat.strongRecOn generalizing w with
  | _ n ih =>
    by_cases hlt : n < 10
    · have HT := Lib.hid (numT_lt hlt)
      have HD := Lib.hid (digs_at hlt)
      have hw : IntKind.i64.wrap ((n : Int) + 1) = (n : Int) + 1 := by rw [IntKind.wrap_i64]; omega
      have h1 : (0 : Int) ≤ (n : Int) + 1 := by omega
      have h2 : ((n : Int) + 1).toNat = n + 1 := by omega
      go_enter Tryz.func59, Tryz.ntmps59
      go_wp2
      go_ret
      exact ⟨str_same (by rw [HT.out, ← HD.out]), by go_grown⟩
    · have HT := Lib.hid (numT_ge hlt)
      have HD := Lib.hid (digs_at (n := n % 10) (by omega))
      have hq : ((n : Int).tdiv 10) = ((n / 10 : Nat) : Int) := by rw [Int.tdiv_eq_ediv_of_nonneg (by omega)]; omega
      have hr : ((n : Int).tmod 10) = ((n % 10 : Nat) : Int) := by rw [Int.tmod_eq_emod_of_nonneg (by omega)]; omega
      have HI := Lib.hid (fun w => ih (n / 10) (by omega) w (by omega))
      obtain ⟨q, hqn⟩ : ∃ q, q = n / 10 := ⟨_, rfl⟩
      obtain ⟨r, hrn⟩ : ∃ r, r = n % 10 := ⟨_, rfl⟩
      rw [← hqn] at hq HI HT
      rw [← hrn] at hr HD HT
      have hr1 : r < 10 := by omega
      have hw0 : IntKind.i64.wrap (q : Int) = q := by rw [IntKind.wrap_i64]; omega
      have hwr : IntKind.i64.wrap (r : Int) = r := by rw [IntKind.wrap_i64]; omega
      have hw : IntKind.i64.wrap ((r : Int) + 1) = (r : Int) + 1 := by rw [IntKind.wrap_i64]; omega
      have h1 : (0 : Int) ≤ (r : Int) + 1 := by omega
      have h2 : ((r : Int) + 1).toNat = r + 1 := by omega
      have hs : ¬ 9223372036854775807 < (numT q).size + (min (r + 1) 10 - r) := by have := numT_le q; omega
      have h3 : (r : Int) + 1 ≤ 10 := by omega
      have h4 : (r : Int) ≤ (r : Int) + 1 := by omega
      clear hqn hrn ih
      go_enter Tryz.func59, Tryz.ntmps59
      go_wp2_with fail
      refine wp_region_held_drew (S := (fun w' => Below w.heap.size w w')) (by kernel_rfl) ?rx1s (fun hHeld => ?rx10)
      case rx1s => ((try dsimp only); exact (Below.refl _ _).drew)
      try simp only [Act.put, List.setIfInBounds_toArray, List.set_cons_zero, List.set_cons_succ]
      refine take_at 0 (some 15) (v := ?vx1_1) rfl rfl (by kernel_rfl) (by kernel_rfl) (by kernel_rfl) (fun _ _ _ h => h) (Or.inl ⟨by kernel_rfl, ?yx1_1⟩) hHeld ?zx1_1
      case yx1_1 => (intro wS hSw; (try dsimp only at hSw); go_simp; (try with_reducible rfl))
      try simp only [Act.put, List.setIfInBounds_toArray, List.set_cons_zero, List.set_cons_succ]
      refine take_at 1 (some 16) (v := ?vx1_2) rfl rfl (by kernel_rfl) (by kernel_rfl) (by kernel_rfl) (fun _ _ _ h => h) (Or.inl ⟨by kernel_rfl, ?yx1_2⟩) hHeld ?zx1_2
      case yx1_2 => (intro wS hSw; (try dsimp only at hSw); go_simp; (try with_reducible rfl))
      try simp only [Act.put, List.setIfInBounds_toArray, List.set_cons_zero, List.set_cons_succ]
      refine take_at 3 (some 18) (v := ?vx1_3) rfl rfl (by kernel_rfl) (by kernel_rfl) (by kernel_rfl) (fun _ _ _ h => h) (Or.inl ⟨by kernel_rfl, ?yx1_3⟩) hHeld ?zx1_3
      case yx1_3 => (intro wS hSw; (try dsimp only at hSw); go_simp; (try with_reducible rfl))
      try simp only [Act.put, List.setIfInBounds_toArray, List.set_cons_zero, List.set_cons_succ]
      refine take_at 4 (some 19) (v := ?vx1_4) rfl rfl (by kernel_rfl) (by kernel_rfl) (by kernel_rfl) (fun _ _ _ h => h) (Or.inl ⟨by kernel_rfl, ?yx1_4⟩) hHeld ?zx1_4
      case yx1_4 => (intro wS hSw; (try dsimp only at hSw); go_simp; (try with_reducible rfl))
      try simp only [Act.put, List.setIfInBounds_toArray, List.set_cons_zero, List.set_cons_succ]
      refine take_at 5 (some 20) (v := ?vx1_5) rfl rfl (by kernel_rfl) (by kernel_rfl) (by kernel_rfl) (fun _ _ _ h => h) (Or.inl ⟨by kernel_rfl, ?yx1_5⟩) hHeld ?zx1_5
      case yx1_5 => (intro wS hSw; (try dsimp only at hSw); go_simp; (try with_reducible rfl))
      try simp only [Act.put, List.setIfInBounds_toArray, List.set_cons_zero, List.set_cons_succ]
      refine take_at 6 (some 21) (v := ?vx1_6) rfl rfl (by kernel_rfl) (by kernel_rfl) (by kernel_rfl) (fun _ _ _ h => h) (Or.inl ⟨by kernel_rfl, ?yx1_6⟩) hHeld ?zx1_6
      case yx1_6 => (intro wS hSw; (try dsimp only at hSw); go_simp; (try with_reducible rfl))
      try simp only [Act.put, List.setIfInBounds_toArray, List.set_cons_zero, List.set_cons_succ]
      refine take_at 7 (some 22) (v := ?vx1_7) rfl rfl (by kernel_rfl) (by kernel_rfl) (by kernel_rfl) (fun _ _ _ h => h) (Or.inl ⟨by kernel_rfl, ?yx1_7⟩) hHeld ?zx1_7
      case yx1_7 => (intro wS hSw; (try dsimp only at hSw); go_simp; (try with_reducible rfl))
      try simp only [Act.put, List.setIfInBounds_toArray, List.set_cons_zero, List.set_cons_succ]
      refine take_at 8 (some 23) (v := ?vx1_8) rfl rfl (by kernel_rfl) (by kernel_rfl) (by kernel_rfl) (fun _ _ _ h => h) (Or.inl ⟨by kernel_rfl, ?yx1_8⟩) hHeld ?zx1_8
      case yx1_8 => (intro wS hSw; (try dsimp only at hSw); go_simp; (try with_reducible rfl))
      try simp only [Act.put, List.setIfInBounds_toArray, List.set_cons_zero, List.set_cons_succ]
      refine wpAnyH_ready (rs := [2]) (by kernel_rfl) (by simp) ?_
      refine cons_at (some 17) rfl rfl (by kernel_rfl) (fun K hK => ?kx1_10) AllReadyH.nil
      go_simp
      (go_at_call 59; refine (HI.out _).mono ?_; rintro e w' ⟨rfl, hbel⟩)
      try go_wp2_with fail
      refine hK.out _ _ ?sx1_10 (fun hHeld => ?_)
      case sx1_10 => ((try dsimp only); first | exact Below.trans (by assumption) hbel | assumption)
      clear hK K
      try simp only [Act.put, List.setIfInBounds_toArray, List.set_cons_zero, List.set_cons_succ]
      refine take_at 9 (some 24) (v := ?vx1_11) rfl rfl (by kernel_rfl) (by kernel_rfl) (by kernel_rfl) (fun _ _ _ h => h) (Or.inl ⟨by kernel_rfl, ?yx1_11⟩) hHeld ?zx1_11
      case yx1_11 => (intro wS hSw; (try dsimp only at hSw); go_simp; (try with_reducible rfl))
      try simp only [Act.put, List.setIfInBounds_toArray, List.set_cons_zero, List.set_cons_succ]
      refine take_at 10 (some 2) (v := ?vx1_12) rfl rfl (by kernel_rfl) (by kernel_rfl) (by kernel_rfl) (fun _ _ _ h => h) (Or.inl ⟨by kernel_rfl, ?yx1_12⟩) hHeld ?zx1_12
      case yx1_12 => (intro wS hSw; (try dsimp only at hSw); go_simp; (try with_reducible rfl))
      try simp only [Act.put, List.setIfInBounds_toArray, List.set_cons_zero, List.set_cons_succ]
      refine wpAnyH_done (by kernel_rfl) ?_ _
      go_wp2
      go_ret
      exact ⟨str_same (by rw [HT.out, ← HD.out]), hHeld⟩
end Go.Proofs.YtohbkohidpgjpaaGreatDoor
