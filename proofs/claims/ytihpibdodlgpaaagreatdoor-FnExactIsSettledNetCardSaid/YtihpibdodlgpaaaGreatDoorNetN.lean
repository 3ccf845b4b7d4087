/- Contracts of the small tests on numbers and texts that networks use: the program's and the reference's. -/
import Derived.Test.YtihpibdodlgpaaaGreatDoorNum
import Derived.Test.YtihpibdodlgpaaaGreatDoorLet
import Derived.Test.YtihpibdodlgpaaaGreatDoorNetD
import Derived.Handy
import Derived.BigQuiet
namespace Go.Proofs.YtihpibdodlgpaaaGreatDoor
open Go.RowKit

def gp (a b : Int) : Int := (b - a) % 65536
def itB (s : ByteArray) : Bool := decide (s.size ≤ 8) && letB s
theorem nSerial_any (n : Int) (w : World) : Calls Tryz.prog 86 #[.int .i64 n] w fun e w' => e = .returned (.bool (inR n 0 65535)) ∧ w = w' := by
  go_enter Tryz.func86, Tryz.ntmps86
  go_wp2_with ((go_at_call 83; refine (within_any _ _ _ _).mono ?_; rintro e w' ⟨rfl, rfl⟩))
  go_ret
  exact ⟨rfl, rfl⟩
theorem nGood_any (n : Int) (w : World) : Calls Tryz.prog 71 #[.int .i64 n] w fun e w' => e = .returned (.bool (inR n 0 65535)) ∧ w = w' := by
  go_enter Tryz.func71, Tryz.ntmps71
  go_wp2_with ((go_at_call 68; refine (l1In_any _ _ _ _).mono ?_; rintro e w' ⟨rfl, rfl⟩))
  go_ret
  exact ⟨rfl, rfl⟩
theorem nClock_any (n : Int) (w : World) : Calls Tryz.prog 85 #[.int .i64 n] w fun e w' => e = .returned (.bool (inR n 0 9999)) ∧ w = w' := by
  go_enter Tryz.func85, Tryz.ntmps85
  go_wp2_with ((go_at_call 83; refine (within_any _ _ _ _).mono ?_; rintro e w' ⟨rfl, rfl⟩))
  go_ret
  exact ⟨rfl, rfl⟩
theorem sClock_any (n : Int) (w : World) : Calls Tryz.prog 70 #[.int .i64 n] w fun e w' => e = .returned (.bool (inR n 0 9999)) ∧ w = w' := by
  go_enter Tryz.func70, Tryz.ntmps70
  go_wp2_with ((go_at_call 68; refine (l1In_any _ _ _ _).mono ?_; rintro e w' ⟨rfl, rfl⟩))
  go_ret
  exact ⟨rfl, rfl⟩
theorem nFace_any (n : Int) (w : World) : Calls Tryz.prog 141 #[.int .i64 n] w fun e w' => e = .returned (.bool (inR n 1 7)) ∧ w = w' := by
  go_enter Tryz.func141, Tryz.ntmps141
  go_wp2_with ((go_at_call 83; refine (within_any _ _ _ _).mono ?_; rintro e w' ⟨rfl, rfl⟩))
  go_ret
  exact ⟨rfl, rfl⟩
theorem nAfter_any (x n : Int) (w : World) (h0 : 0 ≤ x) (h1 : x ≤ 65535) (h2 : -65535 ≤ n) (h3 : n ≤ 65535) :
    Calls Tryz.prog 62 #[.int .i64 x, .int .i64 n] w fun e w' => e = .returned (.int .i64 ((x + n) % 65536)) ∧ w = w' := by
  go_enter Tryz.func62, Tryz.ntmps62
  go_wp2
  go_ret
  exact ⟨ret_int (by
    by_cases h : 0 ≤ x + n
    · rw [Int.tmod_eq_emod_of_nonneg h, IntWalk.wrap64_in _ (by omega), Int.tmod_eq_emod_of_nonneg (by omega)]; omega
    · rw [show (x + n).tmod 65536 = x + n from by rw [show x + n = -(-(x + n)) from by omega, Int.neg_tmod, Int.tmod_eq_emod_of_nonneg (by omega)]; omega, IntWalk.wrap64_in _ (by omega), Int.tmod_eq_emod_of_nonneg (by omega)]; omega), rfl⟩
theorem nGap_any (a b : Int) (w : World) (h0 : 0 ≤ a) (h1 : a ≤ 65535) (h2 : 0 ≤ b) (h3 : b ≤ 65535) :
    Calls Tryz.prog 88 #[.int .i64 a, .int .i64 b] w fun e w' => e = .returned (.int .i64 (gp a b)) ∧ w = w' := by
  have HA := Lib.hid (nAfter_any b (-a) w h2 h3 (by omega) (by omega))
  go_enter Tryz.func88, Tryz.ntmps88
  go_wp2_with (go_at_call 62; refine HA.out.mono ?_; rintro e w' ⟨rfl, rfl⟩)
  go_ret
  exact ⟨ret_int (by rw [gp]; congr 1), rfl⟩
theorem sGap_any (a b : Int) (w : World) (h0 : 0 ≤ a) (h1 : a ≤ 65535) (h2 : 0 ≤ b) (h3 : b ≤ 65535) :
    Calls Tryz.prog 73 #[.int .i64 a, .int .i64 b] w fun e w' => e = .returned (.int .i64 (gp a b)) ∧ w = w' := by
  go_enter Tryz.func73, Tryz.ntmps73
  go_wp2
  go_ret
  exact ⟨ret_int (by rw [gp]; first | omega | (rw [Int.tmod_eq_emod_of_nonneg (by omega)]; omega)), rfl⟩
theorem sAfter_any (x n : Int) (w : World) (h0 : 0 ≤ x) (h1 : x ≤ 65535) (h2 : -65535 ≤ n) (h3 : n ≤ 65535) :
    Calls Tryz.prog 60 #[.int .i64 x, .int .i64 n] w fun e w' => e = .returned (.int .i64 ((x + n) % 65536)) ∧ w = w' := by
  go_enter Tryz.func60, Tryz.ntmps60
  go_wp2
  go_ret
  exact ⟨ret_int (by first | omega | (rw [Int.tmod_eq_emod_of_nonneg (by omega)]; omega)), rfl⟩
theorem sBefore_any (a b : Int) (w : World) (h0 : 0 ≤ a) (h1 : a ≤ 65535) (h2 : 0 ≤ b) (h3 : b ≤ 65535) :
    Calls Tryz.prog 132 #[.int .i64 a, .int .i64 b] w fun e w' => e = .returned (.bool (inR (gp a b) 1 32767)) ∧ w = w' := by
  have HA := Lib.hid (sGap_any a b w h0 h1 h2 h3)
  go_enter Tryz.func132, Tryz.ntmps132
  go_wp2_with (first | (go_at_call 73; refine HA.out.mono ?_; rintro e w' ⟨rfl, rfl⟩) | (go_at_call 68; refine (l1In_any _ _ _ _).mono ?_; rintro e w' ⟨rfl, rfl⟩))
  go_ret
  exact ⟨rfl, rfl⟩
/-- a valid packet -/
def pkB (x : NPk) : Bool := inR x.kd 1 5 && inR x.nm 0 65535 && inR x.tr 0 65535 && inR x.ld 0 65535 && itB x.dt && decide (gp x.tr x.ld ≤ 32767) && (x.dt.toList.isEmpty || x.kd == 1 || x.kd == 2)
end Go.Proofs.YtihpibdodlgpaaaGreatDoor
