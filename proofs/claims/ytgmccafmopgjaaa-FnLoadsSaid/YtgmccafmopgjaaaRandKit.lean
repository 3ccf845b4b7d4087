/- Contracts of the law's own helper that compares lists of numbers (equal ones). -/
import Derived.Test.YtgmccafmopgjaaaIntS
import Derived.BigQuiet
namespace Go.Proofs.Ytgmccafmopgjaaa
open Go.RowKit

set_option maxRecDepth 100000 in
set_option maxHeartbeats 1000000 in
theorem rInts_same (v v' : Value) (xs : List Int) (w : World) (h : RdI w v xs) (h' : RdI w v' xs) :
    Calls Try.prog 11 #[v, v'] w fun e w' => e = .returned (.bool true) ∧ Below w.heap.size w w' := by
  have hlen := h.2
  obtain ⟨p, cap, b, off, rfl, hcap, hp, hcell⟩ := h.parts
  obtain ⟨p', cap', b', off', rfl, hcap', hp', hcell'⟩ := h'.parts
  have HC := Lib.hid hcell; clear hcell
  have HP := Lib.hid hp; clear hp h
  have HC' := Lib.hid hcell'; clear hcell'
  have HP' := Lib.hid hp'; clear hp' h'
  go_enter Try.func11, Try.ntmps11
  go_wp2
  go_loopw [5] (fun i wr => ∃ (k n : Nat), k ≤ xs.length ∧ i = .int .i64 k ∧ wr = w.drewN n)
    (fun i _ => xs.length - (intOf i).toNat)
  case atStart => exact ⟨0, 0, Nat.zero_le _, rfl, rfl⟩
  case round =>
    obtain ⟨k, n, hk, rfl, rfl⟩ := hrel
    by_cases hlt : k < xs.length
    · obtain rfl := HP.out (by omega)
      obtain rfl := HP'.out (by omega)
      have c1 := HC.out k hlt
      have c2 := HC'.out k hlt
      go_wp2
      go_quiet (fail)
      go_wp2
      go_roundw
      case rel => exact ⟨k + 1, n + nq, by omega, by go_num, by simp⟩
      case measure => simp [intOf]; omega
    · go_wp2
      go_ret
      exact ⟨rfl, below_eq ⟨n, rfl⟩⟩
end Go.Proofs.Ytgmccafmopgjaaa
