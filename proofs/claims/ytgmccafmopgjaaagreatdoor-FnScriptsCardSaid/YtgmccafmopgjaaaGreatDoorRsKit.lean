/- Contracts of the law's own helpers that compare lists of steps and lists of texts (equal ones). -/
import Derived.Test.YtgmccafmopgjaaaGreatDoorStrS
import Derived.Test.YtgmccafmopgjaaaGreatDoorStS
import Derived.BigQuiet
import Derived.Laws.StructEq
namespace Go.Proofs.YtgmccafmopgjaaaGreatDoor
open Go.RowKit

set_option maxRecDepth 100000 in
set_option maxHeartbeats 2000000 in
theorem rSteps_q (v v' : Value) (xs : List St) (w : World) (h : RdSt w v xs) (h' : RdSt w v' xs) :
    Calls Tryz.prog 17 #[v, v'] w fun e w' => e = .returned (.bool true) ∧ ∃ n, w' = w.drewN n := by
  have hlen := h.2.1
  obtain ⟨p, cap, b, off, rfl, hcap, hp, hcell⟩ := h.parts
  obtain ⟨p', cap', b', off', rfl, hcap', hp', hcell'⟩ := h'.parts
  have HC := Lib.hid hcell; clear hcell
  have HP := Lib.hid hp; clear hp h
  have HC' := Lib.hid hcell'; clear hcell'
  have HP' := Lib.hid hp'; clear hp' h'
  go_enter Tryz.func17, Tryz.ntmps17
  go_wp2
  go_loopw [5] (fun i wr => ∃ (k n : Nat), k ≤ xs.length ∧ i = .int .i64 k ∧ wr = w.drewN n)
    (fun i _ => xs.length - (intOf i).toNat)
  case atStart => exact ⟨0, 0, Nat.zero_le _, rfl, rfl⟩
  case round =>
    obtain ⟨k, n, hk, rfl, rfl⟩ := hrel
    by_cases hlt : k < xs.length
    · obtain rfl := HP.out (by omega)
      obtain rfl := HP'.out (by omega)
      obtain ⟨c1, c2, c3⟩ := HC.out k hlt
      obtain ⟨d1, d2, d3⟩ := HC'.out k hlt
      generalize xs[k] = x at c1 c2 c3 d1 d2 d3
      obtain ⟨a1, a2, a3⟩ := x
      simp only at c1 c2 c3 d1 d2 d3
      go_wp2
      go_quiet (fail)
      go_wp2
      go_roundw
      case rel => exact ⟨k + 1, n + nq, by omega, by go_num, by simp⟩
      case measure => simp [intOf]; omega
    · go_wp2
      go_ret
      exact ⟨rfl, n, rfl⟩
theorem rSteps_same (v v' : Value) (xs : List St) (w : World) (h : RdSt w v xs) (h' : RdSt w v' xs) :
    Calls Tryz.prog 17 #[v, v'] w fun e w' => e = .returned (.bool true) ∧ Below w.heap.size w w' :=
  (rSteps_q v v' xs w h h').mono fun _ _ ⟨he, hn⟩ => ⟨he, below_eq hn⟩
end Go.Proofs.YtgmccafmopgjaaaGreatDoor
