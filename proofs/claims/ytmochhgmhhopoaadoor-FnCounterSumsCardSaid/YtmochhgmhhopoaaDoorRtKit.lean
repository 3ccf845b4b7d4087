/- Contracts of the law's own helpers that compare lists of texts and lists of counters (equal ones). -/
import Derived.Test.YtmochhgmhhopoaaDoorStrS
import Derived.Test.YtmochhgmhhopoaaDoorCtS
import Derived.BigQuiet
import Derived.Laws.StructEq
namespace Go.Proofs.YtmochhgmhhopoaaDoor
open Go.RowKit

set_option maxRecDepth 100000 in
set_option maxHeartbeats 1000000 in
theorem rTexts_same (v v' : Value) (xs : List ByteArray) (w : World) (h : RdS w v xs) (h' : RdS w v' xs) :
    Calls Tryd.prog 45 #[v, v'] w fun e w' => e = .returned (.bool true) ∧ Below w.heap.size w w' := by
  have hlen := h.2.1
  obtain ⟨p, cap, b, off, rfl, hcap, hp, hcell⟩ := h.parts
  obtain ⟨p', cap', b', off', rfl, hcap', hp', hcell'⟩ := h'.parts
  have HC := Lib.hid hcell; clear hcell
  have HP := Lib.hid hp; clear hp h
  have HC' := Lib.hid hcell'; clear hcell'
  have HP' := Lib.hid hp'; clear hp' h'
  go_enter Tryd.func45, Tryd.ntmps45
  go_wp2
  go_loopw [5] (fun i wr => ∃ (k n : Nat), k ≤ xs.length ∧ i = .int .i64 k ∧ wr = w.drewN n)
    (fun i _ => xs.length - (intOf i).toNat)
  case atStart => exact ⟨0, 0, Nat.zero_le _, rfl, rfl⟩
  case round =>
    obtain ⟨k, n, hk, rfl, rfl⟩ := hrel
    by_cases hlt : k < xs.length
    · obtain rfl := HP.out (by omega)
      obtain rfl := HP'.out (by omega)
      have c1 := HC.out k hlt
      have c2 := HC'.out k hlt
      go_wp2
      go_quiet (fail)
      go_wp2
      go_roundw
      case rel => exact ⟨k + 1, n + nq, by omega, by go_num, by simp⟩
      case measure => simp [intOf]; omega
    · go_wp2
      go_ret
      exact ⟨rfl, below_eq ⟨n, rfl⟩⟩
set_option maxRecDepth 100000 in
set_option maxHeartbeats 2000000 in
theorem rCounters_same (v v' : Value) (xs : List Ct) (w : World) (h : RdCt w v xs) (h' : RdCt w v' xs) :
    Calls Tryd.prog 44 #[v, v'] w fun e w' => e = .returned (.bool true) ∧ Below w.heap.size w w' := by
  have hlen := h.2.1
  obtain ⟨p, cap, b, off, rfl, hcap, hp, hcell⟩ := h.parts
  obtain ⟨p', cap', b', off', rfl, hcap', hp', hcell'⟩ := h'.parts
  have HC := Lib.hid hcell; clear hcell
  have HP := Lib.hid hp; clear hp h
  have HC' := Lib.hid hcell'; clear hcell'
  have HP' := Lib.hid hp'; clear hp' h'
  go_enter Tryd.func44, Tryd.ntmps44
  go_wp2
  go_loopw [5] (fun i wr => ∃ (k : Nat), k ≤ xs.length ∧ i = .int .i64 k ∧ Below w.heap.size w wr)
    (fun i _ => xs.length - (intOf i).toNat)
  case atStart => exact ⟨0, Nat.zero_le _, rfl, Below.refl _ _⟩
  case round =>
    obtain ⟨k, hk, rfl, hb⟩ := hrel
    by_cases hlt : k < xs.length
    · obtain rfl := HP.out (by omega)
      obtain rfl := HP'.out (by omega)
      obtain ⟨c1, c2⟩ := HC.out k hlt
      obtain ⟨d1, d2⟩ := HC'.out k hlt
      have c1 := cell_on hb c1
      have c2 := cell_on hb c2
      have d1 := cell_on hb d1
      have d2 := cell_on hb d2
      generalize xs[k] = x at c1 c2 d1 d2
      obtain ⟨a1, a2⟩ := x
      simp only at c1 c2 d1 d2
      have HBb := Lib.hid hb.drew; clear hb
      go_wp2_with fail
      go_region_held3 (fun w' => w'.cell? ⟨b, off + k * 2, none⟩ = some (.string a1) ∧ w'.cell? ⟨b, off + k * 2 + 1, none⟩ = some (.int .i64 a2) ∧ w'.cell? ⟨b', off' + k * 2, none⟩ = some (.string a1) ∧ w'.cell? ⟨b', off' + k * 2 + 1, none⟩ = some (.int .i64 a2)) (go_keep) (first | fail)
      go_wp2
      go_roundw
      case rel => exact ⟨k + 1, by omega, by go_num, HBb.out⟩
      case measure => simp [intOf]; omega
    · go_wp2
      go_ret
      exact ⟨rfl, hb⟩
end Go.Proofs.YtmochhgmhhopoaaDoor
