/- How many steps of each kind: the program's and the reference's CountSteps, for all lists of at most 2^30 steps. -/
import Derived.Test.YtgmccafmopgjaaaGreatDoorScr1
import Derived.Test.YtgmccafmopgjaaaGreatDoorSelMath
import Derived.Test.YtgmccafmopgjaaaGreatDoorIntS
namespace Go.Proofs.YtgmccafmopgjaaaGreatDoor
open Go.RowKit

def ccF (j : Nat) (x : St) : Bool := decide (x.kd = (j : Int) + 1)
def ccN (xs : List St) (n : Nat) : List Int := (List.range 6).map (fun j => ((cntN (ccF j) xs n : Nat) : Int))
def ccL (xs : List St) : List Int := if scB xs = true then ccN xs xs.length else []
theorem ccN_length (xs : List St) (n : Nat) : (ccN xs n).length = 6 := by simp [ccN]
theorem ccN_get (xs : List St) (n m : Nat) (h : m < (ccN xs n).length) : (ccN xs n)[m] = (cntN (ccF m) xs n : Nat) := by simp [ccN]
theorem ccN_zero (xs : List St) : ccN xs 0 = [0, 0, 0, 0, 0, 0] := by
  simp [ccN, cntN, List.range_succ]
theorem ccN_step (xs : List St) (n m : Nat) (h : n < xs.length) (hk : xs[n].kd = (m : Int) + 1) (h8 : m < 6) : ∃ c : Int, (ccN xs n)[m]? = some c ∧ 0 ≤ c ∧ c ≤ n ∧ ccN xs (n + 1) = (ccN xs n).set m (c + 1) := by
  refine ⟨(cntN (ccF m) xs n : Nat), ?_, by omega, by have := cntN_le (ccF m) xs n; omega, ?_⟩
  · rw [List.getElem?_eq_getElem (by rw [ccN_length]; exact h8), ccN_get]
  · apply List.ext_getElem
    · simp [ccN_length]
    · intro j h1 h2
      rw [ccN_get, List.getElem_set, cntN_succ _ _ _ h]
      by_cases hj : m = j
      · subst hj
        rw [if_pos (by simp [ccF, hk]), if_pos rfl]
        omega
      · rw [if_neg (by simp only [ccF, hk, decide_eq_true_eq]; omega), if_neg hj, ccN_get]
        rfl
theorem mk6 (w : World) : Sem.run Tryz.prog (Instr.makeSlice 41 (.int .i64 6) (.int .i64 6)) w = .ok (.slice (some ⟨w.heap.size, 0, none⟩) 6 6) (w.alloc (.cells (([0, 0, 0, 0, 0, 0] : List Int).map (Value.int .i64)).toArray 3)) := by kernel_rfl
theorem cc_start (xs : List St) (w1 : World) : (w1.alloc (.cells (([0, 0, 0, 0, 0, 0] : List Int).map (Value.int .i64)).toArray 3)).ownsRow w1.heap.size 3 1 (.slice (some ⟨w1.heap.size, 0, none⟩) 6 6) 6 ((ccN xs 0).map (Value.int .i64)) := by
  rw [ccN_zero]
  exact World.ownsRow_lit w1 _ 6 (Nat.le_refl _) (by decide) rfl

set_option maxRecDepth 100000 in
set_option maxHeartbeats 4000000 in
theorem implCount_any (v : Value) (xs : List St) (w : World) (h : RdSt w v xs) :
    Calls Tryz.prog 23 #[v] w fun e w' => ∃ v', e = .returned (.tuple #[v', .bool (scB xs)]) ∧ OwI w.heap.size w' v' (ccL xs) ∧ Below w.heap.size w w' := by
  have HT := Lib.hid (implIsScript_any v xs w h)
  have hlen := h.2.1
  obtain ⟨p, cap, b, off, rfl, hcap, hp, hcell⟩ := h.parts
  have HC := Lib.hid hcell; clear hcell
  have HP := Lib.hid hp; clear hp h
  cases hB : scB xs
  · have HV : Hid (ccL xs = []) := Lib.hid (by simp [ccL, hB])
    rw [hB] at HT
    go_enter Tryz.func23, Tryz.ntmps23
    go_wp2_with fail
    refine HT.out.mono ?_
    rintro e w1 ⟨rfl, hb⟩
    have HB := Lib.hid hb; clear hb
    go_wp2
    refine bodyPost_ret (v := (.tuple #[.slice none 0 0, .bool false])) (by simp [results, Tryz.results23, go_sem, *]) rfl ?_
    exact ⟨_, rfl, by rw [HV.out]; exact ⟨⟨rfl, .inl ⟨rfl, rfl⟩⟩, Nat.zero_le _⟩, HB.out⟩
  · have HV : Hid (ccL xs = ccN xs xs.length) := Lib.hid (by simp [ccL, hB])
    obtain ⟨h30, hgood⟩ := scB_true.1 hB
    have HG := Lib.hid hgood; clear hgood
    rw [hB] at HT
    clear hB
    go_enter Tryz.func23, Tryz.ntmps23
    go_wp2_with fail
    refine HT.out.mono ?_
    rintro e w1 ⟨rfl, hb⟩
    have HB := Lib.hid hb; clear hb
    have hmk := mk6
    go_wp2
    clear hmk
    go_loopw [13] (fun i wr => ∃ n : Nat, n ≤ xs.length ∧ i = .int .i64 n ∧ wr.ownsRow w.heap.size 3 1 (.slice (some ⟨w1.heap.size, 0, none⟩) 6 6) 6 ((ccN xs n).map (Value.int .i64)) ∧ Below w.heap.size w wr) (fun i _ => xs.length - (intOf i).toNat)
    case atStart => exact ⟨0, Nat.zero_le _, rfl, own_base (cc_start xs w1) HB.out.size, HB.out.trans ((below_alloc1 _ _).mono HB.out.size)⟩
    case round =>
      have HW1 := Lib.hid HB.out.size
      clear HB
      obtain ⟨n, hn, rfl, hown, hb⟩ := hrel
      have hsz := hb.size
      by_cases hlt : n < xs.length
      · obtain rfl := HP.out (by omega)
        obtain ⟨c1, c2, c3⟩ := HC.out n hlt
        have c1 := cell_on hb c1
        have c2 := cell_on hb c2
        have c3 := cell_on hb c3
        have hx := stB_kd (HG.out n hlt)
        have hst := fun m => ccN_step xs n m hlt
        have hL8 := ccN_length xs n
        generalize xs[n] = x at c1 c2 c3 hx hst
        obtain ⟨xk, xn, xd⟩ := x
        simp only at c1 c2 c3 hx hst
        obtain ⟨m, rfl⟩ : ∃ m : Nat, xk = (m : Int) + 1 := ⟨(xk - 1).toNat, by omega⟩
        have hm8 : m < 6 := by omega
        obtain ⟨c, hc, hc0, hc1, hSt⟩ := hst m rfl hm8
        have HSt := Lib.hid hSt
        clear hst hSt
        have hO := hown
        generalize ccN xs n = L at *
        have hmL : m < L.length := by omega
        have hLm : L[m] = c := by rw [List.getElem?_eq_getElem hmL] at hc; exact Option.some.inj hc
        have e1 : wr.cell? ⟨w1.heap.size, m, none⟩ = some (.int .i64 c) := by rw [hown.cellAt m (by omega)]; simp [hmL, hLm]
        have f1 := hown.frozenAt m
        have hltB : w1.heap.size < wr.heap.size := (hown.lt _ rfl).2
        have hneB : w1.heap.size ≠ wr.heap.size := by omega
        have hsub : IntKind.i64.wrap ((m : Int) + 1 - 1) = m := by rw [IntKind.wrap_i64]; omega
        have hsub2 : (m : Int) + 1 - 1 = m := by omega
        have hss := hown.stored m (.int .i64 (c + 1))
        have HSS := Lib.hid hss; clear hss
        have HO := Lib.hid hO; clear hO hown
        clear hc hLm
        go_wp2
        go_roundw
        case rel =>
          refine ⟨n + 1, by omega, by go_num, ?_, ?_⟩
          · rw [HSt.out, List.map_set]; exact HSS.out.1.alloc _
          · have hw1 := HW1.out
            exact (hb.grown HSS.out.2 hb.size (fun j hj => by have := Option.some.inj hj; omega)).alloc (by simpa using hb.size) _
        case measure => simp [intOf]; omega
      · obtain rfl : n = xs.length := by omega
        have HH := Lib.hid (And.intro hown hb); clear hown hb
        go_wp2
        refine bodyPost_ret (v := (.tuple #[.slice (some ⟨w1.heap.size, 0, none⟩) 6 6, .bool true])) (by simp [results, Tryz.results23, go_sem, *]) rfl ?_
        exact ⟨_, rfl, by rw [HV.out]; exact ⟨by rw [ccN_length]; exact HH.out.1, by rw [ccN_length]; decide⟩, HH.out.2⟩

end Go.Proofs.YtgmccafmopgjaaaGreatDoor
