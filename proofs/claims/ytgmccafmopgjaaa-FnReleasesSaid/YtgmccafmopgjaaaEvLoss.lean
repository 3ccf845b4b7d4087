/- Contracts on how many losses a trace has at each node: the program's and the reference's LossCounts, for all lists. -/
import Derived.Test.YtgmccafmopgjaaaEvSel
namespace Go.Proofs.Ytgmccafmopgjaaa
open Go.RowKit

def lcF (j : Nat) (x : Ev) : Bool := decide (x.k = 3 ∧ x.n = (j : Int))
def cntL (xs : List Ev) (n : Nat) : List Int := (List.range 8).map (fun j => ((cntN (lcF j) xs n : Nat) : Int))
noncomputable def lcL (xs : List Ev) : List Int := if tsB xs = true then cntL xs xs.length else []
theorem cntL_length (xs : List Ev) (n : Nat) : (cntL xs n).length = 8 := by simp [cntL]
theorem cntL_get (xs : List Ev) (n m : Nat) (h : m < (cntL xs n).length) : (cntL xs n)[m] = (cntN (lcF m) xs n : Nat) := by simp [cntL]
theorem cntL_zero (xs : List Ev) : cntL xs 0 = [0, 0, 0, 0, 0, 0, 0, 0] := by
  simp [cntL, cntN, List.range_succ]
theorem cntL_same (xs : List Ev) (n : Nat) (h : n < xs.length) (hk : xs[n].k ≠ 3) : cntL xs (n + 1) = cntL xs n := by
  unfold cntL
  apply List.map_congr_left
  intro j _
  rw [cntN_succ _ _ _ h, if_neg (by simp [lcF, hk])]
  rfl
theorem cntL_step (xs : List Ev) (n m : Nat) (h : n < xs.length) (hk : xs[n].k = 3) (hm : xs[n].n = (m : Int)) (h8 : m < 8) : ∃ c : Int, (cntL xs n)[m]? = some c ∧ 0 ≤ c ∧ c ≤ n ∧ cntL xs (n + 1) = (cntL xs n).set m (c + 1) := by
  refine ⟨(cntN (lcF m) xs n : Nat), ?_, by omega, by have := cntN_le (lcF m) xs n; omega, ?_⟩
  · rw [List.getElem?_eq_getElem (by rw [cntL_length]; exact h8), cntL_get]
  · apply List.ext_getElem
    · simp [cntL_length]
    · intro j h1 h2
      rw [cntL_get, List.getElem_set, cntN_succ _ _ _ h]
      by_cases hj : m = j
      · subst hj
        rw [if_pos (by simp [lcF, hk, hm]), if_pos rfl]
        omega
      · rw [if_neg (by simp only [lcF, hk, hm, true_and, decide_eq_true_eq]; omega), if_neg hj, cntL_get]
        rfl

theorem mk8 (w : World) : Sem.run Try.prog (Instr.makeSlice 29 (.int .i64 8) (.int .i64 8)) w = .ok (.slice (some ⟨w.heap.size, 0, none⟩) 8 8) (w.alloc (.cells (([0, 0, 0, 0, 0, 0, 0, 0] : List Int).map (Value.int .i64)).toArray 3)) := by kernel_rfl
theorem cnt_start (xs : List Ev) (w1 : World) : (w1.alloc (.cells (([0, 0, 0, 0, 0, 0, 0, 0] : List Int).map (Value.int .i64)).toArray 3)).ownsRow w1.heap.size 3 1 (.slice (some ⟨w1.heap.size, 0, none⟩) 8 8) 8 ((cntL xs 0).map (Value.int .i64)) := by
  rw [cntL_zero]
  exact World.ownsRow_lit w1 _ 8 (Nat.le_refl _) (by decide) rfl

set_option maxHeartbeats 4000000 in
theorem implLoss_any (v : Value) (xs : List Ev) (w : World) (h : RdEv w v xs) :
    Calls Try.prog 14 #[v] w fun e w' => ∃ v', e = .returned (.tuple #[v', .bool (tsB xs)]) ∧ OwI w.heap.size w' v' (lcL xs) ∧ Below w.heap.size w w' := by
  have HT := Lib.hid (isTrace_any v xs w h)
  have hlen := h.2
  obtain ⟨p, cap, b, off, rfl, hcap, hp, hcell⟩ := h.parts
  have HC := Lib.hid hcell; clear hcell
  have HP := Lib.hid hp; clear hp h
  cases hB : tsB xs
  · have HV : Hid (lcL xs = []) := Lib.hid (by simp [lcL, hB])
    rw [hB] at HT
    go_enter Try.func14, Try.ntmps14
    go_wp2_with fail
    refine HT.out.mono ?_
    rintro e w1 ⟨rfl, hb⟩
    go_wp2
    refine bodyPost_ret (v := (.tuple #[.slice none 0 0, .bool false])) (by simp [results, Try.results14, go_sem, *]) rfl ?_
    exact ⟨_, rfl, by rw [HV.out]; exact ⟨⟨rfl, .inl ⟨rfl, rfl⟩⟩, Nat.zero_le _⟩, hb⟩
  · have HV : Hid (lcL xs = cntL xs xs.length) := Lib.hid (by simp [lcL, hB])
    obtain ⟨h30, hgood, _⟩ := tsB_true.1 hB
    have HG := Lib.hid hgood; clear hgood
    rw [hB] at HT
    clear hB
    go_enter Try.func14, Try.ntmps14
    go_wp2_with fail
    refine HT.out.mono ?_
    rintro e w1 ⟨rfl, hb⟩
    have HB := Lib.hid hb; clear hb
    have hmk := mk8
    go_wp2
    clear hmk
    go_loopw [13] (fun i wr => ∃ n : Nat, n ≤ xs.length ∧ i = .int .i64 n ∧ wr.ownsRow w.heap.size 3 1 (.slice (some ⟨w1.heap.size, 0, none⟩) 8 8) 8 ((cntL xs n).map (Value.int .i64)) ∧ Below w.heap.size w wr) (fun i _ => xs.length - (intOf i).toNat)
    case atStart => exact ⟨0, Nat.zero_le _, rfl, own_base (cnt_start xs w1) HB.out.size, HB.out.trans ((below_alloc1 _ _).mono HB.out.size)⟩
    case round =>
      have HW1 := Lib.hid HB.out.size
      clear HB
      obtain ⟨n, hn, rfl, hown, hb⟩ := hrel
      have hsz := hb.size
      by_cases hlt : n < xs.length
      · obtain rfl := HP.out (by omega)
        obtain ⟨c1, c2, c3, c4⟩ := HC.out n hlt
        have c1 := cell_on hb c1
        have c2 := cell_on hb c2
        have c3 := cell_on hb c3
        have c4 := cell_on hb c4
        have hx := evB_iff.1 (HG.out n hlt)
        have hst := fun m => cntL_step xs n m hlt
        have hsa := cntL_same xs n hlt
        have hL8 := cntL_length xs n
        generalize xs[n] = x at c1 c2 c3 c4 hx hst hsa
        obtain ⟨xt, xn, xk, xm⟩ := x
        simp only at c1 c2 c3 c4 hx hst hsa
        obtain ⟨_, ⟨g1, g2⟩, _, _⟩ := hx
        obtain ⟨m, rfl⟩ := Int.eq_ofNat_of_zero_le g1
        have hm8 : m < 8 := by omega
        by_cases hk : xk = 3
        · subst hk
          obtain ⟨c, hc, hc0, hc1, hSt⟩ := hst m rfl rfl hm8
          have HSt := Lib.hid hSt
          clear hst hsa hSt
          have hO := hown
          generalize cntL xs n = L at *
          have hmL : m < L.length := by omega
          have hLm : L[m] = c := by rw [List.getElem?_eq_getElem hmL] at hc; exact Option.some.inj hc
          have e1 : wr.cell? ⟨w1.heap.size, m, none⟩ = some (.int .i64 c) := by rw [hown.cellAt m (by omega)]; simp [hmL, hLm]
          have f1 := hown.frozenAt m
          have hltB : w1.heap.size < wr.heap.size := (hown.lt _ rfl).2
          have hneB : w1.heap.size ≠ wr.heap.size := by omega
          have hss := hown.stored m (.int .i64 (c + 1))
          have HSS := Lib.hid hss; clear hss
          have HO := Lib.hid hO; clear hO hown
          clear hc hLm
          go_wp2
          go_roundw
          case rel =>
            refine ⟨n + 1, by omega, by go_num, ?_, ?_⟩
            · rw [HSt.out, List.map_set]; exact HSS.out.1.alloc _
            · have hw1 := HW1.out
              exact (hb.grown HSS.out.2 hb.size (fun j hj => by have := Option.some.inj hj; omega)).alloc (by simpa using hb.size) _
          case measure => simp [intOf]; omega
        · have HSa := Lib.hid (hsa hk)
          clear hst hsa
          have HO := Lib.hid hown; clear hown
          go_wp2
          go_roundw
          case rel => exact ⟨n + 1, by omega, by go_num, by rw [HSa.out]; exact own_below HO.out (by go_grown), by go_grown⟩
          case measure => simp [intOf]; omega
      · obtain rfl : n = xs.length := by omega
        have HH := Lib.hid (And.intro hown hb); clear hown hb
        go_wp2
        refine bodyPost_ret (v := (.tuple #[.slice (some ⟨w1.heap.size, 0, none⟩) 8 8, .bool true])) (by simp [results, Try.results14, go_sem, *]) rfl ?_
        exact ⟨_, rfl, by rw [HV.out]; exact ⟨by rw [cntL_length]; exact HH.out.1, by rw [cntL_length]; decide⟩, HH.out.2⟩

set_option maxHeartbeats 4000000 in
theorem specLoss_any (v : Value) (xs : List Ev) (w : World) (h : RdEv w v xs) :
    Calls Try.prog 15 #[v] w fun e w' => ∃ v', e = .returned (.tuple #[v', .bool (tsB xs)]) ∧ OwI w.heap.size w' v' (lcL xs) ∧ Below w.heap.size w w' := by
  have HT := Lib.hid (l17Good_any v xs w h)
  have hlen := h.2
  obtain ⟨p, cap, b, off, rfl, hcap, hp, hcell⟩ := h.parts
  have HC := Lib.hid hcell; clear hcell
  have HP := Lib.hid hp; clear hp h
  cases hB : tsB xs
  · have HV : Hid (lcL xs = []) := Lib.hid (by simp [lcL, hB])
    rw [hB] at HT
    go_enter Try.func15, Try.ntmps15
    go_wp2_with fail
    refine HT.out.mono ?_
    rintro e w1 ⟨rfl, hb⟩
    have HB := Lib.hid hb; clear hb
    go_wp2
    refine bodyPost_ret (v := (.tuple #[.slice (some ⟨w1.heap.size, 0, none⟩) 0 0, .bool false])) (by simp [results, Try.results15, go_sem, *]) rfl ?_
    exact ⟨_, rfl, by rw [HV.out]; exact (lit0 w1 (Below.refl _ _)).base HB.out.size, HB.out.trans ((below_alloc1 _ _).mono HB.out.size)⟩
  · have HV : Hid (lcL xs = cntL xs xs.length) := Lib.hid (by simp [lcL, hB])
    obtain ⟨h30, hgood, _⟩ := tsB_true.1 hB
    have HG := Lib.hid hgood; clear hgood
    rw [hB] at HT
    clear hB
    go_enter Try.func15, Try.ntmps15
    go_wp2_with fail
    refine HT.out.mono ?_
    rintro e w1 ⟨rfl, hb⟩
    have HB := Lib.hid hb; clear hb
    have hmk := mk8
    go_wp2
    clear hmk
    go_loopw [5, 6] (fun i _ wr => ∃ n : Nat, n ≤ xs.length ∧ i = .int .i64 n ∧ wr.ownsRow w.heap.size 3 1 (.slice (some ⟨w1.heap.size, 0, none⟩) 8 8) 8 ((cntL xs n).map (Value.int .i64)) ∧ Below w.heap.size w wr) (fun i _ _ => xs.length - (intOf i).toNat)
    case atStart => exact ⟨0, Nat.zero_le _, rfl, own_base (cnt_start xs w1) HB.out.size, HB.out.trans ((below_alloc1 _ _).mono HB.out.size)⟩
    case round =>
      have HW1 := Lib.hid HB.out.size
      clear HB
      obtain ⟨n, hn, rfl, hown, hb⟩ := hrel
      have hsz := hb.size
      by_cases hlt : n < xs.length
      · obtain rfl := HP.out (by omega)
        obtain ⟨c1, c2, c3, c4⟩ := HC.out n hlt
        have c1 := cell_on hb c1
        have c2 := cell_on hb c2
        have c3 := cell_on hb c3
        have c4 := cell_on hb c4
        have hx := evB_iff.1 (HG.out n hlt)
        have hst := fun m => cntL_step xs n m hlt
        have hsa := cntL_same xs n hlt
        have hL8 := cntL_length xs n
        generalize xs[n] = x at c1 c2 c3 c4 hx hst hsa
        obtain ⟨xt, xn, xk, xm⟩ := x
        simp only at c1 c2 c3 c4 hx hst hsa
        obtain ⟨_, ⟨g1, g2⟩, _, _⟩ := hx
        obtain ⟨m, rfl⟩ := Int.eq_ofNat_of_zero_le g1
        have hm8 : m < 8 := by omega
        by_cases hk : xk = 3
        · subst hk
          obtain ⟨c, hc, hc0, hc1, hSt⟩ := hst m rfl rfl hm8
          have HSt := Lib.hid hSt
          clear hst hsa hSt
          have hO := hown
          generalize cntL xs n = L at *
          have hmL : m < L.length := by omega
          have hLm : L[m] = c := by rw [List.getElem?_eq_getElem hmL] at hc; exact Option.some.inj hc
          have e1 : wr.cell? ⟨w1.heap.size, m, none⟩ = some (.int .i64 c) := by rw [hown.cellAt m (by omega)]; simp [hmL, hLm]
          have f1 := hown.frozenAt m
          have hltB : w1.heap.size < wr.heap.size := (hown.lt _ rfl).2
          have hneB : w1.heap.size ≠ wr.heap.size := by omega
          have hss := hown.stored m (.int .i64 (c + 1))
          have HSS := Lib.hid hss; clear hss
          have HO := Lib.hid hO; clear hO hown
          clear hc hLm
          go_wp2
          go_roundw
          case rel =>
            refine ⟨n + 1, by omega, by go_num, ?_, ?_⟩
            · rw [HSt.out, List.map_set]; exact HSS.out.1
            · have hw1 := HW1.out
              exact hb.grown HSS.out.2 hb.size (fun j hj => by have := Option.some.inj hj; omega)
          case measure => simp [intOf]; omega
        · have HSa := Lib.hid (hsa hk)
          clear hst hsa
          have HO := Lib.hid hown; clear hown
          go_wp2
          go_roundw
          case rel => exact ⟨n + 1, by omega, by go_num, by rw [HSa.out]; exact own_below HO.out (by go_grown), by go_grown⟩
          case measure => simp [intOf]; omega
      · obtain rfl : n = xs.length := by omega
        have HH := Lib.hid (And.intro hown hb); clear hown hb
        go_wp2
        refine bodyPost_ret (v := (.tuple #[.slice (some ⟨w1.heap.size, 0, none⟩) 8 8, .bool true])) (by simp [results, Try.results15, go_sem, *]) rfl ?_
        exact ⟨_, rfl, by rw [HV.out]; exact ⟨by rw [cntL_length]; exact HH.out.1, by rw [cntL_length]; decide⟩, HH.out.2⟩

end Go.Proofs.Ytgmccafmopgjaaa
