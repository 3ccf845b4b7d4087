/- Counts of a script and of its calm one, and the law's own sum of a list of numbers. -/
import Derived.Test.YtgmccafmopgjaaaGreatDoorScr2
import Derived.Test.YtgmccafmopgjaaaGreatDoorScr4
import Derived.Test.YtgmccafmopgjaaaGreatDoorScr7
import Derived.BigQuiet
namespace Go.Proofs.YtgmccafmopgjaaaGreatDoor
open Go.RowKit

def sumI (xs : List Int) (n : Nat) : Int := (xs.take n).sum
theorem sumI_succ (xs : List Int) (n : Nat) (h : n < xs.length) : sumI xs (n + 1) = sumI xs n + xs[n] := by
  rw [sumI, List.take_succ_eq_append_getElem h, List.sum_append]; simp [sumI]
theorem sumI_range (xs : List Int) (hx : ∀ x ∈ xs, 0 ≤ x ∧ x ≤ 1000) (n : Nat) (hn : n ≤ xs.length) : 0 ≤ sumI xs n ∧ sumI xs n ≤ n * 1000 := by
  induction n with
  | zero => simp [sumI]
  | succ n ih =>
    have := ih (by omega)
    have := hx _ (List.getElem_mem (by omega : n < xs.length))
    rw [sumI_succ xs n (by omega)]
    omega
theorem rSum_any (v : Value) (xs : List Int) (w : World) (h : RdI w v xs) (hx : ∀ x ∈ xs, 0 ≤ x ∧ x ≤ 1000) (h8 : xs.length ≤ 100) :
    Calls Tryz.prog 24 #[v] w fun e w' => e = .returned (.int .i64 (sumI xs xs.length)) ∧ w = w' := by
  obtain ⟨p, cap, b, off, rfl, hcap, hp, hcell⟩ := h.parts
  have HC := Lib.hid hcell; clear hcell
  have HP := Lib.hid hp; clear hp h
  have HR := Lib.hid (sumI_range xs hx)
  have HX := Lib.hid hx; clear hx
  go_enter Tryz.func24, Tryz.ntmps24
  go_wp2
  go_loopw [3, 4] (fun s i wr => ∃ k : Nat, k ≤ xs.length ∧ i = .int .i64 k ∧ s = .int .i64 (sumI xs k) ∧ wr = w) (fun _ i _ => xs.length - (intOf i).toNat)
  case atStart => exact ⟨0, Nat.zero_le _, rfl, rfl, rfl⟩
  case round =>
    obtain ⟨k, hk, rfl, rfl, rfl⟩ := hrel
    by_cases hlt : k < xs.length
    · obtain rfl := HP.out (by omega)
      have c1 := HC.out k hlt
      obtain ⟨r1, r2⟩ := HR.out k (by omega)
      obtain ⟨x1, x2⟩ := HX.out _ (List.getElem_mem hlt)
      have HS := Lib.hid (sumI_succ xs k hlt)
      go_wp2
      go_roundw
      case rel => exact ⟨k + 1, by omega, by go_num, by (rw [HS.out]; try rfl), by first | rfl | trivial⟩
      case measure => (simp [intOf]; try omega)
    · obtain rfl : k = xs.length := by omega
      go_wp2
      go_ret
      exact ⟨rfl, rfl⟩
theorem calm_kd (x : St) : (calm x).kd = if x.kd = 3 then 2 else if x.kd = 6 then 5 else x.kd := rfl
theorem calm_stB {x : St} (h : stB x = true) : stB (calm x) = true := by
  obtain ⟨k, n, d⟩ := x
  rcases stB_cases h with ⟨rfl, rfl, h8⟩ | ⟨rfl, rfl, he⟩ | ⟨hk, hn1, hn2, he⟩
  · exact h
  · exact h
  · have key : ∀ k : Int, (k = 2 ∨ k = 3 ∨ k = 5 ∨ k = 6) → stB ⟨k, n, d⟩ = true := by
      intro k hk
      rw [stB_else (by simp only; omega) (by simp only; omega)]
      simp only [Bool.and_eq_true, inR_true]
      exact ⟨⟨by omega, by omega⟩, he⟩
    refine key _ ?_
    simp only [calm]
    rcases hk with rfl | rfl | rfl | rfl <;> decide
theorem calm_counts : ∀ (L : List St), (∀ x ∈ L, 1 ≤ x.kd ∧ x.kd ≤ 6) →
    (L.map calm).countP (ccF 0) + (L.map calm).countP (ccF 1) + (L.map calm).countP (ccF 2) + (L.map calm).countP (ccF 3) + (L.map calm).countP (ccF 4) + (L.map calm).countP (ccF 5) = L.length ∧
    (L.map calm).countP (ccF 2) = 0 ∧ (L.map calm).countP (ccF 5) = 0 ∧ (L.map calm).countP (ccF 1) = L.countP (ccF 1) + L.countP (ccF 2) ∧ (L.map calm).countP (ccF 4) = L.countP (ccF 4) + L.countP (ccF 5)
  | [], _ => ⟨rfl, rfl, rfl, rfl, rfl⟩
  | x :: L, h => by
    obtain ⟨i1, i2, i3, i4, i5⟩ := calm_counts L (fun y hy => h y (List.mem_cons_of_mem _ hy))
    have hx := h x (List.mem_cons_self ..)
    simp only [List.map_cons, List.countP_cons, List.length_cons]
    have hk : x.kd = 1 ∨ x.kd = 2 ∨ x.kd = 3 ∨ x.kd = 4 ∨ x.kd = 5 ∨ x.kd = 6 := by omega
    have c : ∀ j, ccF j (calm x) = decide ((if x.kd = 3 then 2 else if x.kd = 6 then 5 else x.kd : Int) = (j : Int) + 1) := fun j => rfl
    have d : ∀ j, ccF j x = decide (x.kd = (j : Int) + 1) := fun j => rfl
    simp only [c, d, decide_eq_true_eq]
    clear c d h
    generalize (L.map calm).countP (ccF 0) = a0 at *
    generalize (L.map calm).countP (ccF 1) = a1 at *
    generalize (L.map calm).countP (ccF 2) = a2 at *
    generalize (L.map calm).countP (ccF 3) = a3 at *
    generalize (L.map calm).countP (ccF 4) = a4 at *
    generalize (L.map calm).countP (ccF 5) = a5 at *
    generalize L.countP (ccF 1) = e1 at *
    generalize L.countP (ccF 2) = e2 at *
    generalize L.countP (ccF 4) = e4 at *
    generalize L.countP (ccF 5) = e5 at *
    rcases hk with hk | hk | hk | hk | hk | hk <;> rw [hk] <;> simp <;> omega
theorem ccL_six {xs : List St} (h : scB xs = true) : ccL xs = [((xs.countP (ccF 0) : Nat) : Int), ((xs.countP (ccF 1) : Nat) : Int), ((xs.countP (ccF 2) : Nat) : Int), ((xs.countP (ccF 3) : Nat) : Int), ((xs.countP (ccF 4) : Nat) : Int), ((xs.countP (ccF 5) : Nat) : Int)] := by
  rw [ccL, if_pos h, ccN]
  simp only [cntN, List.take_length]
  rfl
theorem calm_facts {xs : List St} (h : scB xs = true) : scB (calmL xs) = true ∧ (calmL xs).length = xs.length ∧ xs.length ≤ 30 ∧ ∃ b0 b1 b2 b3 b4 b5 a0 a1 a3 a4 : Nat, ccL xs = [(b0 : Int), (b1 : Int), (b2 : Int), (b3 : Int), (b4 : Int), (b5 : Int)] ∧ ccL (calmL xs) = [(a0 : Int), (a1 : Int), 0, (a3 : Int), (a4 : Int), 0] ∧
    a0 + a1 + a3 + a4 = xs.length ∧ a1 = b1 + b2 ∧ a4 = b4 + b5 := by
  obtain ⟨h30, ha⟩ := scB_true.1 h
  have hall : ∀ x ∈ xs, stB x = true := by
    intro x hx
    obtain ⟨k, hk, rfl⟩ := List.getElem_of_mem hx
    exact ha k hk
  have hc : calmL xs = xs.map calm := if_pos h
  have hB : scB (xs.map calm) = true := by
    rw [scB_true]
    refine ⟨by simpa using h30, fun k hk => ?_⟩
    rw [List.getElem_map]
    exact calm_stB (ha k (by simpa using hk))
  obtain ⟨i1, i2, i3, i4, i5⟩ := calm_counts xs (fun x hx => stB_kd (hall x hx))
  rw [hc]
  refine ⟨hB, by simp, h30, _, _, _, _, _, _, (xs.map calm).countP (ccF 0), (xs.map calm).countP (ccF 1), (xs.map calm).countP (ccF 3), (xs.map calm).countP (ccF 4), ccL_six h, ?_, ?_, i4, i5⟩
  · rw [ccL_six hB, i2, i3]; rfl
  · omega
theorem rsum6 (v : Value) (d0 d1 d3 d4 n : Nat) (w : World) (h : RdI w v [(d0 : Int), (d1 : Int), 0, (d3 : Int), (d4 : Int), 0]) (hs : d0 + d1 + d3 + d4 = n) (hn : n ≤ 30) :
    Calls Tryz.prog 24 #[v] w fun e w' => e = .returned (.int .i64 (n : Int)) ∧ w = w' := by
  have hx : ∀ x ∈ [(d0 : Int), (d1 : Int), 0, (d3 : Int), (d4 : Int), 0], 0 ≤ x ∧ x ≤ 1000 := by
    intro x hx
    simp only [List.mem_cons, List.not_mem_nil, or_false] at hx
    omega
  have he : sumI [(d0 : Int), (d1 : Int), 0, (d3 : Int), (d4 : Int), 0] [(d0 : Int), (d1 : Int), 0, (d3 : Int), (d4 : Int), 0].length = (n : Int) := by
    simp only [sumI, List.take_length, List.sum_cons, List.sum_nil]
    omega
  rw [← he]
  exact rSum_any v _ w h hx (by simp)
theorem six_cells {w : World} {v : Value} {a0 a1 a2 a3 a4 a5 : Int} (h : RdI w v [a0, a1, a2, a3, a4, a5]) : ∃ cap b off, v = .slice (some ⟨b, off, none⟩) 6 cap ∧ 6 ≤ cap ∧ w.cell? ⟨b, off + 1, none⟩ = some (.int .i64 a1) ∧ w.cell? ⟨b, off + 2, none⟩ = some (.int .i64 a2) ∧ w.cell? ⟨b, off + 4, none⟩ = some (.int .i64 a4) ∧ w.cell? ⟨b, off + 5, none⟩ = some (.int .i64 a5) := by
  obtain ⟨p, cap, b, off, hv, hc, hp, hk⟩ := h.parts
  obtain rfl := hp (by simp)
  exact ⟨cap, b, off, hv, hc, hk 1 (by simp), hk 2 (by simp), hk 4 (by simp), hk 5 (by simp)⟩
end Go.Proofs.YtgmccafmopgjaaaGreatDoor
