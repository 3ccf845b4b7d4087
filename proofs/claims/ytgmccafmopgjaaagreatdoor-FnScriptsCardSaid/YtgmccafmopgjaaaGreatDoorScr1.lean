/- Scripts: the program's IsScript, the reference's IsScript, for every list of at most 2^30 steps. -/
import Derived.Test.YtgmccafmopgjaaaGreatDoorScr0
namespace Go.Proofs.YtgmccafmopgjaaaGreatDoor
open Go.RowKit

/-- a script -/
def scB (xs : List St) : Bool := decide (xs.length ≤ 30) && xs.all stB
theorem scB_true {xs : List St} : scB xs = true ↔ xs.length ≤ 30 ∧ ∀ k (h : k < xs.length), stB xs[k] = true := by
  rw [scB, Bool.and_eq_true, decide_eq_true_eq, List.all_eq_true]
  exact and_congr_right fun _ => ⟨fun h k hk => h _ (List.getElem_mem _), fun h x hx => by obtain ⟨k, hk, rfl⟩ := List.getElem_of_mem hx; exact h k hk⟩
theorem all_bad {α : Type} {p : α → Bool} {xs : List α} (k : Nat) (h : k < xs.length) (hp : p xs[k] = false) : xs.all p = false := by
  cases hb : xs.all p with
  | false => rfl
  | true => rw [List.all_eq_true.1 hb _ (List.getElem_mem h)] at hp; cases hp
theorem all_good {α : Type} {p : α → Bool} {xs : List α} (h : ∀ k (h : k < xs.length), p xs[k] = true) : xs.all p = true :=
  List.all_eq_true.2 fun x hx => by obtain ⟨k, hk, rfl⟩ := List.getElem_of_mem hx; exact h k hk
theorem badStep_any (x : St) (w : World) (hx : x.ok) :
    Calls Tryz.prog 60 #[x.v] w fun e w' => e = .returned (.bool (!stB x)) ∧ Below w.heap.size w w' := by
  have H := Lib.hid (fun w => valid_any x w hx)
  obtain ⟨k, n, d⟩ := x
  go_enter Tryz.func60, Tryz.ntmps60
  go_wp2_with fail
  refine (H.out _).mono ?_
  rintro e w1 ⟨rfl, hb⟩
  go_wp2
  go_ret
  exact ⟨rfl, Below.trans (by go_grown) (hb.mono (by simp <;> omega))⟩
set_option maxRecDepth 100000 in
theorem indexStep_any (v : Value) (xs : List St) (w : World) (h : RdSt w v xs) :
    Calls Tryz.prog 76 #[v, .func (.func 60) #[] #[]] w fun e w' => (∃ k : Int, e = .returned (.int .i64 k) ∧ (k = -1 ∧ xs.all stB = true ∨ 0 ≤ k ∧ xs.all stB = false)) ∧ Below w.heap.size w w' := by
  have hlen := h.2.1
  have hok := Lib.hid h.2.2
  obtain ⟨p, cap, b, off, rfl, hcap, hp, hcell⟩ := h.parts
  have HC := Lib.hid hcell; clear hcell
  have HP := Lib.hid hp; clear hp
  go_enter Tryz.func76, Tryz.ntmps76
  go_wp2
  go_loopw [8] (fun i wr => ∃ (k : Nat), k ≤ xs.length ∧ i = .int .i64 k ∧ Below w.heap.size w wr ∧ Hid (∀ j (h : j < xs.length), j < k → stB xs[j] = true))
    (fun i _ => xs.length - (intOf i).toNat)
  case atStart => exact ⟨0, Nat.zero_le _, rfl, Below.refl _ _, Lib.hid fun j _ h => absurd h (by omega)⟩
  case round =>
    obtain ⟨k, hk, rfl, hb, HF⟩ := hrel
    by_cases hlt : k < xs.length
    · obtain rfl := HP.out (by omega)
      obtain ⟨c1, c2, c3⟩ := HC.out k hlt
      have c1 := cell_on hb c1
      have c2 := cell_on hb c2
      have c3 := cell_on hb c3
      have HT := Lib.hid (fun w => badStep_any ⟨xs[k].kd, xs[k].nd, xs[k].dt⟩ w (hok.out xs[k] (List.getElem_mem _)))
      rw [show stB ⟨xs[k].kd, xs[k].nd, xs[k].dt⟩ = stB xs[k] from rfl] at HT
      cases hx : stB xs[k]
      · rw [hx] at HT
        have HX := Lib.hid (all_bad k hlt hx); clear hx
        go_wp2_with (go_at_call 60; refine (HT.out _).mono ?_; rintro e w1 ⟨rfl, hb1⟩)
        go_ret
        exact ⟨⟨k, rfl, .inr ⟨by omega, HX.out⟩⟩, hb.trans (hb1.mono hb.size)⟩
      · rw [hx] at HT
        have HX := Lib.hid hx; clear hx
        go_wp2_with (go_at_call 60; refine (HT.out _).mono ?_; rintro e w1 ⟨rfl, hb1⟩)
        go_roundw
        case rel => exact ⟨k + 1, by omega, by go_num, hb.trans (hb1.mono hb.size), Lib.hid fun j h hj => (by
          by_cases he : j = k
          · subst he; exact HX.out
          · exact HF.out j h (by omega))⟩
        case measure => simp [intOf]; omega
    · go_wp2
      go_ret
      exact ⟨⟨-1, rfl, .inl ⟨rfl, all_good fun j h => HF.out j h (by omega)⟩⟩, hb⟩
theorem containsStep_any (v : Value) (xs : List St) (w : World) (h : RdSt w v xs) :
    Calls Tryz.prog 59 #[v, .func (.func 60) #[] #[]] w fun e w' => e = .returned (.bool (!xs.all stB)) ∧ Below w.heap.size w w' := by
  have H := Lib.hid (indexStep_any v xs w h)
  obtain ⟨p, cap, b, off, rfl, _⟩ := h.parts
  clear h
  go_enter Tryz.func59, Tryz.ntmps59
  go_wp2_with fail
  refine H.out.mono ?_
  rintro e w1 ⟨⟨k, rfl, hk⟩, hb⟩
  rcases hk with ⟨rfl, h1⟩ | ⟨h0, h1⟩
  · have H1 := Lib.hid h1; clear h1
    go_wp2
    go_ret
    exact ⟨ret_bool (by rw [H1.out]; rfl), hb⟩
  · have H1 := Lib.hid h1; clear h1
    go_wp2
    go_ret
    exact ⟨ret_bool (by rw [H1.out]; simp), hb⟩
theorem areSteps_any (v : Value) (xs : List St) (w : World) (h : RdSt w v xs) :
    Calls Tryz.prog 40 #[v, .int .i64 30] w fun e w' => e = .returned (.bool (scB xs)) ∧ Below w.heap.size w w' := by
  have hlen := h.2.1
  have H := Lib.hid (containsStep_any v xs w h)
  obtain ⟨p, cap, b, off, rfl, _⟩ := h.parts
  clear h
  by_cases h30 : xs.length ≤ 30
  · rw [show scB xs = xs.all stB from by simp [scB, h30]]
    cases hb : xs.all stB
    · rw [hb] at H
      clear hb
      go_enter Tryz.func40, Tryz.ntmps40
      go_wp2_with fail
      refine H.out.mono ?_
      rintro e w1 ⟨rfl, hb⟩
      go_wp2
      go_ret
      exact ⟨rfl, hb⟩
    · rw [hb] at H
      clear hb
      go_enter Tryz.func40, Tryz.ntmps40
      go_wp2_with fail
      refine H.out.mono ?_
      rintro e w1 ⟨rfl, hb⟩
      go_wp2
      go_ret
      exact ⟨rfl, hb⟩
  · rw [show scB xs = false from by simp [scB, h30]]
    go_enter Tryz.func40, Tryz.ntmps40
    go_wp2
    go_ret
    exact ⟨rfl, Below.refl _ _⟩
theorem implIsScript_any (v : Value) (xs : List St) (w : World) (h : RdSt w v xs) :
    Calls Tryz.prog 15 #[v] w fun e w' => e = .returned (.bool (scB xs)) ∧ Below w.heap.size w w' := by
  have H := Lib.hid (areSteps_any v xs w h)
  obtain ⟨p, cap, b, off, rfl, _⟩ := h.parts
  clear h
  go_enter Tryz.func15, Tryz.ntmps15
  go_wp2_with fail
  refine H.out.mono ?_
  rintro e w1 ⟨rfl, hb⟩
  go_wp2
  go_ret
  exact ⟨rfl, hb⟩
set_option maxRecDepth 100000 in
theorem l16Good_any (v : Value) (xs : List St) (w : World) (h : RdSt w v xs) :
    Calls Tryz.prog 38 #[v] w fun e w' => e = .returned (.bool (scB xs)) ∧ Below w.heap.size w w' := by
  have hlen := h.2.1
  have hok := Lib.hid h.2.2
  obtain ⟨p, cap, b, off, rfl, hcap, hp, hcell⟩ := h.parts
  have HC := Lib.hid hcell; clear hcell
  have HP := Lib.hid hp; clear hp
  go_enter Tryz.func38, Tryz.ntmps38
  go_wp2
  go_loopw [3] (fun i wr => ∃ (k : Nat), k ≤ xs.length ∧ i = .int .i64 k ∧ Below w.heap.size w wr ∧ Hid (∀ j (h : j < xs.length), j < k → stB xs[j] = true))
    (fun i _ => xs.length - (intOf i).toNat)
  case atStart => exact ⟨0, Nat.zero_le _, rfl, Below.refl _ _, Lib.hid fun j _ h => absurd h (by omega)⟩
  case round =>
    obtain ⟨k, hk, rfl, hb, HF⟩ := hrel
    by_cases hlt : k < xs.length
    · obtain rfl := HP.out (by omega)
      obtain ⟨c1, c2, c3⟩ := HC.out k hlt
      have c1 := cell_on hb c1
      have c2 := cell_on hb c2
      have c3 := cell_on hb c3
      have HT := Lib.hid (fun w => l15Step_any ⟨xs[k].kd, xs[k].nd, xs[k].dt⟩ w (hok.out xs[k] (List.getElem_mem _)))
      rw [show stB ⟨xs[k].kd, xs[k].nd, xs[k].dt⟩ = stB xs[k] from rfl] at HT
      cases hx : stB xs[k]
      · rw [hx] at HT
        have HX := Lib.hid (all_bad k hlt hx); clear hx
        go_wp2_with (go_at_call 27; refine (HT.out _).mono ?_; rintro e w1 ⟨rfl, hb1⟩)
        go_ret
        exact ⟨ret_bool (by rw [scB, HX.out, Bool.and_false]), hb.trans (hb1.mono hb.size)⟩
      · rw [hx] at HT
        have HX := Lib.hid hx; clear hx
        go_wp2_with (go_at_call 27; refine (HT.out _).mono ?_; rintro e w1 ⟨rfl, hb1⟩)
        go_roundw
        case rel => exact ⟨k + 1, by omega, by go_num, hb.trans (hb1.mono hb.size), Lib.hid fun j h hj => (by
          by_cases he : j = k
          · subst he; exact HX.out
          · exact HF.out j h (by omega))⟩
        case measure => simp [intOf]; omega
    · have HX : Hid (scB xs = decide (xs.length ≤ 30)) := Lib.hid (by rw [scB, all_good fun j h => HF.out j h (by omega), Bool.and_true])
      go_wp2
      go_ret
      exact ⟨ret_bool (by rw [HX.out]; congr 1; exact propext (by omega)), hb⟩
end Go.Proofs.YtgmccafmopgjaaaGreatDoor
