/- The first difference of two scripts: the program's and the reference's FirstDifference, for all lists of at most 2^30 steps. -/
import Derived.Test.YtbkkggbpekhenaaDoorScr1
import Derived.BigQuiet
import Derived.Laws.StructEq
namespace Go.Proofs.YtbkkggbpekhenaaDoor
open Go.RowKit

/-- two steps are equal, as Go compares them -/
def seqB (x y : St) : Bool := (x.kd == y.kd) && ((x.nd == y.nd) && (x.dt.toList == y.dt.toList))
theorem bytes_eq {a b : ByteArray} (h : a.toList = b.toList) : a = b := by
  rw [ByteArray.toList_eq, ByteArray.toList_eq] at h
  exact ByteArray.ext (Array.toList_inj.1 h)
theorem seqB_iff {x y : St} : seqB x y = true ↔ x = y := by
  obtain ⟨a, b, c⟩ := x
  obtain ⟨a', b', c'⟩ := y
  simp only [seqB, Bool.and_eq_true, beq_iff_eq, St.mk.injEq]
  exact ⟨fun ⟨h1, h2, h3⟩ => ⟨h1, h2, bytes_eq h3⟩, fun ⟨h1, h2, h3⟩ => ⟨h1, h2, by rw [h3]⟩⟩
instance : DecidableEq St := fun x y => decidable_of_iff (seqB x y = true) seqB_iff
set_option maxRecDepth 100000 in
set_option maxHeartbeats 2000000 in
theorem equalSt_any (v v' : Value) (xs ys : List St) (w : World) (h : RdSt w v xs) (h' : RdSt w v' ys) :
    Calls Tryd.prog 67 #[v, v'] w fun e w' => e = .returned (.bool (decide (xs = ys))) ∧ Below w.heap.size w w' := by
  have hlen := h.2.1
  have hlen' := h'.2.1
  obtain ⟨p, cap, b, off, rfl, hcap, hp, hcell⟩ := h.parts
  obtain ⟨p', cap', b', off', rfl, hcap', hp', hcell'⟩ := h'.parts
  have HC := Lib.hid hcell; clear hcell
  have HP := Lib.hid hp; clear hp
  have HC' := Lib.hid hcell'; clear hcell'
  have HP' := Lib.hid hp'; clear hp'
  clear h h'
  by_cases hl : xs.length = ys.length
  · have HL := Lib.hid hl
    go_enter Tryd.func67, Tryd.ntmps67
    go_wp2
    go_loopw [13] (fun i wr => ∃ (k : Nat), k ≤ ys.length ∧ i = .int .i64 k ∧ Below w.heap.size w wr ∧ Hid (∀ j (h : j < xs.length) (h' : j < ys.length), j < k → xs[j] = ys[j]))
      (fun i _ => ys.length - (intOf i).toNat)
    case atStart => exact ⟨0, Nat.zero_le _, rfl, Below.refl _ _, Lib.hid fun j _ _ h => absurd h (by omega)⟩
    case round =>
      obtain ⟨k, hk, rfl, hb, HF⟩ := hrel
      by_cases hlt : k < ys.length
      · obtain rfl := HP.out (by have := HL.out; omega)
        obtain rfl := HP'.out (by omega)
        obtain ⟨c1, c2, c3⟩ := HC.out k (by have := HL.out; omega)
        obtain ⟨d1, d2, d3⟩ := HC'.out k hlt
        have c1 := cell_on hb c1
        have c2 := cell_on hb c2
        have c3 := cell_on hb c3
        have d1 := cell_on hb d1
        have d2 := cell_on hb d2
        have d3 := cell_on hb d3
        have heq : xs[k] = ys[k] → ∀ j (h : j < xs.length) (h' : j < ys.length), j < k + 1 → xs[j] = ys[j] := fun h0 j h h' hj => (by
          by_cases he : j = k
          · subst he; exact h0
          · exact HF.out j h h' (by omega))
        have hne : xs[k] ≠ ys[k] → Hid (decide (xs = ys) = false) := fun h0 => Lib.hid (decide_eq_false fun h => h0 (by subst h; rfl))
        generalize xs[k] = x at c1 c2 c3 heq hne
        generalize ys[k] = y at d1 d2 d3 heq hne
        obtain ⟨a1, a2, a3⟩ := x
        obtain ⟨b1, b2, b3⟩ := y
        simp only at c1 c2 c3 d1 d2 d3
        have HEQ := Lib.hid heq; clear heq
        have HBb := Lib.hid hb.drew; clear hb
        go_wp2_with fail
        by_cases q1 : a1 = b1
        · subst q1
          by_cases q2 : a2 = b2
          · subst q2
            by_cases q3 : a3 = b3
            · subst q3
              go_region_held3 (fun w' => w'.cell? ⟨b, off + k * 3, none⟩ = some (.int .i64 a1) ∧ w'.cell? ⟨b, off + k * 3 + 1, none⟩ = some (.int .i64 a2) ∧ w'.cell? ⟨b, off + k * 3 + 2, none⟩ = some (.string a3) ∧ w'.cell? ⟨b', off' + k * 3, none⟩ = some (.int .i64 a1) ∧ w'.cell? ⟨b', off' + k * 3 + 1, none⟩ = some (.int .i64 a2) ∧ w'.cell? ⟨b', off' + k * 3 + 2, none⟩ = some (.string a3)) (go_keep) (first | fail)
              go_wp2
              go_roundw
              case rel => exact ⟨_, _, _, ⟨k + 1, by omega, rfl, HBb.out, Lib.hid fun j h h' hj => HEQ.out (by simp) j (by have := HL.out; omega) h' hj⟩, rfl, rfl, by go_num⟩
              case measure => simp [intOf]; omega
            · have n3 : (a3.toList == b3.toList) = false := by rw [beq_eq_false_iff_ne]; exact fun h => q3 (bytes_eq h)
              have hne := hne (by simp only [ne_eq, St.mk.injEq]; exact fun h => q3 h.2.2)
              clear q3
              go_region_held3 (fun w' => w'.cell? ⟨b, off + k * 3, none⟩ = some (.int .i64 a1) ∧ w'.cell? ⟨b, off + k * 3 + 1, none⟩ = some (.int .i64 a2) ∧ w'.cell? ⟨b, off + k * 3 + 2, none⟩ = some (.string a3) ∧ w'.cell? ⟨b', off' + k * 3, none⟩ = some (.int .i64 a1) ∧ w'.cell? ⟨b', off' + k * 3 + 1, none⟩ = some (.int .i64 a2) ∧ w'.cell? ⟨b', off' + k * 3 + 2, none⟩ = some (.string b3)) (go_keep) (first | fail)
              go_wp2
              go_ret
              exact ⟨ret_bool hne.out.symm, HBb.out⟩
          · have n2 : (a2 == b2) = false := by rw [beq_eq_false_iff_ne]; exact q2
            have hne := hne (by simp only [ne_eq, St.mk.injEq]; exact fun h => q2 h.2.1)
            clear q2
            go_region_held3 (fun w' => w'.cell? ⟨b, off + k * 3, none⟩ = some (.int .i64 a1) ∧ w'.cell? ⟨b, off + k * 3 + 1, none⟩ = some (.int .i64 a2) ∧ w'.cell? ⟨b, off + k * 3 + 2, none⟩ = some (.string a3) ∧ w'.cell? ⟨b', off' + k * 3, none⟩ = some (.int .i64 a1) ∧ w'.cell? ⟨b', off' + k * 3 + 1, none⟩ = some (.int .i64 b2) ∧ w'.cell? ⟨b', off' + k * 3 + 2, none⟩ = some (.string b3)) (go_keep) (first | fail)
            go_wp2
            go_ret
            exact ⟨ret_bool hne.out.symm, HBb.out⟩
        · have n1 : (a1 == b1) = false := by rw [beq_eq_false_iff_ne]; exact q1
          have hne := hne (by simp only [ne_eq, St.mk.injEq]; exact fun h => q1 h.1)
          clear q1
          go_region_held3 (fun w' => w'.cell? ⟨b, off + k * 3, none⟩ = some (.int .i64 a1) ∧ w'.cell? ⟨b, off + k * 3 + 1, none⟩ = some (.int .i64 a2) ∧ w'.cell? ⟨b, off + k * 3 + 2, none⟩ = some (.string a3) ∧ w'.cell? ⟨b', off' + k * 3, none⟩ = some (.int .i64 b1) ∧ w'.cell? ⟨b', off' + k * 3 + 1, none⟩ = some (.int .i64 b2) ∧ w'.cell? ⟨b', off' + k * 3 + 2, none⟩ = some (.string b3)) (go_keep) (first | fail)
          go_wp2
          go_ret
          exact ⟨ret_bool hne.out.symm, HBb.out⟩
      · have HX : Hid (decide (xs = ys) = true) := Lib.hid (decide_eq_true (List.ext_getElem HL.out fun j h h' => HF.out j h h' (by omega)))
        go_wp2
        go_ret
        exact ⟨ret_bool HX.out.symm, hb⟩
  · have HX : Hid (decide (xs = ys) = false) := Lib.hid (decide_eq_false fun h => hl (by rw [h]))
    go_enter Tryd.func67, Tryd.ntmps67
    go_wp2
    go_ret
    exact ⟨ret_bool HX.out.symm, Below.refl _ _⟩
/-- how far two lists agree -/
def fdN : List St → List St → Nat
  | x :: xs, y :: ys => if x = y then fdN xs ys + 1 else 0
  | _, _ => 0
theorem fd_uniq (xs ys : List St) (k : Nat) (h1 : k ≤ xs.length) (h2 : k ≤ ys.length) (he : ∀ j (h : j < xs.length) (h' : j < ys.length), j < k → xs[j] = ys[j]) (hn : ∀ (h : k < xs.length) (h' : k < ys.length), xs[k] ≠ ys[k]) : fdN xs ys = k := by
  induction xs generalizing ys k with
  | nil => have : k = 0 := by simpa using h1
           subst this; unfold fdN; rfl
  | cons x xs ih =>
    cases ys with
    | nil => have : k = 0 := by simpa using h2
             subst this; unfold fdN; rfl
    | cons y ys =>
      unfold fdN
      cases k with
      | zero => rw [if_neg (show ¬ x = y from hn (Nat.succ_pos _) (Nat.succ_pos _))]
      | succ k =>
        rw [if_pos (show x = y from he 0 (Nat.succ_pos _) (Nat.succ_pos _) (Nat.succ_pos _)), ih ys k (Nat.le_of_succ_le_succ h1) (Nat.le_of_succ_le_succ h2)]
        · intro j h h' hj
          exact he (j + 1) (Nat.succ_lt_succ h) (Nat.succ_lt_succ h') (by omega)
        · intro h h'
          exact hn (Nat.succ_lt_succ h) (Nat.succ_lt_succ h')
def fdB (xs ys : List St) : Bool := scB xs && scB ys && !decide (xs = ys)
def fdV (xs ys : List St) : Int := if fdB xs ys = true then fdN xs ys else 0
theorem fd_no {xs ys : List St} (h : fdB xs ys = false) : fdV xs ys = 0 := if_neg (by rw [h]; exact Bool.false_ne_true)
theorem fd_yes {xs ys : List St} (h : fdB xs ys = true) : fdV xs ys = fdN xs ys := if_pos h
theorem fd_ret {f : FuncId} (_ : f = f) {a b : Int} {c d : Bool} (h1 : a = b) (h2 : c = d) : Ending.returned (.tuple #[.int .i64 a, .bool c]) = .returned (.tuple #[.int .i64 b, .bool d]) := by rw [h1, h2]
set_option maxRecDepth 100000 in
set_option maxHeartbeats 4000000 in
theorem implDiff_any (v v' : Value) (xs ys : List St) (w : World) (h : RdSt w v xs) (h' : RdSt w v' ys) :
    Calls Tryd.prog 29 #[v, v'] w fun e w' => e = .returned (.tuple #[.int .i64 (fdV xs ys), .bool (fdB xs ys)]) ∧ Below w.heap.size w w' := by
  have HA := Lib.hid (implIsScript_any v xs w h)
  have HB := Lib.hid (fun w => implIsScript_any v' ys w)
  have HR := Lib.hid h
  have HR' := Lib.hid h'
  have HQ := Lib.hid (fun w => equalSt_any v v' xs ys w)
  have hlen := h.2.1
  have hlen' := h'.2.1
  obtain ⟨p, cap, b, off, rfl, hcap, hp, hcell⟩ := h.parts
  obtain ⟨p', cap', b', off', rfl, hcap', hp', hcell'⟩ := h'.parts
  have HC := Lib.hid hcell; clear hcell
  have HP := Lib.hid hp; clear hp
  have HC' := Lib.hid hcell'; clear hcell'
  have HP' := Lib.hid hp'; clear hp'
  clear h h'
  cases h1 : scB xs
  · have HV : Hid (fdB xs ys = false) := Lib.hid (by simp [fdB, h1])
    rw [h1] at HA
    clear h1
    go_enter Tryd.func29, Tryd.ntmps29
    go_wp2_with fail
    refine HA.out.mono ?_
    rintro e w1 ⟨rfl, hb1⟩
    go_wp2
    refine bodyPost_ret (v := (.tuple #[.int .i64 0, .bool false])) (by simp [results, Tryd.results29, go_sem, *]) rfl ?_
    exact ⟨fd_ret (f := 0) rfl (fd_no HV.out).symm HV.out.symm, hb1⟩
  · cases h2 : scB ys
    · have HV : Hid (fdB xs ys = false) := Lib.hid (by simp [fdB, h2])
      rw [h1] at HA
      rw [h2] at HB
      clear h1 h2
      go_enter Tryd.func29, Tryd.ntmps29
      go_wp2_with fail
      refine HA.out.mono ?_
      rintro e w1 ⟨rfl, hb1⟩
      go_wp2_with fail
      refine (HB.out _ (HR'.out.below hb1)).mono ?_
      rintro e w2 ⟨rfl, hb2⟩
      have HW := Lib.hid (hb1.trans (hb2.mono hb1.size)); clear hb1 hb2
      go_wp2
      refine bodyPost_ret (v := (.tuple #[.int .i64 0, .bool false])) (by simp [results, Tryd.results29, go_sem, *]) rfl ?_
      exact ⟨fd_ret (f := 0) rfl (fd_no HV.out).symm HV.out.symm, HW.out⟩
    · have HV : Hid (fdB xs ys = !decide (xs = ys)) := Lib.hid (by simp [fdB, h1, h2])
      rw [h1] at HA
      rw [h2] at HB
      have h30 := (scB_true.1 h1).1
      have h30' := (scB_true.1 h2).1
      clear h1 h2
      cases hq : decide (xs = ys)
      rotate_left
      · rw [hq] at HQ HV
        clear hq
        go_enter Tryd.func29, Tryd.ntmps29
        go_wp2_with fail
        refine HA.out.mono ?_
        rintro e w1 ⟨rfl, hb1⟩
        go_wp2_with fail
        refine (HB.out _ (HR'.out.below hb1)).mono ?_
        rintro e w2 ⟨rfl, hb2⟩
        have hb2' := hb1.trans (hb2.mono hb1.size)
        go_wp2_with fail
        refine (HQ.out _ (HR.out.below hb2') (HR'.out.below hb2')).mono ?_
        rintro e w3 ⟨rfl, hb3⟩
        have HW := Lib.hid (hb2'.trans (hb3.mono hb2'.size)); clear hb1 hb2 hb3 hb2'
        go_wp2
        refine bodyPost_ret (v := (.tuple #[.int .i64 0, .bool false])) (by simp [results, Tryd.results29, go_sem, *]) rfl ?_
        exact ⟨fd_ret (f := 0) rfl (fd_no HV.out).symm HV.out.symm, HW.out⟩
      · have HQN := Lib.hid (of_decide_eq_false hq)
        rw [hq] at HQ HV
        clear hq
        go_enter Tryd.func29, Tryd.ntmps29
        go_wp2_with fail
        refine HA.out.mono ?_
        rintro e w1 ⟨rfl, hb1⟩
        go_wp2_with fail
        refine (HB.out _ (HR'.out.below hb1)).mono ?_
        rintro e w2 ⟨rfl, hb2⟩
        have hb2' := hb1.trans (hb2.mono hb1.size)
        go_wp2_with fail
        refine (HQ.out _ (HR.out.below hb2') (HR'.out.below hb2')).mono ?_
        rintro e w3 ⟨rfl, hb3⟩
        have HW := Lib.hid (hb2'.trans (hb3.mono hb2'.size)); clear hb1 hb2 hb3 hb2' HA HB HQ
        go_wp2
        go_loopw [6] (fun i wr => ∃ (k : Nat), k ≤ xs.length ∧ k ≤ ys.length ∧ i = .int .i64 k ∧ Below w.heap.size w wr ∧ Hid (∀ j (h : j < xs.length) (h' : j < ys.length), j < k → xs[j] = ys[j]))
          (fun i _ => xs.length - (intOf i).toNat)
        case atStart => exact ⟨0, Nat.zero_le _, Nat.zero_le _, rfl, HW.out, Lib.hid fun j _ _ h => absurd h (by omega)⟩
        case round =>
          clear HW
          obtain ⟨k, hk, hk', rfl, hb, HF⟩ := hrel
          by_cases hlt : k < xs.length
          · by_cases hlt' : k < ys.length
            · obtain rfl := HP.out (by omega)
              obtain rfl := HP'.out (by omega)
              obtain ⟨c1, c2, c3⟩ := HC.out k hlt
              obtain ⟨d1, d2, d3⟩ := HC'.out k hlt'
              have c1 := cell_on hb c1
              have c2 := cell_on hb c2
              have c3 := cell_on hb c3
              have d1 := cell_on hb d1
              have d2 := cell_on hb d2
              have d3 := cell_on hb d3
              have heq : xs[k] = ys[k] → ∀ j (h : j < xs.length) (h' : j < ys.length), j < k + 1 → xs[j] = ys[j] := fun h0 j h h' hj => (by
                by_cases he : j = k
                · subst he; exact h0
                · exact HF.out j h h' (by omega))
              have hne : xs[k] ≠ ys[k] → Hid (fdN xs ys = k) := fun h0 => Lib.hid (fd_uniq xs ys k hk hk' HF.out (fun _ _ => h0))
              generalize xs[k] = x at c1 c2 c3 heq hne
              generalize ys[k] = y at d1 d2 d3 heq hne
              obtain ⟨a1, a2, a3⟩ := x
              obtain ⟨b1, b2, b3⟩ := y
              simp only at c1 c2 c3 d1 d2 d3
              have HEQ := Lib.hid heq; clear heq
              have HBb := Lib.hid hb.drew; clear hb
              have hmin : decide ((k : Int) < min (xs.length : Int) (ys.length : Int)) = true := decide_eq_true (by omega)
              go_wp2_with fail
              by_cases q1 : a1 = b1
              · subst q1
                by_cases q2 : a2 = b2
                · subst q2
                  by_cases q3 : a3 = b3
                  · subst q3
                    go_region_held3 (fun w' => w'.cell? ⟨b, off + k * 3, none⟩ = some (.int .i64 a1) ∧ w'.cell? ⟨b, off + k * 3 + 1, none⟩ = some (.int .i64 a2) ∧ w'.cell? ⟨b, off + k * 3 + 2, none⟩ = some (.string a3) ∧ w'.cell? ⟨b', off' + k * 3, none⟩ = some (.int .i64 a1) ∧ w'.cell? ⟨b', off' + k * 3 + 1, none⟩ = some (.int .i64 a2) ∧ w'.cell? ⟨b', off' + k * 3 + 2, none⟩ = some (.string a3)) (go_keep) (first | fail)
                    go_wp2
                    go_roundw
                    case rel => first | exact ⟨k + 1, by omega, by omega, by go_num, HBb.out, Lib.hid (HEQ.out (by simp))⟩ | (trace_state; sorry)
                    case measure => simp [intOf]; omega
                  · have n3 : (a3.toList == b3.toList) = false := by rw [beq_eq_false_iff_ne]; exact fun h => q3 (bytes_eq h)
                    have hne := hne (by simp only [ne_eq, St.mk.injEq]; exact fun h => q3 h.2.2)
                    clear q3
                    go_region_held3 (fun w' => w'.cell? ⟨b, off + k * 3, none⟩ = some (.int .i64 a1) ∧ w'.cell? ⟨b, off + k * 3 + 1, none⟩ = some (.int .i64 a2) ∧ w'.cell? ⟨b, off + k * 3 + 2, none⟩ = some (.string a3) ∧ w'.cell? ⟨b', off' + k * 3, none⟩ = some (.int .i64 a1) ∧ w'.cell? ⟨b', off' + k * 3 + 1, none⟩ = some (.int .i64 a2) ∧ w'.cell? ⟨b', off' + k * 3 + 2, none⟩ = some (.string b3)) (go_keep) (first | fail)
                    go_wp2
                    refine bodyPost_ret (v := (.tuple #[.int .i64 k, .bool true])) (by simp [results, Tryd.results29, go_sem, *]) rfl ?_
                    exact ⟨fd_ret (f := 0) rfl (by rw [fd_yes HV.out, hne.out]) HV.out.symm, HBb.out⟩
                · have n2 : (a2 == b2) = false := by rw [beq_eq_false_iff_ne]; exact q2
                  have hne := hne (by simp only [ne_eq, St.mk.injEq]; exact fun h => q2 h.2.1)
                  clear q2
                  go_region_held3 (fun w' => w'.cell? ⟨b, off + k * 3, none⟩ = some (.int .i64 a1) ∧ w'.cell? ⟨b, off + k * 3 + 1, none⟩ = some (.int .i64 a2) ∧ w'.cell? ⟨b, off + k * 3 + 2, none⟩ = some (.string a3) ∧ w'.cell? ⟨b', off' + k * 3, none⟩ = some (.int .i64 a1) ∧ w'.cell? ⟨b', off' + k * 3 + 1, none⟩ = some (.int .i64 b2) ∧ w'.cell? ⟨b', off' + k * 3 + 2, none⟩ = some (.string b3)) (go_keep) (first | fail)
                  go_wp2
                  refine bodyPost_ret (v := (.tuple #[.int .i64 k, .bool true])) (by simp [results, Tryd.results29, go_sem, *]) rfl ?_
                  exact ⟨fd_ret (f := 0) rfl (by rw [fd_yes HV.out, hne.out]) HV.out.symm, HBb.out⟩
              · have n1 : (a1 == b1) = false := by rw [beq_eq_false_iff_ne]; exact q1
                have hne := hne (by simp only [ne_eq, St.mk.injEq]; exact fun h => q1 h.1)
                clear q1
                go_region_held3 (fun w' => w'.cell? ⟨b, off + k * 3, none⟩ = some (.int .i64 a1) ∧ w'.cell? ⟨b, off + k * 3 + 1, none⟩ = some (.int .i64 a2) ∧ w'.cell? ⟨b, off + k * 3 + 2, none⟩ = some (.string a3) ∧ w'.cell? ⟨b', off' + k * 3, none⟩ = some (.int .i64 b1) ∧ w'.cell? ⟨b', off' + k * 3 + 1, none⟩ = some (.int .i64 b2) ∧ w'.cell? ⟨b', off' + k * 3 + 2, none⟩ = some (.string b3)) (go_keep) (first | fail)
                go_wp2
                refine bodyPost_ret (v := (.tuple #[.int .i64 k, .bool true])) (by simp [results, Tryd.results29, go_sem, *]) rfl ?_
                exact ⟨fd_ret (f := 0) rfl (by rw [fd_yes HV.out, hne.out]) HV.out.symm, HBb.out⟩
            · have HD := Lib.hid (fd_uniq xs ys k hk hk' HF.out (fun h h' => absurd h' (by omega)))
              have HBb := Lib.hid hb; clear hb
              have hmin : decide ((k : Int) < min (xs.length : Int) (ys.length : Int)) = false := decide_eq_false (by omega)
              go_wp2
              go_quiet (fail)
              go_wp2
              refine bodyPost_ret (v := (.tuple #[.int .i64 k, .bool true])) (by simp [results, Tryd.results29, go_sem, *]) rfl ?_
              exact ⟨fd_ret (f := 0) rfl (by rw [fd_yes HV.out, HD.out]) HV.out.symm, below_drewN HBb.out _⟩
          · have HD := Lib.hid (fd_uniq xs ys k hk hk' HF.out (fun h h' => absurd h (by omega)))
            have HBb := Lib.hid hb; clear hb
            have hmin : decide ((k : Int) < min (xs.length : Int) (ys.length : Int)) = false := decide_eq_false (by omega)
            go_wp2
            go_quiet (fail)
            go_wp2
            refine bodyPost_ret (v := (.tuple #[.int .i64 k, .bool true])) (by simp [results, Tryd.results29, go_sem, *]) rfl ?_
            exact ⟨fd_ret (f := 0) rfl (by rw [fd_yes HV.out, HD.out]) HV.out.symm, below_drewN HBb.out _⟩
set_option maxRecDepth 100000 in
set_option maxHeartbeats 4000000 in
theorem specDiff_any (v v' : Value) (xs ys : List St) (w : World) (h : RdSt w v xs) (h' : RdSt w v' ys) :
    Calls Tryd.prog 30 #[v, v'] w fun e w' => e = .returned (.tuple #[.int .i64 (fdV xs ys), .bool (fdB xs ys)]) ∧ Below w.heap.size w w' := by
  have HA := Lib.hid (l16Good_any v xs w h)
  have HB := Lib.hid (fun w => l16Good_any v' ys w)
  have HR := Lib.hid h
  have HR' := Lib.hid h'
  have hlen := h.2.1
  have hlen' := h'.2.1
  obtain ⟨p, cap, b, off, rfl, hcap, hp, hcell⟩ := h.parts
  obtain ⟨p', cap', b', off', rfl, hcap', hp', hcell'⟩ := h'.parts
  have HC := Lib.hid hcell; clear hcell
  have HP := Lib.hid hp; clear hp
  have HC' := Lib.hid hcell'; clear hcell'
  have HP' := Lib.hid hp'; clear hp'
  clear h h'
  cases h1 : scB xs
  · have HV : Hid (fdB xs ys = false) := Lib.hid (by simp [fdB, h1])
    rw [h1] at HA
    clear h1
    go_enter Tryd.func30, Tryd.ntmps30
    go_wp2_with fail
    refine HA.out.mono ?_
    rintro e w1 ⟨rfl, hb1⟩
    go_wp2
    refine bodyPost_ret (v := (.tuple #[.int .i64 0, .bool false])) (by simp [results, Tryd.results30, go_sem, *]) rfl ?_
    exact ⟨fd_ret (f := 0) rfl (fd_no HV.out).symm HV.out.symm, hb1⟩
  · cases h2 : scB ys
    · have HV : Hid (fdB xs ys = false) := Lib.hid (by simp [fdB, h2])
      rw [h1] at HA
      rw [h2] at HB
      clear h1 h2
      go_enter Tryd.func30, Tryd.ntmps30
      go_wp2_with fail
      refine HA.out.mono ?_
      rintro e w1 ⟨rfl, hb1⟩
      go_wp2_with fail
      refine (HB.out _ (HR'.out.below hb1)).mono ?_
      rintro e w2 ⟨rfl, hb2⟩
      have HW := Lib.hid (hb1.trans (hb2.mono hb1.size)); clear hb1 hb2
      go_wp2
      refine bodyPost_ret (v := (.tuple #[.int .i64 0, .bool false])) (by simp [results, Tryd.results30, go_sem, *]) rfl ?_
      exact ⟨fd_ret (f := 0) rfl (fd_no HV.out).symm HV.out.symm, HW.out⟩
    · have HV : Hid (fdB xs ys = !decide (xs = ys)) := Lib.hid (by simp [fdB, h1, h2])
      rw [h1] at HA
      rw [h2] at HB
      have h30 := (scB_true.1 h1).1
      have h30' := (scB_true.1 h2).1
      clear h1 h2
      go_enter Tryd.func30, Tryd.ntmps30
      go_wp2_with fail
      refine HA.out.mono ?_
      rintro e w1 ⟨rfl, hb1⟩
      go_wp2_with fail
      refine (HB.out _ (HR'.out.below hb1)).mono ?_
      rintro e w2 ⟨rfl, hb2⟩
      have HW := Lib.hid (hb1.trans (hb2.mono hb1.size)); clear hb1 hb2 HA HB
      go_wp2
      go_loopw [6] (fun i wr => ∃ (k : Nat), k ≤ xs.length ∧ k ≤ ys.length ∧ i = .int .i64 k ∧ Below w.heap.size w wr ∧ Hid (∀ j (h : j < xs.length) (h' : j < ys.length), j < k → xs[j] = ys[j]))
        (fun i _ => xs.length - (intOf i).toNat)
      case atStart => exact ⟨0, Nat.zero_le _, Nat.zero_le _, rfl, HW.out, Lib.hid fun j _ _ h => absurd h (by omega)⟩
      case round =>
        clear HW
        obtain ⟨k, hk, hk', rfl, hb, HF⟩ := hrel
        by_cases hlt : k < xs.length
        · by_cases hlt' : k < ys.length
          · obtain rfl := HP.out (by omega)
            obtain rfl := HP'.out (by omega)
            obtain ⟨c1, c2, c3⟩ := HC.out k hlt
            obtain ⟨d1, d2, d3⟩ := HC'.out k hlt'
            have c1 := cell_on hb c1
            have c2 := cell_on hb c2
            have c3 := cell_on hb c3
            have d1 := cell_on hb d1
            have d2 := cell_on hb d2
            have d3 := cell_on hb d3
            have heq : xs[k] = ys[k] → ∀ j (h : j < xs.length) (h' : j < ys.length), j < k + 1 → xs[j] = ys[j] := fun h0 j h h' hj => (by
              by_cases he : j = k
              · subst he; exact h0
              · exact HF.out j h h' (by omega))
            have hne : xs[k] ≠ ys[k] → Hid (fdN xs ys = k ∧ fdB xs ys = true) := fun h0 => Lib.hid ⟨fd_uniq xs ys k hk hk' HF.out (fun _ _ => h0), by rw [HV.out, Bool.not_eq_true']; exact decide_eq_false fun h => h0 (by subst h; rfl)⟩
            generalize xs[k] = x at c1 c2 c3 heq hne
            generalize ys[k] = y at d1 d2 d3 heq hne
            obtain ⟨a1, a2, a3⟩ := x
            obtain ⟨b1, b2, b3⟩ := y
            simp only at c1 c2 c3 d1 d2 d3
            have HEQ := Lib.hid heq; clear heq
            have HBb := Lib.hid hb.drew; clear hb
            go_wp2_with fail
            by_cases q1 : a1 = b1
            · subst q1
              by_cases q2 : a2 = b2
              · subst q2
                by_cases q3 : a3 = b3
                · subst q3
                  go_region_held3 (fun w' => w'.cell? ⟨b, off + k * 3, none⟩ = some (.int .i64 a1) ∧ w'.cell? ⟨b, off + k * 3 + 1, none⟩ = some (.int .i64 a2) ∧ w'.cell? ⟨b, off + k * 3 + 2, none⟩ = some (.string a3) ∧ w'.cell? ⟨b', off' + k * 3, none⟩ = some (.int .i64 a1) ∧ w'.cell? ⟨b', off' + k * 3 + 1, none⟩ = some (.int .i64 a2) ∧ w'.cell? ⟨b', off' + k * 3 + 2, none⟩ = some (.string a3)) (go_keep) (first | fail)
                  go_wp2
                  go_roundw
                  case rel => first | exact ⟨k + 1, by omega, by omega, by go_num, HBb.out, Lib.hid (HEQ.out (by simp))⟩ | (trace_state; sorry)
                  case measure => simp [intOf]; omega
                · have n3 : (a3.toList == b3.toList) = false := by rw [beq_eq_false_iff_ne]; exact fun h => q3 (bytes_eq h)
                  have hne := hne (by simp only [ne_eq, St.mk.injEq]; exact fun h => q3 h.2.2)
                  clear q3
                  go_region_held3 (fun w' => w'.cell? ⟨b, off + k * 3, none⟩ = some (.int .i64 a1) ∧ w'.cell? ⟨b, off + k * 3 + 1, none⟩ = some (.int .i64 a2) ∧ w'.cell? ⟨b, off + k * 3 + 2, none⟩ = some (.string a3) ∧ w'.cell? ⟨b', off' + k * 3, none⟩ = some (.int .i64 a1) ∧ w'.cell? ⟨b', off' + k * 3 + 1, none⟩ = some (.int .i64 a2) ∧ w'.cell? ⟨b', off' + k * 3 + 2, none⟩ = some (.string b3)) (go_keep) (first | fail)
                  go_wp2
                  refine bodyPost_ret (v := (.tuple #[.int .i64 k, .bool true])) (by simp [results, Tryd.results30, go_sem, *]) rfl ?_
                  exact ⟨fd_ret (f := 0) rfl (by rw [fd_yes hne.out.2, hne.out.1]) hne.out.2.symm, HBb.out⟩
              · have n2 : (a2 == b2) = false := by rw [beq_eq_false_iff_ne]; exact q2
                have hne := hne (by simp only [ne_eq, St.mk.injEq]; exact fun h => q2 h.2.1)
                clear q2
                go_region_held3 (fun w' => w'.cell? ⟨b, off + k * 3, none⟩ = some (.int .i64 a1) ∧ w'.cell? ⟨b, off + k * 3 + 1, none⟩ = some (.int .i64 a2) ∧ w'.cell? ⟨b, off + k * 3 + 2, none⟩ = some (.string a3) ∧ w'.cell? ⟨b', off' + k * 3, none⟩ = some (.int .i64 a1) ∧ w'.cell? ⟨b', off' + k * 3 + 1, none⟩ = some (.int .i64 b2) ∧ w'.cell? ⟨b', off' + k * 3 + 2, none⟩ = some (.string b3)) (go_keep) (first | fail)
                go_wp2
                refine bodyPost_ret (v := (.tuple #[.int .i64 k, .bool true])) (by simp [results, Tryd.results30, go_sem, *]) rfl ?_
                exact ⟨fd_ret (f := 0) rfl (by rw [fd_yes hne.out.2, hne.out.1]) hne.out.2.symm, HBb.out⟩
            · have n1 : (a1 == b1) = false := by rw [beq_eq_false_iff_ne]; exact q1
              have hne := hne (by simp only [ne_eq, St.mk.injEq]; exact fun h => q1 h.1)
              clear q1
              go_region_held3 (fun w' => w'.cell? ⟨b, off + k * 3, none⟩ = some (.int .i64 a1) ∧ w'.cell? ⟨b, off + k * 3 + 1, none⟩ = some (.int .i64 a2) ∧ w'.cell? ⟨b, off + k * 3 + 2, none⟩ = some (.string a3) ∧ w'.cell? ⟨b', off' + k * 3, none⟩ = some (.int .i64 b1) ∧ w'.cell? ⟨b', off' + k * 3 + 1, none⟩ = some (.int .i64 b2) ∧ w'.cell? ⟨b', off' + k * 3 + 2, none⟩ = some (.string b3)) (go_keep) (first | fail)
              go_wp2
              refine bodyPost_ret (v := (.tuple #[.int .i64 k, .bool true])) (by simp [results, Tryd.results30, go_sem, *]) rfl ?_
              exact ⟨fd_ret (f := 0) rfl (by rw [fd_yes hne.out.2, hne.out.1]) hne.out.2.symm, HBb.out⟩
          · have HBb := Lib.hid hb; clear hb
            have HN : Hid (fdB xs ys = true) := Lib.hid (by rw [HV.out, Bool.not_eq_true']; exact decide_eq_false fun h => by subst h; omega)
            have HD := Lib.hid (fd_uniq xs ys k hk hk' HF.out (fun h h' => absurd h' (by omega)))
            have hx1 : ¬ k = xs.length := by omega
            go_wp2
            go_quiet (fail)
            go_wp2
            refine bodyPost_ret (v := (.tuple #[.int .i64 k, .bool true])) (by simp [results, Tryd.results30, go_sem, *]) rfl ?_
            exact ⟨fd_ret (f := 0) rfl (by rw [fd_yes HN.out, HD.out]) HN.out.symm, below_drewN HBb.out _⟩
        · have HBb := Lib.hid hb; clear hb
          have hx : k = xs.length := by omega
          by_cases hy : k = ys.length
          · have HE : Hid (xs = ys) := Lib.hid (List.ext_getElem (by omega) fun j h h' => HF.out j h h' (by omega))
            have HN : Hid (fdB xs ys = false) := Lib.hid (by rw [HV.out, decide_eq_true HE.out]; rfl)
            have hxl : xs.length = ys.length := by omega
            subst hy
            clear hx
            go_wp2
            go_quiet (fail)
            go_wp2
            refine bodyPost_ret (v := (.tuple #[.int .i64 0, .bool false])) (by simp [results, Tryd.results30, go_sem, *]) rfl ?_
            exact ⟨fd_ret (f := 0) rfl (fd_no HN.out).symm HN.out.symm, below_drewN HBb.out _⟩
          · have HN : Hid (fdB xs ys = true) := Lib.hid (by rw [HV.out, Bool.not_eq_true']; exact decide_eq_false fun h => by subst h; omega)
            have HD := Lib.hid (fd_uniq xs ys k hk hk' HF.out (fun h h' => absurd h (by omega)))
            subst hx
            go_wp2
            go_quiet (fail)
            go_wp2
            refine bodyPost_ret (v := (.tuple #[.int .i64 xs.length, .bool true])) (by simp [results, Tryd.results30, go_sem, *]) rfl ?_
            exact ⟨fd_ret (f := 0) rfl (by rw [fd_yes HN.out, HD.out]) HN.out.symm, below_drewN HBb.out _⟩
end Go.Proofs.YtbkkggbpekhenaaDoor
