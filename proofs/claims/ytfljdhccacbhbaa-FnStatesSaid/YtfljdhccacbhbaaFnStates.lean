/- The law FnStates: every state is recovered from the next one, and skipping is taking steps one after the other. No condition. -/
import Derived.Test.YtfljdhccacbhbaaDrawsOf20
import Derived.Test.YtfljdhccacbhbaaOpenY
import Derived.Test.YtfljdhccacbhbaaLawKit
namespace Go.Proofs.Ytfljdhccacbhbaa.FnStates
open Go.ChangeShapes Go.WideShapes Go.ChangeAt Go.RowKit

/-- what the law's comparisons come to at a state -/
theorem facts {x : Int} (h : inR x 1 2147483646 = true) :
    inR (skipV x 1) 1 2147483646 = true ∧ skipV (skipV x 1) 2147483645 = x ∧ inR (skipV x 2147483645) 1 2147483646 = true ∧ skipV (skipV x 2147483645) 1 = x ∧ skipV x 10 = DM.mp x 16807 10 ∧ skipV x 2147483646 = x ∧ skipB x 10 = true ∧ skipB x 2147483646 = true := by
  obtain ⟨h0, h1⟩ := inR_true.1 h
  have e1 : skipV x 1 = DM.mp x 16807 1 := skipV_ok h (by decide)
  have e2 : skipV x 2147483645 = DM.mp x 16807 2147483645 := skipV_ok h (by decide)
  have p1 : inR (DM.mp x 16807 1) 1 2147483646 = true := inR_true.2 ⟨DM.mp_pos x 1 h0 (by omega) (by omega), by have := DM.mp_range x 16807 1; omega⟩
  have p2 : inR (DM.mp x 16807 2147483645) 1 2147483646 = true := inR_true.2 ⟨DM.mp_pos x 2147483645 h0 (by omega) (by omega), by have := DM.mp_range x 16807 2147483645; omega⟩
  refine ⟨by rw [e1]; exact p1, ?_, by rw [e2]; exact p2, ?_, skipV_ok h (by decide), ?_, by rw [skipB_in x _ (by decide)]; exact h, by rw [skipB_in x _ (by decide)]; exact h⟩
  · rw [e1, skipV_ok p1 (by decide)]
    exact (DM.mp_mp x 16807 1 2147483645).trans (DM.fermat x (by omega) (by omega))
  · rw [e2, skipV_ok p2 (by decide)]
    exact (DM.mp_mp x 16807 2147483645 1).trans (DM.fermat x (by omega) (by omega))
  · rw [skipV_ok h (by decide)]; exact DM.fermat x (by omega) (by omega)
theorem step {x : Int} (h : inR x 1 2147483646 = true) (k : Nat) (hk : k ≤ 10) : inR (DM.mp x 16807 k) 1 2147483646 = true ∧ skipV (DM.mp x 16807 k) 1 = DM.mp x 16807 (k + 1) := by
  obtain ⟨h0, h1⟩ := inR_true.1 h
  have p : inR (DM.mp x 16807 k) 1 2147483646 = true := inR_true.2 ⟨DM.mp_pos x k h0 (by omega) (by omega), by have := DM.mp_range x 16807 k; omega⟩
  exact ⟨p, by rw [skipV_ok p (by decide)]; exact DM.mp_mp x 16807 k 1⟩
theorem roll {s n : Int} (h : rollB s n = true) : 0 ≤ rollV s n ∧ rollV s n < n := by
  have h' := h
  simp only [rollB, Bool.and_eq_true, inR_true] at h'
  simp only [rollV, h, if_true]
  exact drawV_range s n h'.2.1 h'.2.2

set_option maxRecDepth 100000 in
set_option maxHeartbeats 4000000 in
theorem walk (v : Value) (w : World) (hx : ArgY w v) :
    Calls Try.prog 11 #[v] w fun e w' => e = .returned (.bool true) ∧ Below w.heap.size w w' := by
  obtain ⟨bs, hbs⟩ := hx
  by_cases hbig : 65536 < bs.length
  · go_enter Try.func11, Try.ntmps11
    go_wp2_with fail
    refine (rBig_any v bs w hbs).mono ?_
    rintro e w' ⟨rfl, rfl⟩
    go_wp2_with fail
    go_ret
    exact ⟨rfl, Below.refl _ _⟩
  have r0 := hbs.1 (by omega)
  go_enter Try.func11, Try.ntmps11
  go_wp2_with fail
  refine (rBig_any v bs w hbs).mono ?_
  rintro e w' ⟨rfl, rfl⟩
  go_wp2_with fail
  refine (drawNext_any v bs w r0).mono ?_
  rintro e w1 ⟨x, rfl, b1⟩
  go_wp2_with fail
  refine (implNext_in x _).mono ?_
  rintro e w' ⟨rfl, rfl⟩
  go_wp2_with fail
  refine (specNext_in x _).mono ?_
  rintro e w' ⟨rfl, rfl⟩
  go_wp2_with fail
  refine (implLast_in x _).mono ?_
  rintro e w' ⟨rfl, rfl⟩
  go_wp2_with fail
  refine (specLast_in x _).mono ?_
  rintro e w' ⟨rfl, rfl⟩
  cases h : inR x 1 2147483646
  · go_wp2_with fail
    refine (drawSkip_any v bs _ (r0.below b1)).mono ?_
    rintro e w2 ⟨y, n, rfl, b2⟩
    go_wp2_with fail
    refine (implSkip_any y n _).mono ?_
    rintro e w' ⟨rfl, rfl⟩
    go_wp2_with fail
    refine (specSkip_any y n _).mono ?_
    rintro e w' ⟨rfl, rfl⟩
    go_wp2_with fail
    refine (drawRoll_any v bs _ ((r0.below b1).below b2)).mono ?_
    rintro e w3 ⟨z, m, rfl, b3⟩
    go_wp2_with fail
    refine (implRoll_any z m _).mono ?_
    rintro e w' ⟨rfl, rfl⟩
    go_wp2_with fail
    refine (specRoll_any z m _).mono ?_
    rintro e w' ⟨rfl, rfl⟩
    have hb := b1.trans ((b2.mono b1.size).trans (b3.mono (Nat.le_trans b1.size b2.size)))
    cases hr : rollB z m
    · go_wp2_with fail
      go_ret
      exact ⟨rfl, hb⟩
    · obtain ⟨q1, q2⟩ := roll hr
      go_wp2_with fail
      go_ret
      exact ⟨rfl, hb⟩
  · obtain ⟨f1, f2, f3, f4, f5, f6, f7, f8⟩ := facts h
    have HF5 := Lib.hid f5; clear f5
    go_wp2_with fail
    refine (implLast_in (skipV x 1) _).mono ?_
    rintro e w' ⟨rfl, rfl⟩
    go_wp2_with fail
    refine (implNext_in (skipV x 2147483645) _).mono ?_
    rintro e w' ⟨rfl, rfl⟩
    go_wp2_with fail
    refine (implSkip_any x 10 _).mono ?_
    rintro e w' ⟨rfl, rfl⟩
    go_wp2_with fail
    go_loop [18, 19] (fun a i => ∃ k : Nat, k ≤ 10 ∧ i = .int .i64 k ∧ a = .int .i64 (DM.mp x 16807 k)) (fun _ i => 10 - (intOf i).toNat)
    case atStart => exact ⟨0, by omega, rfl, by rw [DM.mp_zero x 16807 (by have := inR_true.1 h; omega) (by have := inR_true.1 h; omega)]⟩
    case round =>
      obtain ⟨k, hk, rfl, rfl⟩ := hrel
      by_cases hlt : k < 10
      · obtain ⟨s1, s2⟩ := step h k hk
        have HS2 := Lib.hid s2; clear s2
        go_wp2_with fail
        refine (implNext_in _ _).mono ?_
        rintro e w' ⟨rfl, rfl⟩
        go_wp2_with fail
        go_round
        case rel => exact ⟨k + 1, by omega, by go_num, by rw [HS2.out]⟩
        case measure => simp [intOf]; omega
      · obtain rfl : k = 10 := by omega
        have f5 := HF5.out
        go_wp2_with fail
        refine (implSkip_any x 2147483646 _).mono ?_
        rintro e w' ⟨rfl, rfl⟩
        go_wp2_with fail
        refine (drawSkip_any v bs _ (r0.below b1)).mono ?_
        rintro e w2 ⟨y, n, rfl, b2⟩
        go_wp2_with fail
        refine (implSkip_any y n _).mono ?_
        rintro e w' ⟨rfl, rfl⟩
        go_wp2_with fail
        refine (specSkip_any y n _).mono ?_
        rintro e w' ⟨rfl, rfl⟩
        go_wp2_with fail
        refine (drawRoll_any v bs _ ((r0.below b1).below b2)).mono ?_
        rintro e w3 ⟨z, m, rfl, b3⟩
        go_wp2_with fail
        refine (implRoll_any z m _).mono ?_
        rintro e w' ⟨rfl, rfl⟩
        go_wp2_with fail
        refine (specRoll_any z m _).mono ?_
        rintro e w' ⟨rfl, rfl⟩
        have hb := b1.trans ((b2.mono b1.size).trans (b3.mono (Nat.le_trans b1.size b2.size)))
        cases hr : rollB z m
        · go_wp2_with fail
          go_ret
          exact ⟨rfl, hb⟩
        · obtain ⟨q1, q2⟩ := roll hr
          go_wp2_with fail
          go_ret
          exact ⟨rfl, hb⟩

set_option maxRecDepth 100000 in
theorem lifted (os : Os) (started : os.Started) (H : Type) (enc : TypeId × Value → H) :
    ReturnsInHanded {} Try.checked os 11 .any (Rows.fnStatesSpec.pre6 enc Try.prog Try.f11 Rows.fnStatesRow.domain false) (Rows.fnStatesSpec.post enc Try.prog Try.f11 false true false false) := by
  refine returnsInHanded_of_change_sized (C := Try.checked) lk_own started (by kernel_rfl) Try.func11
    (ChangeSpec.witness6 (enc := enc) (C := Try.checked) false ⟨#[], #[.slice none 0 0], []⟩ 8 (by kernel_rfl) (by kernel_rfl) (by kernel_rfl) (by kernel_rfl)) ?_
  intro W base args ds gs before hval0 hW _ _ _
  have hval : ∀ (j : Nat) t v, Try.f11.params[j]? = some t → args[j]? = some v → Value.okWide Try.prog W .any base t v := hval0
  have hW' := hW
  obtain ⟨p, q, hA0, hV, rfl, _, _⟩ := hW
  have hA : DataW.TrodAll enc Try.prog W 0 (fun _ => true) true Try.f11.params.toList args.toList ds p := hA0
  rw [Try.params11] at hA hval
  obtain ⟨v0, vs0, d0, ds0, p0, q0, hargs, rfl, rfl, h0, r0⟩ := trodAll_cons hA
  obtain ⟨rfl, rfl, rfl⟩ := trodAll_nil r0
  obtain rfl : args = #[v0] := by cases args; simp_all
  obtain ⟨rfl, rfl⟩ := trodVars_none hV
  clear hA0 hval0
  have x0 := open_argY (hval 0 41 v0 rfl rfl) h0
  simp only [List.append_nil] at hW'
  refine (walk v0 W x0).mono fun e W' ⟨he, hb⟩ => ?_
  subst he
  exact ⟨_, rfl, post_law hW' rfl rfl (by kernel_rfl) rfl rfl rfl hb⟩

theorem over : Rows.fnStatesRow.holds Try.pinned (OpenSpec.ofChange Rows.fnStatesSpec) :=
  OpenClaim.holds_of_wide 11 Try.f11 rfl rfl rfl rfl rfl rfl rfl ⟨rfl, rfl, rfl, rfl, rfl⟩ rfl rfl rfl rfl rfl (by kernel_rfl) Try.func11 (by kernel_rfl)
    (of_decide_eq_true (by kernel_rfl)) (by unfold Func.isWrapper; first | (rw [if_pos (by decide +kernel)]; kernel_rfl) | (rw [if_neg (by decide +kernel)]; exact ⟨rfl, rfl⟩))
    (fun os started H enc _ => lifted os started H enc)

theorem proved : Rows.FnStatesSaid := over
#print axioms proved
end Go.Proofs.Ytfljdhccacbhbaa.FnStates
