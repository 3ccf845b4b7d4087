/- The law FnExactPickWeighted: the program's PickWeighted is the reference's, for all arguments, and its list is left as it was. No condition. -/
import Derived.Test.YtfljdhccacbhbaaDraw6
import Derived.Test.YtfljdhccacbhbaaOpenInts
import Derived.Test.YtfljdhccacbhbaaLawKit
namespace Go.Proofs.Ytfljdhccacbhbaa.FnExactPickWeighted
open Go.ChangeShapes Go.WideShapes Go.ChangeAt Go.RowKit

set_option maxHeartbeats 1000000 in
theorem walk (a0 : Int) (_w0 : (Lit.int .i64 a0).wf = true) (v1 : Value) (w : World) (x1 : ArgI w v1) :
    Calls Try.prog 9 #[.int .i64 a0, v1] w fun e w' => e = .returned (.bool true) ∧ Below w.heap.size w w' := by
  obtain ⟨xs, r0, hcap, hv⟩ := x1
  obtain ⟨p, cap, hval⟩ := hv
  subst hval
  by_cases hbig : 1048576 < xs.length
  · go_enter Try.func9, Try.ntmps9
    go_wp2_with fail
    go_ret
    exact ⟨rfl, Below.refl _ _⟩
  · have r := r0 (by omega)
    go_enter Try.func9, Try.ntmps9
    go_wp2_with fail
    refine (toIntS_any _ _ _ r).mono ?_
    rintro e w1 ⟨v1, rfl, o1, b1⟩
    go_wp2_with fail
    refine (specPick_any _ _ _ _ o1.rd).mono ?_
    rintro e w2 ⟨rfl, rfl⟩
    go_wp2_with fail
    refine (toIntS_any _ _ _ (r.below b1)).mono ?_
    rintro e w3 ⟨v3, rfl, o3, b3⟩
    go_wp2_with fail
    refine (implPick_any _ _ _ _ o3.rd).mono ?_
    rintro e w4 ⟨rfl, rfl⟩
    go_wp2_with fail
    refine (toIntS_any _ _ _ ((r.below b1).below b3)).mono ?_
    rintro e w5 ⟨v5, rfl, o5, b5⟩
    go_wp2_with fail
    refine (eqIntS_same _ _ _ _ (o3.rd.below b5) o5.rd).mono ?_
    rintro e w6 ⟨rfl, n6, rfl⟩
    go_wp2_with fail
    go_ret
    have hb := b1.trans ((b3.mono b1.size).trans (b5.mono (Nat.le_trans b1.size b3.size)))
    exact ⟨rfl, below_drewN hb _⟩

set_option maxRecDepth 100000 in
theorem lifted (os : Os) (started : os.Started) (H : Type) (enc : TypeId × Value → H) :
    ReturnsInHanded {} Try.checked os 9 .any (Rows.fnExactPickWeightedSpec.pre6 enc Try.prog Try.f9 Rows.fnExactPickWeightedRow.domain false) (Rows.fnExactPickWeightedSpec.post enc Try.prog Try.f9 false true false false) := by
  refine returnsInHanded_of_change_sized (C := Try.checked) lk_own started (by kernel_rfl) Try.func9
    (ChangeSpec.witness6 (enc := enc) (C := Try.checked) false ⟨#[], #[.int .i64 0, .slice none 0 0], []⟩ 8 (by kernel_rfl) (by kernel_rfl) (by kernel_rfl) (by kernel_rfl)) ?_
  intro W base args ds gs before hval0 hW _ _ _
  have hval : ∀ (j : Nat) t v, Try.f9.params[j]? = some t → args[j]? = some v → Value.okWide Try.prog W .any base t v := hval0
  have hW' := hW
  obtain ⟨p, q, hA0, hV, rfl, _, _⟩ := hW
  have hA : DataW.TrodAll enc Try.prog W 0 (fun _ => true) true Try.f9.params.toList args.toList ds p := hA0
  rw [Try.params9] at hA hval
  obtain ⟨v0, vs0, d0, ds0, p0, q0, hargs, rfl, rfl, h0, r0⟩ := trodAll_cons hA
  obtain ⟨v1, vs1, d1, ds1, p1, q1, rfl, rfl, rfl, h1, r1⟩ := trodAll_cons r0
  obtain ⟨rfl, rfl, rfl⟩ := trodAll_nil r1
  obtain rfl : args = #[v0, v1] := by cases args; simp_all
  obtain ⟨rfl, rfl⟩ := trodVars_none hV
  clear hA0 hval0
  obtain ⟨a0, rfl, rfl, _, w0⟩ := open_int Try.underlying3 (hval 0 3 v0 rfl rfl) h0
  have x1 := open_argI (hval 1 32 v1 rfl rfl) h1
  simp only [List.append_nil] at hW'
  refine (walk a0 w0 v1 W x1).mono fun e W' ⟨he, hb⟩ => ?_
  subst he
  exact ⟨_, rfl, post_law hW' rfl rfl (by kernel_rfl) rfl rfl rfl hb⟩

theorem over : Rows.fnExactPickWeightedRow.holds Try.pinned (OpenSpec.ofChange Rows.fnExactPickWeightedSpec) :=
  OpenClaim.holds_of_wide 9 Try.f9 rfl rfl rfl rfl rfl rfl rfl ⟨rfl, rfl, rfl, rfl, rfl⟩ rfl rfl rfl rfl rfl (by kernel_rfl) Try.func9 (by kernel_rfl)
    (of_decide_eq_true (by kernel_rfl)) (by unfold Func.isWrapper; first | (rw [if_pos (by decide +kernel)]; kernel_rfl) | (rw [if_neg (by decide +kernel)]; exact ⟨rfl, rfl⟩))
    (fun os started H enc _ => lifted os started H enc)

theorem proved : Rows.FnExactPickWeightedSaid := over
#print axioms proved
end Go.Proofs.Ytfljdhccacbhbaa.FnExactPickWeighted
