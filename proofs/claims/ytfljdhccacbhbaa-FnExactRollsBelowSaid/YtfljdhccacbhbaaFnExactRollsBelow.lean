/- The law FnExactRollsBelow: the program's RollsBelow is the reference's, for all arguments, and its list is new memory that no later call writes. No condition. -/
import Derived.Test.YtfljdhccacbhbaaDraw4
import Derived.Test.YtfljdhccacbhbaaLawKit
namespace Go.Proofs.Ytfljdhccacbhbaa.FnExactRollsBelow
open Go.ChangeShapes Go.WideShapes Go.ChangeAt Go.RowKit

set_option maxHeartbeats 1000000 in
theorem walk (a0 : Int) (_w0 : (Lit.int .i64 a0).wf = true) (a1 : Int) (_w1 : (Lit.int .i64 a1).wf = true) (a2 : Int) (_w2 : (Lit.int .i64 a2).wf = true) (w : World) :
    Calls Try.prog 8 #[.int .i64 a0, .int .i64 a1, .int .i64 a2] w fun e w' => e = .returned (.bool true) ∧ Below w.heap.size w w' := by
  go_enter Try.func8, Try.ntmps8
  go_wp2_with fail
  refine (specRolls_any _ _ _ _).mono ?_
  rintro e w1 ⟨v1, rfl, o1, b1⟩
  have hlen := o1.2
  go_wp2_with fail
  refine (implRolls_any _ _ _ _).mono ?_
  rintro e w2 ⟨v2, rfl, o2, b2⟩
  have r1 := o1.rd.below b2
  go_wp2_with fail
  refine (eqIntS_same _ _ _ _ o2.rd r1).mono ?_
  rintro e w3 ⟨rfl, n3, rfl⟩
  go_wp2_with fail
  refine (markIntS_any _ _ 1 w1.heap.size _ (o2.below (below_drewN (Below.refl _ _) _)) (by omega) (by omega)).mono ?_
  rintro e w4 ⟨rfl, o4, g4⟩
  go_wp2_with fail
  refine (heldIntS_any _ _ 1 _ o4.rd (by omega) (by omega)).mono ?_
  rintro e w5 ⟨rfl, rfl⟩
  go_wp2_with fail
  refine (implRolls_any _ _ _ _).mono ?_
  rintro e w6 ⟨v6, rfl, o6, b6⟩
  have r6 : RdI w6 v1 (rbL a0 a1 a2) := ((r1.below (below_drewN (Below.refl _ _) _)).grown g4 (OwI.apart (B := w1.heap.size) (fun k hk => (o1.lt k hk).2) (fun k hk => (o2.lt k hk).1))).below b6
  go_wp2_with fail
  refine (eqIntS_same _ _ _ _ o6.rd r6).mono ?_
  rintro e w7 ⟨rfl, n7, rfl⟩
  go_wp2_with fail
  refine (heldIntS_any _ _ 1 _ ((o4.rd.below b6).below (below_drewN (Below.refl _ _) _)) (by omega) (by omega)).mono ?_
  rintro e w8 ⟨rfl, rfl⟩
  go_wp2_with fail
  go_ret
  refine ⟨rfl, ?_⟩
  have hb3 : Below w.heap.size w (w2.drewN n3) := below_drewN (b1.trans (b2.mono b1.size)) _
  have hb4 : Below w.heap.size w w4 := hb3.grown g4 hb3.size (fun k hk => Nat.le_trans b1.size (o2.lt k hk).1)
  exact below_drewN (hb4.trans (b6.mono hb4.size)) _

set_option maxRecDepth 100000 in
theorem lifted (os : Os) (started : os.Started) (H : Type) (enc : TypeId × Value → H) :
    ReturnsInHanded {} Try.checked os 8 .any (Rows.fnExactRollsBelowSpec.pre6 enc Try.prog Try.f8 Rows.fnExactRollsBelowRow.domain false) (Rows.fnExactRollsBelowSpec.post enc Try.prog Try.f8 false true false false) := by
  refine returnsInHanded_of_change_sized (C := Try.checked) lk_own started (by kernel_rfl) Try.func8
    (ChangeSpec.witness6 (enc := enc) (C := Try.checked) false ⟨#[], #[.int .i64 0, .int .i64 0, .int .i64 0], []⟩ 8 (by kernel_rfl) (by kernel_rfl) (by kernel_rfl) (by kernel_rfl)) ?_
  intro W base args ds gs before hval0 hW _ _ _
  have hval : ∀ (j : Nat) t v, Try.f8.params[j]? = some t → args[j]? = some v → Value.okWide Try.prog W .any base t v := hval0
  have hW' := hW
  obtain ⟨p, q, hA0, hV, rfl, _, _⟩ := hW
  have hA : DataW.TrodAll enc Try.prog W 0 (fun _ => true) true Try.f8.params.toList args.toList ds p := hA0
  rw [Try.params8] at hA hval
  obtain ⟨v0, vs0, d0, ds0, p0, q0, hargs, rfl, rfl, h0, r0⟩ := trodAll_cons hA
  obtain ⟨v1, vs1, d1, ds1, p1, q1, rfl, rfl, rfl, h1, r1⟩ := trodAll_cons r0
  obtain ⟨v2, vs2, d2, ds2, p2, q2, rfl, rfl, rfl, h2, r2⟩ := trodAll_cons r1
  obtain ⟨rfl, rfl, rfl⟩ := trodAll_nil r2
  obtain rfl : args = #[v0, v1, v2] := by cases args; simp_all
  obtain ⟨rfl, rfl⟩ := trodVars_none hV
  clear hA0 hval0
  obtain ⟨a0, rfl, rfl, _, w0⟩ := open_int Try.underlying3 (hval 0 3 v0 rfl rfl) h0
  obtain ⟨a1, rfl, rfl, _, w1⟩ := open_int Try.underlying3 (hval 1 3 v1 rfl rfl) h1
  obtain ⟨a2, rfl, rfl, _, w2⟩ := open_int Try.underlying3 (hval 2 3 v2 rfl rfl) h2
  simp only [List.append_nil] at hW'
  refine (walk a0 w0 a1 w1 a2 w2 W).mono fun e W' ⟨he, hb⟩ => ?_
  subst he
  exact ⟨_, rfl, post_law hW' rfl rfl (by kernel_rfl) rfl rfl rfl hb⟩

theorem over : Rows.fnExactRollsBelowRow.holds Try.pinned (OpenSpec.ofChange Rows.fnExactRollsBelowSpec) :=
  OpenClaim.holds_of_wide 8 Try.f8 rfl rfl rfl rfl rfl rfl rfl ⟨rfl, rfl, rfl, rfl, rfl⟩ rfl rfl rfl rfl rfl (by kernel_rfl) Try.func8 (by kernel_rfl)
    (of_decide_eq_true (by kernel_rfl)) (by unfold Func.isWrapper; first | (rw [if_pos (by decide +kernel)]; kernel_rfl) | (rw [if_neg (by decide +kernel)]; exact ⟨rfl, rfl⟩))
    (fun os started H enc _ => lifted os started H enc)

theorem proved : Rows.FnExactRollsBelowSaid := over
#print axioms proved
end Go.Proofs.Ytfljdhccacbhbaa.FnExactRollsBelow
