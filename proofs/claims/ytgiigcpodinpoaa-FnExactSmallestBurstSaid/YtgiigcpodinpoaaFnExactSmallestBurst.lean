/- The law FnExactSmallestBurst: the program's SmallestBurst is the reference's, for all arguments. No condition. -/
import Derived.Test.YtgiigcpodinpoaaRate9
import Derived.Test.YtgiigcpodinpoaaOpenRate
import Derived.Test.YtgiigcpodinpoaaLoadA
import Derived.Test.YtgiigcpodinpoaaLawKit
namespace Go.Proofs.Ytgiigcpodinpoaa.FnExactSmallestBurst
open Go.ChangeShapes Go.WideShapes Go.ChangeAt Go.RowKit

set_option maxHeartbeats 2000000 in
theorem walk (a0 : Int) (_w0 : (Lit.int .i64 a0).wf = true) (a1 : Int) (_w1 : (Lit.int .i64 a1).wf = true) (v2 : Value) (w : World) (x2 : ArgLdS w v2) :
    Calls Try.prog 9 #[.int .i64 a0, .int .i64 a1, v2] w fun e w' => e = .returned (.bool true) ∧ Below w.heap.size w w' := by
  obtain ⟨xs2, x2⟩ := x2
  by_cases hbig0 : szLdS xs2 (1048576) < 0
  · skip
    go_enter Try.func9, Try.ntmps9
    go_wp2_with fail
    refine (szLdS_any _ _ _ _ x2 (by omega) (by omega)).mono ?_
    rintro e w' ⟨rfl, rfl⟩
    go_wp2_with fail
    go_ret
    exact ⟨rfl, Below.refl _ _⟩
  have hz0 := szLdS_ge xs2 (1048576) (by omega)
  have r2_0 := x2.rd (by omega)
  go_enter Try.func9, Try.ntmps9
  go_wp2_with fail
  refine (szLdS_any _ _ _ _ x2 (by omega) (by omega)).mono ?_
  rintro e w' ⟨rfl, rfl⟩
  go_wp2_with fail
  refine (toLdS_any _ _ _ r2_0).mono ?_
  rintro e w1 ⟨t2_, rfl, ot2_, b1⟩
  have hB1 : Below w.heap.size w w1 := b1
  have z1 : w.heap.size ≤ w1.heap.size := b1.size
  have r2_1 := r2_0.below b1
  have t2_o_1 := ot2_
  go_wp2_with fail
  refine (specSmall_any _ _ _ _ _ t2_o_1.rd).mono ?_
  rintro e w2 ⟨rfl, b2⟩
  have hB2 : Below w.heap.size w w2 := hB1.trans (b2.mono hB1.size)
  have z2 : w1.heap.size ≤ w2.heap.size := b2.size
  have r2_2 := r2_1.below b2
  have t2_o_2 := t2_o_1.below b2
  go_wp2_with fail
  refine (toLdS_any _ _ _ r2_2).mono ?_
  rintro e w3 ⟨x2_, rfl, ox2_, b3⟩
  have hB3 : Below w.heap.size w w3 := hB2.trans (b3.mono hB2.size)
  have z3 : w2.heap.size ≤ w3.heap.size := b3.size
  have r2_3 := r2_2.below b3
  have x2_o_3 := ox2_
  go_wp2_with fail
  refine (implSmall_any _ _ _ _ _ x2_o_3.rd).mono ?_
  rintro e w4 ⟨rfl, b4⟩
  have hB4 : Below w.heap.size w w4 := hB3.trans (b4.mono hB3.size)
  have z4 : w3.heap.size ≤ w4.heap.size := b4.size
  have r2_4 := r2_3.below b4
  have x2_o_4 := x2_o_3.below b4
  go_wp2_with fail
  refine (toLdS_any _ _ _ r2_4).mono ?_
  rintro e w5 ⟨y2_, rfl, oy2_, b5⟩
  have hB5 : Below w.heap.size w w5 := hB4.trans (b5.mono hB4.size)
  have z5 : w4.heap.size ≤ w5.heap.size := b5.size
  have r2_5 := r2_4.below b5
  have x2_o_5 := x2_o_4.below b5
  have y2_o_5 := oy2_
  go_wp2_with fail
  refine (eqLdS_below _ _ _ _ (x2_o_5.rd) (y2_o_5.rd)).mono ?_
  rintro e w6 ⟨rfl, b6⟩
  have hB6 : Below w.heap.size w w6 := hB5.trans (b6.mono hB5.size)
  have z6 : w5.heap.size ≤ w6.heap.size := b6.size
  have r2_6 := r2_5.below b6
  have x2_o_6 := x2_o_5.below b6
  have y2_o_6 := y2_o_5.below b6
  go_wp2_with fail
  go_ret
  exact ⟨rfl, hB6⟩

set_option maxRecDepth 100000 in
theorem lifted (os : Os) (started : os.Started) (H : Type) (enc : TypeId × Value → H) :
    ReturnsInHanded {} Try.checked os 9 .any (Rows.fnExactSmallestBurstSpec.pre6 enc Try.prog Try.f9 Rows.fnExactSmallestBurstRow.domain false) (Rows.fnExactSmallestBurstSpec.post enc Try.prog Try.f9 false true false false) := by
  refine returnsInHanded_of_change_sized (C := Try.checked) lk_own started (by kernel_rfl) Try.func9
    (ChangeSpec.witness6 (enc := enc) (C := Try.checked) false ⟨#[], #[.int .i64 0, .int .i64 0, .slice none 0 0], []⟩ 8 (by kernel_rfl) (by kernel_rfl) (by kernel_rfl) (by kernel_rfl)) ?_
  intro W base args ds gs before hval0 hW _ _ _
  have hval : ∀ (j : Nat) t v, Try.f9.params[j]? = some t → args[j]? = some v → Value.okWide Try.prog W .any base t v := hval0
  have hW' := hW
  obtain ⟨p, q, hA0, hV, rfl, _, _⟩ := hW
  have hA : DataW.TrodAll enc Try.prog W 0 (fun _ => true) true Try.f9.params.toList args.toList ds p := hA0
  rw [Try.params9] at hA hval
  obtain ⟨v0, vs0, d0, ds0, p0, q0, hargs, rfl, rfl, h0, r0⟩ := trodAll_cons hA
  obtain ⟨v1, vs1, d1, ds1, p1, q1, rfl, rfl, rfl, h1, r1⟩ := trodAll_cons r0
  obtain ⟨v2, vs2, d2, ds2, p2, q2, rfl, rfl, rfl, h2, r2⟩ := trodAll_cons r1
  obtain ⟨rfl, rfl, rfl⟩ := trodAll_nil r2
  obtain rfl : args = #[v0, v1, v2] := by cases args; simp_all
  obtain ⟨rfl, rfl⟩ := trodVars_none hV
  clear hA0 hval0
  obtain ⟨a0, rfl, rfl, _, w0⟩ := open_int Try.underlying3 (hval 0 3 v0 rfl rfl) h0
  obtain ⟨a1, rfl, rfl, _, w1⟩ := open_int Try.underlying3 (hval 1 3 v1 rfl rfl) h1
  have x2 := open_argLdS (hval 2 44 v2 rfl rfl) h2
  simp only [List.append_nil] at hW'
  refine (walk a0 w0 a1 w1 v2 W x2).mono fun e W' ⟨he, hb⟩ => ?_
  subst he
  exact ⟨_, rfl, post_law hW' rfl rfl (by kernel_rfl) rfl rfl rfl hb⟩

theorem over : Rows.fnExactSmallestBurstRow.holds Try.pinned (OpenSpec.ofChange Rows.fnExactSmallestBurstSpec) :=
  OpenClaim.holds_of_wide 9 Try.f9 rfl rfl rfl rfl rfl rfl rfl ⟨rfl, rfl, rfl, rfl, rfl⟩ rfl rfl rfl rfl rfl (by kernel_rfl) Try.func9 (by kernel_rfl)
    (of_decide_eq_true (by kernel_rfl)) (by unfold Func.isWrapper; first | (rw [if_pos (by decide +kernel)]; kernel_rfl) | (rw [if_neg (by decide +kernel)]; exact ⟨rfl, rfl⟩))
    (fun os started H enc _ => lifted os started H enc)

theorem proved : Rows.FnExactSmallestBurstSaid := over
#print axioms proved
end Go.Proofs.Ytgiigcpodinpoaa.FnExactSmallestBurst
