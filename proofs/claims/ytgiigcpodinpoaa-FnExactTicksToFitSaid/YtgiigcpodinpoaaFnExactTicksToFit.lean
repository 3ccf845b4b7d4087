/- The law FnExactTicksToFit: the program's TicksToFit is the reference's, for all arguments. No condition. -/
import Derived.Test.YtgiigcpodinpoaaTwo
import Derived.Test.YtgiigcpodinpoaaLawKit
namespace Go.Proofs.Ytgiigcpodinpoaa.FnExactTicksToFit
open Go.ChangeShapes Go.WideShapes Go.ChangeAt Go.RowKit

set_option maxRecDepth 100000 in
set_option maxHeartbeats 8000000 in
theorem walk (v0 : Value) (v1 : Value) (w : World) (x0 : ArgBk w v0) (x1 : ArgLd w v1) :
    Calls Try.prog 7 #[v0, v1] w fun e w' => e = .returned (.bool true) ∧ Below w.heap.size w w' := by
  obtain ⟨k, rfl⟩ := x0
  obtain ⟨x, rfl⟩ := x1
  have HK := Lib.hid (toBk_any k)
  have HL := Lib.hid (toLd_any x)
  have HS := Lib.hid (specTicks_any k x)
  have HI := Lib.hid (implTicks_any k x)
  have H0 := Lib.hid (SX.start w k x)
  go_enter Try.func7, Try.ntmps7
  go_wp2_with fail
  go_region_held3 (fun w' => Below w.heap.size w w' ∧
    w'.heap[w.heap.size]? = some (.cells #[.int .i64 k.n, .int .i64 k.d, .int .i64 k.b, .int .i64 k.l, .int .i64 k.t] 23 (0, 0)) ∧ w'.heap[w.heap.size + 1]? = some (.cells #[.int .i64 x.t, .int .i64 x.s] 37 (0, 0)) ∧
    w'.cell? ⟨w.heap.size, 0, none⟩ = some (.int .i64 k.n) ∧ w'.cell? ⟨w.heap.size, 1, none⟩ = some (.int .i64 k.d) ∧ w'.cell? ⟨w.heap.size, 2, none⟩ = some (.int .i64 k.b) ∧ w'.cell? ⟨w.heap.size, 3, none⟩ = some (.int .i64 k.l) ∧ w'.cell? ⟨w.heap.size, 4, none⟩ = some (.int .i64 k.t) ∧
    w'.cell? ⟨w.heap.size + 1, 0, none⟩ = some (.int .i64 x.t) ∧ w'.cell? ⟨w.heap.size + 1, 1, none⟩ = some (.int .i64 x.s))
    (first | (exact (H0.out : SX w k x _).drew) | (exact SX.below (k := k) (x := x) (by assumption) (by assumption)) | go_keep)
    (first | (go_at_call 15; refine (HK.out _).mono ?_; rintro e w' ⟨rfl, hbel⟩) | (go_at_call 25; refine (HL.out _).mono ?_; rintro e w' ⟨rfl, hbel⟩) | (go_at_call 24; refine (HS.out _).mono ?_; rintro e w' ⟨rfl, hbel⟩))
  go_wp2_with fail
  go_region_held3 (fun w' => Below w.heap.size w w' ∧
    w'.heap[w.heap.size]? = some (.cells #[.int .i64 k.n, .int .i64 k.d, .int .i64 k.b, .int .i64 k.l, .int .i64 k.t] 23 (0, 0)) ∧ w'.heap[w.heap.size + 1]? = some (.cells #[.int .i64 x.t, .int .i64 x.s] 37 (0, 0)) ∧
    w'.cell? ⟨w.heap.size, 0, none⟩ = some (.int .i64 k.n) ∧ w'.cell? ⟨w.heap.size, 1, none⟩ = some (.int .i64 k.d) ∧ w'.cell? ⟨w.heap.size, 2, none⟩ = some (.int .i64 k.b) ∧ w'.cell? ⟨w.heap.size, 3, none⟩ = some (.int .i64 k.l) ∧ w'.cell? ⟨w.heap.size, 4, none⟩ = some (.int .i64 k.t) ∧
    w'.cell? ⟨w.heap.size + 1, 0, none⟩ = some (.int .i64 x.t) ∧ w'.cell? ⟨w.heap.size + 1, 1, none⟩ = some (.int .i64 x.s))
    (first | (exact SX.drew (k := k) (x := x) (by assumption)) | (exact SX.drew (k := k) (x := x) (SX.mk (by assumption) (by assumption) (by assumption))) | (exact SX.below (k := k) (x := x) (by assumption) (by assumption)) | go_keep)
    (first | (go_at_call 15; refine (HK.out _).mono ?_; rintro e w' ⟨rfl, hbel⟩) | (go_at_call 25; refine (HL.out _).mono ?_; rintro e w' ⟨rfl, hbel⟩) | (go_at_call 26; refine (HI.out _).mono ?_; rintro e w' ⟨rfl, hbel⟩))
  go_wp2_with fail
  go_ret
  exact ⟨rfl, SX.base (k := k) (x := x) (by assumption)⟩

set_option maxRecDepth 100000 in
theorem lifted (os : Os) (started : os.Started) (H : Type) (enc : TypeId × Value → H) :
    ReturnsInHanded {} Try.checked os 7 .any (Rows.fnExactTicksToFitSpec.pre6 enc Try.prog Try.f7 Rows.fnExactTicksToFitRow.domain false) (Rows.fnExactTicksToFitSpec.post enc Try.prog Try.f7 false true false false) := by
  refine returnsInHanded_of_change_sized (C := Try.checked) lk_own started (by kernel_rfl) Try.func7
    (ChangeSpec.witness6 (enc := enc) (C := Try.checked) false ⟨#[], #[.agg #[.int .i64 0, .int .i64 0, .int .i64 0, .int .i64 0, .int .i64 0], .agg #[.int .i64 0, .int .i64 0]], []⟩ 8 (by kernel_rfl) (by kernel_rfl) (by kernel_rfl) (by kernel_rfl)) ?_
  intro W base args ds gs before hval0 hW _ _ _
  have hval : ∀ (j : Nat) t v, Try.f7.params[j]? = some t → args[j]? = some v → Value.okWide Try.prog W .any base t v := hval0
  have hW' := hW
  obtain ⟨p, q, hA0, hV, rfl, _, _⟩ := hW
  have hA : DataW.TrodAll enc Try.prog W 0 (fun _ => true) true Try.f7.params.toList args.toList ds p := hA0
  rw [Try.params7] at hA hval
  obtain ⟨v0, vs0, d0, ds0, p0, q0, hargs, rfl, rfl, h0, r0⟩ := trodAll_cons hA
  obtain ⟨v1, vs1, d1, ds1, p1, q1, rfl, rfl, rfl, h1, r1⟩ := trodAll_cons r0
  obtain ⟨rfl, rfl, rfl⟩ := trodAll_nil r1
  obtain rfl : args = #[v0, v1] := by cases args; simp_all
  obtain ⟨rfl, rfl⟩ := trodVars_none hV
  clear hA0 hval0
  have x0 := open_argBk (hval 0 23 v0 rfl rfl) h0
  have x1 := open_argLd (hval 1 37 v1 rfl rfl) h1
  simp only [List.append_nil] at hW'
  refine (walk v0 v1 W x0 x1).mono fun e W' ⟨he, hb⟩ => ?_
  subst he
  exact ⟨_, rfl, post_law hW' rfl rfl (by kernel_rfl) rfl rfl rfl hb⟩

theorem over : Rows.fnExactTicksToFitRow.holds Try.pinned (OpenSpec.ofChange Rows.fnExactTicksToFitSpec) :=
  OpenClaim.holds_of_wide 7 Try.f7 rfl rfl rfl rfl rfl rfl rfl ⟨rfl, rfl, rfl, rfl, rfl⟩ rfl rfl rfl rfl rfl (by kernel_rfl) Try.func7 (by kernel_rfl)
    (of_decide_eq_true (by kernel_rfl)) (by unfold Func.isWrapper; first | (rw [if_pos (by decide +kernel)]; kernel_rfl) | (rw [if_neg (by decide +kernel)]; exact ⟨rfl, rfl⟩))
    (fun os started H enc _ => lifted os started H enc)

theorem proved : Rows.FnExactTicksToFitSaid := over
#print axioms proved
end Go.Proofs.Ytgiigcpodinpoaa.FnExactTicksToFit
