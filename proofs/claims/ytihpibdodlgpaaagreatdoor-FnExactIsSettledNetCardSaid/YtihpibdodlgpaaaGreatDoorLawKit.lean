/- What every law of the seat shares: a call that returns true and leaves all old memory as it was meets the statement's post. No condition. -/
import Derived.Test.YtihpibdodlgpaaaGreatDoorRows
import Derived.WalkKit
import Derived.ProofKit
import Derived.OpenShut
import Derived.SizedLaws
import Derived.Test.YtihpibdodlgpaaaGreatDoorTie
import Derived.Test.YtihpibdodlgpaaaGreatDoorCards
import Derived.LaidMore
import Derived.Lay
import Derived.SevenTiedAt
import Derived.Stop.Joined
namespace Go.Proofs.YtihpibdodlgpaaaGreatDoor
open Go.ChangeShapes Go.WideShapes Go.ChangeAt Go.RowKit

theorem lk_own : ownKnob Tryz.prog.godebug = none := by kernel_rfl
theorem lk_laid : laidOutB Tryz.prog = true := by kernel_rfl

theorem trodAll_below {H : Type} {enc : TypeId × Value → H} {W W' : World} (hb : Below W.heap.size W W') :
    ∀ (ts : List TypeId) (vs : List Value) (ds : List (DataW H)) (ps : List MemPlace), (ts.all fun t => Tryz.prog.readableRec t && decide (t < Tryz.prog.types.size)) = true →
      DataW.TrodAll enc Tryz.prog W 0 (fun _ => true) true ts vs ds ps → (∀ x ∈ ps, x.block < W.heap.size) → DataW.TrodAll enc Tryz.prog W' 0 (fun b => decide (b < W.heap.size)) true ts vs ds ps := by
  intro ts
  induction ts with
  | nil => intro vs ds ps _ h _; cases vs <;> cases ds <;> simp [DataW.TrodAll] at h ⊢; exact h
  | cons t ts ih =>
    intro vs ds ps hr h hlt
    obtain ⟨v, vs', d, ds', p, q, rfl, rfl, rfl, h0, h1⟩ := trodAll_cons h
    rw [List.all_cons, Bool.and_eq_true, Bool.and_eq_true, decide_eq_true_eq] at hr
    exact ⟨p, q, Below.trod lk_laid hr.1.1 hr.1.2 h0 hb (fun x hx => hlt x (List.mem_append.2 (.inl hx))), ih vs' ds' q hr.2 h1 (fun x hx => hlt x (List.mem_append.2 (.inr hx))), rfl⟩

theorem post_law {H : Type} {enc : TypeId × Value → H} {f : Func} {s : ChangeSpec} {W W' : World} {args : Array Value} {ds : List (DataW H)} {before : List MemPlace}
    (hW : DataW.Whole enc Tryz.prog f.params.toList s.vars false W args.toList ds [] before) (hv : s.vars = [])
    (hr : f.resultTypes = #[4]) (hread : (f.params.toList.all fun t => Tryz.prog.readableRec t && decide (t < Tryz.prog.types.size)) = true)
    (hres : (s.fn H (ds ++ [])).results = [.lit (.bool true)]) (hargs : (s.fn H (ds ++ [])).args = ds) (hvars : (s.fn H (ds ++ [])).vars = [])
    (hb : Below W.heap.size W W') : s.post enc Tryz.prog f false true false false W args (.bool true) W' := by
  have hW' := hW
  obtain ⟨p, q, hA, hV, rfl, _, _⟩ := hW
  rw [hv] at hV
  have hq : q = [] := by simpa [DataW.TrodVars] using hV
  subst hq
  refine ⟨ds, [], _, [], p, [], hW', ?_, ?_, ?_, hb.frame _, fun h => by cases h⟩
  · rw [hres, hr]
    exact ⟨[], [], shut_bool Tryz.underlying4 true, rfl, rfl⟩
  · rw [hargs]
    exact trodAll_below hb _ _ _ _ hread hA (fun x hx => by simpa using hW'.lt x (List.mem_append.2 (.inl hx)))
  · rw [hvars, hv]; rfl
/-- the listed variables read as they did -/
theorem trodVars_below {H : Type} {enc : TypeId × Value → H} {W W' : World} (hb : Below W.heap.size W W') :
    ∀ (ns : List String) (gs : List (DataW H)) (ps : List MemPlace), (ns.all fun n => (Tryz.prog.globalNamed n).any fun g => ((Tryz.prog.globals[g]?).map (·.type)).any fun t => Tryz.prog.readableRec t && decide (t < Tryz.prog.types.size)) = true → DataW.TrodVars enc Tryz.prog W (fun _ => true) ns gs ps → (∀ x ∈ ps, x.block < W.heap.size) →
      DataW.TrodVars enc Tryz.prog W' (fun b => decide (b < W.heap.size)) ns gs ps := by
  intro ns
  induction ns with
  | nil => intro gs ps _ h _; cases gs <;> simp [DataW.TrodVars] at h ⊢; exact h
  | cons n ns ih =>
    intro gs ps hg h hlt
    cases gs with
    | nil => simp [DataW.TrodVars] at h
    | cons d gs =>
      obtain ⟨g, t, cs, fuel, p, q, h1, h2, h3, h4, h5, rfl⟩ := h
      rw [List.all_cons, h1, Option.any_some, h2, Option.any_some, Bool.and_eq_true, Bool.and_eq_true, decide_eq_true_eq] at hg
      have hg0 : g < W.heap.size := by
        unfold World.var? at h3
        rw [h1, Option.bind_some] at h3
        cases hh : W.heap[g]? with
        | none => rw [hh] at h3; cases h3
        | some o => exact (Array.getElem?_eq_some_iff.1 hh).1
      obtain ⟨fuel', h4'⟩ := Below.trod (v := .agg cs) lk_laid hg.1.1 hg.1.2 ⟨fuel, h4⟩ hb (fun x hx => hlt x (List.mem_append.2 (.inl (List.mem_append.2 (.inr hx)))))
      refine ⟨g, t, cs, fuel', p, q, h1, h2, ?_, h4', ih gs q hg.2 h5 (fun x hx => hlt x (List.mem_append.2 (.inr hx))), rfl⟩
      unfold World.var? at h3 ⊢
      rw [h1, Option.bind_some] at h3 ⊢
      rw [hb.block g hg0]; exact h3
theorem post_lawV {H : Type} {enc : TypeId × Value → H} {f : Func} {s : ChangeSpec} {W W' : World} {args : Array Value} {ds gs : List (DataW H)} {before : List MemPlace}
    (hW : DataW.Whole enc Tryz.prog f.params.toList s.vars false W args.toList ds gs before)
    (hr : f.resultTypes = #[4]) (hread : (f.params.toList.all fun t => Tryz.prog.readableRec t && decide (t < Tryz.prog.types.size)) = true) (hvg : (s.vars.all fun n => (Tryz.prog.globalNamed n).any fun g => ((Tryz.prog.globals[g]?).map (·.type)).any fun t => Tryz.prog.readableRec t && decide (t < Tryz.prog.types.size)) = true)
    (hres : (s.fn H (ds ++ gs)).results = [.lit (.bool true)]) (hargs : (s.fn H (ds ++ gs)).args = ds) (hvars : (s.fn H (ds ++ gs)).vars = gs)
    (hb : Below W.heap.size W W') : s.post enc Tryz.prog f false true false false W args (.bool true) W' := by
  have hW' := hW
  obtain ⟨p, q, hA, hV, rfl, _, _⟩ := hW
  refine ⟨ds, gs, _, [], p, q, hW', ?_, ?_, ?_, hb.frame _, fun h => by cases h⟩
  · rw [hres, hr]
    exact ⟨[], [], shut_bool Tryz.underlying4 true, rfl, rfl⟩
  · rw [hargs]
    exact trodAll_below hb _ _ _ _ hread hA (fun x hx => by simpa using hW'.lt x (List.mem_append.2 (.inl hx)))
  · rw [hvars]
    exact trodVars_below hb _ _ _ hvg hV (fun x hx => by simpa using hW'.lt x (List.mem_append.2 (.inr hx)))
end Go.Proofs.YtihpibdodlgpaaaGreatDoor
