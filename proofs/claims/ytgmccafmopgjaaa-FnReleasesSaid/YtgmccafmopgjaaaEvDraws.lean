/- Contracts of the reference's drawings for the law on releases: each answers SOME trace and numbers. -/
import Derived.Test.YtgmccafmopgjaaaEvDraw
import Derived.Deep.DeepCutAuto
namespace Go.Proofs.Ytgmccafmopgjaaa
open Go.RowKit

def SomeT (w : World) (e : Ending) (w' : World) : Prop := ∃ v xs, e = .returned v ∧ OwEv w.heap.size w' v xs ∧ xs.length ≤ 40 ∧ Below w.heap.size w w'
def SomeTI (w : World) (e : Ending) (w' : World) : Prop := ∃ v xs, ∃ y : Int, e = .returned (.tuple #[v, .int .i64 y]) ∧ OwEv w.heap.size w' v xs ∧ xs.length ≤ 40 ∧ Below w.heap.size w w'
theorem new_dr {w w' : World} {o : Obj} {u : Nat} (h : Dr (w.alloc o) w' w.heap.size u) : Below w.heap.size w w' := new_grown h.grown
theorem drawIsTrace_any (v : Value) (bs : List Int) (w : World) (h : RdY w v bs) :
    Calls Try.prog 40 #[v] w (SomeT w) := by
  obtain ⟨p, cap, b, off, rfl, _, _, _⟩ := h.parts
  have HC := Lib.hid (cur_new w _ bs h); clear h
  go_enter Try.func40, Try.ntmps40
  go_wp2_with fail
  refine (trace_any w.heap.size 0 _ HC.out (by omega)).mono ?_
  rintro e w1 ⟨v1, xs, rfl, ho, hl, hd⟩
  go_wp2
  refine bodyPost_ret (v := v1) (by simp [results, Try.results40, go_sem, *]) rfl ?_
  exact ⟨v1, xs, rfl, ho.base (by simp), hl, new_dr hd⟩
theorem drawLoss_any (v : Value) (bs : List Int) (w : World) (h : RdY w v bs) :
    Calls Try.prog 13 #[v] w (SomeT w) := by
  have H := Lib.hid (drawIsTrace_any v bs w h)
  obtain ⟨p, cap, b, off, rfl, _, _, _⟩ := h.parts
  clear h
  go_enter Try.func13, Try.ntmps13
  go_wp2_with fail
  refine H.out.mono ?_
  rintro e w1 ⟨v1, xs, rfl, ho, hl, hb⟩
  go_wp2
  refine bodyPost_ret (v := v1) (by simp [results, Try.results13, go_sem, *]) rfl ?_
  exact ⟨v1, xs, rfl, ho, hl, hb⟩
theorem drawEvents_any (v : Value) (bs : List Int) (w : World) (h : RdY w v bs) :
    Calls Try.prog 30 #[v] w (SomeTI w) := by
  obtain ⟨p, cap, b, off, rfl, _, _, _⟩ := h.parts
  have HC := Lib.hid (cur_new w _ bs h); clear h
  go_enter Try.func30, Try.ntmps30
  go_wp2_with fail
  refine (trace_any w.heap.size 0 _ HC.out (by omega)).mono ?_
  rintro e w1 ⟨v1, xs, rfl, ho, hl, hd⟩
  have HO := Lib.hid ho; clear ho
  have HD := Lib.hid hd; clear hd
  go_wp2_with fail
  refine (node17_any w.heap.size _ _ HD.out.cur (by omega)).mono ?_
  rintro e w2 ⟨y, _, rfl, hc, hg⟩
  have HG := Lib.hid hg; clear hg
  go_wp2
  refine bodyPost_ret (v := (.tuple #[v1, .int .i64 y])) (by simp [results, Try.results30, go_sem, *]) rfl ?_
  exact ⟨v1, xs, y, rfl, (HO.out.base (by simp)).grown HG.out ((HO.out).neB (by simp)), hl, new_dr (HD.out.call hc HG.out)⟩
theorem drawOrder_any (v : Value) (bs : List Int) (w : World) (h : RdY w v bs) :
    Calls Try.prog 6 #[v] w (SomeTI w) := by
  have H := Lib.hid (drawEvents_any v bs w h)
  obtain ⟨p, cap, b, off, rfl, _, _, _⟩ := h.parts
  clear h
  go_enter Try.func6, Try.ntmps6
  go_wp2_with fail
  refine H.out.mono ?_
  rintro e w1 ⟨v1, xs, y, rfl, ho, hl, hb⟩
  go_wp2
  refine bodyPost_ret (v := (.tuple #[v1, .int .i64 y])) (by simp [results, Try.results6, go_sem, *]) rfl ?_
  exact ⟨v1, xs, y, rfl, ho, hl, hb⟩
end Go.Proofs.Ytgmccafmopgjaaa
