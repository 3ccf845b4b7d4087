/- Contracts of the reference's drawings of steps and of texts for the law on scripts: each answers SOME step or text (nothing more is needed), reading at most 65536 bytes. -/
import Derived.Test.YtgmccafmopgjaaaGreatDoorSDraws
import Derived.Test.YtgmccafmopgjaaaGreatDoorLnMath
namespace Go.Proofs.YtgmccafmopgjaaaGreatDoor
open Go.RowKit

def SomeStN (w : World) (e : Ending) (w' : World) : Prop := ∃ x : St, e = .returned x.v ∧ x.dt.size ≤ 1000 ∧ Below w.heap.size w w'
def SomeTx (w : World) (e : Ending) (w' : World) : Prop := ∃ t : ByteArray, e = .returned (.string t) ∧ t.size ≤ 1000 ∧ Below w.heap.size w w'
set_option maxRecDepth 100000 in
set_option maxHeartbeats 1000000 in
theorem drawStepText_any (v : Value) (bs : List Int) (w : World) (h : RdY w v bs) :
    Calls Tryz.prog 5 #[v] w (SomeStN w) := by
  obtain ⟨p, cap, b, off, rfl, _, _, _⟩ := h.parts
  have hC := cur_new (w.alloc (.cells #[.int .i64 0, .int .i64 0, .string ⟨#[]⟩] 25)) _ bs (h.below (by go_grown))
  rw [show (w.alloc (.cells #[.int .i64 0, .int .i64 0, .string ⟨#[]⟩] 25)).heap.size = w.heap.size + 1 by simp] at hC
  have HC := Lib.hid hC; clear h hC
  go_enter Tryz.func5, Tryz.ntmps5
  go_wp2_with fail
  refine (step16_any (w.heap.size + 1) 0 _ HC.out (by omega)).mono ?_
  rintro e w1 ⟨⟨a, n, t⟩, he, hx, d⟩
  have he : e = .returned (.agg #[.int .i64 a, .int .i64 n, .string t]) := he
  subst he
  have HR : Hid (w1.heap[w.heap.size]? = some (.cells #[.int .i64 0, .int .i64 0, .string ⟨#[]⟩] 25 (0, 0))) := Lib.hid ((d.grown.block w.heap.size (by simp; omega) (by simp)).trans (heap_alloc2_old w _ _))
  have HB : Hid (Below w.heap.size w w1) := Lib.hid (below_of_grown (by go_grown) d.grown (by omega))
  clear d HC
  have rh := HR.out; have r0 := cell_of_row w1 (w.heap.size) 0 _ _ _ rh; simp at r0; have rf0 := frozen_of_row w1 (w.heap.size) 0 _ _ rh; have r1 := cell_of_row w1 (w.heap.size) 1 _ _ _ rh; simp at r1; have rf1 := frozen_of_row w1 (w.heap.size) 1 _ _ rh; have r2 := cell_of_row w1 (w.heap.size) 2 _ _ _ rh; simp at r2; have rf2 := frozen_of_row w1 (w.heap.size) 2 _ _ rh; clear rh
  have rl : w.heap.size < w1.heap.size := (Array.getElem?_eq_some_iff.1 HR.out).1
  go_wp2
  refine bodyPost_ret (v := (.agg #[.int .i64 a, .int .i64 n, .string t])) (by simp [results, Tryz.results5, go_sem, *]) rfl ?_
  exact ⟨⟨a, n, t⟩, rfl, hx, ((HB.out.setCell (Nat.le_refl _) _).setCell (Nat.le_refl _) _).setCell (Nat.le_refl _) _⟩
theorem sttV_short (x : St) : (sttV x).size ≤ 13 := by
  unfold sttV
  split
  · rename_i h; exact stT_short h
  · exact Nat.zero_le _
theorem sctV_short (xs : List St) : (sctV xs).size ≤ 420 := by
  unfold sctV
  split
  · rename_i h; exact text_size h
  · exact Nat.zero_le _
theorem small_ok {x : St} (h : x.dt.size ≤ 1000) : x.ok := by unfold St.ok; omega
set_option maxRecDepth 100000 in
set_option maxHeartbeats 4000000 in
theorem drawParseStep_any (v : Value) (bs : List Int) (w : World) (h : RdY w v bs) :
    Calls Tryz.prog 10 #[v] w (SomeTx w) := by
  obtain ⟨p, cap, b, off, rfl, _, _, _⟩ := h.parts
  have HC := Lib.hid (cur_new w _ bs h); clear h
  go_enter Tryz.func10, Tryz.ntmps10
  go_wp2_with fail
  refine (step16_any w.heap.size 0 _ HC.out (by omega)).mono ?_
  rintro e w1 ⟨x, rfl, hx, d1⟩
  have HD := Lib.hid d1; clear d1
  have hsz := sttV_short x
  have HT := Lib.hid (fun w => specStepText_any x w (small_ok hx))
  clear hx
  generalize sttV x = t at *
  generalize stB x = tb at *
  obtain ⟨x1, x2, x3⟩ := x
  go_wp2_with fail
  refine (HT.out _).mono ?_
  rintro e w2 ⟨rfl, b2⟩
  have HD2 := Lib.hid (HD.out.call (HD.out.cur.below b2) (grown_below b2))
  clear HD HT b2
  go_wp2_with fail
  refine (one_any w.heap.size _ 3 _ HD2.out.cur (by omega) (by omega) (by omega)).mono ?_
  rintro e w3 ⟨f, rfl, hc3, hg3⟩
  have HD3 := Lib.hid (HD2.out.call hc3 hg3)
  clear hc3 hg3 HD2
  cases f
  · go_wp2
    refine bodyPost_ret (v := (.string t)) (by simp [results, Tryz.results10, go_sem, *]) rfl ?_
    exact ⟨t, rfl, by omega, new_dr HD3.out⟩
  · have h5 : (⟨#[32, 48, 117, 112, 49]⟩ : ByteArray).size = 5 := rfl
    go_wp2_with fail
    refine (spoilt_any w.heap.size _ t ⟨#[32, 48, 117, 112, 49]⟩ _ HD3.out.cur (by omega) (by omega) (by omega) (by omega)).mono ?_
    rintro e w4 ⟨y, hy, rfl, hc4, hg4⟩
    go_wp2
    refine bodyPost_ret (v := (.string y)) (by simp [results, Tryz.results10, go_sem, *]) rfl ?_
    exact ⟨y, rfl, by omega, new_dr (HD3.out.call hc4 hg4)⟩
set_option maxRecDepth 100000 in
set_option maxHeartbeats 4000000 in
theorem drawParseScript_any (v : Value) (bs : List Int) (w : World) (h : RdY w v bs) :
    Calls Tryz.prog 18 #[v] w (SomeTx w) := by
  obtain ⟨p, cap, b, off, rfl, _, _, _⟩ := h.parts
  have HC := Lib.hid (cur_new w _ bs h); clear h
  go_enter Tryz.func18, Tryz.ntmps18
  go_wp2_with fail
  refine (script16_any w.heap.size 0 _ HC.out (by omega)).mono ?_
  rintro e w1 ⟨va, xs, rfl, oa, hl, sa, d1⟩
  have HO := Lib.hid oa; clear oa
  have HD := Lib.hid d1; clear d1
  have hsz := sctV_short xs
  have HT := Lib.hid (fun w h => specScriptText_any va xs w h)
  generalize sctV xs = t at *
  generalize scB xs = tb at *
  obtain ⟨p', cap', b', off', rfl, _, _, _⟩ := HO.out.rd.parts
  go_wp2_with fail
  refine (HT.out _ HO.out.rd).mono ?_
  rintro e w2 ⟨rfl, b2⟩
  have HD2 := Lib.hid (HD.out.call (HD.out.cur.below b2) (grown_below b2))
  clear HD HO HT b2
  go_wp2_with fail
  refine (one_any w.heap.size _ 4 _ HD2.out.cur (by omega) (by omega) (by omega)).mono ?_
  rintro e w3 ⟨f, rfl, hc3, hg3⟩
  have HD3 := Lib.hid (HD2.out.call hc3 hg3)
  clear hc3 hg3 HD2
  cases f
  · go_wp2
    refine bodyPost_ret (v := (.string t)) (by simp [results, Tryz.results18, go_sem, *]) rfl ?_
    exact ⟨t, rfl, by omega, new_dr HD3.out⟩
  · have h5 : (⟨#[32, 49, 117, 112, 10]⟩ : ByteArray).size = 5 := rfl
    go_wp2_with fail
    refine (spoilt_any w.heap.size _ t ⟨#[32, 49, 117, 112, 10]⟩ _ HD3.out.cur (by omega) (by omega) (by omega) (by omega)).mono ?_
    rintro e w4 ⟨y, hy, rfl, hc4, hg4⟩
    go_wp2
    refine bodyPost_ret (v := (.string y)) (by simp [results, Tryz.results18, go_sem, *]) rfl ?_
    exact ⟨y, rfl, by omega, new_dr (HD3.out.call hc4 hg4)⟩
end Go.Proofs.YtgmccafmopgjaaaGreatDoor
