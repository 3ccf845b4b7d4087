/- A step read from its text by the reference's ParseStep, for every text of at most 2^20 bytes. -/
import Derived.Test.YtgmccafmopgjaaaGreatDoorScr10
namespace Go.Proofs.YtgmccafmopgjaaaGreatDoor
open Go.RowKit

theorem psEnd_eq (o : Option St) : psEnd o = .returned (.tuple #[(o.getD ⟨0, 0, ⟨#[]⟩⟩).v, .bool o.isSome]) := by cases o <;> rfl
set_option maxRecDepth 100000 in
set_option maxHeartbeats 1000000 in
theorem specParseStep_any (s : ByteArray) (w : World) (hs : s.size ≤ 1048576) :
    Calls Tryz.prog 11 #[.string s] w fun e w' => ∃ o, e = psEnd o ∧ PsIs s o ∧ Below w.heap.size w w' := by
  have HL := Lib.hid (fun w => l16Parse_any s w hs)
  go_enter Tryz.func11, Tryz.ntmps11
  go_wp2_with fail
  refine (HL.out _).mono ?_
  rintro e w1 ⟨o, he, ho, hb⟩
  have HE := Lib.hid (psEnd_eq o)
  rw [psEnd_eq] at he
  subst he
  have HR : Hid (w1.heap[w.heap.size]? = some (.cells #[.int .i64 0, .int .i64 0, .string ⟨#[]⟩] 25 (0, 0))) := Lib.hid ((hb.block w.heap.size (by simp)).trans (heap_alloc_new _ _))
  have HB : Hid (Below w.heap.size w w1) := Lib.hid (Below.trans (by go_grown) (hb.mono (by simp)))
  have HO := Lib.hid ho
  clear hb ho
  generalize o.getD ⟨0, 0, ⟨#[]⟩⟩ = x at *
  generalize o.isSome = f at *
  obtain ⟨a, b, c⟩ := x
  have rh := HR.out; have r0 := cell_of_row w1 (w.heap.size) 0 _ _ _ rh; simp at r0; have rf0 := frozen_of_row w1 (w.heap.size) 0 _ _ rh; have r1 := cell_of_row w1 (w.heap.size) 1 _ _ _ rh; simp at r1; have rf1 := frozen_of_row w1 (w.heap.size) 1 _ _ rh; have r2 := cell_of_row w1 (w.heap.size) 2 _ _ _ rh; simp at r2; have rf2 := frozen_of_row w1 (w.heap.size) 2 _ _ rh; clear rh
  have hrl : w.heap.size < w1.heap.size := (Array.getElem?_eq_some_iff.1 HR.out).1
  go_wp2
  refine bodyPost_ret (v := (.tuple #[.agg #[.int .i64 a, .int .i64 b, .string c], .bool f])) (by simp [results, Tryz.results11, go_sem, *]) rfl ?_
  exact ⟨o, HE.out.symm, HO.out, (((HB.out.setCell (Nat.le_refl _) _).setCell (Nat.le_refl _) _).setCell (Nat.le_refl _) _)⟩
end Go.Proofs.YtgmccafmopgjaaaGreatDoor
