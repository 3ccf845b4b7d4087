/- The texts of steps and scripts: the program's and the reference's StepText and ScriptText, where the table of words holds what the program's text lays. -/
import Derived.Test.YtgmccafmopgjaaaDoorScr7
import Derived.Test.YtgmccafmopgjaaaDoorScr1
namespace Go.Proofs.YtgmccafmopgjaaaDoor
open Go.RowKit

def sttV (x : St) : ByteArray := if stB x = true then stT x else ⟨#[]⟩
theorem stT_size {x : St} (h : stB x = true) : (stT x).size ≤ 16 := by
  obtain ⟨k, n, d⟩ := x
  rcases stB_cases h with ⟨rfl, rfl, h8⟩ | ⟨rfl, rfl, he⟩ | ⟨hk, hn1, hn2, he⟩
  · cases he : d.toList.isEmpty
    · rw [stT_data he, ByteArray.size_append, ByteArray.size_append]
      have h1 : (stW 1).size = 4 := rfl
      have h2 : (⟨#[32]⟩ : ByteArray).size = 1 := rfl
      omega
    · rw [stT_send he]; decide
  · rw [stT_tick]; decide
  · have h2 : (⟨#[32]⟩ : ByteArray).size = 1 := rfl
    have h3 := dig1_size n
    rcases hk with rfl | rfl | rfl | rfl <;>
    · rw [stT_node (by decide) (by decide), ByteArray.size_append, ByteArray.size_append, h2, h3]; decide
/-- the text of the first n steps -/
def scT (xs : List St) : Nat → ByteArray
  | 0 => ⟨#[]⟩
  | n + 1 => match xs[n]? with
    | none => scT xs n
    | some x => scT xs n ++ (stT x ++ ⟨#[10]⟩)
theorem scT_succ (xs : List St) (n : Nat) (h : n < xs.length) : scT xs (n + 1) = scT xs n ++ (stT xs[n] ++ ⟨#[10]⟩) := by
  rw [scT, List.getElem?_eq_getElem h]
def sctV (xs : List St) : ByteArray := if scB xs = true then scT xs xs.length else ⟨#[]⟩
set_option maxRecDepth 100000 in
set_option maxHeartbeats 1000000 in
theorem implStepText_any (x : St) (w : World) (hok : x.ok) (hW : WordsAt w) :
    Calls Tryd.prog 48 #[x.v] w fun e w' => e = .returned (.tuple #[.string (sttV x), .bool (stB x)]) ∧ Below w.heap.size w w' := by
  have HG := Lib.hid (fun w => valid_any x w hok)
  have HW := Lib.hid hW
  obtain ⟨k, n, d⟩ := x
  cases hx : stB ⟨k, n, d⟩
  · have HV : Hid (sttV ⟨k, n, d⟩ = ⟨#[]⟩) := Lib.hid (by rw [sttV, hx]; rfl)
    rw [hx] at HG
    clear hx
    go_enter Tryd.func48, Tryd.ntmps48
    go_wp2_with fail
    refine (HG.out _).mono ?_
    rintro e w1 ⟨rfl, hb1⟩
    have HB := Lib.hid (Below.trans (by go_grown) (hb1.mono (by simp)) : Below w.heap.size w w1); clear hb1
    go_wp2
    refine bodyPost_ret (v := (.tuple #[.string ⟨#[]⟩, .bool false])) (by simp [results, Tryd.results48, go_sem, *]) rfl ?_
    exact ⟨by rw [HV.out], HB.out⟩
  · have HV : Hid (sttV ⟨k, n, d⟩ = stT ⟨k, n, d⟩) := Lib.hid (by rw [sttV, if_pos hx])
    have HT := Lib.hid (fun w => stepText_any ⟨k, n, d⟩ w hx)
    rw [hx] at HG
    clear hx
    generalize stT ⟨k, n, d⟩ = t at HV HT
    go_enter Tryd.func48, Tryd.ntmps48
    go_wp2_with fail
    refine (HG.out _).mono ?_
    rintro e w1 ⟨rfl, hb1⟩
    have HX : Hid (w1.heap[w.heap.size]? = some (.cells #[.int .i64 k, .int .i64 n, .string d] 50 (0, 0))) := Lib.hid ((hb1.block w.heap.size (by simp)).trans (heap_alloc_new _ _))
    have HB := Lib.hid (Below.trans (by go_grown) (hb1.mono (by simp)) : Below w.heap.size w w1); clear hb1
    have uh := HX.out; have u0 := cell_of_row w1 (w.heap.size) 0 _ _ _ uh; simp at u0; have uf0 := frozen_of_row w1 (w.heap.size) 0 _ _ uh; have u1 := cell_of_row w1 (w.heap.size) 1 _ _ _ uh; simp at u1; have uf1 := frozen_of_row w1 (w.heap.size) 1 _ _ uh; have u2 := cell_of_row w1 (w.heap.size) 2 _ _ _ uh; simp at u2; have uf2 := frozen_of_row w1 (w.heap.size) 2 _ _ uh; clear uh
    go_wp2_with fail
    refine (HT.out _ (HW.out.below HB.out)).mono ?_
    rintro e w2 ⟨rfl, hb2⟩
    have HB2 := Lib.hid (HB.out.trans (hb2.mono HB.out.size)); clear hb2
    go_wp2
    refine bodyPost_ret (v := (.tuple #[.string t, .bool true])) (by simp [results, Tryd.results48, go_sem, *]) rfl ?_
    exact ⟨by rw [HV.out], HB2.out⟩
end Go.Proofs.YtgmccafmopgjaaaDoor
