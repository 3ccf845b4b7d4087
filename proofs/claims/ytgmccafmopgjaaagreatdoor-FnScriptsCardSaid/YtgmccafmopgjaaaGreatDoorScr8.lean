/- The texts of steps and scripts: the program's and the reference's StepText and ScriptText, where the table of words holds what the program's text lays. -/
import Derived.Test.YtgmccafmopgjaaaGreatDoorScr7
import Derived.Test.YtgmccafmopgjaaaGreatDoorScr1
namespace Go.Proofs.YtgmccafmopgjaaaGreatDoor
open Go.RowKit

def sttV (x : St) : ByteArray := if stB x = true then stT x else ⟨#[]⟩
theorem stT_size {x : St} (h : stB x = true) : (stT x).size ≤ 16 := by
  obtain ⟨k, n, d⟩ := x
  rcases stB_cases h with ⟨rfl, rfl, h8⟩ | ⟨rfl, rfl, he⟩ | ⟨hk, hn1, hn2, he⟩
  · cases he : d.toList.isEmpty
    · rw [stT_data he, ByteArray.size_append, ByteArray.size_append]
      have h1 : (stW 1).size = 4 := rfl
      have h2 : (⟨#[32]⟩ : ByteArray).size = 1 := rfl
      omega
    · rw [stT_send he]; decide
  · rw [stT_tick]; decide
  · have h2 : (⟨#[32]⟩ : ByteArray).size = 1 := rfl
    have h3 := dig1_size n
    rcases hk with rfl | rfl | rfl | rfl <;>
    · rw [stT_node (by decide) (by decide), ByteArray.size_append, ByteArray.size_append, h2, h3]; decide
/-- the text of the first n steps -/
def scT (xs : List St) : Nat → ByteArray
  | 0 => ⟨#[]⟩
  | n + 1 => match xs[n]? with
    | none => scT xs n
    | some x => scT xs n ++ (stT x ++ ⟨#[10]⟩)
theorem scT_succ (xs : List St) (n : Nat) (h : n < xs.length) : scT xs (n + 1) = scT xs n ++ (stT xs[n] ++ ⟨#[10]⟩) := by
  rw [scT, List.getElem?_eq_getElem h]
def sctV (xs : List St) : ByteArray := if scB xs = true then scT xs xs.length else ⟨#[]⟩
set_option maxRecDepth 100000 in
set_option maxHeartbeats 1000000 in
theorem specStepText_any (x : St) (w : World) (hok : x.ok) :
    Calls Tryz.prog 7 #[x.v] w fun e w' => e = .returned (.tuple #[.string (sttV x), .bool (stB x)]) ∧ Below w.heap.size w w' := by
  have HG := Lib.hid (fun w => l15Step_any x w hok)
  obtain ⟨k, n, d⟩ := x
  cases hx : stB ⟨k, n, d⟩
  · have HV : Hid (sttV ⟨k, n, d⟩ = ⟨#[]⟩) := Lib.hid (by rw [sttV, hx]; rfl)
    rw [hx] at HG
    clear hx
    go_enter Tryz.func7, Tryz.ntmps7
    go_wp2_with fail
    refine (HG.out _).mono ?_
    rintro e w1 ⟨rfl, hb1⟩
    have HB := Lib.hid (Below.trans (by go_grown) (hb1.mono (by simp)) : Below w.heap.size w w1); clear hb1
    go_wp2
    refine bodyPost_ret (v := (.tuple #[.string ⟨#[]⟩, .bool false])) (by simp [results, Tryz.results7, go_sem, *]) rfl ?_
    exact ⟨by rw [HV.out], HB.out⟩
  · have HV : Hid (sttV ⟨k, n, d⟩ = stT ⟨k, n, d⟩) := Lib.hid (by rw [sttV, if_pos hx])
    have HT := Lib.hid (fun w => l16Text_any ⟨k, n, d⟩ w hx)
    rw [hx] at HG
    clear hx
    generalize stT ⟨k, n, d⟩ = t at HV HT
    go_enter Tryz.func7, Tryz.ntmps7
    go_wp2_with fail
    refine (HG.out _).mono ?_
    rintro e w1 ⟨rfl, hb1⟩
    have HX : Hid (w1.heap[w.heap.size]? = some (.cells #[.int .i64 k, .int .i64 n, .string d] 25 (0, 0))) := Lib.hid ((hb1.block w.heap.size (by simp)).trans (heap_alloc_new _ _))
    have HB := Lib.hid (Below.trans (by go_grown) (hb1.mono (by simp)) : Below w.heap.size w w1); clear hb1
    have uh := HX.out; have u0 := cell_of_row w1 (w.heap.size) 0 _ _ _ uh; simp at u0; have uf0 := frozen_of_row w1 (w.heap.size) 0 _ _ uh; have u1 := cell_of_row w1 (w.heap.size) 1 _ _ _ uh; simp at u1; have uf1 := frozen_of_row w1 (w.heap.size) 1 _ _ uh; have u2 := cell_of_row w1 (w.heap.size) 2 _ _ _ uh; simp at u2; have uf2 := frozen_of_row w1 (w.heap.size) 2 _ _ uh; clear uh
    go_wp2_with fail
    refine (HT.out _).mono ?_
    rintro e w2 ⟨rfl, hb2⟩
    have HB2 := Lib.hid (HB.out.trans (hb2.mono HB.out.size)); clear hb2
    go_wp2
    refine bodyPost_ret (v := (.tuple #[.string t, .bool true])) (by simp [results, Tryz.results7, go_sem, *]) rfl ?_
    exact ⟨by rw [HV.out], HB2.out⟩
set_option maxRecDepth 100000 in
set_option maxHeartbeats 1000000 in
theorem implStepText_any (x : St) (w : World) (hok : x.ok) (hW : WordsAt w) :
    Calls Tryz.prog 6 #[x.v] w fun e w' => e = .returned (.tuple #[.string (sttV x), .bool (stB x)]) ∧ Below w.heap.size w w' := by
  have HG := Lib.hid (fun w => valid_any x w hok)
  have HW := Lib.hid hW
  obtain ⟨k, n, d⟩ := x
  cases hx : stB ⟨k, n, d⟩
  · have HV : Hid (sttV ⟨k, n, d⟩ = ⟨#[]⟩) := Lib.hid (by rw [sttV, hx]; rfl)
    rw [hx] at HG
    clear hx
    go_enter Tryz.func6, Tryz.ntmps6
    go_wp2_with fail
    refine (HG.out _).mono ?_
    rintro e w1 ⟨rfl, hb1⟩
    have HB := Lib.hid (Below.trans (by go_grown) (hb1.mono (by simp)) : Below w.heap.size w w1); clear hb1
    go_wp2
    refine bodyPost_ret (v := (.tuple #[.string ⟨#[]⟩, .bool false])) (by simp [results, Tryz.results6, go_sem, *]) rfl ?_
    exact ⟨by rw [HV.out], HB.out⟩
  · have HV : Hid (sttV ⟨k, n, d⟩ = stT ⟨k, n, d⟩) := Lib.hid (by rw [sttV, if_pos hx])
    have HT := Lib.hid (fun w => stepText_any ⟨k, n, d⟩ w hx)
    rw [hx] at HG
    clear hx
    generalize stT ⟨k, n, d⟩ = t at HV HT
    go_enter Tryz.func6, Tryz.ntmps6
    go_wp2_with fail
    refine (HG.out _).mono ?_
    rintro e w1 ⟨rfl, hb1⟩
    have HX : Hid (w1.heap[w.heap.size]? = some (.cells #[.int .i64 k, .int .i64 n, .string d] 25 (0, 0))) := Lib.hid ((hb1.block w.heap.size (by simp)).trans (heap_alloc_new _ _))
    have HB := Lib.hid (Below.trans (by go_grown) (hb1.mono (by simp)) : Below w.heap.size w w1); clear hb1
    have uh := HX.out; have u0 := cell_of_row w1 (w.heap.size) 0 _ _ _ uh; simp at u0; have uf0 := frozen_of_row w1 (w.heap.size) 0 _ _ uh; have u1 := cell_of_row w1 (w.heap.size) 1 _ _ _ uh; simp at u1; have uf1 := frozen_of_row w1 (w.heap.size) 1 _ _ uh; have u2 := cell_of_row w1 (w.heap.size) 2 _ _ _ uh; simp at u2; have uf2 := frozen_of_row w1 (w.heap.size) 2 _ _ uh; clear uh
    go_wp2_with fail
    refine (HT.out _ (HW.out.below HB.out)).mono ?_
    rintro e w2 ⟨rfl, hb2⟩
    have HB2 := Lib.hid (HB.out.trans (hb2.mono HB.out.size)); clear hb2
    go_wp2
    refine bodyPost_ret (v := (.tuple #[.string t, .bool true])) (by simp [results, Tryz.results6, go_sem, *]) rfl ?_
    exact ⟨by rw [HV.out], HB2.out⟩
set_option maxRecDepth 100000 in
set_option maxHeartbeats 4000000 in
theorem l16Lines_any (v : Value) (xs : List St) (w : World) (h : RdSt w v xs) (hB : scB xs = true) :
    Calls Tryz.prog 39 #[v] w fun e w' => e = .returned (.string (scT xs xs.length)) ∧ Below w.heap.size w w' := by
  have hlen := h.2.1
  obtain ⟨p, cap, b, off, rfl, hcap, hp, hcell⟩ := h.parts
  have HC := Lib.hid hcell; clear hcell
  have HP := Lib.hid hp; clear hp h
  obtain ⟨h30, hgood⟩ := scB_true.1 hB
  have HG := Lib.hid hgood; clear hgood hB
  go_enter Tryz.func39, Tryz.ntmps39
  go_wp2
  go_loopw [3, 4] (fun t i wr => ∃ n : Nat, n ≤ xs.length ∧ i = .int .i64 n ∧ t = .string (scT xs n) ∧ (scT xs n).size ≤ 20 * n ∧ Below w.heap.size w wr) (fun _ i _ => xs.length - (intOf i).toNat)
  case atStart => exact ⟨0, Nat.zero_le _, rfl, rfl, Nat.le_of_eq rfl, Below.refl _ _⟩
  case round =>
      obtain ⟨n, hn, rfl, rfl, hs, hb⟩ := hrel
      have hsz := hb.size
      by_cases hlt : n < xs.length
      · obtain rfl := HP.out (by omega)
        obtain ⟨c1, c2, c3⟩ := HC.out n hlt
        have c1 := cell_on hb c1
        have c2 := cell_on hb c2
        have c3 := cell_on hb c3
        have HS := Lib.hid (scT_succ xs n hlt)
        have hg := HG.out n hlt
        have ht := stT_size hg
        have HT := Lib.hid (fun w => l16Text_any ⟨xs[n].kd, xs[n].nd, xs[n].dt⟩ w hg)
        rw [show stT ⟨xs[n].kd, xs[n].nd, xs[n].dt⟩ = stT xs[n] from rfl] at HT
        generalize stT xs[n] = t at HT HS ht
        have hl1 : (⟨#[10]⟩ : ByteArray).size = 1 := rfl
        have HN : Hid ((scT xs (n + 1)).size ≤ 20 * (n + 1)) := Lib.hid (by rw [HS.out, ByteArray.size_append, ByteArray.size_append, hl1]; omega)
        clear hl1 hg
        generalize scT xs n = s at hs HS
        go_wp2_with fail
        refine (HT.out _).mono ?_
        rintro e w1 ⟨rfl, hb1⟩
        have HB1 := Lib.hid (Below.trans (by go_grown) (hb1.mono (by first | omega | (simp <;> omega))) : Below w.heap.size w w1); clear hb1
        go_wp2
        go_roundw
        case rel => exact ⟨n + 1, by omega, by go_num, by rw [HS.out, ba_assoc], HN.out, HB1.out⟩
        case measure => simp [intOf]; omega
      · obtain rfl : n = xs.length := by omega
        have HH := Lib.hid hb; clear hb
        go_wp2
        go_ret
        exact ⟨rfl, HH.out⟩
set_option maxRecDepth 100000 in
set_option maxHeartbeats 4000000 in
theorem specScriptText_any (v : Value) (xs : List St) (w : World) (h : RdSt w v xs) :
    Calls Tryz.prog 14 #[v] w fun e w' => e = .returned (.tuple #[.string (sctV xs), .bool (scB xs)]) ∧ Below w.heap.size w w' := by
  have HI := Lib.hid (l16Good_any v xs w h)
  have HR := Lib.hid h
  obtain ⟨p, cap, b, off, rfl, hcap, hp, hcell⟩ := h.parts
  clear hcell hp h
  cases hB : scB xs
  · have HV : Hid (sctV xs = ⟨#[]⟩) := Lib.hid (by rw [sctV, hB]; rfl)
    rw [hB] at HI
    go_enter Tryz.func14, Tryz.ntmps14
    go_wp2_with fail
    refine HI.out.mono ?_
    rintro e w1 ⟨rfl, hb⟩
    go_wp2
    refine bodyPost_ret (v := (.tuple #[.string ⟨#[]⟩, .bool false])) (by simp [results, Tryz.results14, go_sem, *]) rfl ?_
    exact ⟨by rw [HV.out], hb⟩
  · have HV : Hid (sctV xs = scT xs xs.length) := Lib.hid (by rw [sctV, if_pos hB])
    have HL := Lib.hid (fun w h => l16Lines_any (.slice p xs.length cap) xs w h hB)
    rw [hB] at HI
    clear hB
    generalize scT xs xs.length = t at HV HL
    go_enter Tryz.func14, Tryz.ntmps14
    go_wp2_with fail
    refine HI.out.mono ?_
    rintro e w1 ⟨rfl, hb⟩
    have HB := Lib.hid hb; clear hb
    go_wp2_with fail
    refine (HL.out _ (HR.out.below HB.out)).mono ?_
    rintro e w2 ⟨rfl, hb2⟩
    have HB2 := Lib.hid (HB.out.trans (hb2.mono HB.out.size)); clear hb2
    go_wp2
    refine bodyPost_ret (v := (.tuple #[.string t, .bool true])) (by simp [results, Tryz.results14, go_sem, *]) rfl ?_
    exact ⟨by rw [HV.out], HB2.out⟩
set_option maxRecDepth 100000 in
set_option maxHeartbeats 4000000 in
theorem implScriptText_any (v : Value) (xs : List St) (w : World) (h : RdSt w v xs) (hW : WordsAt w) :
    Calls Tryz.prog 13 #[v] w fun e w' => e = .returned (.tuple #[.string (sctV xs), .bool (scB xs)]) ∧ Below w.heap.size w w' := by
  have HI := Lib.hid (implIsScript_any v xs w h)
  have HW := Lib.hid hW; clear hW
  have hlen := h.2.1
  obtain ⟨p, cap, b, off, rfl, hcap, hp, hcell⟩ := h.parts
  have HC := Lib.hid hcell; clear hcell
  have HP := Lib.hid hp; clear hp h
  cases hB : scB xs
  · have HV : Hid (sctV xs = ⟨#[]⟩) := Lib.hid (by rw [sctV, hB]; rfl)
    rw [hB] at HI
    go_enter Tryz.func13, Tryz.ntmps13
    go_wp2_with fail
    refine HI.out.mono ?_
    rintro e w1 ⟨rfl, hb⟩
    go_wp2
    refine bodyPost_ret (v := (.tuple #[.string ⟨#[]⟩, .bool false])) (by simp [results, Tryz.results13, go_sem, *]) rfl ?_
    exact ⟨by rw [HV.out], hb⟩
  · have HV : Hid (sctV xs = scT xs xs.length) := Lib.hid (by rw [sctV, if_pos hB])
    obtain ⟨h30, hgood⟩ := scB_true.1 hB
    have HG := Lib.hid hgood; clear hgood
    rw [hB] at HI
    clear hB
    go_enter Tryz.func13, Tryz.ntmps13
    go_wp2_with fail
    refine HI.out.mono ?_
    rintro e w1 ⟨rfl, hb⟩
    have HB := Lib.hid hb; clear hb
    go_wp2
    go_loopw [4, 12] (fun t i wr => ∃ n : Nat, n ≤ xs.length ∧ i = .int .i64 n ∧ t = .string (scT xs n) ∧ (scT xs n).size ≤ 20 * n ∧ Below w.heap.size w wr) (fun _ i _ => xs.length - (intOf i).toNat)
    case atStart => exact ⟨0, Nat.zero_le _, rfl, rfl, Nat.le_of_eq rfl, HB.out⟩
    case round =>
      clear HB
      obtain ⟨n, hn, rfl, rfl, hs, hb⟩ := hrel
      have hsz := hb.size
      by_cases hlt : n < xs.length
      · obtain rfl := HP.out (by omega)
        obtain ⟨c1, c2, c3⟩ := HC.out n hlt
        have c1 := cell_on hb c1
        have c2 := cell_on hb c2
        have c3 := cell_on hb c3
        have HS := Lib.hid (scT_succ xs n hlt)
        have hg := HG.out n hlt
        have ht := stT_size hg
        have HT := Lib.hid (fun w => stepText_any ⟨xs[n].kd, xs[n].nd, xs[n].dt⟩ w hg)
        rw [show stT ⟨xs[n].kd, xs[n].nd, xs[n].dt⟩ = stT xs[n] from rfl] at HT
        generalize stT xs[n] = t at HT HS ht
        have hl1 : (⟨#[10]⟩ : ByteArray).size = 1 := rfl
        have HN : Hid ((scT xs (n + 1)).size ≤ 20 * (n + 1)) := Lib.hid (by rw [HS.out, ByteArray.size_append, ByteArray.size_append, hl1]; omega)
        clear hl1 hg
        generalize scT xs n = s at hs HS
        go_wp2_with fail
        refine (HT.out _ (HW.out.below (Below.trans hb (by go_grown)))).mono ?_
        rintro e w1 ⟨rfl, hb1⟩
        have HB1 := Lib.hid (Below.trans (by go_grown) (hb1.mono (by first | omega | (simp <;> omega))) : Below w.heap.size w w1); clear hb1
        go_wp2
        go_roundw
        case rel => exact ⟨n + 1, by omega, by go_num, by rw [HS.out], HN.out, HB1.out⟩
        case measure => simp [intOf]; omega
      · obtain rfl : n = xs.length := by omega
        have HH := Lib.hid hb; clear hb
        go_wp2
        refine bodyPost_ret (v := (.tuple #[.string (scT xs xs.length), .bool true])) (by simp [results, Tryz.results13, go_sem, *]) rfl ?_
        exact ⟨by rw [HV.out], HH.out⟩
end Go.Proofs.YtgmccafmopgjaaaGreatDoor
