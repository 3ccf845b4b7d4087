/- A step read from its text: the program's ParseStep and the reference's l16Parse, for every text of at most 2^20 bytes. Conditions (the program): the table of words, the library's table of powers and its two errors lie where they are laid. -/
import Derived.Test.YtgmccafmopgjaaaGreatDoorPsCand
import Derived.Test.YtgmccafmopgjaaaGreatDoorCnt0
import Derived.Shelf.Small.Wraps
import Derived.Shelf.Strings.Prefix
namespace Go.Proofs.YtgmccafmopgjaaaGreatDoor
open Go.RowKit

def psEnd : Option St → Ending
  | some x => .returned (.tuple #[x.v, .bool true])
  | none => .returned (.tuple #[(⟨0, 0, ⟨#[]⟩⟩ : St).v, .bool false])
theorem cutP_any (s p : ByteArray) (w : World) : Calls Tryz.prog 31 #[.string s, .string p] w fun e w' => e = .returned (.tuple #[.string (trimP s p), .bool (Lib.hasPrefix s.data.toList p.data.toList)]) ∧ w = w' :=
  (Any.strings_CutPrefix Tryz.lays103 s p w).mono fun _ _ h => ⟨h.1, h.2.symm⟩
theorem trimP_any (s p : ByteArray) (w : World) : Calls Tryz.prog 32 #[.string s, .string p] w fun e w' => e = .returned (.string (trimP s p)) ∧ w = w' :=
  (Any.strings_TrimPrefix Tryz.lays101 s p w).mono fun _ _ h => ⟨h.1, h.2.symm⟩
/-- no kind below k has a step with the text -/
def NoSt (s : ByteArray) (k : Nat) : Prop := ∀ j : Nat, j < k → ∀ y, ¬ StIs j s y
theorem NoSt.succ {s : ByteArray} {k : Nat} (h : NoSt s k) (hk : ∀ y, ¬ StIs k s y) : NoSt s (k + 1) := fun j hj y => by
  by_cases he : j = k
  · subst he; exact hk y
  · exact h j (by omega) y
theorem NoSt.one (s : ByteArray) : NoSt s 1 := fun j hj y h => by have := stIs_kd h; omega
theorem NoSt.none {s : ByteArray} (h : NoSt s 7) : PsIs s none := fun j hj y => h j (by omega) y
theorem NoSt.some {s : ByteArray} {k : Nat} {x : St} (h : NoSt s k) (hk : k ≤ 6) (hx : StIs k s x) : PsIs s (some x) := ⟨k, hk, hx, h⟩
theorem sttV_of {x : St} (h : stB x = true) : sttV x = stT x := by rw [sttV, if_pos h]
set_option maxRecDepth 100000 in
set_option maxHeartbeats 4000000 in
theorem implParseStep_any (s : ByteArray) (w : World) (hs : s.size ≤ 1048576) (hW : WordsAt w) (hP : PowAt w) (hE : ErrAt w) :
    Calls Tryz.prog 9 #[.string s] w fun e w' => ∃ o, e = psEnd o ∧ PsIs s o ∧ Below w.heap.size w w' := by
  have HWo := Lib.hid hW; have HPw := Lib.hid hP; have HEr := Lib.hid hE
  clear hW hP hE
  have HR0 : Hid ((w.alloc (.cells #[.int .i64 0, .int .i64 0, .string ⟨#[]⟩] 25)).heap[w.heap.size]? = some (.cells #[.int .i64 0, .int .i64 0, .string ⟨#[]⟩] 25 (0, 0))) := Lib.hid (heap_alloc_new w _)
  go_enter Tryz.func9, Tryz.ntmps9
  go_wp2
  go_loopw [4, 5, 6, 8, 9] (fun i _ _ _ _ wr => ∃ k : Nat, 1 ≤ k ∧ k ≤ 7 ∧ i = .int .i64 k ∧ Hid (NoSt s k) ∧ Hid (wr.heap[w.heap.size]? = some (.cells #[.int .i64 0, .int .i64 0, .string ⟨#[]⟩] 25 (0, 0))) ∧ Hid (Below w.heap.size w wr)) (fun i _ _ _ _ _ => 7 - (intOf i).toNat)
  case atStart => exact ⟨1, Nat.le_refl _, by omega, rfl, Lib.hid (NoSt.one s), HR0, Lib.hid (below_alloc1 _ _)⟩
  case round =>
    clear HR0
    obtain ⟨k, hk1, hk7, rfl, HNo, HR, HB⟩ := hrel
    by_cases hlt : k ≤ 6
    · have hk6 : k < 7 := by omega
      have hc := (HWo.out.below HB.out) k hk6
      have HC := Lib.hid (fun w => cutP_any s (stW k) w)
      have hz := HB.out.size
      have hlw : w.heap.size < wr.heap.size := (Array.getElem?_eq_some_iff.1 HR.out).1
      cases hp : Lib.hasPrefix s.data.toList (stW k).data.toList
      · have HN2 : Hid (NoSt s (k + 1)) := Lib.hid (HNo.out.succ fun y h => by have := (candI_is h).1; rw [hp] at this; cases this)
        rw [hp] at HC
        clear hp
        go_wp2_with fail
        refine (HC.out _).mono ?_
        rintro e w' ⟨rfl, rfl⟩
        go_wp2
        go_roundw
        case rel => exact ⟨k + 1, by omega, by omega, by go_num, HN2, HR, HB⟩
        case measure => (simp [intOf]; try omega)
      · rw [hp] at HC
        have HT := Lib.hid (fun w => trimP_any (trimP s (stW k)) ⟨#[32]⟩ w)
        have hsz := Nat.le_trans (trimP_size (trimP s (stW k)) ⟨#[32]⟩) (trimP_size s (stW k))
        have HCd : Hid (candI k s = if k = 1 then ⟨1, 0, trimP (trimP s (stW k)) ⟨#[32]⟩⟩ else ⟨k, (readO (trimP (trimP s (stW k)) ⟨#[32]⟩)).getD 0, ⟨#[]⟩⟩) := Lib.hid (by unfold candI; split; (rename_i h; rw [h]); rfl)
        generalize trimP (trimP s (stW k)) ⟨#[32]⟩ = t at *
        clear hp
        by_cases h1 : k = 1
        · subst h1
          have HN0 : Hid (candI 1 s = ⟨1, 0, t⟩) := Lib.hid (by rw [HCd.out]; simp)
          clear HCd
          have HCd := HN0; clear HN0
          have HS := Lib.hid (fun w h => implStepText_any ⟨1, 0, t⟩ w (show t.size ≤ 9223372036854775807 by omega) h)
          go_wp2_with fail
          refine (HC.out _).mono ?_
          rintro e w' ⟨rfl, rfl⟩
          go_wp2_with fail
          refine (HT.out _).mono ?_
          rintro e w' ⟨rfl, rfl⟩
          go_wp2_with fail
          refine (HS.out _ (HWo.out.below (HB.out.trans (by go_grown)))).mono ?_
          rintro e w5 ⟨rfl, hb5⟩
          have HX : Hid (w5.heap[wr.heap.size]? = some (.cells #[.int .i64 (1), .int .i64 (0), .string (t)] 25 (0, 0))) := Lib.hid ((hb5.block wr.heap.size (by simp)).trans (heap_alloc_new _ _))
          have HB5 : Hid (Below w.heap.size w w5) := Lib.hid (Below.trans (HB.out.trans (by go_grown)) (hb5.mono (by have := HB.out.size; simp; omega)))
          have HR5 : Hid (w5.heap[w.heap.size]? = some (.cells #[.int .i64 0, .int .i64 0, .string ⟨#[]⟩] 25 (0, 0))) := Lib.hid ((hb5.block w.heap.size (by simp; omega)).trans ((Below.heap_alloc _ _ _ hlw).trans HR.out))
          clear hb5
          have xh := HX.out; have x0 := cell_of_row w5 (wr.heap.size) 0 _ _ _ xh; simp at x0; have xf0 := frozen_of_row w5 (wr.heap.size) 0 _ _ xh; have x1 := cell_of_row w5 (wr.heap.size) 1 _ _ _ xh; simp at x1; have xf1 := frozen_of_row w5 (wr.heap.size) 1 _ _ xh; have x2 := cell_of_row w5 (wr.heap.size) 2 _ _ _ xh; simp at x2; have xf2 := frozen_of_row w5 (wr.heap.size) 2 _ _ xh; clear xh
          have rh := HR5.out; have r0 := cell_of_row w5 (w.heap.size) 0 _ _ _ rh; simp at r0; have rf0 := frozen_of_row w5 (w.heap.size) 0 _ _ rh; have r1 := cell_of_row w5 (w.heap.size) 1 _ _ _ rh; simp at r1; have rf1 := frozen_of_row w5 (w.heap.size) 1 _ _ rh; have r2 := cell_of_row w5 (w.heap.size) 2 _ _ _ rh; simp at r2; have rf2 := frozen_of_row w5 (w.heap.size) 2 _ _ rh; clear rh
          have hxl : wr.heap.size < w5.heap.size := (Array.getElem?_eq_some_iff.1 HX.out).1
          have hrl : w.heap.size < w5.heap.size := (Array.getElem?_eq_some_iff.1 HR5.out).1
          cases hB : stB ⟨1, 0, t⟩
          · have HN2 : Hid (NoSt s (1 + 1)) := Lib.hid (HNo.out.succ fun y h => by
              have e := (candI_is h).2
              rw [HCd.out] at e
              rw [← e] at h
              rw [h.1] at hB; cases hB)
            go_wp2
            go_roundw
            case rel => exact ⟨1 + 1, by omega, by omega, by go_num, HN2, HR5, HB5⟩
            case measure => (simp [intOf]; try omega)
          · have HV := Lib.hid (sttV_of hB)
            cases hq : ((sttV ⟨1, 0, t⟩).toList == s.toList)
            · have HN2 : Hid (NoSt s (1 + 1)) := Lib.hid (HNo.out.succ fun y h => by
                have e := (candI_is h).2
                rw [HCd.out] at e
                rw [← e] at h
                rw [HV.out, h.2.2] at hq
                simp at hq)
              go_wp2
              go_roundw
              case rel => exact ⟨1 + 1, by omega, by omega, by go_num, HN2, HR5, HB5⟩
              case measure => (simp [intOf]; try omega)
            · have HSt : Hid (StIs 1 s ⟨1, 0, t⟩) := Lib.hid ⟨hB, rfl, by rw [← HV.out]; exact ba_same (beq_iff_eq.1 hq)⟩
              go_wp2
              refine bodyPost_ret (v := (.tuple #[.agg #[.int .i64 (1), .int .i64 (0), .string (t)], .bool true])) (by simp [results, Tryz.results9, go_sem, *]) rfl ?_
              exact ⟨some ⟨1, 0, t⟩, rfl, HNo.out.some (by omega) HSt.out, (((HB5.out.setCell (Nat.le_refl _) _).setCell (Nat.le_refl _) _).setCell (Nat.le_refl _) _)⟩
        · have HN0 : Hid (candI k s = ⟨k, (readO t).getD 0, ⟨#[]⟩⟩) := Lib.hid (by rw [HCd.out, if_neg h1])
          have HPi := Lib.hid (fun w a b => parseInt_any t w (by omega) a b)
          have HS := Lib.hid (fun w h => implStepText_any ⟨k, (readO t).getD 0, ⟨#[]⟩⟩ w (show (⟨#[]⟩ : ByteArray).size ≤ 9223372036854775807 by decide) h)
          unfold rdEnd at HPi
          clear HCd
          have HCd := HN0; clear HN0
          generalize (readO t).getD 0 = n at *
          generalize (readO t).isSome = f at *
          have hk1' : ¬ (k : Int) = 1 := by omega
          go_wp2_with fail
          refine (HC.out _).mono ?_
          rintro e w' ⟨rfl, rfl⟩
          go_wp2_with fail
          refine (HT.out _).mono ?_
          rintro e w' ⟨rfl, rfl⟩
          go_wp2_with fail
          refine (HPi.out _ (HPw.out.below (HB.out.trans (by go_grown))) (HEr.out.below (HB.out.trans (by go_grown)))).mono ?_
          rintro e w4 ⟨rfl, hb4⟩
          have HX4 : Hid (w4.heap[wr.heap.size]? = some (.cells #[.int .i64 k, .int .i64 0, .string ⟨#[]⟩] 25 (0, 0))) := Lib.hid ((hb4.block wr.heap.size (by simp)).trans (heap_alloc_new _ _))
          have HR4 : Hid (w4.heap[w.heap.size]? = some (.cells #[.int .i64 0, .int .i64 0, .string ⟨#[]⟩] 25 (0, 0))) := Lib.hid ((hb4.block w.heap.size (by simp; omega)).trans ((Below.heap_alloc _ _ _ hlw).trans HR.out))
          have HB4 : Hid (Below w.heap.size w w4) := Lib.hid (HB.out.trans (Below.mono (Below.trans (by go_grown) (hb4.mono (by simp))) HB.out.size))
          clear hb4
          have xh := HX4.out; have x0 := cell_of_row w4 (wr.heap.size) 0 _ _ _ xh; simp at x0; have xf0 := frozen_of_row w4 (wr.heap.size) 0 _ _ xh; have x1 := cell_of_row w4 (wr.heap.size) 1 _ _ _ xh; simp at x1; have xf1 := frozen_of_row w4 (wr.heap.size) 1 _ _ xh; have x2 := cell_of_row w4 (wr.heap.size) 2 _ _ _ xh; simp at x2; have xf2 := frozen_of_row w4 (wr.heap.size) 2 _ _ xh; clear xh
          have hxl4 : wr.heap.size < w4.heap.size := (Array.getElem?_eq_some_iff.1 HX4.out).1
          have hne : w.heap.size ≠ wr.heap.size := by omega
          go_wp2_with fail
          refine (HS.out _ (HWo.out.below (HB4.out.setCell hz _))).mono ?_
          rintro e w5 ⟨rfl, hb5⟩
          have HX : Hid (w5.heap[wr.heap.size]? = some (.cells #[.int .i64 (k), .int .i64 (n), .string (⟨#[]⟩)] 25 (0, 0))) := Lib.hid ((hb5.block wr.heap.size (by simp; omega)).trans (set_at HX4.out 1 _))
          have HB5 : Hid (Below w.heap.size w w5) := Lib.hid (Below.trans (HB4.out.setCell hz _) (hb5.mono (by have := HB4.out.size; simp; omega)))
          have HR5 : Hid (w5.heap[w.heap.size]? = some (.cells #[.int .i64 0, .int .i64 0, .string ⟨#[]⟩] 25 (0, 0))) := Lib.hid ((hb5.block w.heap.size (by simp; omega)).trans ((set_other _ _ _ _ hne).trans HR4.out))
          clear hb5
          have xh := HX.out; have x0 := cell_of_row w5 (wr.heap.size) 0 _ _ _ xh; simp at x0; have xf0 := frozen_of_row w5 (wr.heap.size) 0 _ _ xh; have x1 := cell_of_row w5 (wr.heap.size) 1 _ _ _ xh; simp at x1; have xf1 := frozen_of_row w5 (wr.heap.size) 1 _ _ xh; have x2 := cell_of_row w5 (wr.heap.size) 2 _ _ _ xh; simp at x2; have xf2 := frozen_of_row w5 (wr.heap.size) 2 _ _ xh; clear xh
          have rh := HR5.out; have r0 := cell_of_row w5 (w.heap.size) 0 _ _ _ rh; simp at r0; have rf0 := frozen_of_row w5 (w.heap.size) 0 _ _ rh; have r1 := cell_of_row w5 (w.heap.size) 1 _ _ _ rh; simp at r1; have rf1 := frozen_of_row w5 (w.heap.size) 1 _ _ rh; have r2 := cell_of_row w5 (w.heap.size) 2 _ _ _ rh; simp at r2; have rf2 := frozen_of_row w5 (w.heap.size) 2 _ _ rh; clear rh
          have hxl : wr.heap.size < w5.heap.size := (Array.getElem?_eq_some_iff.1 HX.out).1
          have hrl : w.heap.size < w5.heap.size := (Array.getElem?_eq_some_iff.1 HR5.out).1
          cases hB : stB ⟨k, n, ⟨#[]⟩⟩
          · have HN2 : Hid (NoSt s (k + 1)) := Lib.hid (HNo.out.succ fun y h => by
              have e := (candI_is h).2
              rw [HCd.out] at e
              rw [← e] at h
              rw [h.1] at hB; cases hB)
            go_wp2
            go_roundw
            case rel => exact ⟨k + 1, by omega, by omega, by go_num, HN2, HR5, HB5⟩
            case measure => (simp [intOf]; try omega)
          · have HV := Lib.hid (sttV_of hB)
            cases hq : ((sttV ⟨k, n, ⟨#[]⟩⟩).toList == s.toList)
            · have HN2 : Hid (NoSt s (k + 1)) := Lib.hid (HNo.out.succ fun y h => by
                have e := (candI_is h).2
                rw [HCd.out] at e
                rw [← e] at h
                rw [HV.out, h.2.2] at hq
                simp at hq)
              go_wp2
              go_roundw
              case rel => exact ⟨k + 1, by omega, by omega, by go_num, HN2, HR5, HB5⟩
              case measure => (simp [intOf]; try omega)
            · have HSt : Hid (StIs k s ⟨k, n, ⟨#[]⟩⟩) := Lib.hid ⟨hB, rfl, by rw [← HV.out]; exact ba_same (beq_iff_eq.1 hq)⟩
              go_wp2
              refine bodyPost_ret (v := (.tuple #[.agg #[.int .i64 (k), .int .i64 (n), .string (⟨#[]⟩)], .bool true])) (by simp [results, Tryz.results9, go_sem, *]) rfl ?_
              exact ⟨some ⟨k, n, ⟨#[]⟩⟩, rfl, HNo.out.some (by omega) HSt.out, (((HB5.out.setCell (Nat.le_refl _) _).setCell (Nat.le_refl _) _).setCell (Nat.le_refl _) _)⟩
    · obtain rfl : k = 7 := by omega
      have rh := HR.out; have r0 := cell_of_row wr (w.heap.size) 0 _ _ _ rh; simp at r0; have rf0 := frozen_of_row wr (w.heap.size) 0 _ _ rh; have r1 := cell_of_row wr (w.heap.size) 1 _ _ _ rh; simp at r1; have rf1 := frozen_of_row wr (w.heap.size) 1 _ _ rh; have r2 := cell_of_row wr (w.heap.size) 2 _ _ _ rh; simp at r2; have rf2 := frozen_of_row wr (w.heap.size) 2 _ _ rh; clear rh
      have hrl : w.heap.size < wr.heap.size := (Array.getElem?_eq_some_iff.1 HR.out).1
      go_wp2
      refine bodyPost_ret (v := (.tuple #[.agg #[.int .i64 0, .int .i64 0, .string ⟨#[]⟩], .bool false])) (by simp [results, Tryz.results9, go_sem, *]) rfl ?_
      exact ⟨none, rfl, HNo.out.none, (((HB.out.setCell (Nat.le_refl _) _).setCell (Nat.le_refl _) _).setCell (Nat.le_refl _) _)⟩
set_option maxRecDepth 100000 in
set_option maxHeartbeats 4000000 in
theorem l16Parse_any (s : ByteArray) (w : World) (hs : s.size ≤ 1048576) :
    Calls Tryz.prog 36 #[.string s] w fun e w' => ∃ o, e = psEnd o ∧ PsIs s o ∧ Below w.heap.size w w' := by
  have HSp := Lib.hid (fun w => l1Split_any s 32 w hs)
  go_enter Tryz.func36, Tryz.ntmps36
  go_wp2_with fail
  refine (HSp.out _).mono ?_
  rintro e w1 ⟨v, ws, rfl, hws, hO, hb⟩
  have hok := parts_ok hws hs
  have HSz := Lib.hid hok.2.2
  have hw0 : 0 < ws.length := by
    obtain ⟨p0, ps0, hp0⟩ := spl_ne 32 s.data.toList
    have := congrArg List.length hws
    rw [hp0, List.length_map, List.length_cons] at this
    omega
  have hwl := hok.1
  have HR1 : Hid (w1.heap[w.heap.size]? = some (.cells #[.int .i64 0, .int .i64 0, .string ⟨#[]⟩] 25 (0, 0))) := Lib.hid ((hb.block w.heap.size (by simp)).trans (heap_alloc_new _ _))
  have HB1 : Hid (Below w.heap.size w w1) := Lib.hid (Below.trans (by go_grown) (hb.mono (by simp)))
  obtain ⟨p, cap, g, rfl, hcap, hq⟩ := own_shape hO.1
  obtain ⟨rfl, _⟩ := hq hw0
  have hlt0 : ws.length - 1 < ws.length := by omega
  have cl : w1.cell? ⟨g, ws.length - 1, none⟩ = some (.string (ws[ws.length - 1]'hlt0)) := by rw [hO.1.cellAt _ (by omega), List.getElem?_map, List.getElem?_eq_getElem hlt0]; rfl
  have hl := HSz.out _ (List.getElem_mem hlt0)
  have HCs : Hid (∀ (k : Nat) y, StIs k s y → candS k ws (ws[ws.length - 1]'hlt0) = y) := Lib.hid (fun k y h => candS_is h hws hw0)
  clear hO hb hq hok
  generalize ws[ws.length - 1]'hlt0 = l at *
  have e1 : (0 : Int) ≤ (ws.length : Int) - 1 := by omega
  have e2 : (ws.length : Int) - 1 < (ws.length : Int) := by omega
  have e3 : ((ws.length : Int) - 1).toNat = ws.length - 1 := by omega
  have e4 : IntKind.i64.wrap ((ws.length : Int) - 1) = (ws.length : Int) - 1 := by rw [IntKind.wrap_i64]; omega
  go_wp2
  go_loopw [6] (fun i wr => ∃ k : Nat, 1 ≤ k ∧ k ≤ 7 ∧ i = .int .i64 k ∧ Hid (NoSt s k) ∧ Hid (wr.heap[w.heap.size]? = some (.cells #[.int .i64 0, .int .i64 0, .string ⟨#[]⟩] 25 (0, 0))) ∧ Hid (Below w.heap.size w wr)) (fun i _ => 7 - (intOf i).toNat)
  case atStart => exact ⟨1, Nat.le_refl _, by omega, rfl, Lib.hid (NoSt.one s), HR1, HB1⟩
  case round =>
    clear HR1 HB1 cl e1 e2 e3 e4
    obtain ⟨k, hk1, hk7, rfl, HNo, HR, HB⟩ := hrel
    have hz := HB.out.size
    have hlw : w.heap.size < wr.heap.size := (Array.getElem?_eq_some_iff.1 HR.out).1
    by_cases hlt : k ≤ 6
    · by_cases h1 : k = 1
      · subst h1
        by_cases h2 : ws.length = 2
        · have HCd : Hid (candS 1 ws l = ⟨1, 0, l⟩) := Lib.hid (by rw [candS, if_pos rfl, if_pos h2])
          have h2i : ((ws.length : Int) == 2) = true := by rw [beq_iff_eq]; omega
          clear h2
          have HS := Lib.hid (fun w => l15Step_any ⟨1, 0, l⟩ w (show l.size ≤ 9223372036854775807 by omega))
          cases hB : stB ⟨1, 0, l⟩
          · have HN2 : Hid (NoSt s (1 + 1)) := Lib.hid (HNo.out.succ fun y h => by
              have e := HCs.out _ _ h
              rw [HCd.out] at e
              rw [← e] at h
              rw [h.1] at hB; cases hB)
            rw [hB] at HS
            clear hB
            go_wp2_with fail
            refine (HS.out _).mono ?_
            rintro e w5 ⟨rfl, hb5⟩
            have HB5 : Hid (Below w.heap.size w w5) := Lib.hid (Below.trans (HB.out.trans (by go_grown)) (hb5.mono (by have := HB.out.size; simp; omega)))
            have HR5 : Hid (w5.heap[w.heap.size]? = some (.cells #[.int .i64 0, .int .i64 0, .string ⟨#[]⟩] 25 (0, 0))) := Lib.hid ((hb5.block w.heap.size (by simp; omega)).trans ((Below.heap_alloc _ _ _ hlw).trans HR.out))
            clear hb5
            go_wp2
            go_roundw
            case rel => exact ⟨1 + 1, by omega, by omega, by go_num, HN2, HR5, HB5⟩
            case measure => (simp [intOf]; try omega)
          · have HTx := Lib.hid (fun w => l16Text_any ⟨1, 0, l⟩ w hB)
            have hsz6 := stT_size hB
            rw [hB] at HS
            cases hq : ((stT ⟨1, 0, l⟩).toList == s.toList)
            · have HN2 : Hid (NoSt s (1 + 1)) := Lib.hid (HNo.out.succ fun y h => by
                have e := HCs.out _ _ h
                rw [HCd.out] at e
                rw [← e] at h
                rw [h.2.2] at hq
                simp at hq)
              generalize stT ⟨1, 0, l⟩ = tx at *
              go_wp2_with fail
              refine (HS.out _).mono ?_
              rintro e w5 ⟨rfl, hb5⟩
              have HX : Hid (w5.heap[wr.heap.size]? = some (.cells #[.int .i64 (1), .int .i64 (0), .string (l)] 25 (0, 0))) := Lib.hid ((hb5.block wr.heap.size (by simp)).trans (heap_alloc_new _ _))
              have HB5 : Hid (Below w.heap.size w w5) := Lib.hid (Below.trans (HB.out.trans (by go_grown)) (hb5.mono (by have := HB.out.size; simp; omega)))
              have HR5 : Hid (w5.heap[w.heap.size]? = some (.cells #[.int .i64 0, .int .i64 0, .string ⟨#[]⟩] 25 (0, 0))) := Lib.hid ((hb5.block w.heap.size (by simp; omega)).trans ((Below.heap_alloc _ _ _ hlw).trans HR.out))
              clear hb5
              have xh := HX.out; have x0 := cell_of_row w5 (wr.heap.size) 0 _ _ _ xh; simp at x0; have xf0 := frozen_of_row w5 (wr.heap.size) 0 _ _ xh; have x1 := cell_of_row w5 (wr.heap.size) 1 _ _ _ xh; simp at x1; have xf1 := frozen_of_row w5 (wr.heap.size) 1 _ _ xh; have x2 := cell_of_row w5 (wr.heap.size) 2 _ _ _ xh; simp at x2; have xf2 := frozen_of_row w5 (wr.heap.size) 2 _ _ xh; clear xh
              have hrl : w.heap.size < w5.heap.size := (Array.getElem?_eq_some_iff.1 HR5.out).1
              go_wp2_with fail
              refine (HTx.out _).mono ?_
              rintro e w6 ⟨rfl, hb6⟩
              have HB6 : Hid (Below w.heap.size w w6) := Lib.hid (HB5.out.trans (hb6.mono HB5.out.size))
              have HR6 := Lib.hid ((hb6.block w.heap.size hrl).trans HR5.out)
              clear hb6 HX x0 x1 x2 xf0 xf1 xf2
              go_wp2
              go_roundw
              case rel => exact ⟨1 + 1, by omega, by omega, by go_num, HN2, HR6, HB6⟩
              case measure => (simp [intOf]; try omega)
            · have HSt : Hid (StIs 1 s ⟨1, 0, l⟩) := Lib.hid ⟨hB, rfl, ba_same (beq_iff_eq.1 hq)⟩
              generalize stT ⟨1, 0, l⟩ = tx at *
              go_wp2_with fail
              refine (HS.out _).mono ?_
              rintro e w5 ⟨rfl, hb5⟩
              have HX : Hid (w5.heap[wr.heap.size]? = some (.cells #[.int .i64 (1), .int .i64 (0), .string (l)] 25 (0, 0))) := Lib.hid ((hb5.block wr.heap.size (by simp)).trans (heap_alloc_new _ _))
              have HB5 : Hid (Below w.heap.size w w5) := Lib.hid (Below.trans (HB.out.trans (by go_grown)) (hb5.mono (by have := HB.out.size; simp; omega)))
              have HR5 : Hid (w5.heap[w.heap.size]? = some (.cells #[.int .i64 0, .int .i64 0, .string ⟨#[]⟩] 25 (0, 0))) := Lib.hid ((hb5.block w.heap.size (by simp; omega)).trans ((Below.heap_alloc _ _ _ hlw).trans HR.out))
              clear hb5
              have xh := HX.out; have x0 := cell_of_row w5 (wr.heap.size) 0 _ _ _ xh; simp at x0; have xf0 := frozen_of_row w5 (wr.heap.size) 0 _ _ xh; have x1 := cell_of_row w5 (wr.heap.size) 1 _ _ _ xh; simp at x1; have xf1 := frozen_of_row w5 (wr.heap.size) 1 _ _ xh; have x2 := cell_of_row w5 (wr.heap.size) 2 _ _ _ xh; simp at x2; have xf2 := frozen_of_row w5 (wr.heap.size) 2 _ _ xh; clear xh
              have hxl : wr.heap.size < w5.heap.size := (Array.getElem?_eq_some_iff.1 HX.out).1
              have hrl : w.heap.size < w5.heap.size := (Array.getElem?_eq_some_iff.1 HR5.out).1
              go_wp2_with fail
              refine (HTx.out _).mono ?_
              rintro e w6 ⟨rfl, hb6⟩
              have HB6 : Hid (Below w.heap.size w w6) := Lib.hid (HB5.out.trans (hb6.mono HB5.out.size))
              have HR6 := Lib.hid ((hb6.block w.heap.size hrl).trans HR5.out)
              have HX6 := Lib.hid ((hb6.block (wr.heap.size) hxl).trans HX.out)
              clear hb6 x0 x1 x2 xf0 xf1 xf2 hxl hrl
              have xh := HX6.out; have x0 := cell_of_row w6 (wr.heap.size) 0 _ _ _ xh; simp at x0; have xf0 := frozen_of_row w6 (wr.heap.size) 0 _ _ xh; have x1 := cell_of_row w6 (wr.heap.size) 1 _ _ _ xh; simp at x1; have xf1 := frozen_of_row w6 (wr.heap.size) 1 _ _ xh; have x2 := cell_of_row w6 (wr.heap.size) 2 _ _ _ xh; simp at x2; have xf2 := frozen_of_row w6 (wr.heap.size) 2 _ _ xh; clear xh
              have rh := HR6.out; have r0 := cell_of_row w6 (w.heap.size) 0 _ _ _ rh; simp at r0; have rf0 := frozen_of_row w6 (w.heap.size) 0 _ _ rh; have r1 := cell_of_row w6 (w.heap.size) 1 _ _ _ rh; simp at r1; have rf1 := frozen_of_row w6 (w.heap.size) 1 _ _ rh; have r2 := cell_of_row w6 (w.heap.size) 2 _ _ _ rh; simp at r2; have rf2 := frozen_of_row w6 (w.heap.size) 2 _ _ rh; clear rh
              have hxl : wr.heap.size < w6.heap.size := (Array.getElem?_eq_some_iff.1 HX6.out).1
              have hrl : w.heap.size < w6.heap.size := (Array.getElem?_eq_some_iff.1 HR6.out).1
              go_wp2
              refine bodyPost_ret (v := (.tuple #[.agg #[.int .i64 (1), .int .i64 (0), .string (l)], .bool true])) (by simp [results, Tryz.results36, go_sem, *]) rfl ?_
              exact ⟨some ⟨1, 0, l⟩, rfl, HNo.out.some (by omega) HSt.out, (((HB6.out.setCell (Nat.le_refl _) _).setCell (Nat.le_refl _) _).setCell (Nat.le_refl _) _)⟩
        · have HCd : Hid (candS 1 ws l = ⟨1, 0, ⟨#[]⟩⟩) := Lib.hid (by rw [candS, if_pos rfl, if_neg h2])
          have h2i : ((ws.length : Int) == 2) = false := by rw [beq_eq_false_iff_ne]; omega
          clear h2
          have HS := Lib.hid (fun w => l15Step_any ⟨1, 0, ⟨#[]⟩⟩ w (show (⟨#[]⟩ : ByteArray).size ≤ 9223372036854775807 by decide))
          cases hB : stB ⟨1, 0, ⟨#[]⟩⟩
          · have HN2 : Hid (NoSt s (1 + 1)) := Lib.hid (HNo.out.succ fun y h => by
              have e := HCs.out _ _ h
              rw [HCd.out] at e
              rw [← e] at h
              rw [h.1] at hB; cases hB)
            rw [hB] at HS
            clear hB
            go_wp2_with fail
            refine (HS.out _).mono ?_
            rintro e w5 ⟨rfl, hb5⟩
            have HB5 : Hid (Below w.heap.size w w5) := Lib.hid (Below.trans (HB.out.trans (by go_grown)) (hb5.mono (by have := HB.out.size; simp; omega)))
            have HR5 : Hid (w5.heap[w.heap.size]? = some (.cells #[.int .i64 0, .int .i64 0, .string ⟨#[]⟩] 25 (0, 0))) := Lib.hid ((hb5.block w.heap.size (by simp; omega)).trans ((Below.heap_alloc _ _ _ hlw).trans HR.out))
            clear hb5
            go_wp2
            go_roundw
            case rel => exact ⟨1 + 1, by omega, by omega, by go_num, HN2, HR5, HB5⟩
            case measure => (simp [intOf]; try omega)
          · have HTx := Lib.hid (fun w => l16Text_any ⟨1, 0, ⟨#[]⟩⟩ w hB)
            have hsz6 := stT_size hB
            rw [hB] at HS
            cases hq : ((stT ⟨1, 0, ⟨#[]⟩⟩).toList == s.toList)
            · have HN2 : Hid (NoSt s (1 + 1)) := Lib.hid (HNo.out.succ fun y h => by
                have e := HCs.out _ _ h
                rw [HCd.out] at e
                rw [← e] at h
                rw [h.2.2] at hq
                simp at hq)
              generalize stT ⟨1, 0, ⟨#[]⟩⟩ = tx at *
              go_wp2_with fail
              refine (HS.out _).mono ?_
              rintro e w5 ⟨rfl, hb5⟩
              have HX : Hid (w5.heap[wr.heap.size]? = some (.cells #[.int .i64 (1), .int .i64 (0), .string (⟨#[]⟩)] 25 (0, 0))) := Lib.hid ((hb5.block wr.heap.size (by simp)).trans (heap_alloc_new _ _))
              have HB5 : Hid (Below w.heap.size w w5) := Lib.hid (Below.trans (HB.out.trans (by go_grown)) (hb5.mono (by have := HB.out.size; simp; omega)))
              have HR5 : Hid (w5.heap[w.heap.size]? = some (.cells #[.int .i64 0, .int .i64 0, .string ⟨#[]⟩] 25 (0, 0))) := Lib.hid ((hb5.block w.heap.size (by simp; omega)).trans ((Below.heap_alloc _ _ _ hlw).trans HR.out))
              clear hb5
              have xh := HX.out; have x0 := cell_of_row w5 (wr.heap.size) 0 _ _ _ xh; simp at x0; have xf0 := frozen_of_row w5 (wr.heap.size) 0 _ _ xh; have x1 := cell_of_row w5 (wr.heap.size) 1 _ _ _ xh; simp at x1; have xf1 := frozen_of_row w5 (wr.heap.size) 1 _ _ xh; have x2 := cell_of_row w5 (wr.heap.size) 2 _ _ _ xh; simp at x2; have xf2 := frozen_of_row w5 (wr.heap.size) 2 _ _ xh; clear xh
              have hrl : w.heap.size < w5.heap.size := (Array.getElem?_eq_some_iff.1 HR5.out).1
              go_wp2_with fail
              refine (HTx.out _).mono ?_
              rintro e w6 ⟨rfl, hb6⟩
              have HB6 : Hid (Below w.heap.size w w6) := Lib.hid (HB5.out.trans (hb6.mono HB5.out.size))
              have HR6 := Lib.hid ((hb6.block w.heap.size hrl).trans HR5.out)
              clear hb6 HX x0 x1 x2 xf0 xf1 xf2
              go_wp2
              go_roundw
              case rel => exact ⟨1 + 1, by omega, by omega, by go_num, HN2, HR6, HB6⟩
              case measure => (simp [intOf]; try omega)
            · have HSt : Hid (StIs 1 s ⟨1, 0, ⟨#[]⟩⟩) := Lib.hid ⟨hB, rfl, ba_same (beq_iff_eq.1 hq)⟩
              generalize stT ⟨1, 0, ⟨#[]⟩⟩ = tx at *
              go_wp2_with fail
              refine (HS.out _).mono ?_
              rintro e w5 ⟨rfl, hb5⟩
              have HX : Hid (w5.heap[wr.heap.size]? = some (.cells #[.int .i64 (1), .int .i64 (0), .string (⟨#[]⟩)] 25 (0, 0))) := Lib.hid ((hb5.block wr.heap.size (by simp)).trans (heap_alloc_new _ _))
              have HB5 : Hid (Below w.heap.size w w5) := Lib.hid (Below.trans (HB.out.trans (by go_grown)) (hb5.mono (by have := HB.out.size; simp; omega)))
              have HR5 : Hid (w5.heap[w.heap.size]? = some (.cells #[.int .i64 0, .int .i64 0, .string ⟨#[]⟩] 25 (0, 0))) := Lib.hid ((hb5.block w.heap.size (by simp; omega)).trans ((Below.heap_alloc _ _ _ hlw).trans HR.out))
              clear hb5
              have xh := HX.out; have x0 := cell_of_row w5 (wr.heap.size) 0 _ _ _ xh; simp at x0; have xf0 := frozen_of_row w5 (wr.heap.size) 0 _ _ xh; have x1 := cell_of_row w5 (wr.heap.size) 1 _ _ _ xh; simp at x1; have xf1 := frozen_of_row w5 (wr.heap.size) 1 _ _ xh; have x2 := cell_of_row w5 (wr.heap.size) 2 _ _ _ xh; simp at x2; have xf2 := frozen_of_row w5 (wr.heap.size) 2 _ _ xh; clear xh
              have hxl : wr.heap.size < w5.heap.size := (Array.getElem?_eq_some_iff.1 HX.out).1
              have hrl : w.heap.size < w5.heap.size := (Array.getElem?_eq_some_iff.1 HR5.out).1
              go_wp2_with fail
              refine (HTx.out _).mono ?_
              rintro e w6 ⟨rfl, hb6⟩
              have HB6 : Hid (Below w.heap.size w w6) := Lib.hid (HB5.out.trans (hb6.mono HB5.out.size))
              have HR6 := Lib.hid ((hb6.block w.heap.size hrl).trans HR5.out)
              have HX6 := Lib.hid ((hb6.block (wr.heap.size) hxl).trans HX.out)
              clear hb6 x0 x1 x2 xf0 xf1 xf2 hxl hrl
              have xh := HX6.out; have x0 := cell_of_row w6 (wr.heap.size) 0 _ _ _ xh; simp at x0; have xf0 := frozen_of_row w6 (wr.heap.size) 0 _ _ xh; have x1 := cell_of_row w6 (wr.heap.size) 1 _ _ _ xh; simp at x1; have xf1 := frozen_of_row w6 (wr.heap.size) 1 _ _ xh; have x2 := cell_of_row w6 (wr.heap.size) 2 _ _ _ xh; simp at x2; have xf2 := frozen_of_row w6 (wr.heap.size) 2 _ _ xh; clear xh
              have rh := HR6.out; have r0 := cell_of_row w6 (w.heap.size) 0 _ _ _ rh; simp at r0; have rf0 := frozen_of_row w6 (w.heap.size) 0 _ _ rh; have r1 := cell_of_row w6 (w.heap.size) 1 _ _ _ rh; simp at r1; have rf1 := frozen_of_row w6 (w.heap.size) 1 _ _ rh; have r2 := cell_of_row w6 (w.heap.size) 2 _ _ _ rh; simp at r2; have rf2 := frozen_of_row w6 (w.heap.size) 2 _ _ rh; clear rh
              have hxl : wr.heap.size < w6.heap.size := (Array.getElem?_eq_some_iff.1 HX6.out).1
              have hrl : w.heap.size < w6.heap.size := (Array.getElem?_eq_some_iff.1 HR6.out).1
              go_wp2
              refine bodyPost_ret (v := (.tuple #[.agg #[.int .i64 (1), .int .i64 (0), .string (⟨#[]⟩)], .bool true])) (by simp [results, Tryz.results36, go_sem, *]) rfl ?_
              exact ⟨some ⟨1, 0, ⟨#[]⟩⟩, rfl, HNo.out.some (by omega) HSt.out, (((HB6.out.setCell (Nat.le_refl _) _).setCell (Nat.le_refl _) _).setCell (Nat.le_refl _) _)⟩
      · by_cases h4 : k = 4
        · subst h4
          have HCd : Hid (candS 4 ws l = ⟨4, 0, ⟨#[]⟩⟩) := Lib.hid (by rw [candS, if_neg (by decide), if_pos rfl])
          have HS := Lib.hid (fun w => l15Step_any ⟨4, 0, ⟨#[]⟩⟩ w (show (⟨#[]⟩ : ByteArray).size ≤ 9223372036854775807 by decide))
          cases hB : stB ⟨4, 0, ⟨#[]⟩⟩
          · have HN2 : Hid (NoSt s (4 + 1)) := Lib.hid (HNo.out.succ fun y h => by
              have e := HCs.out _ _ h
              rw [HCd.out] at e
              rw [← e] at h
              rw [h.1] at hB; cases hB)
            rw [hB] at HS
            clear hB
            go_wp2_with fail
            refine (HS.out _).mono ?_
            rintro e w5 ⟨rfl, hb5⟩
            have HB5 : Hid (Below w.heap.size w w5) := Lib.hid (Below.trans (HB.out.trans (by go_grown)) (hb5.mono (by have := HB.out.size; simp; omega)))
            have HR5 : Hid (w5.heap[w.heap.size]? = some (.cells #[.int .i64 0, .int .i64 0, .string ⟨#[]⟩] 25 (0, 0))) := Lib.hid ((hb5.block w.heap.size (by simp; omega)).trans ((Below.heap_alloc _ _ _ hlw).trans HR.out))
            clear hb5
            go_wp2
            go_roundw
            case rel => exact ⟨4 + 1, by omega, by omega, by go_num, HN2, HR5, HB5⟩
            case measure => (simp [intOf]; try omega)
          · have HTx := Lib.hid (fun w => l16Text_any ⟨4, 0, ⟨#[]⟩⟩ w hB)
            have hsz6 := stT_size hB
            rw [hB] at HS
            cases hq : ((stT ⟨4, 0, ⟨#[]⟩⟩).toList == s.toList)
            · have HN2 : Hid (NoSt s (4 + 1)) := Lib.hid (HNo.out.succ fun y h => by
                have e := HCs.out _ _ h
                rw [HCd.out] at e
                rw [← e] at h
                rw [h.2.2] at hq
                simp at hq)
              generalize stT ⟨4, 0, ⟨#[]⟩⟩ = tx at *
              go_wp2_with fail
              refine (HS.out _).mono ?_
              rintro e w5 ⟨rfl, hb5⟩
              have HX : Hid (w5.heap[wr.heap.size]? = some (.cells #[.int .i64 (4), .int .i64 (0), .string (⟨#[]⟩)] 25 (0, 0))) := Lib.hid ((hb5.block wr.heap.size (by simp)).trans (heap_alloc_new _ _))
              have HB5 : Hid (Below w.heap.size w w5) := Lib.hid (Below.trans (HB.out.trans (by go_grown)) (hb5.mono (by have := HB.out.size; simp; omega)))
              have HR5 : Hid (w5.heap[w.heap.size]? = some (.cells #[.int .i64 0, .int .i64 0, .string ⟨#[]⟩] 25 (0, 0))) := Lib.hid ((hb5.block w.heap.size (by simp; omega)).trans ((Below.heap_alloc _ _ _ hlw).trans HR.out))
              clear hb5
              have xh := HX.out; have x0 := cell_of_row w5 (wr.heap.size) 0 _ _ _ xh; simp at x0; have xf0 := frozen_of_row w5 (wr.heap.size) 0 _ _ xh; have x1 := cell_of_row w5 (wr.heap.size) 1 _ _ _ xh; simp at x1; have xf1 := frozen_of_row w5 (wr.heap.size) 1 _ _ xh; have x2 := cell_of_row w5 (wr.heap.size) 2 _ _ _ xh; simp at x2; have xf2 := frozen_of_row w5 (wr.heap.size) 2 _ _ xh; clear xh
              have hrl : w.heap.size < w5.heap.size := (Array.getElem?_eq_some_iff.1 HR5.out).1
              go_wp2_with fail
              refine (HTx.out _).mono ?_
              rintro e w6 ⟨rfl, hb6⟩
              have HB6 : Hid (Below w.heap.size w w6) := Lib.hid (HB5.out.trans (hb6.mono HB5.out.size))
              have HR6 := Lib.hid ((hb6.block w.heap.size hrl).trans HR5.out)
              clear hb6 HX x0 x1 x2 xf0 xf1 xf2
              go_wp2
              go_roundw
              case rel => exact ⟨4 + 1, by omega, by omega, by go_num, HN2, HR6, HB6⟩
              case measure => (simp [intOf]; try omega)
            · have HSt : Hid (StIs 4 s ⟨4, 0, ⟨#[]⟩⟩) := Lib.hid ⟨hB, rfl, ba_same (beq_iff_eq.1 hq)⟩
              generalize stT ⟨4, 0, ⟨#[]⟩⟩ = tx at *
              go_wp2_with fail
              refine (HS.out _).mono ?_
              rintro e w5 ⟨rfl, hb5⟩
              have HX : Hid (w5.heap[wr.heap.size]? = some (.cells #[.int .i64 (4), .int .i64 (0), .string (⟨#[]⟩)] 25 (0, 0))) := Lib.hid ((hb5.block wr.heap.size (by simp)).trans (heap_alloc_new _ _))
              have HB5 : Hid (Below w.heap.size w w5) := Lib.hid (Below.trans (HB.out.trans (by go_grown)) (hb5.mono (by have := HB.out.size; simp; omega)))
              have HR5 : Hid (w5.heap[w.heap.size]? = some (.cells #[.int .i64 0, .int .i64 0, .string ⟨#[]⟩] 25 (0, 0))) := Lib.hid ((hb5.block w.heap.size (by simp; omega)).trans ((Below.heap_alloc _ _ _ hlw).trans HR.out))
              clear hb5
              have xh := HX.out; have x0 := cell_of_row w5 (wr.heap.size) 0 _ _ _ xh; simp at x0; have xf0 := frozen_of_row w5 (wr.heap.size) 0 _ _ xh; have x1 := cell_of_row w5 (wr.heap.size) 1 _ _ _ xh; simp at x1; have xf1 := frozen_of_row w5 (wr.heap.size) 1 _ _ xh; have x2 := cell_of_row w5 (wr.heap.size) 2 _ _ _ xh; simp at x2; have xf2 := frozen_of_row w5 (wr.heap.size) 2 _ _ xh; clear xh
              have hxl : wr.heap.size < w5.heap.size := (Array.getElem?_eq_some_iff.1 HX.out).1
              have hrl : w.heap.size < w5.heap.size := (Array.getElem?_eq_some_iff.1 HR5.out).1
              go_wp2_with fail
              refine (HTx.out _).mono ?_
              rintro e w6 ⟨rfl, hb6⟩
              have HB6 : Hid (Below w.heap.size w w6) := Lib.hid (HB5.out.trans (hb6.mono HB5.out.size))
              have HR6 := Lib.hid ((hb6.block w.heap.size hrl).trans HR5.out)
              have HX6 := Lib.hid ((hb6.block (wr.heap.size) hxl).trans HX.out)
              clear hb6 x0 x1 x2 xf0 xf1 xf2 hxl hrl
              have xh := HX6.out; have x0 := cell_of_row w6 (wr.heap.size) 0 _ _ _ xh; simp at x0; have xf0 := frozen_of_row w6 (wr.heap.size) 0 _ _ xh; have x1 := cell_of_row w6 (wr.heap.size) 1 _ _ _ xh; simp at x1; have xf1 := frozen_of_row w6 (wr.heap.size) 1 _ _ xh; have x2 := cell_of_row w6 (wr.heap.size) 2 _ _ _ xh; simp at x2; have xf2 := frozen_of_row w6 (wr.heap.size) 2 _ _ xh; clear xh
              have rh := HR6.out; have r0 := cell_of_row w6 (w.heap.size) 0 _ _ _ rh; simp at r0; have rf0 := frozen_of_row w6 (w.heap.size) 0 _ _ rh; have r1 := cell_of_row w6 (w.heap.size) 1 _ _ _ rh; simp at r1; have rf1 := frozen_of_row w6 (w.heap.size) 1 _ _ rh; have r2 := cell_of_row w6 (w.heap.size) 2 _ _ _ rh; simp at r2; have rf2 := frozen_of_row w6 (w.heap.size) 2 _ _ rh; clear rh
              have hxl : wr.heap.size < w6.heap.size := (Array.getElem?_eq_some_iff.1 HX6.out).1
              have hrl : w.heap.size < w6.heap.size := (Array.getElem?_eq_some_iff.1 HR6.out).1
              go_wp2
              refine bodyPost_ret (v := (.tuple #[.agg #[.int .i64 (4), .int .i64 (0), .string (⟨#[]⟩)], .bool true])) (by simp [results, Tryz.results36, go_sem, *]) rfl ?_
              exact ⟨some ⟨4, 0, ⟨#[]⟩⟩, rfl, HNo.out.some (by omega) HSt.out, (((HB6.out.setCell (Nat.le_refl _) _).setCell (Nat.le_refl _) _).setCell (Nat.le_refl _) _)⟩
        · have HCd : Hid (candS k ws l = ⟨k, (readO l).getD 0, ⟨#[]⟩⟩) := Lib.hid (by rw [candS, if_neg h1, if_neg h4])
          have HRd := Lib.hid (fun w => read_any l w (by omega))
          unfold rdEnd at HRd
          generalize (readO l).getD 0 = n at *
          generalize (readO l).isSome = f at *
          have hk1' : ¬ (k : Int) = 1 := by omega
          have hk4' : ¬ (k : Int) = 4 := by omega
          go_wp2_with fail
          refine (HRd.out _).mono ?_
          rintro e w4 ⟨rfl, hb4⟩
          have HX4 : Hid (w4.heap[wr.heap.size]? = some (.cells #[.int .i64 k, .int .i64 0, .string ⟨#[]⟩] 25 (0, 0))) := Lib.hid ((hb4.block wr.heap.size (by simp)).trans (heap_alloc_new _ _))
          have HR4 : Hid (w4.heap[w.heap.size]? = some (.cells #[.int .i64 0, .int .i64 0, .string ⟨#[]⟩] 25 (0, 0))) := Lib.hid ((hb4.block w.heap.size (by simp; omega)).trans ((Below.heap_alloc _ _ _ hlw).trans HR.out))
          have HB4 : Hid (Below w.heap.size w w4) := Lib.hid (HB.out.trans (Below.mono (Below.trans (by go_grown) (hb4.mono (by simp))) HB.out.size))
          clear hb4
          have yh := HX4.out; have y0 := cell_of_row w4 (wr.heap.size) 0 _ _ _ yh; simp at y0; have yf0 := frozen_of_row w4 (wr.heap.size) 0 _ _ yh; have y1 := cell_of_row w4 (wr.heap.size) 1 _ _ _ yh; simp at y1; have yf1 := frozen_of_row w4 (wr.heap.size) 1 _ _ yh; have y2 := cell_of_row w4 (wr.heap.size) 2 _ _ _ yh; simp at y2; have yf2 := frozen_of_row w4 (wr.heap.size) 2 _ _ yh; clear yh
          have hxl4 : wr.heap.size < w4.heap.size := (Array.getElem?_eq_some_iff.1 HX4.out).1
          have hne : w.heap.size ≠ wr.heap.size := by omega
          have HS := Lib.hid (fun w => l15Step_any ⟨k, n, ⟨#[]⟩⟩ w (show (⟨#[]⟩ : ByteArray).size ≤ 9223372036854775807 by decide))
          cases hB : stB ⟨k, n, ⟨#[]⟩⟩
          · have HN2 : Hid (NoSt s (k + 1)) := Lib.hid (HNo.out.succ fun y h => by
              have e := HCs.out _ _ h
              rw [HCd.out] at e
              rw [← e] at h
              rw [h.1] at hB; cases hB)
            rw [hB] at HS
            clear hB
            go_wp2_with fail
            refine (HS.out _).mono ?_
            rintro e w5 ⟨rfl, hb5⟩
            have HB5 : Hid (Below w.heap.size w w5) := Lib.hid (Below.trans (HB4.out.setCell hz _) (hb5.mono (by have := HB4.out.size; simp; omega)))
            have HR5 : Hid (w5.heap[w.heap.size]? = some (.cells #[.int .i64 0, .int .i64 0, .string ⟨#[]⟩] 25 (0, 0))) := Lib.hid ((hb5.block w.heap.size (by simp; omega)).trans ((set_other _ _ _ _ hne).trans HR4.out))
            clear hb5
            go_wp2
            go_roundw
            case rel => exact ⟨k + 1, by omega, by omega, by go_num, HN2, HR5, HB5⟩
            case measure => (simp [intOf]; try omega)
          · have HTx := Lib.hid (fun w => l16Text_any ⟨k, n, ⟨#[]⟩⟩ w hB)
            have hsz6 := stT_size hB
            rw [hB] at HS
            cases hq : ((stT ⟨k, n, ⟨#[]⟩⟩).toList == s.toList)
            · have HN2 : Hid (NoSt s (k + 1)) := Lib.hid (HNo.out.succ fun y h => by
                have e := HCs.out _ _ h
                rw [HCd.out] at e
                rw [← e] at h
                rw [h.2.2] at hq
                simp at hq)
              generalize stT ⟨k, n, ⟨#[]⟩⟩ = tx at *
              go_wp2_with fail
              refine (HS.out _).mono ?_
              rintro e w5 ⟨rfl, hb5⟩
              have HX : Hid (w5.heap[wr.heap.size]? = some (.cells #[.int .i64 (k), .int .i64 (n), .string (⟨#[]⟩)] 25 (0, 0))) := Lib.hid ((hb5.block wr.heap.size (by simp; omega)).trans (set_at HX4.out 1 _))
              have HB5 : Hid (Below w.heap.size w w5) := Lib.hid (Below.trans (HB4.out.setCell hz _) (hb5.mono (by have := HB4.out.size; simp; omega)))
              have HR5 : Hid (w5.heap[w.heap.size]? = some (.cells #[.int .i64 0, .int .i64 0, .string ⟨#[]⟩] 25 (0, 0))) := Lib.hid ((hb5.block w.heap.size (by simp; omega)).trans ((set_other _ _ _ _ hne).trans HR4.out))
              clear hb5
              have xh := HX.out; have x0 := cell_of_row w5 (wr.heap.size) 0 _ _ _ xh; simp at x0; have xf0 := frozen_of_row w5 (wr.heap.size) 0 _ _ xh; have x1 := cell_of_row w5 (wr.heap.size) 1 _ _ _ xh; simp at x1; have xf1 := frozen_of_row w5 (wr.heap.size) 1 _ _ xh; have x2 := cell_of_row w5 (wr.heap.size) 2 _ _ _ xh; simp at x2; have xf2 := frozen_of_row w5 (wr.heap.size) 2 _ _ xh; clear xh
              have hrl : w.heap.size < w5.heap.size := (Array.getElem?_eq_some_iff.1 HR5.out).1
              go_wp2_with fail
              refine (HTx.out _).mono ?_
              rintro e w6 ⟨rfl, hb6⟩
              have HB6 : Hid (Below w.heap.size w w6) := Lib.hid (HB5.out.trans (hb6.mono HB5.out.size))
              have HR6 := Lib.hid ((hb6.block w.heap.size hrl).trans HR5.out)
              clear hb6 HX x0 x1 x2 xf0 xf1 xf2
              go_wp2
              go_roundw
              case rel => exact ⟨k + 1, by omega, by omega, by go_num, HN2, HR6, HB6⟩
              case measure => (simp [intOf]; try omega)
            · have HSt : Hid (StIs k s ⟨k, n, ⟨#[]⟩⟩) := Lib.hid ⟨hB, rfl, ba_same (beq_iff_eq.1 hq)⟩
              generalize stT ⟨k, n, ⟨#[]⟩⟩ = tx at *
              go_wp2_with fail
              refine (HS.out _).mono ?_
              rintro e w5 ⟨rfl, hb5⟩
              have HX : Hid (w5.heap[wr.heap.size]? = some (.cells #[.int .i64 (k), .int .i64 (n), .string (⟨#[]⟩)] 25 (0, 0))) := Lib.hid ((hb5.block wr.heap.size (by simp; omega)).trans (set_at HX4.out 1 _))
              have HB5 : Hid (Below w.heap.size w w5) := Lib.hid (Below.trans (HB4.out.setCell hz _) (hb5.mono (by have := HB4.out.size; simp; omega)))
              have HR5 : Hid (w5.heap[w.heap.size]? = some (.cells #[.int .i64 0, .int .i64 0, .string ⟨#[]⟩] 25 (0, 0))) := Lib.hid ((hb5.block w.heap.size (by simp; omega)).trans ((set_other _ _ _ _ hne).trans HR4.out))
              clear hb5
              have xh := HX.out; have x0 := cell_of_row w5 (wr.heap.size) 0 _ _ _ xh; simp at x0; have xf0 := frozen_of_row w5 (wr.heap.size) 0 _ _ xh; have x1 := cell_of_row w5 (wr.heap.size) 1 _ _ _ xh; simp at x1; have xf1 := frozen_of_row w5 (wr.heap.size) 1 _ _ xh; have x2 := cell_of_row w5 (wr.heap.size) 2 _ _ _ xh; simp at x2; have xf2 := frozen_of_row w5 (wr.heap.size) 2 _ _ xh; clear xh
              have hxl : wr.heap.size < w5.heap.size := (Array.getElem?_eq_some_iff.1 HX.out).1
              have hrl : w.heap.size < w5.heap.size := (Array.getElem?_eq_some_iff.1 HR5.out).1
              go_wp2_with fail
              refine (HTx.out _).mono ?_
              rintro e w6 ⟨rfl, hb6⟩
              have HB6 : Hid (Below w.heap.size w w6) := Lib.hid (HB5.out.trans (hb6.mono HB5.out.size))
              have HR6 := Lib.hid ((hb6.block w.heap.size hrl).trans HR5.out)
              have HX6 := Lib.hid ((hb6.block (wr.heap.size) hxl).trans HX.out)
              clear hb6 x0 x1 x2 xf0 xf1 xf2 hxl hrl
              have xh := HX6.out; have x0 := cell_of_row w6 (wr.heap.size) 0 _ _ _ xh; simp at x0; have xf0 := frozen_of_row w6 (wr.heap.size) 0 _ _ xh; have x1 := cell_of_row w6 (wr.heap.size) 1 _ _ _ xh; simp at x1; have xf1 := frozen_of_row w6 (wr.heap.size) 1 _ _ xh; have x2 := cell_of_row w6 (wr.heap.size) 2 _ _ _ xh; simp at x2; have xf2 := frozen_of_row w6 (wr.heap.size) 2 _ _ xh; clear xh
              have rh := HR6.out; have r0 := cell_of_row w6 (w.heap.size) 0 _ _ _ rh; simp at r0; have rf0 := frozen_of_row w6 (w.heap.size) 0 _ _ rh; have r1 := cell_of_row w6 (w.heap.size) 1 _ _ _ rh; simp at r1; have rf1 := frozen_of_row w6 (w.heap.size) 1 _ _ rh; have r2 := cell_of_row w6 (w.heap.size) 2 _ _ _ rh; simp at r2; have rf2 := frozen_of_row w6 (w.heap.size) 2 _ _ rh; clear rh
              have hxl : wr.heap.size < w6.heap.size := (Array.getElem?_eq_some_iff.1 HX6.out).1
              have hrl : w.heap.size < w6.heap.size := (Array.getElem?_eq_some_iff.1 HR6.out).1
              go_wp2
              refine bodyPost_ret (v := (.tuple #[.agg #[.int .i64 (k), .int .i64 (n), .string (⟨#[]⟩)], .bool true])) (by simp [results, Tryz.results36, go_sem, *]) rfl ?_
              exact ⟨some ⟨k, n, ⟨#[]⟩⟩, rfl, HNo.out.some (by omega) HSt.out, (((HB6.out.setCell (Nat.le_refl _) _).setCell (Nat.le_refl _) _).setCell (Nat.le_refl _) _)⟩
    · obtain rfl : k = 7 := by omega
      have rh := HR.out; have r0 := cell_of_row wr (w.heap.size) 0 _ _ _ rh; simp at r0; have rf0 := frozen_of_row wr (w.heap.size) 0 _ _ rh; have r1 := cell_of_row wr (w.heap.size) 1 _ _ _ rh; simp at r1; have rf1 := frozen_of_row wr (w.heap.size) 1 _ _ rh; have r2 := cell_of_row wr (w.heap.size) 2 _ _ _ rh; simp at r2; have rf2 := frozen_of_row wr (w.heap.size) 2 _ _ rh; clear rh
      have hrl : w.heap.size < wr.heap.size := (Array.getElem?_eq_some_iff.1 HR.out).1
      go_wp2
      refine bodyPost_ret (v := (.tuple #[.agg #[.int .i64 0, .int .i64 0, .string ⟨#[]⟩], .bool false])) (by simp [results, Tryz.results36, go_sem, *]) rfl ?_
      exact ⟨none, rfl, HNo.out.none, (((HB.out.setCell (Nat.le_refl _) _).setCell (Nat.le_refl _) _).setCell (Nat.le_refl _) _)⟩
end Go.Proofs.YtgmccafmopgjaaaGreatDoor
