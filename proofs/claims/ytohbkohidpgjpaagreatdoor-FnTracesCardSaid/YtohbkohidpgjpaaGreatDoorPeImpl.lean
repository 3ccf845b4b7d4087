/- An event read from its text by the program's ParseEvent, for every text of at most 2^20 bytes. Conditions: the table of words, the library's table of powers and its two errors lie where they are laid. -/
import Derived.Test.YtohbkohidpgjpaaGreatDoorPeMath
import Derived.Test.YtohbkohidpgjpaaGreatDoorPeInts
import Derived.Test.YtohbkohidpgjpaaGreatDoorEvTx2
import Derived.Test.YtohbkohidpgjpaaGreatDoorCnt0
import Derived.Shelf.Small.Wraps
import Derived.Shelf.Strings.Prefix
import Derived.Shelf.Slices.Turned
import Derived.Deep.CutBlock
import Derived.Deep.DeepCutAuto
namespace Go.Proofs.YtohbkohidpgjpaaGreatDoor
open Go.RowKit

def peEnd : Option Ev → Ending
  | some x => .returned (.tuple #[x.v, .bool true])
  | none => .returned (.tuple #[(⟨0, 0, 0, 0⟩ : Ev).v, .bool false])
theorem peEnd_eq (o : Option Ev) : peEnd o = .returned (.tuple #[(o.getD ⟨0, 0, 0, 0⟩).v, .bool o.isSome]) := by cases o <;> rfl
theorem trimC_any (s : ByteArray) (w : World) (hs : s.size ≤ 1048576) : Calls Tryz.prog 31 #[.string s, .string ⟨#[58]⟩] w fun e w' => e = .returned (.string (trimC s)) ∧ w = w' :=
  (Any.strings_TrimSuffix Tryz.lays102 s ⟨#[58]⟩ w (by omega)).mono fun _ _ h => ⟨h.1, h.2.symm⟩
def trWs : List ByteArray := [trW 0, trW 1, trW 2, trW 3, trW 4]
/-- the kind that the program finds for a word -/
def kindI (b : ByteArray) : Int := Lib.idxOfS (trWs.take 5) b
theorem index5_any (b : ByteArray) (w : World) (h : TrAt w) : Calls Tryz.prog 32 #[.slice (some ⟨0, 0, none⟩) 5 5, .string b] w fun e w' => e = .returned (.int .i64 (kindI b)) ∧ w = w' :=
  (Any.slices_Index_string Tryz.lays109 _ 0 5 5 trWs b w (Nat.le_refl 5) (by omega) (by
    intro j hj
    have hj5 : j < 5 := hj
    rw [Nat.zero_add, h j hj5]
    have : j = 0 ∨ j = 1 ∨ j = 2 ∨ j = 3 ∨ j = 4 := by omega
    rcases this with rfl | rfl | rfl | rfl | rfl <;> rfl)).mono fun _ _ h => ⟨h.1, h.2.symm⟩
theorem kindI_is {k : Nat} (h0 : 1 ≤ k) (h1 : k ≤ 4) : kindI (trW k) = k := by
  have hk : k = 1 ∨ k = 2 ∨ k = 3 ∨ k = 4 := by omega
  rcases hk with rfl | rfl | rfl | rfl <;> decide
theorem spl_five {s : ByteArray} {ws : List ByteArray} (hw : ws.map (·.data.toList) = spl 32 s.data.toList) (h : ws.length = 5) : s ≠ ⟨#[]⟩ := by
  rintro rfl
  have := congrArg List.length hw
  rw [List.length_map, h] at this
  cases this
theorem lit_rdS3 (w : World) (a b c : ByteArray) (ha : a.size ≤ 1048576) (hb : b.size ≤ 1048576) (hc : c.size ≤ 1048576) :
    RdS (w.alloc (.cells #[.string a, .string b, .string c] 9)) (.slice (some ⟨w.heap.size, 0, none⟩) 3 3) [a, b, c] := by
  refine ⟨⟨rfl, some ⟨w.heap.size, 0, none⟩, 3, w.heap.size, 0, rfl, Nat.le_refl _, (by intro h; cases h), fun _ => ⟨rfl, fun j hj => ?_⟩⟩, by simp, by intro x hx; simp at hx; rcases hx with rfl | rfl | rfl <;> omega⟩
  rw [cell_of_row _ w.heap.size _ _ _ (0, 0) (heap_alloc_new w _)]
  simp
/-- the candidate of five words -/
def candE (p q b r : ByteArray) : Ev := ⟨(readO (trimC p)).getD 0, (readO q).getD 0, kindI b, (readO r).getD 0⟩
theorem candE_is {s p a q b r : ByteArray} {x : Ev} (hw : ([p, a, q, b, r] : List ByteArray).map (·.data.toList) = spl 32 s.data.toList) (h : EvIs s x) : x = candE p q b r ∧ riB [trimC p, q, r] = true := by
  obtain ⟨a', b', hws, hb, _⟩ := evIs_words h hw
  simp only [List.cons.injEq, and_true] at hws
  obtain ⟨rfl, _, rfl, rfl, rfl⟩ := hws
  have hv := evB_iff.1 h.1
  have f1 := readO_nat hv.1.1 (by omega)
  have f2 := readO_nat hv.2.1.1 (by omega)
  have f3 := readO_nat hv.2.2.2.1 (by omega)
  subst hb
  obtain ⟨xt, xn, xk, xm⟩ := x
  simp only at f1 f2 f3 hv
  have fk := kindI_is (k := xk.toNat) (by omega) (by omega)
  refine ⟨?_, ?_⟩
  · simp only [candE, trimC_app, f1, f2, f3, fk, Option.getD_some, Ev.mk.injEq, true_and, and_true]
    omega
  · simp only [riB, trimC_app, List.all_cons, List.all_nil, f1, f2, f3]
    rfl
theorem evtV_is {s : ByteArray} {c : Ev} (hs : s ≠ ⟨#[]⟩) : evtV c = s ↔ evB c = true ∧ evT c = s := by
  unfold evtV
  split
  · rename_i h; simp [h]
  · rename_i h
    exact ⟨fun e => absurd e.symm hs, fun e => absurd e.1 h⟩
set_option maxRecDepth 100000 in
set_option maxHeartbeats 8000000 in
theorem implParseEvent_any (s : ByteArray) (w : World) (hs : s.size ≤ 1048576) (hW : TrAt w) (hP : PowAt w) (hE : ErrAt w) :
    Calls Tryz.prog 8 #[.string s] w fun e w' => ∃ o, e = peEnd o ∧ PeIs s o ∧ Below w.heap.size w w' := by
  have HWo := Lib.hid hW; have HPw := Lib.hid hP; have HEr := Lib.hid hE
  clear hW hP hE
  have HSp := Lib.hid (fun w => split1_any s 32 w hs)
  go_enter Tryz.func8, Tryz.ntmps8
  go_wp2_with fail
  refine (HSp.out _).mono ?_
  rintro e w1 ⟨v, ws, rfl, hws, hO, hb⟩
  have hok := parts_ok hws hs
  have HSz := Lib.hid (fun x hx => Nat.le_trans (hok.2.2 x hx) hs)
  have hwl := hok.1
  have HR1 : Hid (w1.heap[w.heap.size]? = some (.cells #[.int .i64 0, .int .i64 0, .int .i64 0, .int .i64 0] 25 (0, 0))) := Lib.hid ((hb.block w.heap.size (by simp)).trans (heap_alloc_new _ _))
  have HB1 : Hid (Below w.heap.size w w1) := Lib.hid (Below.trans (by go_grown) (hb.mono (by simp)))
  have HWs := Lib.hid hws
  obtain ⟨p0, cap, g, rfl, hcap, hq⟩ := own_shape hO.1
  have HOo := Lib.hid hO
  clear hO hb hok hws HSp
  have z1 := HB1.out.size
  have rh := HR1.out; have r0 := cell_of_row w1 (w.heap.size) 0 _ _ _ rh; simp at r0; have rf0 := frozen_of_row w1 (w.heap.size) 0 _ _ rh; have r1 := cell_of_row w1 (w.heap.size) 1 _ _ _ rh; simp at r1; have rf1 := frozen_of_row w1 (w.heap.size) 1 _ _ rh; have r2 := cell_of_row w1 (w.heap.size) 2 _ _ _ rh; simp at r2; have rf2 := frozen_of_row w1 (w.heap.size) 2 _ _ rh; have r3 := cell_of_row w1 (w.heap.size) 3 _ _ _ rh; simp at r3; have rf3 := frozen_of_row w1 (w.heap.size) 3 _ _ rh; clear rh
  have hrl : w.heap.size < w1.heap.size := (Array.getElem?_eq_some_iff.1 HR1.out).1
  by_cases h5 : ws.length = 5
  · obtain ⟨rfl, _⟩ := hq (by omega)
    clear hq
    have HNe := Lib.hid (spl_five HWs.out h5)
    obtain ⟨p, a, q, b, r, rfl⟩ : ∃ p a q b r, ws = [p, a, q, b, r] := by
      match ws, h5 with
      | [p, a, q, b, r], _ => exact ⟨p, a, q, b, r, rfl⟩
    have c0 : w1.cell? ⟨g, 0, none⟩ = some (.string p) := by rw [HOo.out.1.cellAt 0 (by simp)]; rfl
    have c2 : w1.cell? ⟨g, 2, none⟩ = some (.string q) := by rw [HOo.out.1.cellAt 2 (by simp)]; rfl
    have c3 : w1.cell? ⟨g, 3, none⟩ = some (.string b) := by rw [HOo.out.1.cellAt 3 (by simp)]; rfl
    have c4 : w1.cell? ⟨g, 4, none⟩ = some (.string r) := by rw [HOo.out.1.cellAt 4 (by simp)]; rfl
    have hsp := HSz.out p (by simp)
    have hsq := HSz.out q (by simp)
    have hsr := HSz.out r (by simp)
    have HIs := Lib.hid (fun x h => candE_is (x := x) HWs.out h)
    have HT := Lib.hid (fun w => trimC_any p w hsp)
    have htc : (trimC p).size ≤ 1048576 := by
      have h1 : (trimC p).size = (Lib.trimSuffix p.data.toList [58]).length := List.size_toArray
      have h2 : p.data.toList.length = p.size := Array.length_toList
      rw [h1, Lib.trimSuffix]
      split
      · rw [List.length_take]; omega
      · omega
    have HPi := Lib.hid (fun v w h a b => parseInts_any v [trimC p, q, r] w h (by intro x hx; simp at hx; rcases hx with rfl | rfl | rfl <;> assumption) (by simp) a b)
    have HRd := Lib.hid (fun w => RdS.below (lit_rdS3 w (trimC p) q r (by omega) (by omega) (by omega)) (Below.refl _ _).drew)
    clear HWs h5
    generalize hip : trimC p = tp at *
    go_upto_region 4 with (fail)
    go_cut [5, 6] (fun v f wx => f = .bool (riB [tp, q, r]) ∧ Hid (OwI w1.heap.size wx v (riL [tp, q, r])) ∧ Hid (Below w1.heap.size w1 wx))
    case first =>
      as_aux_lemma =>
      refine wp_region_held_drew (S := (fun w' => Below w1.heap.size w1 w' ∧ w'.cell? ⟨g, 0, none⟩ = some (.string p) ∧ w'.cell? ⟨g, 2, none⟩ = some (.string q) ∧ w'.cell? ⟨g, 4, none⟩ = some (.string r))) (by kernel_rfl) ?rx4s (fun hHeld => ?rx40)
      case rx4s => ((try dsimp only); exact ⟨(Below.refl _ _).drew, c0, c2, c4⟩)
      try simp only [Act.put, List.setIfInBounds_toArray, List.set_cons_zero, List.set_cons_succ]
      refine take_at 0 (some 17) (v := ?vx4_1) rfl rfl (by kernel_rfl) (by kernel_rfl) (by kernel_rfl) (fun _ _ _ h => h) (Or.inl ⟨by kernel_rfl, ?yx4_1⟩) hHeld ?zx4_1
      case yx4_1 => (intro wS hSw; (try dsimp only at hSw); go_simp; (try with_reducible rfl))
      try simp only [Act.put, List.setIfInBounds_toArray, List.set_cons_zero, List.set_cons_succ]
      refine take_at 1 (some 18) (v := ?vx4_2) rfl rfl (by kernel_rfl) (by kernel_rfl) (by kernel_rfl) (fun _ _ _ h => h) (Or.inl ⟨by kernel_rfl, ?yx4_2⟩) hHeld ?zx4_2
      case yx4_2 => (intro wS hSw; (try dsimp only at hSw); go_simp; (try with_reducible rfl))
      try simp only [Act.put, List.setIfInBounds_toArray, List.set_cons_zero, List.set_cons_succ]
      refine take_at 2 (some 19) (v := ?vx4_3) rfl rfl (by kernel_rfl) (by kernel_rfl) (by kernel_rfl) (fun _ _ _ h => h) (Or.inl ⟨by kernel_rfl, ?yx4_3⟩) hHeld ?zx4_3
      case yx4_3 => (intro wS hSw; (try dsimp only at hSw); go_simp; (try with_reducible rfl))
      try simp only [Act.put, List.setIfInBounds_toArray, List.set_cons_zero, List.set_cons_succ]
      refine take_at 4 (some 21) (v := ?vx4_4) rfl rfl (by kernel_rfl) (by kernel_rfl) (by kernel_rfl) (fun _ _ _ h => h) (Or.inl ⟨by kernel_rfl, ?yx4_4⟩) hHeld ?zx4_4
      case yx4_4 => (intro wS hSw; (try dsimp only at hSw); go_simp; (try with_reducible rfl))
      try simp only [Act.put, List.setIfInBounds_toArray, List.set_cons_zero, List.set_cons_succ]
      refine take_at 5 (some 22) (v := ?vx4_5) rfl rfl (by kernel_rfl) (by kernel_rfl) (by kernel_rfl) (fun _ _ _ h => h) (Or.inl ⟨by kernel_rfl, ?yx4_5⟩) hHeld ?zx4_5
      case yx4_5 => (intro wS hSw; (try dsimp only at hSw); go_simp; (try with_reducible rfl))
      try simp only [Act.put, List.setIfInBounds_toArray, List.set_cons_zero, List.set_cons_succ]
      refine take_at 6 (some 23) (v := ?vx4_6) rfl rfl (by kernel_rfl) (by kernel_rfl) (by kernel_rfl) (fun _ _ _ h => h) (Or.inl ⟨by kernel_rfl, ?yx4_6⟩) hHeld ?zx4_6
      case yx4_6 => (intro wS hSw; (try dsimp only at hSw); go_simp; (try with_reducible rfl))
      try simp only [Act.put, List.setIfInBounds_toArray, List.set_cons_zero, List.set_cons_succ]
      refine take_at 7 (some 24) (v := ?vx4_7) rfl rfl (by kernel_rfl) (by kernel_rfl) (by kernel_rfl) (fun _ _ _ h => h) (Or.inl ⟨by kernel_rfl, ?yx4_7⟩) hHeld ?zx4_7
      case yx4_7 => (intro wS hSw; (try dsimp only at hSw); go_simp; (try with_reducible rfl))
      try simp only [Act.put, List.setIfInBounds_toArray, List.set_cons_zero, List.set_cons_succ]
      refine take_at 8 (some 25) (v := ?vx4_8) rfl rfl (by kernel_rfl) (by kernel_rfl) (by kernel_rfl) (fun _ _ _ h => h) (Or.inl ⟨by kernel_rfl, ?yx4_8⟩) hHeld ?zx4_8
      case yx4_8 => (intro wS hSw; (try dsimp only at hSw); go_simp; (try with_reducible rfl))
      try simp only [Act.put, List.setIfInBounds_toArray, List.set_cons_zero, List.set_cons_succ]
      refine take_at 9 (some 26) (v := ?vx4_9) rfl rfl (by kernel_rfl) (by kernel_rfl) (by kernel_rfl) (fun _ _ _ h => h) (Or.inl ⟨by kernel_rfl, ?yx4_9⟩) hHeld ?zx4_9
      case yx4_9 => (intro wS hSw; (try dsimp only at hSw); go_simp; (try with_reducible rfl))
      try simp only [Act.put, List.setIfInBounds_toArray, List.set_cons_zero, List.set_cons_succ]
      refine wpAnyH_ready (rs := [3]) (by kernel_rfl) (by simp) ?_
      refine cons_at (some 20) rfl rfl (by kernel_rfl) (fun K hK => ?kx4_11) AllReadyH.nil
      go_simp
      (go_at_call 31; refine (HT.out _).mono ?_; rintro e w' ⟨rfl, rfl⟩)
      try go_wp2_with fail
      refine hK.out _ _ ?sx4_11 (fun hHeld => ?_)
      case sx4_11 => ((try dsimp only); first | exact keepB3 (by assumption) hbel | assumption | exact keepB3 (by assumption) (below_alloc1 _ _))
      clear hK K
      try simp only [Act.put, List.setIfInBounds_toArray, List.set_cons_zero, List.set_cons_succ]
      refine wpAnyH_ready (rs := [10]) (by kernel_rfl) (by simp) ?_
      refine cons_at (some 27) rfl rfl (by kernel_rfl) (fun K hK => ?kx4_13) AllReadyH.nil
      go_simp
      refine hK.out _ _ ?sx4_13 (fun hHeld => ?_)
      case sx4_13 => ((try dsimp only); first | exact keepB3 (by assumption) hbel | assumption | exact keepB3 (by assumption) (below_alloc1 _ _))
      clear hK K
      try simp only [Act.put, List.setIfInBounds_toArray, List.set_cons_zero, List.set_cons_succ]
      refine wpAnyH_ready (rs := [11]) (by kernel_rfl) (by simp) ?_
      refine cons_at (some 28) rfl rfl (by kernel_rfl) (fun K hK => ?kx4_15) AllReadyH.nil
      go_simp
      (go_at_call 30; refine (HPi.out _ _ (HRd.out _) (HPw.out.below (HB1.out.trans (hHeld.1.mono HB1.out.size))) (HEr.out.below (HB1.out.trans (hHeld.1.mono HB1.out.size)))).mono ?_; rintro e w' ⟨v', rfl, oi, hbel⟩; have oi := oi.base (B' := w1.heap.size) hHeld.1.size)
      try go_wp2_with fail
      refine hK.out _ _ ?sx4_15 (fun hHeld => ?_)
      case sx4_15 => ((try dsimp only); first | exact keepB3 (by assumption) hbel | assumption | exact keepB3 (by assumption) (below_alloc1 _ _))
      clear hK K
      try simp only [Act.put, List.setIfInBounds_toArray, List.set_cons_zero, List.set_cons_succ]
      refine take_at 12 (some 16) (v := ?vx4_16) rfl rfl (by kernel_rfl) (by kernel_rfl) (by kernel_rfl) (fun _ _ _ h => h) (Or.inl ⟨by kernel_rfl, ?yx4_16⟩) hHeld ?zx4_16
      case yx4_16 => (intro wS hSw; (try dsimp only at hSw); go_simp; (try with_reducible rfl))
      try simp only [Act.put, List.setIfInBounds_toArray, List.set_cons_zero, List.set_cons_succ]
      refine take_at 13 (some 29) (v := ?vx4_17) rfl rfl (by kernel_rfl) (by kernel_rfl) (by kernel_rfl) (fun _ _ _ h => h) (Or.inl ⟨by kernel_rfl, ?yx4_17⟩) hHeld ?zx4_17
      case yx4_17 => (intro wS hSw; (try dsimp only at hSw); go_simp; (try with_reducible rfl))
      try simp only [Act.put, List.setIfInBounds_toArray, List.set_cons_zero, List.set_cons_succ]
      refine take_at 14 (some 30) (v := ?vx4_18) rfl rfl (by kernel_rfl) (by kernel_rfl) (by kernel_rfl) (fun _ _ _ h => h) (Or.inl ⟨by kernel_rfl, ?yx4_18⟩) hHeld ?zx4_18
      case yx4_18 => (intro wS hSw; (try dsimp only at hSw); go_simp; (try with_reducible rfl))
      try simp only [Act.put, List.setIfInBounds_toArray, List.set_cons_zero, List.set_cons_succ]
      refine take_at 15 (some 5) (v := ?vx4_19) rfl rfl (by kernel_rfl) (by kernel_rfl) (by kernel_rfl) (fun _ _ _ h => h) (Or.inl ⟨by kernel_rfl, ?yx4_19⟩) hHeld ?zx4_19
      case yx4_19 => (intro wS hSw; (try dsimp only at hSw); go_simp; (try with_reducible rfl))
      try simp only [Act.put, List.setIfInBounds_toArray, List.set_cons_zero, List.set_cons_succ]
      refine take_at 16 (some 6) (v := ?vx4_20) rfl rfl (by kernel_rfl) (by kernel_rfl) (by kernel_rfl) (fun _ _ _ h => h) (Or.inl ⟨by kernel_rfl, ?yx4_20⟩) hHeld ?zx4_20
      case yx4_20 => (intro wS hSw; (try dsimp only at hSw); go_simp; (try with_reducible rfl))
      try simp only [Act.put, List.setIfInBounds_toArray, List.set_cons_zero, List.set_cons_succ]
      refine wpAnyH_done (by kernel_rfl) ?_ _
      (go_wp2; go_meet; exact ⟨rfl, Lib.hid oi, Lib.hid hHeld.1⟩)
    case rest =>
      as_aux_lemma =>
      obtain ⟨rfl, HO2, HB⟩ := hcut
      have HB2 := Lib.hid (HB1.out.trans (HB.out.mono HB1.out.size))
      have HR2 := Lib.hid ((HB.out.block w.heap.size hrl).trans HR1.out)
      have HC3 := Lib.hid (cell_on HB.out c3)
      clear c0 c2 c3 c4 HPi HRd HT HB HB1 HR1 r0 r1 r2 r3 rf0 rf1 rf2 rf3 hrl
      generalize wc = W2 at *
      cases hri : riB [tp, q, r]
      · have HNo : Hid (PeIs s none) := Lib.hid (fun x h => by
          have := (HIs.out x h).2
          rw [hri] at this; cases this)
        clear HIs hri
        have rh := HR2.out; have r0 := cell_of_row W2 (w.heap.size) 0 _ _ _ rh; simp at r0; have rf0 := frozen_of_row W2 (w.heap.size) 0 _ _ rh; have r1 := cell_of_row W2 (w.heap.size) 1 _ _ _ rh; simp at r1; have rf1 := frozen_of_row W2 (w.heap.size) 1 _ _ rh; have r2 := cell_of_row W2 (w.heap.size) 2 _ _ _ rh; simp at r2; have rf2 := frozen_of_row W2 (w.heap.size) 2 _ _ rh; have r3 := cell_of_row W2 (w.heap.size) 3 _ _ _ rh; simp at r3; have rf3 := frozen_of_row W2 (w.heap.size) 3 _ _ rh; clear rh
        have hrl : w.heap.size < W2.heap.size := (Array.getElem?_eq_some_iff.1 HR2.out).1
        go_wp2
        refine bodyPost_ret (v := (.tuple #[.agg #[.int .i64 0, .int .i64 0, .int .i64 0, .int .i64 0], .bool false])) (by simp [results, Tryz.results8, go_sem, *]) rfl ?_
        exact ⟨none, rfl, HNo.out, ((((HB2.out.setCell (Nat.le_refl _) _).setCell (Nat.le_refl _) _).setCell (Nat.le_refl _) _).setCell (Nat.le_refl _) _)⟩
      · have HOi := HO2.out
        rw [riL, if_pos hri] at HOi
        have HCa : Hid (candE p q b r = ⟨(readO tp).getD 0, (readO q).getD 0, kindI b, (readO r).getD 0⟩) := Lib.hid (by rw [candE, hip])
        have hm : riM [tp, q, r] = [(readO tp).getD 0, (readO q).getD 0, (readO r).getD 0] := rfl
        rw [hm] at HOi
        have HK := Lib.hid (fun w h => index5_any b w h)
        have HUn : Hid (∀ x, EvIs s x → x = candE p q b r) := Lib.hid (fun x h => (HIs.out x h).1)
        clear HO2 hm HIs
        rw [HCa.out] at HUn
        clear HCa
        generalize (readO tp).getD 0 = i0 at *
        generalize (readO q).getD 0 = i1 at *
        generalize (readO r).getD 0 = i2 at *
        generalize kindI b = ik at *
        have HX := Lib.hid (fun w a b => implText17_any ⟨i0, i1, ik, i2⟩ w a b)
        obtain ⟨pi, capi, gi, hvi, hcapi, hqi⟩ := own_shape HOi.1
        obtain ⟨rfl, _⟩ := hqi (by simp)
        subst hvi
        have e0 : W2.cell? ⟨gi, 0, none⟩ = some (.int .i64 i0) := by rw [HOi.1.cellAt 0 (by simp)]; rfl
        have e1 : W2.cell? ⟨gi, 1, none⟩ = some (.int .i64 i1) := by rw [HOi.1.cellAt 1 (by simp)]; rfl
        have e2 : W2.cell? ⟨gi, 2, none⟩ = some (.int .i64 i2) := by rw [HOi.1.cellAt 2 (by simp)]; rfl
        have e3 := HC3.out
        clear HOi hqi hri HC3
        have zW := HB2.out.size
        go_upto_region 7 with (fail)
        go_cut [7] (fun v wx => v = .pointer (some ⟨W2.heap.size, 0, none⟩) ∧ Hid (wx.heap[W2.heap.size]? = some (.cells #[.int .i64 i0, .int .i64 i1, .int .i64 ik, .int .i64 i2] 25 (0, 0))) ∧ Hid (Below W2.heap.size W2 wx))
        case first =>
          as_aux_lemma =>
          refine wp_region_held_drew (S := (fun w' => Below W2.heap.size W2 w' ∧ w'.cell? ⟨gi, 0, none⟩ = some (.int .i64 i0) ∧ w'.cell? ⟨gi, 1, none⟩ = some (.int .i64 i1) ∧ w'.cell? ⟨gi, 2, none⟩ = some (.int .i64 i2) ∧ w'.cell? ⟨g, 3, none⟩ = some (.string b))) (by kernel_rfl) ?rx5s (fun hHeld => ?rx50)
          case rx5s => ((try dsimp only); exact ⟨(Below.refl _ _).drew, e0, e1, e2, e3⟩)
          try simp only [Act.put, List.setIfInBounds_toArray, List.set_cons_zero, List.set_cons_succ]
          refine take_at 0 (some 34) (v := ?vx5_1) rfl rfl (by kernel_rfl) (by kernel_rfl) (by kernel_rfl) (fun _ _ _ h => h) (Or.inl ⟨by kernel_rfl, ?yx5_1⟩) hHeld ?zx5_1
          case yx5_1 => (intro wS hSw; (try dsimp only at hSw); go_simp; (try with_reducible rfl))
          try simp only [Act.put, List.setIfInBounds_toArray, List.set_cons_zero, List.set_cons_succ]
          refine take_at 1 (some 35) (v := ?vx5_2) rfl rfl (by kernel_rfl) (by kernel_rfl) (by kernel_rfl) (fun _ _ _ h => h) (Or.inl ⟨by kernel_rfl, ?yx5_2⟩) hHeld ?zx5_2
          case yx5_2 => (intro wS hSw; (try dsimp only at hSw); go_simp; (try with_reducible rfl))
          try simp only [Act.put, List.setIfInBounds_toArray, List.set_cons_zero, List.set_cons_succ]
          refine take_at 2 (some 36) (v := ?vx5_3) rfl rfl (by kernel_rfl) (by kernel_rfl) (by kernel_rfl) (fun _ _ _ h => h) (Or.inl ⟨by kernel_rfl, ?yx5_3⟩) hHeld ?zx5_3
          case yx5_3 => (intro wS hSw; (try dsimp only at hSw); go_simp; (try with_reducible rfl))
          try simp only [Act.put, List.setIfInBounds_toArray, List.set_cons_zero, List.set_cons_succ]
          refine take_at 3 (some 37) (v := ?vx5_4) rfl rfl (by kernel_rfl) (by kernel_rfl) (by kernel_rfl) (fun _ _ _ h => h) (Or.inl ⟨by kernel_rfl, ?yx5_4⟩) hHeld ?zx5_4
          case yx5_4 => (intro wS hSw; (try dsimp only at hSw); go_simp; (try with_reducible rfl))
          try simp only [Act.put, List.setIfInBounds_toArray, List.set_cons_zero, List.set_cons_succ]
          refine take_at 4 (some 38) (v := ?vx5_5) rfl rfl (by kernel_rfl) (by kernel_rfl) (by kernel_rfl) (fun _ _ _ h => h) (Or.inl ⟨by kernel_rfl, ?yx5_5⟩) hHeld ?zx5_5
          case yx5_5 => (intro wS hSw; (try dsimp only at hSw); go_simp; (try with_reducible rfl))
          try simp only [Act.put, List.setIfInBounds_toArray, List.set_cons_zero, List.set_cons_succ]
          refine take_at 5 (some 39) (v := ?vx5_6) rfl rfl (by kernel_rfl) (by kernel_rfl) (by kernel_rfl) (fun _ _ _ h => h) (Or.inl ⟨by kernel_rfl, ?yx5_6⟩) hHeld ?zx5_6
          case yx5_6 => (intro wS hSw; (try dsimp only at hSw); go_simp; (try with_reducible rfl))
          try simp only [Act.put, List.setIfInBounds_toArray, List.set_cons_zero, List.set_cons_succ]
          refine take_at 6 (some 40) (v := ?vx5_7) rfl rfl (by kernel_rfl) (by kernel_rfl) (by kernel_rfl) (fun _ _ _ h => h) (Or.inl ⟨by kernel_rfl, ?yx5_7⟩) hHeld ?zx5_7
          case yx5_7 => (intro wS hSw; (try dsimp only at hSw); go_simp; (try with_reducible rfl))
          try simp only [Act.put, List.setIfInBounds_toArray, List.set_cons_zero, List.set_cons_succ]
          refine take_at 7 (some 41) (v := ?vx5_8) rfl rfl (by kernel_rfl) (by kernel_rfl) (by kernel_rfl) (fun _ _ _ h => h) (Or.inl ⟨by kernel_rfl, ?yx5_8⟩) hHeld ?zx5_8
          case yx5_8 => (intro wS hSw; (try dsimp only at hSw); go_simp; (try with_reducible rfl))
          try simp only [Act.put, List.setIfInBounds_toArray, List.set_cons_zero, List.set_cons_succ]
          refine take_at 8 (some 42) (v := ?vx5_9) rfl rfl (by kernel_rfl) (by kernel_rfl) (by kernel_rfl) (fun _ _ _ h => h) (Or.inl ⟨by kernel_rfl, ?yx5_9⟩) hHeld ?zx5_9
          case yx5_9 => (intro wS hSw; (try dsimp only at hSw); go_simp; (try with_reducible rfl))
          try simp only [Act.put, List.setIfInBounds_toArray, List.set_cons_zero, List.set_cons_succ]
          refine take_at 9 (some 43) (v := ?vx5_10) rfl rfl (by kernel_rfl) (by kernel_rfl) (by kernel_rfl) (fun _ _ _ h => h) (Or.inl ⟨by kernel_rfl, ?yx5_10⟩) hHeld ?zx5_10
          case yx5_10 => (intro wS hSw; (try dsimp only at hSw); go_simp; (try with_reducible rfl))
          try simp only [Act.put, List.setIfInBounds_toArray, List.set_cons_zero, List.set_cons_succ]
          refine take_at 11 (some 45) (v := ?vx5_11) rfl rfl (by kernel_rfl) (by kernel_rfl) (by kernel_rfl) (fun _ _ _ h => h) (Or.inl ⟨by kernel_rfl, ?yx5_11⟩) hHeld ?zx5_11
          case yx5_11 => (intro wS hSw; (try dsimp only at hSw); go_simp; (try with_reducible rfl))
          try simp only [Act.put, List.setIfInBounds_toArray, List.set_cons_zero, List.set_cons_succ]
          refine take_at 12 (some 46) (v := ?vx5_12) rfl rfl (by kernel_rfl) (by kernel_rfl) (by kernel_rfl) (fun _ _ _ h => h) (Or.inl ⟨by kernel_rfl, ?yx5_12⟩) hHeld ?zx5_12
          case yx5_12 => (intro wS hSw; (try dsimp only at hSw); go_simp; (try with_reducible rfl))
          try simp only [Act.put, List.setIfInBounds_toArray, List.set_cons_zero, List.set_cons_succ]
          refine take_at 13 (some 47) (v := ?vx5_13) rfl rfl (by kernel_rfl) (by kernel_rfl) (by kernel_rfl) (fun _ _ _ h => h) (Or.inl ⟨by kernel_rfl, ?yx5_13⟩) hHeld ?zx5_13
          case yx5_13 => (intro wS hSw; (try dsimp only at hSw); go_simp; (try with_reducible rfl))
          try simp only [Act.put, List.setIfInBounds_toArray, List.set_cons_zero, List.set_cons_succ]
          refine wpAnyH_ready (rs := [10, 15]) (by kernel_rfl) (by simp) ?_
          refine cons_at (some 44) rfl rfl (by kernel_rfl) (fun K hK => ?kx5_15) ?mx5_15
          case kx5_15 =>
            go_simp
            (go_at_call 32; refine (HK.out _ (HWo.out.below (HB2.out.trans (hHeld.1.mono HB2.out.size)))).mono ?_; rintro e w' ⟨rfl, rfl⟩)
            try go_wp2_with fail
            refine hK.out _ _ ?sx5_15 (fun hHeld => ?_)
            case sx5_15 => ((try dsimp only); first | assumption | exact keepB4 (by assumption) (below_alloc1 _ _) | exact ⟨by go_grown, cell_on (by go_grown) e0, cell_on (by go_grown) e1, cell_on (by go_grown) e2, cell_on (by go_grown) e3⟩)
            clear hK K
            try simp only [Act.put, List.setIfInBounds_toArray, List.set_cons_zero, List.set_cons_succ]
            refine take_at 14 (some 48) (v := ?vx5_16) rfl rfl (by kernel_rfl) (by kernel_rfl) (by kernel_rfl) (fun _ _ _ h => h) (Or.inl ⟨by kernel_rfl, ?yx5_16⟩) hHeld ?zx5_16
            case yx5_16 => (intro wS hSw; (try dsimp only at hSw); go_simp; (try with_reducible rfl))
            try simp only [Act.put, List.setIfInBounds_toArray, List.set_cons_zero, List.set_cons_succ]
            refine wpAnyH_ready (rs := [15]) (by kernel_rfl) (by simp) ?_
            refine cons_at (some 7) rfl rfl (by kernel_rfl) (fun K hK => ?kx5_18) AllReadyH.nil
            go_simp
            refine hK.out _ _ ?sx5_18 (fun hHeld => ?_)
            case sx5_18 => ((try dsimp only); first | assumption | exact keepB4 (by assumption) (below_alloc1 _ _) | exact ⟨by go_grown, cell_on (by go_grown) e0, cell_on (by go_grown) e1, cell_on (by go_grown) e2, cell_on (by go_grown) e3⟩)
            clear hK K
            try simp only [Act.put, List.setIfInBounds_toArray, List.set_cons_zero, List.set_cons_succ]
            refine wpAnyH_ready (rs := [16]) (by kernel_rfl) (by simp) ?_
            refine cons_at (none) rfl rfl (by kernel_rfl) (fun K hK => ?kx5_20) AllReadyH.nil
            go_simp
            refine hK.out _ _ ?sx5_20 (fun hHeld => ?_)
            case sx5_20 => ((try dsimp only); first | assumption | exact keepB4 (by assumption) (below_alloc1 _ _) | exact ⟨by go_grown, cell_on (by go_grown) e0, cell_on (by go_grown) e1, cell_on (by go_grown) e2, cell_on (by go_grown) e3⟩)
            clear hK K
            try simp only [Act.put, List.setIfInBounds_toArray, List.set_cons_zero, List.set_cons_succ]
            refine wpAnyH_done (by kernel_rfl) ?_ _
            (go_wp2; go_meet; exact ⟨rfl, Lib.hid (by first | exact heap_alloc_new W2 _ | exact heap_alloc_new _ _), Lib.hid hHeld.1⟩)
          refine cons_at (some 7) rfl rfl (by kernel_rfl) (fun K hK => ?kx5_21) AllReadyH.nil
          go_simp
          refine hK.out _ _ ?sx5_21 (fun hHeld => ?_)
          case sx5_21 => ((try dsimp only); first | assumption | exact keepB4 (by assumption) (below_alloc1 _ _) | exact ⟨by go_grown, cell_on (by go_grown) e0, cell_on (by go_grown) e1, cell_on (by go_grown) e2, cell_on (by go_grown) e3⟩)
          clear hK K
          try simp only [Act.put, List.setIfInBounds_toArray, List.set_cons_zero, List.set_cons_succ]
          refine wpAnyH_ready (rs := [10]) (by kernel_rfl) (by simp) ?_
          refine cons_at (some 44) rfl rfl (by kernel_rfl) (fun K hK => ?kx5_23) AllReadyH.nil
          go_simp
          (go_at_call 32; refine (HK.out _ (HWo.out.below (HB2.out.trans (hHeld.1.mono HB2.out.size)))).mono ?_; rintro e w' ⟨rfl, rfl⟩)
          try go_wp2_with fail
          refine hK.out _ _ ?sx5_23 (fun hHeld => ?_)
          case sx5_23 => ((try dsimp only); first | assumption | exact keepB4 (by assumption) (below_alloc1 _ _) | exact ⟨by go_grown, cell_on (by go_grown) e0, cell_on (by go_grown) e1, cell_on (by go_grown) e2, cell_on (by go_grown) e3⟩)
          clear hK K
          try simp only [Act.put, List.setIfInBounds_toArray, List.set_cons_zero, List.set_cons_succ]
          refine take_at 14 (some 48) (v := ?vx5_24) rfl rfl (by kernel_rfl) (by kernel_rfl) (by kernel_rfl) (fun _ _ _ h => h) (Or.inl ⟨by kernel_rfl, ?yx5_24⟩) hHeld ?zx5_24
          case yx5_24 => (intro wS hSw; (try dsimp only at hSw); go_simp; (try with_reducible rfl))
          try simp only [Act.put, List.setIfInBounds_toArray, List.set_cons_zero, List.set_cons_succ]
          refine wpAnyH_ready (rs := [16]) (by kernel_rfl) (by simp) ?_
          refine cons_at (none) rfl rfl (by kernel_rfl) (fun K hK => ?kx5_26) AllReadyH.nil
          go_simp
          refine hK.out _ _ ?sx5_26 (fun hHeld => ?_)
          case sx5_26 => ((try dsimp only); first | assumption | exact keepB4 (by assumption) (below_alloc1 _ _) | exact ⟨by go_grown, cell_on (by go_grown) e0, cell_on (by go_grown) e1, cell_on (by go_grown) e2, cell_on (by go_grown) e3⟩)
          clear hK K
          try simp only [Act.put, List.setIfInBounds_toArray, List.set_cons_zero, List.set_cons_succ]
          refine wpAnyH_done (by kernel_rfl) ?_ _
          (go_wp2; go_meet; exact ⟨rfl, Lib.hid (by first | exact heap_alloc_new W2 _ | exact heap_alloc_new _ _), Lib.hid hHeld.1⟩)
        case rest =>
          as_aux_lemma =>
          obtain ⟨rfl, HX3, HB⟩ := hcut
          have hrl : w.heap.size < W2.heap.size := (Array.getElem?_eq_some_iff.1 HR2.out).1
          have HB3 := Lib.hid (HB2.out.trans (HB.out.mono HB2.out.size))
          have HR3 := Lib.hid ((HB.out.block w.heap.size hrl).trans HR2.out)
          clear HB HB2 HR2 HK e0 e1 e2 e3
          generalize wc = W3 at *
          have xh := HX3.out; have x0 := cell_of_row W3 (W2.heap.size) 0 _ _ _ xh; simp at x0; have xf0 := frozen_of_row W3 (W2.heap.size) 0 _ _ xh; have x1 := cell_of_row W3 (W2.heap.size) 1 _ _ _ xh; simp at x1; have xf1 := frozen_of_row W3 (W2.heap.size) 1 _ _ xh; have x2 := cell_of_row W3 (W2.heap.size) 2 _ _ _ xh; simp at x2; have xf2 := frozen_of_row W3 (W2.heap.size) 2 _ _ xh; have x3 := cell_of_row W3 (W2.heap.size) 3 _ _ _ xh; simp at x3; have xf3 := frozen_of_row W3 (W2.heap.size) 3 _ _ xh; clear xh
          have hxl : W2.heap.size < W3.heap.size := (Array.getElem?_eq_some_iff.1 HX3.out).1
          go_wp2_with fail
          refine (HX.out _ (HWo.out.below HB3.out) (HPw.out.below HB3.out)).mono ?_
          rintro e W4 ⟨rfl, hb4⟩
          have HX4 := Lib.hid ((hb4.block W2.heap.size hxl).trans HX3.out)
          have HR4 := Lib.hid ((hb4.block w.heap.size (by omega)).trans HR3.out)
          have HB4 := Lib.hid (HB3.out.trans (hb4.mono HB3.out.size))
          clear hb4 HX3 HR3 HB3 HX x0 x1 x2 x3 xf0 xf1 xf2 xf3 hxl
          have xh := HX4.out; have x0 := cell_of_row W4 (W2.heap.size) 0 _ _ _ xh; simp at x0; have xf0 := frozen_of_row W4 (W2.heap.size) 0 _ _ xh; have x1 := cell_of_row W4 (W2.heap.size) 1 _ _ _ xh; simp at x1; have xf1 := frozen_of_row W4 (W2.heap.size) 1 _ _ xh; have x2 := cell_of_row W4 (W2.heap.size) 2 _ _ _ xh; simp at x2; have xf2 := frozen_of_row W4 (W2.heap.size) 2 _ _ xh; have x3 := cell_of_row W4 (W2.heap.size) 3 _ _ _ xh; simp at x3; have xf3 := frozen_of_row W4 (W2.heap.size) 3 _ _ xh; clear xh
          have rh := HR4.out; have r0 := cell_of_row W4 (w.heap.size) 0 _ _ _ rh; simp at r0; have rf0 := frozen_of_row W4 (w.heap.size) 0 _ _ rh; have r1 := cell_of_row W4 (w.heap.size) 1 _ _ _ rh; simp at r1; have rf1 := frozen_of_row W4 (w.heap.size) 1 _ _ rh; have r2 := cell_of_row W4 (w.heap.size) 2 _ _ _ rh; simp at r2; have rf2 := frozen_of_row W4 (w.heap.size) 2 _ _ rh; have r3 := cell_of_row W4 (w.heap.size) 3 _ _ _ rh; simp at r3; have rf3 := frozen_of_row W4 (w.heap.size) 3 _ _ rh; clear rh
          have hxl : W2.heap.size < W4.heap.size := (Array.getElem?_eq_some_iff.1 HX4.out).1
          have HV : Hid (evtV ⟨i0, i1, ik, i2⟩ = s ↔ EvIs s ⟨i0, i1, ik, i2⟩) := Lib.hid (evtV_is HNe.out)
          generalize evtV ⟨i0, i1, ik, i2⟩ = tx at *
          generalize evB ⟨i0, i1, ik, i2⟩ = eb at *
          cases hq : (tx.toList == s.toList)
          · have HNo : Hid (PeIs s none) := Lib.hid (fun x h => by
              have hx := HUn.out x h
              subst hx
              have he := HV.out.2 h
              rw [he] at hq
              simp at hq)
            clear HV HUn
            go_wp2
            refine bodyPost_ret (v := (.tuple #[.agg #[.int .i64 0, .int .i64 0, .int .i64 0, .int .i64 0], .bool false])) (by simp [results, Tryz.results8, go_sem, *]) rfl ?_
            exact ⟨none, rfl, HNo.out, ((((HB4.out.setCell (Nat.le_refl _) _).setCell (Nat.le_refl _) _).setCell (Nat.le_refl _) _).setCell (Nat.le_refl _) _)⟩
          · have HYes : Hid (PeIs s (some ⟨i0, i1, ik, i2⟩)) := Lib.hid (HV.out.1 (ba_same (beq_iff_eq.1 hq)))
            clear HV HUn
            go_wp2
            refine bodyPost_ret (v := (.tuple #[.agg #[.int .i64 i0, .int .i64 i1, .int .i64 ik, .int .i64 i2], .bool true])) (by simp [results, Tryz.results8, go_sem, *]) rfl ?_
            exact ⟨some ⟨i0, i1, ik, i2⟩, rfl, HYes.out, ((((HB4.out.setCell (Nat.le_refl _) _).setCell (Nat.le_refl _) _).setCell (Nat.le_refl _) _).setCell (Nat.le_refl _) _)⟩
  · have HNo : Hid (PeIs s none) := Lib.hid (fun x h => by
      obtain ⟨a, b, e, _⟩ := evIs_words h HWs.out
      exact h5 (by rw [e]; rfl))
    clear HWs
    have h5' : ((ws.length : Int) == 5) = false := by rw [beq_eq_false_iff_ne]; omega
    go_wp2
    refine bodyPost_ret (v := (.tuple #[.agg #[.int .i64 0, .int .i64 0, .int .i64 0, .int .i64 0], .bool false])) (by simp [results, Tryz.results8, go_sem, *]) rfl ?_
    exact ⟨none, rfl, HNo.out, ((((HB1.out.setCell (Nat.le_refl _) _).setCell (Nat.le_refl _) _).setCell (Nat.le_refl _) _).setCell (Nat.le_refl _) _)⟩
end Go.Proofs.YtohbkohidpgjpaaGreatDoor
