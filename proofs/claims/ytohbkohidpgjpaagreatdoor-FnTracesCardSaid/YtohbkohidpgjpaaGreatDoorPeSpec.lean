/- An event read from its text by the reference's ParseEvent, for every text of at most 2^20 bytes. -/
import Derived.Test.YtohbkohidpgjpaaGreatDoorPeMath
import Derived.Test.YtohbkohidpgjpaaGreatDoorPeImpl
import Derived.Test.YtohbkohidpgjpaaGreatDoorEvTx2
import Derived.Test.YtohbkohidpgjpaaGreatDoorCnt0
import Derived.Deep.CutBlock
import Derived.Deep.DeepCutAuto
namespace Go.Proofs.YtohbkohidpgjpaaGreatDoor
open Go.RowKit

/-- the first word without its last byte -/
def cutC (p : ByteArray) : ByteArray := p.extract 0 (p.size - 1)
def candS2 (p q b r : ByteArray) : Ev := ⟨(readO (cutC p)).getD 0, (readO q).getD 0, kindS b, (readO r).getD 0⟩
theorem candS2_is {s p a q b r : ByteArray} {x : Ev} (hw : ([p, a, q, b, r] : List ByteArray).map (·.data.toList) = spl 32 s.data.toList) (h : EvIs s x) : x = candS2 p q b r ∧ (readO (cutC p)).isSome = true ∧ (readO q).isSome = true ∧ (readO r).isSome = true ∧ s.size ≤ 50 ∧ 2 ≤ p.size := by
  obtain ⟨a', b', hws, hb, h50⟩ := evIs_words h hw
  simp only [List.cons.injEq, and_true] at hws
  obtain ⟨rfl, _, rfl, rfl, rfl⟩ := hws
  have hv := evB_iff.1 h.1
  have f1 := readO_nat hv.1.1 (by omega)
  have f2 := readO_nat hv.2.1.1 (by omega)
  have f3 := readO_nat hv.2.2.2.1 (by omega)
  subst hb
  obtain ⟨xt, xn, xk, xm⟩ := x
  simp only at f1 f2 f3 hv
  have fk := kindS_is (k := xk.toNat) (by omega) (by omega)
  have c1 : cutC (numT xt.toNat ++ ⟨#[58]⟩) = numT xt.toNat := cutC_app _
  have hp : 1 ≤ (numT xt.toNat).size := by
    rcases Nat.eq_zero_or_pos (numT xt.toNat).size with e | e
    · have : numT xt.toNat = ⟨#[]⟩ := ByteArray.ext (Array.eq_empty_of_size_eq_zero e)
      rw [this] at f1
      cases f1
    · exact e
  refine ⟨?_, by rw [c1, f1]; rfl, by rw [f2]; rfl, by rw [f3]; rfl, h50, by show 2 ≤ (numT xt.toNat ++ (⟨#[58]⟩ : ByteArray)).size; rw [ByteArray.size_append, show (⟨#[58]⟩ : ByteArray).size = 1 from rfl]; omega⟩
  simp only [candS2, c1, f1, f2, f3, fk, Option.getD_some, Ev.mk.injEq, true_and, and_true]
  omega
/-- the kind that the reference's loop has behind the kinds below k -/
def kindN (b : ByteArray) : Nat → Int
  | 0 => 0
  | k + 1 => if (trW (k + 1)).toList = b.toList then ((k + 1 : Nat) : Int) else kindN b k
theorem kindN_end (b : ByteArray) : kindN b 4 = kindS b := by
  simp only [kindN, kindS, eq_comm (a := (trW _).toList)]
  rfl
set_option maxRecDepth 100000 in
set_option maxHeartbeats 8000000 in
theorem specParseEvent_any (s : ByteArray) (w : World) (hs : s.size ≤ 1048576) :
    Calls Tryz.prog 10 #[.string s] w fun e w' => ∃ o, e = peEnd o ∧ PeIs s o ∧ Below w.heap.size w w' := by
  have HSp := Lib.hid (fun w => l1Split_any s 32 w hs)
  go_enter Tryz.func10, Tryz.ntmps10
  go_wp2_with fail
  refine (HSp.out _).mono ?_
  rintro e w1 ⟨v, ws, rfl, hws, hO, hb⟩
  have hok := parts_ok hws hs
  have HSz := Lib.hid (fun x hx => Nat.le_trans (hok.2.2 x hx) hs)
  have hwl := hok.1
  have HR1 : Hid (w1.heap[w.heap.size]? = some (.cells #[.int .i64 0, .int .i64 0, .int .i64 0, .int .i64 0] 25 (0, 0))) := Lib.hid ((hb.block w.heap.size (by simp <;> omega)).trans (heap_alloc2_old _ _ _))
  have HN1 : Hid (w1.heap[w.heap.size + 1]? = some (.cells #[.int .i64 0, .int .i64 0, .int .i64 0, .int .i64 0] 25 (0, 0))) := Lib.hid ((hb.block (w.heap.size + 1) (by simp <;> omega)).trans (heap_alloc2_new _ _ _))
  have HB1 : Hid (Below w.heap.size w w1) := Lib.hid (Below.trans (by go_grown) (hb.mono (by simp <;> omega)))
  have HWs := Lib.hid hws
  obtain ⟨p0, cap, g, rfl, hcap, hq⟩ := own_shape hO.1
  have HOo := Lib.hid hO
  clear hO hb hok hws HSp
  have hn0 : 0 < ws.length := by
    obtain ⟨q0, qs0, hp0⟩ := spl_ne 32 s.data.toList
    have := congrArg List.length HWs.out
    rw [hp0, List.length_map, List.length_cons] at this
    omega
  obtain ⟨rfl, _⟩ := hq hn0
  clear hq
  by_cases h50 : 50 < s.size
  · have HNo : Hid (PeIs s none) := Lib.hid (fun x h => by
      obtain ⟨_, _, _, _, h9⟩ := evIs_words h HWs.out
      omega)
    have h50' : decide ((50 : Int) < (s.size : Int)) = true := decide_eq_true (by omega)
    clear HWs
    have rh := HR1.out; have r0 := cell_of_row w1 (w.heap.size) 0 _ _ _ rh; simp at r0; have rf0 := frozen_of_row w1 (w.heap.size) 0 _ _ rh; have r1 := cell_of_row w1 (w.heap.size) 1 _ _ _ rh; simp at r1; have rf1 := frozen_of_row w1 (w.heap.size) 1 _ _ rh; have r2 := cell_of_row w1 (w.heap.size) 2 _ _ _ rh; simp at r2; have rf2 := frozen_of_row w1 (w.heap.size) 2 _ _ rh; have r3 := cell_of_row w1 (w.heap.size) 3 _ _ _ rh; simp at r3; have rf3 := frozen_of_row w1 (w.heap.size) 3 _ _ rh; clear rh
    have ltr : w.heap.size < w1.heap.size := (Array.getElem?_eq_some_iff.1 HR1.out).1
    have nh := HN1.out; have n0 := cell_of_row w1 (w.heap.size + 1) 0 _ _ _ nh; simp at n0; have nf0 := frozen_of_row w1 (w.heap.size + 1) 0 _ _ nh; have n1 := cell_of_row w1 (w.heap.size + 1) 1 _ _ _ nh; simp at n1; have nf1 := frozen_of_row w1 (w.heap.size + 1) 1 _ _ nh; have n2 := cell_of_row w1 (w.heap.size + 1) 2 _ _ _ nh; simp at n2; have nf2 := frozen_of_row w1 (w.heap.size + 1) 2 _ _ nh; have n3 := cell_of_row w1 (w.heap.size + 1) 3 _ _ _ nh; simp at n3; have nf3 := frozen_of_row w1 (w.heap.size + 1) 3 _ _ nh; clear nh
    have ltn : w.heap.size + 1 < w1.heap.size := (Array.getElem?_eq_some_iff.1 HN1.out).1
    go_wp2
    refine bodyPost_ret (v := (.tuple #[.agg #[.int .i64 0, .int .i64 0, .int .i64 0, .int .i64 0], .bool false])) (by simp [results, Tryz.results10, go_sem, *]) rfl ?_
    exact ⟨none, rfl, HNo.out, ((((HB1.out.setCell (Nat.le_refl _) _).setCell (Nat.le_refl _) _).setCell (Nat.le_refl _) _).setCell (Nat.le_refl _) _)⟩
  have h50' : decide ((50 : Int) < (s.size : Int)) = false := decide_eq_false (by omega)
  by_cases h5 : ws.length = 5
  rotate_left
  · have HNo : Hid (PeIs s none) := Lib.hid (fun x h => by
      obtain ⟨a, b, e, _⟩ := evIs_words h HWs.out
      exact h5 (by rw [e]; rfl))
    clear HWs
    have h5' : ((ws.length : Int) == 5) = false := by rw [beq_eq_false_iff_ne]; omega
    have rh := HR1.out; have r0 := cell_of_row w1 (w.heap.size) 0 _ _ _ rh; simp at r0; have rf0 := frozen_of_row w1 (w.heap.size) 0 _ _ rh; have r1 := cell_of_row w1 (w.heap.size) 1 _ _ _ rh; simp at r1; have rf1 := frozen_of_row w1 (w.heap.size) 1 _ _ rh; have r2 := cell_of_row w1 (w.heap.size) 2 _ _ _ rh; simp at r2; have rf2 := frozen_of_row w1 (w.heap.size) 2 _ _ rh; have r3 := cell_of_row w1 (w.heap.size) 3 _ _ _ rh; simp at r3; have rf3 := frozen_of_row w1 (w.heap.size) 3 _ _ rh; clear rh
    have ltr : w.heap.size < w1.heap.size := (Array.getElem?_eq_some_iff.1 HR1.out).1
    have nh := HN1.out; have n0 := cell_of_row w1 (w.heap.size + 1) 0 _ _ _ nh; simp at n0; have nf0 := frozen_of_row w1 (w.heap.size + 1) 0 _ _ nh; have n1 := cell_of_row w1 (w.heap.size + 1) 1 _ _ _ nh; simp at n1; have nf1 := frozen_of_row w1 (w.heap.size + 1) 1 _ _ nh; have n2 := cell_of_row w1 (w.heap.size + 1) 2 _ _ _ nh; simp at n2; have nf2 := frozen_of_row w1 (w.heap.size + 1) 2 _ _ nh; have n3 := cell_of_row w1 (w.heap.size + 1) 3 _ _ _ nh; simp at n3; have nf3 := frozen_of_row w1 (w.heap.size + 1) 3 _ _ nh; clear nh
    have ltn : w.heap.size + 1 < w1.heap.size := (Array.getElem?_eq_some_iff.1 HN1.out).1
    go_wp2
    refine bodyPost_ret (v := (.tuple #[.agg #[.int .i64 0, .int .i64 0, .int .i64 0, .int .i64 0], .bool false])) (by simp [results, Tryz.results10, go_sem, *]) rfl ?_
    exact ⟨none, rfl, HNo.out, ((((HB1.out.setCell (Nat.le_refl _) _).setCell (Nat.le_refl _) _).setCell (Nat.le_refl _) _).setCell (Nat.le_refl _) _)⟩
  obtain ⟨p, a, q, b, r, rfl⟩ : ∃ p a q b r, ws = [p, a, q, b, r] := by
    match ws, h5 with
    | [p, a, q, b, r], _ => exact ⟨p, a, q, b, r, rfl⟩
  have c0 : w1.cell? ⟨g, 0, none⟩ = some (.string p) := by rw [HOo.out.1.cellAt 0 (by simp)]; rfl
  have C2 : Hid (w1.cell? ⟨g, 2, none⟩ = some (.string q)) := Lib.hid (by rw [HOo.out.1.cellAt 2 (by simp)]; rfl)
  have C3 : Hid (w1.cell? ⟨g, 3, none⟩ = some (.string b)) := Lib.hid (by rw [HOo.out.1.cellAt 3 (by simp)]; rfl)
  have C4 : Hid (w1.cell? ⟨g, 4, none⟩ = some (.string r)) := Lib.hid (by rw [HOo.out.1.cellAt 4 (by simp)]; rfl)
  have hsp := HSz.out p (by simp)
  have hsq := HSz.out q (by simp)
  have hsr := HSz.out r (by simp)
  have HIs := Lib.hid (fun x h => candS2_is (x := x) HWs.out h)
  clear HWs h5 HSz HOo
  by_cases h2 : p.size < 2
  · have HNo : Hid (PeIs s none) := Lib.hid (fun x h => by have := (HIs.out x h).2.2.2.2.2; omega)
    have h2' : decide ((p.size : Int) < 2) = true := decide_eq_true (by omega)
    clear HIs
    have rh := HR1.out; have r0 := cell_of_row w1 (w.heap.size) 0 _ _ _ rh; simp at r0; have rf0 := frozen_of_row w1 (w.heap.size) 0 _ _ rh; have r1 := cell_of_row w1 (w.heap.size) 1 _ _ _ rh; simp at r1; have rf1 := frozen_of_row w1 (w.heap.size) 1 _ _ rh; have r2 := cell_of_row w1 (w.heap.size) 2 _ _ _ rh; simp at r2; have rf2 := frozen_of_row w1 (w.heap.size) 2 _ _ rh; have r3 := cell_of_row w1 (w.heap.size) 3 _ _ _ rh; simp at r3; have rf3 := frozen_of_row w1 (w.heap.size) 3 _ _ rh; clear rh
    have ltr : w.heap.size < w1.heap.size := (Array.getElem?_eq_some_iff.1 HR1.out).1
    have nh := HN1.out; have n0 := cell_of_row w1 (w.heap.size + 1) 0 _ _ _ nh; simp at n0; have nf0 := frozen_of_row w1 (w.heap.size + 1) 0 _ _ nh; have n1 := cell_of_row w1 (w.heap.size + 1) 1 _ _ _ nh; simp at n1; have nf1 := frozen_of_row w1 (w.heap.size + 1) 1 _ _ nh; have n2 := cell_of_row w1 (w.heap.size + 1) 2 _ _ _ nh; simp at n2; have nf2 := frozen_of_row w1 (w.heap.size + 1) 2 _ _ nh; have n3 := cell_of_row w1 (w.heap.size + 1) 3 _ _ _ nh; simp at n3; have nf3 := frozen_of_row w1 (w.heap.size + 1) 3 _ _ nh; clear nh
    have ltn : w.heap.size + 1 < w1.heap.size := (Array.getElem?_eq_some_iff.1 HN1.out).1
    go_wp2
    refine bodyPost_ret (v := (.tuple #[.agg #[.int .i64 0, .int .i64 0, .int .i64 0, .int .i64 0], .bool false])) (by simp [results, Tryz.results10, go_sem, *]) rfl ?_
    exact ⟨none, rfl, HNo.out, ((((HB1.out.setCell (Nat.le_refl _) _).setCell (Nat.le_refl _) _).setCell (Nat.le_refl _) _).setCell (Nat.le_refl _) _)⟩
  have h2' : decide ((p.size : Int) < 2) = false := decide_eq_false (by omega)
  have hcz : (cutC p).size ≤ 1048576 := by rw [cutC, ByteArray.size_extract]; omega
  have HRd1 := Lib.hid (fun w => read_any (cutC p) w hcz)
  have HRd2 := Lib.hid (fun w => read_any q w hsq)
  have HRd3 := Lib.hid (fun w => read_any r w hsr)
  unfold rdEnd at HRd1 HRd2 HRd3
  have hx1 : (0 : Int) ≤ (p.size : Int) - 1 := by omega
  have hx2 : (p.size : Int) - 1 ≤ (p.size : Int) := by omega
  have hx5 : (1 : Int) ≤ (p.size : Int) := by omega
  have hx6 : 1 ≤ p.size := by omega
  have hx3 : ((p.size : Int) - 1).toNat = p.size - 1 := by omega
  have hx4 : IntKind.i64.wrap ((p.size : Int) - 1) = (p.size : Int) - 1 := by rw [IntKind.wrap_i64]; omega
  have HCu : Hid (p.extract 0 (p.size - 1) = cutC p) := Lib.hid rfl
  go_upto_region 5 with (fail)
  go_cut [6, 7] (fun x f wx => x = .int .i64 ((readO (cutC p)).getD 0) ∧ f = .bool (readO (cutC p)).isSome ∧ Hid (Below w1.heap.size w1 wx))
  case first =>
    as_aux_lemma =>
    refine wp_region_held_drew (S := (fun w' => Below w1.heap.size w1 w' ∧ w'.cell? ⟨g, 0, none⟩ = some (.string p))) (by kernel_rfl) ?rx6s (fun hHeld => ?rx60)
    case rx6s => ((try dsimp only); exact ⟨(Below.refl _ _).drew, c0⟩)
    try simp only [Act.put, List.setIfInBounds_toArray, List.set_cons_zero, List.set_cons_succ]
    refine take_at 0 (some 34) (v := ?vx6_1) rfl rfl (by kernel_rfl) (by kernel_rfl) (by kernel_rfl) (fun _ _ _ h => h) (Or.inl ⟨by kernel_rfl, ?yx6_1⟩) hHeld ?zx6_1
    case yx6_1 => (intro wS hSw; (try dsimp only at hSw); go_simp; (try with_reducible rfl))
    try simp only [Act.put, List.setIfInBounds_toArray, List.set_cons_zero, List.set_cons_succ]
    refine take_at 1 (some 35) (v := ?vx6_2) rfl rfl (by kernel_rfl) (by kernel_rfl) (by kernel_rfl) (fun _ _ _ h => h) (Or.inl ⟨by kernel_rfl, ?yx6_2⟩) hHeld ?zx6_2
    case yx6_2 => (intro wS hSw; (try dsimp only at hSw); go_simp; (try with_reducible rfl))
    try simp only [Act.put, List.setIfInBounds_toArray, List.set_cons_zero, List.set_cons_succ]
    refine take_at 2 (some 36) (v := ?vx6_3) rfl rfl (by kernel_rfl) (by kernel_rfl) (by kernel_rfl) (fun _ _ _ h => h) (Or.inl ⟨by kernel_rfl, ?yx6_3⟩) hHeld ?zx6_3
    case yx6_3 => (intro wS hSw; (try dsimp only at hSw); go_simp; (try with_reducible rfl))
    try simp only [Act.put, List.setIfInBounds_toArray, List.set_cons_zero, List.set_cons_succ]
    refine take_at 3 (some 37) (v := ?vx6_4) rfl rfl (by kernel_rfl) (by kernel_rfl) (by kernel_rfl) (fun _ _ _ h => h) (Or.inl ⟨by kernel_rfl, ?yx6_4⟩) hHeld ?zx6_4
    case yx6_4 => (intro wS hSw; (try dsimp only at hSw); go_simp; (try with_reducible rfl))
    try simp only [Act.put, List.setIfInBounds_toArray, List.set_cons_zero, List.set_cons_succ]
    refine take_at 4 (some 38) (v := ?vx6_5) rfl rfl (by kernel_rfl) (by kernel_rfl) (by kernel_rfl) (fun _ _ _ h => h) (Or.inl ⟨by kernel_rfl, ?yx6_5⟩) hHeld ?zx6_5
    case yx6_5 => (intro wS hSw; (try dsimp only at hSw); go_simp; (try with_reducible rfl))
    try simp only [Act.put, List.setIfInBounds_toArray, List.set_cons_zero, List.set_cons_succ]
    refine take_at 5 (some 39) (v := ?vx6_6) rfl rfl (by kernel_rfl) (by kernel_rfl) (by kernel_rfl) (fun _ _ _ h => h) (Or.inl ⟨by kernel_rfl, ?yx6_6⟩) hHeld ?zx6_6
    case yx6_6 => (intro wS hSw; (try dsimp only at hSw); go_simp; (try with_reducible rfl))
    try simp only [Act.put, List.setIfInBounds_toArray, List.set_cons_zero, List.set_cons_succ]
    refine take_at 6 (some 40) (v := ?vx6_7) rfl rfl (by kernel_rfl) (by kernel_rfl) (by kernel_rfl) (fun _ _ _ h => h) (Or.inl ⟨by kernel_rfl, ?yx6_7⟩) hHeld ?zx6_7
    case yx6_7 => (intro wS hSw; (try dsimp only at hSw); go_simp; (try with_reducible rfl))
    try simp only [Act.put, List.setIfInBounds_toArray, List.set_cons_zero, List.set_cons_succ]
    refine take_at 7 (some 41) (v := ?vx6_8) rfl rfl (by kernel_rfl) (by kernel_rfl) (by kernel_rfl) (fun _ _ _ h => h) (Or.inl ⟨by kernel_rfl, ?yx6_8⟩) hHeld ?zx6_8
    case yx6_8 => (intro wS hSw; (try dsimp only at hSw); go_simp; (try with_reducible rfl))
    try simp only [Act.put, List.setIfInBounds_toArray, List.set_cons_zero, List.set_cons_succ]
    refine take_at 8 (some 42) (v := ?vx6_9) rfl rfl (by kernel_rfl) (by kernel_rfl) (by kernel_rfl) (fun _ _ _ h => h) (Or.inl ⟨by kernel_rfl, ?yx6_9⟩) hHeld ?zx6_9
    case yx6_9 => (intro wS hSw; (try dsimp only at hSw); go_simp; (try with_reducible rfl))
    try simp only [Act.put, List.setIfInBounds_toArray, List.set_cons_zero, List.set_cons_succ]
    refine wpAnyH_ready (rs := [9]) (by kernel_rfl) (by simp) ?_
    refine cons_at (some 43) rfl rfl (by kernel_rfl) (fun K hK => ?kx6_11) AllReadyH.nil
    go_simp
    (go_at_call 36; refine (HRd1.out _).mono ?_; rintro e w' ⟨rfl, hbel⟩)
    try go_wp2_with fail
    refine hK.out _ _ ?sx6_11 (fun hHeld => ?_)
    case sx6_11 => ((try dsimp only); first | exact keepB1 (by assumption) hbel | assumption)
    clear hK K
    try simp only [Act.put, List.setIfInBounds_toArray, List.set_cons_zero, List.set_cons_succ]
    refine take_at 10 (some 33) (v := ?vx6_12) rfl rfl (by kernel_rfl) (by kernel_rfl) (by kernel_rfl) (fun _ _ _ h => h) (Or.inl ⟨by kernel_rfl, ?yx6_12⟩) hHeld ?zx6_12
    case yx6_12 => (intro wS hSw; (try dsimp only at hSw); go_simp; (try with_reducible rfl))
    try simp only [Act.put, List.setIfInBounds_toArray, List.set_cons_zero, List.set_cons_succ]
    refine take_at 11 (some 44) (v := ?vx6_13) rfl rfl (by kernel_rfl) (by kernel_rfl) (by kernel_rfl) (fun _ _ _ h => h) (Or.inl ⟨by kernel_rfl, ?yx6_13⟩) hHeld ?zx6_13
    case yx6_13 => (intro wS hSw; (try dsimp only at hSw); go_simp; (try with_reducible rfl))
    try simp only [Act.put, List.setIfInBounds_toArray, List.set_cons_zero, List.set_cons_succ]
    refine take_at 12 (some 45) (v := ?vx6_14) rfl rfl (by kernel_rfl) (by kernel_rfl) (by kernel_rfl) (fun _ _ _ h => h) (Or.inl ⟨by kernel_rfl, ?yx6_14⟩) hHeld ?zx6_14
    case yx6_14 => (intro wS hSw; (try dsimp only at hSw); go_simp; (try with_reducible rfl))
    try simp only [Act.put, List.setIfInBounds_toArray, List.set_cons_zero, List.set_cons_succ]
    refine take_at 13 (some 6) (v := ?vx6_15) rfl rfl (by kernel_rfl) (by kernel_rfl) (by kernel_rfl) (fun _ _ _ h => h) (Or.inl ⟨by kernel_rfl, ?yx6_15⟩) hHeld ?zx6_15
    case yx6_15 => (intro wS hSw; (try dsimp only at hSw); go_simp; (try with_reducible rfl))
    try simp only [Act.put, List.setIfInBounds_toArray, List.set_cons_zero, List.set_cons_succ]
    refine take_at 14 (some 7) (v := ?vx6_16) rfl rfl (by kernel_rfl) (by kernel_rfl) (by kernel_rfl) (fun _ _ _ h => h) (Or.inl ⟨by kernel_rfl, ?yx6_16⟩) hHeld ?zx6_16
    case yx6_16 => (intro wS hSw; (try dsimp only at hSw); go_simp; (try with_reducible rfl))
    try simp only [Act.put, List.setIfInBounds_toArray, List.set_cons_zero, List.set_cons_succ]
    refine wpAnyH_done (by kernel_rfl) ?_ _
    (go_wp2; go_meet; exact ⟨rfl, rfl, Lib.hid hHeld.1⟩)
  case rest =>
    as_aux_lemma =>
    obtain ⟨rfl, rfl, hb2⟩ := hcut
    generalize wc = w2 at *
    have z1 : w.heap.size + 1 < w1.heap.size := (Array.getElem?_eq_some_iff.1 HN1.out).1
    have HR2 := Lib.hid ((hb2.out.block w.heap.size (by omega)).trans HR1.out)
    have HN2 := Lib.hid ((hb2.out.block (w.heap.size + 1) z1).trans HN1.out)
    have c2 := cell_on hb2.out C2.out
    have D3 := Lib.hid (cell_on hb2.out C3.out)
    have D4 := Lib.hid (cell_on hb2.out C4.out)
    have HB2 := Lib.hid (HB1.out.trans (hb2.out.mono HB1.out.size))
    clear hb2 HR1 HN1 HB1 c0 C2 C3 C4 HRd1 HCu hx1 hx2 hx5 hx6 hx3 hx4 z1
    have HUn : Hid (∀ x, EvIs s x → x = ⟨(readO (cutC p)).getD 0, (readO q).getD 0, kindS b, (readO r).getD 0⟩ ∧ (readO (cutC p)).isSome = true ∧ (readO q).isSome = true ∧ (readO r).isSome = true) := Lib.hid (fun x h => by obtain ⟨h1, h2, h3, h4, _⟩ := HIs.out x h; exact ⟨h1, h2, h3, h4⟩)
    clear HIs
    generalize (readO (cutC p)).getD 0 = i0 at *
    generalize (readO (cutC p)).isSome = f0 at *
    generalize (readO q).getD 0 = i1 at *
    generalize (readO q).isSome = f1 at *
    generalize (readO r).getD 0 = i2 at *
    generalize (readO r).isSome = f2 at *
    go_wp2_with fail
    refine (HRd2.out _).mono ?_
    rintro e w3 ⟨rfl, hb3⟩
    have z2 : w.heap.size + 1 < w2.heap.size := (Array.getElem?_eq_some_iff.1 HN2.out).1
    have HR3 := Lib.hid ((hb3.block w.heap.size (by omega)).trans HR2.out)
    have HN3 := Lib.hid ((hb3.block (w.heap.size + 1) z2).trans HN2.out)
    have E3 := Lib.hid (cell_on hb3 D3.out)
    have c4 := cell_on hb3 D4.out
    have HB3 := Lib.hid (HB2.out.trans (hb3.mono HB2.out.size))
    clear hb3 HR2 HN2 HB2 D3 D4 c2 HRd2 z2
    go_wp2_with fail
    refine (HRd3.out _).mono ?_
    rintro e w4 ⟨rfl, hb4⟩
    have z3 : w.heap.size + 1 < w3.heap.size := (Array.getElem?_eq_some_iff.1 HN3.out).1
    have HR4 := Lib.hid ((hb4.block w.heap.size (by omega)).trans HR3.out)
    have HN4 := Lib.hid ((hb4.block (w.heap.size + 1) z3).trans HN3.out)
    have F3 := Lib.hid (cell_on hb4 E3.out)
    have HB4 := Lib.hid (HB3.out.trans (hb4.mono HB3.out.size))
    clear hb4 HR3 HN3 HB3 E3 c4 HRd3 z3
    have z4 : w.heap.size + 1 < w4.heap.size := (Array.getElem?_eq_some_iff.1 HN4.out).1
    have HA := Lib.hid (below_alloc1 w4 (.cells #[.int .i64 i0, .int .i64 i1, .int .i64 0, .int .i64 i2] 25))
    have HX5 := Lib.hid (heap_alloc_new w4 (.cells #[.int .i64 i0, .int .i64 i1, .int .i64 0, .int .i64 i2] 25))
    go_wp2
    go_loopw [13] (fun k wr => ∃ j : Nat, j ≤ 4 ∧ k = .int .i64 ((j + 1 : Nat) : Int) ∧ Hid (wr.heap[w4.heap.size]? = some (.cells #[.int .i64 i0, .int .i64 i1, .int .i64 (kindN b j), .int .i64 i2] 25 (0, 0))) ∧ Hid (Below w4.heap.size w4 wr)) (fun k _ => 6 - (intOf k).toNat)
    case atStart => exact ⟨0, by omega, rfl, HX5, HA⟩
    case round =>
      clear HX5 HA
      obtain ⟨j, hj, rfl, HX, HB⟩ := hrel
      have hxl : w4.heap.size < wr.heap.size := (Array.getElem?_eq_some_iff.1 HX.out).1
      by_cases hlt : j < 4
      · have d3 := cell_on HB.out F3.out
        have HWd := Lib.hid (fun w => words17_any (j + 1) (by omega) w)
        have hkn : kindN b (j + 1) = if (trW (j + 1)).toList = b.toList then ((j + 1 : Nat) : Int) else kindN b j := rfl
        have HKn := Lib.hid hkn; clear hkn
        have hle : ((j + 1 : Nat) : Int) ≤ 4 := by omega
        have hk5 : ((j + 1 : Nat) : Int) < 5 := by omega
        have hk6 : (j : Int) + 1 < 5 := by omega
        have hk7 : (0 : Int) ≤ (j : Int) + 1 := by omega
        have hk8 : ((j : Int) + 1).toNat = j + 1 := by omega
        generalize trW (j + 1) = tw at *
        go_upto_region 12 with (fail)
        go_cut [75] (fun c wx => c = .bool (tw.toList == b.toList) ∧ Hid (Below wr.heap.size wr wx))
        case first =>
          as_aux_lemma =>
          refine wp_region_held_drew (S := (fun w' => Below wr.heap.size wr w' ∧ w'.cell? ⟨g, 3, none⟩ = some (.string b))) (by kernel_rfl) ?rx7s (fun hHeld => ?rx70)
          case rx7s => ((try dsimp only); exact ⟨(Below.refl _ _).drew, d3⟩)
          try simp only [Act.put, List.setIfInBounds_toArray, List.set_cons_zero, List.set_cons_succ]
          refine take_at 1 (some 69) (v := ?vx7_1) rfl rfl (by kernel_rfl) (by kernel_rfl) (by kernel_rfl) (fun _ _ _ h => h) (Or.inl ⟨by kernel_rfl, ?yx7_1⟩) hHeld ?zx7_1
          case yx7_1 => (intro wS hSw; (try dsimp only at hSw); go_simp; (try with_reducible rfl))
          try simp only [Act.put, List.setIfInBounds_toArray, List.set_cons_zero, List.set_cons_succ]
          refine take_at 4 (some 72) (v := ?vx7_2) rfl rfl (by kernel_rfl) (by kernel_rfl) (by kernel_rfl) (fun _ _ _ h => h) (Or.inl ⟨by kernel_rfl, ?yx7_2⟩) hHeld ?zx7_2
          case yx7_2 => (intro wS hSw; (try dsimp only at hSw); go_simp; (try with_reducible rfl))
          try simp only [Act.put, List.setIfInBounds_toArray, List.set_cons_zero, List.set_cons_succ]
          refine take_at 5 (some 73) (v := ?vx7_3) rfl rfl (by kernel_rfl) (by kernel_rfl) (by kernel_rfl) (fun _ _ _ h => h) (Or.inl ⟨by kernel_rfl, ?yx7_3⟩) hHeld ?zx7_3
          case yx7_3 => (intro wS hSw; (try dsimp only at hSw); go_simp; (try with_reducible rfl))
          try simp only [Act.put, List.setIfInBounds_toArray, List.set_cons_zero, List.set_cons_succ]
          refine take_at 6 (some 74) (v := ?vx7_4) rfl rfl (by kernel_rfl) (by kernel_rfl) (by kernel_rfl) (fun _ _ _ h => h) (Or.inl ⟨by kernel_rfl, ?yx7_4⟩) hHeld ?zx7_4
          case yx7_4 => (intro wS hSw; (try dsimp only at hSw); go_simp; (try with_reducible rfl))
          try simp only [Act.put, List.setIfInBounds_toArray, List.set_cons_zero, List.set_cons_succ]
          refine wpAnyH_ready (rs := [0]) (by kernel_rfl) (by simp) ?_
          refine cons_at (some 68) rfl rfl (by kernel_rfl) (fun K hK => ?kx7_6) AllReadyH.nil
          go_simp
          (go_at_call 37; refine (HWd.out _).mono ?_; rintro e w' ⟨gw, rfl, cw, hbel⟩)
          try go_wp2_with fail
          refine hK.out _ _ ?sx7_6 (fun hHeld => ?_)
          case sx7_6 => ((try dsimp only); first | exact keepB1 (by assumption) hbel | assumption)
          clear hK K
          try simp only [Act.put, List.setIfInBounds_toArray, List.set_cons_zero, List.set_cons_succ]
          refine wpAnyH_ready (rs := [2]) (by kernel_rfl) (by simp) ?_
          refine cons_at (some 70) rfl rfl (by kernel_rfl) (fun K hK => ?kx7_8) AllReadyH.nil
          go_simp
          refine hK.out _ _ ?sx7_8 (fun hHeld => ?_)
          case sx7_8 => ((try dsimp only); first | exact keepB1 (by assumption) hbel | assumption)
          clear hK K
          try simp only [Act.put, List.setIfInBounds_toArray, List.set_cons_zero, List.set_cons_succ]
          refine wpAnyH_ready (rs := [3]) (by kernel_rfl) (by simp) ?_
          refine cons_at (some 71) rfl rfl (by kernel_rfl) (fun K hK => ?kx7_10) AllReadyH.nil
          go_simp
          refine hK.out _ _ ?sx7_10 (fun hHeld => ?_)
          case sx7_10 => ((try dsimp only); first | exact keepB1 (by assumption) hbel | assumption)
          clear hK K
          try simp only [Act.put, List.setIfInBounds_toArray, List.set_cons_zero, List.set_cons_succ]
          refine take_at 7 (some 75) (v := ?vx7_11) rfl rfl (by kernel_rfl) (by kernel_rfl) (by kernel_rfl) (fun _ _ _ h => h) (Or.inl ⟨by kernel_rfl, ?yx7_11⟩) hHeld ?zx7_11
          case yx7_11 => (intro wS hSw; (try dsimp only at hSw); go_simp; (try with_reducible rfl))
          try simp only [Act.put, List.setIfInBounds_toArray, List.set_cons_zero, List.set_cons_succ]
          refine wpAnyH_done (by kernel_rfl) ?_ _
          (go_wp2; go_meet; exact ⟨rfl, Lib.hid hHeld.1⟩)
        case rest =>
          as_aux_lemma =>
          obtain ⟨rfl, hbc⟩ := hcut
          generalize wc = w5 at *
          have HX5 := Lib.hid ((hbc.out.block w4.heap.size hxl).trans HX.out)
          have HB5 := Lib.hid (HB.out.trans (hbc.out.mono HB.out.size))
          clear hbc HX HB d3 HWd hxl
          have xh := HX5.out; have x0 := cell_of_row w5 (w4.heap.size) 0 _ _ _ xh; simp at x0; have xf0 := frozen_of_row w5 (w4.heap.size) 0 _ _ xh; have x1 := cell_of_row w5 (w4.heap.size) 1 _ _ _ xh; simp at x1; have xf1 := frozen_of_row w5 (w4.heap.size) 1 _ _ xh; have x2 := cell_of_row w5 (w4.heap.size) 2 _ _ _ xh; simp at x2; have xf2 := frozen_of_row w5 (w4.heap.size) 2 _ _ xh; have x3 := cell_of_row w5 (w4.heap.size) 3 _ _ _ xh; simp at x3; have xf3 := frozen_of_row w5 (w4.heap.size) 3 _ _ xh; clear xh
          have hxl : w4.heap.size < w5.heap.size := (Array.getElem?_eq_some_iff.1 HX5.out).1
          cases hq : (tw.toList == b.toList)
          · have hne : ¬ tw.toList = b.toList := by simpa using hq
            have HE : Hid (kindN b (j + 1) = kindN b j) := Lib.hid (by rw [HKn.out, if_neg hne])
            clear HKn hne
            go_wp2
            go_roundw
            case rel => exact ⟨j + 1, by omega, by go_num, Lib.hid (by rw [HE.out]; exact HX5.out), HB5⟩
            case measure => (simp [intOf]; try omega)
          · have hne : tw.toList = b.toList := by simpa using hq
            have HE : Hid (kindN b (j + 1) = ((j + 1 : Nat) : Int)) := Lib.hid (by rw [HKn.out, if_pos hne])
            clear HKn hne
            go_wp2
            go_roundw
            case rel => exact ⟨j + 1, by omega, by go_num, Lib.hid (by rw [HE.out]; first | exact set_at HX5.out 2 _ | (have h := set_at HX5.out 2 (.int .i64 ((j + 1 : Nat) : Int)); simpa using h)), Lib.hid (HB5.out.setCell (Nat.le_refl _) _)⟩
            case measure => (simp [intOf]; try omega)
      · obtain rfl : j = 4 := by omega
        have HXe : Hid (wr.heap[w4.heap.size]? = some (.cells #[.int .i64 i0, .int .i64 i1, .int .i64 (kindS b), .int .i64 i2] 25 (0, 0))) := Lib.hid (by rw [← kindN_end]; exact HX.out)
        clear HX F3
        have HRr := Lib.hid ((HB.out.block w.heap.size (by omega)).trans HR4.out)
        have HNr := Lib.hid ((HB.out.block (w.heap.size + 1) z4).trans HN4.out)
        have HBr := Lib.hid (HB4.out.trans (HB.out.mono HB4.out.size))
        clear HB HR4 HN4 HB4
        generalize kindS b = ik at *
        cases f0
        · have HNo : Hid (PeIs s none) := Lib.hid (fun x h => by have := (HUn.out x h).2.1; cases this)
          clear HUn
          have rh := HRr.out; have r0 := cell_of_row wr (w.heap.size) 0 _ _ _ rh; simp at r0; have rf0 := frozen_of_row wr (w.heap.size) 0 _ _ rh; have r1 := cell_of_row wr (w.heap.size) 1 _ _ _ rh; simp at r1; have rf1 := frozen_of_row wr (w.heap.size) 1 _ _ rh; have r2 := cell_of_row wr (w.heap.size) 2 _ _ _ rh; simp at r2; have rf2 := frozen_of_row wr (w.heap.size) 2 _ _ rh; have r3 := cell_of_row wr (w.heap.size) 3 _ _ _ rh; simp at r3; have rf3 := frozen_of_row wr (w.heap.size) 3 _ _ rh; clear rh
          have ltr : w.heap.size < wr.heap.size := (Array.getElem?_eq_some_iff.1 HRr.out).1
          have nh := HNr.out; have n0 := cell_of_row wr (w.heap.size + 1) 0 _ _ _ nh; simp at n0; have nf0 := frozen_of_row wr (w.heap.size + 1) 0 _ _ nh; have n1 := cell_of_row wr (w.heap.size + 1) 1 _ _ _ nh; simp at n1; have nf1 := frozen_of_row wr (w.heap.size + 1) 1 _ _ nh; have n2 := cell_of_row wr (w.heap.size + 1) 2 _ _ _ nh; simp at n2; have nf2 := frozen_of_row wr (w.heap.size + 1) 2 _ _ nh; have n3 := cell_of_row wr (w.heap.size + 1) 3 _ _ _ nh; simp at n3; have nf3 := frozen_of_row wr (w.heap.size + 1) 3 _ _ nh; clear nh
          have ltn : w.heap.size + 1 < wr.heap.size := (Array.getElem?_eq_some_iff.1 HNr.out).1
          go_wp2
          refine bodyPost_ret (v := (.tuple #[.agg #[.int .i64 0, .int .i64 0, .int .i64 0, .int .i64 0], .bool false])) (by simp [results, Tryz.results10, go_sem, *]) rfl ?_
          exact ⟨none, rfl, HNo.out, ((((HBr.out.setCell (Nat.le_refl _) _).setCell (Nat.le_refl _) _).setCell (Nat.le_refl _) _).setCell (Nat.le_refl _) _)⟩
        cases f1
        · have HNo : Hid (PeIs s none) := Lib.hid (fun x h => by have := (HUn.out x h).2.2.1; cases this)
          clear HUn
          have rh := HRr.out; have r0 := cell_of_row wr (w.heap.size) 0 _ _ _ rh; simp at r0; have rf0 := frozen_of_row wr (w.heap.size) 0 _ _ rh; have r1 := cell_of_row wr (w.heap.size) 1 _ _ _ rh; simp at r1; have rf1 := frozen_of_row wr (w.heap.size) 1 _ _ rh; have r2 := cell_of_row wr (w.heap.size) 2 _ _ _ rh; simp at r2; have rf2 := frozen_of_row wr (w.heap.size) 2 _ _ rh; have r3 := cell_of_row wr (w.heap.size) 3 _ _ _ rh; simp at r3; have rf3 := frozen_of_row wr (w.heap.size) 3 _ _ rh; clear rh
          have ltr : w.heap.size < wr.heap.size := (Array.getElem?_eq_some_iff.1 HRr.out).1
          have nh := HNr.out; have n0 := cell_of_row wr (w.heap.size + 1) 0 _ _ _ nh; simp at n0; have nf0 := frozen_of_row wr (w.heap.size + 1) 0 _ _ nh; have n1 := cell_of_row wr (w.heap.size + 1) 1 _ _ _ nh; simp at n1; have nf1 := frozen_of_row wr (w.heap.size + 1) 1 _ _ nh; have n2 := cell_of_row wr (w.heap.size + 1) 2 _ _ _ nh; simp at n2; have nf2 := frozen_of_row wr (w.heap.size + 1) 2 _ _ nh; have n3 := cell_of_row wr (w.heap.size + 1) 3 _ _ _ nh; simp at n3; have nf3 := frozen_of_row wr (w.heap.size + 1) 3 _ _ nh; clear nh
          have ltn : w.heap.size + 1 < wr.heap.size := (Array.getElem?_eq_some_iff.1 HNr.out).1
          go_wp2
          refine bodyPost_ret (v := (.tuple #[.agg #[.int .i64 0, .int .i64 0, .int .i64 0, .int .i64 0], .bool false])) (by simp [results, Tryz.results10, go_sem, *]) rfl ?_
          exact ⟨none, rfl, HNo.out, ((((HBr.out.setCell (Nat.le_refl _) _).setCell (Nat.le_refl _) _).setCell (Nat.le_refl _) _).setCell (Nat.le_refl _) _)⟩
        cases f2
        · have HNo : Hid (PeIs s none) := Lib.hid (fun x h => by have := (HUn.out x h).2.2.2; cases this)
          clear HUn
          have rh := HRr.out; have r0 := cell_of_row wr (w.heap.size) 0 _ _ _ rh; simp at r0; have rf0 := frozen_of_row wr (w.heap.size) 0 _ _ rh; have r1 := cell_of_row wr (w.heap.size) 1 _ _ _ rh; simp at r1; have rf1 := frozen_of_row wr (w.heap.size) 1 _ _ rh; have r2 := cell_of_row wr (w.heap.size) 2 _ _ _ rh; simp at r2; have rf2 := frozen_of_row wr (w.heap.size) 2 _ _ rh; have r3 := cell_of_row wr (w.heap.size) 3 _ _ _ rh; simp at r3; have rf3 := frozen_of_row wr (w.heap.size) 3 _ _ rh; clear rh
          have ltr : w.heap.size < wr.heap.size := (Array.getElem?_eq_some_iff.1 HRr.out).1
          have nh := HNr.out; have n0 := cell_of_row wr (w.heap.size + 1) 0 _ _ _ nh; simp at n0; have nf0 := frozen_of_row wr (w.heap.size + 1) 0 _ _ nh; have n1 := cell_of_row wr (w.heap.size + 1) 1 _ _ _ nh; simp at n1; have nf1 := frozen_of_row wr (w.heap.size + 1) 1 _ _ nh; have n2 := cell_of_row wr (w.heap.size + 1) 2 _ _ _ nh; simp at n2; have nf2 := frozen_of_row wr (w.heap.size + 1) 2 _ _ nh; have n3 := cell_of_row wr (w.heap.size + 1) 3 _ _ _ nh; simp at n3; have nf3 := frozen_of_row wr (w.heap.size + 1) 3 _ _ nh; clear nh
          have ltn : w.heap.size + 1 < wr.heap.size := (Array.getElem?_eq_some_iff.1 HNr.out).1
          go_wp2
          refine bodyPost_ret (v := (.tuple #[.agg #[.int .i64 0, .int .i64 0, .int .i64 0, .int .i64 0], .bool false])) (by simp [results, Tryz.results10, go_sem, *]) rfl ?_
          exact ⟨none, rfl, HNo.out, ((((HBr.out.setCell (Nat.le_refl _) _).setCell (Nat.le_refl _) _).setCell (Nat.le_refl _) _).setCell (Nat.le_refl _) _)⟩
        have HU := Lib.hid (fun x h => (HUn.out x h).1)
        clear HUn
        have HOne := Lib.hid (fun w => l17One_any ⟨i0, i1, ik, i2⟩ w)
        have xh := HXe.out; have x0 := cell_of_row wr (w4.heap.size) 0 _ _ _ xh; simp at x0; have xf0 := frozen_of_row wr (w4.heap.size) 0 _ _ xh; have x1 := cell_of_row wr (w4.heap.size) 1 _ _ _ xh; simp at x1; have xf1 := frozen_of_row wr (w4.heap.size) 1 _ _ xh; have x2 := cell_of_row wr (w4.heap.size) 2 _ _ _ xh; simp at x2; have xf2 := frozen_of_row wr (w4.heap.size) 2 _ _ xh; have x3 := cell_of_row wr (w4.heap.size) 3 _ _ _ xh; simp at x3; have xf3 := frozen_of_row wr (w4.heap.size) 3 _ _ xh; clear xh
        cases hB : evB ⟨i0, i1, ik, i2⟩
        · have HNo : Hid (PeIs s none) := Lib.hid (fun x h => by
            have hx := HU.out x h
            subst hx
            rw [h.1] at hB; cases hB)
          rw [hB] at HOne
          clear HU hB
          go_wp2_with fail
          refine (HOne.out _).mono ?_
          rintro e w6 ⟨rfl, hb6⟩
          have HR6 := Lib.hid ((hb6.block w.heap.size (by omega)).trans HRr.out)
          have HN6 := Lib.hid ((hb6.block (w.heap.size + 1) (by omega)).trans HNr.out)
          have HB6 := Lib.hid (HBr.out.trans (hb6.mono HBr.out.size))
          clear hb6 x0 x1 x2 x3 xf0 xf1 xf2 xf3
          have rh := HR6.out; have r0 := cell_of_row w6 (w.heap.size) 0 _ _ _ rh; simp at r0; have rf0 := frozen_of_row w6 (w.heap.size) 0 _ _ rh; have r1 := cell_of_row w6 (w.heap.size) 1 _ _ _ rh; simp at r1; have rf1 := frozen_of_row w6 (w.heap.size) 1 _ _ rh; have r2 := cell_of_row w6 (w.heap.size) 2 _ _ _ rh; simp at r2; have rf2 := frozen_of_row w6 (w.heap.size) 2 _ _ rh; have r3 := cell_of_row w6 (w.heap.size) 3 _ _ _ rh; simp at r3; have rf3 := frozen_of_row w6 (w.heap.size) 3 _ _ rh; clear rh
          have ltr : w.heap.size < w6.heap.size := (Array.getElem?_eq_some_iff.1 HR6.out).1
          have nh := HN6.out; have n0 := cell_of_row w6 (w.heap.size + 1) 0 _ _ _ nh; simp at n0; have nf0 := frozen_of_row w6 (w.heap.size + 1) 0 _ _ nh; have n1 := cell_of_row w6 (w.heap.size + 1) 1 _ _ _ nh; simp at n1; have nf1 := frozen_of_row w6 (w.heap.size + 1) 1 _ _ nh; have n2 := cell_of_row w6 (w.heap.size + 1) 2 _ _ _ nh; simp at n2; have nf2 := frozen_of_row w6 (w.heap.size + 1) 2 _ _ nh; have n3 := cell_of_row w6 (w.heap.size + 1) 3 _ _ _ nh; simp at n3; have nf3 := frozen_of_row w6 (w.heap.size + 1) 3 _ _ nh; clear nh
          have ltn : w.heap.size + 1 < w6.heap.size := (Array.getElem?_eq_some_iff.1 HN6.out).1
          go_wp2
          refine bodyPost_ret (v := (.tuple #[.agg #[.int .i64 0, .int .i64 0, .int .i64 0, .int .i64 0], .bool false])) (by simp [results, Tryz.results10, go_sem, *]) rfl ?_
          exact ⟨none, rfl, HNo.out, ((((HB6.out.setCell (Nat.le_refl _) _).setCell (Nat.le_refl _) _).setCell (Nat.le_refl _) _).setCell (Nat.le_refl _) _)⟩
        · have HTx := Lib.hid (fun w => l17Text_any ⟨i0, i1, ik, i2⟩ w hB)
          have HYes : Hid (evT ⟨i0, i1, ik, i2⟩ = s → PeIs s (some ⟨i0, i1, ik, i2⟩)) := Lib.hid (fun h => ⟨hB, h⟩)
          have HNo : Hid (¬ evT ⟨i0, i1, ik, i2⟩ = s → PeIs s none) := Lib.hid (fun hn x h => by
            have hx := HU.out x h
            subst hx
            exact hn h.2)
          rw [hB] at HOne
          clear HU hB
          generalize evT ⟨i0, i1, ik, i2⟩ = tx at *
          go_wp2_with fail
          refine (HOne.out _).mono ?_
          rintro e w6 ⟨rfl, hb6⟩
          have HR6 := Lib.hid ((hb6.block w.heap.size (by omega)).trans HRr.out)
          have HN6 := Lib.hid ((hb6.block (w.heap.size + 1) (by omega)).trans HNr.out)
          have HX6 := Lib.hid ((hb6.block w4.heap.size hxl).trans HXe.out)
          have HB6 := Lib.hid (HBr.out.trans (hb6.mono HBr.out.size))
          have hxl6 : w4.heap.size < w6.heap.size := (Array.getElem?_eq_some_iff.1 HX6.out).1
          clear hb6 x0 x1 x2 x3 xf0 xf1 xf2 xf3 HRr HNr HXe HBr
          have xh := HX6.out; have x0 := cell_of_row w6 (w4.heap.size) 0 _ _ _ xh; simp at x0; have xf0 := frozen_of_row w6 (w4.heap.size) 0 _ _ xh; have x1 := cell_of_row w6 (w4.heap.size) 1 _ _ _ xh; simp at x1; have xf1 := frozen_of_row w6 (w4.heap.size) 1 _ _ xh; have x2 := cell_of_row w6 (w4.heap.size) 2 _ _ _ xh; simp at x2; have xf2 := frozen_of_row w6 (w4.heap.size) 2 _ _ xh; have x3 := cell_of_row w6 (w4.heap.size) 3 _ _ _ xh; simp at x3; have xf3 := frozen_of_row w6 (w4.heap.size) 3 _ _ xh; clear xh
          go_wp2_with fail
          refine (HTx.out _).mono ?_
          rintro e w7 ⟨rfl, hb7⟩
          have HR7 := Lib.hid ((hb7.block w.heap.size (by omega)).trans HR6.out)
          have HN7 := Lib.hid ((hb7.block (w.heap.size + 1) (by omega)).trans HN6.out)
          have HX7 := Lib.hid ((hb7.block w4.heap.size hxl6).trans HX6.out)
          have HB7 := Lib.hid (HB6.out.trans (hb7.mono HB6.out.size))
          clear hb7 x0 x1 x2 x3 xf0 xf1 xf2 xf3 HR6 HN6 HX6 HB6
          cases hq : (tx.toList == s.toList)
          · have HNo2 := Lib.hid (HNo.out (fun h => by rw [h] at hq; simp at hq))
            clear HYes HNo
            have rh := HR7.out; have r0 := cell_of_row w7 (w.heap.size) 0 _ _ _ rh; simp at r0; have rf0 := frozen_of_row w7 (w.heap.size) 0 _ _ rh; have r1 := cell_of_row w7 (w.heap.size) 1 _ _ _ rh; simp at r1; have rf1 := frozen_of_row w7 (w.heap.size) 1 _ _ rh; have r2 := cell_of_row w7 (w.heap.size) 2 _ _ _ rh; simp at r2; have rf2 := frozen_of_row w7 (w.heap.size) 2 _ _ rh; have r3 := cell_of_row w7 (w.heap.size) 3 _ _ _ rh; simp at r3; have rf3 := frozen_of_row w7 (w.heap.size) 3 _ _ rh; clear rh
            have ltr : w.heap.size < w7.heap.size := (Array.getElem?_eq_some_iff.1 HR7.out).1
            have nh := HN7.out; have n0 := cell_of_row w7 (w.heap.size + 1) 0 _ _ _ nh; simp at n0; have nf0 := frozen_of_row w7 (w.heap.size + 1) 0 _ _ nh; have n1 := cell_of_row w7 (w.heap.size + 1) 1 _ _ _ nh; simp at n1; have nf1 := frozen_of_row w7 (w.heap.size + 1) 1 _ _ nh; have n2 := cell_of_row w7 (w.heap.size + 1) 2 _ _ _ nh; simp at n2; have nf2 := frozen_of_row w7 (w.heap.size + 1) 2 _ _ nh; have n3 := cell_of_row w7 (w.heap.size + 1) 3 _ _ _ nh; simp at n3; have nf3 := frozen_of_row w7 (w.heap.size + 1) 3 _ _ nh; clear nh
            have ltn : w.heap.size + 1 < w7.heap.size := (Array.getElem?_eq_some_iff.1 HN7.out).1
            go_wp2
            refine bodyPost_ret (v := (.tuple #[.agg #[.int .i64 0, .int .i64 0, .int .i64 0, .int .i64 0], .bool false])) (by simp [results, Tryz.results10, go_sem, *]) rfl ?_
            exact ⟨none, rfl, HNo2.out, ((((HB7.out.setCell (Nat.le_refl _) _).setCell (Nat.le_refl _) _).setCell (Nat.le_refl _) _).setCell (Nat.le_refl _) _)⟩
          · have HYes2 := Lib.hid (HYes.out (ba_same (beq_iff_eq.1 hq)))
            clear HYes HNo
            have rh := HR7.out; have r0 := cell_of_row w7 (w.heap.size) 0 _ _ _ rh; simp at r0; have rf0 := frozen_of_row w7 (w.heap.size) 0 _ _ rh; have r1 := cell_of_row w7 (w.heap.size) 1 _ _ _ rh; simp at r1; have rf1 := frozen_of_row w7 (w.heap.size) 1 _ _ rh; have r2 := cell_of_row w7 (w.heap.size) 2 _ _ _ rh; simp at r2; have rf2 := frozen_of_row w7 (w.heap.size) 2 _ _ rh; have r3 := cell_of_row w7 (w.heap.size) 3 _ _ _ rh; simp at r3; have rf3 := frozen_of_row w7 (w.heap.size) 3 _ _ rh; clear rh
            have ltr : w.heap.size < w7.heap.size := (Array.getElem?_eq_some_iff.1 HR7.out).1
            have xh := HX7.out; have x0 := cell_of_row w7 (w4.heap.size) 0 _ _ _ xh; simp at x0; have xf0 := frozen_of_row w7 (w4.heap.size) 0 _ _ xh; have x1 := cell_of_row w7 (w4.heap.size) 1 _ _ _ xh; simp at x1; have xf1 := frozen_of_row w7 (w4.heap.size) 1 _ _ xh; have x2 := cell_of_row w7 (w4.heap.size) 2 _ _ _ xh; simp at x2; have xf2 := frozen_of_row w7 (w4.heap.size) 2 _ _ xh; have x3 := cell_of_row w7 (w4.heap.size) 3 _ _ _ xh; simp at x3; have xf3 := frozen_of_row w7 (w4.heap.size) 3 _ _ xh; clear xh
            have ltx : w4.heap.size < w7.heap.size := (Array.getElem?_eq_some_iff.1 HX7.out).1
            go_wp2
            refine bodyPost_ret (v := (.tuple #[.agg #[.int .i64 i0, .int .i64 i1, .int .i64 ik, .int .i64 i2], .bool true])) (by simp [results, Tryz.results10, go_sem, *]) rfl ?_
            exact ⟨some ⟨i0, i1, ik, i2⟩, rfl, HYes2.out, ((((HB7.out.setCell (Nat.le_refl _) _).setCell (Nat.le_refl _) _).setCell (Nat.le_refl _) _).setCell (Nat.le_refl _) _)⟩
end Go.Proofs.YtohbkohidpgjpaaGreatDoor
