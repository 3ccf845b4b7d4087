/- Contracts: the program's and the reference's TicksBetween, for all arguments. -/
import Derived.Test.YtgmccafmopgjaaaEvTicks1
import Derived.BigQuiet
namespace Go.Proofs.Ytgmccafmopgjaaa
open Go.RowKit

theorem tbV_no {xs : List Ev} {number a b : Int} (h : ¬ (tsB xs = true ∧ tbB xs number a b = true)) : tbV xs number a b = (0, false) := if_neg h
theorem tbV_none1 {xs : List Ev} {number a b : Int} (h1 : ∀ j (h : j < xs.length), 0 ≤ j → sentP number a xs[j] = false) : tbV xs number a b = (0, false) := by
  unfold tbV tbW
  rw [fiO_none h1]
  split <;> rfl
theorem tbV_none2 {xs : List Ev} {number a b : Int} {i : Nat} (h1 : FirstAt (sentP number a) xs 0 i) (h2 : ∀ j (h : j < xs.length), i ≤ j → relP number b xs[j] = false) : tbV xs number a b = (0, false) := by
  unfold tbV tbW
  rw [fiO_some h1]
  simp only [fiO_none h2]
  split <;> rfl
theorem tbV_some {xs : List Ev} {number a b : Int} {i k : Nat} (h : tsB xs = true ∧ tbB xs number a b = true) (h1 : FirstAt (sentP number a) xs 0 i) (h2 : FirstAt (relP number b) xs i k) (hi : i < xs.length) (hk : k < xs.length) : tbV xs number a b = (xs[k].t - xs[i].t, true) := by
  unfold tbV tbW
  rw [if_pos h, fiO_some h1]
  simp only [fiO_some h2]
  rw [getElem!_pos xs k hk, getElem!_pos xs i hi]
theorem rel_next {number a b : Int} {xs : List Ev} {i : Nat} (h1 : FirstAt (sentP number a) xs 0 i) : ∃ hi : i < xs.length, relP number b xs[i] = false := by
  obtain ⟨_, hi, h2, _⟩ := h1
  refine ⟨hi, ?_⟩
  simp only [sentP, decide_eq_true_eq] at h2
  simp only [relP, decide_eq_false_iff_not]
  omega
theorem rel_first {number a b : Int} {xs : List Ev} {i k : Nat} (h1 : FirstAt (sentP number a) xs 0 i) (h2 : FirstAt (relP number b) xs (i + 1) k) : FirstAt (relP number b) xs i k := by
  obtain ⟨hi, hr⟩ := rel_next (b := b) h1
  obtain ⟨a1, a2, a3, a4⟩ := h2
  refine ⟨by omega, a2, a3, fun j hj hij => ?_⟩
  by_cases he : j = i
  · subst he; exact hr
  · exact a4 j hj (by omega)
theorem rel_none {number a b : Int} {xs : List Ev} {i : Nat} (h1 : FirstAt (sentP number a) xs 0 i) (h2 : ∀ j (h : j < xs.length), i + 1 ≤ j → relP number b xs[j] = false) : ∀ j (h : j < xs.length), i ≤ j → relP number b xs[j] = false := by
  obtain ⟨hi, hr⟩ := rel_next (b := b) h1
  intro j hj hij
  by_cases he : j = i
  · subst he; exact hr
  · exact h2 j hj (by omega)

set_option maxRecDepth 100000 in
set_option maxHeartbeats 4000000 in
theorem implTicks_any (nu a b' : Int) (v : Value) (xs : List Ev) (w : World) (h : RdEv w v xs) :
    Calls Try.prog 19 #[v, .int .i64 nu, .int .i64 a, .int .i64 b'] w fun e w' => e = .returned (.tuple #[.int .i64 (tbV xs nu a b').1, .bool (tbV xs nu a b').2]) ∧ Below w.heap.size w w' := by
  have hlen := h.2
  have HR := Lib.hid h
  have HT := Lib.hid (isTrace_any v xs)
  obtain ⟨p, cap, b, off, rfl, hcap, hp, hcell⟩ := h.parts
  have HC := Lib.hid hcell; clear hcell
  have HP := Lib.hid hp; clear hp h
  cases h1 : tsB xs
  · have HV := Lib.hid (tbV_no (xs := xs) (number := nu) (a := a) (b := b') (fun h => by rw [h1] at h; cases h.1))
    rw [HV.out]
    simp only [h1] at HT
    clear HV h1
    go_enter Try.func19, Try.ntmps19
    go_wp2_with fail
    refine (HT.out _ (HR.out.below (by go_grown))).mono ?_
    rintro e w1 ⟨rfl, hb⟩
    have HB := Lib.hid (Below.trans (by go_grown) (hb.mono (by simp <;> omega)) : Below w.heap.size w w1)
    have qh := (hb.block (w.heap.size) (by simp <;> omega)).trans (a30 _ _ _ _); have q0 := cell_of_row w1 (w.heap.size) 0 _ _ _ qh; simp at q0; have qf0 := frozen_of_row w1 (w.heap.size) 0 _ _ qh; clear qh
    have rh := (hb.block (w.heap.size + 1) (by simp <;> omega)).trans (a31 _ _ _ _); have r0 := cell_of_row w1 (w.heap.size + 1) 0 _ _ _ rh; simp at r0; have rf0 := frozen_of_row w1 (w.heap.size + 1) 0 _ _ rh; clear rh
    have sh := (hb.block (w.heap.size + 1 + 1) (by simp <;> omega)).trans (a32 _ _ _ _); have s0 := cell_of_row w1 (w.heap.size + 1 + 1) 0 _ _ _ sh; simp at s0; have sf0 := frozen_of_row w1 (w.heap.size + 1 + 1) 0 _ _ sh; clear sh
    clear hb
    go_wp2
    go_ret2
    exact ⟨rfl, HB.out⟩
  simp only [h1] at HT
  cases h2 : inR nu 0 65535
  · have HV := Lib.hid (tbV_no (xs := xs) (number := nu) (a := a) (b := b') (fun h => by have h' := h.2; simp [tbB, h2] at h'))
    rw [HV.out]
    clear HV h1
    go_enter Try.func19, Try.ntmps19
    go_wp2_with fail
    refine (HT.out _ (HR.out.below (by go_grown))).mono ?_
    rintro e w1 ⟨rfl, hb⟩
    have HB := Lib.hid (Below.trans (by go_grown) (hb.mono (by simp <;> omega)) : Below w.heap.size w w1)
    have qh := (hb.block (w.heap.size) (by simp <;> omega)).trans (a30 _ _ _ _); have q0 := cell_of_row w1 (w.heap.size) 0 _ _ _ qh; simp at q0; have qf0 := frozen_of_row w1 (w.heap.size) 0 _ _ qh; clear qh
    have rh := (hb.block (w.heap.size + 1) (by simp <;> omega)).trans (a31 _ _ _ _); have r0 := cell_of_row w1 (w.heap.size + 1) 0 _ _ _ rh; simp at r0; have rf0 := frozen_of_row w1 (w.heap.size + 1) 0 _ _ rh; clear rh
    have sh := (hb.block (w.heap.size + 1 + 1) (by simp <;> omega)).trans (a32 _ _ _ _); have s0 := cell_of_row w1 (w.heap.size + 1 + 1) 0 _ _ _ sh; simp at s0; have sf0 := frozen_of_row w1 (w.heap.size + 1 + 1) 0 _ _ sh; clear sh
    clear hb
    go_wp2_with (first | (go_at_call 37; refine (isSerial_any _ _).mono ?_; rintro e w' ⟨rfl, rfl⟩) | (go_at_call 32; refine (isNode_any _ _).mono ?_; rintro e w' ⟨rfl, rfl⟩))
    go_ret2
    exact ⟨rfl, HB.out⟩
  cases h3 : inR a 0 7
  · have HV := Lib.hid (tbV_no (xs := xs) (number := nu) (a := a) (b := b') (fun h => by have h' := h.2; simp [tbB, h3] at h'))
    rw [HV.out]
    clear HV h1
    go_enter Try.func19, Try.ntmps19
    go_wp2_with fail
    refine (HT.out _ (HR.out.below (by go_grown))).mono ?_
    rintro e w1 ⟨rfl, hb⟩
    have HB := Lib.hid (Below.trans (by go_grown) (hb.mono (by simp <;> omega)) : Below w.heap.size w w1)
    have qh := (hb.block (w.heap.size) (by simp <;> omega)).trans (a30 _ _ _ _); have q0 := cell_of_row w1 (w.heap.size) 0 _ _ _ qh; simp at q0; have qf0 := frozen_of_row w1 (w.heap.size) 0 _ _ qh; clear qh
    have rh := (hb.block (w.heap.size + 1) (by simp <;> omega)).trans (a31 _ _ _ _); have r0 := cell_of_row w1 (w.heap.size + 1) 0 _ _ _ rh; simp at r0; have rf0 := frozen_of_row w1 (w.heap.size + 1) 0 _ _ rh; clear rh
    have sh := (hb.block (w.heap.size + 1 + 1) (by simp <;> omega)).trans (a32 _ _ _ _); have s0 := cell_of_row w1 (w.heap.size + 1 + 1) 0 _ _ _ sh; simp at s0; have sf0 := frozen_of_row w1 (w.heap.size + 1 + 1) 0 _ _ sh; clear sh
    clear hb
    go_wp2_with (first | (go_at_call 37; refine (isSerial_any _ _).mono ?_; rintro e w' ⟨rfl, rfl⟩) | (go_at_call 32; refine (isNode_any _ _).mono ?_; rintro e w' ⟨rfl, rfl⟩))
    go_ret2
    exact ⟨rfl, HB.out⟩
  cases h4 : inR b' 0 7
  · have HV := Lib.hid (tbV_no (xs := xs) (number := nu) (a := a) (b := b') (fun h => by have h' := h.2; simp [tbB, h4] at h'))
    rw [HV.out]
    clear HV h1
    go_enter Try.func19, Try.ntmps19
    go_wp2_with fail
    refine (HT.out _ (HR.out.below (by go_grown))).mono ?_
    rintro e w1 ⟨rfl, hb⟩
    have HB := Lib.hid (Below.trans (by go_grown) (hb.mono (by simp <;> omega)) : Below w.heap.size w w1)
    have qh := (hb.block (w.heap.size) (by simp <;> omega)).trans (a30 _ _ _ _); have q0 := cell_of_row w1 (w.heap.size) 0 _ _ _ qh; simp at q0; have qf0 := frozen_of_row w1 (w.heap.size) 0 _ _ qh; clear qh
    have rh := (hb.block (w.heap.size + 1) (by simp <;> omega)).trans (a31 _ _ _ _); have r0 := cell_of_row w1 (w.heap.size + 1) 0 _ _ _ rh; simp at r0; have rf0 := frozen_of_row w1 (w.heap.size + 1) 0 _ _ rh; clear rh
    have sh := (hb.block (w.heap.size + 1 + 1) (by simp <;> omega)).trans (a32 _ _ _ _); have s0 := cell_of_row w1 (w.heap.size + 1 + 1) 0 _ _ _ sh; simp at s0; have sf0 := frozen_of_row w1 (w.heap.size + 1 + 1) 0 _ _ sh; clear sh
    clear hb
    go_wp2_with (first | (go_at_call 37; refine (isSerial_any _ _).mono ?_; rintro e w' ⟨rfl, rfl⟩) | (go_at_call 32; refine (isNode_any _ _).mono ?_; rintro e w' ⟨rfl, rfl⟩))
    go_ret2
    exact ⟨rfl, HB.out⟩
  have HG := Lib.hid (show tsB xs = true ∧ tbB xs nu a b' = true from ⟨h1, by simp [tbB, h2, h3, h4]⟩)
  have HEv := Lib.hid (tsB_true.1 h1).2.1
  have h30 := (tsB_true.1 h1).1
  clear h1
  go_enter Try.func19, Try.ntmps19
  go_wp2_with fail
  refine (HT.out _ (HR.out.below (by go_grown))).mono ?_
  rintro e w1 ⟨rfl, hb⟩
  have HB := Lib.hid (Below.trans (by go_grown) (hb.mono (by simp <;> omega)) : Below w.heap.size w w1)
  have qh := (hb.block (w.heap.size) (by simp <;> omega)).trans (a30 _ _ _ _); have q0 := cell_of_row w1 (w.heap.size) 0 _ _ _ qh; simp at q0; have qf0 := frozen_of_row w1 (w.heap.size) 0 _ _ qh; clear qh
  have rh := (hb.block (w.heap.size + 1) (by simp <;> omega)).trans (a31 _ _ _ _); have r0 := cell_of_row w1 (w.heap.size + 1) 0 _ _ _ rh; simp at r0; have rf0 := frozen_of_row w1 (w.heap.size + 1) 0 _ _ rh; clear rh
  have sh := (hb.block (w.heap.size + 1 + 1) (by simp <;> omega)).trans (a32 _ _ _ _); have s0 := cell_of_row w1 (w.heap.size + 1 + 1) 0 _ _ _ sh; simp at s0; have sf0 := frozen_of_row w1 (w.heap.size + 1 + 1) 0 _ _ sh; clear sh
  clear hb
  go_wp2_with (first | (go_at_call 37; refine (isSerial_any _ _).mono ?_; rintro e w' ⟨rfl, rfl⟩) | (go_at_call 32; refine (isNode_any _ _).mono ?_; rintro e w' ⟨rfl, rfl⟩))
  refine (idx1_any nu a w.heap.size (w.heap.size + 1) _ xs w1 (HR.out.below HB.out) q0 r0).mono ?_
  rintro e w2 ⟨⟨x1, rfl, hx1⟩, hb2⟩
  have HB2 := Lib.hid (HB.out.trans (hb2.mono HB.out.size))
  have s2 := cell_on hb2 s0
  have q2 := cell_on hb2 q0
  have zz := hb2.size
  have z1 := World.block_lt_of_cell? w1 _ s0
  simp only at z1
  clear hb2 q0 qf0 r0 rf0 s0 sf0 HB
  rcases hx1 with ⟨rfl, h⟩ | ⟨i, rfl, hF1⟩
  · have HV := Lib.hid (tbV_none1 (xs := xs) (number := nu) (a := a) (b := b') (fun j hj _ => h j hj))
    clear h
    go_wp2
    go_ret2
    rw [HV.out]
    exact ⟨rfl, HB2.out⟩
  · have hi : i < xs.length := hF1.2.1
    have HF1 := Lib.hid hF1; clear hF1
    obtain rfl := HP.out (by omega)
    have HD := Lib.hid (RdEv.drop hcap hlen HC.out hi)
    go_wp2_with fail
    refine (idx2_any nu b' w.heap.size (w.heap.size + 1 + 1) _ (xs.drop i) w2 (HD.out.below HB2.out) q2 s2).mono ?_
    rintro e w3 ⟨⟨x2, rfl, hx2⟩, hb3⟩
    have HB3 := Lib.hid (HB2.out.trans (hb3.mono HB2.out.size)); clear hb3 q2 s2
    rcases hx2 with ⟨rfl, h⟩ | ⟨k, rfl, hF2⟩
    · have HV := Lib.hid (tbV_none2 HF1.out (none_drop h))
      clear h
      go_wp2
      go_ret2
      rw [HV.out]
      exact ⟨rfl, HB3.out⟩
    · have hF := first_drop hF2
      have hk : (i + k) < xs.length := hF.2.1
      have HV := Lib.hid (tbV_some HG.out HF1.out hF hi hk)
      clear hF hF2
      have ci := cell_on HB3.out (HC.out i hi).1
      have ck := cell_on HB3.out (HC.out (i + k) hk).1
      have e1 := evB_iff.1 (HEv.out i hi)
      have e2 := evB_iff.1 (HEv.out (i + k) hk)
      obtain ⟨⟨e3, e4⟩, _⟩ := e1
      obtain ⟨⟨e5, e6⟩, _⟩ := e2
      generalize xs[i].t = ti at *
      generalize xs[(i + k)].t = tk at *
      have w5 : IntKind.i64.wrap ((i : Int) + (k : Int)) = ((i + k : Nat) : Int) := by rw [IntKind.wrap_i64]; omega
      generalize i + k = j at *
      go_wp2
      go_quiet (fail)
      go_wp2
      go_ret2
      rw [HV.out]
      exact ⟨rfl, HB3.out.trans (below_eq ⟨_, rfl⟩)⟩

set_option maxRecDepth 100000 in
set_option maxHeartbeats 4000000 in
theorem specTicks_any (nu a b' : Int) (v : Value) (xs : List Ev) (w : World) (h : RdEv w v xs) :
    Calls Try.prog 20 #[v, .int .i64 nu, .int .i64 a, .int .i64 b'] w fun e w' => e = .returned (.tuple #[.int .i64 (tbV xs nu a b').1, .bool (tbV xs nu a b').2]) ∧ Below w.heap.size w w' := by
  have hlen := h.2
  have HR := Lib.hid h
  have HT := Lib.hid (l17Good_any v xs)
  obtain ⟨p, cap, b, off, rfl, hcap, hp, hcell⟩ := h.parts
  have HC := Lib.hid hcell; clear hcell
  have HP := Lib.hid hp; clear hp h
  cases h1 : tsB xs
  · have HV := Lib.hid (tbV_no (xs := xs) (number := nu) (a := a) (b := b') (fun h => by rw [h1] at h; cases h.1))
    rw [HV.out]
    simp only [h1] at HT
    clear HV h1
    go_enter Try.func20, Try.ntmps20
    go_wp2_with fail
    refine (HT.out _ HR.out).mono ?_
    rintro e w1 ⟨rfl, hb⟩
    have HB := Lib.hid hb; clear hb
    go_wp2
    go_ret2
    exact ⟨rfl, HB.out⟩
  simp only [h1] at HT
  cases h2 : inR nu 0 65535
  · have HV := Lib.hid (tbV_no (xs := xs) (number := nu) (a := a) (b := b') (fun h => by have h' := h.2; simp [tbB, h2] at h'))
    rw [HV.out]
    clear HV h1
    go_enter Try.func20, Try.ntmps20
    go_wp2_with fail
    refine (HT.out _ HR.out).mono ?_
    rintro e w1 ⟨rfl, hb⟩
    have HB := Lib.hid hb; clear hb
    go_wp2_with (first | (go_at_call 55; refine (l2Good_any _ _).mono ?_; rintro e w' ⟨rfl, rfl⟩) | (go_at_call 34; refine (l17Node_any _ _).mono ?_; rintro e w' ⟨rfl, rfl⟩))
    go_ret2
    exact ⟨rfl, HB.out⟩
  cases h3 : inR a 0 7
  · have HV := Lib.hid (tbV_no (xs := xs) (number := nu) (a := a) (b := b') (fun h => by have h' := h.2; simp [tbB, h3] at h'))
    rw [HV.out]
    clear HV h1
    go_enter Try.func20, Try.ntmps20
    go_wp2_with fail
    refine (HT.out _ HR.out).mono ?_
    rintro e w1 ⟨rfl, hb⟩
    have HB := Lib.hid hb; clear hb
    go_wp2_with (first | (go_at_call 55; refine (l2Good_any _ _).mono ?_; rintro e w' ⟨rfl, rfl⟩) | (go_at_call 34; refine (l17Node_any _ _).mono ?_; rintro e w' ⟨rfl, rfl⟩))
    go_ret2
    exact ⟨rfl, HB.out⟩
  cases h4 : inR b' 0 7
  · have HV := Lib.hid (tbV_no (xs := xs) (number := nu) (a := a) (b := b') (fun h => by have h' := h.2; simp [tbB, h4] at h'))
    rw [HV.out]
    clear HV h1
    go_enter Try.func20, Try.ntmps20
    go_wp2_with fail
    refine (HT.out _ HR.out).mono ?_
    rintro e w1 ⟨rfl, hb⟩
    have HB := Lib.hid hb; clear hb
    go_wp2_with (first | (go_at_call 55; refine (l2Good_any _ _).mono ?_; rintro e w' ⟨rfl, rfl⟩) | (go_at_call 34; refine (l17Node_any _ _).mono ?_; rintro e w' ⟨rfl, rfl⟩))
    go_ret2
    exact ⟨rfl, HB.out⟩
  have HG := Lib.hid (show tsB xs = true ∧ tbB xs nu a b' = true from ⟨h1, by simp [tbB, h2, h3, h4]⟩)
  have HEv := Lib.hid (tsB_true.1 h1).2.1
  have h30 := (tsB_true.1 h1).1
  clear h1
  go_enter Try.func20, Try.ntmps20
  go_wp2_with fail
  refine (HT.out _ HR.out).mono ?_
  rintro e w1 ⟨rfl, hb⟩
  have HB := Lib.hid hb; clear hb
  go_wp2_with (first | (go_at_call 55; refine (l2Good_any _ _).mono ?_; rintro e w' ⟨rfl, rfl⟩) | (go_at_call 34; refine (l17Node_any _ _).mono ?_; rintro e w' ⟨rfl, rfl⟩))
  refine (first1_any nu a 0 _ xs w1 (HR.out.below HB.out) (Nat.zero_le _)).mono ?_
  rintro e w2 ⟨⟨x1, rfl, hx1⟩, rfl⟩
  have HB2 := HB; clear HB
  rcases hx1 with ⟨rfl, h⟩ | ⟨i, rfl, hF1⟩
  · have HV := Lib.hid (tbV_none1 (xs := xs) (number := nu) (a := a) (b := b') (h))
    clear h
    go_wp2
    go_ret2
    rw [HV.out]
    exact ⟨rfl, HB2.out⟩
  · have hi : i < xs.length := hF1.2.1
    have HF1 := Lib.hid hF1; clear hF1
    obtain rfl := HP.out (by omega)
    go_wp2_with fail
    refine (first2_any nu b' (i + 1) _ xs w1 (HR.out.below HB2.out) (by omega)).mono ?_
    rintro e w3 ⟨⟨x2, rfl, hx2⟩, rfl⟩
    have HB3 := HB2
    rcases hx2 with ⟨rfl, h⟩ | ⟨k, rfl, hF2⟩
    · have HV := Lib.hid (tbV_none2 HF1.out (rel_none HF1.out h))
      clear h
      go_wp2
      go_ret2
      rw [HV.out]
      exact ⟨rfl, HB3.out⟩
    · have hF := rel_first HF1.out hF2
      have hk : k < xs.length := hF.2.1
      have HV := Lib.hid (tbV_some HG.out HF1.out hF hi hk)
      clear hF hF2
      have ci := cell_on HB3.out (HC.out i hi).1
      have ck := cell_on HB3.out (HC.out k hk).1
      have e1 := evB_iff.1 (HEv.out i hi)
      have e2 := evB_iff.1 (HEv.out k hk)
      obtain ⟨⟨e3, e4⟩, _⟩ := e1
      obtain ⟨⟨e5, e6⟩, _⟩ := e2
      generalize xs[i].t = ti at *
      generalize xs[k].t = tk at *
      go_wp2
      go_quiet (fail)
      go_wp2
      go_ret2
      rw [HV.out]
      exact ⟨rfl, HB3.out.trans (below_eq ⟨_, rfl⟩)⟩
end Go.Proofs.Ytgmccafmopgjaaa
