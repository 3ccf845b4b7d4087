/- Counters found by name: the program's search in halves, the reference's from the left; values and sums of them. Condition: names and texts of at most 2^20 bytes. -/
import Derived.Test.YtmochhgmhhopoaaGreatDoorCnt3
namespace Go.Proofs.YtmochhgmhhopoaaGreatDoor
open Go.RowKit Go.Shelf

theorem cmpS_any (a b : ByteArray) (w : World) : Calls Tryz.prog 80 #[.string a, .string b] w fun e w' => e = .returned (.int .i64 (Lib.compareBytes a.toList b.toList)) ∧ w = w' := by
  refine (Any.strings_Compare Tryz.lays106 a b w).mono ?_
  rintro e w' ⟨rfl, rfl⟩
  exact ⟨by rw [bytesL, bytesL], rfl⟩
theorem cmpCt_any (x : Ct) (s : ByteArray) (w : World) : Calls Tryz.prog 79 #[x.v, .string s] w fun e w' => e = .returned (.int .i64 (Lib.compareBytes x.k s.toList)) ∧ Below w.heap.size w w' := by
  obtain ⟨nm, vl⟩ := x
  have H := Lib.hid (fun w => cmpS_any nm s w)
  go_enter Tryz.func79, Tryz.ntmps79
  go_wp2_with fail
  refine (H.out _).mono ?_
  rintro e w' ⟨rfl, rfl⟩
  go_wp2
  go_ret
  exact ⟨rfl, by go_grown⟩
theorem half_lt {lo hi : Nat} (h : lo < hi) : lo ≤ (lo + hi) / 2 ∧ (lo + hi) / 2 < hi := by omega
/-- what the search in halves keeps -/
def HalfAt (xs : List Ct) (s : List UInt8) (lo hi : Nat) : Prop := lo ≤ hi ∧ hi ≤ xs.length ∧ (∀ j (h : j < xs.length), j < lo → Op.bytesLess xs[j].k s = true) ∧ (∀ j (h : j < xs.length), hi ≤ j → Op.bytesLess xs[j].k s = false)
theorem HalfAt.up {xs : List Ct} {s : List UInt8} {lo hi m : Nat} (h : HalfAt xs s lo hi) (hu : Ups xs) (h2 : m < hi) (hm : m < xs.length) (hl : Op.bytesLess xs[m].k s = true) : HalfAt xs s (m + 1) hi := by
  refine ⟨by omega, h.2.1, fun j hj hjm => ?_, h.2.2.2⟩
  by_cases he : j = m
  · subst he; exact hl
  · exact bl_trans (hu.lt j m (by omega) hm) hl
theorem HalfAt.down {xs : List Ct} {s : List UInt8} {lo hi m : Nat} (h : HalfAt xs s lo hi) (hu : Ups xs) (h1 : lo ≤ m) (hm : m < xs.length) (hl : Op.bytesLess xs[m].k s = false) : HalfAt xs s lo m := by
  refine ⟨h1, by omega, h.2.2.1, fun j hj hjm => ?_⟩
  by_cases he : j = m
  · subst he; exact hl
  · cases hb : Op.bytesLess xs[j].k s with
    | false => rfl
    | true => rw [bl_trans (hu.lt m j (by omega) hj) hb] at hl; cases hl
theorem HalfAt.pos {xs : List Ct} {s : List UInt8} {lo : Nat} (h : HalfAt xs s lo lo) : posN xs s = lo :=
  posN_eq xs s lo h.2.1 (fun j hj hl => h.2.2.1 j hj hl) (fun hl => h.2.2.2 lo hl (Nat.le_refl _))
theorem hitB_at {xs : List Ct} {s : List UInt8} {lo : Nat} (h : posN xs s = lo) (hlo : lo < xs.length) : hitB xs s = decide (Lib.compareBytes xs[lo].k s = 0) := by
  subst h
  rw [cmp_zero, hitB, List.getElem?_eq_getElem hlo]
theorem hitB_out {xs : List Ct} {s : List UInt8} {lo : Nat} (h : posN xs s = lo) (hlo : ¬ lo < xs.length) : hitB xs s = false := by
  subst h
  rw [hitB, List.getElem?_eq_none (by omega)]
set_option maxRecDepth 100000 in
set_option maxHeartbeats 2000000 in
theorem bsearch_any (v : Value) (xs : List Ct) (s : ByteArray) (w : World) (h : RdCt w v xs) (hu : Ups xs) (hl : xs.length ≤ 1000) :
    Calls Tryz.prog 78 #[v, .string s, .func (.func 79) #[] #[]] w fun e w' => e = .returned (.tuple #[.int .i64 (posN xs s.toList), .bool (hitB xs s.toList)]) ∧ Below w.heap.size w w' := by
  obtain ⟨p, cap, b, off, rfl, hcap, hp, hcell⟩ := h.parts
  have HC := Lib.hid hcell; clear hcell
  have HP := Lib.hid hp; clear hp h
  have HU := Lib.hid hu; clear hu
  go_enter Tryz.func78, Tryz.ntmps78
  go_wp2
  go_loopw [9, 10] (fun i j wr => ∃ (lo hi : Nat), lo ≤ hi ∧ hi ≤ xs.length ∧ i = .int .i64 lo ∧ j = .int .i64 hi ∧ Hid (Below w.heap.size w wr) ∧ Hid (HalfAt xs s.toList lo hi))
    (fun i j _ => (intOf j).toNat - (intOf i).toNat)
  case atStart => exact ⟨0, xs.length, Nat.zero_le _, Nat.le_refl _, rfl, rfl, Lib.hid (Below.refl _ _), Lib.hid ⟨Nat.zero_le _, Nat.le_refl _, fun j _ h => absurd h (by omega), fun j h h2 => absurd h2 (by omega)⟩⟩
  case round =>
    obtain ⟨lo, hi, hlh, hhn, rfl, rfl, HB, HH⟩ := hrel
    by_cases hlt : lo < hi
    · obtain rfl := HP.out (by omega)
      obtain ⟨hm1, hm2⟩ := half_lt hlt
      obtain ⟨m, hm⟩ : ∃ m, m = (lo + hi) / 2 := ⟨_, rfl⟩
      rw [← hm] at hm1 hm2
      have hmn : m < xs.length := by omega
      obtain ⟨c1, c2⟩ := HC.out m hmn
      have c1 := cell_on HB.out c1
      have c2 := cell_on HB.out c2
      have HT := Lib.hid (fun w => cmpCt_any ⟨xs[m].nm, xs[m].vl⟩ s w)
      have hneg := cmp_neg xs[m].k s.toList
      have hrg := cmp_range xs[m].k s.toList
      rw [show Lib.compareBytes (Ct.k ⟨xs[m].nm, xs[m].vl⟩) s.toList = Lib.compareBytes xs[m].k s.toList from rfl] at HT
      have hdiv : ((lo : Int) + hi) / 2 = m := by omega
      have HUp := Lib.hid (fun hl => HH.out.up HU.out hm2 hmn hl)
      have HDn := Lib.hid (fun hl => HH.out.down HU.out hm1 hmn hl)
      generalize Lib.compareBytes xs[m].k s.toList = c at HT hneg hrg
      clear hm
      by_cases hc : c < 0
      · have HE := Lib.hid (HUp.out (by rw [← hneg]; exact decide_eq_true hc))
        clear HUp HDn hneg
        go_wp2_with fail
        refine (HT.out _).mono ?_
        rintro e w2 ⟨rfl, hb2⟩
        have HB2 := Lib.hid (HB.out.trans (hb2.mono HB.out.size)); clear hb2
        go_wp2
        go_roundw
        case rel => exact ⟨m + 1, hi, by omega, by omega, by go_num, rfl, HB2, HE⟩
        case measure => simp [intOf]; omega
      · have HE := Lib.hid (HDn.out (by rw [← hneg]; exact decide_eq_false hc))
        clear HUp HDn hneg
        go_wp2_with fail
        refine (HT.out _).mono ?_
        rintro e w2 ⟨rfl, hb2⟩
        have HB2 := Lib.hid (HB.out.trans (hb2.mono HB.out.size)); clear hb2
        go_wp2
        go_roundw
        case rel => exact ⟨lo, m, by omega, by omega, rfl, rfl, HB2, HE⟩
        case measure => simp [intOf]; omega
    · obtain rfl : hi = lo := by omega
      have HPos := Lib.hid HH.out.pos
      by_cases hln : hi < xs.length
      · obtain rfl := HP.out (by omega)
        obtain ⟨c1, c2⟩ := HC.out hi hln
        have c1 := cell_on HB.out c1
        have c2 := cell_on HB.out c2
        have HT := Lib.hid (fun w => cmpCt_any ⟨xs[hi].nm, xs[hi].vl⟩ s w)
        have HBt := Lib.hid (hitB_at HPos.out hln)
        rw [show Lib.compareBytes (Ct.k ⟨xs[hi].nm, xs[hi].vl⟩) s.toList = Lib.compareBytes xs[hi].k s.toList from rfl] at HT
        generalize Lib.compareBytes xs[hi].k s.toList = c at HT HBt
        by_cases hc : c = 0
        · subst hc
          go_wp2_with fail
          refine (HT.out _).mono ?_
          rintro e w2 ⟨rfl, hb2⟩
          have HB2 := Lib.hid (HB.out.trans (hb2.mono HB.out.size)); clear hb2
          go_wp2
          refine bodyPost_ret (v := (.tuple #[.int .i64 hi, .bool true])) (by simp [results, Tryz.results78, go_sem, *]) rfl ?_
          exact ⟨by rw [HPos.out, HBt.out]; rfl, HB2.out⟩
        · have hcf : (c == 0) = false := by rw [beq_eq_false_iff_ne]; exact hc
          go_wp2_with fail
          refine (HT.out _).mono ?_
          rintro e w2 ⟨rfl, hb2⟩
          have HB2 := Lib.hid (HB.out.trans (hb2.mono HB.out.size)); clear hb2
          go_wp2
          refine bodyPost_ret (v := (.tuple #[.int .i64 hi, .bool false])) (by simp [results, Tryz.results78, go_sem, *]) rfl ?_
          exact ⟨by rw [HPos.out, HBt.out, decide_eq_false hc], HB2.out⟩
      · have HBt := Lib.hid (hitB_out HPos.out hln)
        go_wp2
        refine bodyPost_ret (v := (.tuple #[.int .i64 hi, .bool false])) (by simp [results, Tryz.results78, go_sem, *]) rfl ?_
        exact ⟨by rw [HPos.out, HBt.out], HB.out⟩
theorem find_any (v : Value) (xs : List Ct) (s : ByteArray) (w : World) (h : RdCt w v xs) (hu : Ups xs) (hl : xs.length ≤ 1000) :
    Calls Tryz.prog 56 #[v, .string s] w fun e w' => e = .returned (.tuple #[.int .i64 (posN xs s.toList), .bool (hitB xs s.toList)]) ∧ Below w.heap.size w w' := by
  have H := Lib.hid (bsearch_any v xs s w h hu hl)
  obtain ⟨p, cap, b, off, rfl, _⟩ := h.parts
  clear h
  go_enter Tryz.func56, Tryz.ntmps56
  go_wp2_with fail
  refine H.out.mono ?_
  rintro e w1 ⟨rfl, hb⟩
  have HB := Lib.hid hb; clear hb
  go_wp2
  refine bodyPost_ret (v := (.tuple #[.int .i64 (posN xs s.toList), .bool (hitB xs s.toList)])) (by simp [results, Tryz.results56, go_sem, *]) rfl ?_
  exact ⟨rfl, HB.out⟩
theorem implVal_any (v : Value) (xs : List Ct) (s : ByteArray) (w : World) (h : RdCt w v xs) (hu : Ups xs) (hl : xs.length ≤ 1000) :
    Calls Tryz.prog 33 #[v, .string s] w fun e w' => e = .returned (.int .i64 (valN xs s.toList)) ∧ Below w.heap.size w w' := by
  have H := Lib.hid (find_any v xs s w h hu hl)
  obtain ⟨p, cap, b, off, rfl, _, hp, hcell⟩ := h.parts
  have HC := Lib.hid hcell; clear hcell
  clear h
  have hpl := posN_le xs s.toList
  cases hb : hitB xs s.toList
  · have HV : Hid (valN xs s.toList = 0) := Lib.hid (valN_miss hu (fun hlt he => by rw [hitB_true.2 ⟨hlt, he⟩] at hb; cases hb))
    rw [hb] at H
    clear hb hp
    generalize posN xs s.toList = q at H hpl
    go_enter Tryz.func33, Tryz.ntmps33
    go_wp2_with fail
    refine H.out.mono ?_
    rintro e w1 ⟨rfl, hb⟩
    have HB := Lib.hid hb; clear hb
    go_wp2
    go_ret
    exact ⟨ret_int HV.out.symm, HB.out⟩
  · obtain ⟨hlt, he⟩ := hitB_true.1 hb
    have HV : Hid (valN xs s.toList = xs[posN xs s.toList].vl) := Lib.hid (valN_hit hlt he)
    obtain rfl := hp (by omega)
    obtain ⟨c1, c2⟩ := HC.out _ hlt
    rw [hb] at H
    clear hb he HC
    generalize posN xs s.toList = q at H hpl hlt HV c1 c2
    have C2 := Lib.hid c2; clear c1 c2
    go_enter Tryz.func33, Tryz.ntmps33
    go_wp2_with fail
    refine H.out.mono ?_
    rintro e w1 ⟨rfl, hb⟩
    have c3 := cell_on hb C2.out
    have HB := Lib.hid hb; clear hb
    go_wp2
    go_ret
    exact ⟨ret_int HV.out.symm, HB.out⟩
end Go.Proofs.YtmochhgmhhopoaaGreatDoor
