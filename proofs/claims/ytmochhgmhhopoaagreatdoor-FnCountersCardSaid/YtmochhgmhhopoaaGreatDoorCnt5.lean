/- The value of a counter, the sum below a prefix: the program's and the reference's CounterOf and TotalBelow, for all lists of at most 2^30 counters. Condition: names and texts of at most 2^20 bytes. -/
import Derived.Test.YtmochhgmhhopoaaGreatDoorCnt4
namespace Go.Proofs.YtmochhgmhhopoaaGreatDoor
open Go.RowKit

def coB (xs : List Ct) (s : ByteArray) : Bool := ctB xs && nameB s
def coV (xs : List Ct) (s : ByteArray) : Int := if coB xs s = true then valN xs s.toList else 0
def toB (xs : List Ct) (s : ByteArray) : Bool := ctB xs && preB s
def toV (xs : List Ct) (s : ByteArray) : Int := if toB xs s = true then totN s.toList xs xs.length else 0
set_option maxRecDepth 100000 in
set_option maxHeartbeats 2000000 in
theorem implOf_any (v : Value) (xs : List Ct) (s : ByteArray) (w : World) (h : RdCt w v xs) (hS : ∀ x ∈ xs, x.nm.size ≤ 1048576) (hs : s.size ≤ 1048576) :
    Calls Tryz.prog 9 #[v, .string s] w fun e w' => e = .returned (.tuple #[.int .i64 (coV xs s), .bool (coB xs s)]) ∧ Below w.heap.size w w' := by
  have HT := Lib.hid (implIs_any v xs w h hS)
  have HN := Lib.hid (fun w => cname_any s w hs)
  have HR := Lib.hid h
  have hlen := h.2.1
  obtain ⟨p, cap, b, off, rfl, hcap, hp, hcell⟩ := h.parts
  have HC := Lib.hid hcell; clear hcell
  have HP := Lib.hid hp; clear hp h
  have hno : coB xs s = false → Hid (coV xs s = 0 ∧ coB xs s = false) := fun h => Lib.hid ⟨by rw [coV, h]; rfl, h⟩
  cases hB : ctB xs
  · have HV := hno (by rw [coB, hB]; rfl); clear hno
    rw [hB] at HT
    go_enter Tryz.func9, Tryz.ntmps9
    go_wp2_with fail
    refine HT.out.mono ?_
    rintro e w1 ⟨rfl, hb⟩
    have HB := Lib.hid hb; clear hb
    go_wp2
    refine bodyPost_ret (v := (.tuple #[.int .i64 0, .bool false])) (by simp [results, Tryz.results9, go_sem, *]) rfl ?_
    exact ⟨by rw [HV.out.1, HV.out.2], HB.out⟩
  · cases hI : nameB s
    · have HV := hno (by rw [coB, hI, Bool.and_false]); clear hno
      rw [hB] at HT
      rw [hI] at HN
      clear hB hI
      go_enter Tryz.func9, Tryz.ntmps9
      go_wp2_with fail
      refine HT.out.mono ?_
      rintro e w1 ⟨rfl, hb⟩
      have HB := Lib.hid hb; clear hb
      go_wp2_with fail
      refine (HN.out _).mono ?_
      rintro e w2 ⟨rfl, hb2⟩
      have HB2 := Lib.hid (HB.out.trans (hb2.mono HB.out.size)); clear hb2
      go_wp2
      refine bodyPost_ret (v := (.tuple #[.int .i64 0, .bool false])) (by simp [results, Tryz.results9, go_sem, *]) rfl ?_
      exact ⟨by rw [HV.out.1, HV.out.2], HB2.out⟩
    · have hbb : coB xs s = true := by rw [coB, hB, hI]; rfl
      obtain ⟨h12, hgood, hups⟩ := ctB_true hB
      have HV : Hid (coV xs s = valN xs s.toList ∧ coB xs s = true) := Lib.hid ⟨by rw [coV, if_pos hbb], hbb⟩
      have HVal := Lib.hid (fun w h => implVal_any (.slice p xs.length cap) xs s w h hups (by omega))
      rw [hB] at HT
      rw [hI] at HN
      clear hB hI hbb hno hgood hups
      generalize valN xs s.toList = z at HV HVal
      go_enter Tryz.func9, Tryz.ntmps9
      go_wp2_with fail
      refine HT.out.mono ?_
      rintro e w1 ⟨rfl, hb⟩
      have HB := Lib.hid hb; clear hb
      go_wp2_with fail
      refine (HN.out _).mono ?_
      rintro e w2 ⟨rfl, hb2⟩
      have HB2 := Lib.hid (HB.out.trans (hb2.mono HB.out.size)); clear hb2
      go_wp2_with fail
      refine (HVal.out _ (HR.out.below HB2.out)).mono ?_
      rintro e w3 ⟨rfl, hb3⟩
      have HB3 := Lib.hid (HB2.out.trans (hb3.mono HB2.out.size)); clear hb3
      go_wp2
      refine bodyPost_ret (v := (.tuple #[.int .i64 z, .bool true])) (by simp [results, Tryz.results9, go_sem, *]) rfl ?_
      exact ⟨by rw [HV.out.1, HV.out.2], HB3.out⟩
set_option maxRecDepth 100000 in
set_option maxHeartbeats 2000000 in
theorem implTot_any (v : Value) (xs : List Ct) (s : ByteArray) (w : World) (h : RdCt w v xs) (hS : ∀ x ∈ xs, x.nm.size ≤ 1048576) (hs : s.size ≤ 1048576) :
    Calls Tryz.prog 10 #[v, .string s] w fun e w' => e = .returned (.tuple #[.int .i64 (toV xs s), .bool (toB xs s)]) ∧ Below w.heap.size w w' := by
  have HT := Lib.hid (implIs_any v xs w h hS)
  have HN := Lib.hid (fun w => implPre_any s w hs)
  have HR := Lib.hid h
  have hlen := h.2.1
  obtain ⟨p, cap, b, off, rfl, hcap, hp, hcell⟩ := h.parts
  have HC := Lib.hid hcell; clear hcell
  have HP := Lib.hid hp; clear hp h
  have hno : toB xs s = false → Hid (toV xs s = 0 ∧ toB xs s = false) := fun h => Lib.hid ⟨by rw [toV, h]; rfl, h⟩
  cases hB : ctB xs
  · have HV := hno (by rw [toB, hB]; rfl); clear hno
    rw [hB] at HT
    go_enter Tryz.func10, Tryz.ntmps10
    go_wp2_with fail
    refine HT.out.mono ?_
    rintro e w1 ⟨rfl, hb⟩
    have HB := Lib.hid hb; clear hb
    go_wp2
    refine bodyPost_ret (v := (.tuple #[.int .i64 0, .bool false])) (by simp [results, Tryz.results10, go_sem, *]) rfl ?_
    exact ⟨by rw [HV.out.1, HV.out.2], HB.out⟩
  · cases hI : preB s
    · have HV := hno (by rw [toB, hI, Bool.and_false]); clear hno
      rw [hB] at HT
      rw [hI] at HN
      clear hB hI
      go_enter Tryz.func10, Tryz.ntmps10
      go_wp2_with fail
      refine HT.out.mono ?_
      rintro e w1 ⟨rfl, hb⟩
      have HB := Lib.hid hb; clear hb
      go_wp2_with fail
      refine (HN.out _).mono ?_
      rintro e w2 ⟨rfl, hb2⟩
      have HB2 := Lib.hid (HB.out.trans (hb2.mono HB.out.size)); clear hb2
      go_wp2
      refine bodyPost_ret (v := (.tuple #[.int .i64 0, .bool false])) (by simp [results, Tryz.results10, go_sem, *]) rfl ?_
      exact ⟨by rw [HV.out.1, HV.out.2], HB2.out⟩
    · have hbb : toB xs s = true := by rw [toB, hB, hI]; rfl
      obtain ⟨h12, hgood, hups⟩ := ctB_true hB
      have HV : Hid (toV xs s = totN s.toList xs xs.length ∧ toB xs s = true) := Lib.hid ⟨by rw [toV, if_pos hbb], hbb⟩
      have HG := Lib.hid hgood
      rw [hB] at HT
      rw [hI] at HN
      clear hB hI hbb hno hgood hups
      go_enter Tryz.func10, Tryz.ntmps10
      go_wp2_with fail
      refine HT.out.mono ?_
      rintro e w1 ⟨rfl, hb⟩
      have HB := Lib.hid hb; clear hb
      go_wp2_with fail
      refine (HN.out _).mono ?_
      rintro e w2 ⟨rfl, hb2⟩
      have HB2 := Lib.hid (HB.out.trans (hb2.mono HB.out.size)); clear hb2
      go_wp2
      go_loopw [6, 19] (fun t i wr => ∃ (k : Nat), k ≤ xs.length ∧ i = .int .i64 k ∧ t = .int .i64 (totN s.toList xs k) ∧ Hid (Below w.heap.size w wr)) (fun _ i _ => xs.length - (intOf i).toNat)
      case atStart => exact ⟨0, Nat.zero_le _, rfl, rfl, HB2⟩
      case round =>
        clear HB2 HB
        obtain ⟨k, hk, rfl, rfl, HB⟩ := hrel
        by_cases hlt : k < xs.length
        · obtain rfl := HP.out (by omega)
          obtain ⟨c1, c2⟩ := HC.out k hlt
          have c1 := cell_on HB.out c1
          have c2 := cell_on HB.out c2
          have HT1 := Lib.hid (totN_succ s.toList xs k hlt)
          have hbd := totN_bound s.toList xs HG.out k (by omega)
          have hvl := HG.out k hlt
          rw [goodCt, Bool.and_eq_true, inR_true] at hvl
          have hvl2 := hvl.2
          clear hvl
          have HBel := Lib.hid (fun w => implBelow_any xs[k].nm s w (hS _ (List.getElem_mem _)) hs)
          rw [show belB xs[k].nm.toList s.toList = belB xs[k].k s.toList from rfl] at HBel
          have hsz := HB.out.size
          generalize totN s.toList xs k = t at *
          cases hbl : belB xs[k].k s.toList
          · rw [hbl] at HBel
            rw [hbl] at HT1
            clear hbl
            go_wp2_with fail
            refine (HBel.out _).mono ?_
            rintro e w' ⟨rfl, rfl⟩
            go_wp2
            go_roundw
            case rel => exact ⟨k + 1, by omega, by go_num, by rw [HT1.out]; simp, Lib.hid (HB.out.trans ((below_alloc1 _ _).mono HB.out.size))⟩
            case measure => simp [intOf]; omega
          · rw [hbl] at HBel
            rw [hbl] at HT1
            clear hbl
            have hwr : IntKind.i64.wrap (t + xs[k].vl) = t + xs[k].vl := by rw [IntKind.wrap_i64]; omega
            go_wp2_with fail
            refine (HBel.out _).mono ?_
            rintro e w' ⟨rfl, rfl⟩
            go_wp2
            go_roundw
            case rel => exact ⟨k + 1, by omega, by go_num, by rw [HT1.out]; simp, Lib.hid (HB.out.trans ((below_alloc1 _ _).mono HB.out.size))⟩
            case measure => simp [intOf]; omega
        · obtain rfl : k = xs.length := by omega
          go_wp2
          refine bodyPost_ret (v := (.tuple #[.int .i64 (totN s.toList xs xs.length), .bool true])) (by simp [results, Tryz.results10, go_sem, *]) rfl ?_
          exact ⟨by rw [HV.out.1, HV.out.2], HB.out⟩
set_option maxRecDepth 100000 in
set_option maxHeartbeats 2000000 in
theorem specTot_any (v : Value) (xs : List Ct) (s : ByteArray) (w : World) (h : RdCt w v xs) (hS : ∀ x ∈ xs, x.nm.size ≤ 1048576) (hs : s.size ≤ 1048576) :
    Calls Tryz.prog 15 #[v, .string s] w fun e w' => e = .returned (.tuple #[.int .i64 (toV xs s), .bool (toB xs s)]) ∧ Below w.heap.size w w' := by
  have HT := Lib.hid (l18Good_any v xs w h hS)
  have HN := Lib.hid (fun w => specPre_any s w hs)
  have HR := Lib.hid h
  have hlen := h.2.1
  obtain ⟨p, cap, b, off, rfl, hcap, hp, hcell⟩ := h.parts
  have HC := Lib.hid hcell; clear hcell
  have HP := Lib.hid hp; clear hp h
  have hno : toB xs s = false → Hid (toV xs s = 0 ∧ toB xs s = false) := fun h => Lib.hid ⟨by rw [toV, h]; rfl, h⟩
  cases hB : ctB xs
  · have HV := hno (by rw [toB, hB]; rfl); clear hno
    rw [hB] at HT
    go_enter Tryz.func15, Tryz.ntmps15
    go_wp2_with fail
    refine HT.out.mono ?_
    rintro e w1 ⟨rfl, hb⟩
    have HB := Lib.hid hb; clear hb
    go_wp2
    refine bodyPost_ret (v := (.tuple #[.int .i64 0, .bool false])) (by simp [results, Tryz.results15, go_sem, *]) rfl ?_
    exact ⟨by rw [HV.out.1, HV.out.2], HB.out⟩
  · cases hI : preB s
    · have HV := hno (by rw [toB, hI, Bool.and_false]); clear hno
      rw [hB] at HT
      rw [hI] at HN
      clear hB hI
      go_enter Tryz.func15, Tryz.ntmps15
      go_wp2_with fail
      refine HT.out.mono ?_
      rintro e w1 ⟨rfl, hb⟩
      have HB := Lib.hid hb; clear hb
      go_wp2_with fail
      refine (HN.out _).mono ?_
      rintro e w2 ⟨rfl, hb2⟩
      have HB2 := Lib.hid (HB.out.trans (hb2.mono HB.out.size)); clear hb2
      go_wp2
      refine bodyPost_ret (v := (.tuple #[.int .i64 0, .bool false])) (by simp [results, Tryz.results15, go_sem, *]) rfl ?_
      exact ⟨by rw [HV.out.1, HV.out.2], HB2.out⟩
    · have hbb : toB xs s = true := by rw [toB, hB, hI]; rfl
      obtain ⟨h12, hgood, hups⟩ := ctB_true hB
      have HV : Hid (toV xs s = totN s.toList xs xs.length ∧ toB xs s = true) := Lib.hid ⟨by rw [toV, if_pos hbb], hbb⟩
      have HG := Lib.hid hgood
      rw [hB] at HT
      rw [hI] at HN
      clear hB hI hbb hno hgood hups
      go_enter Tryz.func15, Tryz.ntmps15
      go_wp2_with fail
      refine HT.out.mono ?_
      rintro e w1 ⟨rfl, hb⟩
      have HB := Lib.hid hb; clear hb
      go_wp2_with fail
      refine (HN.out _).mono ?_
      rintro e w2 ⟨rfl, hb2⟩
      have HB2 := Lib.hid (HB.out.trans (hb2.mono HB.out.size)); clear hb2
      go_wp2
      go_loopw [6, 7] (fun t i wr => ∃ (k : Nat), k ≤ xs.length ∧ i = .int .i64 k ∧ t = .int .i64 (totN s.toList xs k) ∧ Hid (Below w.heap.size w wr)) (fun _ i _ => xs.length - (intOf i).toNat)
      case atStart => exact ⟨0, Nat.zero_le _, rfl, rfl, HB2⟩
      case round =>
        clear HB2 HB
        obtain ⟨k, hk, rfl, rfl, HB⟩ := hrel
        by_cases hlt : k < xs.length
        · obtain rfl := HP.out (by omega)
          obtain ⟨c1, c2⟩ := HC.out k hlt
          have c1 := cell_on HB.out c1
          have c2 := cell_on HB.out c2
          have HT1 := Lib.hid (totN_succ s.toList xs k hlt)
          have hbd := totN_bound s.toList xs HG.out k (by omega)
          have hvl := HG.out k hlt
          rw [goodCt, Bool.and_eq_true, inR_true] at hvl
          have hvl2 := hvl.2
          clear hvl
          have HBel := Lib.hid (fun w => specBelow_any xs[k].nm s w (hS _ (List.getElem_mem _)) hs)
          rw [show belB xs[k].nm.toList s.toList = belB xs[k].k s.toList from rfl] at HBel
          have hsz := HB.out.size
          generalize totN s.toList xs k = t at *
          cases hbl : belB xs[k].k s.toList
          · rw [hbl] at HBel
            rw [hbl] at HT1
            clear hbl
            go_wp2_with fail
            refine (HBel.out _).mono ?_
            rintro e w' ⟨rfl, rfl⟩
            go_wp2
            go_roundw
            case rel => exact ⟨k + 1, by omega, by go_num, by rw [HT1.out]; simp, HB⟩
            case measure => simp [intOf]; omega
          · rw [hbl] at HBel
            rw [hbl] at HT1
            clear hbl
            have hwr : IntKind.i64.wrap (t + xs[k].vl) = t + xs[k].vl := by rw [IntKind.wrap_i64]; omega
            go_wp2_with fail
            refine (HBel.out _).mono ?_
            rintro e w' ⟨rfl, rfl⟩
            go_wp2
            go_roundw
            case rel => exact ⟨k + 1, by omega, by go_num, by rw [HT1.out]; simp, HB⟩
            case measure => simp [intOf]; omega
        · obtain rfl : k = xs.length := by omega
          go_wp2
          refine bodyPost_ret (v := (.tuple #[.int .i64 (totN s.toList xs xs.length), .bool true])) (by simp [results, Tryz.results15, go_sem, *]) rfl ?_
          exact ⟨by rw [HV.out.1, HV.out.2], HB.out⟩
end Go.Proofs.YtmochhgmhhopoaaGreatDoor
