/- The reference's l1Read: the number that a text spells, where the text is that number's own (at most six digits); for every text of at most 2^20 bytes. -/
import Derived.Test.YtohbkohidpgjpaaGreatDoorNumT
import Derived.Test.YtohbkohidpgjpaaGreatDoorNum
import Derived.Lib.AtoiErr
namespace Go.Proofs.YtohbkohidpgjpaaGreatDoor
open Go.RowKit

def numI (v : Int) : ByteArray := if v < 0 then ⟨#[45]⟩ ++ numT (-v).toNat else numT v.toNat
set_option maxRecDepth 100000 in
theorem numI_any (v : Int) (w : World) (h0 : -1000000000 ≤ v) (h1 : v ≤ 1000000000) : Calls Tryz.prog 59 #[.int .i64 v] w fun e w' => e = .returned (.string (numI v)) ∧ Below w.heap.size w w' := by
  by_cases hv : v < 0
  · obtain ⟨n, rfl⟩ : ∃ n : Nat, v = -(n : Int) := ⟨v.natAbs, by omega⟩
    have HN := Lib.hid (fun w => num_any n w (by omega))
    have HV : Hid (numI (-(n : Int)) = ⟨#[45]⟩ ++ numT n) := Lib.hid (by rw [numI, if_pos hv, show (- -(n : Int)).toNat = n from by omega])
    have hsz := numT_le n
    have hw : IntKind.i64.wrap (n : Int) = n := by rw [IntKind.wrap_i64]; omega
    have hs : ¬ 9223372036854775807 < 1 + (numT n).size := by omega
    generalize numT n = t at *
    go_enter Tryz.func59, Tryz.ntmps59
    go_wp2_with fail
    refine (HN.out _).mono ?_
    rintro e w1 ⟨rfl, hb⟩
    have HB := Lib.hid hb; clear hb
    go_wp2
    go_ret
    exact ⟨str_same HV.out.symm, HB.out⟩
  · obtain ⟨n, rfl⟩ : ∃ n : Nat, v = (n : Int) := ⟨v.natAbs, by omega⟩
    rw [show numI (n : Int) = numT n from by rw [numI, if_neg hv]; rfl]
    exact num_any n w (by omega)
def negL (l : List UInt8) : Bool := decide (1 < l.length) && (l.head? == some 45)
def magL (l : List UInt8) : List UInt8 := if negL l = true then l.tail else l
def sgn (b : Bool) (m : Nat) : Int := if b = true then -(m : Int) else m
/-- what the reference reads -/
def readO (s : ByteArray) : Option Int :=
  if inR (magL s.data.toList).length 1 6 = true then
    match Lib.decFrom 0 (magL s.data.toList) with
    | none => none
    | some m => if ((numI (sgn (negL s.data.toList) m)).toList == s.toList) = true then some (sgn (negL s.data.toList) m) else none
  else none
def rdEnd (o : Option Int) : Ending := .returned (.tuple #[.int .i64 (o.getD 0), .bool o.isSome])
theorem extract_tl (s : ByteArray) (a b : Nat) : (s.extract a b).data.toList = (s.data.toList.drop a).take (b - a) := by
  rw [ByteArray.data_extract, Array.toList_extract, List.extract_eq_take_drop]
theorem negL_eq (s : ByteArray) (h : 0 < s.size) : negL s.data.toList = (decide (1 < s.size) && decide (s[0].toNat = 45)) := by
  have h0 : s.data.toList.head? = some s[0] := by rw [List.head?_eq_getElem?, List.getElem?_eq_getElem (by rw [Array.length_toList]; exact h), Array.getElem_toList]; rfl
  have h1 : s.data.toList.length = s.size := Array.length_toList
  rw [negL, h0, h1]
  congr 1
  rw [Bool.eq_iff_iff]
  simp only [beq_iff_eq, Option.some.injEq, decide_eq_true_eq]
  exact ⟨fun e => by rw [e]; rfl, fun e => UInt8.toNat_inj.1 e⟩
theorem extr_tail (s : ByteArray) (h : 0 < s.size) : s.data.toList.tail = (s.extract 1 s.size).data.toList := by
  have h1 : s.data.toList.length = s.size := Array.length_toList
  rw [extract_tl, List.drop_one]
  exact (List.take_of_length_le (by rw [List.length_tail]; omega)).symm
theorem decFrom_bad : ∀ (l : List UInt8) (acc k : Nat) (b : UInt8), l[k]? = some b → Lib.digitVal b = none → Lib.decFrom acc l = none
  | [], _, _, _, h, _ => by simp at h
  | a :: l, acc, k, b, h, hb => by
    unfold Lib.decFrom
    cases k with
    | zero =>
      simp at h
      subst h
      rw [hb]
    | succ k =>
      cases Lib.digitVal a with
      | none => rfl
      | some d => exact decFrom_bad l _ k b (by simpa using h) hb
set_option maxRecDepth 100000 in
set_option maxHeartbeats 4000000 in
theorem read_any (s : ByteArray) (w : World) (hs : s.size ≤ 1048576) :
    Calls Tryz.prog 36 #[.string s] w fun e w' => e = rdEnd (readO s) ∧ Below w.heap.size w w' := by
  have hsl : s.data.toList.length = s.size := by simp
  cases hn : negL s.data.toList
  · have HNg := Lib.hid hn
    have HM : Hid (magL s.data.toList = s.data.toList) := Lib.hid (by rw [magL, hn]; rfl)
    by_cases h1 : 1 < s.size
    · have h2 : ((s[0].toNat : Int) == 45) = false := by
        rw [negL_eq s (by omega), decide_eq_true h1, Bool.true_and, decide_eq_false_iff_not] at hn
        rw [beq_eq_false_iff_ne]
        omega
      have htl : (s).data.toList.length = (s.size) := by simp
      have HI := Lib.hid (fun w => l1In_any ((s.size : Nat) : Int) 1 6 w)
      cases hin : inR ((s.size : Nat) : Int) 1 6
      · have HV : Hid (readO s = none) := Lib.hid (by rw [readO, HM.out, show ((s).data.toList.length : Int) = ((s.size : Nat) : Int) from by rw [htl], hin]; rfl)
        rw [hin] at HI
        clear hin
        go_enter Tryz.func36, Tryz.ntmps36
        go_wp2_with fail
        refine (HI.out _).mono ?_
        rintro e w1 ⟨rfl, rfl⟩
        go_wp2
        refine bodyPost_ret (v := (.tuple #[.int .i64 0, .bool false])) (by simp [results, Tryz.results36, go_sem, *]) rfl ?_
        exact ⟨by rw [HV.out]; rfl, Below.refl _ _⟩
      · obtain ⟨hi1, hi2⟩ := inR_true.1 hin
        have HV : Hid (readO s = match Lib.decFrom 0 (s).data.toList with
          | none => none
          | some m => if ((numI (sgn false m)).toList == s.toList) = true then some (sgn false m) else none) := Lib.hid (by rw [readO, HM.out, HNg.out, show ((s).data.toList.length : Int) = ((s.size : Nat) : Int) from by rw [htl], hin]; rfl)
        rw [hin] at HI
        clear hin
        go_enter Tryz.func36, Tryz.ntmps36
        go_wp2_with fail
        refine (HI.out _).mono ?_
        rintro e w1 ⟨rfl, rfl⟩
        go_wp2
        go_loop [5, 6] (fun v i => ∃ k m : Nat, k ≤ (s.size) ∧ i = .int .i64 k ∧ v = .int .i64 m ∧ Hid (Lib.decFrom 0 ((s).data.toList.take k) = some m)) (fun _ i => (s.size) - (intOf i).toNat)
        case atStart => exact ⟨0, 0, Nat.zero_le _, rfl, rfl, Lib.hid rfl⟩
        case round =>
          obtain ⟨k, m, hk, rfl, rfl, HD⟩ := hrel
          have hm := Lib.decFrom_take_lt HD.out (by omega)
          by_cases hlt : k < (s.size)
          · have hlk : (s).data.toList[k]? = some (s)[k] := by rw [List.getElem?_eq_getElem (by omega), Array.getElem_toList]; rfl
            by_cases hd : 48 ≤ (s)[k].toNat ∧ (s)[k].toNat ≤ 57
            · have HD2 := Lib.hid (Lib.decFrom_take (s).data.toList k 0 m (s)[k] ((s)[k].toNat - 48) HD.out hlk (by rw [Lib.digitVal, if_pos hd]))
              obtain ⟨hd1, hd2⟩ := hd
              clear hlk
              have g1 : ¬ ((s)[k].toNat : Int) < 48 := by omega
              have g2 : ¬ (57 : Int) < ((s)[k].toNat : Int) := by omega
              have g3 : IntKind.u8.wrap (((s)[k].toNat : Int) - 48) = (((s)[k].toNat - 48 : Nat) : Int) := by rw [IntKind.wrap_u8]; omega
              have g5 : ((((s)[k].toNat - 48 : Nat) : Int)) = ((s)[k].toNat : Int) - 48 := by omega
              have g4 : IntKind.i64.wrap (10 * (m : Int)) = 10 * (m : Int) := by rw [IntKind.wrap_i64]; omega
              go_wp2
              go_round
              case rel => exact ⟨k + 1, m * 10 + ((s)[k].toNat - 48), by omega, by go_num, by go_num, HD2⟩
              case measure => simp [intOf]; omega
            · have HX : Hid (readO s = none) := Lib.hid (by rw [HV.out, decFrom_bad _ 0 k _ hlk (by rw [Lib.digitVal, if_neg hd])])
              by_cases hlo : ((s)[k].toNat : Int) < 48
              · go_wp2
                refine bodyPost_ret (v := (.tuple #[.int .i64 0, .bool false])) (by simp [results, Tryz.results36, go_sem, *]) rfl ?_
                exact ⟨by rw [HX.out]; rfl, Below.refl _ _⟩
              · have hhi : (57 : Int) < ((s)[k].toNat : Int) := by omega
                go_wp2
                refine bodyPost_ret (v := (.tuple #[.int .i64 0, .bool false])) (by simp [results, Tryz.results36, go_sem, *]) rfl ?_
                exact ⟨by rw [HX.out]; rfl, Below.refl _ _⟩
          · have hks : k = (s.size) := by omega
            have HDm : Hid (Lib.decFrom 0 (s).data.toList = some m) := Lib.hid (by have h := HD.out; rwa [List.take_of_length_le (by omega)] at h)
            have hm2 : m < 1000000 := by
              have h1 := Lib.decFrom_lt _ 0 m HDm.out
              have h2 : 10 ^ (s).data.toList.length ≤ 10 ^ 6 := Nat.pow_le_pow_right (by decide) (by omega)
              omega
            have hneg : IntKind.i64.wrap (-(m : Int)) = -(m : Int) := by rw [IntKind.wrap_i64]; omega
            have HN := Lib.hid (fun w => numI_any (sgn false m) w (by simp [sgn] <;> omega) (by simp [sgn] <;> omega))
            rw [show sgn false m = (m : Int) from rfl] at HN
            subst hks
            cases hc : ((numI (m : Int)).toList == s.toList)
            · have HX : Hid (readO s = none) := Lib.hid (by rw [HV.out, HDm.out]; exact if_neg (by rw [show sgn false m = (m : Int) from rfl, hc]; exact Bool.false_ne_true))
              go_wp2_with fail
              refine (HN.out _).mono ?_
              rintro e w2 ⟨rfl, hb⟩
              have HB := Lib.hid hb; clear hb
              go_wp2
              refine bodyPost_ret (v := (.tuple #[.int .i64 0, .bool false])) (by simp [results, Tryz.results36, go_sem, *]) rfl ?_
              exact ⟨by rw [HX.out]; rfl, HB.out⟩
            · have HX : Hid (readO s = some (m : Int)) := Lib.hid (by rw [HV.out, HDm.out]; exact if_pos (by rw [show sgn false m = (m : Int) from rfl, hc]))
              go_wp2_with fail
              refine (HN.out _).mono ?_
              rintro e w2 ⟨rfl, hb⟩
              have HB := Lib.hid hb; clear hb
              go_wp2
              refine bodyPost_ret (v := (.tuple #[.int .i64 (m : Int), .bool true])) (by simp [results, Tryz.results36, go_sem, *]) rfl ?_
              exact ⟨by rw [HX.out]; rfl, HB.out⟩
    · skip
      have htl : (s).data.toList.length = (s.size) := by simp
      have HI := Lib.hid (fun w => l1In_any ((s.size : Nat) : Int) 1 6 w)
      cases hin : inR ((s.size : Nat) : Int) 1 6
      · have HV : Hid (readO s = none) := Lib.hid (by rw [readO, HM.out, show ((s).data.toList.length : Int) = ((s.size : Nat) : Int) from by rw [htl], hin]; rfl)
        rw [hin] at HI
        clear hin
        go_enter Tryz.func36, Tryz.ntmps36
        go_wp2_with fail
        refine (HI.out _).mono ?_
        rintro e w1 ⟨rfl, rfl⟩
        go_wp2
        refine bodyPost_ret (v := (.tuple #[.int .i64 0, .bool false])) (by simp [results, Tryz.results36, go_sem, *]) rfl ?_
        exact ⟨by rw [HV.out]; rfl, Below.refl _ _⟩
      · obtain ⟨hi1, hi2⟩ := inR_true.1 hin
        have HV : Hid (readO s = match Lib.decFrom 0 (s).data.toList with
          | none => none
          | some m => if ((numI (sgn false m)).toList == s.toList) = true then some (sgn false m) else none) := Lib.hid (by rw [readO, HM.out, HNg.out, show ((s).data.toList.length : Int) = ((s.size : Nat) : Int) from by rw [htl], hin]; rfl)
        rw [hin] at HI
        clear hin
        go_enter Tryz.func36, Tryz.ntmps36
        go_wp2_with fail
        refine (HI.out _).mono ?_
        rintro e w1 ⟨rfl, rfl⟩
        go_wp2
        go_loop [5, 6] (fun v i => ∃ k m : Nat, k ≤ (s.size) ∧ i = .int .i64 k ∧ v = .int .i64 m ∧ Hid (Lib.decFrom 0 ((s).data.toList.take k) = some m)) (fun _ i => (s.size) - (intOf i).toNat)
        case atStart => exact ⟨0, 0, Nat.zero_le _, rfl, rfl, Lib.hid rfl⟩
        case round =>
          obtain ⟨k, m, hk, rfl, rfl, HD⟩ := hrel
          have hm := Lib.decFrom_take_lt HD.out (by omega)
          by_cases hlt : k < (s.size)
          · have hlk : (s).data.toList[k]? = some (s)[k] := by rw [List.getElem?_eq_getElem (by omega), Array.getElem_toList]; rfl
            by_cases hd : 48 ≤ (s)[k].toNat ∧ (s)[k].toNat ≤ 57
            · have HD2 := Lib.hid (Lib.decFrom_take (s).data.toList k 0 m (s)[k] ((s)[k].toNat - 48) HD.out hlk (by rw [Lib.digitVal, if_pos hd]))
              obtain ⟨hd1, hd2⟩ := hd
              clear hlk
              have g1 : ¬ ((s)[k].toNat : Int) < 48 := by omega
              have g2 : ¬ (57 : Int) < ((s)[k].toNat : Int) := by omega
              have g3 : IntKind.u8.wrap (((s)[k].toNat : Int) - 48) = (((s)[k].toNat - 48 : Nat) : Int) := by rw [IntKind.wrap_u8]; omega
              have g5 : ((((s)[k].toNat - 48 : Nat) : Int)) = ((s)[k].toNat : Int) - 48 := by omega
              have g4 : IntKind.i64.wrap (10 * (m : Int)) = 10 * (m : Int) := by rw [IntKind.wrap_i64]; omega
              go_wp2
              go_round
              case rel => exact ⟨k + 1, m * 10 + ((s)[k].toNat - 48), by omega, by go_num, by go_num, HD2⟩
              case measure => simp [intOf]; omega
            · have HX : Hid (readO s = none) := Lib.hid (by rw [HV.out, decFrom_bad _ 0 k _ hlk (by rw [Lib.digitVal, if_neg hd])])
              by_cases hlo : ((s)[k].toNat : Int) < 48
              · go_wp2
                refine bodyPost_ret (v := (.tuple #[.int .i64 0, .bool false])) (by simp [results, Tryz.results36, go_sem, *]) rfl ?_
                exact ⟨by rw [HX.out]; rfl, Below.refl _ _⟩
              · have hhi : (57 : Int) < ((s)[k].toNat : Int) := by omega
                go_wp2
                refine bodyPost_ret (v := (.tuple #[.int .i64 0, .bool false])) (by simp [results, Tryz.results36, go_sem, *]) rfl ?_
                exact ⟨by rw [HX.out]; rfl, Below.refl _ _⟩
          · have hks : k = (s.size) := by omega
            have HDm : Hid (Lib.decFrom 0 (s).data.toList = some m) := Lib.hid (by have h := HD.out; rwa [List.take_of_length_le (by omega)] at h)
            have hm2 : m < 1000000 := by
              have h1 := Lib.decFrom_lt _ 0 m HDm.out
              have h2 : 10 ^ (s).data.toList.length ≤ 10 ^ 6 := Nat.pow_le_pow_right (by decide) (by omega)
              omega
            have hneg : IntKind.i64.wrap (-(m : Int)) = -(m : Int) := by rw [IntKind.wrap_i64]; omega
            have HN := Lib.hid (fun w => numI_any (sgn false m) w (by simp [sgn] <;> omega) (by simp [sgn] <;> omega))
            rw [show sgn false m = (m : Int) from rfl] at HN
            subst hks
            cases hc : ((numI (m : Int)).toList == s.toList)
            · have HX : Hid (readO s = none) := Lib.hid (by rw [HV.out, HDm.out]; exact if_neg (by rw [show sgn false m = (m : Int) from rfl, hc]; exact Bool.false_ne_true))
              go_wp2_with fail
              refine (HN.out _).mono ?_
              rintro e w2 ⟨rfl, hb⟩
              have HB := Lib.hid hb; clear hb
              go_wp2
              refine bodyPost_ret (v := (.tuple #[.int .i64 0, .bool false])) (by simp [results, Tryz.results36, go_sem, *]) rfl ?_
              exact ⟨by rw [HX.out]; rfl, HB.out⟩
            · have HX : Hid (readO s = some (m : Int)) := Lib.hid (by rw [HV.out, HDm.out]; exact if_pos (by rw [show sgn false m = (m : Int) from rfl, hc]))
              go_wp2_with fail
              refine (HN.out _).mono ?_
              rintro e w2 ⟨rfl, hb⟩
              have HB := Lib.hid hb; clear hb
              go_wp2
              refine bodyPost_ret (v := (.tuple #[.int .i64 (m : Int), .bool true])) (by simp [results, Tryz.results36, go_sem, *]) rfl ?_
              exact ⟨by rw [HX.out]; rfl, HB.out⟩
  · have HNg := Lib.hid hn
    have h1 : 1 < s.size := by
      unfold negL at hn
      rw [Bool.and_eq_true, decide_eq_true_eq] at hn
      omega
    have h2 : ((s[0].toNat : Int) == 45) = true := by
      rw [negL_eq s (by omega), Bool.and_eq_true, decide_eq_true_eq, decide_eq_true_eq] at hn
      rw [beq_iff_eq]
      omega
    have HM : Hid (magL s.data.toList = (s.extract 1 s.size).data.toList) := Lib.hid (by rw [magL, if_pos hn, extr_tail s (by omega)])
    have hsz : (s.extract 1 s.size).size = s.size - 1 := by simp
    have htl : (s.extract 1 s.size).data.toList.length = (s.size - 1) := by simp
    have HI := Lib.hid (fun w => l1In_any ((s.size - 1 : Nat) : Int) 1 6 w)
    cases hin : inR ((s.size - 1 : Nat) : Int) 1 6
    · have HV : Hid (readO s = none) := Lib.hid (by rw [readO, HM.out, show ((s.extract 1 s.size).data.toList.length : Int) = ((s.size - 1 : Nat) : Int) from by rw [htl], hin]; rfl)
      rw [hin] at HI
      clear hin
      go_enter Tryz.func36, Tryz.ntmps36
      go_wp2_with fail
      refine (HI.out _).mono ?_
      rintro e w1 ⟨rfl, rfl⟩
      go_wp2
      refine bodyPost_ret (v := (.tuple #[.int .i64 0, .bool false])) (by simp [results, Tryz.results36, go_sem, *]) rfl ?_
      exact ⟨by rw [HV.out]; rfl, Below.refl _ _⟩
    · obtain ⟨hi1, hi2⟩ := inR_true.1 hin
      have HV : Hid (readO s = match Lib.decFrom 0 (s.extract 1 s.size).data.toList with
        | none => none
        | some m => if ((numI (sgn true m)).toList == s.toList) = true then some (sgn true m) else none) := Lib.hid (by rw [readO, HM.out, HNg.out, show ((s.extract 1 s.size).data.toList.length : Int) = ((s.size - 1 : Nat) : Int) from by rw [htl], hin]; rfl)
      rw [hin] at HI
      clear hin
      go_enter Tryz.func36, Tryz.ntmps36
      go_wp2_with fail
      refine (HI.out _).mono ?_
      rintro e w1 ⟨rfl, rfl⟩
      go_wp2
      go_loop [5, 6] (fun v i => ∃ k m : Nat, k ≤ (s.size - 1) ∧ i = .int .i64 k ∧ v = .int .i64 m ∧ Hid (Lib.decFrom 0 ((s.extract 1 s.size).data.toList.take k) = some m)) (fun _ i => (s.size - 1) - (intOf i).toNat)
      case atStart => exact ⟨0, 0, Nat.zero_le _, rfl, rfl, Lib.hid rfl⟩
      case round =>
        obtain ⟨k, m, hk, rfl, rfl, HD⟩ := hrel
        have hm := Lib.decFrom_take_lt HD.out (by omega)
        by_cases hlt : k < (s.size - 1)
        · have hlk : (s.extract 1 s.size).data.toList[k]? = some (s.extract 1 s.size)[k] := by rw [List.getElem?_eq_getElem (by omega), Array.getElem_toList]; rfl
          by_cases hd : 48 ≤ (s.extract 1 s.size)[k].toNat ∧ (s.extract 1 s.size)[k].toNat ≤ 57
          · have HD2 := Lib.hid (Lib.decFrom_take (s.extract 1 s.size).data.toList k 0 m (s.extract 1 s.size)[k] ((s.extract 1 s.size)[k].toNat - 48) HD.out hlk (by rw [Lib.digitVal, if_pos hd]))
            obtain ⟨hd1, hd2⟩ := hd
            clear hlk
            have g1 : ¬ ((s.extract 1 s.size)[k].toNat : Int) < 48 := by omega
            have g2 : ¬ (57 : Int) < ((s.extract 1 s.size)[k].toNat : Int) := by omega
            have g3 : IntKind.u8.wrap (((s.extract 1 s.size)[k].toNat : Int) - 48) = (((s.extract 1 s.size)[k].toNat - 48 : Nat) : Int) := by rw [IntKind.wrap_u8]; omega
            have g5 : ((((s.extract 1 s.size)[k].toNat - 48 : Nat) : Int)) = ((s.extract 1 s.size)[k].toNat : Int) - 48 := by omega
            have g4 : IntKind.i64.wrap (10 * (m : Int)) = 10 * (m : Int) := by rw [IntKind.wrap_i64]; omega
            go_wp2
            go_round
            case rel => exact ⟨k + 1, m * 10 + ((s.extract 1 s.size)[k].toNat - 48), by omega, by go_num, by go_num, HD2⟩
            case measure => simp [intOf]; omega
          · have HX : Hid (readO s = none) := Lib.hid (by rw [HV.out, decFrom_bad _ 0 k _ hlk (by rw [Lib.digitVal, if_neg hd])])
            by_cases hlo : ((s.extract 1 s.size)[k].toNat : Int) < 48
            · go_wp2
              refine bodyPost_ret (v := (.tuple #[.int .i64 0, .bool false])) (by simp [results, Tryz.results36, go_sem, *]) rfl ?_
              exact ⟨by rw [HX.out]; rfl, Below.refl _ _⟩
            · have hhi : (57 : Int) < ((s.extract 1 s.size)[k].toNat : Int) := by omega
              go_wp2
              refine bodyPost_ret (v := (.tuple #[.int .i64 0, .bool false])) (by simp [results, Tryz.results36, go_sem, *]) rfl ?_
              exact ⟨by rw [HX.out]; rfl, Below.refl _ _⟩
        · have hks : k = (s.size - 1) := by omega
          have HDm : Hid (Lib.decFrom 0 (s.extract 1 s.size).data.toList = some m) := Lib.hid (by have h := HD.out; rwa [List.take_of_length_le (by omega)] at h)
          have hm2 : m < 1000000 := by
            have h1 := Lib.decFrom_lt _ 0 m HDm.out
            have h2 : 10 ^ (s.extract 1 s.size).data.toList.length ≤ 10 ^ 6 := Nat.pow_le_pow_right (by decide) (by omega)
            omega
          have hneg : IntKind.i64.wrap (-(m : Int)) = -(m : Int) := by rw [IntKind.wrap_i64]; omega
          have HN := Lib.hid (fun w => numI_any (sgn true m) w (by simp [sgn] <;> omega) (by simp [sgn] <;> omega))
          rw [show sgn true m = (-(m : Int)) from rfl] at HN
          subst hks
          cases hc : ((numI (-(m : Int))).toList == s.toList)
          · have HX : Hid (readO s = none) := Lib.hid (by rw [HV.out, HDm.out]; exact if_neg (by rw [show sgn true m = (-(m : Int)) from rfl, hc]; exact Bool.false_ne_true))
            go_wp2_with fail
            refine (HN.out _).mono ?_
            rintro e w2 ⟨rfl, hb⟩
            have HB := Lib.hid hb; clear hb
            go_wp2
            refine bodyPost_ret (v := (.tuple #[.int .i64 0, .bool false])) (by simp [results, Tryz.results36, go_sem, *]) rfl ?_
            exact ⟨by rw [HX.out]; rfl, HB.out⟩
          · have HX : Hid (readO s = some (-(m : Int))) := Lib.hid (by rw [HV.out, HDm.out]; exact if_pos (by rw [show sgn true m = (-(m : Int)) from rfl, hc]))
            go_wp2_with fail
            refine (HN.out _).mono ?_
            rintro e w2 ⟨rfl, hb⟩
            have HB := Lib.hid hb; clear hb
            go_wp2
            refine bodyPost_ret (v := (.tuple #[.int .i64 (-(m : Int)), .bool true])) (by simp [results, Tryz.results36, go_sem, *]) rfl ?_
            exact ⟨by rw [HX.out]; rfl, HB.out⟩
end Go.Proofs.YtohbkohidpgjpaaGreatDoor
