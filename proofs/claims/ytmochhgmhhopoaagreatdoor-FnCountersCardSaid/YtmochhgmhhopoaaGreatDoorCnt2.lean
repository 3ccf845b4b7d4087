/- Prefixes, and what is below a prefix: the program's and the reference's. Condition: texts of at most 2^20 bytes. -/
import Derived.Test.YtmochhgmhhopoaaGreatDoorCnt1
namespace Go.Proofs.YtmochhgmhhopoaaGreatDoor
open Go.RowKit Go.Shelf

theorem implPre_any (s : ByteArray) (w : World) (hs : s.size ≤ 1048576) :
    Calls Tryz.prog 34 #[.string s] w fun e w' => e = .returned (.bool (preB s)) ∧ Below w.heap.size w w' := by
  have HN := Lib.hid (fun w => cname_any s w hs)
  cases he : s.toList.isEmpty
  · have HV : Hid (preB s = nameB s) := Lib.hid (by rw [preB, he, Bool.false_or])
    generalize nameB s = b at HN HV
    go_enter Tryz.func34, Tryz.ntmps34
    go_wp2_with fail
    refine (HN.out _).mono ?_
    rintro e w1 ⟨rfl, hb⟩
    go_wp2
    go_ret
    exact ⟨ret_bool HV.out.symm, hb⟩
  · have HV : Hid (preB s = true) := Lib.hid (by rw [preB, he, Bool.true_or])
    go_enter Tryz.func34, Tryz.ntmps34
    go_wp2
    go_ret
    exact ⟨ret_bool HV.out.symm, Below.refl _ _⟩
theorem specPre_any (s : ByteArray) (w : World) (hs : s.size ≤ 1048576) :
    Calls Tryz.prog 39 #[.string s] w fun e w' => e = .returned (.bool (preB s)) ∧ Below w.heap.size w w' := by
  have HN := Lib.hid (fun w => l18Name_any s w hs)
  cases he : s.toList.isEmpty
  · have HV : Hid (preB s = nameB s) := Lib.hid (by rw [preB, he, Bool.false_or])
    generalize nameB s = b at HN HV
    go_enter Tryz.func39, Tryz.ntmps39
    go_wp2_with fail
    refine (HN.out _).mono ?_
    rintro e w1 ⟨rfl, hb⟩
    go_wp2
    go_ret
    exact ⟨ret_bool HV.out.symm, hb⟩
  · have HV : Hid (preB s = true) := Lib.hid (by rw [preB, he, Bool.true_or])
    go_enter Tryz.func39, Tryz.ntmps39
    go_wp2
    go_ret
    exact ⟨ret_bool HV.out.symm, Below.refl _ _⟩
theorem isPref_snoc (p l : List UInt8) (c : UInt8) : (p ++ [c]).isPrefixOf l = (decide (p.length < l.length) && (l.take p.length == p && l[p.length]? == some c)) := by
  induction p generalizing l with
  | nil => cases l with
    | nil => rfl
    | cons x l => simp [List.isPrefixOf]; exact BEq.comm
  | cons a p ih => cases l with
    | nil => rfl
    | cons x l =>
      rw [List.cons_append, List.isPrefixOf, ih]
      by_cases h : x = a
      · subst h; simp
      · have h1 : (a == x) = false := by rw [beq_eq_false_iff_ne]; exact fun e => h e.symm
        have h2 : (x == a) = false := by rw [beq_eq_false_iff_ne]; exact h
        simp [h1, h2]
theorem bytesL (s : ByteArray) : s.toList = s.data.toList := by rw [ByteArray.toList_eq]
theorem hasPre_any (s p : ByteArray) (w : World) :
    Calls Tryz.prog 59 #[.string s, .string p] w fun e w' => e = .returned (.bool (p.data.toList.isPrefixOf s.data.toList)) ∧ w = w' := by
  refine (Any.strings_HasPrefix Tryz.lays99 s p w).mono ?_
  rintro e w' ⟨rfl, rfl⟩
  exact ⟨rfl, rfl⟩
theorem snocL (p : ByteArray) : (p ++ ⟨#[46]⟩ : ByteArray).data.toList = p.toList ++ [46] := by rw [bytesL]; simp
set_option maxRecDepth 100000 in
theorem implBelow_any (s p : ByteArray) (w : World) (_hs : s.size ≤ 1048576) (hp : p.size ≤ 1048576) :
    Calls Tryz.prog 35 #[.string s, .string p] w fun e w' => e = .returned (.bool (belB s.toList p.toList)) ∧ w = w' := by
  cases he : p.toList.isEmpty
  · cases hq : (s.toList == p.toList)
    · have HH := Lib.hid (fun w => hasPre_any s (p ++ ⟨#[46]⟩) w)
      have hE : (p.toList ++ [46]).isPrefixOf s.toList = belB s.toList p.toList := by rw [belB, he, hq, Bool.false_or, Bool.false_or]
      rw [snocL, ← bytesL s, hE] at HH
      clear hE
      generalize belB s.toList p.toList = b at HH
      go_enter Tryz.func35, Tryz.ntmps35
      go_wp2_with fail
      refine (HH.out _).mono ?_
      rintro e w' ⟨rfl, rfl⟩
      go_wp2
      go_ret
      exact ⟨rfl, rfl⟩
    · have HV : Hid (belB s.toList p.toList = true) := Lib.hid (by rw [belB, hq, Bool.true_or, Bool.or_true])
      go_enter Tryz.func35, Tryz.ntmps35
      go_wp2
      go_ret
      exact ⟨ret_bool HV.out.symm, rfl⟩
  · have HV : Hid (belB s.toList p.toList = true) := Lib.hid (by rw [belB, he, Bool.true_or])
    go_enter Tryz.func35, Tryz.ntmps35
    go_wp2
    go_ret
    exact ⟨ret_bool HV.out.symm, rfl⟩
set_option maxRecDepth 100000 in
theorem specBelow_any (s p : ByteArray) (w : World) (_hs : s.size ≤ 1048576) (_hp : p.size ≤ 1048576) :
    Calls Tryz.prog 40 #[.string s, .string p] w fun e w' => e = .returned (.bool (belB s.toList p.toList)) ∧ w = w' := by
  have hpl : p.toList.length = p.size := by rw [bytesL]; simp
  have hsl : s.toList.length = s.size := by rw [bytesL]; simp
  by_cases h0 : p.size = 0
  · have HV : Hid (belB s.toList p.toList = true) := Lib.hid (by rw [belB, List.isEmpty_iff_length_eq_zero.2 (by omega), Bool.true_or])
    go_enter Tryz.func40, Tryz.ntmps40
    go_wp2
    go_ret
    exact ⟨ret_bool HV.out.symm, rfl⟩
  · have hn0 : ((p.size : Int) == 0) = false := by rw [beq_eq_false_iff_ne]; omega
    have he : p.toList.isEmpty = false := by
      cases h : p.toList.isEmpty with
      | false => rfl
      | true => have := List.isEmpty_iff_length_eq_zero.1 h; omega
    cases hq : (s.toList == p.toList)
    · have HV : Hid (belB s.toList p.toList = (decide (p.size < s.size) && (s.toList.take p.size == p.toList && s.toList[p.size]? == some 46))) := Lib.hid (by rw [belB, he, hq, Bool.false_or, Bool.false_or, isPref_snoc, hpl, hsl])
      by_cases hlt : p.size < s.size
      · have hx : (s.extract 0 p.size).toList = s.toList.take p.size := by rw [bytesL, bytesL, extract_list]; simp
        have hg : s.toList[p.size]? = some s[p.size] := by
          rw [bytesL, List.getElem?_eq_getElem (by simpa using hlt), Array.getElem_toList]; rfl
        have HV2 : Hid (belB s.toList p.toList = ((s.extract 0 p.size).toList == p.toList && s[p.size] == 46)) := Lib.hid (by rw [HV.out, hg, decide_eq_true hlt, Bool.true_and, hx]; rfl)
        clear HV hx hg hpl hsl
        cases hz : ((s.extract 0 p.size).toList == p.toList)
        · go_enter Tryz.func40, Tryz.ntmps40
          go_wp2
          go_ret
          exact ⟨ret_bool (by rw [HV2.out, hz, Bool.false_and]), rfl⟩
        · by_cases h46 : s[p.size] = 46
          · have hi : ((s[p.size].toNat : Int) == 46) = true := by rw [h46]; rfl
            go_enter Tryz.func40, Tryz.ntmps40
            go_wp2
            go_ret
            exact ⟨ret_bool (by rw [HV2.out, hz, h46]; rfl), rfl⟩
          · have hi : ((s[p.size].toNat : Int) == 46) = false := by rw [beq_eq_false_iff_ne]; exact fun e => h46 (UInt8.toNat_inj.1 (by rw [show (46 : UInt8).toNat = 46 from rfl]; omega))
            go_enter Tryz.func40, Tryz.ntmps40
            go_wp2
            go_ret
            exact ⟨ret_bool (by rw [HV2.out, hz, Bool.true_and]; symm; rw [beq_eq_false_iff_ne]; exact h46), rfl⟩
      · go_enter Tryz.func40, Tryz.ntmps40
        go_wp2
        go_ret
        exact ⟨ret_bool (by rw [HV.out, decide_eq_false hlt, Bool.false_and]), rfl⟩
    · have HV : Hid (belB s.toList p.toList = true) := Lib.hid (by rw [belB, hq, Bool.true_or, Bool.or_true])
      go_enter Tryz.func40, Tryz.ntmps40
      go_wp2
      go_ret
      exact ⟨ret_bool HV.out.symm, rfl⟩
end Go.Proofs.YtmochhgmhhopoaaGreatDoor
