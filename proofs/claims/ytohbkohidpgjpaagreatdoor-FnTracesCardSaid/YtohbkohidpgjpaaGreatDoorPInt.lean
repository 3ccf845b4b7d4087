/- The program's ParseInt: the number that a text spells, where the text is that number's own; it is what the reference reads. Conditions: the library's table of powers and its two errors lie where they are laid; texts of at most 2^20 bytes. -/
import Derived.Test.YtohbkohidpgjpaaGreatDoorNumBack
namespace Go.Proofs.YtohbkohidpgjpaaGreatDoor
open Go.RowKit

theorem ba_same {a b : ByteArray} (h : a.toList = b.toList) : a = b := by
  rw [ByteArray.toList_eq, ByteArray.toList_eq] at h
  exact ByteArray.ext (Array.toList_inj.1 h)
theorem numI_nat (n : Nat) : numI (n : Int) = numT n := by rw [numI, if_neg (by omega)]; rfl
theorem numI_list_neg (n : Nat) (h : 0 < n) : (numI (-(n : Int))).data.toList = 45 :: Lib.decDigits n := by
  rw [numI, if_pos (by omega), show (- -(n : Int)).toNat = n from by omega, ByteArray.data_append, Array.toList_append]
  rfl
theorem numI_itoa (v : Int) : (⟨(Lib.itoa v).toArray⟩ : ByteArray) = numI v := by
  by_cases h : v < 0
  · rw [Lib.itoa, if_pos h, numI, if_pos h, show v.natAbs = (-v).toNat from by omega]
    exact ByteArray.ext (by simp [numT])
  · rw [Lib.itoa, if_neg h, numI, if_neg h]; rfl
theorem itoaI_any (v : Int) (w : World) (h0 : -1000000000 ≤ v) (h1 : v ≤ 1000000000) (ht : PowAt w) :
    Calls Tryz.prog 26 #[.int .i64 v] w fun e w' => e = .returned (.string (numI v)) ∧ Below w.heap.size w w' := by
  refine (Any.strconv_Itoa Tryz.lays171LaysM v (by omega) (by omega) w ht).mono ?_
  rintro e w' ⟨rfl, k, os, rfl⟩
  exact ⟨str_same (numI_itoa v), Lib.below_grow _ _ (Nat.le_refl _) _ _⟩
theorem dec_len1 (n : Nat) : 1 ≤ (Lib.decDigits n).length := by
  have hne := dec_ne n
  cases hx : Lib.decDigits n with
  | nil => exact absurd hx hne
  | cons b r => simp
theorem atoiO_neg (n : Nat) (h : n ≤ 1000000) : atoiO (45 :: Lib.decDigits n) = some (-(n : Int)) := by
  have hl := dec_len 6 n (by omega)
  have hb := dec_back n
  have h1 := dec_len1 n
  have e1 : (Lib.decDigits n).isEmpty = false := by
    cases hx : Lib.decDigits n with
    | nil => rw [hx] at h1; simp at h1
    | cons b r => rfl
  unfold atoiO
  rw [Lib.atoiAll_short _ (by rw [List.length_cons]; omega)]
  simp only [Lib.atoi, beq_self_eq_true, if_true, Lib.decNat, e1, hb]
  rfl
theorem readO_neg (n : Nat) (h0 : 0 < n) (h : n < 1000000) : readO (numI (-(n : Int))) = some (-(n : Int)) := by
  have hl := dec_len 5 n (by omega)
  have h1 := dec_len1 n
  have hlist := numI_list_neg n h0
  have hng : negL (45 :: Lib.decDigits n) = true := by
    rw [negL, List.head?_cons, List.length_cons, decide_eq_true (by omega)]; rfl
  have hm : magL (45 :: Lib.decDigits n) = Lib.decDigits n := by rw [magL, hng]; rfl
  rw [readO, hlist, hm, dec_back, if_pos (inR_true.2 ⟨by omega, by omega⟩), hng]
  simp only [show sgn true n = -(n : Int) from rfl, beq_self_eq_true, if_true]
theorem readO_iff (s : ByteArray) (v : Int) : readO s = some v ↔ (-999999 ≤ v ∧ v ≤ 999999) ∧ numI v = s := by
  constructor
  · intro h
    unfold readO at h
    split at h
    · rename_i hr
      rw [inR_true] at hr
      split at h
      · cases h
      · rename_i m hm
        split at h
        · rename_i he
          obtain rfl := Option.some.inj h
          have hb := Lib.decFrom_lt _ _ _ hm
          have hp : 10 ^ (magL s.data.toList).length ≤ 10 ^ 6 := Nat.pow_le_pow_right (by omega) (by omega)
          refine ⟨?_, ba_same (beq_iff_eq.1 he)⟩
          have hm6 : m < 1000000 := by omega
          unfold sgn
          split <;> omega
        · cases h
    · cases h
  · rintro ⟨⟨h0, h1⟩, rfl⟩
    by_cases hv : v < 0
    · obtain ⟨n, rfl⟩ : ∃ n : Nat, v = -(n : Int) := ⟨v.natAbs, by omega⟩
      exact readO_neg n (by omega) (by omega)
    · obtain ⟨n, rfl⟩ : ∃ n : Nat, v = (n : Int) := ⟨v.natAbs, by omega⟩
      rw [numI_nat]
      exact readO_num n (by omega)
/-- what the program's ParseInt answers -/
def pintO (s : ByteArray) : Option Int := match atoiO s.data.toList with
  | none => none
  | some v => if inR v (-999999) 999999 = true then (if ((numI v).toList == s.toList) = true then some v else none) else none
theorem pintO_iff (s : ByteArray) (v : Int) : pintO s = some v ↔ (-999999 ≤ v ∧ v ≤ 999999) ∧ numI v = s := by
  constructor
  · intro h
    unfold pintO at h
    split at h
    · cases h
    · rename_i u _
      split at h
      · rename_i hr
        split at h
        · rename_i he
          obtain rfl := Option.some.inj h
          exact ⟨inR_true.1 hr, ba_same (beq_iff_eq.1 he)⟩
        · cases h
      · cases h
  · rintro ⟨⟨h0, h1⟩, rfl⟩
    have ha : atoiO (numI v).data.toList = some v := by
      by_cases hv : v < 0
      · obtain ⟨n, rfl⟩ : ∃ n : Nat, v = -(n : Int) := ⟨v.natAbs, by omega⟩
        rw [numI_list_neg n (by omega)]
        exact atoiO_neg n (by omega)
      · obtain ⟨n, rfl⟩ : ∃ n : Nat, v = (n : Int) := ⟨v.natAbs, by omega⟩
        rw [numI_nat]
        exact atoiO_num n (by omega)
    rw [pintO, ha]
    simp only [inR_true.2 ⟨h0, h1⟩, beq_self_eq_true, if_true]
theorem pint_same (s : ByteArray) : pintO s = readO s := by
  cases h : readO s with
  | some v => exact (pintO_iff s v).2 ((readO_iff s v).1 h)
  | none =>
    cases h2 : pintO s with
    | none => rfl
    | some v =>
      have := (readO_iff s v).2 ((pintO_iff s v).1 h2)
      rw [h] at this; cases this
set_option maxRecDepth 100000 in
theorem parseInt_any (s : ByteArray) (w : World) (hs : s.size ≤ 1048576) (hP : PowAt w) (hE : ErrAt w) :
    Calls Tryz.prog 61 #[.string s] w fun e w' => e = rdEnd (readO s) ∧ Below w.heap.size w w' := by
  have HPw := Lib.hid hP; clear hP
  rw [← pint_same]
  cases hat : atoiO s.data.toList with
  | none =>
    have HAt := Lib.hid (atoi_none hat w hs hE)
    have HX : Hid (pintO s = none) := Lib.hid (by rw [pintO, hat])
    clear hat hE
    go_enter Tryz.func61, Tryz.ntmps61
    go_wp2_with fail
    refine HAt.out.mono ?_
    rintro e w1 ⟨x, t, p, rfl, hb⟩
    have HB := Lib.hid hb; clear hb
    go_wp2
    refine bodyPost_ret (v := (.tuple #[.int .i64 0, .bool false])) (by simp [results, Tryz.results61, go_sem, *]) rfl ?_
    exact ⟨by rw [HX.out]; rfl, HB.out⟩
  | some v =>
    have HAt := Lib.hid (atoi_some hat w hs)
    have HW := Lib.hid (fun w => within_any v (-999999) 999999 w)
    have HE : Hid (pintO s = if inR v (-999999) 999999 = true then (if ((numI v).toList == s.toList) = true then some v else none) else none) := Lib.hid (by rw [pintO, hat])
    clear hat hE
    cases hr : inR v (-999999) 999999
    · have HX : Hid (pintO s = none) := Lib.hid (by rw [HE.out, hr]; rfl)
      rw [hr] at HW
      go_enter Tryz.func61, Tryz.ntmps61
      go_wp2_with fail
      refine HAt.out.mono ?_
      rintro e w1 ⟨rfl, hb⟩
      have HB := Lib.hid hb; clear hb
      go_wp2_with fail
      refine (HW.out _).mono ?_
      rintro e w2 ⟨rfl, rfl⟩
      go_wp2
      refine bodyPost_ret (v := (.tuple #[.int .i64 0, .bool false])) (by simp [results, Tryz.results61, go_sem, *]) rfl ?_
      exact ⟨by rw [HX.out]; rfl, HB.out⟩
    · have hv := inR_true.1 hr
      have HI := Lib.hid (fun w h => itoaI_any v w (by omega) (by omega) h)
      rw [hr, if_pos rfl] at HE
      rw [hr] at HW
      clear hr
      cases hq : ((numI v).toList == s.toList)
      · have HX : Hid (pintO s = none) := Lib.hid (by rw [HE.out, hq]; rfl)
        go_enter Tryz.func61, Tryz.ntmps61
        go_wp2_with fail
        refine HAt.out.mono ?_
        rintro e w1 ⟨rfl, hb⟩
        have HB := Lib.hid hb; clear hb
        go_wp2_with fail
        refine (HW.out _).mono ?_
        rintro e w2 ⟨rfl, rfl⟩
        go_wp2_with fail
        refine (HI.out _ (HPw.out.below HB.out)).mono ?_
        rintro e w3 ⟨rfl, hb⟩
        have HB3 := Lib.hid (HB.out.trans (hb.mono HB.out.size)); clear hb
        go_wp2
        refine bodyPost_ret (v := (.tuple #[.int .i64 0, .bool false])) (by simp [results, Tryz.results61, go_sem, *]) rfl ?_
        exact ⟨by rw [HX.out]; rfl, HB3.out⟩
      · have HX : Hid (pintO s = some v) := Lib.hid (by rw [HE.out, hq]; rfl)
        go_enter Tryz.func61, Tryz.ntmps61
        go_wp2_with fail
        refine HAt.out.mono ?_
        rintro e w1 ⟨rfl, hb⟩
        have HB := Lib.hid hb; clear hb
        go_wp2_with fail
        refine (HW.out _).mono ?_
        rintro e w2 ⟨rfl, rfl⟩
        go_wp2_with fail
        refine (HI.out _ (HPw.out.below HB.out)).mono ?_
        rintro e w3 ⟨rfl, hb⟩
        have HB3 := Lib.hid (HB.out.trans (hb.mono HB.out.size)); clear hb
        go_wp2
        refine bodyPost_ret (v := (.tuple #[.int .i64 v, .bool true])) (by simp [results, Tryz.results61, go_sem, *]) rfl ?_
        exact ⟨by rw [HX.out]; rfl, HB3.out⟩
end Go.Proofs.YtohbkohidpgjpaaGreatDoor
