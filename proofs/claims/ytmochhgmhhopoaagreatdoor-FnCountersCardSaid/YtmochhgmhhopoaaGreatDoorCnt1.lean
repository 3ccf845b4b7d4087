/- The names of counters, prefixes, what is below a prefix: the program's and the reference's. Condition: texts of at most 2^20 bytes. -/
import Derived.Test.YtmochhgmhhopoaaGreatDoorCnt0
import Derived.Test.YtmochhgmhhopoaaGreatDoorCntMath
import Derived.Test.YtmochhgmhhopoaaGreatDoorScr9
namespace Go.Proofs.YtmochhgmhhopoaaGreatDoor
open Go.RowKit Go.Shelf

set_option maxRecDepth 100000 in
set_option maxHeartbeats 1000000 in
theorem cname_any (s : ByteArray) (w : World) (hs : s.size ≤ 1048576) :
    Calls Tryz.prog 26 #[.string s] w fun e w' => e = .returned (.bool (nameB s)) ∧ Below w.heap.size w w' := by
  have HSp := Lib.hid (split1_any s 46 w hs)
  go_enter Tryz.func26, Tryz.ntmps26
  go_wp2_with fail
  refine HSp.out.mono ?_
  rintro e w1 ⟨v, xs, rfl, hxs, ho, hb1⟩
  have HN := Lib.hid (nameB_parts hxs)
  have HOK := Lib.hid (parts_ok hxs hs)
  have hlen := HOK.out.1
  obtain ⟨p, cap, b, off, rfl, hcap, hp, hcell⟩ := ho.rd.parts
  clear ho hxs HSp
  have HC := Lib.hid hcell; clear hcell
  have HP := Lib.hid hp; clear hp
  have HB1 := Lib.hid hb1; clear hb1
  go_wp2
  go_loopw [8] (fun i wr => ∃ (k : Nat), k ≤ xs.length ∧ i = .int .i64 k ∧ Below w1.heap.size w1 wr ∧ Hid (∀ j (h : j < xs.length), j < k → partB xs[j] = true))
    (fun i _ => xs.length - (intOf i).toNat)
  case atStart => exact ⟨0, Nat.zero_le _, rfl, Below.refl _ _, Lib.hid fun j _ h => absurd h (by omega)⟩
  case round =>
    obtain ⟨k, hk, rfl, hb, HF⟩ := hrel
    by_cases hlt : k < xs.length
    · obtain rfl := HP.out (by omega)
      have c1 := cell_on hb (HC.out k hlt)
      have HT := Lib.hid (fun w => trim_any xs[k] w (HOK.out.2.1 _ (List.getElem_mem _)))
      have HG : Hid (partB xs[k] = true → ∀ j (h : j < xs.length), j < k + 1 → partB xs[j] = true) := Lib.hid (fun hp j h hj => by
        by_cases he : j = k
        · subst he; exact hp
        · exact HF.out j h (by omega))
      have HV : Hid (partB xs[k] = false → nameB s = false) := Lib.hid (fun hp => by rw [HN.out, all_bad k hlt hp, Bool.and_false])
      have HPd : Hid (partB xs[k] = (!xs[k].toList.isEmpty && letB xs[k])) := Lib.hid rfl
      generalize xs[k] = x at c1 HT HG HV HPd
      cases he : x.toList.isEmpty
      · cases hl : letB x
        · have HE : Hid (nameB s = false) := Lib.hid (HV.out (by rw [HPd.out, hl, Bool.and_false]))
          rw [hl] at HT
          clear hl HG HV HPd
          go_wp2_with fail
          refine (HT.out _).mono ?_
          rintro e w2 ⟨r, rfl, hr, hb2⟩
          go_wp2
          go_ret
          exact ⟨ret_bool HE.out.symm, HB1.out.trans ((hb.trans (hb2.mono hb.size)).mono HB1.out.size)⟩
        · have HE : Hid (partB x = true) := Lib.hid (by rw [HPd.out, hl, he]; rfl)
          rw [hl] at HT
          clear hl HV HPd
          go_wp2_with fail
          refine (HT.out _).mono ?_
          rintro e w2 ⟨r, rfl, hr, hb2⟩
          go_wp2
          go_roundw
          case rel => exact ⟨k + 1, by omega, by go_num, hb.trans (hb2.mono hb.size), Lib.hid (HG.out HE.out)⟩
          case measure => simp [intOf]; omega
      · have HE : Hid (nameB s = false) := Lib.hid (HV.out (by rw [HPd.out, he]; rfl))
        clear HG HV HPd HT
        go_wp2
        go_ret
        exact ⟨ret_bool HE.out.symm, HB1.out.trans (hb.mono HB1.out.size)⟩
    · have HX : Hid (nameB s = decide (s.size ≤ 20)) := Lib.hid (by rw [HN.out, all_good fun j h => HF.out j h (by omega), Bool.and_true])
      go_wp2
      go_ret
      exact ⟨ret_bool (by rw [HX.out]; congr 1; exact propext (by omega)), HB1.out.trans (hb.mono HB1.out.size)⟩
theorem isCount_any (x : Int) (w : World) : Calls Tryz.prog 27 #[.int .i64 x] w fun e w' => e = .returned (.bool (inR x 0 1000000)) ∧ w = w' := by
  go_enter Tryz.func27, Tryz.ntmps27
  go_wp2_with ((go_at_call 55; refine (within_any _ _ _ _).mono ?_; rintro e w' ⟨rfl, rfl⟩))
  go_ret
  exact ⟨rfl, rfl⟩
theorem letB_prefix {x : ByteArray} (h : ∀ k (hk : k < x.size), 97 ≤ x[k].toNat ∧ x[k].toNat ≤ 122) : letB x = true := letB_true h
set_option maxRecDepth 100000 in
set_option maxHeartbeats 2000000 in
theorem l18Name_any (s : ByteArray) (w : World) (hs : s.size ≤ 1048576) :
    Calls Tryz.prog 58 #[.string s] w fun e w' => e = .returned (.bool (nameB s)) ∧ Below w.heap.size w w' := by
  have HSp := Lib.hid (l1Split_any s 46 w hs)
  go_enter Tryz.func58, Tryz.ntmps58
  go_wp2_with fail
  refine HSp.out.mono ?_
  rintro e w1 ⟨v, xs, rfl, hxs, ho, hb1⟩
  have HN := Lib.hid (nameB_parts hxs)
  have HOK := Lib.hid (parts_ok hxs hs)
  have hlen := HOK.out.1
  obtain ⟨p, cap, b, off, rfl, hcap, hp, hcell⟩ := ho.rd.parts
  clear ho hxs HSp
  have HC := Lib.hid hcell; clear hcell
  have HP := Lib.hid hp; clear hp
  have HB1 := Lib.hid hb1; clear hb1
  go_wp2
  go_loopw [4, 5] (fun i _ wr => ∃ (k : Nat), k ≤ xs.length ∧ i = .int .i64 k ∧ w1 = wr ∧ Hid (∀ j (h : j < xs.length), j < k → partB xs[j] = true))
    (fun i _ _ => xs.length - (intOf i).toNat)
  case atStart => exact ⟨0, Nat.zero_le _, rfl, rfl, Lib.hid fun j _ h => absurd h (by omega)⟩
  case round =>
    obtain ⟨k, hk, rfl, rfl, HF⟩ := hrel
    by_cases hlt : k < xs.length
    · obtain rfl := HP.out (by omega)
      have c1 := HC.out k hlt
      have hxs := HOK.out.2.1 _ (List.getElem_mem hlt)
      have HG : Hid (partB xs[k] = true → ∀ j (h : j < xs.length), j < k + 1 → partB xs[j] = true) := Lib.hid (fun hp j h hj => by
        by_cases he : j = k
        · subst he; exact hp
        · exact HF.out j h (by omega))
      have HV : Hid (partB xs[k] = false → nameB s = false) := Lib.hid (fun hp => by rw [HN.out, all_bad k hlt hp, Bool.and_false])
      have HPd : Hid (partB xs[k] = (!xs[k].toList.isEmpty && letB xs[k])) := Lib.hid rfl
      generalize xs[k] = x at c1 HG HV HPd hxs
      cases he : x.toList.isEmpty
      · go_wp2
        go_loopw [5] (fun i wr => ∃ (m : Nat), m ≤ x.size ∧ i = .int .i64 m ∧ w1 = wr ∧ Hid (∀ j (h : j < x.size), j < m → 97 ≤ x[j].toNat ∧ x[j].toNat ≤ 122))
          (fun i _ => x.size - (intOf i).toNat)
        case atStart => exact ⟨0, Nat.zero_le _, rfl, rfl, Lib.hid fun j _ h => absurd h (by omega)⟩
        case round =>
          obtain ⟨m, hm, rfl, rfl, HL⟩ := hrel
          by_cases hlm : m < x.size
          · go_wp2
            case roundEnd =>
              go_roundw
              case rel => exact ⟨m + 1, by omega, by go_num, trivial, Lib.hid fun j h hj => (by
                by_cases he : j = m
                · subst he; omega
                · exact HL.out j h (by omega))⟩
              case measure => simp [intOf]; omega
            all_goals (go_ret; exact ⟨ret_bool (HV.out (by rw [HPd.out, letB_false m hlm (by omega), Bool.and_false])).symm, HB1.out⟩)
          · have HE : Hid (partB x = true) := Lib.hid (by rw [HPd.out, he, letB_true (fun j h => HL.out j h (by omega))]; rfl)
            go_wp2
            go_roundw
            case rel => exact ⟨k + 1, by omega, by go_num, trivial, Lib.hid (HG.out HE.out)⟩
            case measure => simp [intOf]; omega
      · have HE : Hid (nameB s = false) := Lib.hid (HV.out (by rw [HPd.out, he]; rfl))
        go_wp2
        go_ret
        exact ⟨ret_bool HE.out.symm, HB1.out⟩
    · have HX : Hid (nameB s = decide (s.size ≤ 20)) := Lib.hid (by rw [HN.out, all_good fun j h => HF.out j h (by omega), Bool.and_true])
      go_wp2
      go_ret
      exact ⟨ret_bool (by rw [HX.out]; congr 1; exact propext (by omega)), HB1.out⟩
end Go.Proofs.YtmochhgmhhopoaaGreatDoor
