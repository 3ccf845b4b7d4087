/- The law FnReleases: numbers are in order exactly if each is one more than the one before it, and losses of all nodes are all losses. No condition. -/
import Derived.Test.YtgmccafmopgjaaaEvDrawT
import Derived.Test.YtgmccafmopgjaaaRelKit
import Derived.Test.YtgmccafmopgjaaaOpenY
import Derived.Test.YtgmccafmopgjaaaLawKit
import Derived.Deep.CutBlock
import Derived.Deep.DeepCutAuto
namespace Go.Proofs.Ytgmccafmopgjaaa.FnReleases
open Go.ChangeShapes Go.WideShapes Go.ChangeAt Go.RowKit

theorem loss_facts (ls : List Ev) (h : tsB ls = true) : (lcL ls).length = 8 ∧ (∀ x ∈ lcL ls, 0 ≤ x ∧ x ≤ 1000) ∧ sumI (lcL ls) (lcL ls).length = ((cntN (fun x => decide (x.k = 3)) ls ls.length : Nat) : Int) := by
  have hcn : lcL ls = cntL ls ls.length := by simp [lcL, h]
  have hlen := (tsB_true.1 h).1
  have hev := (tsB_true.1 h).2.1
  have hsum := cntL_sum ls hev ls.length (Nat.le_refl _)
  rw [hcn]
  refine ⟨cntL_length ls ls.length, ?_, ?_⟩
  · intro x hx
    simp only [cntL, List.mem_map] at hx
    obtain ⟨j, _, rfl⟩ := hx
    have := cntN_le (lcF j) ls ls.length
    omega
  · rw [sumI, List.take_length, hsum]
set_option maxRecDepth 100000 in
set_option maxHeartbeats 16000000 in
theorem walk (v : Value) (w : World) (hx : ArgY w v) :
    Calls Try.prog 3 #[v] w fun e w' => e = .returned (.bool true) ∧ Below w.heap.size w w' := by
  obtain ⟨bs, hbs⟩ := hx
  by_cases hbig : 65536 < bs.length
  · go_enter Try.func3, Try.ntmps3
    go_wp2_with fail
    refine (rBig_any v bs w hbs).mono ?_
    rintro e w' ⟨rfl, rfl⟩
    go_wp2_with fail
    go_ret
    exact ⟨rfl, Below.refl _ _⟩
  have R0 := Lib.hid (hbs.1 (by omega))
  go_enter Try.func3, Try.ntmps3
  go_wp2_with fail
  refine (rBig_any v bs w hbs).mono ?_
  rintro e w' ⟨rfl, rfl⟩
  go_wp2_with fail
  refine (drawOrder_any v bs w R0.out).mono ?_
  rintro e w1 ⟨v1, xs, node, rfl, ho1, hl1, b1⟩
  have B1 := Lib.hid b1
  have O1 := Lib.hid ho1
  clear b1 ho1 hbs hbig
  have HI := Lib.hid (fun W h => implOrder_any node v1 xs W h)
  have HL := Lib.hid (fun W h => implReleased_any node v1 xs W h)
  have HS := Lib.hid (fun W h => specOrder_any node v1 xs W h)
  have HM := Lib.hid (fun W h => specReleased_any node v1 xs W h)
  have HR := Lib.hid (rlL_range xs node)
  have hl := rlL_length xs node
  have HA : Hid (eaB xs node = true → (aoB xs node = true ↔ folN (rlL xs node) (rlL xs node).length)) := Lib.hid (fun h => by simp [aoB, h])
  generalize aoB xs node = ab at *
  generalize eaB xs node = eb at *
  generalize rlL xs node = L at *
  go_wp2_with fail
  refine (HI.out w1 O1.out.rd).mono ?_
  rintro e w2 ⟨rfl, b2⟩
  have B2 := Lib.hid (B1.out.trans (b2.mono B1.out.size))
  have O2 := Lib.hid (O1.out.below b2)
  clear b2 B1 O1 HI
  go_wp2_with fail
  refine (HL.out w2 O2.out.rd).mono ?_
  rintro e w3 ⟨v3, rfl, o3, b3⟩
  have B3 := Lib.hid (B2.out.trans (b3.mono B2.out.size))
  have O3 := Lib.hid (O2.out.below b3)
  have L3 := Lib.hid o3
  clear b3 B2 O2 HL o3
  go_wp2_with fail
  refine (HS.out w3 O3.out.rd).mono ?_
  rintro e w4 ⟨rfl, b4⟩
  have B4 := Lib.hid (B3.out.trans (b4.mono B3.out.size))
  have O4 := Lib.hid (O3.out.below b4)
  have L4 := Lib.hid (L3.out.below b4)
  clear b4 B3 O3 L3 HS
  go_wp2_with fail
  refine (HM.out w4 O4.out.rd).mono ?_
  rintro e w5 ⟨v5, rfl, o5, b5⟩
  have B5 := Lib.hid (B4.out.trans (b5.mono B4.out.size))
  have L5 := Lib.hid (L4.out.below b5)
  have M5 := Lib.hid o5
  clear b5 B4 O4 L4 HM o5
  go_wp2_with fail
  refine (rInts_same v3 v5 L w5 L5.out.rd M5.out.rd).mono ?_
  rintro e w6 ⟨rfl, b6⟩
  have B6 := Lib.hid (B5.out.trans (b6.mono B5.out.size))
  have L6 := Lib.hid (L5.out.below b6)
  clear b6 B5 L5 M5
  obtain ⟨p3, cap3, g3, rfl, hcap3, hp3⟩ := own_shape L6.out.1
  have HP3 := Lib.hid hp3; clear hp3
  have HC3 : Hid (∀ j (hj : j < L.length), p3 = some ⟨g3, 0, none⟩ → w6.cell? ⟨g3, j, none⟩ = some (.int .i64 L[j])) := Lib.hid fun j hj e => by
    have h0 := L6.out.1
    rw [e] at h0
    have : w6.cell? ⟨g3, j, none⟩ = _ := h0.cellAt j (by omega)
    rw [this]; simp [hj]
  clear L6
  go_upto_if 85 with (fail)
  go_cut [] (fun wx => Hid (Below w.heap.size w wx))
  case first =>
    as_aux_lemma =>
    cases eb
    · go_wp2_with fail
      go_meet
      exact B6
    · have HAB := Lib.hid (HA.out rfl)
      clear HA
      go_wp2_with fail
      go_loopw [13, 14] (fun a i wr => ∃ (n : Nat) (c : Bool), 1 ≤ n ∧ n ≤ L.length + 1 ∧ i = .int .i64 n ∧ a = .bool c ∧ wr = w6 ∧ Hid (c = true ↔ folN L n)) (fun _ i _ => L.length - (intOf i).toNat)
      case atStart => exact ⟨1, true, Nat.le_refl _, by omega, rfl, rfl, rfl, Lib.hid ⟨fun _ i _ h => absurd h (by omega), fun _ => rfl⟩⟩
      case round =>
        obtain ⟨n, c, hn1, hn, rfl, rfl, rfl, HF⟩ := hrel
        by_cases hlt : n < L.length
        · obtain ⟨m, hm⟩ : ∃ m, n = m + 1 := ⟨n - 1, by omega⟩
          have hm1 : m < L.length := by omega
          obtain ⟨hpe, _⟩ := HP3.out (by omega)
          subst hpe
          have c1 := HC3.out m hm1 rfl
          have c2 := HC3.out n hlt rfl
          obtain ⟨a0, a1⟩ := HR.out _ (List.getElem_mem hm1)
          obtain ⟨b0, b1⟩ := HR.out _ (List.getElem_mem hlt)
          have hstep : folN L (n + 1) ↔ folN L n ∧ (L[m] + 1) % 65536 = L[n] := by
            subst hm
            constructor
            · intro hf
              exact ⟨fun i hi hin => hf i hi (by omega), by have := hf m hlt (by omega); omega⟩
            · rintro ⟨hf, he⟩ i hi hin
              by_cases hie : i = m
              · subst hie; omega
              · exact hf i hi (by omega)
          have HSt := Lib.hid hstep; clear hstep
          have w1' : IntKind.i64.wrap ((n : Int) - 1) = m := by rw [IntKind.wrap_i64]; omega
          have w2' : wrap64 ((n : Int) - 1) = m := by simp only [wrap64]; omega
          have HMm := Lib.hid hm; clear hm
          generalize L[m] = x at *
          generalize L[n] = y at *
          have HAs := Lib.hid (fun w => afterSerial_any x w a0 a1)
          go_wp2_with fail
          refine (HAs.out _).mono ?_
          rintro e w' ⟨rfl, rfl⟩
          clear w1' w2'
          cases c
          · go_wp2_with fail
            go_roundw
            case rel => exact ⟨n + 1, false, by omega, by omega, by go_num, by simp, by first | rfl | trivial, Lib.hid ⟨fun h => by simp at h, fun h => HF.out.2 (HSt.out.1 h).1⟩⟩
            case measure => (simp [intOf]; try omega)
          · by_cases he : (x + 1) % 65536 = y
            · have he' : ((x + 1) % 65536 == y) = true := by simp [he]
              have HE := Lib.hid he; clear he
              go_wp2_with fail
              go_roundw
              case rel => exact ⟨n + 1, true, by omega, by omega, by go_num, by simp, by first | rfl | trivial, Lib.hid ⟨fun _ => HSt.out.2 ⟨HF.out.1 (by simp), HE.out⟩, fun _ => rfl⟩⟩
              case measure => (simp [intOf]; try omega)
            · have he' : ((x + 1) % 65536 == y) = false := by simp [he]
              have HE := Lib.hid he; clear he
              go_wp2_with fail
              go_roundw
              case rel => exact ⟨n + 1, false, by omega, by omega, by go_num, by simp, by first | rfl | trivial, Lib.hid ⟨fun h => by simp at h, fun h => absurd (HSt.out.1 h).2 HE.out⟩⟩
              case measure => (simp [intOf]; try omega)
        · obtain rfl : c = ab := by
            have hb : c = true ↔ folN L L.length := HF.out.trans ⟨fun h i hi hin => h i hi (by omega), fun h i hi _ => h i hi (by omega)⟩
            have h2 := HAB.out
            by_cases hf : folN L L.length
            · exact (hb.2 hf).trans (h2.2 hf).symm
            · have e1 : c = false := by
                cases c
                · rfl
                · exact absurd (hb.1 rfl) hf
              have e2 : ab = false := by
                cases ab
                · rfl
                · exact absurd (h2.1 rfl) hf
              exact e1.trans e2.symm
          go_wp2_with fail
          go_meet
          exact B6
  case rest =>
    as_aux_lemma =>
    clear B6 HP3 HC3 HR HA hl hl1
    generalize wc = u0 at *
    go_wp2_with fail
    refine (drawLoss_any v bs _ (R0.out.below hcut.out)).mono ?_
    rintro e m1 ⟨vl, ls, rfl, ol1, hll, bl1⟩
    have Q1 := Lib.hid ol1
    have Y1 := Lib.hid (hcut.out.trans (bl1.mono hcut.out.size))
    clear bl1 ol1 hcut
    have HLi := Lib.hid (fun W h => implLoss_any vl ls W h)
    have HLs := Lib.hid (fun W h => specLoss_any vl ls W h)
    have HLt := Lib.hid (fun W h => isTrace_any vl ls W h)
    have HF := Lib.hid (loss_facts ls)
    generalize lcL ls = cs at *
    generalize tsB ls = tb at *
    go_wp2_with fail
    refine (HLi.out m1 Q1.out.rd).mono ?_
    rintro e m2 ⟨vli, rfl, on2, bl2⟩
    have N2 := Lib.hid on2
    have Q2 := Lib.hid (Q1.out.below bl2)
    have Y2 := Lib.hid (Y1.out.trans (bl2.mono Y1.out.size))
    clear bl2 on2 Y1 Q1 HLi
    go_wp2_with fail
    refine (HLs.out m2 Q2.out.rd).mono ?_
    rintro e m3 ⟨vls, rfl, on3, bl3⟩
    have M3 := Lib.hid on3
    have N3 := Lib.hid (N2.out.below bl3)
    have Q3 := Lib.hid (Q2.out.below bl3)
    have Y3 := Lib.hid (Y2.out.trans (bl3.mono Y2.out.size))
    clear bl3 on3 Y2 Q2 N2 HLs
    go_wp2_with fail
    refine (rInts_same vli vls _ m3 N3.out.rd M3.out.rd).mono ?_
    rintro e m4 ⟨rfl, bl4⟩
    have N4 := Lib.hid (N3.out.below bl4)
    have Q4 := Lib.hid (Q3.out.below bl4)
    have Y4 := Lib.hid (Y3.out.trans (bl4.mono Y3.out.size))
    clear bl4 N3 Q3 Y3 M3
    go_wp2_with fail
    refine (HLt.out m4 Q4.out.rd).mono ?_
    rintro e m6 ⟨rfl, bl6⟩
    have N6 := Lib.hid (N4.out.below bl6)
    have Q6 := Lib.hid (Q4.out.below bl6)
    have Y6 := Lib.hid (Y4.out.trans (bl6.mono Y4.out.size))
    clear bl6 N4 Q4 Y4 HLt
    go_upto_if 143 with (fail)
    go_cut [] (fun wx => Hid (Below w.heap.size w wx))
    case first =>
      as_aux_lemma =>
      cases tb
      · go_wp2_with fail
        go_meet
        exact Y6
      · obtain ⟨hc8, hcr, hs2⟩ := HF.out rfl
        have HCR := Lib.hid hcr; clear hcr HF
        obtain ⟨pl, capl, bl, ofl, rfl, hcapl, hpl, hcelll⟩ := Q6.out.rd.parts
        have HPl := Lib.hid hpl; clear hpl
        have HCl := Lib.hid hcelll; clear hcelll
        have HS2 := Lib.hid hs2; clear hs2
        have hstep := cntN_succ (fun x : Ev => decide (x.k = 3)) ls
        have HST := Lib.hid hstep; clear hstep
        have hle := cntN_le (fun x : Ev => decide (x.k = 3)) ls
        have HLE := Lib.hid hle; clear hle
        have H8 := Lib.hid hc8; clear hc8
        go_wp2_with fail
        go_loopw [22, 23] (fun a i wr => ∃ n : Nat, n ≤ ls.length ∧ i = .int .i64 n ∧ a = .int .i64 ((cntN (fun x => decide (x.k = 3)) ls n : Nat) : Int) ∧ wr = m6) (fun _ i _ => ls.length - (intOf i).toNat)
        case atStart => exact ⟨0, Nat.zero_le _, rfl, by simp [cntN], rfl⟩
        case round =>
          obtain ⟨n, hn, rfl, rfl, hwr⟩ := hrel
          subst hwr
          by_cases hlt : n < ls.length
          · obtain rfl := HPl.out (by omega)
            obtain ⟨e1, e2, e3, e4⟩ := HCl.out n hlt
            have hcb := HLE.out n
            by_cases hk3 : ls[n].k = 3
            · have HS3 := Lib.hid (HST.out n hlt)
              have HK := Lib.hid hk3
              generalize cntN (fun x : Ev => decide (x.k = 3)) ls n = cc at *
              go_wp2_with fail
              go_roundw
              case rel => exact ⟨n + 1, by omega, by go_num, by (rw [HS3.out, if_pos (by simp [HK.out])]; first | rfl | (congr 1; push_cast; simp only [wrap64]; omega)), by first | rfl | trivial⟩
              case measure => (simp [intOf]; try omega)
            · have HS3 := Lib.hid (HST.out n hlt)
              have hk3' : (ls[n].k == 3) = false := by simp [hk3]
              have HK := Lib.hid hk3; clear hk3
              generalize cntN (fun x : Ev => decide (x.k = 3)) ls n = cc at *
              go_wp2_with fail
              go_roundw
              case rel => exact ⟨n + 1, by omega, by go_num, by rw [HS3.out, if_neg (by simp [HK.out])]; rfl, by first | rfl | trivial⟩
              case measure => (simp [intOf]; try omega)
          · obtain rfl : n = ls.length := by omega
            have h8 := H8.out
            have HSu := Lib.hid (rSum_any vli cs _ N6.out.rd HCR.out (by omega))
            rw [HS2.out] at HSu
            obtain ⟨pk, capk, gk, rfl, hcapk, hqk⟩ := own_shape N6.out.1
            obtain ⟨rfl, _⟩ := hqk (by omega)
            clear hqk
            have q8 : (((cs.length : Nat) : Int) != 8) = false := by rw [h8]; rfl
            clear h8
            generalize cntN (fun x : Ev => decide (x.k = 3)) ls ls.length = cc at *
            go_wp2_with fail
            refine HSu.out.mono ?_
            rintro e w' ⟨rfl, rfl⟩
            go_wp2_with fail
            go_meet
            exact Y6
    case rest =>
      as_aux_lemma =>
      clear N6 Q6 Y6 HF hll
      generalize wc = u1 at *
      go_wp2_with fail
      refine (drawTicks_any v bs _ (R0.out.below hcut.out)).mono ?_
      rintro e q1 ⟨vt, ys, nu, fa, fb, rfl, ot1, hlt1, bt1⟩
      have T1 := Lib.hid ot1
      have Z1 := Lib.hid (hcut.out.trans (bt1.mono hcut.out.size))
      clear bt1 ot1 hcut
      have HTi := Lib.hid (fun W h => implTicks_any nu fa fb vt ys W h)
      have HTs := Lib.hid (fun W h => specTicks_any nu fa fb vt ys W h)
      have hnn := tbV_nonneg ys nu fa fb
      generalize tbV ys nu fa fb = tv at *
      obtain ⟨t, c⟩ := tv
      simp only at hnn
      go_wp2_with fail
      refine (HTi.out q1 T1.out.rd).mono ?_
      rintro e q2 ⟨rfl, bt2⟩
      have T2 := Lib.hid (T1.out.below bt2)
      have Z2 := Lib.hid (Z1.out.trans (bt2.mono Z1.out.size))
      clear bt2 T1 Z1 HTi
      go_wp2_with fail
      refine (HTs.out q2 T2.out.rd).mono ?_
      rintro e q3 ⟨rfl, bt3⟩
      have Z3 := Lib.hid (Z2.out.trans (bt3.mono Z2.out.size))
      clear bt3 T2 Z2 HTs
      cases c
      · go_wp2_with fail
        go_ret
        exact ⟨rfl, Z3.out⟩
      · go_wp2_with fail
        go_ret
        exact ⟨rfl, Z3.out⟩

set_option maxRecDepth 100000 in
theorem lifted (os : Os) (started : os.Started) (H : Type) (enc : TypeId × Value → H) :
    ReturnsInHanded {} Try.checked os 3 .any (Rows.fnReleasesSpec.pre6 enc Try.prog Try.f3 Rows.fnReleasesRow.domain false) (Rows.fnReleasesSpec.post enc Try.prog Try.f3 false true false false) := by
  refine returnsInHanded_of_change_sized (C := Try.checked) lk_own started (by kernel_rfl) Try.func3
    (ChangeSpec.witness6 (enc := enc) (C := Try.checked) false ⟨#[], #[.slice none 0 0], []⟩ 8 (by kernel_rfl) (by kernel_rfl) (by kernel_rfl) (by kernel_rfl)) ?_
  intro W base args ds gs before hval0 hW _ _ _
  have hval : ∀ (j : Nat) t v, Try.f3.params[j]? = some t → args[j]? = some v → Value.okWide Try.prog W .any base t v := hval0
  have hW' := hW
  obtain ⟨p, q, hA0, hV, rfl, _, _⟩ := hW
  have hA : DataW.TrodAll enc Try.prog W 0 (fun _ => true) true Try.f3.params.toList args.toList ds p := hA0
  rw [Try.params3] at hA hval
  obtain ⟨v0, vs0, d0, ds0, p0, q0, hargs, rfl, rfl, h0, r0⟩ := trodAll_cons hA
  obtain ⟨rfl, rfl, rfl⟩ := trodAll_nil r0
  obtain rfl : args = #[v0] := by cases args; simp_all
  obtain ⟨rfl, rfl⟩ := trodVars_none hV
  clear hA0 hval0
  have x0 := open_argY (hval 0 22 v0 rfl rfl) h0
  simp only [List.append_nil] at hW'
  refine (walk v0 W x0).mono fun e W' ⟨he, hb⟩ => ?_
  subst he
  exact ⟨_, rfl, post_law hW' rfl rfl (by kernel_rfl) rfl rfl rfl hb⟩

theorem over : Rows.fnReleasesRow.holds Try.pinned (OpenSpec.ofChange Rows.fnReleasesSpec) :=
  OpenClaim.holds_of_wide 3 Try.f3 rfl rfl rfl rfl rfl rfl rfl ⟨rfl, rfl, rfl, rfl, rfl⟩ rfl rfl rfl rfl rfl (by kernel_rfl) Try.func3 (by kernel_rfl)
    (of_decide_eq_true (by kernel_rfl)) (by unfold Func.isWrapper; first | (rw [if_pos (by decide +kernel)]; kernel_rfl) | (rw [if_neg (by decide +kernel)]; exact ⟨rfl, rfl⟩))
    (fun os started H enc _ => lifted os started H enc)

theorem proved : Rows.FnReleasesSaid := over
#print axioms proved
end Go.Proofs.Ytgmccafmopgjaaa.FnReleases
