/- Contracts on whether the numbers released at a node follow one another: the program's and the reference's AreInOrder, for all arguments. -/
import Derived.Test.YtgmccafmopgjaaaEvRel
namespace Go.Proofs.Ytgmccafmopgjaaa
open Go.RowKit

theorem after_any (x n : Int) (w : World) (h0 : 0 ≤ x) (h1 : x ≤ 65535) (h2 : -65535 ≤ n) (h3 : n ≤ 0) :
    Calls Try.prog 39 #[.int .i64 x, .int .i64 n] w fun e w' => e = .returned (.int .i64 ((x + n) % 65536)) ∧ w = w' := by
  go_enter Try.func39, Try.ntmps39
  go_wp2
  go_ret
  exact ⟨ret_int (by
    by_cases h : 0 ≤ x + n
    · rw [Int.tmod_eq_emod_of_nonneg h, IntWalk.wrap64_in _ (by omega), Int.tmod_eq_emod_of_nonneg (by omega)]; omega
    · rw [show (x + n).tmod 65536 = x + n from by rw [show x + n = -(-(x + n)) from by omega, Int.neg_tmod, Int.tmod_eq_emod_of_nonneg (by omega)]; omega, IntWalk.wrap64_in _ (by omega), Int.tmod_eq_emod_of_nonneg (by omega)]; omega), rfl⟩
theorem gap_any (a b : Int) (w : World) (h0 : 0 ≤ a) (h1 : a ≤ 65535) (h2 : 0 ≤ b) (h3 : b ≤ 65535) :
    Calls Try.prog 31 #[.int .i64 a, .int .i64 b] w fun e w' => e = .returned (.int .i64 ((b - a) % 65536)) ∧ w = w' := by
  have HA := Lib.hid (after_any b (-a) w h2 h3 (by omega) (by omega))
  go_enter Try.func31, Try.ntmps31
  go_wp2_with (go_at_call 39; refine HA.out.mono ?_; rintro e w' ⟨rfl, rfl⟩)
  go_ret
  exact ⟨ret_int (by congr 1), rfl⟩
theorem l2Gap_any (a b : Int) (w : World) (h0 : 0 ≤ a) (h1 : a ≤ 65535) (h2 : 0 ≤ b) (h3 : b ≤ 65535) :
    Calls Try.prog 36 #[.int .i64 a, .int .i64 b] w fun e w' => e = .returned (.int .i64 ((b - a) % 65536)) ∧ w = w' := by
  go_enter Try.func36, Try.ntmps36
  go_wp2
  go_ret
  exact ⟨ret_int (by omega), rfl⟩

/-- the first n numbers follow one another -/
def folN (L : List Int) (n : Nat) : Prop := ∀ i (h : i + 1 < L.length), i + 1 < n → (L[i + 1] - L[i]) % 65536 = 1
open Classical in
noncomputable def aoB (xs : List Ev) (node : Int) : Bool := eaB xs node && decide (folN (rlL xs node) (rlL xs node).length)
theorem rlL_range (xs : List Ev) (node : Int) : ∀ r ∈ rlL xs node, 0 ≤ r ∧ r ≤ 65535 := by
  unfold rlL
  split
  · rename_i h
    simp only [eaB, Bool.and_eq_true] at h
    have hg := (tsB_true.1 h.1).2.1
    refine selN_all _ _ _ (fun i hi r hr => ?_) _
    have := evB_iff.1 (hg i hi)
    simp only [rlF] at hr
    split at hr
    · simp only [Option.some.injEq] at hr; omega
    · cases hr
  · intro r h; cases h
theorem rlL_length (xs : List Ev) (node : Int) : (rlL xs node).length ≤ 30 := by
  unfold rlL
  split
  · rename_i h
    simp only [eaB, Bool.and_eq_true] at h
    have := selN_length (rlF node) xs xs.length
    have := (tsB_true.1 h.1).1
    omega
  · simp

set_option maxHeartbeats 4000000 in
theorem implOrder_any (node : Int) (v : Value) (xs : List Ev) (w : World) (h : RdEv w v xs) :
    Calls Try.prog 7 #[v, .int .i64 node] w fun e w' => e = .returned (.tuple #[.bool (aoB xs node), .bool (eaB xs node)]) ∧ Below w.heap.size w w' := by
  have HT := Lib.hid (implReleased_any node v xs w h)
  obtain ⟨p, cap, b, off, rfl, _⟩ := h.parts
  clear h
  have HR := Lib.hid (rlL_range xs node)
  have hl := rlL_length xs node
  have hE : rlL xs node ≠ [] → eaB xs node = true := by unfold rlL; split <;> simp_all
  have hA : aoB xs node = true ↔ eaB xs node = true ∧ folN (rlL xs node) (rlL xs node).length := by simp [aoB]
  have HE := Lib.hid hE; clear hE
  have HAB := Lib.hid hA; clear hA
  generalize aoB xs node = ab at *
  generalize eaB xs node = eb at *
  generalize rlL xs node = L at *
  go_enter Try.func7, Try.ntmps7
  go_wp2_with fail
  refine HT.out.mono ?_
  rintro e w1 ⟨v1, rfl, hown, hb⟩
  obtain ⟨p1, cap1, g, rfl, hcap1, hp1⟩ := own_shape hown.1
  have HO := Lib.hid hown.1; clear hown
  have HP1 := Lib.hid hp1; clear hp1
  have HB := Lib.hid hb; clear hb
  go_wp2
  go_loopw [8] (fun i wr => ∃ n : Nat, 1 ≤ n ∧ n ≤ L.length + 1 ∧ i = .int .i64 n ∧ wr.heap = w1.heap ∧ Below w.heap.size w wr ∧ Hid (folN L n)) (fun i _ => L.length - (intOf i).toNat)
  case atStart => exact ⟨1, Nat.le_refl _, by omega, rfl, rfl, HB.out, Lib.hid (fun i _ h => absurd h (by omega))⟩
  case round =>
    clear HB
    obtain ⟨n, hn1, hn, rfl, hh, hb, HF⟩ := hrel
    by_cases hlt : n < L.length
    · obtain ⟨m, hm⟩ : ∃ m, n = m + 1 := ⟨n - 1, by omega⟩
      have hm1 : m < L.length := by omega
      obtain ⟨hpe, hge⟩ := HP1.out (by omega)
      subst hpe
      have hc : ∀ j (hj : j < L.length), wr.cell? ⟨g, j, none⟩ = some (.int .i64 L[j]) := fun j hj => by
        have : w1.cell? ⟨g, j, none⟩ = _ := HO.out.cellAt j (by omega)
        simp only [World.cell?, hh] at this ⊢
        rw [this]; simp [hj]
      have c1 := hc m hm1
      have c2 := hc n hlt
      obtain ⟨a0, a1⟩ := HR.out _ (List.getElem_mem hm1)
      obtain ⟨b0, b1⟩ := HR.out _ (List.getElem_mem hlt)
      have hstep : folN L n → ((L[n] - L[m]) % 65536 = 1 ↔ folN L (n + 1)) := fun hf => by
        subst hm
        constructor
        · intro he i hi hin
          by_cases hie : i = m
          · subst hie; exact he
          · exact hf i hi (by omega)
        · intro hf2; exact hf2 m hlt (by omega)
      have HSt := Lib.hid (hstep HF.out); clear hstep hc
      have w1' : IntKind.i64.wrap ((n : Int) - 1) = m := by rw [IntKind.wrap_i64]; omega
      have HM := Lib.hid hm; clear hm
      generalize L[m] = x at *
      generalize L[n] = y at *
      have HG := fun w => gap_any x y w a0 a1 b0 b1
      by_cases hg : (y - x) % 65536 = 1
      · simp only [hg] at HG
        have HS2 := Lib.hid (HSt.out.1 hg)
        clear hg
        have HG := Lib.hid HG
        go_wp2_with fail
        go_region_held3 (fun w' => w'.cell? ⟨g, m, none⟩ = some (.int .i64 x) ∧ w'.cell? ⟨g, n, none⟩ = some (.int .i64 y)) (go_keep)
          (first | (go_at_call 31; refine (HG.out _).mono ?_; rintro e w' ⟨rfl, rfl⟩))
        clear w1'
        go_wp2
        go_roundw
        case rel => exact ⟨n + 1, by omega, by omega, by go_num, hh, hb.drew, HS2⟩
        case measure => simp [intOf]; omega
      · have HN := Lib.hid hg
        have hne : ((y - x) % 65536 == 1) = false := by simp [hg]
        have HG := Lib.hid HG
        go_wp2_with fail
        go_region_held3 (fun w' => w'.cell? ⟨g, m, none⟩ = some (.int .i64 x) ∧ w'.cell? ⟨g, n, none⟩ = some (.int .i64 y)) (go_keep)
          (first | (go_at_call 31; refine (HG.out _).mono ?_; rintro e w' ⟨rfl, rfl⟩))
        clear w1'
        go_wp2
        have hL0 : L ≠ [] := by intro e; subst e; simp at hlt
        have he := HE.out hL0
        have hab : ab = false := by
          cases hb2 : ab
          · rfl
          · exact absurd (HSt.out.2 (fun i hi hin => (HAB.out.1 hb2).2 i hi (by omega))) HN.out
        subst he hab
        go_ret2
        exact ⟨rfl, hb.drew⟩
    · have hab : ab = eb := by
        cases he : eb
        · cases hb2 : ab
          · rfl
          · have := (HAB.out.1 hb2).1; rw [he] at this; cases this
        · exact HAB.out.2 ⟨he, fun i hi hin => HF.out i hi (by omega)⟩
      subst hab
      clear HAB
      go_wp2
      go_ret2
      exact ⟨rfl, hb⟩
set_option maxHeartbeats 4000000 in
theorem specOrder_any (node : Int) (v : Value) (xs : List Ev) (w : World) (h : RdEv w v xs) :
    Calls Try.prog 9 #[v, .int .i64 node] w fun e w' => e = .returned (.tuple #[.bool (aoB xs node), .bool (eaB xs node)]) ∧ Below w.heap.size w w' := by
  have HT := Lib.hid (l17Good_any v xs w h)
  have HRd := Lib.hid h
  obtain ⟨p, cap, b, off, rfl, _⟩ := h.parts
  clear h
  cases hB : eaB xs node
  · have hA : aoB xs node = false := by simp [aoB, hB]
    rw [hA]
    cases h1 : tsB xs
    · rw [h1] at HT
      go_enter Try.func9, Try.ntmps9
      go_wp2_with fail
      refine HT.out.mono ?_
      rintro e w1 ⟨rfl, hb⟩
      go_wp2
      go_ret2
      exact ⟨rfl, hb⟩
    · have h2 : inR node 0 7 = false := by simpa [eaB, h1] using hB
      rw [h1] at HT
      clear h1 hB hA
      go_enter Try.func9, Try.ntmps9
      go_wp2_with fail
      refine HT.out.mono ?_
      rintro e w1 ⟨rfl, hb⟩
      have HB := Lib.hid hb; clear hb
      go_wp2_with ((go_at_call 34; refine (l17Node_any _ _).mono ?_; rintro e w' ⟨rfl, rfl⟩))
      go_ret2
      exact ⟨rfl, HB.out⟩
  · have HR := Lib.hid (rlL_range xs node)
    have hl := rlL_length xs node
    have hA : aoB xs node = true ↔ folN (rlL xs node) (rlL xs node).length := by simp [aoB, hB]
    have HV : Hid (rlL xs node = selN (rlF node) xs xs.length) := Lib.hid (by simp [rlL, hB])
    have HL := Lib.hid (fun w => l17Released_any node (.slice p xs.length cap) xs w)
    rw [← HV.out] at HL
    simp only [eaB, Bool.and_eq_true] at hB
    obtain ⟨h1, h2⟩ := hB
    rw [h1] at HT
    clear h1 HV
    have HAB := Lib.hid hA; clear hA
    generalize aoB xs node = ab at *
    generalize rlL xs node = L at *
    go_enter Try.func9, Try.ntmps9
    go_wp2_with fail
    refine HT.out.mono ?_
    rintro e w1 ⟨rfl, hb⟩
    have HB := Lib.hid hb; clear hb
    go_wp2_with (first | (go_at_call 34; refine (l17Node_any _ _).mono ?_; rintro e w' ⟨rfl, rfl⟩))
    refine (HL.out w1 (HRd.out.below HB.out)).mono ?_
    rintro e w2 ⟨v1, rfl, hown, hb⟩
    obtain ⟨p1, cap1, g, rfl, hcap1, hp1⟩ := own_shape hown.1
    have HO := Lib.hid hown.1; clear hown
    have HP1 := Lib.hid hp1; clear hp1
    have HB2 := Lib.hid (HB.out.trans (hb.mono HB.out.size)); clear hb
    go_wp2
    go_loopw [7] (fun i wr => ∃ n : Nat, 1 ≤ n ∧ n ≤ L.length + 1 ∧ i = .int .i64 n ∧ wr.heap = w2.heap ∧ Below w.heap.size w wr ∧ Hid (folN L n)) (fun i _ => L.length - (intOf i).toNat)
    case atStart => exact ⟨1, Nat.le_refl _, by omega, rfl, rfl, HB2.out, Lib.hid (fun i _ h => absurd h (by omega))⟩
    case round =>
      clear HB HB2
      obtain ⟨n, hn1, hn, rfl, hh, hb, HF⟩ := hrel
      by_cases hlt : n < L.length
      · obtain ⟨m, hm⟩ : ∃ m, n = m + 1 := ⟨n - 1, by omega⟩
        have hm1 : m < L.length := by omega
        obtain ⟨hpe, hge⟩ := HP1.out (by omega)
        subst hpe
        have hc : ∀ j (hj : j < L.length), wr.cell? ⟨g, j, none⟩ = some (.int .i64 L[j]) := fun j hj => by
          have : w2.cell? ⟨g, j, none⟩ = _ := HO.out.cellAt j (by omega)
          simp only [World.cell?, hh] at this ⊢
          rw [this]; simp [hj]
        have c1 := hc m hm1
        have c2 := hc n hlt
        obtain ⟨a0, a1⟩ := HR.out _ (List.getElem_mem hm1)
        obtain ⟨b0, b1⟩ := HR.out _ (List.getElem_mem hlt)
        have hstep : folN L n → ((L[n] - L[m]) % 65536 = 1 ↔ folN L (n + 1)) := fun hf => by
          subst hm
          constructor
          · intro he i hi hin
            by_cases hie : i = m
            · subst hie; exact he
            · exact hf i hi (by omega)
          · intro hf2; exact hf2 m hlt (by omega)
        have HSt := Lib.hid (hstep HF.out); clear hstep hc
        have w1' : IntKind.i64.wrap ((n : Int) - 1) = m := by rw [IntKind.wrap_i64]; omega
        have HM := Lib.hid hm; clear hm
        generalize L[m] = x at *
        generalize L[n] = y at *
        have HG := fun w => l2Gap_any x y w a0 a1 b0 b1
        by_cases hg : (y - x) % 65536 = 1
        · simp only [hg] at HG
          have HS2 := Lib.hid (HSt.out.1 hg)
          clear hg
          have HG := Lib.hid HG
          go_wp2_with fail
          go_region_held3 (fun w' => w'.cell? ⟨g, m, none⟩ = some (.int .i64 x) ∧ w'.cell? ⟨g, n, none⟩ = some (.int .i64 y)) (go_keep)
            (first | (go_at_call 36; refine (HG.out _).mono ?_; rintro e w' ⟨rfl, rfl⟩))
          clear w1'
          go_wp2
          go_roundw
          case rel => exact ⟨n + 1, by omega, by omega, by go_num, hh, hb.drew, HS2⟩
          case measure => simp [intOf]; omega
        · have HN := Lib.hid hg
          have hne : ((y - x) % 65536 == 1) = false := by simp [hg]
          have HG := Lib.hid HG
          go_wp2_with fail
          go_region_held3 (fun w' => w'.cell? ⟨g, m, none⟩ = some (.int .i64 x) ∧ w'.cell? ⟨g, n, none⟩ = some (.int .i64 y)) (go_keep)
            (first | (go_at_call 36; refine (HG.out _).mono ?_; rintro e w' ⟨rfl, rfl⟩))
          clear w1'
          go_wp2
          have hab : ab = false := by
            cases hb2 : ab
            · rfl
            · exact absurd (HSt.out.2 (fun i hi hin => (HAB.out.1 hb2) i hi (by omega))) HN.out
          subst hab
          go_ret2
          exact ⟨rfl, hb.drew⟩
      · have hab : ab = true := HAB.out.2 (fun i hi hin => HF.out i hi (by omega))
        subst hab
        clear HAB
        go_wp2
        go_ret2
        exact ⟨rfl, hb⟩
end Go.Proofs.Ytgmccafmopgjaaa
