/- Contracts on what is released at a node of a trace: the program's and the reference's ReleasedAt, for all arguments. -/
import Derived.Test.YtgmccafmopgjaaaEvSel
namespace Go.Proofs.Ytgmccafmopgjaaa
open Go.RowKit

def rlF (node : Int) (_ : Nat) (x : Ev) : Option Int := if x.n = node ∧ x.k = 4 then some x.m else none
noncomputable def rlL (xs : List Ev) (node : Int) : List Int := if eaB xs node = true then selN (rlF node) xs xs.length else []

set_option maxHeartbeats 4000000 in
theorem implReleased_any (node : Int) (v : Value) (xs : List Ev) (w : World) (h : RdEv w v xs) :
    Calls Try.prog 8 #[v, .int .i64 node] w fun e w' => ∃ v', e = .returned (.tuple #[v', .bool (eaB xs node)]) ∧ OwI w.heap.size w' v' (rlL xs node) ∧ Below w.heap.size w w' := by
  have HT := Lib.hid (isTrace_any v xs w h)
  have hlen := h.2
  obtain ⟨i0, hi, hz0, hz1, hz2⟩ := info_parts infoInt
  obtain ⟨p, cap, b, off, rfl, hcap, hp, hcell⟩ := h.parts
  have HC := Lib.hid hcell; clear hcell
  have HP := Lib.hid hp; clear hp h
  cases hB : eaB xs node
  · have HV : Hid (rlL xs node = []) := Lib.hid (by simp [rlL, hB])
    cases h1 : tsB xs
    · rw [h1] at HT
      go_enter Try.func8, Try.ntmps8
      go_wp2_with fail
      refine HT.out.mono ?_
      rintro e w1 ⟨rfl, hb⟩
      go_wp2
      refine bodyPost_ret (v := (.tuple #[.slice none 0 0, .bool false])) (by simp [results, Try.results8, go_sem, *]) rfl ?_
      exact ⟨_, rfl, by rw [HV.out]; exact ⟨⟨rfl, .inl ⟨rfl, rfl⟩⟩, Nat.zero_le _⟩, hb⟩
    · have h2 : inR node 0 7 = false := by simpa [eaB, h1] using hB
      rw [h1] at HT
      clear h1 hB
      go_enter Try.func8, Try.ntmps8
      go_wp2_with fail
      refine HT.out.mono ?_
      rintro e w1 ⟨rfl, hb⟩
      have HB := Lib.hid hb; clear hb
      go_wp2_with ((go_at_call 32; refine (isNode_any _ _).mono ?_; rintro e w' ⟨rfl, rfl⟩))
      refine bodyPost_ret (v := (.tuple #[.slice none 0 0, .bool false])) (by simp [results, Try.results8, go_sem, *]) rfl ?_
      exact ⟨_, rfl, by rw [HV.out]; exact ⟨⟨rfl, .inl ⟨rfl, rfl⟩⟩, Nat.zero_le _⟩, HB.out⟩
  · have HV : Hid (rlL xs node = selN (rlF node) xs xs.length) := Lib.hid (by simp [rlL, hB])
    simp only [eaB, Bool.and_eq_true] at hB
    obtain ⟨h1, h2⟩ := hB
    have h30 := (tsB_true.1 h1).1
    rw [h1] at HT
    clear h1
    go_enter Try.func8, Try.ntmps8
    go_wp2_with fail
    refine HT.out.mono ?_
    rintro e w1 ⟨rfl, hb⟩
    have HB := Lib.hid hb; clear hb
    go_wp2_with ((go_at_call 32; refine (isNode_any _ _).mono ?_; rintro e w' ⟨rfl, rfl⟩))
    go_loopw [6, 19] (fun v i wr => ∃ n : Nat, n ≤ xs.length ∧ i = .int .i64 n ∧ OwI w.heap.size wr v (selN (rlF node) xs n) ∧ Below w.heap.size w wr) (fun _ i _ => xs.length - (intOf i).toNat)
    case atStart => exact ⟨0, Nat.zero_le _, rfl, ⟨⟨rfl, .inl ⟨rfl, rfl⟩⟩, Nat.zero_le _⟩, HB.out⟩
    case round =>
      clear HB
      obtain ⟨n, hn, rfl, hown, hb⟩ := hrel
      by_cases hlt : n < xs.length
      · obtain rfl := HP.out (by omega)
        obtain ⟨c1, c2, c3, c4⟩ := HC.out n hlt
        have c1 := cell_on hb c1
        have c2 := cell_on hb c2
        have c3 := cell_on hb c3
        have c4 := cell_on hb c4
        have hsl := selN_length (rlF node) xs n
        have hsz := hb.size
        by_cases he : xs[n].n = node
        · by_cases hk4 : xs[n].k = 4
          · have HS := Lib.hid (selN_some (rlF node) xs n xs[n].m hlt (by simp [rlF, he, hk4]))
            have hO := hown.1
            generalize hL : selN (rlF node) xs n = L at *
            go_wp2_with (first | (at_builtin; go_loud (refine wpList_append_own _ rfl _ _ 29 rfl (w.heap.size) 3 i0 (.int .i64 0) 1 8 Try.underlying29 hi hz0 hz1 hz2 rfl (by decide) _ _ _ rfl ((hO.alloc _).alloc _) ⟨wr.heap.size + 1, 0, none⟩ 1 1 [.int .i64 xs[n].m] rfl rfl ?c1 ?c2 ?c3 ?c4 ?c5 ?_)))
            try (case c1 => first | exact cells_new _ #[_] _ | rfl)
            try (case c2 => first | rfl | (intro u hu; simp at hu; subst hu; rfl))
            try (case c3 => first | omega | (unfold maxLen; omega))
            try (case c4 => first | omega | ((try simp only [World.heap_size_alloc]); omega))
            try (case c5 => first | omega | (simp; omega))
            intro v' w2 hown' hgrow
            try intro _
            go_wp2
            go_roundw
            case rel => exact ⟨n + 1, by omega, by go_num, by rw [HS.out]; exact ⟨by simpa using hown', by simp; omega⟩, Below.grown (Below.trans hb (by go_grown)) hgrow (by simp; omega) (fun j hj => (hO.lt j hj).1)⟩
            case measure => simp [intOf]; omega
          · have HS := Lib.hid (selN_none (rlF node) xs n hlt (by simp [rlF, hk4]))
            go_wp2
            go_roundw
            case rel => exact ⟨n + 1, by omega, by go_num, by rw [HS.out]; exact hown.below (by go_grown), by go_grown⟩
            case measure => simp [intOf]; omega
        · have HS := Lib.hid (selN_none (rlF node) xs n hlt (by simp [rlF, he]))
          go_wp2
          go_roundw
          case rel => exact ⟨n + 1, by omega, by go_num, by rw [HS.out]; exact hown.below (by go_grown), by go_grown⟩
          case measure => simp [intOf]; omega
      · obtain rfl : n = xs.length := by omega
        have HH := Lib.hid (And.intro hown hb); clear hown hb
        go_wp2
        refine bodyPost_ret (v := (.tuple #[u6, .bool true])) (by simp [results, Try.results8, go_sem, *]) rfl ?_
        exact ⟨_, rfl, by rw [HV.out]; exact HH.out.1, HH.out.2⟩
set_option maxHeartbeats 4000000 in
theorem l17Released_any (node : Int) (v : Value) (xs : List Ev) (w : World) (h : RdEv w v xs) :
    Calls Try.prog 35 #[v, .int .i64 node] w fun e w' => ∃ v', e = .returned v' ∧ OwI w.heap.size w' v' (selN (rlF node) xs xs.length) ∧ Below w.heap.size w w' := by
  have hlen := h.2
  obtain ⟨i0, hi, hz0, hz1, hz2⟩ := info_parts infoInt
  obtain ⟨p, cap, b, off, rfl, hcap, hp, hcell⟩ := h.parts
  have HC := Lib.hid hcell; clear hcell
  have HP := Lib.hid hp; clear hp h
  go_enter Try.func35, Try.ntmps35
  go_wp2
  go_loopw [5, 6] (fun v i wr => ∃ n : Nat, n ≤ xs.length ∧ i = .int .i64 n ∧ OwI w.heap.size wr v (selN (rlF node) xs n) ∧ Below w.heap.size w wr) (fun _ i _ => xs.length - (intOf i).toNat)
  case atStart => exact ⟨0, Nat.zero_le _, rfl, lit0 w (Below.refl _ _), below_alloc1 _ _⟩
  case round =>
      obtain ⟨n, hn, rfl, hown, hb⟩ := hrel
      by_cases hlt : n < xs.length
      · obtain rfl := HP.out (by omega)
        obtain ⟨c1, c2, c3, c4⟩ := HC.out n hlt
        have c1 := cell_on hb c1
        have c2 := cell_on hb c2
        have c3 := cell_on hb c3
        have c4 := cell_on hb c4
        have hsl := selN_length (rlF node) xs n
        have hsz := hb.size
        by_cases he : xs[n].n = node
        · by_cases hk4 : xs[n].k = 4
          · have HS := Lib.hid (selN_some (rlF node) xs n xs[n].m hlt (by simp [rlF, he, hk4]))
            have hO := hown.1
            generalize hL : selN (rlF node) xs n = L at *
            go_wp2_with (first | (at_builtin; go_loud (refine wpList_append_own _ rfl _ _ 29 rfl (w.heap.size) 3 i0 (.int .i64 0) 1 8 Try.underlying29 hi hz0 hz1 hz2 rfl (by decide) _ _ _ rfl (hO.alloc _) ⟨wr.heap.size, 0, none⟩ 1 1 [.int .i64 xs[n].m] rfl rfl ?c1 ?c2 ?c3 ?c4 ?c5 ?_)))
            try (case c1 => first | exact cells_new _ #[_] _ | rfl)
            try (case c2 => first | rfl | (intro u hu; simp at hu; subst hu; rfl))
            try (case c3 => first | omega | (unfold maxLen; omega))
            try (case c4 => first | omega | ((try simp only [World.heap_size_alloc]); omega))
            try (case c5 => first | omega | (simp; omega))
            intro v' w2 hown' hgrow
            try intro _
            go_wp2
            go_roundw
            case rel => exact ⟨n + 1, by omega, by go_num, by rw [HS.out]; exact ⟨by simpa using hown', by simp; omega⟩, Below.grown (Below.trans hb (by go_grown)) hgrow (by simp; omega) (fun j hj => (hO.lt j hj).1)⟩
            case measure => simp [intOf]; omega
          · have HS := Lib.hid (selN_none (rlF node) xs n hlt (by simp [rlF, hk4]))
            go_wp2
            go_roundw
            case rel => exact ⟨n + 1, by omega, by go_num, by rw [HS.out]; exact hown.below (by go_grown), by go_grown⟩
            case measure => simp [intOf]; omega
        · have HS := Lib.hid (selN_none (rlF node) xs n hlt (by simp [rlF, he]))
          go_wp2
          go_roundw
          case rel => exact ⟨n + 1, by omega, by go_num, by rw [HS.out]; exact hown.below (by go_grown), by go_grown⟩
          case measure => simp [intOf]; omega
      · obtain rfl : n = xs.length := by omega
        have HH := Lib.hid (And.intro hown hb); clear hown hb
        go_wp2
        refine bodyPost_ret (v := u5) (by simp [results, Try.results35, go_sem, *]) rfl ?_
        exact ⟨_, rfl, HH.out.1, HH.out.2⟩

set_option maxHeartbeats 4000000 in
theorem specReleased_any (node : Int) (v : Value) (xs : List Ev) (w : World) (h : RdEv w v xs) :
    Calls Try.prog 10 #[v, .int .i64 node] w fun e w' => ∃ v', e = .returned (.tuple #[v', .bool (eaB xs node)]) ∧ OwI w.heap.size w' v' (rlL xs node) ∧ Below w.heap.size w w' := by
  have HT := Lib.hid (l17Good_any v xs w h)
  have HR := Lib.hid h
  obtain ⟨p, cap, b, off, rfl, _⟩ := h.parts
  clear h
  cases hB : eaB xs node
  · have HV : Hid (rlL xs node = []) := Lib.hid (by simp [rlL, hB])
    cases h1 : tsB xs
    · rw [h1] at HT
      go_enter Try.func10, Try.ntmps10
      go_wp2_with fail
      refine HT.out.mono ?_
      rintro e w1 ⟨rfl, hb⟩
      have HB := Lib.hid hb; clear hb
      go_wp2
      refine bodyPost_ret (v := (.tuple #[.slice (some ⟨w1.heap.size, 0, none⟩) 0 0, .bool false])) (by simp [results, Try.results10, go_sem, *]) rfl ?_
      exact ⟨_, rfl, by rw [HV.out]; exact (lit0 w1 (Below.refl _ _)).base HB.out.size, HB.out.trans ((below_alloc1 _ _).mono HB.out.size)⟩
    · have h2 : inR node 0 7 = false := by simpa [eaB, h1] using hB
      rw [h1] at HT
      clear h1 hB
      go_enter Try.func10, Try.ntmps10
      go_wp2_with fail
      refine HT.out.mono ?_
      rintro e w1 ⟨rfl, hb⟩
      have HB := Lib.hid hb; clear hb
      go_wp2_with ((go_at_call 34; refine (l17Node_any _ _).mono ?_; rintro e w' ⟨rfl, rfl⟩))
      refine bodyPost_ret (v := (.tuple #[.slice (some ⟨w1.heap.size, 0, none⟩) 0 0, .bool false])) (by simp [results, Try.results10, go_sem, *]) rfl ?_
      exact ⟨_, rfl, by rw [HV.out]; exact (lit0 w1 (Below.refl _ _)).base HB.out.size, HB.out.trans ((below_alloc1 _ _).mono HB.out.size)⟩
  · have HV : Hid (rlL xs node = selN (rlF node) xs xs.length) := Lib.hid (by simp [rlL, hB])
    simp only [eaB, Bool.and_eq_true] at hB
    obtain ⟨h1, h2⟩ := hB
    rw [h1] at HT
    clear h1
    go_enter Try.func10, Try.ntmps10
    go_wp2_with fail
    refine HT.out.mono ?_
    rintro e w1 ⟨rfl, hb⟩
    have HB := Lib.hid hb; clear hb
    go_wp2_with (first | (go_at_call 34; refine (l17Node_any _ _).mono ?_; rintro e w' ⟨rfl, rfl⟩))
    refine (l17Released_any node _ xs w1 (HR.out.below HB.out)).mono ?_
    rintro e w2 ⟨v', rfl, ho, hb2⟩
    have HO := Lib.hid ho; clear ho
    have HB2 := Lib.hid hb2; clear hb2
    go_wp2
    refine bodyPost_ret (v := (.tuple #[v', .bool true])) (by simp [results, Try.results10, go_sem, *]) rfl ?_
    exact ⟨_, rfl, by rw [HV.out]; exact HO.out.base HB.out.size, HB.out.trans (HB2.out.mono HB.out.size)⟩
end Go.Proofs.Ytgmccafmopgjaaa
