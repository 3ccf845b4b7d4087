/- Contracts on what is picked of a trace: the program's and the reference's EventsAt, for all arguments. -/
import Derived.Test.YtoadjmmfejjcfaaEvList
import Derived.Test.YtoadjmmfejjcfaaSelMath
import Derived.Test.YtoadjmmfejjcfaaMem
import Derived.Deep.DeepCutAuto
namespace Go.Proofs.Ytoadjmmfejjcfaa
open Go.RowKit

noncomputable def eaB (xs : List Ev) (node : Int) : Bool := tsB xs && inR node 0 7
def eaF (node : Int) (i : Nat) (x : Ev) : Option Int := if x.n = node then some (i : Int) else none
noncomputable def eaL (xs : List Ev) (node : Int) : List Int := if eaB xs node = true then selN (eaF node) xs xs.length else []

set_option maxHeartbeats 4000000 in
theorem implEvents_any (node : Int) (v : Value) (xs : List Ev) (w : World) (h : RdEv w v xs) :
    Calls Try.prog 22 #[v, .int .i64 node] w fun e w' => ∃ v', e = .returned (.tuple #[v', .bool (eaB xs node)]) ∧ OwI w.heap.size w' v' (eaL xs node) ∧ Below w.heap.size w w' := by
  have HT := Lib.hid (isTrace_any v xs w h)
  have hlen := h.2
  obtain ⟨i0, hi, hz0, hz1, hz2⟩ := info_parts infoInt
  obtain ⟨p, cap, b, off, rfl, hcap, hp, hcell⟩ := h.parts
  have HC := Lib.hid hcell; clear hcell
  have HP := Lib.hid hp; clear hp h
  cases hB : eaB xs node
  · have HV : Hid (eaL xs node = []) := Lib.hid (by simp [eaL, hB])
    cases h1 : tsB xs
    · rw [h1] at HT
      go_enter Try.func22, Try.ntmps22
      go_wp2_with fail
      refine HT.out.mono ?_
      rintro e w1 ⟨rfl, hb⟩
      go_wp2
      refine bodyPost_ret (v := (.tuple #[.slice none 0 0, .bool false])) (by simp [results, Try.results22, go_sem, *]) rfl ?_
      exact ⟨_, rfl, by rw [HV.out]; exact ⟨⟨rfl, .inl ⟨rfl, rfl⟩⟩, Nat.zero_le _⟩, hb⟩
    · have h2 : inR node 0 7 = false := by simpa [eaB, h1] using hB
      rw [h1] at HT
      clear h1 hB
      go_enter Try.func22, Try.ntmps22
      go_wp2_with fail
      refine HT.out.mono ?_
      rintro e w1 ⟨rfl, hb⟩
      have HB := Lib.hid hb; clear hb
      go_wp2_with ((go_at_call 56; refine (isNode_any _ _).mono ?_; rintro e w' ⟨rfl, rfl⟩))
      refine bodyPost_ret (v := (.tuple #[.slice none 0 0, .bool false])) (by simp [results, Try.results22, go_sem, *]) rfl ?_
      exact ⟨_, rfl, by rw [HV.out]; exact ⟨⟨rfl, .inl ⟨rfl, rfl⟩⟩, Nat.zero_le _⟩, HB.out⟩
  · have HV : Hid (eaL xs node = selN (eaF node) xs xs.length) := Lib.hid (by simp [eaL, hB])
    simp only [eaB, Bool.and_eq_true] at hB
    obtain ⟨h1, h2⟩ := hB
    have h30 := (tsB_true.1 h1).1
    rw [h1] at HT
    clear h1
    go_enter Try.func22, Try.ntmps22
    go_wp2_with fail
    refine HT.out.mono ?_
    rintro e w1 ⟨rfl, hb⟩
    have HB := Lib.hid hb; clear hb
    go_wp2_with ((go_at_call 56; refine (isNode_any _ _).mono ?_; rintro e w' ⟨rfl, rfl⟩))
    go_loopw [6, 19] (fun v i wr => ∃ n : Nat, n ≤ xs.length ∧ i = .int .i64 n ∧ OwI w.heap.size wr v (selN (eaF node) xs n) ∧ Below w.heap.size w wr) (fun _ i _ => xs.length - (intOf i).toNat)
    case atStart => exact ⟨0, Nat.zero_le _, rfl, ⟨⟨rfl, .inl ⟨rfl, rfl⟩⟩, Nat.zero_le _⟩, HB.out⟩
    case round =>
      clear HB
      obtain ⟨n, hn, rfl, hown, hb⟩ := hrel
      by_cases hlt : n < xs.length
      · obtain rfl := HP.out (by omega)
        obtain ⟨c1, c2, c3, c4⟩ := HC.out n hlt
        have c1 := cell_on hb c1
        have c2 := cell_on hb c2
        have c3 := cell_on hb c3
        have c4 := cell_on hb c4
        have hsl := selN_length (eaF node) xs n
        have hsz := hb.size
        by_cases he : xs[n].n = node
        · have HS := Lib.hid (selN_some (eaF node) xs n n hlt (by simp [eaF, he]))
          have hO := hown.1
          generalize hL : selN (eaF node) xs n = L at *
          go_wp2_with (first | (at_builtin; refine wpList_append_own _ rfl _ _ 35 rfl (w.heap.size) 3 i0 (.int .i64 0) 1 8 Try.underlying35 hi hz0 hz1 hz2 rfl (by decide) _ _ _ rfl ((hO.alloc _).alloc _) ⟨wr.heap.size + 1, 0, none⟩ 1 1 [.int .i64 n] rfl rfl ?c1 ?c2 ?c3 ?c4 ?c5 ?_))
          try (case c1 => first | exact cells_new _ #[_] _ | rfl)
          try (case c2 => first | rfl | (intro u hu; simp at hu; subst hu; rfl))
          try (case c3 => first | omega | (unfold maxLen; omega))
          try (case c4 => first | omega | ((try simp only [World.heap_size_alloc]); omega))
          try (case c5 => first | omega | (simp; omega))
          intro v' w1 hown' hgrow
          try intro _
          go_wp2
          go_roundw
          case rel => exact ⟨n + 1, by omega, by go_num, by rw [HS.out]; exact ⟨by simpa using hown', by simp; omega⟩, Below.grown (Below.trans hb (by go_grown)) hgrow (by simp; omega) (fun j hj => (hO.lt j hj).1)⟩
          case measure => simp [intOf]; omega
        · have HS := Lib.hid (selN_none (eaF node) xs n hlt (by simp [eaF, he]))
          go_wp2
          go_roundw
          case rel => exact ⟨n + 1, by omega, by go_num, by rw [HS.out]; exact hown.below (by go_grown), by go_grown⟩
          case measure => simp [intOf]; omega
      · obtain rfl : n = xs.length := by omega
        have HH := Lib.hid (And.intro hown hb); clear hown hb
        go_wp2
        refine bodyPost_ret (v := (.tuple #[u6, .bool true])) (by simp [results, Try.results22, go_sem, *]) rfl ?_
        exact ⟨_, rfl, by rw [HV.out]; exact HH.out.1, HH.out.2⟩
/-- an empty literal that was laid first -/
theorem lit0 (w : World) {w1 : World} (hb : Below (w.alloc (.cells #[] 3)).heap.size (w.alloc (.cells #[] 3)) w1) : OwI w.heap.size w1 (.slice (some ⟨w.heap.size, 0, none⟩) 0 0) [] :=
  OwI.below ⟨World.ownsRow_lit w #[] 0 (Nat.le_refl _) (Nat.zero_le _) rfl, Nat.zero_le _⟩ hb

set_option maxHeartbeats 4000000 in
theorem specEvents_any (node : Int) (v : Value) (xs : List Ev) (w : World) (h : RdEv w v xs) :
    Calls Try.prog 21 #[v, .int .i64 node] w fun e w' => ∃ v', e = .returned (.tuple #[v', .bool (eaB xs node)]) ∧ OwI w.heap.size w' v' (eaL xs node) ∧ Below w.heap.size w w' := by
  have HR := Lib.hid h
  have HT := Lib.hid (l17Good_any v xs)
  have hlen := h.2
  obtain ⟨i0, hi, hz0, hz1, hz2⟩ := info_parts infoInt
  obtain ⟨p, cap, b, off, rfl, hcap, hp, hcell⟩ := h.parts
  have HC := Lib.hid hcell; clear hcell
  have HP := Lib.hid hp; clear hp h
  cases hB : eaB xs node
  · have HV : Hid (eaL xs node = []) := Lib.hid (by simp [eaL, hB])
    cases h1 : tsB xs
    · simp only [h1] at HT
      go_enter Try.func21, Try.ntmps21
      go_wp2_with fail
      refine (HT.out _ (HR.out.below (by go_grown))).mono ?_
      rintro e w1 ⟨rfl, hb⟩
      have HE := Lib.hid (lit0 w hb)
      have HB := Lib.hid (Below.trans (by go_grown) (hb.mono (by simp)) : Below w.heap.size w w1); clear hb
      go_wp2
      refine bodyPost_ret (v := (.tuple #[.slice (some ⟨w.heap.size, 0, none⟩) 0 0, .bool false])) (by simp [results, Try.results21, go_sem, *]) rfl ?_
      exact ⟨_, rfl, by rw [HV.out]; exact HE.out, HB.out⟩
    · have h2 : inR node 0 7 = false := by simpa [eaB, h1] using hB
      simp only [h1] at HT
      clear h1 hB
      go_enter Try.func21, Try.ntmps21
      go_wp2_with fail
      refine (HT.out _ (HR.out.below (by go_grown))).mono ?_
      rintro e w1 ⟨rfl, hb⟩
      have HE := Lib.hid (lit0 w hb)
      have HB := Lib.hid (Below.trans (by go_grown) (hb.mono (by simp)) : Below w.heap.size w w1); clear hb
      go_wp2_with ((go_at_call 53; refine (l17Node_any _ _).mono ?_; rintro e w' ⟨rfl, rfl⟩))
      refine bodyPost_ret (v := (.tuple #[.slice (some ⟨w.heap.size, 0, none⟩) 0 0, .bool false])) (by simp [results, Try.results21, go_sem, *]) rfl ?_
      exact ⟨_, rfl, by rw [HV.out]; exact HE.out, HB.out⟩
  · have HV : Hid (eaL xs node = selN (eaF node) xs xs.length) := Lib.hid (by simp [eaL, hB])
    simp only [eaB, Bool.and_eq_true] at hB
    obtain ⟨h1, h2⟩ := hB
    have h30 := (tsB_true.1 h1).1
    simp only [h1] at HT
    clear h1
    go_enter Try.func21, Try.ntmps21
    go_wp2_with fail
    refine (HT.out _ (HR.out.below (by go_grown))).mono ?_
    rintro e w1 ⟨rfl, hb⟩
    have HE := Lib.hid (lit0 w hb)
    have HB := Lib.hid (Below.trans (by go_grown) (hb.mono (by simp)) : Below w.heap.size w w1); clear hb
    go_wp2_with ((go_at_call 53; refine (l17Node_any _ _).mono ?_; rintro e w' ⟨rfl, rfl⟩))
    go_loopw [6, 7] (fun v i wr => ∃ n : Nat, n ≤ xs.length ∧ i = .int .i64 n ∧ OwI w.heap.size wr v (selN (eaF node) xs n) ∧ Below w.heap.size w wr) (fun _ i _ => xs.length - (intOf i).toNat)
    case atStart => exact ⟨0, Nat.zero_le _, rfl, HE.out, HB.out⟩
    case round =>
      clear HB HE
      obtain ⟨n, hn, rfl, hown, hb⟩ := hrel
      by_cases hlt : n < xs.length
      · obtain rfl := HP.out (by omega)
        obtain ⟨c1, c2, c3, c4⟩ := HC.out n hlt
        have c1 := cell_on hb c1
        have c2 := cell_on hb c2
        have c3 := cell_on hb c3
        have c4 := cell_on hb c4
        have hsl := selN_length (eaF node) xs n
        have hsz := hb.size
        by_cases he : xs[n].n = node
        · have HS := Lib.hid (selN_some (eaF node) xs n n hlt (by simp [eaF, he]))
          have hO := hown.1
          generalize hL : selN (eaF node) xs n = L at *
          go_wp2_with (first | (at_builtin; refine wpList_append_own _ rfl _ _ 35 rfl (w.heap.size) 3 i0 (.int .i64 0) 1 8 Try.underlying35 hi hz0 hz1 hz2 rfl (by decide) _ _ _ rfl (hO.alloc _) ⟨wr.heap.size, 0, none⟩ 1 1 [.int .i64 n] rfl rfl ?c1 ?c2 ?c3 ?c4 ?c5 ?_))
          try (case c1 => first | exact cells_new _ #[_] _ | rfl)
          try (case c2 => first | rfl | (intro u hu; simp at hu; subst hu; rfl))
          try (case c3 => first | omega | (unfold maxLen; omega))
          try (case c4 => first | omega | ((try simp only [World.heap_size_alloc]); omega))
          try (case c5 => first | omega | (simp; omega))
          intro v' w1 hown' hgrow
          try intro _
          go_wp2
          go_roundw
          case rel => exact ⟨n + 1, by omega, by go_num, by rw [HS.out]; exact ⟨by simpa using hown', by simp; omega⟩, Below.grown (Below.trans hb (by go_grown)) hgrow (by simp; omega) (fun j hj => (hO.lt j hj).1)⟩
          case measure => simp [intOf]; omega
        · have HS := Lib.hid (selN_none (eaF node) xs n hlt (by simp [eaF, he]))
          go_wp2
          go_roundw
          case rel => exact ⟨n + 1, by omega, by go_num, by rw [HS.out]; exact hown.below (by go_grown), by go_grown⟩
          case measure => simp [intOf]; omega
      · obtain rfl : n = xs.length := by omega
        have HH := Lib.hid (And.intro hown hb); clear hown hb
        go_wp2
        refine bodyPost_ret (v := (.tuple #[u6, .bool true])) (by simp [results, Try.results21, go_sem, *]) rfl ?_
        exact ⟨_, rfl, by rw [HV.out]; exact HH.out.1, HH.out.2⟩
end Go.Proofs.Ytoadjmmfejjcfaa
