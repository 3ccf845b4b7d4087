/- What is sent by a script: the program's and the reference's SentItems, for all lists of at most 2^30 steps. -/
import Derived.Test.YtbkkggbpekhenaaDoorScr1
import Derived.Test.YtbkkggbpekhenaaDoorSelMath
import Derived.Test.YtbkkggbpekhenaaDoorStrS
namespace Go.Proofs.YtbkkggbpekhenaaDoor
open Go.RowKit

def siF (_ : Nat) (x : St) : Option ByteArray := if x.kd = 1 then some x.dt else none
def siL (xs : List St) : List ByteArray := if scB xs = true then selN siF xs xs.length else []
theorem siN_ok (xs : List St) (h : ∀ x ∈ xs, x.ok) (n : Nat) : ∀ r ∈ selN siF xs n, r.size ≤ 9223372036854775807 :=
  selN_all siF xs (fun r => r.size ≤ 9223372036854775807) (fun i hi r hr => by
    unfold siF at hr
    split at hr
    · cases hr; exact h _ (List.getElem_mem hi)
    · cases hr) n

set_option maxRecDepth 100000 in
set_option maxHeartbeats 4000000 in
theorem implSent_any (v : Value) (xs : List St) (w : World) (h : RdSt w v xs) :
    Calls Tryd.prog 27 #[v] w fun e w' => ∃ v', e = .returned (.tuple #[v', .bool (scB xs)]) ∧ OwS w.heap.size w' v' (siL xs) ∧ Below w.heap.size w w' := by
  have HT := Lib.hid (implIsScript_any v xs w h)
  have hlen := h.2.1
  have hok := Lib.hid (siN_ok xs h.2.2)
  obtain ⟨i0, hi, hz0, hz1, hz2⟩ := info_parts infoStr
  obtain ⟨p, cap, b, off, rfl, hcap, hp, hcell⟩ := h.parts
  have HC := Lib.hid hcell; clear hcell
  have HP := Lib.hid hp; clear hp h
  cases hB : scB xs
  · have HV : Hid (siL xs = []) := Lib.hid (by simp [siL, hB])
    rw [hB] at HT
    go_enter Tryd.func27, Tryd.ntmps27
    go_wp2_with fail
    refine HT.out.mono ?_
    rintro e w1 ⟨rfl, hb⟩
    have HB := Lib.hid hb; clear hb
    go_wp2
    refine bodyPost_ret (v := (.tuple #[.slice none 0 0, .bool false])) (by simp [results, Tryd.results27, go_sem, *]) rfl ?_
    exact ⟨_, rfl, by rw [HV.out]; exact owS_nil _ _, HB.out⟩
  · have HV : Hid (siL xs = selN siF xs xs.length) := Lib.hid (by simp [siL, hB])
    obtain ⟨h30, hgood⟩ := scB_true.1 hB
    rw [hB] at HT
    clear hB hgood
    go_enter Tryd.func27, Tryd.ntmps27
    go_wp2_with fail
    refine HT.out.mono ?_
    rintro e w1 ⟨rfl, hb⟩
    have HB := Lib.hid hb; clear hb
    go_wp2
    go_loopw [4, 12] (fun v i wr => ∃ n : Nat, n ≤ xs.length ∧ i = .int .i64 n ∧ OwS w.heap.size wr v (selN siF xs n) ∧ Below w.heap.size w wr) (fun _ i _ => xs.length - (intOf i).toNat)
    case atStart => exact ⟨0, Nat.zero_le _, rfl, owS_nil _ _, HB.out⟩
    case round =>
      clear HB
      obtain ⟨n, hn, rfl, hown, hb⟩ := hrel
      by_cases hlt : n < xs.length
      · obtain rfl := HP.out (by omega)
        obtain ⟨c1, c2, c3⟩ := HC.out n hlt
        have c1 := cell_on hb c1
        have c2 := cell_on hb c2
        have c3 := cell_on hb c3
        have hsl := selN_length siF xs n
        have hsz := hb.size
        have HO1 := Lib.hid (hok.out (n + 1))
        by_cases he : xs[n].kd = 1
        · have HS := Lib.hid (selN_some siF xs n xs[n].dt hlt (by simp [siF, he]))
          have hO := hown.1
          generalize hL : selN siF xs n = L at *
          clear hown
          go_wp2_with (first | (at_builtin; go_loud (refine wpList_append_own _ rfl _ _ 48 rfl (w.heap.size) 9 i0 (.string ⟨#[]⟩) 1 16 Tryd.underlying48 hi hz0 hz1 hz2 rfl (by decide) _ _ _ rfl ((hO.alloc _).alloc _) ⟨wr.heap.size + 1, 0, none⟩ 1 1 [.string xs[n].dt] rfl rfl ?c1 ?c2 ?c3 ?c4 ?c5 ?_)))
          try (case c1 => first | exact cells_new _ #[.string xs[n].dt] _ | exact cells_at _ #[.string xs[n].dt] _ (by simp) | rfl)
          try (case c2 => first | rfl | exact ⟨rfl, rfl, rfl⟩ | exact ⟨rfl, rfl⟩ | (intro u hu; simp at hu; rcases hu with rfl | rfl | rfl | rfl <;> rfl) | (intro u hu; simp at hu; rcases hu with rfl | rfl | rfl <;> rfl) | (intro u hu; simp at hu; rcases hu with rfl | rfl <;> rfl) | (intro u hu; simp at hu; subst hu; rfl))
          try (case c3 => first | omega | (unfold maxLen; omega))
          try (case c4 => first | omega | ((try simp only [World.heap_size_alloc]); omega))
          try (case c5 => first | omega | (simp; omega))
          intro v' w2 hown' hgrow
          try intro _
          go_wp2
          go_roundw
          case rel => exact ⟨n + 1, by omega, by go_num, by rw [HS.out]; exact ⟨by simpa using hown', by simp; omega, by rw [← HS.out]; exact HO1.out⟩, Below.grown (Below.trans hb (by go_grown)) hgrow (by simp; omega) (fun j hj => (hO.lt j hj).1)⟩
          case measure => simp [intOf]; omega
        · have HS := Lib.hid (selN_none siF xs n hlt (by simp [siF, he]))
          go_wp2
          go_roundw
          case rel => exact ⟨n + 1, by omega, by go_num, by rw [HS.out]; exact hown.below (by go_grown), by go_grown⟩
          case measure => simp [intOf]; omega
      · obtain rfl : n = xs.length := by omega
        have HH := Lib.hid (And.intro hown hb); clear hown hb
        go_wp2
        refine bodyPost_ret (v := (.tuple #[u4, .bool true])) (by simp [results, Tryd.results27, go_sem, *]) rfl ?_
        exact ⟨_, rfl, by rw [HV.out]; exact HH.out.1, HH.out.2⟩

set_option maxRecDepth 100000 in
set_option maxHeartbeats 4000000 in
theorem specSent_any (v : Value) (xs : List St) (w : World) (h : RdSt w v xs) :
    Calls Tryd.prog 36 #[v] w fun e w' => ∃ v', e = .returned (.tuple #[v', .bool (scB xs)]) ∧ OwS w.heap.size w' v' (siL xs) ∧ Below w.heap.size w w' := by
  have HT := Lib.hid (fun w => l16Good_any v xs w)
  have HR := Lib.hid h
  have hlen := h.2.1
  have hok := Lib.hid (siN_ok xs h.2.2)
  obtain ⟨i0, hi, hz0, hz1, hz2⟩ := info_parts infoStr
  obtain ⟨p, cap, b, off, rfl, hcap, hp, hcell⟩ := h.parts
  have HC := Lib.hid hcell; clear hcell
  have HP := Lib.hid hp; clear hp h
  cases hB : scB xs
  · have HV : Hid (siL xs = []) := Lib.hid (by simp [siL, hB])
    rw [hB] at HT
    go_enter Tryd.func36, Tryd.ntmps36
    go_wp2_with fail
    refine (HT.out _ (HR.out.below (by go_grown))).mono ?_
    rintro e w1 ⟨rfl, hb⟩
    have HE : Hid (OwS w.heap.size w1 (.slice (some ⟨w.heap.size, 0, none⟩) 0 0) []) := Lib.hid (OwS.below ⟨World.ownsRow_lit w #[] 0 (Nat.le_refl _) (Nat.zero_le _) rfl, by simp, by simp⟩ hb)
    have HB := Lib.hid (Below.trans (by go_grown) (hb.mono (by simp)) : Below w.heap.size w w1); clear hb
    go_wp2
    refine bodyPost_ret (v := (.tuple #[.slice (some ⟨w.heap.size, 0, none⟩) 0 0, .bool false])) (by simp [results, Tryd.results36, go_sem, *]) rfl ?_
    exact ⟨_, rfl, by rw [HV.out]; exact HE.out, HB.out⟩
  · have HV : Hid (siL xs = selN siF xs xs.length) := Lib.hid (by simp [siL, hB])
    obtain ⟨h30, hgood⟩ := scB_true.1 hB
    rw [hB] at HT
    clear hB hgood
    go_enter Tryd.func36, Tryd.ntmps36
    go_wp2_with fail
    refine (HT.out _ (HR.out.below (by go_grown))).mono ?_
    rintro e w1 ⟨rfl, hb⟩
    have HE : Hid (OwS w.heap.size w1 (.slice (some ⟨w.heap.size, 0, none⟩) 0 0) []) := Lib.hid (OwS.below ⟨World.ownsRow_lit w #[] 0 (Nat.le_refl _) (Nat.zero_le _) rfl, by simp, by simp⟩ hb)
    have HB := Lib.hid (Below.trans (by go_grown) (hb.mono (by simp)) : Below w.heap.size w w1); clear hb
    go_wp2
    go_loopw [4, 5] (fun v i wr => ∃ n : Nat, n ≤ xs.length ∧ i = .int .i64 n ∧ OwS w.heap.size wr v (selN siF xs n) ∧ Below w.heap.size w wr) (fun _ i _ => xs.length - (intOf i).toNat)
    case atStart => exact ⟨0, Nat.zero_le _, rfl, HE.out, HB.out⟩
    case round =>
      clear HB HE
      obtain ⟨n, hn, rfl, hown, hb⟩ := hrel
      by_cases hlt : n < xs.length
      · obtain rfl := HP.out (by omega)
        obtain ⟨c1, c2, c3⟩ := HC.out n hlt
        have c1 := cell_on hb c1
        have c2 := cell_on hb c2
        have c3 := cell_on hb c3
        have hsl := selN_length siF xs n
        have hsz := hb.size
        have HO1 := Lib.hid (hok.out (n + 1))
        by_cases he : xs[n].kd = 1
        · have HS := Lib.hid (selN_some siF xs n xs[n].dt hlt (by simp [siF, he]))
          have hO := hown.1
          generalize hL : selN siF xs n = L at *
          clear hown
          go_wp2_with (first | (at_builtin; go_loud (refine wpList_append_own _ rfl _ _ 48 rfl (w.heap.size) 9 i0 (.string ⟨#[]⟩) 1 16 Tryd.underlying48 hi hz0 hz1 hz2 rfl (by decide) _ _ _ rfl (hO.alloc _) ⟨wr.heap.size, 0, none⟩ 1 1 [.string xs[n].dt] rfl rfl ?c1 ?c2 ?c3 ?c4 ?c5 ?_)))
          try (case c1 => first | exact cells_new _ #[.string xs[n].dt] _ | exact cells_at _ #[.string xs[n].dt] _ (by simp) | rfl)
          try (case c2 => first | rfl | exact ⟨rfl, rfl, rfl⟩ | exact ⟨rfl, rfl⟩ | (intro u hu; simp at hu; rcases hu with rfl | rfl | rfl | rfl <;> rfl) | (intro u hu; simp at hu; rcases hu with rfl | rfl | rfl <;> rfl) | (intro u hu; simp at hu; rcases hu with rfl | rfl <;> rfl) | (intro u hu; simp at hu; subst hu; rfl))
          try (case c3 => first | omega | (unfold maxLen; omega))
          try (case c4 => first | omega | ((try simp only [World.heap_size_alloc]); omega))
          try (case c5 => first | omega | (simp; omega))
          intro v' w2 hown' hgrow
          try intro _
          go_wp2
          go_roundw
          case rel => exact ⟨n + 1, by omega, by go_num, by rw [HS.out]; exact ⟨by simpa using hown', by simp; omega, by rw [← HS.out]; exact HO1.out⟩, Below.grown (Below.trans hb (by go_grown)) hgrow (by simp; omega) (fun j hj => (hO.lt j hj).1)⟩
          case measure => simp [intOf]; omega
        · have HS := Lib.hid (selN_none siF xs n hlt (by simp [siF, he]))
          go_wp2
          go_roundw
          case rel => exact ⟨n + 1, by omega, by go_num, by rw [HS.out]; exact hown.below (by go_grown), by go_grown⟩
          case measure => simp [intOf]; omega
      · obtain rfl : n = xs.length := by omega
        have HH := Lib.hid (And.intro hown hb); clear hown hb
        go_wp2
        refine bodyPost_ret (v := (.tuple #[u4, .bool true])) (by simp [results, Tryd.results36, go_sem, *]) rfl ?_
        exact ⟨_, rfl, by rw [HV.out]; exact HH.out.1, HH.out.2⟩
end Go.Proofs.YtbkkggbpekhenaaDoor
