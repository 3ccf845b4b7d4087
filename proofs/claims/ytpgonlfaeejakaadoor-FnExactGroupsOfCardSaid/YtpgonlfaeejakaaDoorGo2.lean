/- The groups of a node: the program's GroupsOf and the reference's, for all lists of at most 2^30 groups. Condition: names of at most 2^20 bytes. -/
import Derived.Test.YtpgonlfaeejakaaDoorGo1
import Derived.Test.YtpgonlfaeejakaaDoorSelMath
namespace Go.Proofs.YtpgonlfaeejakaaDoor
open Go.RowKit

def goF (n : Int) (_ : Nat) (p : Gr × Value) : Option ByteArray := if hasB p.1.ms n = true then some p.1.nm else none
def goB (ps : List (Gr × Value)) (n : Int) : Bool := gsB ps && inR n 1 7
def goL (ps : List (Gr × Value)) (n : Int) : List ByteArray := if goB ps n = true then selN (goF n) ps ps.length else []
theorem goN_ok (ps : List (Gr × Value)) (n : Int) (h : ∀ p ∈ ps, p.1.nm.size ≤ 1048576) (m : Nat) : ∀ r ∈ selN (goF n) ps m, r.size ≤ 9223372036854775807 := by
  refine selN_all (goF n) ps _ (fun i hi r hr => ?_) m
  unfold goF at hr
  split at hr
  · cases hr
    have := h ps[i] (List.getElem_mem hi)
    omega
  · cases hr
set_option maxRecDepth 100000 in
set_option maxHeartbeats 4000000 in
theorem implGroupsOf_any (v : Value) (ps : List (Gr × Value)) (n : Int) (w : World) (h : GrAt w v ps) :
    Calls Tryd.prog 11 #[v, .int .i64 n] w fun e w' => ∃ v', e = .returned (.tuple #[v', .bool (goB ps n)]) ∧ OwS w.heap.size w' v' (goL ps n) ∧ Below w.heap.size w w' := by
  have HT := Lib.hid (fun w h => isGroupList_any v ps w h)
  have HNd := Lib.hid (fun w => gFace_any n w)
  have hlen := h.2.1
  have HR := Lib.hid h
  have hok := Lib.hid (goN_ok ps n (fun p hp => (h.2.2 p hp).1))
  obtain ⟨i0, hi, hz0, hz1, hz2⟩ := info_parts infoStr
  obtain ⟨p, cap, b, off, rfl, hcap, hp, hcell⟩ := h.parts
  have HC := Lib.hid hcell; clear hcell
  have HP := Lib.hid hp; clear hp h
  cases hB : gsB ps
  · have HG : Hid (goB ps n = false) := Lib.hid (by rw [goB, hB]; rfl)
    have HV : Hid (goL ps n = []) := Lib.hid (by rw [goL, HG.out]; rfl)
    rw [hB] at HT
    clear hB
    go_enter Tryd.func11, Tryd.ntmps11
    go_wp2_with fail
    refine (HT.out _ (HR.out.below (Below.refl _ _))).mono ?_
    rintro e w1 ⟨rfl, hb⟩
    have HB := Lib.hid (hb); clear hb
    go_wp2_with fail
    refine bodyPost_ret (v := (.tuple #[(.slice none 0 0), .bool false])) (by simp [results, Tryd.results11, go_sem, *]) rfl ?_
    exact ⟨_, by rw [HG.out], by rw [HV.out]; exact owS_nil _ _, HB.out⟩
  · cases hN : inR n 1 7
    · have HG : Hid (goB ps n = false) := Lib.hid (by rw [goB, hN, Bool.and_false])
      have HV : Hid (goL ps n = []) := Lib.hid (by rw [goL, HG.out]; rfl)
      rw [hB] at HT
      rw [hN] at HNd
      clear hB hN
      go_enter Tryd.func11, Tryd.ntmps11
      go_wp2_with fail
      refine (HT.out _ (HR.out.below (Below.refl _ _))).mono ?_
      rintro e w1 ⟨rfl, hb⟩
      have HB := Lib.hid (hb); clear hb
      go_wp2_with fail
      refine (HNd.out _).mono ?_
      rintro e w2 ⟨rfl, rfl⟩
      go_wp2_with fail
      refine bodyPost_ret (v := (.tuple #[(.slice none 0 0), .bool false])) (by simp [results, Tryd.results11, go_sem, *]) rfl ?_
      exact ⟨_, by rw [HG.out], by rw [HV.out]; exact owS_nil _ _, HB.out⟩
    · have HG : Hid (goB ps n = true) := Lib.hid (by rw [goB, hB, hN]; rfl)
      have HV : Hid (goL ps n = selN (goF n) ps ps.length) := Lib.hid (by rw [goL, if_pos HG.out])
      rw [hB] at HT
      rw [hN] at HNd
      clear hB hN
      go_enter Tryd.func11, Tryd.ntmps11
      go_wp2_with fail
      refine (HT.out _ (HR.out.below (Below.refl _ _))).mono ?_
      rintro e w1 ⟨rfl, hb⟩
      have HB := Lib.hid (hb); clear hb
      go_wp2_with fail
      refine (HNd.out _).mono ?_
      rintro e w2 ⟨rfl, rfl⟩
      have hO0 : OwS w.heap.size _ _ [] := owS_nil w.heap.size w1
      go_wp2
      go_loopw [6, 19] (fun v i wr => ∃ m : Nat, m ≤ ps.length ∧ i = .int .i64 m ∧ OwS w.heap.size wr v (selN (goF n) ps m) ∧ Below w.heap.size w wr) (fun _ i _ => ps.length - (intOf i).toNat)
      case atStart => exact ⟨0, Nat.zero_le _, rfl, hO0, HB.out⟩
      case round =>
        clear HB hO0
        obtain ⟨m, hm, rfl, hown, hb⟩ := hrel
        by_cases hlt : m < ps.length
        · obtain rfl := HP.out (by omega)
          obtain ⟨c1, c2⟩ := HC.out m hlt
          have hr := (HR.out.2.2 ps[m] (List.getElem_mem hlt)).2
          obtain ⟨q, qc, _, _, hq, _, _, _⟩ := hr.parts
          rw [hq] at c2 hr
          clear hq
          have c1 := cell_on hb c1
          have c2 := cell_on hb c2
          have hsl := selN_length (goF n) ps m
          have hsz := hb.size
          have HO1 := Lib.hid (hok.out (m + 1))
          have HH := Lib.hid (fun w (hh : RdI w (.slice q ps[m].1.ms.length qc) ps[m].1.ms) => containsI_any (.slice q ps[m].1.ms.length qc) ps[m].1.ms n w hh)
          have HRd := Lib.hid hr; clear hr
          cases he : hasB ps[m].1.ms n
          · have HS := Lib.hid (selN_none (goF n) ps m hlt (by simp [goF, he]))
            rw [he] at HH
            clear he
            go_wp2_with fail
            refine (HH.out _ (HRd.out.below (hb.trans (Below.mono (by go_grown) hb.size)))).mono ?_
            rintro e w3 ⟨rfl, rfl⟩
            go_wp2
            go_roundw
            case rel => exact ⟨m + 1, by omega, by go_num, by rw [HS.out]; exact hown.below (by go_grown), by go_grown⟩
            case measure => simp [intOf]; omega
          · have HS := Lib.hid (selN_some (goF n) ps m ps[m].1.nm hlt (by simp [goF, he]))
            rw [he] at HH
            clear he
            go_wp2_with fail
            refine (HH.out _ (HRd.out.below (hb.trans (Below.mono (by go_grown) hb.size)))).mono ?_
            rintro e w3 ⟨rfl, rfl⟩
            have hO := hown.1
            generalize hL : selN (goF n) ps m = L at *
            clear hown
            go_wp2_with (first | (at_builtin; go_loud (refine wpList_append_own _ rfl _ _ 29 rfl (w.heap.size) 9 i0 (.string ⟨#[]⟩) 1 16 Tryd.underlying29 hi hz0 hz1 hz2 rfl (by decide) _ _ _ rfl ((hO.alloc _).alloc _) ⟨_, 0, none⟩ 1 1 [.string ps[m].1.nm] rfl rfl ?c1 ?c2 ?c3 ?c4 ?c5 ?_)))
            try (case c1 => first | exact cells_new _ #[.string ps[m].1.nm] _ | exact cells_at _ #[.string ps[m].1.nm] _ (by simp) | rfl)
            try (case c2 => first | rfl | exact ⟨rfl, rfl, rfl⟩ | exact ⟨rfl, rfl⟩ | (intro u hu; simp at hu; rcases hu with rfl | rfl | rfl | rfl <;> rfl) | (intro u hu; simp at hu; rcases hu with rfl | rfl | rfl <;> rfl) | (intro u hu; simp at hu; rcases hu with rfl | rfl <;> rfl) | (intro u hu; simp at hu; subst hu; rfl))
            try (case c3 => first | omega | (unfold maxLen; omega))
            try (case c4 => first | omega | ((try simp only [World.heap_size_alloc]); omega))
            try (case c5 => first | omega | (simp; omega))
            intro v' w2 hown' hgrow
            try intro _
            go_wp2
            go_roundw
            case rel => exact ⟨m + 1, by omega, by go_num, by rw [HS.out]; exact ⟨by simpa using hown', by simp; omega, by rw [← HS.out]; exact HO1.out⟩, Below.grown (Below.trans hb (by go_grown)) hgrow (by simp; omega) (fun j hj => (hO.lt j hj).1)⟩
            case measure => simp [intOf]; omega
        · obtain rfl : m = ps.length := by omega
          have HH := Lib.hid (And.intro hown hb); clear hown hb
          go_wp2
          refine bodyPost_ret (v := (.tuple #[u6, .bool true])) (by simp [results, Tryd.results11, go_sem, *]) rfl ?_
          exact ⟨_, by rw [HG.out], by rw [HV.out]; exact HH.out.1, HH.out.2⟩
set_option maxRecDepth 100000 in
set_option maxHeartbeats 4000000 in
theorem specGroupsOf_any (v : Value) (ps : List (Gr × Value)) (n : Int) (w : World) (h : GrAt w v ps) :
    Calls Tryd.prog 10 #[v, .int .i64 n] w fun e w' => ∃ v', e = .returned (.tuple #[v', .bool (goB ps n)]) ∧ OwS w.heap.size w' v' (goL ps n) ∧ Below w.heap.size w w' := by
  have HT := Lib.hid (fun w h => l21Good_any v ps w h)
  have HNd := Lib.hid (fun w => l21Node_any n w)
  have hlen := h.2.1
  have HR := Lib.hid h
  have hok := Lib.hid (goN_ok ps n (fun p hp => (h.2.2 p hp).1))
  obtain ⟨i0, hi, hz0, hz1, hz2⟩ := info_parts infoStr
  obtain ⟨p, cap, b, off, rfl, hcap, hp, hcell⟩ := h.parts
  have HC := Lib.hid hcell; clear hcell
  have HP := Lib.hid hp; clear hp h
  have HL0 : Hid (OwS w.heap.size (w.alloc (.cells #[] 9)) (.slice (some ⟨w.heap.size, 0, none⟩) 0 0) []) := Lib.hid ⟨World.ownsRow_lit w #[] 0 (Nat.le_refl _) (Nat.zero_le _) rfl, by simp, by simp⟩
  have HB0 : Hid (Below w.heap.size w (w.alloc (.cells #[] 9))) := Lib.hid (below_alloc1 _ _)
  cases hB : gsB ps
  · have HG : Hid (goB ps n = false) := Lib.hid (by rw [goB, hB]; rfl)
    have HV : Hid (goL ps n = []) := Lib.hid (by rw [goL, HG.out]; rfl)
    rw [hB] at HT
    clear hB
    go_enter Tryd.func10, Tryd.ntmps10
    go_wp2_with fail
    refine (HT.out _ (HR.out.below HB0.out)).mono ?_
    rintro e w1 ⟨rfl, hb⟩
    have HB := Lib.hid (HB0.out.trans (hb.mono HB0.out.size)); have HL1 := Lib.hid (HL0.out.below hb); clear hb
    go_wp2_with fail
    refine bodyPost_ret (v := (.tuple #[(.slice (some ⟨w.heap.size, 0, none⟩) 0 0), .bool false])) (by simp [results, Tryd.results10, go_sem, *]) rfl ?_
    exact ⟨_, by rw [HG.out], by rw [HV.out]; exact HL1.out, HB.out⟩
  · cases hN : inR n 1 7
    · have HG : Hid (goB ps n = false) := Lib.hid (by rw [goB, hN, Bool.and_false])
      have HV : Hid (goL ps n = []) := Lib.hid (by rw [goL, HG.out]; rfl)
      rw [hB] at HT
      rw [hN] at HNd
      clear hB hN
      go_enter Tryd.func10, Tryd.ntmps10
      go_wp2_with fail
      refine (HT.out _ (HR.out.below HB0.out)).mono ?_
      rintro e w1 ⟨rfl, hb⟩
      have HB := Lib.hid (HB0.out.trans (hb.mono HB0.out.size)); have HL1 := Lib.hid (HL0.out.below hb); clear hb
      go_wp2_with fail
      refine (HNd.out _).mono ?_
      rintro e w2 ⟨rfl, rfl⟩
      go_wp2_with fail
      refine bodyPost_ret (v := (.tuple #[(.slice (some ⟨w.heap.size, 0, none⟩) 0 0), .bool false])) (by simp [results, Tryd.results10, go_sem, *]) rfl ?_
      exact ⟨_, by rw [HG.out], by rw [HV.out]; exact HL1.out, HB.out⟩
    · have HG : Hid (goB ps n = true) := Lib.hid (by rw [goB, hB, hN]; rfl)
      have HV : Hid (goL ps n = selN (goF n) ps ps.length) := Lib.hid (by rw [goL, if_pos HG.out])
      rw [hB] at HT
      rw [hN] at HNd
      clear hB hN
      go_enter Tryd.func10, Tryd.ntmps10
      go_wp2_with fail
      refine (HT.out _ (HR.out.below HB0.out)).mono ?_
      rintro e w1 ⟨rfl, hb⟩
      have HB := Lib.hid (HB0.out.trans (hb.mono HB0.out.size)); have HL1 := Lib.hid (HL0.out.below hb); clear hb
      go_wp2_with fail
      refine (HNd.out _).mono ?_
      rintro e w2 ⟨rfl, rfl⟩
      have hO0 : OwS w.heap.size _ _ [] := HL1.out
      go_wp2
      go_loopw [6, 7] (fun v i wr => ∃ m : Nat, m ≤ ps.length ∧ i = .int .i64 m ∧ OwS w.heap.size wr v (selN (goF n) ps m) ∧ Below w.heap.size w wr) (fun _ i _ => ps.length - (intOf i).toNat)
      case atStart => exact ⟨0, Nat.zero_le _, rfl, hO0, HB.out⟩
      case round =>
        clear HB hO0 HL1 HL0 HB0
        obtain ⟨m, hm, rfl, hown, hb⟩ := hrel
        by_cases hlt : m < ps.length
        · obtain rfl := HP.out (by omega)
          obtain ⟨c1, c2⟩ := HC.out m hlt
          have hr := (HR.out.2.2 ps[m] (List.getElem_mem hlt)).2
          obtain ⟨q, qc, _, _, hq, _, _, _⟩ := hr.parts
          rw [hq] at c2 hr
          clear hq
          have c1 := cell_on hb c1
          have c2 := cell_on hb c2
          have hsl := selN_length (goF n) ps m
          have hsz := hb.size
          have HO1 := Lib.hid (hok.out (m + 1))
          have HH := Lib.hid (fun w (hh : RdI w (.slice q ps[m].1.ms.length qc) ps[m].1.ms) => l1Has_any (.slice q ps[m].1.ms.length qc) ps[m].1.ms n w hh)
          have HRd := Lib.hid hr; clear hr
          cases he : hasB ps[m].1.ms n
          · have HS := Lib.hid (selN_none (goF n) ps m hlt (by simp [goF, he]))
            rw [he] at HH
            clear he
            go_wp2_with fail
            refine (HH.out _ (HRd.out.below (hb))).mono ?_
            rintro e w3 ⟨rfl, rfl⟩
            go_wp2
            go_roundw
            case rel => exact ⟨m + 1, by omega, by go_num, by rw [HS.out]; exact hown, hb⟩
            case measure => simp [intOf]; omega
          · have HS := Lib.hid (selN_some (goF n) ps m ps[m].1.nm hlt (by simp [goF, he]))
            rw [he] at HH
            clear he
            go_wp2_with fail
            refine (HH.out _ (HRd.out.below (hb))).mono ?_
            rintro e w3 ⟨rfl, rfl⟩
            have hO := hown.1
            generalize hL : selN (goF n) ps m = L at *
            clear hown
            go_wp2_with (first | (at_builtin; go_loud (refine wpList_append_own _ rfl _ _ 29 rfl (w.heap.size) 9 i0 (.string ⟨#[]⟩) 1 16 Tryd.underlying29 hi hz0 hz1 hz2 rfl (by decide) _ _ _ rfl (hO.alloc _) ⟨_, 0, none⟩ 1 1 [.string ps[m].1.nm] rfl rfl ?c1 ?c2 ?c3 ?c4 ?c5 ?_)))
            try (case c1 => first | exact cells_new _ #[.string ps[m].1.nm] _ | exact cells_at _ #[.string ps[m].1.nm] _ (by simp) | rfl)
            try (case c2 => first | rfl | exact ⟨rfl, rfl, rfl⟩ | exact ⟨rfl, rfl⟩ | (intro u hu; simp at hu; rcases hu with rfl | rfl | rfl | rfl <;> rfl) | (intro u hu; simp at hu; rcases hu with rfl | rfl | rfl <;> rfl) | (intro u hu; simp at hu; rcases hu with rfl | rfl <;> rfl) | (intro u hu; simp at hu; subst hu; rfl))
            try (case c3 => first | omega | (unfold maxLen; omega))
            try (case c4 => first | omega | ((try simp only [World.heap_size_alloc]); omega))
            try (case c5 => first | omega | (simp; omega))
            intro v' w2 hown' hgrow
            try intro _
            go_wp2
            go_roundw
            case rel => exact ⟨m + 1, by omega, by go_num, by rw [HS.out]; exact ⟨by simpa using hown', by simp; omega, by rw [← HS.out]; exact HO1.out⟩, Below.grown (Below.trans hb (by go_grown)) hgrow (by simp; omega) (fun j hj => (hO.lt j hj).1)⟩
            case measure => simp [intOf]; omega
        · obtain rfl : m = ps.length := by omega
          have HH := Lib.hid (And.intro hown hb); clear hown hb
          go_wp2
          refine bodyPost_ret (v := (.tuple #[u6, .bool true])) (by simp [results, Tryd.results10, go_sem, *]) rfl ?_
          exact ⟨_, by rw [HG.out], by rw [HV.out]; exact HH.out.1, HH.out.2⟩
end Go.Proofs.YtpgonlfaeejakaaDoor
