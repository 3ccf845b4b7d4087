/- The names of the greatest counters by the program's TopCounters, for all lists of at most 2^30 counters. Condition: names of at most 2^20 bytes. -/
import Derived.Test.YtmochhgmhhopoaaDoorCnt12
namespace Go.Proofs.YtmochhgmhhopoaaDoor
open Go.RowKit

def topB (xs : List Ct) (n : Int) : Bool := ctB xs && inR n 0 12
def topN (xs : List Ct) (n : Nat) : List ByteArray := ((srtN xs xs.length).take n).map Ct.nm
def topL (xs : List Ct) (n : Int) : List ByteArray := if topB xs n = true then topN xs n.toNat else []
theorem topNo {xs : List Ct} {n : Int} (h : topB xs n = false) : Hid (topL xs n = [] ∧ topB xs n = false) := Lib.hid ⟨by rw [topL, h]; rfl, h⟩
theorem topN_ok {xs : List Ct} (h : ∀ x ∈ xs, x.nm.size ≤ 1048576) (n : Nat) : ∀ r ∈ topN xs n, r.size ≤ 9223372036854775807 := by
  intro r hr
  obtain ⟨x, hx, rfl⟩ := List.mem_map.1 hr
  have := h x (srtN_mem xs _ x (List.mem_of_mem_take hx))
  omega
theorem topN_succ {xs : List Ct} {k : Nat} {x : Ct} (h : (srtN xs xs.length)[k]? = some x) : topN xs (k + 1) = topN xs k ++ [x.nm] := by
  obtain ⟨hk, rfl⟩ := List.getElem?_eq_some_iff.1 h
  rw [topN, List.take_succ_eq_append_getElem hk, List.map_append]; rfl
theorem topN_length {xs : List Ct} {k : Nat} (h : k ≤ xs.length) : (topN xs k).length = k := by
  rw [topN, List.length_map, List.length_take, srtN_length xs _ (Nat.le_refl _)]; omega
set_option maxRecDepth 100000 in
theorem stable_any (v : Value) (xs : List Ct) (B : Nat) (w : World) (hO : w.ownsRow B 55 2 v xs.length (xs.flatMap Ct.cells)) (hlen : xs.length ≤ 12) (hBw : B ≤ w.heap.size) :
    Calls Tryd.prog 91 #[v, .int .i64 xs.length, .func (.func 72) #[] #[]] w fun e w' => e = .returned (.tuple #[]) ∧ w'.ownsRow B 55 2 v xs.length ((srtN xs xs.length).flatMap Ct.cells) ∧ Below B w w' := by
  have HI := Lib.hid (insSort_any v xs B w hO hlen hBw)
  obtain ⟨q, cap, g, rfl, hcap, hq⟩ := own_shape hO
  clear hO hq
  go_enter Tryd.func91, Tryd.ntmps91
  go_wp2
  go_loop [7, 8] (fun a b => a = .int .i64 0 ∧ b = .int .i64 20) (fun _ _ => 0)
  case atStart => exact ⟨rfl, rfl⟩
  case round =>
    obtain ⟨rfl, rfl⟩ := hrel
    go_wp2_with fail
    refine HI.out.mono ?_
    rintro e w1 ⟨rfl, ho, hb⟩
    have HO := Lib.hid ho; clear ho
    have HB := Lib.hid hb; clear hb
    go_wp2
    go_loop [6, 7, 8, 9] (fun a _ _ _ => a = .int .i64 20) (fun _ _ _ _ => 0)
    case atStart => rfl
    case round =>
      obtain rfl := hrel
      go_wp2
      go_end0
      exact ⟨rfl, HO.out, HB.out⟩
theorem sortSt_any (v : Value) (xs : List Ct) (B : Nat) (w : World) (hO : w.ownsRow B 55 2 v xs.length (xs.flatMap Ct.cells)) (hlen : xs.length ≤ 12) (hBw : B ≤ w.heap.size) :
    Calls Tryd.prog 71 #[v, .func (.func 72) #[] #[]] w fun e w' => e = .returned (.tuple #[]) ∧ w'.ownsRow B 55 2 v xs.length ((srtN xs xs.length).flatMap Ct.cells) ∧ Below B w w' := by
  have HI := Lib.hid (stable_any v xs B w hO hlen hBw)
  obtain ⟨q, cap, g, rfl, hcap, hq⟩ := own_shape hO
  clear hO hq
  go_enter Tryd.func71, Tryd.ntmps71
  go_wp2_with fail
  refine HI.out.mono ?_
  rintro e w1 ⟨rfl, ho, hb⟩
  have HO := Lib.hid ho; clear ho
  have HB := Lib.hid hb; clear hb
  go_wp2
  go_end0
  exact ⟨rfl, HO.out, HB.out⟩
set_option maxRecDepth 100000 in
set_option maxHeartbeats 4000000 in
theorem implTop_any (v : Value) (xs : List Ct) (n : Int) (w : World) (h : RdCt w v xs) (hS : ∀ x ∈ xs, x.nm.size ≤ 1048576) :
    Calls Tryd.prog 37 #[v, .int .i64 n] w fun e w' => ∃ u, e = .returned (.tuple #[u, .bool (topB xs n)]) ∧ OwS w.heap.size w' u (topL xs n) ∧ Below w.heap.size w w' := by
  have HT := Lib.hid (implIs_any v xs w h hS)
  have HI := Lib.hid (fun w => within_any n 0 12 w)
  have HR := Lib.hid h
  have hlen := h.2.1
  have HOK := Lib.hid (topN_ok hS)
  obtain ⟨i0, hi, hz0, hz1, hz2⟩ := info_parts infoStr
  obtain ⟨p, cap, b, off, rfl, hcap, _, _⟩ := h.parts
  clear h
  cases hB : ctB xs
  · have HV := topNo (n := n) (show topB xs n = false by rw [topB, hB]; rfl)
    rw [hB] at HT
    go_enter Tryd.func37, Tryd.ntmps37
    go_wp2_with fail
    refine HT.out.mono ?_
    rintro e w1 ⟨rfl, hb⟩
    have HB := Lib.hid hb; clear hb
    go_wp2
    refine bodyPost_ret (v := (.tuple #[.slice none 0 0, .bool false])) (by simp [results, Tryd.results37, go_sem, *]) rfl ?_
    exact ⟨_, by rw [HV.out.2], by rw [HV.out.1]; exact owS_nil _ _, HB.out⟩
  · cases hI : inR n 0 12
    · have HV := topNo (show topB xs n = false by rw [topB, hI, Bool.and_false])
      rw [hB] at HT
      rw [hI] at HI
      clear hB hI
      go_enter Tryd.func37, Tryd.ntmps37
      go_wp2_with fail
      refine HT.out.mono ?_
      rintro e w1 ⟨rfl, hb⟩
      have HB := Lib.hid hb; clear hb
      go_wp2_with fail
      refine (HI.out _).mono ?_
      rintro e w' ⟨rfl, rfl⟩
      go_wp2
      refine bodyPost_ret (v := (.tuple #[.slice none 0 0, .bool false])) (by simp [results, Tryd.results37, go_sem, *]) rfl ?_
      exact ⟨_, by rw [HV.out.2], by rw [HV.out.1]; exact owS_nil _ _, HB.out⟩
    · obtain ⟨hn0, hn1⟩ := inR_true.1 hI
      obtain ⟨m, rfl⟩ := Int.eq_ofNat_of_zero_le hn0
      have h12 := (ctB_true hB).1
      have hbb : topB xs m = true := by rw [topB, hB, hI]; rfl
      have HV : Hid (topL xs m = topN xs m ∧ topB xs m = true) := Lib.hid ⟨by rw [topL, if_pos hbb]; rfl, hbb⟩
      rw [hB] at HT
      rw [hI] at HI
      clear hB hI hbb
      go_enter Tryd.func37, Tryd.ntmps37
      go_wp2_with fail
      refine HT.out.mono ?_
      rintro e w1 ⟨rfl, hb⟩
      have HR1 := Lib.hid (HR.out.below hb)
      have HB := Lib.hid hb; clear hb
      go_wp2_with fail
      refine (HI.out _).mono ?_
      rintro e w' ⟨rfl, rfl⟩
      go_wp2_with fail
      refine (cloneCt _ xs.length _ _ HR1.out.1 (by omega) (oneCt xs)).mono ?_
      rintro e w3 ⟨u, rfl, hou, hb3⟩
      have HO := Lib.hid hou; clear hou
      have hz3 := hb3.size
      have HB3 := Lib.hid (HB.out.trans (hb3.mono HB.out.size)); clear hb3
      go_wp2_with fail
      refine (sortSt_any u xs _ w3 HO.out h12 hz3).mono ?_
      rintro e w4 ⟨rfl, ho4, hb4⟩
      obtain ⟨p1, cap1, g1, rfl, hcap1, hp1⟩ := own_shape ho4
      have HP1 := Lib.hid hp1; clear hp1
      have HO4 := Lib.hid ho4; clear ho4 HO
      have HB4 : Hid (Below w.heap.size w w4) := Lib.hid (HB3.out.trans (hb4.mono HB.out.size)); clear hb4
      obtain ⟨M, hM⟩ : ∃ M : Nat, M = min m xs.length := ⟨_, rfl⟩
      have hM1 : M ≤ xs.length := by omega
      have HTM : Hid (topN xs m = topN xs M) := Lib.hid (by rw [topN, topN, hM, ← List.take_take, List.take_of_length_le (i := xs.length) (by rw [srtN_length xs _ (Nat.le_refl _)]; omega)])
      by_cases hmx : m ≤ xs.length
      · obtain rfl : M = m := by omega
        clear hM
        go_wp2
        go_loopw [7, 29] (fun v i wr => ∃ k : Nat, k ≤ M ∧ i = .int .i64 k ∧ Hid (OwS w4.heap.size wr v (topN xs k)) ∧ Hid (Below w4.heap.size w4 wr)) (fun _ i _ => M - (intOf i).toNat)
        case atStart => exact ⟨0, Nat.zero_le _, rfl, Lib.hid (owS_nil _ _), Lib.hid (Below.refl _ _)⟩
        case round =>
          obtain ⟨k, hk, rfl, HOk, HBk⟩ := hrel
          by_cases hlt : k < M
          · obtain ⟨rfl, hge⟩ := HP1.out (by omega)
            obtain ⟨x, hx⟩ : ∃ x, (srtN xs xs.length)[k]? = some x := ⟨_, List.getElem?_eq_getElem (by rw [srtN_length xs _ (Nat.le_refl _)]; omega)⟩
            have hsl := topN_length (xs := xs) (k := k) (by omega)
            have HS := Lib.hid (topN_succ hx)
            have HO1 := Lib.hid (HOK.out (k + 1))
            have c0 : wr.cell? ⟨g1, k * 2, none⟩ = some (.string x.nm) := cell_on HBk.out (by rw [HO4.out.cellAt (k * 2) (by omega)]; exact (flatCt_get hx).1)
            have c1 : wr.cell? ⟨g1, k * 2 + 1, none⟩ = some (.int .i64 x.vl) := cell_on HBk.out (by rw [HO4.out.cellAt (k * 2 + 1) (by omega)]; exact (flatCt_get hx).2)
            clear hx
            have hO := HOk.out.1
            have hsz := HBk.out.size
            generalize hL : topN xs k = L at *
            go_wp2_with (first | (at_builtin; go_loud (refine wpList_append_own _ rfl _ _ 35 rfl (w4.heap.size) 9 i0 (.string ⟨#[]⟩) 1 16 Tryd.underlying35 hi hz0 hz1 hz2 rfl (by decide) _ _ _ rfl ((hO.alloc _).alloc _) ⟨_, 0, none⟩ 1 1 [.string x.nm] rfl rfl ?c1 ?c2 ?c3 ?c4 ?c5 ?_)))
            try (case c1 => first | exact cells_new _ #[.string x.nm] _ | rfl)
            try (case c2 => first | rfl | exact ⟨rfl, rfl, rfl⟩ | exact ⟨rfl, rfl⟩ | (intro u hu; simp at hu; rcases hu with rfl | rfl | rfl | rfl <;> rfl) | (intro u hu; simp at hu; rcases hu with rfl | rfl | rfl <;> rfl) | (intro u hu; simp at hu; rcases hu with rfl | rfl <;> rfl) | (intro u hu; simp at hu; subst hu; rfl))
            try (case c3 => first | omega | (unfold maxLen; omega))
            try (case c4 => first | omega | ((try simp only [World.heap_size_alloc]); omega))
            try (case c5 => first | omega | (simp; omega))
            intro v' w2 hown' hgrow
            try intro _
            go_wp2
            go_roundw
            case rel => exact ⟨k + 1, by omega, by go_num, Lib.hid (by rw [HS.out]; exact ⟨by simpa [hsl] using hown', by simp; omega, by rw [← HS.out]; exact HO1.out⟩), Lib.hid (Below.grown (Below.trans HBk.out (by go_grown)) hgrow (by simp; omega) (fun j hj => (HOk.out.1.lt j hj).1))⟩
            case measure => simp [intOf]; omega
          · obtain rfl : k = M := by omega
            go_wp2
            refine bodyPost_ret (v := (.tuple #[u7, .bool true])) (by simp [results, Tryd.results37, go_sem, *]) rfl ?_
            exact ⟨_, by rw [HV.out.2], by rw [HV.out.1]; exact ⟨own_base HOk.out.1 HB4.out.size, HOk.out.2⟩, HB4.out.trans (HBk.out.mono HB4.out.size)⟩
      · obtain rfl : M = xs.length := by omega
        clear hM
        go_wp2
        go_loopw [7, 29] (fun v i wr => ∃ k : Nat, k ≤ xs.length ∧ i = .int .i64 k ∧ Hid (OwS w4.heap.size wr v (topN xs k)) ∧ Hid (Below w4.heap.size w4 wr)) (fun _ i _ => xs.length - (intOf i).toNat)
        case atStart => exact ⟨0, Nat.zero_le _, rfl, Lib.hid (owS_nil _ _), Lib.hid (Below.refl _ _)⟩
        case round =>
          obtain ⟨k, hk, rfl, HOk, HBk⟩ := hrel
          by_cases hlt : k < xs.length
          · obtain ⟨rfl, hge⟩ := HP1.out (by omega)
            obtain ⟨x, hx⟩ : ∃ x, (srtN xs xs.length)[k]? = some x := ⟨_, List.getElem?_eq_getElem (by rw [srtN_length xs _ (Nat.le_refl _)]; omega)⟩
            have hsl := topN_length (xs := xs) (k := k) (by omega)
            have HS := Lib.hid (topN_succ hx)
            have HO1 := Lib.hid (HOK.out (k + 1))
            have c0 : wr.cell? ⟨g1, k * 2, none⟩ = some (.string x.nm) := cell_on HBk.out (by rw [HO4.out.cellAt (k * 2) (by omega)]; exact (flatCt_get hx).1)
            have c1 : wr.cell? ⟨g1, k * 2 + 1, none⟩ = some (.int .i64 x.vl) := cell_on HBk.out (by rw [HO4.out.cellAt (k * 2 + 1) (by omega)]; exact (flatCt_get hx).2)
            clear hx
            have hO := HOk.out.1
            have hsz := HBk.out.size
            generalize hL : topN xs k = L at *
            go_wp2_with (first | (at_builtin; go_loud (refine wpList_append_own _ rfl _ _ 35 rfl (w4.heap.size) 9 i0 (.string ⟨#[]⟩) 1 16 Tryd.underlying35 hi hz0 hz1 hz2 rfl (by decide) _ _ _ rfl ((hO.alloc _).alloc _) ⟨_, 0, none⟩ 1 1 [.string x.nm] rfl rfl ?c1B ?c2B ?c3B ?c4B ?c5B ?_)))
            try (case c1B => first | exact cells_new _ #[.string x.nm] _ | rfl)
            try (case c2B => first | rfl | exact ⟨rfl, rfl, rfl⟩ | exact ⟨rfl, rfl⟩ | (intro u hu; simp at hu; rcases hu with rfl | rfl | rfl | rfl <;> rfl) | (intro u hu; simp at hu; rcases hu with rfl | rfl | rfl <;> rfl) | (intro u hu; simp at hu; rcases hu with rfl | rfl <;> rfl) | (intro u hu; simp at hu; subst hu; rfl))
            try (case c3B => first | omega | (unfold maxLen; omega))
            try (case c4B => first | omega | ((try simp only [World.heap_size_alloc]); omega))
            try (case c5B => first | omega | (simp; omega))
            intro v' w2 hown' hgrow
            try intro _
            go_wp2
            go_roundw
            case rel => exact ⟨k + 1, by omega, by go_num, Lib.hid (by rw [HS.out]; exact ⟨by simpa [hsl] using hown', by simp; omega, by rw [← HS.out]; exact HO1.out⟩), Lib.hid (Below.grown (Below.trans HBk.out (by go_grown)) hgrow (by simp; omega) (fun j hj => (HOk.out.1.lt j hj).1))⟩
            case measure => simp [intOf]; omega
          · obtain rfl : k = xs.length := by omega
            go_wp2
            refine bodyPost_ret (v := (.tuple #[u7, .bool true])) (by simp [results, Tryd.results37, go_sem, *]) rfl ?_
            exact ⟨_, by rw [HV.out.2], by rw [HV.out.1, HTM.out]; exact ⟨own_base HOk.out.1 HB4.out.size, HOk.out.2⟩, HB4.out.trans (HBk.out.mono HB4.out.size)⟩
end Go.Proofs.YtmochhgmhhopoaaDoor
