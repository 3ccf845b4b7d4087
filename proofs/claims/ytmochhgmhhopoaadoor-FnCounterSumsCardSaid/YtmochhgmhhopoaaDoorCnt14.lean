/- The names of the greatest counters by the reference's TopCounters, for all lists of at most 2^30 counters. Condition: names of at most 2^20 bytes. -/
import Derived.Test.YtmochhgmhhopoaaDoorCnt13
import Derived.Test.YtmochhgmhhopoaaDoorAppK
import Derived.Lib.AppendZerosOnto
import Derived.Lib.Overlaps
import Derived.Deep.AppendLies
namespace Go.Proofs.YtmochhgmhhopoaaDoor
open Go.RowKit

theorem least_any (a b : Int) (w : World) : Calls Tryd.prog 69 #[.int .i64 a, .int .i64 b] w fun e w' => e = .returned (.int .i64 (min a b)) ∧ w = w' := by
  by_cases h : a < b
  · go_enter Tryd.func69, Tryd.ntmps69
    go_wp2
    go_ret
    exact ⟨ret_int (by omega), rfl⟩
  · go_enter Tryd.func69, Tryd.ntmps69
    go_wp2
    go_ret
    exact ⟨ret_int (by omega), rfl⟩
theorem valN_at {xs : List Ct} (hu : Ups xs) {x : Ct} (h : x ∈ xs) : valN xs x.k = x.vl := by
  obtain ⟨k, hk, rfl⟩ := List.getElem_of_mem h
  have hp : posN xs xs[k].k = k := posN_eq xs xs[k].k k (by omega) (fun j h hj => hu.lt j k hj hk) (fun _ => by
    cases hb : Op.bytesLess xs[k].k xs[k].k with
    | false => rfl
    | true => rw [bl_irrefl] at hb; cases hb)
  rw [valN_hit (by rw [hp]; exact hk) (by simp only [hp])]
  simp only [hp]
theorem get_takeS {α : Type} {L : List α} {m j : Nat} {u : α} (h : (L.take m)[j]? = some u) : L[j]? = some u := by
  rw [List.getElem?_take] at h
  split at h
  · exact h
  · cases h
theorem own_prefix {w : World} {B n cap m : Nat} {q : Option Addr} {e : TypeId} {sz : Nat} {cs : List Value} (h : w.ownsRow B e sz (.slice q n cap) n cs) (hm : m ≤ n) : w.ownsRow B e sz (.slice q m cap) m (cs.take (m * sz)) := by
  obtain ⟨hl, h⟩ := h
  have hms : m * sz ≤ n * sz := Nat.mul_le_mul_right _ hm
  refine ⟨by rw [List.length_take]; omega, ?_⟩
  rcases h with ⟨hv, hn⟩ | ⟨g, cap', cur, hv, hb, hh, hn, hM, hs, ht⟩
  · simp only [Value.slice.injEq] at hv
    obtain ⟨rfl, rfl, rfl⟩ := hv
    obtain rfl : m = 0 := by omega
    exact .inl ⟨rfl, rfl⟩
  · simp only [Value.slice.injEq, true_and] at hv
    obtain ⟨rfl, rfl⟩ := hv
    exact .inr ⟨g, cap, cur, rfl, hb, hh, by omega, hM, hs, by rw [← ht, List.take_take, Nat.min_eq_left hms]⟩
def nmN (xs : List Ct) (n : Nat) : List ByteArray := (srtN xs n).map Ct.nm
theorem nmN_ok {xs : List Ct} (h : ∀ x ∈ xs, x.nm.size ≤ 1048576) (n : Nat) : ∀ r ∈ nmN xs n, r.size ≤ 9223372036854775807 := by
  intro r hr
  obtain ⟨x, hx, rfl⟩ := List.mem_map.1 hr
  have := h x (srtN_mem xs _ x hx)
  omega
theorem nmN_length {xs : List Ct} {k : Nat} (h : k ≤ xs.length) : (nmN xs k).length = k := by
  rw [nmN, List.length_map, srtN_length xs _ h]
set_option maxRecDepth 100000 in
set_option maxHeartbeats 4000000 in
theorem specTop_any (v : Value) (xs : List Ct) (n : Int) (w : World) (h : RdCt w v xs) (hS : ∀ x ∈ xs, x.nm.size ≤ 1048576) :
    Calls Tryd.prog 36 #[v, .int .i64 n] w fun e w' => ∃ u, e = .returned (.tuple #[u, .bool (topB xs n)]) ∧ OwS w.heap.size w' u (topL xs n) ∧ Below w.heap.size w w' := by
  have HT := Lib.hid (fun w h => l18Good_any v xs w h hS)
  have HI := Lib.hid (fun w => l1In_any n 0 12 w)
  have HR := Lib.hid h
  have hlen := h.2.1
  have HOK := Lib.hid (nmN_ok hS)
  have HN1 : Hid (∀ j, ∀ u ∈ (nmN xs j).map Value.string, u.oneCell' = true) := Lib.hid (fun j u hu => by obtain ⟨r, _, rfl⟩ := List.mem_map.1 hu; rfl)
  obtain ⟨i0, hi, hz0, hz1, hz2⟩ := info_parts infoStr
  have HE0 : Hid (OwS w.heap.size (w.alloc (.cells #[] 9)) (.slice (some ⟨w.heap.size, 0, none⟩) 0 0) []) := Lib.hid ⟨World.ownsRow_lit w #[] 0 (Nat.le_refl _) (Nat.zero_le _) rfl, by simp, by simp⟩
  obtain ⟨p, cap, b, off, rfl, hcap, hp, hcell⟩ := h.parts
  have HC := Lib.hid hcell; clear hcell
  have HP := Lib.hid hp; clear hp h
  cases hB : ctB xs
  · have HV := topNo (n := n) (show topB xs n = false by rw [topB, hB]; rfl)
    rw [hB] at HT
    go_enter Tryd.func36, Tryd.ntmps36
    go_wp2_with fail
    refine (HT.out _ (HR.out.below (below_alloc1 _ _))).mono ?_
    rintro e w1 ⟨rfl, hb⟩
    have HE1 := Lib.hid (HE0.out.below hb)
    have HB := Lib.hid (Below.trans (by go_grown) (hb.mono (by simp)) : Below w.heap.size w w1); clear hb
    go_wp2
    refine bodyPost_ret (v := (.tuple #[.slice (some ⟨w.heap.size, 0, none⟩) 0 0, .bool false])) (by simp [results, Tryd.results36, go_sem, *]) rfl ?_
    exact ⟨_, by rw [HV.out.2], by rw [HV.out.1]; exact HE1.out, HB.out⟩
  · cases hI : inR n 0 12
    · have HV := topNo (show topB xs n = false by rw [topB, hI, Bool.and_false])
      rw [hB] at HT
      rw [hI] at HI
      clear hB hI
      go_enter Tryd.func36, Tryd.ntmps36
      go_wp2_with fail
      refine (HT.out _ (HR.out.below (below_alloc1 _ _))).mono ?_
      rintro e w1 ⟨rfl, hb⟩
      have HE1 := Lib.hid (HE0.out.below hb)
      have HB := Lib.hid (Below.trans (by go_grown) (hb.mono (by simp)) : Below w.heap.size w w1); clear hb
      go_wp2_with fail
      refine (HI.out _).mono ?_
      rintro e w' ⟨rfl, rfl⟩
      go_wp2
      refine bodyPost_ret (v := (.tuple #[.slice (some ⟨w.heap.size, 0, none⟩) 0 0, .bool false])) (by simp [results, Tryd.results36, go_sem, *]) rfl ?_
      exact ⟨_, by rw [HV.out.2], by rw [HV.out.1]; exact HE1.out, HB.out⟩
    · obtain ⟨hn0, hn1⟩ := inR_true.1 hI
      obtain ⟨m, rfl⟩ := Int.eq_ofNat_of_zero_le hn0
      obtain ⟨h12, _, hups⟩ := ctB_true hB
      have hbb : topB xs m = true := by rw [topB, hB, hI]; rfl
      have HV : Hid (topL xs m = topN xs m ∧ topB xs m = true) := Lib.hid ⟨by rw [topL, if_pos hbb]; rfl, hbb⟩
      rw [hB] at HT
      rw [hI] at HI
      clear hB hI hbb
      go_enter Tryd.func36, Tryd.ntmps36
      go_wp2_with fail
      refine (HT.out _ (HR.out.below (below_alloc1 _ _))).mono ?_
      rintro e w1 ⟨rfl, hb⟩
      have HE1 := Lib.hid (HE0.out.below hb)
      have HB := Lib.hid (Below.trans (by go_grown) (hb.mono (by simp)) : Below w.heap.size w w1); clear hb
      go_wp2_with fail
      refine (HI.out _).mono ?_
      rintro e w' ⟨rfl, rfl⟩
      go_wp2
      go_loopw [6, 7, 8] (fun v i _ wr => ∃ (j g capq : Nat), j ≤ xs.length ∧ i = .int .i64 j ∧ v = .slice (some ⟨g, 0, none⟩) j capq ∧ Hid (OwS w.heap.size wr v (nmN xs j)) ∧ Hid (Below w.heap.size w wr)) (fun _ i _ _ => xs.length - (intOf i).toNat)
      case atStart => exact ⟨0, w.heap.size, 0, Nat.zero_le _, rfl, rfl, HE1, HB⟩
      case round =>
        clear HE1 HB
        obtain ⟨j, g, capq, hj, rfl, rfl, HOj, HBj⟩ := hrel
        have hnl := nmN_length (xs := xs) (k := j) hj
        have hoj : wr.ownsRow w.heap.size 9 1 (.slice (some ⟨g, 0, none⟩) j capq) j ((nmN xs j).map Value.string) := by have h := HOj.out.1; rwa [hnl] at h
        have HOJ := Lib.hid hoj; clear hoj
        have hge : w.heap.size ≤ g := (HOj.out.1.lt g rfl).1
        have hcapq : j ≤ capq := by obtain ⟨_, _, _, e, h, _⟩ := own_shape HOj.out.1; simp only [Value.slice.injEq] at e; omega
        by_cases hlt : j < xs.length
        · obtain rfl := HP.out (by omega)
          obtain ⟨c0, c1⟩ := HC.out j hlt
          have C0 := Lib.hid c0; clear c0
          have C1 := Lib.hid c1; clear c1
          have hal := srtN_length xs j hj
          have HSt := Lib.hid (srtN_succ xs j hlt)
          have HMem := Lib.hid (srtN_mem xs j)
          generalize hacc : srtN xs j = acc at *
          have HAcc := Lib.hid hacc; clear hacc
          generalize xs[j] = x at *
          generalize hwo : wr = wo at *
          clear hwo
          obtain ⟨xn, xv⟩ := x
          go_wp2
          go_loopw [8] (fun c wr2 => ∃ k : Nat, k ≤ j ∧ c = .int .i64 k ∧ Hid (posV acc xv k = posV acc xv j) ∧ Hid (Below wo.heap.size wo wr2)) (fun c _ => (intOf c).toNat)
          case atStart => exact ⟨j, Nat.le_refl _, rfl, Lib.hid rfl, Lib.hid (Below.refl _ _)⟩
          case round =>
            obtain ⟨k, hk, rfl, HPk, HBk⟩ := hrel
            rcases k with _ | k
            · have hd0 : decide ((0 : Int) < ((0 : Nat) : Int)) = false := rfl
              go_wp2_with fail
              go_quiet (fail)
              have HBX := Lib.hid (below_drewN HBk.out nq)
              generalize wr.drewN nq = wX at *
              have HWX : Hid (Below w.heap.size w wX) := Lib.hid (HBj.out.trans (HBX.out.mono HBj.out.size))
              have e0 := cell_on HWX.out C0.out
              have hNl : ((nmN xs j).map Value.string).length = j := by rw [List.length_map, hnl]
              have HTL : Hid ((((nmN xs j).map Value.string).take (0)).length = (0) * 1) := Lib.hid (by rw [List.length_take]; omega)
              have HDL : Hid ((((nmN xs j).map Value.string).drop (0)).length = (j - (0)) * 1) := Lib.hid (by rw [List.length_drop]; omega)
              have HT1 : Hid (∀ u ∈ ((nmN xs j).map Value.string).take (0), u.oneCell' = true) := Lib.hid (fun u hu => HN1.out j u (List.mem_of_mem_take hu))
              have HD1 : Hid (∀ u ∈ ((nmN xs j).map Value.string).drop (0), u.oneCell' = true) := Lib.hid (fun u hu => HN1.out j u (List.mem_of_mem_drop hu))
              have HV1 : Hid (∀ u ∈ ([.string xn] : List Value), u.oneCell' = true) := Lib.hid (by intro u hu; simp at hu; subst hu; rfl)
              have HCell : Hid (∀ X : World, Below wX.heap.size wX X → ∀ i u, ((nmN xs j).map Value.string)[i]? = some u → X.cell? ⟨g, i, none⟩ = some u) := Lib.hid (fun X hX i u hu => cell_on hX (cell_on HBX.out (by rw [HOJ.out.cellAt i (by have := (List.getElem?_eq_some_iff.1 hu).1; omega)]; exact hu)))
              have HSrc : Hid (∀ X : World, Below wX.heap.size wX X → 0 < (0) → ∃ ad, (some ⟨g, 0, none⟩ : Option Addr) = some ad ∧ ∀ i u, (((nmN xs j).map Value.string).take (0))[i]? = some u → X.cell? (ad.add i) = some u) := Lib.hid (fun X hX _ => ⟨_, rfl, fun i u hu => by rw [add_at, Nat.zero_add]; exact HCell.out X hX i u (get_takeS hu)⟩)
              have HSrd : Hid (∀ X : World, Below wX.heap.size wX X → 0 < j - (0) → ∃ ad, (if capq = 0 then some (⟨g, 0, none⟩ : Addr) else some ⟨g, 0, none⟩) = some ad ∧ ∀ i u, (((nmN xs j).map Value.string).drop (0))[i]? = some u → X.cell? (ad.add i) = some u) := Lib.hid (fun X hX hm => ⟨⟨g, 0, none⟩, if_neg (by omega), fun i u hu => by rw [add_at]; exact HCell.out X hX _ u (by rwa [List.getElem?_drop] at hu)⟩)
              have HSn0 : Hid ((if capq = 0 then some (⟨g, 0, none⟩ : Addr) else some ⟨g, 0, none⟩) = none → capq - (0) = 0) := Lib.hid (fun e => by split at e <;> cases e)
              have HE1 : Hid ((wX.alloc (.cells #[] 9)).drew.ownsRow wX.heap.size 9 1 (.slice (some ⟨wX.heap.size, 0, none⟩) 0 0) 0 []) := Lib.hid (World.ownsRow_lit wX #[] 0 (Nat.le_refl _) (Nat.zero_le _) rfl).drew
              have HE1b : Hid (Below wX.heap.size wX (wX.alloc (.cells #[] 9)).drew) := Lib.hid (below_alloc1 _ _).drew
              have HE2 : Hid (((wX.alloc (.cells #[] 9)).alloc (.cells #[.string xn] 9)).drew.ownsRow wX.heap.size 9 1 (.slice (some ⟨wX.heap.size, 0, none⟩) 0 0) 0 []) := Lib.hid (HE1.out.alloc _)
              have HE2b : Hid (Below wX.heap.size wX ((wX.alloc (.cells #[] 9)).alloc (.cells #[.string xn] 9)).drew) := Lib.hid (Below.drew (by go_grown))
              have HE3 : Hid (((wX.alloc (.cells #[.string xn] 9)).alloc (.cells #[] 9)).drew.ownsRow wX.heap.size 9 1 (.slice (some ⟨wX.heap.size + 1, 0, none⟩) 0 0) 0 []) := Lib.hid (by have h := (World.ownsRow_lit (base := wX.heap.size) (e := 9) (size := 1) (wX.alloc (.cells #[.string xn] 9)) #[] 0 (by simp) (Nat.zero_le _) rfl).drew; simpa using h)
              have HE3b : Hid (Below wX.heap.size wX ((wX.alloc (.cells #[.string xn] 9)).alloc (.cells #[] 9)).drew) := Lib.hid (Below.drew (by go_grown))
              have HE2n : Hid (∀ i u, ([.string xn] : List Value)[i]? = some u → ((wX.alloc (.cells #[] 9)).alloc (.cells #[.string xn] 9)).drew.cell? ((⟨wX.heap.size + 1, 0, none⟩ : Addr).add i) = some u) := Lib.hid (World.news_of_block (heap_alloc2_new wX _ _))
              have HE3n : Hid (∀ i u, ([.string xn] : List Value)[i]? = some u → ((wX.alloc (.cells #[.string xn] 9)).alloc (.cells #[] 9)).drew.cell? ((⟨wX.heap.size, 0, none⟩ : Addr).add i) = some u) := Lib.hid (fun i u hu => cell_on (Below.drew (below_alloc1 _ _)) (World.news_of_block (heap_alloc_new wX (.cells #[.string xn] 9)) i u hu))
              have HRow : Hid ((nmN xs (j + 1)).map Value.string = ((nmN xs j).map Value.string).take (0) ++ [.string xn] ++ ((nmN xs j).map Value.string).drop (0)) := Lib.hid (by rw [nmN, HSt.out, show posV acc xv j = 0 from by rw [← HPk.out]; rfl, nmN, HAcc.out, insV]; simp)
              have HFin : Hid (∀ v3 w3, w3.ownsRow wX.heap.size 9 1 v3 ((0) + 1 + (j - (0))) (((nmN xs j).map Value.string).take (0) ++ [.string xn] ++ ((nmN xs j).map Value.string).drop (0)) → Below wX.heap.size wX w3 → ∃ g3 cap3, v3 = .slice (some ⟨g3, 0, none⟩) (j + 1) cap3 ∧ OwS w.heap.size w3 v3 (nmN xs (j + 1)) ∧ Below w.heap.size w w3) := Lib.hid (by
                intro v3 w3 h3 hb3
                have h := own_base h3 HWX.out.size
                rw [show (0) + 1 + (j - (0)) = j + 1 from by omega, ← HRow.out] at h
                obtain ⟨q3, cap3, g3, rfl, _, hq3⟩ := own_shape h
                obtain ⟨rfl, _⟩ := hq3 (by omega)
                have hl := nmN_length (xs := xs) (k := j + 1) (by omega)
                exact ⟨g3, cap3, rfl, ⟨by rw [hl]; exact h, by omega, HOK.out (j + 1)⟩, HWX.out.trans (hb3.mono HWX.out.size)⟩)
              have e2 := cell_on (below_alloc1 wX (.cells #[] 9)) e0
              have hjl : (j : Int) < (xs.length : Int) := by omega
              have hkm : 0 + (0) ≤ maxLen := by unfold maxLen; omega
              have hkm2 : (0) + 1 ≤ maxLen := by unfold maxLen; omega
              have hkm3 : (0) + 1 + (j - (0)) ≤ maxLen := by unfold maxLen; omega
              go_wp2_with fail
              go_region_law (first | ((refine step_appK _ rfl (.tmp 46) (.tmp 49) 35 rfl wX.heap.size 9 i0 (.string ⟨#[]⟩) 1 16 Tryd.underlying35 hi hz0 hz1 hz2 rfl (by decide) (.slice (some ⟨wX.heap.size, 0, none⟩) 0 0) 0 [] (by simp [Act.eval]) HE1.out (some ⟨g, 0, none⟩) (0) capq (((nmN xs j).map Value.string).take (0)) (by simp [Act.eval]) HTL.out (HSrc.out _ HE1b.out) (fun e => by cases e) HT1.out hkm (by omega) HE1b.out.size ?_); intro v1 w1 hown1 hgrow1; have HB1 : Hid (Below wX.heap.size wX w1) := Lib.hid (HE1b.out.grown hgrow1 HE1b.out.size (fun i hi => (HE1.out.lt i hi).1)); have HO1 : Hid (w1.ownsRow wX.heap.size 9 1 v1 (0) (((nmN xs j).map Value.string).take (0))) := Lib.hid (by simpa using hown1); have e1 := cell_on HB1.out e0; have HO1L := Lib.hid (HO1.out.alloc (.cells #[.string xn] 9)); have HB1L := Lib.hid (HB1.out.trans ((below_alloc1 w1 (.cells #[.string xn] 9)).mono HB1.out.size)); have HSn := Lib.hid (World.news_of_block (heap_alloc_new w1 (.cells #[.string xn] 9))); clear hown1 hgrow1) | ((refine step_appK _ rfl (.tmp 46) (.tmp 49) 35 rfl wX.heap.size 9 i0 (.string ⟨#[]⟩) 1 16 Tryd.underlying35 hi hz0 hz1 hz2 rfl (by decide) (.slice (some ⟨wX.heap.size, 0, none⟩) 0 0) 0 [] (by simp [Act.eval]) HE2.out (some ⟨g, 0, none⟩) (0) capq (((nmN xs j).map Value.string).take (0)) (by simp [Act.eval]) HTL.out (HSrc.out _ HE2b.out) (fun e => by cases e) HT1.out hkm (by omega) HE2b.out.size ?_); intro v1 w1 hown1 hgrow1; have HB1 : Hid (Below wX.heap.size wX w1) := Lib.hid (HE2b.out.grown hgrow1 HE2b.out.size (fun i hi => (HE2.out.lt i hi).1)); have HO1 : Hid (w1.ownsRow wX.heap.size 9 1 v1 (0) (((nmN xs j).map Value.string).take (0))) := Lib.hid (by simpa using hown1); have HSn : Hid (∀ i u, ([.string xn] : List Value)[i]? = some u → w1.cell? ((⟨wX.heap.size + 1, 0, none⟩ : Addr).add i) = some u) := Lib.hid (fun i u hiu => by rw [add_at]; exact hgrow1.cell (by rw [← add_at]; exact HE2n.out i u hiu) (by intro e; have := Option.some.inj e; simp at this)); clear hown1 hgrow1) | ((refine step_appK _ rfl (.tmp 46) (.tmp 49) 35 rfl wX.heap.size 9 i0 (.string ⟨#[]⟩) 1 16 Tryd.underlying35 hi hz0 hz1 hz2 rfl (by decide) (.slice (some ⟨wX.heap.size + 1, 0, none⟩) 0 0) 0 [] (by simp [Act.eval]) HE3.out (some ⟨g, 0, none⟩) (0) capq (((nmN xs j).map Value.string).take (0)) (by simp [Act.eval]) HTL.out (HSrc.out _ HE3b.out) (fun e => by cases e) HT1.out hkm (by omega) HE3b.out.size ?_); intro v1 w1 hown1 hgrow1; have HB1 : Hid (Below wX.heap.size wX w1) := Lib.hid (HE3b.out.grown hgrow1 HE3b.out.size (fun i hi => (HE3.out.lt i hi).1)); have HO1 : Hid (w1.ownsRow wX.heap.size 9 1 v1 (0) (((nmN xs j).map Value.string).take (0))) := Lib.hid (by simpa using hown1); have HSn : Hid (∀ i u, ([.string xn] : List Value)[i]? = some u → w1.cell? ((⟨wX.heap.size, 0, none⟩ : Addr).add i) = some u) := Lib.hid (fun i u hiu => by rw [add_at]; exact hgrow1.cell (by rw [← add_at]; exact HE3n.out i u hiu) (by intro e; have := Option.some.inj e; simp at this)); clear hown1 hgrow1) | ((refine step_appK _ rfl (.tmp 50) (.tmp 56) 35 rfl wX.heap.size 9 i0 (.string ⟨#[]⟩) 1 16 Tryd.underlying35 hi hz0 hz1 hz2 rfl (by decide) v1 (0) _ (by simp [Act.eval]) HO1L.out (some ⟨w1.heap.size, 0, none⟩) 1 1 [.string xn] (by simp [Act.eval]) rfl (fun _ => ⟨_, rfl, HSn.out⟩) (fun e => by cases e) HV1.out hkm2 (by omega) HB1L.out.size ?_); intro v2 w2 hown2 hgrow2; have HB2 := Lib.hid (HB1L.out.grown hgrow2 HB1L.out.size (fun i hi => (HO1L.out.lt i hi).1)); have HO2 := Lib.hid hown2; clear hown2 hgrow2) | ((refine step_appK _ rfl (.tmp 50) (.tmp 56) 35 rfl wX.heap.size 9 i0 (.string ⟨#[]⟩) 1 16 Tryd.underlying35 hi hz0 hz1 hz2 rfl (by decide) v1 (0) _ (by simp [Act.eval]) HO1.out (some ⟨wX.heap.size + 1, 0, none⟩) 1 1 [.string xn] (by simp [Act.eval]) rfl (fun _ => ⟨_, rfl, HSn.out⟩) (fun e => by cases e) HV1.out hkm2 (by omega) HB1.out.size ?_); intro v2 w2 hown2 hgrow2; have HB2 := Lib.hid (HB1.out.grown hgrow2 HB1.out.size (fun i hi => (HO1.out.lt i hi).1)); have HO2 := Lib.hid hown2; clear hown2 hgrow2) | ((refine step_appK _ rfl (.tmp 50) (.tmp 56) 35 rfl wX.heap.size 9 i0 (.string ⟨#[]⟩) 1 16 Tryd.underlying35 hi hz0 hz1 hz2 rfl (by decide) v1 (0) _ (by simp [Act.eval]) HO1.out (some ⟨wX.heap.size, 0, none⟩) 1 1 [.string xn] (by simp [Act.eval]) rfl (fun _ => ⟨_, rfl, HSn.out⟩) (fun e => by cases e) HV1.out hkm2 (by omega) HB1.out.size ?_); intro v2 w2 hown2 hgrow2; have HB2 := Lib.hid (HB1.out.grown hgrow2 HB1.out.size (fun i hi => (HO1.out.lt i hi).1)); have HO2 := Lib.hid hown2; clear hown2 hgrow2) | ((refine step_appK _ rfl (.tmp 57) (.tmp 60) 35 rfl wX.heap.size 9 i0 (.string ⟨#[]⟩) 1 16 Tryd.underlying35 hi hz0 hz1 hz2 rfl (by decide) v2 ((0) + 1) _ (by simp [Act.eval]) HO2.out (if capq = 0 then some ⟨g, 0, none⟩ else some ⟨g, 0, none⟩) (j - (0)) (capq - (0)) (((nmN xs j).map Value.string).drop (0)) (by simp [Act.eval]) HDL.out (HSrd.out _ HB2.out) HSn0.out HD1.out hkm3 (by omega) HB2.out.size ?_); intro v3 w3 hown3 hgrow3; have HB3 := Lib.hid (HB2.out.grown hgrow3 HB2.out.size (fun i hi => (HO2.out.lt i hi).1)); have HO3 := Lib.hid hown3; clear hown3 hgrow3))
              all_goals obtain ⟨g3, cap3, rfl, ho3, hb3⟩ := HFin.out v3 w3 HO3.out HB3.out
              all_goals have HO4 := Lib.hid ho3
              all_goals have HB4 := Lib.hid hb3
              all_goals clear ho3 hb3
              all_goals go_wp2
              all_goals go_roundw
              all_goals first | exact ⟨j + 1, g3, cap3, by omega, by go_num, rfl, HO4, HB4⟩ | (simp [intOf]; omega)
            · have hka : k < acc.length := by omega
              have hdn := fun h => posV_down (v := xv) hka h
              have hst := fun h => posV_stay (v := xv) hka h
              have hyv := valN_at hups (HMem.out _ (List.getElem_mem hka))
              have hn0 : ((srtN xs j).map Ct.nm)[k]? = some acc[k].nm := by rw [HAcc.out, List.getElem?_map, List.getElem?_eq_getElem hka]; rfl
              have HVal := Lib.hid (fun w h => specVal_any (.slice (some ⟨b, off, none⟩) xs.length cap) xs acc[k].nm w h)
              rw [show valN xs acc[k].nm.toList = acc[k].vl from hyv] at HVal
              clear hyv
              generalize acc[k] = y at *
              obtain ⟨yn, yv⟩ := y
              have HW2 : Hid (Below w.heap.size w wr) := Lib.hid (HBj.out.trans (HBk.out.mono HBj.out.size))
              have d0 : wr.cell? ⟨g, k, none⟩ = some (.string yn) := cell_on HBk.out (by rw [HOJ.out.cellAt k (by omega), List.getElem?_map, show (nmN xs j)[k]? = some yn from hn0]; rfl)
              have d1 := cell_on HW2.out C1.out
              have hk1 : (0 : Int) ≤ (k : Int) + 1 := by omega
              have hk4 : IntKind.i64.wrap (k : Int) = (k : Int) := by rw [IntKind.wrap_i64]; omega
              have hk3 : (k : Int) < (j : Int) := by omega
              have hk5 : (k : Int) + 1 ≤ (capq : Int) := by omega
              have hk6 : (k : Int) + 1 ≤ (j : Int) := by omega
              have hk7 : ((k : Int) + 1).toNat = k + 1 := by omega
              clear hn0
              by_cases hgt : yv < xv
              · go_wp2_with fail
                refine wp_region_held_drew (S := (fun w' => Below wr.heap.size wr w' ∧ w'.cell? ⟨g, k, none⟩ = some (.string yn) ∧ w'.cell? ⟨b, off + j * 2 + 1, none⟩ = some (.int .i64 xv))) (by kernel_rfl) ?rx1s (fun hHeld => ?rx10)
                case rx1s => ((try dsimp only); exact ⟨(Below.refl _ _).drew, d0, d1⟩)
                try simp only [Act.put, List.setIfInBounds_toArray, List.set_cons_zero, List.set_cons_succ]
                refine take_at 0 (some 27) (v := ?vx1_1) rfl rfl (by kernel_rfl) (by kernel_rfl) (by kernel_rfl) (fun _ _ _ h => h) (Or.inl ⟨by kernel_rfl, ?yx1_1⟩) hHeld ?zx1_1
                case yx1_1 => (intro wS hSw; (try dsimp only at hSw); go_simp; (try with_reducible rfl))
                try simp only [Act.put, List.setIfInBounds_toArray, List.set_cons_zero, List.set_cons_succ]
                refine take_at 1 (some 28) (v := ?vx1_2) rfl rfl (by kernel_rfl) (by kernel_rfl) (by kernel_rfl) (fun _ _ _ h => h) (Or.inl ⟨by kernel_rfl, ?yx1_2⟩) hHeld ?zx1_2
                case yx1_2 => (intro wS hSw; (try dsimp only at hSw); go_simp; (try with_reducible rfl))
                try simp only [Act.put, List.setIfInBounds_toArray, List.set_cons_zero, List.set_cons_succ]
                refine take_at 2 (some 29) (v := ?vx1_3) rfl rfl (by kernel_rfl) (by kernel_rfl) (by kernel_rfl) (fun _ _ _ h => h) (Or.inl ⟨by kernel_rfl, ?yx1_3⟩) hHeld ?zx1_3
                case yx1_3 => (intro wS hSw; (try dsimp only at hSw); go_simp; (try with_reducible rfl))
                try simp only [Act.put, List.setIfInBounds_toArray, List.set_cons_zero, List.set_cons_succ]
                refine take_at 3 (some 30) (v := ?vx1_4) rfl rfl (by kernel_rfl) (by kernel_rfl) (by kernel_rfl) (fun _ _ _ h => h) (Or.inl ⟨by kernel_rfl, ?yx1_4⟩) hHeld ?zx1_4
                case yx1_4 => (intro wS hSw; (try dsimp only at hSw); go_simp; (try with_reducible rfl))
                try simp only [Act.put, List.setIfInBounds_toArray, List.set_cons_zero, List.set_cons_succ]
                refine take_at 4 (some 31) (v := ?vx1_5) rfl rfl (by kernel_rfl) (by kernel_rfl) (by kernel_rfl) (fun _ _ _ h => h) (Or.inl ⟨by kernel_rfl, ?yx1_5⟩) hHeld ?zx1_5
                case yx1_5 => (intro wS hSw; (try dsimp only at hSw); go_simp; (try with_reducible rfl))
                try simp only [Act.put, List.setIfInBounds_toArray, List.set_cons_zero, List.set_cons_succ]
                refine take_at 5 (some 32) (v := ?vx1_6) rfl rfl (by kernel_rfl) (by kernel_rfl) (by kernel_rfl) (fun _ _ _ h => h) (Or.inl ⟨by kernel_rfl, ?yx1_6⟩) hHeld ?zx1_6
                case yx1_6 => (intro wS hSw; (try dsimp only at hSw); go_simp; (try with_reducible rfl))
                try simp only [Act.put, List.setIfInBounds_toArray, List.set_cons_zero, List.set_cons_succ]
                refine take_at 6 (some 33) (v := ?vx1_7) rfl rfl (by kernel_rfl) (by kernel_rfl) (by kernel_rfl) (fun _ _ _ h => h) (Or.inl ⟨by kernel_rfl, ?yx1_7⟩) hHeld ?zx1_7
                case yx1_7 => (intro wS hSw; (try dsimp only at hSw); go_simp; (try with_reducible rfl))
                try simp only [Act.put, List.setIfInBounds_toArray, List.set_cons_zero, List.set_cons_succ]
                refine take_at 7 (some 34) (v := ?vx1_8) rfl rfl (by kernel_rfl) (by kernel_rfl) (by kernel_rfl) (fun _ _ _ h => h) (Or.inl ⟨by kernel_rfl, ?yx1_8⟩) hHeld ?zx1_8
                case yx1_8 => (intro wS hSw; (try dsimp only at hSw); go_simp; (try with_reducible rfl))
                try simp only [Act.put, List.setIfInBounds_toArray, List.set_cons_zero, List.set_cons_succ]
                refine take_at 8 (some 35) (v := ?vx1_9) rfl rfl (by kernel_rfl) (by kernel_rfl) (by kernel_rfl) (fun _ _ _ h => h) (Or.inl ⟨by kernel_rfl, ?yx1_9⟩) hHeld ?zx1_9
                case yx1_9 => (intro wS hSw; (try dsimp only at hSw); go_simp; (try with_reducible rfl))
                try simp only [Act.put, List.setIfInBounds_toArray, List.set_cons_zero, List.set_cons_succ]
                refine take_at 10 (some 37) (v := ?vx1_10) rfl rfl (by kernel_rfl) (by kernel_rfl) (by kernel_rfl) (fun _ _ _ h => h) (Or.inl ⟨by kernel_rfl, ?yx1_10⟩) hHeld ?zx1_10
                case yx1_10 => (intro wS hSw; (try dsimp only at hSw); go_simp; (try with_reducible rfl))
                try simp only [Act.put, List.setIfInBounds_toArray, List.set_cons_zero, List.set_cons_succ]
                refine take_at 11 (some 38) (v := ?vx1_11) rfl rfl (by kernel_rfl) (by kernel_rfl) (by kernel_rfl) (fun _ _ _ h => h) (Or.inl ⟨by kernel_rfl, ?yx1_11⟩) hHeld ?zx1_11
                case yx1_11 => (intro wS hSw; (try dsimp only at hSw); go_simp; (try with_reducible rfl))
                try simp only [Act.put, List.setIfInBounds_toArray, List.set_cons_zero, List.set_cons_succ]
                refine take_at 12 (some 39) (v := ?vx1_12) rfl rfl (by kernel_rfl) (by kernel_rfl) (by kernel_rfl) (fun _ _ _ h => h) (Or.inl ⟨by kernel_rfl, ?yx1_12⟩) hHeld ?zx1_12
                case yx1_12 => (intro wS hSw; (try dsimp only at hSw); go_simp; (try with_reducible rfl))
                try simp only [Act.put, List.setIfInBounds_toArray, List.set_cons_zero, List.set_cons_succ]
                refine take_at 13 (some 40) (v := ?vx1_13) rfl rfl (by kernel_rfl) (by kernel_rfl) (by kernel_rfl) (fun _ _ _ h => h) (Or.inl ⟨by kernel_rfl, ?yx1_13⟩) hHeld ?zx1_13
                case yx1_13 => (intro wS hSw; (try dsimp only at hSw); go_simp; (try with_reducible rfl))
                try simp only [Act.put, List.setIfInBounds_toArray, List.set_cons_zero, List.set_cons_succ]
                refine take_at 14 (some 41) (v := ?vx1_14) rfl rfl (by kernel_rfl) (by kernel_rfl) (by kernel_rfl) (fun _ _ _ h => h) (Or.inl ⟨by kernel_rfl, ?yx1_14⟩) hHeld ?zx1_14
                case yx1_14 => (intro wS hSw; (try dsimp only at hSw); go_simp; (try with_reducible rfl))
                try simp only [Act.put, List.setIfInBounds_toArray, List.set_cons_zero, List.set_cons_succ]
                refine wpAnyH_ready (rs := [9]) (by kernel_rfl) (by simp) ?_
                refine cons_at (some 36) rfl rfl (by kernel_rfl) (fun K hK => ?kx1_16) AllReadyH.nil
                go_simp
                (go_at_call 60; refine (HVal.out _ (HR.out.below (HW2.out.trans (hHeld.1.mono HW2.out.size)))).mono ?_; rintro e w' ⟨rfl, rfl⟩)
                try go_wp2_with fail
                refine hK.out _ _ ?sx1_16 (fun hHeld => ?_)
                case sx1_16 => ((try dsimp only); first | exact keepB2 (by assumption) hbel | assumption)
                clear hK K
                try simp only [Act.put, List.setIfInBounds_toArray, List.set_cons_zero, List.set_cons_succ]
                refine take_at 15 (some 42) (v := ?vx1_17) rfl rfl (by kernel_rfl) (by kernel_rfl) (by kernel_rfl) (fun _ _ _ h => h) (Or.inl ⟨by kernel_rfl, ?yx1_17⟩) hHeld ?zx1_17
                case yx1_17 => (intro wS hSw; (try dsimp only at hSw); go_simp; (try with_reducible rfl))
                try simp only [Act.put, List.setIfInBounds_toArray, List.set_cons_zero, List.set_cons_succ]
                refine take_at 16 (some 43) (v := ?vx1_18) rfl rfl (by kernel_rfl) (by kernel_rfl) (by kernel_rfl) (fun _ _ _ h => h) (Or.inl ⟨by kernel_rfl, ?yx1_18⟩) hHeld ?zx1_18
                case yx1_18 => (intro wS hSw; (try dsimp only at hSw); go_simp; (try with_reducible rfl))
                try simp only [Act.put, List.setIfInBounds_toArray, List.set_cons_zero, List.set_cons_succ]
                refine wpAnyH_done (by kernel_rfl) ?_ _
                obtain ⟨hbW, -, -⟩ := hHeld
                have HBW := Lib.hid hbW; clear hbW
                go_wp2
                go_roundw
                case rel => exact ⟨k, by omega, by go_num, Lib.hid (by rw [← HPk.out]; exact (hdn hgt).symm), Lib.hid (HBk.out.trans (HBW.out.mono HBk.out.size))⟩
                case measure => simp [intOf]
              · go_wp2_with fail
                refine wp_region_held_drew (S := (fun w' => Below wr.heap.size wr w' ∧ w'.cell? ⟨g, k, none⟩ = some (.string yn) ∧ w'.cell? ⟨b, off + j * 2 + 1, none⟩ = some (.int .i64 xv))) (by kernel_rfl) ?rx2s (fun hHeld => ?rx20)
                case rx2s => ((try dsimp only); exact ⟨(Below.refl _ _).drew, d0, d1⟩)
                try simp only [Act.put, List.setIfInBounds_toArray, List.set_cons_zero, List.set_cons_succ]
                refine take_at 0 (some 27) (v := ?vx2_1) rfl rfl (by kernel_rfl) (by kernel_rfl) (by kernel_rfl) (fun _ _ _ h => h) (Or.inl ⟨by kernel_rfl, ?yx2_1⟩) hHeld ?zx2_1
                case yx2_1 => (intro wS hSw; (try dsimp only at hSw); go_simp; (try with_reducible rfl))
                try simp only [Act.put, List.setIfInBounds_toArray, List.set_cons_zero, List.set_cons_succ]
                refine take_at 1 (some 28) (v := ?vx2_2) rfl rfl (by kernel_rfl) (by kernel_rfl) (by kernel_rfl) (fun _ _ _ h => h) (Or.inl ⟨by kernel_rfl, ?yx2_2⟩) hHeld ?zx2_2
                case yx2_2 => (intro wS hSw; (try dsimp only at hSw); go_simp; (try with_reducible rfl))
                try simp only [Act.put, List.setIfInBounds_toArray, List.set_cons_zero, List.set_cons_succ]
                refine take_at 2 (some 29) (v := ?vx2_3) rfl rfl (by kernel_rfl) (by kernel_rfl) (by kernel_rfl) (fun _ _ _ h => h) (Or.inl ⟨by kernel_rfl, ?yx2_3⟩) hHeld ?zx2_3
                case yx2_3 => (intro wS hSw; (try dsimp only at hSw); go_simp; (try with_reducible rfl))
                try simp only [Act.put, List.setIfInBounds_toArray, List.set_cons_zero, List.set_cons_succ]
                refine take_at 3 (some 30) (v := ?vx2_4) rfl rfl (by kernel_rfl) (by kernel_rfl) (by kernel_rfl) (fun _ _ _ h => h) (Or.inl ⟨by kernel_rfl, ?yx2_4⟩) hHeld ?zx2_4
                case yx2_4 => (intro wS hSw; (try dsimp only at hSw); go_simp; (try with_reducible rfl))
                try simp only [Act.put, List.setIfInBounds_toArray, List.set_cons_zero, List.set_cons_succ]
                refine take_at 4 (some 31) (v := ?vx2_5) rfl rfl (by kernel_rfl) (by kernel_rfl) (by kernel_rfl) (fun _ _ _ h => h) (Or.inl ⟨by kernel_rfl, ?yx2_5⟩) hHeld ?zx2_5
                case yx2_5 => (intro wS hSw; (try dsimp only at hSw); go_simp; (try with_reducible rfl))
                try simp only [Act.put, List.setIfInBounds_toArray, List.set_cons_zero, List.set_cons_succ]
                refine take_at 5 (some 32) (v := ?vx2_6) rfl rfl (by kernel_rfl) (by kernel_rfl) (by kernel_rfl) (fun _ _ _ h => h) (Or.inl ⟨by kernel_rfl, ?yx2_6⟩) hHeld ?zx2_6
                case yx2_6 => (intro wS hSw; (try dsimp only at hSw); go_simp; (try with_reducible rfl))
                try simp only [Act.put, List.setIfInBounds_toArray, List.set_cons_zero, List.set_cons_succ]
                refine take_at 6 (some 33) (v := ?vx2_7) rfl rfl (by kernel_rfl) (by kernel_rfl) (by kernel_rfl) (fun _ _ _ h => h) (Or.inl ⟨by kernel_rfl, ?yx2_7⟩) hHeld ?zx2_7
                case yx2_7 => (intro wS hSw; (try dsimp only at hSw); go_simp; (try with_reducible rfl))
                try simp only [Act.put, List.setIfInBounds_toArray, List.set_cons_zero, List.set_cons_succ]
                refine take_at 7 (some 34) (v := ?vx2_8) rfl rfl (by kernel_rfl) (by kernel_rfl) (by kernel_rfl) (fun _ _ _ h => h) (Or.inl ⟨by kernel_rfl, ?yx2_8⟩) hHeld ?zx2_8
                case yx2_8 => (intro wS hSw; (try dsimp only at hSw); go_simp; (try with_reducible rfl))
                try simp only [Act.put, List.setIfInBounds_toArray, List.set_cons_zero, List.set_cons_succ]
                refine take_at 8 (some 35) (v := ?vx2_9) rfl rfl (by kernel_rfl) (by kernel_rfl) (by kernel_rfl) (fun _ _ _ h => h) (Or.inl ⟨by kernel_rfl, ?yx2_9⟩) hHeld ?zx2_9
                case yx2_9 => (intro wS hSw; (try dsimp only at hSw); go_simp; (try with_reducible rfl))
                try simp only [Act.put, List.setIfInBounds_toArray, List.set_cons_zero, List.set_cons_succ]
                refine take_at 10 (some 37) (v := ?vx2_10) rfl rfl (by kernel_rfl) (by kernel_rfl) (by kernel_rfl) (fun _ _ _ h => h) (Or.inl ⟨by kernel_rfl, ?yx2_10⟩) hHeld ?zx2_10
                case yx2_10 => (intro wS hSw; (try dsimp only at hSw); go_simp; (try with_reducible rfl))
                try simp only [Act.put, List.setIfInBounds_toArray, List.set_cons_zero, List.set_cons_succ]
                refine take_at 11 (some 38) (v := ?vx2_11) rfl rfl (by kernel_rfl) (by kernel_rfl) (by kernel_rfl) (fun _ _ _ h => h) (Or.inl ⟨by kernel_rfl, ?yx2_11⟩) hHeld ?zx2_11
                case yx2_11 => (intro wS hSw; (try dsimp only at hSw); go_simp; (try with_reducible rfl))
                try simp only [Act.put, List.setIfInBounds_toArray, List.set_cons_zero, List.set_cons_succ]
                refine take_at 12 (some 39) (v := ?vx2_12) rfl rfl (by kernel_rfl) (by kernel_rfl) (by kernel_rfl) (fun _ _ _ h => h) (Or.inl ⟨by kernel_rfl, ?yx2_12⟩) hHeld ?zx2_12
                case yx2_12 => (intro wS hSw; (try dsimp only at hSw); go_simp; (try with_reducible rfl))
                try simp only [Act.put, List.setIfInBounds_toArray, List.set_cons_zero, List.set_cons_succ]
                refine take_at 13 (some 40) (v := ?vx2_13) rfl rfl (by kernel_rfl) (by kernel_rfl) (by kernel_rfl) (fun _ _ _ h => h) (Or.inl ⟨by kernel_rfl, ?yx2_13⟩) hHeld ?zx2_13
                case yx2_13 => (intro wS hSw; (try dsimp only at hSw); go_simp; (try with_reducible rfl))
                try simp only [Act.put, List.setIfInBounds_toArray, List.set_cons_zero, List.set_cons_succ]
                refine take_at 14 (some 41) (v := ?vx2_14) rfl rfl (by kernel_rfl) (by kernel_rfl) (by kernel_rfl) (fun _ _ _ h => h) (Or.inl ⟨by kernel_rfl, ?yx2_14⟩) hHeld ?zx2_14
                case yx2_14 => (intro wS hSw; (try dsimp only at hSw); go_simp; (try with_reducible rfl))
                try simp only [Act.put, List.setIfInBounds_toArray, List.set_cons_zero, List.set_cons_succ]
                refine wpAnyH_ready (rs := [9]) (by kernel_rfl) (by simp) ?_
                refine cons_at (some 36) rfl rfl (by kernel_rfl) (fun K hK => ?kx2_16) AllReadyH.nil
                go_simp
                (go_at_call 60; refine (HVal.out _ (HR.out.below (HW2.out.trans (hHeld.1.mono HW2.out.size)))).mono ?_; rintro e w' ⟨rfl, rfl⟩)
                try go_wp2_with fail
                refine hK.out _ _ ?sx2_16 (fun hHeld => ?_)
                case sx2_16 => ((try dsimp only); first | exact keepB2 (by assumption) hbel | assumption)
                clear hK K
                try simp only [Act.put, List.setIfInBounds_toArray, List.set_cons_zero, List.set_cons_succ]
                refine take_at 15 (some 42) (v := ?vx2_17) rfl rfl (by kernel_rfl) (by kernel_rfl) (by kernel_rfl) (fun _ _ _ h => h) (Or.inl ⟨by kernel_rfl, ?yx2_17⟩) hHeld ?zx2_17
                case yx2_17 => (intro wS hSw; (try dsimp only at hSw); go_simp; (try with_reducible rfl))
                try simp only [Act.put, List.setIfInBounds_toArray, List.set_cons_zero, List.set_cons_succ]
                refine take_at 16 (some 43) (v := ?vx2_18) rfl rfl (by kernel_rfl) (by kernel_rfl) (by kernel_rfl) (fun _ _ _ h => h) (Or.inl ⟨by kernel_rfl, ?yx2_18⟩) hHeld ?zx2_18
                case yx2_18 => (intro wS hSw; (try dsimp only at hSw); go_simp; (try with_reducible rfl))
                try simp only [Act.put, List.setIfInBounds_toArray, List.set_cons_zero, List.set_cons_succ]
                refine wpAnyH_done (by kernel_rfl) ?_ _
                obtain ⟨hbW, -, -⟩ := hHeld
                have HBW := Lib.hid hbW; clear hbW
                have HBX := Lib.hid (HBk.out.trans (HBW.out.mono HBk.out.size))
                generalize wr.drew = wX at *
                have HWX : Hid (Below w.heap.size w wX) := Lib.hid (HBj.out.trans (HBX.out.mono HBj.out.size))
                have e0 := cell_on HWX.out C0.out
                have hNl : ((nmN xs j).map Value.string).length = j := by rw [List.length_map, hnl]
                have HTL : Hid ((((nmN xs j).map Value.string).take (k + 1)).length = (k + 1) * 1) := Lib.hid (by rw [List.length_take]; omega)
                have HDL : Hid ((((nmN xs j).map Value.string).drop (k + 1)).length = (j - (k + 1)) * 1) := Lib.hid (by rw [List.length_drop]; omega)
                have HT1 : Hid (∀ u ∈ ((nmN xs j).map Value.string).take (k + 1), u.oneCell' = true) := Lib.hid (fun u hu => HN1.out j u (List.mem_of_mem_take hu))
                have HD1 : Hid (∀ u ∈ ((nmN xs j).map Value.string).drop (k + 1), u.oneCell' = true) := Lib.hid (fun u hu => HN1.out j u (List.mem_of_mem_drop hu))
                have HV1 : Hid (∀ u ∈ ([.string xn] : List Value), u.oneCell' = true) := Lib.hid (by intro u hu; simp at hu; subst hu; rfl)
                have HCell : Hid (∀ X : World, Below wX.heap.size wX X → ∀ i u, ((nmN xs j).map Value.string)[i]? = some u → X.cell? ⟨g, i, none⟩ = some u) := Lib.hid (fun X hX i u hu => cell_on hX (cell_on HBX.out (by rw [HOJ.out.cellAt i (by have := (List.getElem?_eq_some_iff.1 hu).1; omega)]; exact hu)))
                have HSrc : Hid (∀ X : World, Below wX.heap.size wX X → 0 < (k + 1) → ∃ ad, (some ⟨g, 0, none⟩ : Option Addr) = some ad ∧ ∀ i u, (((nmN xs j).map Value.string).take (k + 1))[i]? = some u → X.cell? (ad.add i) = some u) := Lib.hid (fun X hX _ => ⟨_, rfl, fun i u hu => by rw [add_at, Nat.zero_add]; exact HCell.out X hX i u (get_takeS hu)⟩)
                have HSrd : Hid (∀ X : World, Below wX.heap.size wX X → 0 < j - (k + 1) → ∃ ad, (if capq = k + 1 then some (⟨g, 0, none⟩ : Addr) else some ⟨g, k + 1, none⟩) = some ad ∧ ∀ i u, (((nmN xs j).map Value.string).drop (k + 1))[i]? = some u → X.cell? (ad.add i) = some u) := Lib.hid (fun X hX hm => ⟨⟨g, k + 1, none⟩, if_neg (by omega), fun i u hu => by rw [add_at]; exact HCell.out X hX _ u (by rwa [List.getElem?_drop] at hu)⟩)
                have HSn0 : Hid ((if capq = k + 1 then some (⟨g, 0, none⟩ : Addr) else some ⟨g, k + 1, none⟩) = none → capq - (k + 1) = 0) := Lib.hid (fun e => by split at e <;> cases e)
                have HE1 : Hid ((wX.alloc (.cells #[] 9)).drew.ownsRow wX.heap.size 9 1 (.slice (some ⟨wX.heap.size, 0, none⟩) 0 0) 0 []) := Lib.hid (World.ownsRow_lit wX #[] 0 (Nat.le_refl _) (Nat.zero_le _) rfl).drew
                have HE1b : Hid (Below wX.heap.size wX (wX.alloc (.cells #[] 9)).drew) := Lib.hid (below_alloc1 _ _).drew
                have HE2 : Hid (((wX.alloc (.cells #[] 9)).alloc (.cells #[.string xn] 9)).drew.ownsRow wX.heap.size 9 1 (.slice (some ⟨wX.heap.size, 0, none⟩) 0 0) 0 []) := Lib.hid (HE1.out.alloc _)
                have HE2b : Hid (Below wX.heap.size wX ((wX.alloc (.cells #[] 9)).alloc (.cells #[.string xn] 9)).drew) := Lib.hid (Below.drew (by go_grown))
                have HE3 : Hid (((wX.alloc (.cells #[.string xn] 9)).alloc (.cells #[] 9)).drew.ownsRow wX.heap.size 9 1 (.slice (some ⟨wX.heap.size + 1, 0, none⟩) 0 0) 0 []) := Lib.hid (by have h := (World.ownsRow_lit (base := wX.heap.size) (e := 9) (size := 1) (wX.alloc (.cells #[.string xn] 9)) #[] 0 (by simp) (Nat.zero_le _) rfl).drew; simpa using h)
                have HE3b : Hid (Below wX.heap.size wX ((wX.alloc (.cells #[.string xn] 9)).alloc (.cells #[] 9)).drew) := Lib.hid (Below.drew (by go_grown))
                have HE2n : Hid (∀ i u, ([.string xn] : List Value)[i]? = some u → ((wX.alloc (.cells #[] 9)).alloc (.cells #[.string xn] 9)).drew.cell? ((⟨wX.heap.size + 1, 0, none⟩ : Addr).add i) = some u) := Lib.hid (World.news_of_block (heap_alloc2_new wX _ _))
                have HE3n : Hid (∀ i u, ([.string xn] : List Value)[i]? = some u → ((wX.alloc (.cells #[.string xn] 9)).alloc (.cells #[] 9)).drew.cell? ((⟨wX.heap.size, 0, none⟩ : Addr).add i) = some u) := Lib.hid (fun i u hu => cell_on (Below.drew (below_alloc1 _ _)) (World.news_of_block (heap_alloc_new wX (.cells #[.string xn] 9)) i u hu))
                have HRow : Hid ((nmN xs (j + 1)).map Value.string = ((nmN xs j).map Value.string).take (k + 1) ++ [.string xn] ++ ((nmN xs j).map Value.string).drop (k + 1)) := Lib.hid (by rw [nmN, HSt.out, show posV acc xv j = k + 1 from by rw [← HPk.out, hst hgt], nmN, HAcc.out, insV]; simp)
                have HFin : Hid (∀ v3 w3, w3.ownsRow wX.heap.size 9 1 v3 ((k + 1) + 1 + (j - (k + 1))) (((nmN xs j).map Value.string).take (k + 1) ++ [.string xn] ++ ((nmN xs j).map Value.string).drop (k + 1)) → Below wX.heap.size wX w3 → ∃ g3 cap3, v3 = .slice (some ⟨g3, 0, none⟩) (j + 1) cap3 ∧ OwS w.heap.size w3 v3 (nmN xs (j + 1)) ∧ Below w.heap.size w w3) := Lib.hid (by
                  intro v3 w3 h3 hb3
                  have h := own_base h3 HWX.out.size
                  rw [show (k + 1) + 1 + (j - (k + 1)) = j + 1 from by omega, ← HRow.out] at h
                  obtain ⟨q3, cap3, g3, rfl, _, hq3⟩ := own_shape h
                  obtain ⟨rfl, _⟩ := hq3 (by omega)
                  have hl := nmN_length (xs := xs) (k := j + 1) (by omega)
                  exact ⟨g3, cap3, rfl, ⟨by rw [hl]; exact h, by omega, HOK.out (j + 1)⟩, HWX.out.trans (hb3.mono HWX.out.size)⟩)
                have e2 := cell_on (below_alloc1 wX (.cells #[] 9)) e0
                have hjl : (j : Int) < (xs.length : Int) := by omega
                have hkm : 0 + (k + 1) ≤ maxLen := by unfold maxLen; omega
                have hkm2 : (k + 1) + 1 ≤ maxLen := by unfold maxLen; omega
                have hkm3 : (k + 1) + 1 + (j - (k + 1)) ≤ maxLen := by unfold maxLen; omega
                go_wp2_with fail
                go_region_law (first | ((refine step_appK _ rfl (.tmp 46) (.tmp 49) 35 rfl wX.heap.size 9 i0 (.string ⟨#[]⟩) 1 16 Tryd.underlying35 hi hz0 hz1 hz2 rfl (by decide) (.slice (some ⟨wX.heap.size, 0, none⟩) 0 0) 0 [] (by simp [Act.eval]) HE1.out (some ⟨g, 0, none⟩) (k + 1) capq (((nmN xs j).map Value.string).take (k + 1)) (by simp [Act.eval]) HTL.out (HSrc.out _ HE1b.out) (fun e => by cases e) HT1.out hkm (by omega) HE1b.out.size ?_); intro v1 w1 hown1 hgrow1; have HB1 : Hid (Below wX.heap.size wX w1) := Lib.hid (HE1b.out.grown hgrow1 HE1b.out.size (fun i hi => (HE1.out.lt i hi).1)); have HO1 : Hid (w1.ownsRow wX.heap.size 9 1 v1 (k + 1) (((nmN xs j).map Value.string).take (k + 1))) := Lib.hid (by simpa using hown1); have e1 := cell_on HB1.out e0; have HO1L := Lib.hid (HO1.out.alloc (.cells #[.string xn] 9)); have HB1L := Lib.hid (HB1.out.trans ((below_alloc1 w1 (.cells #[.string xn] 9)).mono HB1.out.size)); have HSn := Lib.hid (World.news_of_block (heap_alloc_new w1 (.cells #[.string xn] 9))); clear hown1 hgrow1) | ((refine step_appK _ rfl (.tmp 46) (.tmp 49) 35 rfl wX.heap.size 9 i0 (.string ⟨#[]⟩) 1 16 Tryd.underlying35 hi hz0 hz1 hz2 rfl (by decide) (.slice (some ⟨wX.heap.size, 0, none⟩) 0 0) 0 [] (by simp [Act.eval]) HE2.out (some ⟨g, 0, none⟩) (k + 1) capq (((nmN xs j).map Value.string).take (k + 1)) (by simp [Act.eval]) HTL.out (HSrc.out _ HE2b.out) (fun e => by cases e) HT1.out hkm (by omega) HE2b.out.size ?_); intro v1 w1 hown1 hgrow1; have HB1 : Hid (Below wX.heap.size wX w1) := Lib.hid (HE2b.out.grown hgrow1 HE2b.out.size (fun i hi => (HE2.out.lt i hi).1)); have HO1 : Hid (w1.ownsRow wX.heap.size 9 1 v1 (k + 1) (((nmN xs j).map Value.string).take (k + 1))) := Lib.hid (by simpa using hown1); have HSn : Hid (∀ i u, ([.string xn] : List Value)[i]? = some u → w1.cell? ((⟨wX.heap.size + 1, 0, none⟩ : Addr).add i) = some u) := Lib.hid (fun i u hiu => by rw [add_at]; exact hgrow1.cell (by rw [← add_at]; exact HE2n.out i u hiu) (by intro e; have := Option.some.inj e; simp at this)); clear hown1 hgrow1) | ((refine step_appK _ rfl (.tmp 46) (.tmp 49) 35 rfl wX.heap.size 9 i0 (.string ⟨#[]⟩) 1 16 Tryd.underlying35 hi hz0 hz1 hz2 rfl (by decide) (.slice (some ⟨wX.heap.size + 1, 0, none⟩) 0 0) 0 [] (by simp [Act.eval]) HE3.out (some ⟨g, 0, none⟩) (k + 1) capq (((nmN xs j).map Value.string).take (k + 1)) (by simp [Act.eval]) HTL.out (HSrc.out _ HE3b.out) (fun e => by cases e) HT1.out hkm (by omega) HE3b.out.size ?_); intro v1 w1 hown1 hgrow1; have HB1 : Hid (Below wX.heap.size wX w1) := Lib.hid (HE3b.out.grown hgrow1 HE3b.out.size (fun i hi => (HE3.out.lt i hi).1)); have HO1 : Hid (w1.ownsRow wX.heap.size 9 1 v1 (k + 1) (((nmN xs j).map Value.string).take (k + 1))) := Lib.hid (by simpa using hown1); have HSn : Hid (∀ i u, ([.string xn] : List Value)[i]? = some u → w1.cell? ((⟨wX.heap.size, 0, none⟩ : Addr).add i) = some u) := Lib.hid (fun i u hiu => by rw [add_at]; exact hgrow1.cell (by rw [← add_at]; exact HE3n.out i u hiu) (by intro e; have := Option.some.inj e; simp at this)); clear hown1 hgrow1) | ((refine step_appK _ rfl (.tmp 50) (.tmp 56) 35 rfl wX.heap.size 9 i0 (.string ⟨#[]⟩) 1 16 Tryd.underlying35 hi hz0 hz1 hz2 rfl (by decide) v1 (k + 1) _ (by simp [Act.eval]) HO1L.out (some ⟨w1.heap.size, 0, none⟩) 1 1 [.string xn] (by simp [Act.eval]) rfl (fun _ => ⟨_, rfl, HSn.out⟩) (fun e => by cases e) HV1.out hkm2 (by omega) HB1L.out.size ?_); intro v2 w2 hown2 hgrow2; have HB2 := Lib.hid (HB1L.out.grown hgrow2 HB1L.out.size (fun i hi => (HO1L.out.lt i hi).1)); have HO2 := Lib.hid hown2; clear hown2 hgrow2) | ((refine step_appK _ rfl (.tmp 50) (.tmp 56) 35 rfl wX.heap.size 9 i0 (.string ⟨#[]⟩) 1 16 Tryd.underlying35 hi hz0 hz1 hz2 rfl (by decide) v1 (k + 1) _ (by simp [Act.eval]) HO1.out (some ⟨wX.heap.size + 1, 0, none⟩) 1 1 [.string xn] (by simp [Act.eval]) rfl (fun _ => ⟨_, rfl, HSn.out⟩) (fun e => by cases e) HV1.out hkm2 (by omega) HB1.out.size ?_); intro v2 w2 hown2 hgrow2; have HB2 := Lib.hid (HB1.out.grown hgrow2 HB1.out.size (fun i hi => (HO1.out.lt i hi).1)); have HO2 := Lib.hid hown2; clear hown2 hgrow2) | ((refine step_appK _ rfl (.tmp 50) (.tmp 56) 35 rfl wX.heap.size 9 i0 (.string ⟨#[]⟩) 1 16 Tryd.underlying35 hi hz0 hz1 hz2 rfl (by decide) v1 (k + 1) _ (by simp [Act.eval]) HO1.out (some ⟨wX.heap.size, 0, none⟩) 1 1 [.string xn] (by simp [Act.eval]) rfl (fun _ => ⟨_, rfl, HSn.out⟩) (fun e => by cases e) HV1.out hkm2 (by omega) HB1.out.size ?_); intro v2 w2 hown2 hgrow2; have HB2 := Lib.hid (HB1.out.grown hgrow2 HB1.out.size (fun i hi => (HO1.out.lt i hi).1)); have HO2 := Lib.hid hown2; clear hown2 hgrow2) | ((refine step_appK _ rfl (.tmp 57) (.tmp 60) 35 rfl wX.heap.size 9 i0 (.string ⟨#[]⟩) 1 16 Tryd.underlying35 hi hz0 hz1 hz2 rfl (by decide) v2 ((k + 1) + 1) _ (by simp [Act.eval]) HO2.out (if capq = k + 1 then some ⟨g, 0, none⟩ else some ⟨g, k + 1, none⟩) (j - (k + 1)) (capq - (k + 1)) (((nmN xs j).map Value.string).drop (k + 1)) (by simp [Act.eval]) HDL.out (HSrd.out _ HB2.out) HSn0.out HD1.out hkm3 (by omega) HB2.out.size ?_); intro v3 w3 hown3 hgrow3; have HB3 := Lib.hid (HB2.out.grown hgrow3 HB2.out.size (fun i hi => (HO2.out.lt i hi).1)); have HO3 := Lib.hid hown3; clear hown3 hgrow3))
                all_goals obtain ⟨g3, cap3, rfl, ho3, hb3⟩ := HFin.out v3 w3 HO3.out HB3.out
                all_goals have HO4 := Lib.hid ho3
                all_goals have HB4 := Lib.hid hb3
                all_goals clear ho3 hb3
                all_goals go_wp2
                all_goals go_roundw
                all_goals first | exact ⟨j + 1, g3, cap3, by omega, by go_num, rfl, HO4, HB4⟩ | (simp [intOf]; omega)

        · obtain rfl : j = xs.length := by omega
          have HLs := Lib.hid (fun w => least_any m xs.length w)
          have HFin : Hid (∀ M : Nat, M ≤ xs.length → M = min m xs.length → OwS w.heap.size wr (.slice (some ⟨g, 0, none⟩) M capq) (topN xs m)) := Lib.hid (fun M hM he => by
            have e1 : topN xs m = (nmN xs xs.length).take M := by
              rw [topN, nmN, ← List.map_take]
              congr 1
              rw [he, ← List.take_take, List.take_of_length_le (i := xs.length) (by rw [srtN_length xs _ (Nat.le_refl _)]; omega)]
            have h0 := HOj.out.1
            rw [hnl] at h0
            have h1 := own_prefix h0 (m := M) (by omega)
            rw [Nat.mul_one, ← List.map_take, ← e1] at h1
            have e2 : (topN xs m).length = M := by rw [e1, List.length_take, hnl]; omega
            exact ⟨by rw [e2]; exact h1, by omega, fun r hr => HOK.out xs.length r (by rw [e1] at hr; exact List.mem_of_mem_take hr)⟩)
          by_cases hm : m ≤ xs.length
          · rw [show min (m : Int) (xs.length : Int) = (m : Nat) from by omega] at HLs
            go_wp2_with fail
            refine (HLs.out _).mono ?_
            rintro e w' ⟨rfl, rfl⟩
            go_wp2
            refine bodyPost_ret (v := (.tuple #[.slice (some ⟨g, 0, none⟩) m capq, .bool true])) (by simp [results, Tryd.results36, go_sem, *]) rfl ?_
            exact ⟨_, by rw [HV.out.2], by rw [HV.out.1]; exact HFin.out m (by omega) (by omega), HBj.out⟩
          · rw [show min (m : Int) (xs.length : Int) = (xs.length : Nat) from by omega] at HLs
            go_wp2_with fail
            refine (HLs.out _).mono ?_
            rintro e w' ⟨rfl, rfl⟩
            go_wp2
            refine bodyPost_ret (v := (.tuple #[.slice (some ⟨g, 0, none⟩) xs.length capq, .bool true])) (by simp [results, Tryd.results36, go_sem, *]) rfl ?_
            exact ⟨_, by rw [HV.out.2], by rw [HV.out.1]; exact HFin.out xs.length (by omega) (by omega), HBj.out⟩
end Go.Proofs.YtmochhgmhhopoaaDoor
