/- Ticks spread by the reference's SpreadTicks, for all arguments. -/
import Derived.Test.YtbkkggbpekhenaaSp1
import Derived.Test.YtbkkggbpekhenaaAppK
import Derived.Lib.AppendZerosOnto
import Derived.Lib.Overlaps
import Derived.Deep.AppendLies
namespace Go.Proofs.Ytbkkggbpekhenaa
open Go.RowKit

theorem get_takeS {α : Type} {L : List α} {m j : Nat} {u : α} (h : (L.take m)[j]? = some u) : L[j]? = some u := by
  rw [List.getElem?_take] at h
  split at h
  · exact h
  · cases h
set_option maxRecDepth 100000 in
set_option maxHeartbeats 4000000 in
theorem specSpread_any (s f c n : Int) (w : World) :
    Calls Try.prog 5 #[.int .i64 s, .int .i64 f, .int .i64 c, .int .i64 n] w fun e w' => ∃ v, e = .returned (.tuple #[.int .i64 (spS s f c n), v, .bool (spB s f c n)]) ∧ OwI w.heap.size w' v (spT s f c n) ∧ Below w.heap.size w w' := by
  have hno : ∀ b : Bool, spB s f c n = false → b = false → True := fun _ _ _ => trivial
  clear hno
  obtain ⟨i0, hi, hz0, hz1, hz2⟩ := info_parts infoInt
  cases h0 : (inR s 1 2147483646 && (inR f 0 1000000 && (inR c 0 50 && inR n 1 1000)))
  · have hB : spB s f c n = false := by
      cases hb : spB s f c n with
      | false => rfl
      | true =>
        rw [spB, rbB] at hb
        simp only [Bool.and_eq_true] at hb
        obtain ⟨a1, a2, ⟨a3, _⟩, a4⟩ := hb
        rw [a1, a2, a3, a4] at h0; cases h0
    have HX := spNo hB
    cases h1 : inR s 1 2147483646
    · go_enter Try.func5, Try.ntmps5
      go_wp2_with (first | (go_at_call 26; refine (l20State_any _ _).mono ?_; rintro e w' ⟨rfl, rfl⟩) | (go_at_call 27; refine (l1In_any _ _ _ _).mono ?_; rintro e w' ⟨rfl, rfl⟩))
      refine bodyPost_ret (v := (.tuple #[.int .i64 0, .slice (some ⟨w.heap.size, 0, none⟩) 0 0, .bool false])) (by simp [results, Try.results5, go_sem, *]) rfl ?_
      exact ⟨_, by rw [HX.out.1, HX.out.2.2], by rw [HX.out.2.1]; exact owI_empty w, below_alloc1 _ _⟩
    · cases h2 : inR f 0 1000000
      · go_enter Try.func5, Try.ntmps5
        go_wp2_with (first | (go_at_call 26; refine (l20State_any _ _).mono ?_; rintro e w' ⟨rfl, rfl⟩) | (go_at_call 27; refine (l1In_any _ _ _ _).mono ?_; rintro e w' ⟨rfl, rfl⟩))
        refine bodyPost_ret (v := (.tuple #[.int .i64 0, .slice (some ⟨w.heap.size, 0, none⟩) 0 0, .bool false])) (by simp [results, Try.results5, go_sem, *]) rfl ?_
        exact ⟨_, by rw [HX.out.1, HX.out.2.2], by rw [HX.out.2.1]; exact owI_empty w, below_alloc1 _ _⟩
      · cases h3 : inR c 0 50
        · go_enter Try.func5, Try.ntmps5
          go_wp2_with (first | (go_at_call 26; refine (l20State_any _ _).mono ?_; rintro e w' ⟨rfl, rfl⟩) | (go_at_call 27; refine (l1In_any _ _ _ _).mono ?_; rintro e w' ⟨rfl, rfl⟩))
          refine bodyPost_ret (v := (.tuple #[.int .i64 0, .slice (some ⟨w.heap.size, 0, none⟩) 0 0, .bool false])) (by simp [results, Try.results5, go_sem, *]) rfl ?_
          exact ⟨_, by rw [HX.out.1, HX.out.2.2], by rw [HX.out.2.1]; exact owI_empty w, below_alloc1 _ _⟩
        · cases h4 : inR n 1 1000
          · go_enter Try.func5, Try.ntmps5
            go_wp2_with (first | (go_at_call 26; refine (l20State_any _ _).mono ?_; rintro e w' ⟨rfl, rfl⟩) | (go_at_call 27; refine (l1In_any _ _ _ _).mono ?_; rintro e w' ⟨rfl, rfl⟩))
            refine bodyPost_ret (v := (.tuple #[.int .i64 0, .slice (some ⟨w.heap.size, 0, none⟩) 0 0, .bool false])) (by simp [results, Try.results5, go_sem, *]) rfl ?_
            exact ⟨_, by rw [HX.out.1, HX.out.2.2], by rw [HX.out.2.1]; exact owI_empty w, below_alloc1 _ _⟩
          · rw [h1, h2, h3, h4] at h0; cases h0
  · simp only [Bool.and_eq_true] at h0
    obtain ⟨h1, h2, h3, h4⟩ := h0
    have hs := inR_true.1 h1
    have hf := inR_true.1 h2
    obtain ⟨hf1, hf2⟩ := hf
    have hc := inR_true.1 h3
    have hn := inR_true.1 h4
    have hB : spB s f c n = true := by
      rw [spB, rbB, h1, h2, h3, h4, inR_true.2 (show 1 ≤ n ∧ n ≤ 1000000 by omega)]; rfl
    obtain ⟨c, rfl⟩ := Int.eq_ofNat_of_zero_le hc.1
    have HV : Hid (spB s f c n = true ∧ spS s f c n = stN s c ∧ spT s f c n = putN ((rollsL s n c).map fun x => f + x) c) := Lib.hid ⟨hB, by rw [spS, if_pos hB]; rfl, by rw [spT, if_pos hB]; rfl⟩
    have hrl := rollsL_length s n c
    have hrr : ∀ k (h : k < (rollsL s n c).length), 0 ≤ (rollsL s n c)[k] ∧ (rollsL s n c)[k] ≤ 1000 := fun k h => by
      rw [rollsL_get s n c k (by omega)]
      have := drawV_range (stN s k) n (by omega) (by omega)
      omega
    have HRR := Lib.hid hrr; clear hrr
    have HD := Lib.hid (fun w => l20Draws_any s n c w (by omega) (by omega) (by omega) (by omega) (by omega))
    clear hB
    generalize rollsL s n c = rs at *
    have HRL := Lib.hid hrl
    have hc50 : rs.length ≤ 50 := by omega
    clear hrl
    generalize stN s c = z at *
    have hmv : (rs.map fun x => f + x).length = rs.length := List.length_map ..
    have HMv : Hid (∀ k (h : k < rs.length), (rs.map fun x => f + x)[k]? = some (f + rs[k])) := Lib.hid (fun k h => by rw [List.getElem?_map, List.getElem?_eq_getElem h]; rfl)
    generalize rs.map (fun x => f + x) = mv at *
    go_enter Try.func5, Try.ntmps5
    go_wp2_with (first | (go_at_call 26; refine (l20State_any _ _).mono ?_; rintro e w' ⟨rfl, rfl⟩) | (go_at_call 27; refine (l1In_any _ _ _ _).mono ?_; rintro e w' ⟨rfl, rfl⟩) | fail)
    refine (HD.out _).mono ?_
    rintro e wb ⟨v, rfl, ho, hb⟩
    have HB := Lib.hid hb; clear hb
    obtain ⟨p, cap, b, off, rfl, hcap, hp, hcell⟩ := ho.rd.parts
    have HC := Lib.hid hcell; clear hcell
    have HP := Lib.hid hp; clear hp ho
    have HE1 : Hid (OwI wb.heap.size (wb.alloc (.cells #[] 3)) (.slice (some ⟨wb.heap.size, 0, none⟩) 0 0) (putN mv 0)) := Lib.hid (owI_empty wb)
    have HB1 := Lib.hid (below_alloc1 wb (.cells #[] 3))
    go_wp2
    go_loopw [13, 14, 15] (fun v i _ wr => ∃ (j g capq : Nat), j ≤ rs.length ∧ i = .int .i64 j ∧ v = .slice (some ⟨g, 0, none⟩) j capq ∧ Hid (OwI wb.heap.size wr v (putN mv j)) ∧ Hid (Below wb.heap.size wb wr)) (fun _ i _ _ => rs.length - (intOf i).toNat)
    case atStart => exact ⟨0, wb.heap.size, 0, Nat.zero_le _, rfl, rfl, HE1, HB1⟩
    case round =>
      clear HE1 HB1
      obtain ⟨j, g, capq, hj, rfl, rfl, HOj, HBj⟩ := hrel
      have hal := putN_length mv j (by omega)
      have hoj : wr.ownsRow wb.heap.size 3 1 (.slice (some ⟨g, 0, none⟩) j capq) j ((putN mv j).map (Value.int .i64)) := by have h := HOj.out.1; rwa [hal] at h
      have HOJ := Lib.hid hoj; clear hoj
      have hge : wb.heap.size ≤ g := (HOj.out.1.lt g rfl).1
      have hcapq : j ≤ capq := by obtain ⟨_, _, _, e, h, _⟩ := own_shape HOj.out.1; simp only [Value.slice.injEq] at e; omega
      by_cases hlt : j < rs.length
      · obtain rfl := HP.out (by omega)
        have c0 := HC.out j hlt
        have C0 := Lib.hid c0; clear c0
        obtain ⟨r1, r2⟩ := HRR.out j hlt
        have HSt : Hid (putN mv (j + 1) = putL (putN mv j) (f + rs[j])) := Lib.hid (by
          have h := HMv.out j hlt
          rw [putN, h])
        generalize hacc : putN mv j = acc at *
        have HAcc := Lib.hid hacc; clear hacc
        generalize rs[j] = r at *
        have hwr : IntKind.i64.wrap (f + r) = f + r := by rw [IntKind.wrap_i64]; omega
        generalize hwo : wr = wo at *
        clear hwo
        have HN1 : Hid (∀ u ∈ acc.map (Value.int .i64), u.oneCell' = true) := Lib.hid (fun u hu => by obtain ⟨y, _, rfl⟩ := List.mem_map.1 hu; rfl)
        go_wp2
        go_loopw [15] (fun c wr2 => ∃ k : Nat, k ≤ j ∧ c = .int .i64 k ∧ Hid (plc acc (f + r) k = plc acc (f + r) j) ∧ Hid (Below wo.heap.size wo wr2)) (fun c _ => (intOf c).toNat)
        case atStart => exact ⟨j, Nat.le_refl _, rfl, Lib.hid rfl, Lib.hid (Below.refl _ _)⟩
        case round =>
          obtain ⟨k, hk, rfl, HPk, HBk⟩ := hrel
          rcases k with _ | k
          · have hd0 : decide ((0 : Int) < ((0 : Nat) : Int)) = false := rfl
            go_wp2_with fail
            go_quiet (fail)
            have HBX := Lib.hid (HBk.out.trans (below_eq ⟨nq, rfl⟩))
            generalize wr.drewN nq = wX at *
            have HWX : Hid (Below wb.heap.size wb wX) := Lib.hid (HBj.out.trans (HBX.out.mono HBj.out.size))
            have e0 := cell_on HWX.out C0.out
            have hNl : (acc.map (Value.int .i64)).length = j := by rw [List.length_map, hal]
            have HTL : Hid (((acc.map (Value.int .i64)).take (0)).length = (0) * 1) := Lib.hid (by rw [List.length_take]; omega)
            have HDL : Hid (((acc.map (Value.int .i64)).drop (0)).length = (j - (0)) * 1) := Lib.hid (by rw [List.length_drop]; omega)
            have HT1 : Hid (∀ u ∈ (acc.map (Value.int .i64)).take (0), u.oneCell' = true) := Lib.hid (fun u hu => HN1.out u (List.mem_of_mem_take hu))
            have HD1 : Hid (∀ u ∈ (acc.map (Value.int .i64)).drop (0), u.oneCell' = true) := Lib.hid (fun u hu => HN1.out u (List.mem_of_mem_drop hu))
            have HV1 : Hid (∀ u ∈ ([.int .i64 (f + r)] : List Value), u.oneCell' = true) := Lib.hid (by intro u hu; simp at hu; subst hu; rfl)
            have HCell : Hid (∀ X : World, Below wX.heap.size wX X → ∀ i u, (acc.map (Value.int .i64))[i]? = some u → X.cell? ⟨g, i, none⟩ = some u) := Lib.hid (fun X hX i u hu => cell_on hX (cell_on HBX.out (by rw [HOJ.out.cellAt i (by have := (List.getElem?_eq_some_iff.1 hu).1; omega)]; exact hu)))
            have HSrc : Hid (∀ X : World, Below wX.heap.size wX X → 0 < (0) → ∃ ad, (some ⟨g, 0, none⟩ : Option Addr) = some ad ∧ ∀ i u, ((acc.map (Value.int .i64)).take (0))[i]? = some u → X.cell? (ad.add i) = some u) := Lib.hid (fun X hX _ => ⟨_, rfl, fun i u hu => by rw [add_at, Nat.zero_add]; exact HCell.out X hX i u (get_takeS hu)⟩)
            have HSrd : Hid (∀ X : World, Below wX.heap.size wX X → 0 < j - (0) → ∃ ad, (if capq = 0 then some (⟨g, 0, none⟩ : Addr) else some ⟨g, 0, none⟩) = some ad ∧ ∀ i u, ((acc.map (Value.int .i64)).drop (0))[i]? = some u → X.cell? (ad.add i) = some u) := Lib.hid (fun X hX hm => ⟨⟨g, 0, none⟩, if_neg (by omega), fun i u hu => by rw [add_at]; exact HCell.out X hX _ u (by rwa [List.getElem?_drop] at hu)⟩)
            have HSn0 : Hid ((if capq = 0 then some (⟨g, 0, none⟩ : Addr) else some ⟨g, 0, none⟩) = none → capq - (0) = 0) := Lib.hid (fun e => by split at e <;> cases e)
            have HE1 : Hid ((wX.alloc (.cells #[] 3)).drew.ownsRow wX.heap.size 3 1 (.slice (some ⟨wX.heap.size, 0, none⟩) 0 0) 0 []) := Lib.hid (World.ownsRow_lit wX #[] 0 (Nat.le_refl _) (Nat.zero_le _) rfl).drew
            have HE1b : Hid (Below wX.heap.size wX (wX.alloc (.cells #[] 3)).drew) := Lib.hid (below_alloc1 _ _).drew
            have HE2 : Hid (((wX.alloc (.cells #[] 3)).alloc (.cells #[.int .i64 (f + r)] 3)).drew.ownsRow wX.heap.size 3 1 (.slice (some ⟨wX.heap.size, 0, none⟩) 0 0) 0 []) := Lib.hid (HE1.out.alloc _)
            have HE2b : Hid (Below wX.heap.size wX ((wX.alloc (.cells #[] 3)).alloc (.cells #[.int .i64 (f + r)] 3)).drew) := Lib.hid (Below.drew (by go_grown))
            have HE3 : Hid (((wX.alloc (.cells #[.int .i64 (f + r)] 3)).alloc (.cells #[] 3)).drew.ownsRow wX.heap.size 3 1 (.slice (some ⟨wX.heap.size + 1, 0, none⟩) 0 0) 0 []) := Lib.hid (by have h := (World.ownsRow_lit (base := wX.heap.size) (e := 3) (size := 1) (wX.alloc (.cells #[.int .i64 (f + r)] 3)) #[] 0 (by simp) (Nat.zero_le _) rfl).drew; simpa using h)
            have HE3b : Hid (Below wX.heap.size wX ((wX.alloc (.cells #[.int .i64 (f + r)] 3)).alloc (.cells #[] 3)).drew) := Lib.hid (Below.drew (by go_grown))
            have HE2n : Hid (∀ i u, ([.int .i64 (f + r)] : List Value)[i]? = some u → ((wX.alloc (.cells #[] 3)).alloc (.cells #[.int .i64 (f + r)] 3)).drew.cell? ((⟨wX.heap.size + 1, 0, none⟩ : Addr).add i) = some u) := Lib.hid (World.news_of_block (heap_alloc2_new wX _ _))
            have HE3n : Hid (∀ i u, ([.int .i64 (f + r)] : List Value)[i]? = some u → ((wX.alloc (.cells #[.int .i64 (f + r)] 3)).alloc (.cells #[] 3)).drew.cell? ((⟨wX.heap.size, 0, none⟩ : Addr).add i) = some u) := Lib.hid (fun i u hu => cell_on (Below.drew (below_alloc1 _ _)) (World.news_of_block (heap_alloc_new wX (.cells #[.int .i64 (f + r)] 3)) i u hu))
            have HRow : Hid ((putN mv (j + 1)).map (Value.int .i64) = (acc.map (Value.int .i64)).take (0) ++ [.int .i64 (f + r)] ++ (acc.map (Value.int .i64)).drop (0)) := Lib.hid (by rw [HSt.out, putL, hal, show plc acc (f + r) j = 0 from by rw [← HPk.out]; rfl]; simp)
            have HFin : Hid (∀ v3 w3, w3.ownsRow wX.heap.size 3 1 v3 ((0) + 1 + (j - (0))) ((acc.map (Value.int .i64)).take (0) ++ [.int .i64 (f + r)] ++ (acc.map (Value.int .i64)).drop (0)) → Below wX.heap.size wX w3 → ∃ g3 cap3, v3 = .slice (some ⟨g3, 0, none⟩) (j + 1) cap3 ∧ OwI wb.heap.size w3 v3 (putN mv (j + 1)) ∧ Below wb.heap.size wb w3) := Lib.hid (by
              intro v3 w3 h3 hb3
              have h := own_base h3 HWX.out.size
              rw [show (0) + 1 + (j - (0)) = j + 1 from by omega, ← HRow.out] at h
              obtain ⟨q3, cap3, g3, rfl, _, hq3⟩ := own_shape h
              obtain ⟨rfl, _⟩ := hq3 (by omega)
              have hl := putN_length mv (j + 1) (by omega)
              exact ⟨g3, cap3, rfl, ⟨by rw [hl]; exact h, by omega⟩, HWX.out.trans (hb3.mono HWX.out.size)⟩)
            have e2 := cell_on (below_alloc1 wX (.cells #[] 3)) e0
            have hjl : (j : Int) < (rs.length : Int) := by omega
            have hkm : 0 + (0) ≤ maxLen := by unfold maxLen; omega
            have hkm2 : (0) + 1 ≤ maxLen := by unfold maxLen; omega
            have hkm3 : (0) + 1 + (j - (0)) ≤ maxLen := by unfold maxLen; omega
            go_wp2_with fail
            go_region_law (first | ((refine step_appK _ rfl (.tmp 69) (.tmp 72) 22 rfl wX.heap.size 3 i0 (.int .i64 0) 1 8 Try.underlying22 hi hz0 hz1 hz2 rfl (by decide) (.slice (some ⟨wX.heap.size, 0, none⟩) 0 0) 0 [] (by simp [Act.eval, Act.put]) HE1.out (some ⟨g, 0, none⟩) (0) capq ((acc.map (Value.int .i64)).take (0)) (by simp [Act.eval, Act.put]) HTL.out (HSrc.out _ HE1b.out) (fun e => by cases e) HT1.out hkm (by omega) HE1b.out.size ?_); intro v1 w1 hown1 hgrow1; have HB1 : Hid (Below wX.heap.size wX w1) := Lib.hid (HE1b.out.grown hgrow1 HE1b.out.size (fun i hi => (HE1.out.lt i hi).1)); have HO1 : Hid (w1.ownsRow wX.heap.size 3 1 v1 (0) ((acc.map (Value.int .i64)).take (0))) := Lib.hid (by simpa using hown1); have e1 := cell_on HB1.out e0; have HO1L := Lib.hid (HO1.out.alloc (.cells #[.int .i64 (f + r)] 3)); have HB1L := Lib.hid (HB1.out.trans ((below_alloc1 w1 (.cells #[.int .i64 (f + r)] 3)).mono HB1.out.size)); have HSn := Lib.hid (World.news_of_block (heap_alloc_new w1 (.cells #[.int .i64 (f + r)] 3))); clear hown1 hgrow1) | ((refine step_appK _ rfl (.tmp 69) (.tmp 72) 22 rfl wX.heap.size 3 i0 (.int .i64 0) 1 8 Try.underlying22 hi hz0 hz1 hz2 rfl (by decide) (.slice (some ⟨wX.heap.size, 0, none⟩) 0 0) 0 [] (by simp [Act.eval]) HE2.out (some ⟨g, 0, none⟩) (0) capq ((acc.map (Value.int .i64)).take (0)) (by simp [Act.eval]) HTL.out (HSrc.out _ HE2b.out) (fun e => by cases e) HT1.out hkm (by omega) HE2b.out.size ?_); intro v1 w1 hown1 hgrow1; have HB1 : Hid (Below wX.heap.size wX w1) := Lib.hid (HE2b.out.grown hgrow1 HE2b.out.size (fun i hi => (HE2.out.lt i hi).1)); have HO1 : Hid (w1.ownsRow wX.heap.size 3 1 v1 (0) ((acc.map (Value.int .i64)).take (0))) := Lib.hid (by simpa using hown1); have HSn : Hid (∀ i u, ([.int .i64 (f + r)] : List Value)[i]? = some u → w1.cell? ((⟨wX.heap.size + 1, 0, none⟩ : Addr).add i) = some u) := Lib.hid (fun i u hiu => by rw [add_at]; exact hgrow1.cell (by rw [← add_at]; exact HE2n.out i u hiu) (by intro e; have := Option.some.inj e; simp at this)); clear hown1 hgrow1) | ((refine step_appK _ rfl (.tmp 69) (.tmp 72) 22 rfl wX.heap.size 3 i0 (.int .i64 0) 1 8 Try.underlying22 hi hz0 hz1 hz2 rfl (by decide) (.slice (some ⟨wX.heap.size + 1, 0, none⟩) 0 0) 0 [] (by simp [Act.eval]) HE3.out (some ⟨g, 0, none⟩) (0) capq ((acc.map (Value.int .i64)).take (0)) (by simp [Act.eval]) HTL.out (HSrc.out _ HE3b.out) (fun e => by cases e) HT1.out hkm (by omega) HE3b.out.size ?_); intro v1 w1 hown1 hgrow1; have HB1 : Hid (Below wX.heap.size wX w1) := Lib.hid (HE3b.out.grown hgrow1 HE3b.out.size (fun i hi => (HE3.out.lt i hi).1)); have HO1 : Hid (w1.ownsRow wX.heap.size 3 1 v1 (0) ((acc.map (Value.int .i64)).take (0))) := Lib.hid (by simpa using hown1); have HSn : Hid (∀ i u, ([.int .i64 (f + r)] : List Value)[i]? = some u → w1.cell? ((⟨wX.heap.size, 0, none⟩ : Addr).add i) = some u) := Lib.hid (fun i u hiu => by rw [add_at]; exact hgrow1.cell (by rw [← add_at]; exact HE3n.out i u hiu) (by intro e; have := Option.some.inj e; simp at this)); clear hown1 hgrow1) | ((refine step_appK _ rfl (.tmp 73) (.tmp 80) 22 rfl wX.heap.size 3 i0 (.int .i64 0) 1 8 Try.underlying22 hi hz0 hz1 hz2 rfl (by decide) v1 (0) _ (by simp [Act.eval]) HO1L.out (some ⟨w1.heap.size, 0, none⟩) 1 1 [.int .i64 (f + r)] (by simp [Act.eval]) rfl (fun _ => ⟨_, rfl, HSn.out⟩) (fun e => by cases e) HV1.out hkm2 (by omega) HB1L.out.size ?_); intro v2 w2 hown2 hgrow2; have HB2 := Lib.hid (HB1L.out.grown hgrow2 HB1L.out.size (fun i hi => (HO1L.out.lt i hi).1)); have HO2 := Lib.hid hown2; clear hown2 hgrow2) | ((refine step_appK _ rfl (.tmp 73) (.tmp 80) 22 rfl wX.heap.size 3 i0 (.int .i64 0) 1 8 Try.underlying22 hi hz0 hz1 hz2 rfl (by decide) v1 (0) _ (by simp [Act.eval]) HO1.out (some ⟨wX.heap.size + 1, 0, none⟩) 1 1 [.int .i64 (f + r)] (by simp [Act.eval]) rfl (fun _ => ⟨_, rfl, HSn.out⟩) (fun e => by cases e) HV1.out hkm2 (by omega) HB1.out.size ?_); intro v2 w2 hown2 hgrow2; have HB2 := Lib.hid (HB1.out.grown hgrow2 HB1.out.size (fun i hi => (HO1.out.lt i hi).1)); have HO2 := Lib.hid hown2; clear hown2 hgrow2) | ((refine step_appK _ rfl (.tmp 73) (.tmp 80) 22 rfl wX.heap.size 3 i0 (.int .i64 0) 1 8 Try.underlying22 hi hz0 hz1 hz2 rfl (by decide) v1 (0) _ (by simp [Act.eval]) HO1.out (some ⟨wX.heap.size, 0, none⟩) 1 1 [.int .i64 (f + r)] (by simp [Act.eval]) rfl (fun _ => ⟨_, rfl, HSn.out⟩) (fun e => by cases e) HV1.out hkm2 (by omega) HB1.out.size ?_); intro v2 w2 hown2 hgrow2; have HB2 := Lib.hid (HB1.out.grown hgrow2 HB1.out.size (fun i hi => (HO1.out.lt i hi).1)); have HO2 := Lib.hid hown2; clear hown2 hgrow2) | ((refine step_appK _ rfl (.tmp 81) (.tmp 84) 22 rfl wX.heap.size 3 i0 (.int .i64 0) 1 8 Try.underlying22 hi hz0 hz1 hz2 rfl (by decide) v2 ((0) + 1) _ (by simp [Act.eval]) HO2.out (if capq = 0 then some ⟨g, 0, none⟩ else some ⟨g, 0, none⟩) (j - (0)) (capq - (0)) ((acc.map (Value.int .i64)).drop (0)) (by simp [Act.eval]) HDL.out (HSrd.out _ HB2.out) HSn0.out HD1.out hkm3 (by omega) HB2.out.size ?_); intro v3 w3 hown3 hgrow3; have HB3 := Lib.hid (HB2.out.grown hgrow3 HB2.out.size (fun i hi => (HO2.out.lt i hi).1)); have HO3 := Lib.hid hown3; clear hown3 hgrow3))
            all_goals obtain ⟨g3, cap3, rfl, ho3, hb3⟩ := HFin.out v3 w3 HO3.out HB3.out
            all_goals have HO4 := Lib.hid ho3
            all_goals have HB4 := Lib.hid hb3
            all_goals clear ho3 hb3
            all_goals go_wp2
            all_goals go_roundw
            all_goals first | exact ⟨j + 1, g3, cap3, by omega, by go_num, rfl, HO4, HB4⟩ | (simp [intOf]; omega)
          · have hka : k < acc.length := by omega
            have hdn := fun h => plc_down (x := f + r) hka h
            have hst := fun h => plc_stay (x := f + r) hka h
            have hn0 : acc[k]? = some acc[k] := List.getElem?_eq_getElem hka
            generalize acc[k] = y at *
            have HW2 : Hid (Below wb.heap.size wb wr) := Lib.hid (HBj.out.trans (HBk.out.mono HBj.out.size))
            have d0 : wr.cell? ⟨g, k, none⟩ = some (.int .i64 y) := cell_on HBk.out (by rw [HOJ.out.cellAt k (by omega), List.getElem?_map, hn0]; rfl)
            have d1 := cell_on HW2.out C0.out
            have hk1 : (0 : Int) ≤ (k : Int) + 1 := by omega
            have hk4 : IntKind.i64.wrap (k : Int) = (k : Int) := by rw [IntKind.wrap_i64]; omega
            have hk3 : (k : Int) < (j : Int) := by omega
            have hk5 : (k : Int) + 1 ≤ (capq : Int) := by omega
            have hk6 : (k : Int) + 1 ≤ (j : Int) := by omega
            have hk7 : ((k : Int) + 1).toNat = k + 1 := by omega
            clear hn0
            have hjr : (j : Int) < (rs.length : Int) := by omega
            by_cases hgt : f + r < y
            · have hd1 : decide (f + r < y) = true := decide_eq_true hgt
              go_wp2_with fail
              go_quiet (fail)
              go_wp2
              go_roundw
              case rel => exact ⟨k, by omega, by go_num, Lib.hid (by rw [← HPk.out]; exact (hdn hgt).symm), Lib.hid (HBk.out.trans (below_eq ⟨_, rfl⟩))⟩
              case measure => simp [intOf]
            · have hd1 : decide (f + r < y) = false := decide_eq_false hgt
              go_wp2_with fail
              go_quiet (fail)
              clear d0 d1
              have HBX := Lib.hid (HBk.out.trans (below_eq ⟨nq, rfl⟩))
              generalize wr.drewN nq = wX at *
              have HWX : Hid (Below wb.heap.size wb wX) := Lib.hid (HBj.out.trans (HBX.out.mono HBj.out.size))
              have e0 := cell_on HWX.out C0.out
              have hNl : (acc.map (Value.int .i64)).length = j := by rw [List.length_map, hal]
              have HTL : Hid (((acc.map (Value.int .i64)).take (k + 1)).length = (k + 1) * 1) := Lib.hid (by rw [List.length_take]; omega)
              have HDL : Hid (((acc.map (Value.int .i64)).drop (k + 1)).length = (j - (k + 1)) * 1) := Lib.hid (by rw [List.length_drop]; omega)
              have HT1 : Hid (∀ u ∈ (acc.map (Value.int .i64)).take (k + 1), u.oneCell' = true) := Lib.hid (fun u hu => HN1.out u (List.mem_of_mem_take hu))
              have HD1 : Hid (∀ u ∈ (acc.map (Value.int .i64)).drop (k + 1), u.oneCell' = true) := Lib.hid (fun u hu => HN1.out u (List.mem_of_mem_drop hu))
              have HV1 : Hid (∀ u ∈ ([.int .i64 (f + r)] : List Value), u.oneCell' = true) := Lib.hid (by intro u hu; simp at hu; subst hu; rfl)
              have HCell : Hid (∀ X : World, Below wX.heap.size wX X → ∀ i u, (acc.map (Value.int .i64))[i]? = some u → X.cell? ⟨g, i, none⟩ = some u) := Lib.hid (fun X hX i u hu => cell_on hX (cell_on HBX.out (by rw [HOJ.out.cellAt i (by have := (List.getElem?_eq_some_iff.1 hu).1; omega)]; exact hu)))
              have HSrc : Hid (∀ X : World, Below wX.heap.size wX X → 0 < (k + 1) → ∃ ad, (some ⟨g, 0, none⟩ : Option Addr) = some ad ∧ ∀ i u, ((acc.map (Value.int .i64)).take (k + 1))[i]? = some u → X.cell? (ad.add i) = some u) := Lib.hid (fun X hX _ => ⟨_, rfl, fun i u hu => by rw [add_at, Nat.zero_add]; exact HCell.out X hX i u (get_takeS hu)⟩)
              have HSrd : Hid (∀ X : World, Below wX.heap.size wX X → 0 < j - (k + 1) → ∃ ad, (if capq = k + 1 then some (⟨g, 0, none⟩ : Addr) else some ⟨g, k + 1, none⟩) = some ad ∧ ∀ i u, ((acc.map (Value.int .i64)).drop (k + 1))[i]? = some u → X.cell? (ad.add i) = some u) := Lib.hid (fun X hX hm => ⟨⟨g, k + 1, none⟩, if_neg (by omega), fun i u hu => by rw [add_at]; exact HCell.out X hX _ u (by rwa [List.getElem?_drop] at hu)⟩)
              have HSn0 : Hid ((if capq = k + 1 then some (⟨g, 0, none⟩ : Addr) else some ⟨g, k + 1, none⟩) = none → capq - (k + 1) = 0) := Lib.hid (fun e => by split at e <;> cases e)
              have HE1 : Hid ((wX.alloc (.cells #[] 3)).drew.ownsRow wX.heap.size 3 1 (.slice (some ⟨wX.heap.size, 0, none⟩) 0 0) 0 []) := Lib.hid (World.ownsRow_lit wX #[] 0 (Nat.le_refl _) (Nat.zero_le _) rfl).drew
              have HE1b : Hid (Below wX.heap.size wX (wX.alloc (.cells #[] 3)).drew) := Lib.hid (below_alloc1 _ _).drew
              have HE2 : Hid (((wX.alloc (.cells #[] 3)).alloc (.cells #[.int .i64 (f + r)] 3)).drew.ownsRow wX.heap.size 3 1 (.slice (some ⟨wX.heap.size, 0, none⟩) 0 0) 0 []) := Lib.hid (HE1.out.alloc _)
              have HE2b : Hid (Below wX.heap.size wX ((wX.alloc (.cells #[] 3)).alloc (.cells #[.int .i64 (f + r)] 3)).drew) := Lib.hid (Below.drew (by go_grown))
              have HE3 : Hid (((wX.alloc (.cells #[.int .i64 (f + r)] 3)).alloc (.cells #[] 3)).drew.ownsRow wX.heap.size 3 1 (.slice (some ⟨wX.heap.size + 1, 0, none⟩) 0 0) 0 []) := Lib.hid (by have h := (World.ownsRow_lit (base := wX.heap.size) (e := 3) (size := 1) (wX.alloc (.cells #[.int .i64 (f + r)] 3)) #[] 0 (by simp) (Nat.zero_le _) rfl).drew; simpa using h)
              have HE3b : Hid (Below wX.heap.size wX ((wX.alloc (.cells #[.int .i64 (f + r)] 3)).alloc (.cells #[] 3)).drew) := Lib.hid (Below.drew (by go_grown))
              have HE2n : Hid (∀ i u, ([.int .i64 (f + r)] : List Value)[i]? = some u → ((wX.alloc (.cells #[] 3)).alloc (.cells #[.int .i64 (f + r)] 3)).drew.cell? ((⟨wX.heap.size + 1, 0, none⟩ : Addr).add i) = some u) := Lib.hid (World.news_of_block (heap_alloc2_new wX _ _))
              have HE3n : Hid (∀ i u, ([.int .i64 (f + r)] : List Value)[i]? = some u → ((wX.alloc (.cells #[.int .i64 (f + r)] 3)).alloc (.cells #[] 3)).drew.cell? ((⟨wX.heap.size, 0, none⟩ : Addr).add i) = some u) := Lib.hid (fun i u hu => cell_on (Below.drew (below_alloc1 _ _)) (World.news_of_block (heap_alloc_new wX (.cells #[.int .i64 (f + r)] 3)) i u hu))
              have HRow : Hid ((putN mv (j + 1)).map (Value.int .i64) = (acc.map (Value.int .i64)).take (k + 1) ++ [.int .i64 (f + r)] ++ (acc.map (Value.int .i64)).drop (k + 1)) := Lib.hid (by rw [HSt.out, putL, hal, show plc acc (f + r) j = k + 1 from by rw [← HPk.out, hst hgt]]; simp)
              have HFin : Hid (∀ v3 w3, w3.ownsRow wX.heap.size 3 1 v3 ((k + 1) + 1 + (j - (k + 1))) ((acc.map (Value.int .i64)).take (k + 1) ++ [.int .i64 (f + r)] ++ (acc.map (Value.int .i64)).drop (k + 1)) → Below wX.heap.size wX w3 → ∃ g3 cap3, v3 = .slice (some ⟨g3, 0, none⟩) (j + 1) cap3 ∧ OwI wb.heap.size w3 v3 (putN mv (j + 1)) ∧ Below wb.heap.size wb w3) := Lib.hid (by
                intro v3 w3 h3 hb3
                have h := own_base h3 HWX.out.size
                rw [show (k + 1) + 1 + (j - (k + 1)) = j + 1 from by omega, ← HRow.out] at h
                obtain ⟨q3, cap3, g3, rfl, _, hq3⟩ := own_shape h
                obtain ⟨rfl, _⟩ := hq3 (by omega)
                have hl := putN_length mv (j + 1) (by omega)
                exact ⟨g3, cap3, rfl, ⟨by rw [hl]; exact h, by omega⟩, HWX.out.trans (hb3.mono HWX.out.size)⟩)
              have e2 := cell_on (below_alloc1 wX (.cells #[] 3)) e0
              have hjl : (j : Int) < (rs.length : Int) := by omega
              have hkm : 0 + (k + 1) ≤ maxLen := by unfold maxLen; omega
              have hkm2 : (k + 1) + 1 ≤ maxLen := by unfold maxLen; omega
              have hkm3 : (k + 1) + 1 + (j - (k + 1)) ≤ maxLen := by unfold maxLen; omega
              go_wp2_with fail
              go_region_law (first | ((refine step_appK _ rfl (.tmp 69) (.tmp 72) 22 rfl wX.heap.size 3 i0 (.int .i64 0) 1 8 Try.underlying22 hi hz0 hz1 hz2 rfl (by decide) (.slice (some ⟨wX.heap.size, 0, none⟩) 0 0) 0 [] (by simp [Act.eval, Act.put]) HE1.out (some ⟨g, 0, none⟩) (k + 1) capq ((acc.map (Value.int .i64)).take (k + 1)) (by simp [Act.eval, Act.put]) HTL.out (HSrc.out _ HE1b.out) (fun e => by cases e) HT1.out hkm (by omega) HE1b.out.size ?_); intro v1 w1 hown1 hgrow1; have HB1 : Hid (Below wX.heap.size wX w1) := Lib.hid (HE1b.out.grown hgrow1 HE1b.out.size (fun i hi => (HE1.out.lt i hi).1)); have HO1 : Hid (w1.ownsRow wX.heap.size 3 1 v1 (k + 1) ((acc.map (Value.int .i64)).take (k + 1))) := Lib.hid (by simpa using hown1); have e1 := cell_on HB1.out e0; have HO1L := Lib.hid (HO1.out.alloc (.cells #[.int .i64 (f + r)] 3)); have HB1L := Lib.hid (HB1.out.trans ((below_alloc1 w1 (.cells #[.int .i64 (f + r)] 3)).mono HB1.out.size)); have HSn := Lib.hid (World.news_of_block (heap_alloc_new w1 (.cells #[.int .i64 (f + r)] 3))); clear hown1 hgrow1) | ((refine step_appK _ rfl (.tmp 69) (.tmp 72) 22 rfl wX.heap.size 3 i0 (.int .i64 0) 1 8 Try.underlying22 hi hz0 hz1 hz2 rfl (by decide) (.slice (some ⟨wX.heap.size, 0, none⟩) 0 0) 0 [] (by simp [Act.eval]) HE2.out (some ⟨g, 0, none⟩) (k + 1) capq ((acc.map (Value.int .i64)).take (k + 1)) (by simp [Act.eval]) HTL.out (HSrc.out _ HE2b.out) (fun e => by cases e) HT1.out hkm (by omega) HE2b.out.size ?_); intro v1 w1 hown1 hgrow1; have HB1 : Hid (Below wX.heap.size wX w1) := Lib.hid (HE2b.out.grown hgrow1 HE2b.out.size (fun i hi => (HE2.out.lt i hi).1)); have HO1 : Hid (w1.ownsRow wX.heap.size 3 1 v1 (k + 1) ((acc.map (Value.int .i64)).take (k + 1))) := Lib.hid (by simpa using hown1); have HSn : Hid (∀ i u, ([.int .i64 (f + r)] : List Value)[i]? = some u → w1.cell? ((⟨wX.heap.size + 1, 0, none⟩ : Addr).add i) = some u) := Lib.hid (fun i u hiu => by rw [add_at]; exact hgrow1.cell (by rw [← add_at]; exact HE2n.out i u hiu) (by intro e; have := Option.some.inj e; simp at this)); clear hown1 hgrow1) | ((refine step_appK _ rfl (.tmp 69) (.tmp 72) 22 rfl wX.heap.size 3 i0 (.int .i64 0) 1 8 Try.underlying22 hi hz0 hz1 hz2 rfl (by decide) (.slice (some ⟨wX.heap.size + 1, 0, none⟩) 0 0) 0 [] (by simp [Act.eval]) HE3.out (some ⟨g, 0, none⟩) (k + 1) capq ((acc.map (Value.int .i64)).take (k + 1)) (by simp [Act.eval]) HTL.out (HSrc.out _ HE3b.out) (fun e => by cases e) HT1.out hkm (by omega) HE3b.out.size ?_); intro v1 w1 hown1 hgrow1; have HB1 : Hid (Below wX.heap.size wX w1) := Lib.hid (HE3b.out.grown hgrow1 HE3b.out.size (fun i hi => (HE3.out.lt i hi).1)); have HO1 : Hid (w1.ownsRow wX.heap.size 3 1 v1 (k + 1) ((acc.map (Value.int .i64)).take (k + 1))) := Lib.hid (by simpa using hown1); have HSn : Hid (∀ i u, ([.int .i64 (f + r)] : List Value)[i]? = some u → w1.cell? ((⟨wX.heap.size, 0, none⟩ : Addr).add i) = some u) := Lib.hid (fun i u hiu => by rw [add_at]; exact hgrow1.cell (by rw [← add_at]; exact HE3n.out i u hiu) (by intro e; have := Option.some.inj e; simp at this)); clear hown1 hgrow1) | ((refine step_appK _ rfl (.tmp 73) (.tmp 80) 22 rfl wX.heap.size 3 i0 (.int .i64 0) 1 8 Try.underlying22 hi hz0 hz1 hz2 rfl (by decide) v1 (k + 1) _ (by simp [Act.eval]) HO1L.out (some ⟨w1.heap.size, 0, none⟩) 1 1 [.int .i64 (f + r)] (by simp [Act.eval]) rfl (fun _ => ⟨_, rfl, HSn.out⟩) (fun e => by cases e) HV1.out hkm2 (by omega) HB1L.out.size ?_); intro v2 w2 hown2 hgrow2; have HB2 := Lib.hid (HB1L.out.grown hgrow2 HB1L.out.size (fun i hi => (HO1L.out.lt i hi).1)); have HO2 := Lib.hid hown2; clear hown2 hgrow2) | ((refine step_appK _ rfl (.tmp 73) (.tmp 80) 22 rfl wX.heap.size 3 i0 (.int .i64 0) 1 8 Try.underlying22 hi hz0 hz1 hz2 rfl (by decide) v1 (k + 1) _ (by simp [Act.eval]) HO1.out (some ⟨wX.heap.size + 1, 0, none⟩) 1 1 [.int .i64 (f + r)] (by simp [Act.eval]) rfl (fun _ => ⟨_, rfl, HSn.out⟩) (fun e => by cases e) HV1.out hkm2 (by omega) HB1.out.size ?_); intro v2 w2 hown2 hgrow2; have HB2 := Lib.hid (HB1.out.grown hgrow2 HB1.out.size (fun i hi => (HO1.out.lt i hi).1)); have HO2 := Lib.hid hown2; clear hown2 hgrow2) | ((refine step_appK _ rfl (.tmp 73) (.tmp 80) 22 rfl wX.heap.size 3 i0 (.int .i64 0) 1 8 Try.underlying22 hi hz0 hz1 hz2 rfl (by decide) v1 (k + 1) _ (by simp [Act.eval]) HO1.out (some ⟨wX.heap.size, 0, none⟩) 1 1 [.int .i64 (f + r)] (by simp [Act.eval]) rfl (fun _ => ⟨_, rfl, HSn.out⟩) (fun e => by cases e) HV1.out hkm2 (by omega) HB1.out.size ?_); intro v2 w2 hown2 hgrow2; have HB2 := Lib.hid (HB1.out.grown hgrow2 HB1.out.size (fun i hi => (HO1.out.lt i hi).1)); have HO2 := Lib.hid hown2; clear hown2 hgrow2) | ((refine step_appK _ rfl (.tmp 81) (.tmp 84) 22 rfl wX.heap.size 3 i0 (.int .i64 0) 1 8 Try.underlying22 hi hz0 hz1 hz2 rfl (by decide) v2 ((k + 1) + 1) _ (by simp [Act.eval]) HO2.out (if capq = k + 1 then some ⟨g, 0, none⟩ else some ⟨g, k + 1, none⟩) (j - (k + 1)) (capq - (k + 1)) ((acc.map (Value.int .i64)).drop (k + 1)) (by simp [Act.eval]) HDL.out (HSrd.out _ HB2.out) HSn0.out HD1.out hkm3 (by omega) HB2.out.size ?_); intro v3 w3 hown3 hgrow3; have HB3 := Lib.hid (HB2.out.grown hgrow3 HB2.out.size (fun i hi => (HO2.out.lt i hi).1)); have HO3 := Lib.hid hown3; clear hown3 hgrow3))
              all_goals obtain ⟨g3, cap3, rfl, ho3, hb3⟩ := HFin.out v3 w3 HO3.out HB3.out
              all_goals have HO4 := Lib.hid ho3
              all_goals have HB4 := Lib.hid hb3
              all_goals clear ho3 hb3
              all_goals go_wp2
              all_goals go_roundw
              all_goals first | exact ⟨j + 1, g3, cap3, by omega, by go_num, rfl, HO4, HB4⟩ | (simp [intOf]; omega)
      · obtain rfl : j = rs.length := by omega
        have hlc : rs.length = c := HRL.out
        have HQ : Hid (OwI w.heap.size wr (.slice (some ⟨g, 0, none⟩) rs.length capq) (putN mv c)) := Lib.hid (by rw [← hlc]; exact HOj.out.base HB.out.size)
        clear hlc
        go_wp2
        refine bodyPost_ret (v := (.tuple #[.int .i64 z, .slice (some ⟨g, 0, none⟩) rs.length capq, .bool true])) (by simp [results, Try.results5, go_sem, *]) rfl ?_
        exact ⟨_, by rw [HV.out.1, HV.out.2.1], by rw [HV.out.2.2]; exact HQ.out, HB.out.trans (HBj.out.mono HB.out.size)⟩
end Go.Proofs.Ytbkkggbpekhenaa
