/- Contracts on elements: the program's IsValidElement. -/
import Derived.Test.YtihpibdodlgpaaaGreatDoorNetX0
namespace Go.Proofs.YtihpibdodlgpaaaGreatDoor
open Go.RowKit

set_option maxRecDepth 100000 in
set_option maxHeartbeats 4000000 in
theorem clEn_any (n : Int) (x : NEn) (A : Nat) (v0 : Value) (w : World) (hc : w.cell? ⟨A, 0, none⟩ = some (.int .i64 n)) (h : kI.At 0 w v0 x.fs) :
    Calls Tryz.prog 125 #[.agg #[.int .i64 x.n, v0, .int .i64 x.u], .pointer (some ⟨A, 0, none⟩)] w fun e w' => e = .returned (.bool (x.n == n)) ∧ Below w.heap.size w w' := by
  obtain ⟨on, ofs, ou⟩ := x
  dsimp only at h ⊢
  obtain ⟨po, co, _, _, rfl, _, _, _⟩ := h.parts
  have hc := cell_on (below_alloc1 w (.cells #[.int .i64 on, .slice po ofs.length co, .int .i64 ou] 158)) hc
  clear h
  go_enter Tryz.func125, Tryz.ntmps125
  go_wp2
  go_ret
  exact ⟨ret_bool (by first | rfl | simp), by go_grown⟩
set_option maxRecDepth 100000 in
set_option maxHeartbeats 4000000 in
theorem nElem_any (x : NEl) (v0 : Value) (w : World) (h : kEn.At 0 w v0 x.en) (hf : fitEl 1048576 x) :
    Calls Tryz.prog 95 #[.agg #[.int .i64 x.ck, v0]] w fun e w' => e = .returned (.bool (elB x)) ∧ Below w.heap.size w w' := by
  obtain ⟨ck, en⟩ := x
  dsimp only at h ⊢
  have hlen := hf.1
  have HF := Lib.hid hf.2; clear hf
  simp only at hlen HF
  have HAt := Lib.hid h
  obtain ⟨p, cap, b, off, rfl, hcap, hp, hcell⟩ := h.parts
  clear h
  have HCe := Lib.hid hcell; clear hcell
  have HPt := Lib.hid hp; clear hp
  have HB0 : Hid (Below w.heap.size w (w.alloc (.cells #[.int .i64 ck, .slice p en.length cap] 107))) := Lib.hid (below_alloc1 _ _)
  have HC0 : Hid ((w.alloc (.cells #[.int .i64 ck, .slice p en.length cap] 107)).cell? ⟨w.heap.size, 0, none⟩ = some (.int .i64 ck) ∧ (w.alloc (.cells #[.int .i64 ck, .slice p en.length cap] 107)).cell? ⟨w.heap.size, 1, none⟩ = some (.slice p en.length cap)) := Lib.hid ⟨by simp, by simp⟩
  obtain ⟨lo, hlo⟩ : ∃ lo, IntKind.i64.wrap (ck + 1) = lo := ⟨_, rfl⟩
  obtain ⟨hi, hhi⟩ : ∃ hi, IntKind.i64.wrap (ck + 6) = hi := ⟨_, rfl⟩
  have hlo2 : wrap64 (ck + 1) = lo := by have h := hlo; rw [IntKind.wrap_i64] at h; simp only [wrap64]; omega
  have hhi2 : wrap64 (ck + 6) = hi := by have h := hhi; rw [IntKind.wrap_i64] at h; simp only [wrap64]; omega
  go_enter Tryz.func95, Tryz.ntmps95
  go_wp2
  go_loopw [3, 8] (fun _ i wr => ∃ k : Nat, k ≤ en.length ∧ i = .int .i64 k ∧ Hid (∀ j, j < k → ekB ck en j = true) ∧ Hid (Below (w.alloc (.cells #[.int .i64 ck, .slice p en.length cap] 107)).heap.size (w.alloc (.cells #[.int .i64 ck, .slice p en.length cap] 107)) wr)) (fun _ i _ => en.length - (intOf i).toNat)
  case atStart => exact ⟨0, Nat.zero_le _, rfl, Lib.hid fun j h => absurd h (by omega), Lib.hid (Below.refl _ _)⟩
  case round =>
    obtain ⟨k, hk, rfl, HK, HBr⟩ := hrel
    have hB := HB0.out.trans (HBr.out.mono HB0.out.size)
    have c0 := cell_on HBr.out HC0.out.1
    have c1 := cell_on HBr.out HC0.out.2
    have hzs : w.heap.size < wr.heap.size := by have := HBr.out.size; simp at this; omega
    by_cases hlt : k < en.length
    · have c1 : wr.cell? ⟨w.heap.size, 1, none⟩ = some (.slice p en.length cap) := c1
      obtain rfl := HPt.out (by omega)
      obtain ⟨c, hC, hcl⟩ := HCe.out k hlt
      have hs : en[k].fs.length ≤ 1048576 := HF.out en[k] (List.getElem_mem hlt)
      have HN : Hid (ekB ck en k = true → ∀ j, j < k + 1 → ekB ck en j = true) := Lib.hid (fun h j hj => by
        by_cases he : j = k
        · subst he; exact h
        · exact HK.out j (by omega))
      have HBd : Hid (ekB ck en k = false → elB ⟨ck, en⟩ = false) := Lib.hid (fun h => elB_bad k hlt h)
      have HB1 : Hid (entB ck en[k] = false → ekB ck en k = false) := Lib.hid (fun h => ekB_bad1 hlt h)
      have HOf : Hid (entB ck en[k] = true → ekB ck en k = !((en.take k).any fun o => o.n == en[k].n)) := Lib.hid (fun h => ekB_of hlt h)
      generalize en[k] = x at *
      obtain ⟨n, fs, u⟩ := x
      obtain ⟨v, rfl, a0⟩ := hC
      obtain ⟨pv, cv, _, _, rfl, hcv, _, _⟩ := a0.parts
      dsimp only at hs a0 HB1 HOf
      have d0 : _ = some (Value.int .i64 n) := cell_on hB (hcl 0 _ rfl)
      rw [show off + k * kEn.sz + 0 = off + k * 3 from rfl] at d0
      have d1 : _ = some (Value.slice pv fs.length cv) := cell_on hB (hcl 1 _ rfl)
      rw [show off + k * kEn.sz + 1 = off + k * 3 + 1 from rfl] at d1
      have d2 : _ = some (Value.int .i64 u) := cell_on hB (hcl 2 _ rfl)
      rw [show off + k * kEn.sz + 2 = off + k * 3 + 2 from rfl] at d2
      clear hcl
      have HB2 : Hid (Below w.heap.size w (wr.alloc (.cells #[.int .i64 n, .slice pv fs.length cv, .int .i64 u] 158))) := Lib.hid (hB.trans ((below_alloc1 _ _).mono hB.size))
      have HFa := Lib.hid (fun w h => nFaces_any (.slice pv fs.length cv) fs w h hs)
      have HA0 := Lib.hid a0; clear a0
      cases q1 : inR n 0 65535
      · have HX := Lib.hid (HBd.out (HB1.out (by first | (simp [entB, hlo, hhi, q1]; done) | (simp [entB, hlo, hhi, q1]; intros; omega))))
        clear HOf HN
        go_wp2_with (first | (go_at_call 86; refine (nSerial_any _ _).mono ?_; rintro e w' ⟨rfl, rfl⟩) | (go_at_call 83; refine (within_any _ _ _ _).mono ?_; rintro e w' ⟨rfl, rfl⟩) | (go_at_call 123; refine (HFa.out _ (HA0.out.below HB2.out)).mono ?_; rintro e w' ⟨rfl, rfl⟩))
        go_ret
        exact ⟨ret_bool HX.out.symm, HB2.out⟩
      · by_cases q2 : fs.length = 0
        · have HX := Lib.hid (HBd.out (HB1.out (by first | (simp [entB, hlo, hhi, q1, q2]; done) | (simp [entB, hlo, hhi, q1, q2]; intros; omega))))
          obtain rfl := List.length_eq_zero_iff.1 q2
          clear q2
          clear HOf HN
          go_wp2_with (first | (go_at_call 86; refine (nSerial_any _ _).mono ?_; rintro e w' ⟨rfl, rfl⟩) | (go_at_call 83; refine (within_any _ _ _ _).mono ?_; rintro e w' ⟨rfl, rfl⟩) | (go_at_call 123; refine (HFa.out _ (HA0.out.below HB2.out)).mono ?_; rintro e w' ⟨rfl, rfl⟩))
          go_ret
          exact ⟨ret_bool HX.out.symm, HB2.out⟩
        · cases q3 : riB fs
          · have HX := Lib.hid (HBd.out (HB1.out (by first | (simp [entB, hlo, hhi, q1, q2, q3]; done) | (simp [entB, hlo, hhi, q1, q2, q3]; intros; omega))))
            clear HOf HN
            go_wp2_with (first | (go_at_call 86; refine (nSerial_any _ _).mono ?_; rintro e w' ⟨rfl, rfl⟩) | (go_at_call 83; refine (within_any _ _ _ _).mono ?_; rintro e w' ⟨rfl, rfl⟩) | (go_at_call 123; refine (HFa.out _ (HA0.out.below HB2.out)).mono ?_; rintro e w' ⟨rfl, rfl⟩))
            go_ret
            exact ⟨ret_bool HX.out.symm, HB2.out⟩
          · cases q4 : inR u lo hi
            · have HX := Lib.hid (HBd.out (HB1.out (by first | (simp [entB, hlo, hhi, q1, q2, q3, q4]; done) | (simp [entB, hlo, hhi, q1, q2, q3, q4]; intros; omega))))
              clear HOf HN
              go_wp2_with (first | (go_at_call 86; refine (nSerial_any _ _).mono ?_; rintro e w' ⟨rfl, rfl⟩) | (go_at_call 83; refine (within_any _ _ _ _).mono ?_; rintro e w' ⟨rfl, rfl⟩) | (go_at_call 123; refine (HFa.out _ (HA0.out.below HB2.out)).mono ?_; rintro e w' ⟨rfl, rfl⟩))
              go_ret
              exact ⟨ret_bool HX.out.symm, HB2.out⟩
            · have hq : entB ck ⟨n, fs, u⟩ = true := by simp [entB, hlo, hhi, q1, q2, q3, q4]
              have HCon := Lib.hid (conD_any (fun o => o.n == n) wr.heap.size (.slice (some ⟨b, off, none⟩) k cap) (en.take k) (wr.alloc (.cells #[.int .i64 n, .slice pv fs.length cv, .int .i64 u] 158)) ((HAt.out.take k hk).below HB2.out) (by rw [List.length_take]; omega) (fun o _ v W hb ha => clEn_any n o wr.heap.size v W (cell_on hb (by simp)) ha))
              have HOf2 := Lib.hid (HOf.out hq); clear hq HOf
              have e2 : ¬ (fs.length : Int) = 0 := by omega
              have c0b := cell_on (below_alloc1 wr (.cells #[.int .i64 n, .slice pv fs.length cv, .int .i64 u] 158)) c0
              cases q5 : (en.take k).any (fun o => o.n == n)
              · rw [q5] at HCon
                have HX := Lib.hid (HN.out (by rw [HOf2.out, q5]; rfl))
                clear q5
                go_wp2_with (first | (go_at_call 86; refine (nSerial_any _ _).mono ?_; rintro e w' ⟨rfl, rfl⟩) | (go_at_call 83; refine (within_any _ _ _ _).mono ?_; rintro e w' ⟨rfl, rfl⟩) | (go_at_call 123; refine (HFa.out _ (HA0.out.below HB2.out)).mono ?_; rintro e w' ⟨rfl, rfl⟩) | (go_at_call 124; refine HCon.out.mono ?_; rintro e w9 ⟨rfl, hbel⟩; have HB3 := Lib.hid (HB2.out.trans (hbel.mono HB2.out.size)); have c0 := cell_on hbel c0b))
                go_roundw
                case rel => exact ⟨k + 1, by omega, by go_num, HX, Lib.hid (HBr.out.trans ((Below.trans (below_alloc1 wr (.cells #[.int .i64 n, .slice pv fs.length cv, .int .i64 u] 158)) (hbel.mono (by simp))).mono HBr.out.size))⟩
                case measure => simp [intOf]; omega
              · rw [q5] at HCon
                have HX := Lib.hid (HBd.out (by rw [HOf2.out, q5]; rfl))
                clear q5
                go_wp2_with (first | (go_at_call 86; refine (nSerial_any _ _).mono ?_; rintro e w' ⟨rfl, rfl⟩) | (go_at_call 83; refine (within_any _ _ _ _).mono ?_; rintro e w' ⟨rfl, rfl⟩) | (go_at_call 123; refine (HFa.out _ (HA0.out.below HB2.out)).mono ?_; rintro e w' ⟨rfl, rfl⟩) | (go_at_call 124; refine HCon.out.mono ?_; rintro e w9 ⟨rfl, hbel⟩; have HB3 := Lib.hid (HB2.out.trans (hbel.mono HB2.out.size)); have c0 := cell_on hbel c0b))
                go_ret
                exact ⟨ret_bool HX.out.symm, HB3.out⟩
    · obtain rfl : k = en.length := by omega
      have HG := Lib.hid (elB_good (ck := ck) (xs := en) (fun j hj => HK.out j (by omega)))
      cases h1 : inR ck 0 9999
      · rw [h1] at HG
        have HCk : Hid (∀ w, Calls Tryz.prog 85 #[.int .i64 ck] w fun e w' => e = .returned (.bool false) ∧ w = w') := Lib.hid (fun w => h1 ▸ nClock_any ck w)
        clear h1
        go_wp2_with ((go_at_call 85; refine (HCk.out _).mono ?_; rintro e w' ⟨rfl, rfl⟩))
        go_ret
        exact ⟨ret_bool (by rw [HG.out]; try rfl), hB⟩
      · rw [h1] at HG
        have HCk : Hid (∀ w, Calls Tryz.prog 85 #[.int .i64 ck] w fun e w' => e = .returned (.bool true) ∧ w = w') := Lib.hid (fun w => h1 ▸ nClock_any ck w)
        clear h1
        go_wp2_with ((go_at_call 85; refine (HCk.out _).mono ?_; rintro e w' ⟨rfl, rfl⟩))
        go_ret
        exact ⟨ret_bool (by rw [HG.out]; try rfl), hB⟩
end Go.Proofs.YtihpibdodlgpaaaGreatDoor
