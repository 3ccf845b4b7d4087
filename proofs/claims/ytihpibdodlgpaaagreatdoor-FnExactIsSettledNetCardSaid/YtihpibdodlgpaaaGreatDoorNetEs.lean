/- Contracts on elements: the reference's l14Good. -/
import Derived.Test.YtihpibdodlgpaaaGreatDoorNetX0
namespace Go.Proofs.YtihpibdodlgpaaaGreatDoor
open Go.RowKit

set_option maxRecDepth 100000 in
set_option maxHeartbeats 4000000 in
theorem sElem_any (x : NEl) (v0 : Value) (w : World) (h : kEn.At 0 w v0 x.en) (hf : fitEl 1048576 x) :
    Calls Tryz.prog 74 #[.agg #[.int .i64 x.ck, v0]] w fun e w' => e = .returned (.bool (elB x)) ∧ Below w.heap.size w w' := by
  obtain ⟨ck, en⟩ := x
  dsimp only at h ⊢
  have hlen := hf.1
  have HF := Lib.hid hf.2; clear hf
  simp only at hlen HF
  have HAt := Lib.hid h
  obtain ⟨p, cap, b, off, rfl, hcap, hp, hcell⟩ := h.parts
  clear h
  have HCe := Lib.hid hcell; clear hcell
  have HPt := Lib.hid hp; clear hp
  have HB0 : Hid (Below w.heap.size w (w.alloc (.cells #[.int .i64 ck, .slice p en.length cap] 107))) := Lib.hid (below_alloc1 _ _)
  have HC0 : Hid ((w.alloc (.cells #[.int .i64 ck, .slice p en.length cap] 107)).cell? ⟨w.heap.size, 0, none⟩ = some (.int .i64 ck) ∧ (w.alloc (.cells #[.int .i64 ck, .slice p en.length cap] 107)).cell? ⟨w.heap.size, 1, none⟩ = some (.slice p en.length cap)) := Lib.hid ⟨by simp, by simp⟩
  obtain ⟨lo, hlo⟩ : ∃ lo, IntKind.i64.wrap (ck + 1) = lo := ⟨_, rfl⟩
  obtain ⟨hi, hhi⟩ : ∃ hi, IntKind.i64.wrap (ck + 6) = hi := ⟨_, rfl⟩
  have hlo2 : wrap64 (ck + 1) = lo := by have h := hlo; rw [IntKind.wrap_i64] at h; simp only [wrap64]; omega
  have hhi2 : wrap64 (ck + 6) = hi := by have h := hhi; rw [IntKind.wrap_i64] at h; simp only [wrap64]; omega
  cases h1 : inR ck 0 9999
  · have HCk : Hid (∀ w, Calls Tryz.prog 70 #[.int .i64 ck] w fun e w' => e = .returned (.bool false) ∧ w = w') := Lib.hid (fun w => h1 ▸ sClock_any ck w)
    go_enter Tryz.func74, Tryz.ntmps74
    go_wp2_with (go_at_call 70; refine (HCk.out _).mono ?_; rintro e w' ⟨rfl, rfl⟩)
    go_ret
    exact ⟨ret_bool (by simp [elB, h1]), HB0.out⟩
  · have HCk : Hid (∀ w, Calls Tryz.prog 70 #[.int .i64 ck] w fun e w' => e = .returned (.bool true) ∧ w = w') := Lib.hid (fun w => h1 ▸ sClock_any ck w)
    by_cases h2 : (en.length : Int) ≤ 5
    · have HV : Hid ((∀ k, k < en.length → ekB ck en k = true) → elB ⟨ck, en⟩ = true) := Lib.hid (fun h => by rw [elB_good h, h1, decide_eq_true h2]; rfl)
      clear h1
      go_enter Tryz.func74, Tryz.ntmps74
      go_wp2_with ((go_at_call 70; refine (HCk.out _).mono ?_; rintro e w' ⟨rfl, rfl⟩))
      go_loopw [3] (fun i wr => ∃ k : Nat, k ≤ en.length ∧ i = .int .i64 k ∧ Hid (∀ j, j < k → ekB ck en j = true) ∧ Hid (Below (w.alloc (.cells #[.int .i64 ck, .slice p en.length cap] 107)).heap.size (w.alloc (.cells #[.int .i64 ck, .slice p en.length cap] 107)) wr)) (fun i _ => en.length - (intOf i).toNat)
      case atStart => exact ⟨0, Nat.zero_le _, rfl, Lib.hid fun j h => absurd h (by omega), Lib.hid (Below.refl _ _)⟩
      case round =>
        obtain ⟨k, hk, rfl, HK, HBr⟩ := hrel
        have hB := HB0.out.trans (HBr.out.mono HB0.out.size)
        have c0 := cell_on HBr.out HC0.out.1
        have c1 := cell_on HBr.out HC0.out.2
        have hzs : w.heap.size < wr.heap.size := by have := HBr.out.size; simp at this; omega
        by_cases hlt : k < en.length
        · have c1 : wr.cell? ⟨w.heap.size, 1, none⟩ = some (.slice p en.length cap) := c1
          obtain rfl := HPt.out (by omega)
          obtain ⟨c, hC, hcl⟩ := HCe.out k hlt
          have hs : en[k].fs.length ≤ 1048576 := HF.out en[k] (List.getElem_mem hlt)
          have HN : Hid (ekB ck en k = true → ∀ j, j < k + 1 → ekB ck en j = true) := Lib.hid (fun h j hj => by
            by_cases he : j = k
            · subst he; exact h
            · exact HK.out j (by omega))
          have HBd : Hid (ekB ck en k = false → elB ⟨ck, en⟩ = false) := Lib.hid (fun h => elB_bad k hlt h)
          have HB1 : Hid (entB ck en[k] = false → ekB ck en k = false) := Lib.hid (fun h => ekB_bad1 hlt h)
          have HOf : Hid (entB ck en[k] = true → ekB ck en k = !((en.take k).any fun o => o.n == en[k].n)) := Lib.hid (fun h => ekB_of hlt h)
          generalize en[k] = x at *
          obtain ⟨n, fs, u⟩ := x
          obtain ⟨v, rfl, a0⟩ := hC
          obtain ⟨pv, cv, _, _, rfl, hcv, _, _⟩ := a0.parts
          dsimp only at hs a0 HB1 HOf
          have d0 : _ = some (Value.int .i64 n) := cell_on hB (hcl 0 _ rfl)
          rw [show off + k * kEn.sz + 0 = off + k * 3 from rfl] at d0
          have d1 : _ = some (Value.slice pv fs.length cv) := cell_on hB (hcl 1 _ rfl)
          rw [show off + k * kEn.sz + 1 = off + k * 3 + 1 from rfl] at d1
          have d2 : _ = some (Value.int .i64 u) := cell_on hB (hcl 2 _ rfl)
          rw [show off + k * kEn.sz + 2 = off + k * 3 + 2 from rfl] at d2
          clear hcl
          have HB2 : Hid (Below w.heap.size w (wr.alloc (.cells #[.int .i64 n, .slice pv fs.length cv, .int .i64 u] 158))) := Lib.hid (hB.trans ((below_alloc1 _ _).mono hB.size))
          have HFa := Lib.hid (fun w h => sFaces_any (.slice pv fs.length cv) fs w h hs)
          have HA0 := Lib.hid a0; clear a0
          have c0b := cell_on (below_alloc1 wr (.cells #[.int .i64 n, .slice pv fs.length cv, .int .i64 u] 158)) c0
          have c1b := cell_on (below_alloc1 wr (.cells #[.int .i64 n, .slice pv fs.length cv, .int .i64 u] 158)) c1
          have x0 : (wr.alloc (.cells #[.int .i64 n, .slice pv fs.length cv, .int .i64 u] 158)).cell? ⟨wr.heap.size, 0, none⟩ = some (.int .i64 n) := by simp
          have x2 : (wr.alloc (.cells #[.int .i64 n, .slice pv fs.length cv, .int .i64 u] 158)).cell? ⟨wr.heap.size, 2, none⟩ = some (.int .i64 u) := by simp
          cases q1 : inR n 0 65535
          · have HX := Lib.hid (HBd.out (HB1.out (by first | (simp [entB, hlo, hhi, q1]; done) | (simp [entB, hlo, hhi, q1]; intros; omega))))
            clear HOf HN
            go_wp2_with (first | (go_at_call 71; refine (nGood_any _ _).mono ?_; rintro e w' ⟨rfl, rfl⟩) | (go_at_call 68; refine (l1In_any _ _ _ _).mono ?_; rintro e w' ⟨rfl, rfl⟩) | (go_at_call 106; refine (HFa.out _ (HA0.out.below HB2.out)).mono ?_; rintro e w9 ⟨rfl, hbel⟩; have HB3 := Lib.hid (HB2.out.trans (hbel.mono HB2.out.size)); have c0 := cell_on hbel c0b; have c1 := cell_on hbel c1b; have x0 := cell_on hbel x0; have x2 := cell_on hbel x2))
            go_ret
            exact ⟨ret_bool HX.out.symm, HB2.out⟩
          · by_cases q2 : fs.length = 0
            · have HX := Lib.hid (HBd.out (HB1.out (by first | (simp [entB, hlo, hhi, q1, q2]; done) | (simp [entB, hlo, hhi, q1, q2]; intros; omega))))
              obtain rfl := List.length_eq_zero_iff.1 q2
              clear q2
              clear HOf HN
              go_wp2_with (first | (go_at_call 71; refine (nGood_any _ _).mono ?_; rintro e w' ⟨rfl, rfl⟩) | (go_at_call 68; refine (l1In_any _ _ _ _).mono ?_; rintro e w' ⟨rfl, rfl⟩) | (go_at_call 106; refine (HFa.out _ (HA0.out.below HB2.out)).mono ?_; rintro e w9 ⟨rfl, hbel⟩; have HB3 := Lib.hid (HB2.out.trans (hbel.mono HB2.out.size)); have c0 := cell_on hbel c0b; have c1 := cell_on hbel c1b; have x0 := cell_on hbel x0; have x2 := cell_on hbel x2))
              go_ret
              exact ⟨ret_bool HX.out.symm, HB2.out⟩
            · cases q3 : riB fs
              · have HX := Lib.hid (HBd.out (HB1.out (by first | (simp [entB, hlo, hhi, q1, q2, q3]; done) | (simp [entB, hlo, hhi, q1, q2, q3]; intros; omega))))
                clear HOf HN
                go_wp2_with (first | (go_at_call 71; refine (nGood_any _ _).mono ?_; rintro e w' ⟨rfl, rfl⟩) | (go_at_call 68; refine (l1In_any _ _ _ _).mono ?_; rintro e w' ⟨rfl, rfl⟩) | (go_at_call 106; refine (HFa.out _ (HA0.out.below HB2.out)).mono ?_; rintro e w9 ⟨rfl, hbel⟩; have HB3 := Lib.hid (HB2.out.trans (hbel.mono HB2.out.size)); have c0 := cell_on hbel c0b; have c1 := cell_on hbel c1b; have x0 := cell_on hbel x0; have x2 := cell_on hbel x2))
                go_ret
                exact ⟨ret_bool HX.out.symm, HB3.out⟩
              · cases q4 : inR u lo hi
                · have HX := Lib.hid (HBd.out (HB1.out (by first | (simp [entB, hlo, hhi, q1, q2, q3, q4]; done) | (simp [entB, hlo, hhi, q1, q2, q3, q4]; intros; omega))))
                  clear HOf HN
                  go_wp2_with (first | (go_at_call 71; refine (nGood_any _ _).mono ?_; rintro e w' ⟨rfl, rfl⟩) | (go_at_call 68; refine (l1In_any _ _ _ _).mono ?_; rintro e w' ⟨rfl, rfl⟩) | (go_at_call 106; refine (HFa.out _ (HA0.out.below HB2.out)).mono ?_; rintro e w9 ⟨rfl, hbel⟩; have HB3 := Lib.hid (HB2.out.trans (hbel.mono HB2.out.size)); have c0 := cell_on hbel c0b; have c1 := cell_on hbel c1b; have x0 := cell_on hbel x0; have x2 := cell_on hbel x2))
                  go_ret
                  exact ⟨ret_bool HX.out.symm, HB3.out⟩
                · have hq : entB ck ⟨n, fs, u⟩ = true := by simp [entB, hlo, hhi, q1, q2, q3, q4]
                  have HOf2 := Lib.hid (HOf.out hq); clear hq HOf
                  have e2 : ¬ (fs.length : Int) = 0 := by omega
                  go_wp2_with (first | (go_at_call 71; refine (nGood_any _ _).mono ?_; rintro e w' ⟨rfl, rfl⟩) | (go_at_call 68; refine (l1In_any _ _ _ _).mono ?_; rintro e w' ⟨rfl, rfl⟩) | (go_at_call 106; refine (HFa.out _ (HA0.out.below HB2.out)).mono ?_; rintro e w9 ⟨rfl, hbel⟩; have HB3 := Lib.hid (HB2.out.trans (hbel.mono HB2.out.size)); have c0 := cell_on hbel c0b; have c1 := cell_on hbel c1b; have x0 := cell_on hbel x0; have x2 := cell_on hbel x2))
                  have HI0 := Lib.hid (And.intro c0 (And.intro c1 x0))
                  have HNx := Lib.hid (fun W (hb : Below w9.heap.size w9 W) => HBr.out.trans ((Below.trans (below_alloc1 wr (.cells #[.int .i64 n, .slice pv fs.length cv, .int .i64 u] 158)) ((hbel.trans (hb.mono hbel.size)).mono (by simp))).mono HBr.out.size))
                  clear c0 c1 c0b c1b x0 x2 d0 d1 d2
                  go_loopw [5] (fun i wi => ∃ m : Nat, m ≤ k ∧ i = .int .i64 m ∧ Hid (∀ j (h : j < en.length), j < m → en[j].n ≠ n) ∧ Hid (Below w9.heap.size w9 wi)) (fun i _ => k - (intOf i).toNat)
                  case atStart => exact ⟨0, Nat.zero_le _, rfl, Lib.hid fun j _ h => absurd h (by omega), Lib.hid (Below.refl _ _)⟩
                  case round =>
                    obtain ⟨m, hm, rfl, HM, HBi⟩ := hrel
                    have c0 := cell_on HBi.out HI0.out.1
                    have c1 := cell_on HBi.out HI0.out.2.1
                    have x0 := cell_on HBi.out HI0.out.2.2
                    by_cases hmk : m < k
                    · have hml : m < en.length := by omega
                      obtain ⟨cy, hCy, hcy⟩ := HCe.out m hml
                      have HAny : Hid (en[m].n = n → (en.take k).any (fun o => o.n == n) = true) := Lib.hid (fun h => List.any_eq_true.2 ⟨en[m], List.mem_take_iff_getElem.2 ⟨m, by omega, rfl⟩, by simp [h]⟩)
                      have HMN : Hid (en[m].n ≠ n → ∀ j (h : j < en.length), j < m + 1 → en[j].n ≠ n) := Lib.hid (fun hh j h hj => by
                        by_cases he : j = m
                        · subst he; exact hh
                        · exact HM.out j h (by omega))
                      generalize en[m] = y at *
                      obtain ⟨yn, yf, yu⟩ := y
                      obtain ⟨vy, rfl, ay⟩ := hCy
                      dsimp only at HAny HMN ay
                      have g0 : _ = some (Value.int .i64 yn) := cell_on (HB3.out.trans (HBi.out.mono HB3.out.size)) (hcy 0 _ rfl)
                      rw [show off + m * kEn.sz + 0 = off + m * 3 from rfl] at g0
                      clear hcy ay
                      by_cases hy : yn = n
                      · have HX := Lib.hid (HBd.out (by rw [HOf2.out, HAny.out hy]; rfl))
                        subst hy
                        go_wp2
                        go_quiet (fail)
                        go_wp2
                        go_ret
                        exact ⟨ret_bool HX.out.symm, HB3.out.trans ((below_drewN HBi.out nq).mono HB3.out.size)⟩
                      · have HX := Lib.hid (HMN.out hy)
                        go_wp2
                        go_quiet (fail)
                        go_wp2
                        go_roundw
                        case rel => exact ⟨m + 1, by omega, by go_num, HX, Lib.hid (below_drewN HBi.out nq)⟩
                        case measure => simp [intOf]; omega
                    · obtain rfl : m = k := by omega
                      have HX := Lib.hid (HN.out (by
                        rw [HOf2.out]
                        cases ha : (en.take m).any (fun o => o.n == n) with
                        | false => rfl
                        | true =>
                          obtain ⟨y, hy, he⟩ := List.any_eq_true.1 ha
                          obtain ⟨j, hj, rfl⟩ := List.mem_take_iff_getElem.1 hy
                          exact absurd (by simpa using he) (HM.out j _ (by omega))))
                      go_wp2
                      go_roundw
                      case rel => exact ⟨m + 1, by omega, by go_num, HX, Lib.hid (HNx.out _ HBi.out)⟩
                      case measure => simp [intOf]; omega
        · obtain rfl : k = en.length := by omega
          have HG := Lib.hid (HV.out (fun j hj => HK.out j (by omega)))
          go_wp2
          go_ret
          exact ⟨ret_bool HG.out.symm, hB⟩
    · go_enter Tryz.func74, Tryz.ntmps74
      go_wp2_with (go_at_call 70; refine (HCk.out _).mono ?_; rintro e w' ⟨rfl, rfl⟩)
      go_ret
      exact ⟨ret_bool (by first | (simp [elB, h2]; done) | (simp [elB, h2]; intros; omega)), HB0.out⟩
end Go.Proofs.YtihpibdodlgpaaaGreatDoor
