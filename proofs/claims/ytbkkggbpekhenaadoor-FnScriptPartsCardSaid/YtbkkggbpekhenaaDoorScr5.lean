/- A script repeated: the program's (slices.Repeat) and the reference's RepeatScript, for all lists of at most 2^30 steps and all numbers. -/
import Derived.Test.YtbkkggbpekhenaaDoorScr1
import Derived.Test.YtbkkggbpekhenaaDoorRepMath
import Derived.Test.YtbkkggbpekhenaaDoorCopyK
import Derived.Test.YtbkkggbpekhenaaDoorShelf2
import Derived.Laws.AppendOwnNone
namespace Go.Proofs.YtbkkggbpekhenaaDoor
open Go.RowKit

theorem oneSt5 (xs : List St) : ∀ u ∈ xs.flatMap St.cells, u.oneCell' = true := by
  intro u hu
  obtain ⟨x, _, hx⟩ := List.mem_flatMap.1 hu
  simp at hx
  rcases hx with rfl | rfl | rfl <;> rfl
/-- a slice of the call's own that is as long as its block: the block itself -/
theorem own_full {w : World} {B g n : Nat} {e : TypeId} {sz : Nat} {cs : List Value} (h : w.ownsRow B e sz (.slice (some ⟨g, 0, none⟩) n n) n cs) : w.heap[g]? = some (.cells cs.toArray e (0, 0)) ∧ cs.length = n * sz := by
  obtain ⟨hl, h⟩ := h
  rcases h with ⟨h, _⟩ | ⟨g', cap, cur, hv, _, hh, _, _, hs, ht⟩
  · cases h
  · simp only [Value.slice.injEq, Option.some.injEq, Addr.mk.injEq, and_true, true_and] at hv
    obtain ⟨rfl, rfl⟩ := hv
    rw [List.take_of_length_le (by simp; omega)] at ht
    refine ⟨?_, hl⟩
    rw [hh, ← ht]
theorem full_own {w : World} {B g n : Nat} {e : TypeId} {sz : Nat} {cs : List Value} (h : w.heap[g]? = some (.cells cs.toArray e (0, 0))) (hl : cs.length = n * sz) (hB : B ≤ g) (hn : n ≤ maxLen) : w.ownsRow B e sz (.slice (some ⟨g, 0, none⟩) n n) n cs :=
  ⟨hl, .inr ⟨g, n, cs.toArray, rfl, hB, h, Nat.le_refl _, hn, by simpa using hl, by rw [List.take_of_length_le (by simp; omega)]⟩⟩
theorem mul_small (a b T : Nat) (h : a * b = T) (hT : T ≤ 30) (ha : a < 18446744073709551616) (hb : b < 18446744073709551616) (w : World) :
    Calls Tryd.prog 91 #[.int .u64 a, .int .u64 b] w fun e w' => e = .returned (.tuple #[.int .u64 0, .int .u64 T]) ∧ w = w' := by
  refine (Any.bits_Mul Tryd.lays212 a b ha hb w).mono ?_
  rintro e w' ⟨rfl, rfl⟩
  refine ⟨?_, rfl⟩
  rw [h, Nat.div_eq_of_lt (by omega), Nat.mod_eq_of_lt (by omega)]
  rfl
theorem src_at (W : World) (g : Nat) (L : List Value) (t : TypeId) (h : W.heap[g]? = some (.cells L.toArray t (0, 0))) (q : Nat) : ∀ j v, (L.take q)[j]? = some v → W.cell? ((⟨g, 0, none⟩ : Addr).add j) = some v := by
  intro j v hj
  rw [add_at, Nat.zero_add, cell_of_row _ _ _ _ _ _ h]
  rw [List.getElem?_take] at hj
  split at hj
  · simpa using hj
  · cases hj
theorem rep_fact (m t l : Nat) (h : m < t) : min (m * l) (t * l - m * l) = (min (2 * m) t - m) * l := by
  rw [← Nat.sub_mul]
  rcases Nat.le_total (2 * m) t with h2 | h2
  · rw [Nat.min_eq_left h2, Nat.min_eq_left (Nat.mul_le_mul_right _ (by omega))]; congr 1; omega
  · rw [Nat.min_eq_right h2, Nat.min_eq_right (Nat.mul_le_mul_right _ (by omega))]
set_option maxRecDepth 100000 in
set_option maxHeartbeats 4000000 in
theorem repeatSt_any (v : Value) (xs : List St) (t : Nat) (w : World) (h : RdSt w v xs) (ht : t ≤ 30) (hT : t * xs.length ≤ 30) :
    Calls Tryd.prog 63 #[v, .int .i64 t] w fun e w' => ∃ v', e = .returned v' ∧ OwSt w.heap.size w' v' (repL xs t) ∧ Below w.heap.size w w' := by
  have hlen := h.2.1
  have HOK := Lib.hid (repL_mem (t := t) h.2.2)
  have HRL := Lib.hid (repL_length xs t)
  have HRF := Lib.hid (repL_flat St.cells xs t)
  have hcl : (xs.flatMap St.cells).length = xs.length * 3 := flat_length St.cells 3 St.cells_length xs
  have HS := h.1.source
  have HONE := Lib.hid (oneSt5 xs)
  obtain ⟨p, cap, b, off, rfl, hcap, _, _⟩ := h.parts
  clear h
  obtain ⟨i0, hi, hz0, hz1, hz2⟩ := info_parts infoSt
  have hsz3 : (Tryd.prog.info? 34).map (·.size) = some 3 := by rw [hi]; simp [hz1]
  have HM := Lib.hid (mul_small xs.length t (t * xs.length) (Nat.mul_comm _ _) hT (by omega) (by omega))
  obtain ⟨T, hTd⟩ : ∃ T, T = t * xs.length := ⟨_, rfl⟩
  rw [← hTd] at HM hT
  have HTD := Lib.hid hTd; clear hTd
  go_enter Tryd.func63, Tryd.ntmps63
  go_wp2_with fail
  refine (HM.out _).mono ?_
  rintro e w' ⟨rfl, rfl⟩
  go_wp2_with (at_make; refine wpList_make_full _ rfl _ _ 38 rfl w.heap.size 34 i0 (.agg #[.int .i64 0, .int .i64 0, .string ⟨#[]⟩]) 3 Tryd.underlying38 hi hz0 hz1 _ _ _ _ T rfl rfl rfl rfl ?b2 ?b3 (Nat.le_refl _) ?_)
  case b2 => rw [hz2]; omega
  case b3 => unfold maxLen; omega
  intro w0 hown0 hgrow0
  obtain ⟨hG0, hL0⟩ := own_full hown0
  clear hown0
  generalize (madeCells #[Value.int IntKind.i64 0, Value.int IntKind.i64 0, Value.string { data := #[] }] (T * 3)).toList = L0 at hG0 hL0
  have HB0 : Hid (Below w.heap.size w w0) := Lib.hid ((Below.refl _ _).grown hgrow0 (Nat.le_refl _) (fun k h => by cases h))
  clear hgrow0
  have HG0 := Lib.hid hG0; clear hG0
  obtain ⟨m0, hm1, hmt, hmin⟩ : ∃ m0, m0 ≤ 1 ∧ m0 ≤ t ∧ Nat.min xs.length T = m0 * xs.length := by
    have hTd := HTD.out
    rcases Nat.eq_zero_or_pos t with h0 | h0
    · exact ⟨0, by omega, by omega, by rw [hTd, h0]; show min _ _ = _; simp⟩
    · have h1 : 1 * xs.length ≤ t * xs.length := Nat.mul_le_mul_right _ h0
      exact ⟨1, by omega, by omega, by rw [hTd]; show min _ _ = _; rw [Nat.min_eq_left (by omega)]; omega⟩
  have hc0 : (repL (xs.flatMap St.cells) m0).length = m0 * xs.length * 3 := by rw [repL_length, hcl, Nat.mul_assoc]
  have hle0 : m0 * xs.length ≤ T := by rw [← hmin]; exact Nat.min_le_right _ _
  have HPOS : Hid (0 < (repL (xs.flatMap St.cells) m0).length → (some (⟨w.heap.size, 0, none⟩ : Addr)) = some ⟨w.heap.size, 0, none⟩ ∧ ∃ ad, p = some ad ∧ ∀ j v, (repL (xs.flatMap St.cells) m0)[j]? = some v → w0.cell? (ad.add j) = some v) := Lib.hid (by
    intro h0
    refine ⟨rfl, ?_⟩
    have hm : m0 = 1 := by
      rcases Nat.eq_zero_or_pos m0 with h | h
      · rw [hc0, h] at h0; omega
      · omega
    rw [hm, repL_one]
    rcases HS with ⟨_, h3, _⟩ | ⟨ad, c2, h3, _, h5⟩
    · rw [hc0, h3] at h0; omega
    · simp only [Value.slice.injEq] at h3
      exact ⟨ad, h3.1, fun j v hj => cell_on HB0.out (h5 j v hj)⟩)
  clear HS
  have HONE0 : Hid (∀ v ∈ repL (xs.flatMap St.cells) m0, v.oneCell' = true) := Lib.hid (repL_mem HONE.out)
  have HTK : Hid ((splice L0 0 (repL (xs.flatMap St.cells) m0)).take (m0 * xs.length * 3) = repL (xs.flatMap St.cells) m0 ∧ (splice L0 0 (repL (xs.flatMap St.cells) m0)).length = T * 3) := Lib.hid (by
    constructor
    · rw [← hc0]; simp [splice]
    · rw [length_splice _ _ _ (by rw [hc0, hL0]; omega), hL0])
  have hfit0 : 0 + (repL (xs.flatMap St.cells) m0).length ≤ L0.length := by rw [hc0, hL0]; omega
  go_wp2_with (with_reducible refine wpList_copyK (o := ⟨some 33, _, _, _, _, _⟩) rfl (.tmp 31) (.tmp 32) 38 38 rfl 34 3 (m0 * xs.length) Tryd.underlying38 hsz3 (some ⟨w.heap.size, 0, none⟩) p T T xs.length cap ?hd ?hs w.heap.size 0 L0 34 HG0.out (repL (xs.flatMap St.cells) m0) hmin.symm hc0 ?hpos hfit0 HONE0.out w.heap.size w HB0.out (Nat.le_refl _) ?_)
  case hpos => first | exact HPOS.out | (intro h0; exact (HPOS.out (by rw [hc0]; exact Nat.mul_pos h0 (by omega))).2)
  intro w1 hg1 hb1
  have H01 : 0 < T → 1 ≤ m0 := fun h0 => by
    rcases Nat.eq_zero_or_pos m0 with h | h
    · exfalso
      have hl0 : xs.length ≠ 0 := fun h2 => by have := HTD.out; rw [h2] at this; omega
      rw [h, Nat.zero_mul] at hmin
      have : min xs.length T = 0 := hmin
      omega
    · exact h
  have HI0 := Lib.hid (And.intro hmt (And.intro H01 HTK.out))
  have HB1 := Lib.hid hb1
  clear HPOS HTK HONE0 HG0 HB0 hfit0 hmin hle0 hc0 hmt hm1 H01 hb1
  go_wp2
  go_loopw [8] (fun i wr => ∃ (m nn : Nat) (L : List Value), i = .int .i64 nn ∧ Hid (wr.heap[w.heap.size]? = some (.cells L.toArray 34 (0, 0))) ∧ Hid (nn = m * xs.length ∧ m ≤ t ∧ (0 < T → 1 ≤ m) ∧ L.take (nn * 3) = repL (xs.flatMap St.cells) m ∧ L.length = T * 3) ∧ Hid (Below w.heap.size w wr)) (fun i _ => T - (intOf i).toNat)
  case atStart => exact ⟨m0, _, _, rfl, hg1, Lib.hid ⟨rfl, HI0.out⟩, HB1⟩
  case round =>
    clear HI0 hg1 HB1
    obtain ⟨m, nn, L, rfl, HG, HI, HB⟩ := hrel
    have hle : nn ≤ T := by rw [HI.out.1, HTD.out]; exact Nat.mul_le_mul_right _ HI.out.2.1
    by_cases hlt : nn < T
    · have hml : m < t := by
        have h1 := HTD.out
        have h2 := HI.out.1
        rcases Nat.lt_or_ge m t with h | h
        · exact h
        · have := Nat.mul_le_mul_right xs.length h; omega
      obtain ⟨m', hm'⟩ : ∃ m', m' = min (2 * m) t := ⟨_, rfl⟩
      have h1m := HI.out.2.2.1 (by omega)
      have hmm : m < m' ∧ m' ≤ 2 * m ∧ m' ≤ t := by omega
      obtain ⟨q, hq⟩ : ∃ q, q = (m' - m) * xs.length := ⟨_, rfl⟩
      have hqm : q + nn = m' * xs.length := by rw [HI.out.1, hq, ← Nat.add_mul]; congr 1; omega
      have hq0 : 0 < q := by
        have hl0 : xs.length ≠ 0 := fun h2 => by have h3 := HTD.out; rw [h2] at h3; omega
        rw [hq]; exact Nat.mul_pos (by omega) (by omega)
      have hqT : q + nn ≤ T := by rw [hqm, HTD.out]; exact Nat.mul_le_mul_right _ hmm.2.2
      have hqn : q ≤ nn := by rw [HI.out.1, hq]; exact Nat.mul_le_mul_right _ (by omega)
      have hmin : q = Nat.min nn (T - nn) := by
        show q = min _ _
        rw [HI.out.1, HTD.out, rep_fact m t xs.length hml, hq, hm']
      have hL := HI.out.2.2.2.2
      have HNEW : Hid ((splice L (nn * 3) (L.take (q * 3))).take ((nn + q) * 3) = repL (xs.flatMap St.cells) m') := Lib.hid (by
        have h1 := rep_round (xs.flatMap St.cells) L m m' t (by omega) hmm.2.1 hmm.2.2 (by rw [hL, HTD.out, hcl, Nat.mul_assoc]) (by rw [hcl, ← Nat.mul_assoc, ← HI.out.1]; exact HI.out.2.2.2.1)
        rw [hcl, ← Nat.mul_assoc, ← Nat.mul_assoc, ← Nat.mul_assoc, ← hq, ← HI.out.1, ← hqm] at h1
        rw [← h1, splice, List.length_take, Nat.min_eq_left (by rw [hL]; omega), Nat.add_comm nn q])
      have hcs : (L.take (q * 3)).length = q * 3 := by rw [List.length_take, hL]; omega
      have hfit : nn * 3 + (L.take (q * 3)).length ≤ L.length := by rw [hcs, hL]; omega
      have HLN : Hid ((splice L (nn * 3) (L.take (q * 3))).length = T * 3) := Lib.hid (by rw [length_splice _ _ _ hfit, hL])
      have HQ := Lib.hid (And.intro hcs (And.intro hfit (And.intro hmin hqm)))
      have HM' := Lib.hid hmm.2.2
      have h1m' : 1 ≤ m' := by omega
      clear hm' hq hcs hfit hmin hqm hmm hL
      have HONEL : Hid (∀ v ∈ L.take (q * 3), v.oneCell' = true) := Lib.hid (fun v hv => by
        have h1 : v ∈ (L.take (nn * 3)).take (q * 3) := by rw [List.take_take, Nat.min_eq_left (by omega)]; exact hv
        have h2 := List.mem_of_mem_take h1
        rw [HI.out.2.2.2.1] at h2
        exact repL_mem HONE.out v h2)
      go_wp2_with fail
      have HP5 : Hid (0 < (L.take (q * 3)).length → (if T = nn then some (⟨w.heap.size, 0, none⟩ : Addr) else some ⟨w.heap.size, nn * 3, none⟩) = some ⟨w.heap.size, nn * 3, none⟩ ∧ ∃ ad, some (⟨w.heap.size, 0, none⟩ : Addr) = some ad ∧ ∀ j v, (L.take (q * 3))[j]? = some v → wr.drew.cell? (ad.add j) = some v) := Lib.hid (fun _ => ⟨if_neg (by omega), _, rfl, src_at wr.drew _ _ _ HG.out _⟩)
      have HG5 : Hid (wr.drew.heap[w.heap.size]? = some (.cells L.toArray 34 (0, 0))) := HG
      go_region_law ((refine step_copyK rfl (.tmp 41) (.tmp 44) 38 38 rfl 34 3 q Tryd.underlying38 hsz3 (if T = nn then some ⟨w.heap.size, 0, none⟩ else some ⟨w.heap.size, nn * 3, none⟩) (some ⟨w.heap.size, 0, none⟩) (T - nn) (T - nn) nn T (by simp [Act.eval, Act.put]) (by simp [Act.eval, Act.put]) w.heap.size (nn * 3) L 34 HG5.out (L.take (q * 3)) HQ.out.2.2.1 HQ.out.1 HP5.out HQ.out.2.1 HONEL.out w.heap.size w HB.out.drew (Nat.le_refl _) ?_); intro w4 hg4 hb4)
      have HB4 := Lib.hid hb4; clear hb4 HG5 HP5
      have HI4 : Hid (nn + q = m' * xs.length ∧ m' ≤ t ∧ (0 < T → 1 ≤ m') ∧ (splice L (nn * 3) (L.take (q * 3))).take ((nn + q) * 3) = repL (xs.flatMap St.cells) m' ∧ (splice L (nn * 3) (L.take (q * 3))).length = T * 3) := Lib.hid ⟨by rw [← HQ.out.2.2.2, Nat.add_comm], HM'.out, fun _ => h1m', HNEW.out, HLN.out⟩
      have hwr : IntKind.i64.wrap ((nn : Int) + q) = ((nn + q : Nat) : Int) := by rw [IntKind.wrap_i64]; omega
      go_wp2
      go_roundw
      case rel => exact ⟨m', nn + q, by omega, _, hg4, HI4⟩
      case measure => simp [intOf]; omega
    · have HE : Hid (L = repL (xs.flatMap St.cells) t) := Lib.hid (by
        obtain ⟨e1, e2, _, e4, e5⟩ := HI.out
        have hTT := HTD.out
        have hnT : nn = T := by omega
        rw [hnT, List.take_of_length_le (by rw [e5]; exact Nat.le_refl _)] at e4
        rw [e4, show t = m + (t - m) by omega, repL_add]
        have h0 : (repL (xs.flatMap St.cells) (t - m)).length = 0 := by
          rw [repL_length, hcl, ← Nat.mul_assoc, Nat.sub_mul, ← e1, ← hTT, hnT]; omega
        rw [List.length_eq_zero_iff.1 h0, List.append_nil])
      have HLL := Lib.hid HI.out.2.2.2.2
      have HF := Lib.hid (And.intro HG.out HB.out)
      clear HI
      go_wp2
      refine bodyPost_ret (v := (.slice (some ⟨w.heap.size, 0, none⟩) T T)) (by simp [results, Tryd.results63, go_sem, *]) rfl ?_
      have e1 := HF.out.1
      have e2 := HLL.out
      rw [HE.out, ← HRF.out] at e1 e2
      refine ⟨_, rfl, ⟨?_, by rw [HRL.out, ← HTD.out]; omega, HOK.out⟩, HF.out.2⟩
      rw [HRL.out, ← HTD.out]
      exact full_own e1 e2 (Nat.le_refl _) (by unfold maxLen; omega)

/-- is it repeated? -/
def repB (xs : List St) (t : Int) : Bool := scB xs && (inR t 0 30 && decide (t * xs.length ≤ 30))
def repV (xs : List St) (t : Int) : List St := if repB xs t = true then repL xs t.toNat else []
set_option maxRecDepth 100000 in
set_option maxHeartbeats 4000000 in
theorem implRepeat_any (v : Value) (xs : List St) (t : Int) (w : World) (h : RdSt w v xs) :
    Calls Tryd.prog 24 #[v, .int .i64 t] w fun e w' => ∃ v', e = .returned (.tuple #[v', .bool (repB xs t)]) ∧ OwSt w.heap.size w' v' (repV xs t) ∧ Below w.heap.size w w' := by
  have HT := Lib.hid (implIsScript_any v xs w h)
  have HR := Lib.hid h
  have hlen := h.2.1
  obtain ⟨p, cap, b, off, rfl, hcap, _, _⟩ := h.parts
  clear h
  have hno : repB xs t = false → Hid (repV xs t = [] ∧ repB xs t = false) := fun h => Lib.hid ⟨by rw [repV, h]; rfl, h⟩
  cases hB : scB xs
  · have HV := hno (by rw [repB, hB]; rfl); clear hno
    rw [hB] at HT
    go_enter Tryd.func24, Tryd.ntmps24
    go_wp2_with fail
    refine HT.out.mono ?_
    rintro e w1 ⟨rfl, hb⟩
    have HB := Lib.hid hb; clear hb
    go_wp2
    refine bodyPost_ret (v := (.tuple #[.slice none 0 0, .bool false])) (by simp [results, Tryd.results24, go_sem, *]) rfl ?_
    exact ⟨_, by rw [HV.out.2], by rw [HV.out.1]; exact ⟨⟨rfl, .inl ⟨rfl, rfl⟩⟩, by simp, by simp⟩, HB.out⟩
  · have h30 := (scB_true.1 hB).1
    have HI := Lib.hid (fun w => within_any t 0 30 w)
    cases hI : inR t 0 30
    · have HV := hno (by rw [repB, hB, hI]; rfl); clear hno
      rw [hB] at HT
      rw [hI] at HI
      clear hB hI
      go_enter Tryd.func24, Tryd.ntmps24
      go_wp2_with fail
      refine HT.out.mono ?_
      rintro e w1 ⟨rfl, hb⟩
      have HB := Lib.hid hb; clear hb
      go_wp2_with fail
      refine (HI.out _).mono ?_
      rintro e w' ⟨rfl, rfl⟩
      go_wp2
      refine bodyPost_ret (v := (.tuple #[.slice none 0 0, .bool false])) (by simp [results, Tryd.results24, go_sem, *]) rfl ?_
      exact ⟨_, by rw [HV.out.2], by rw [HV.out.1]; exact ⟨⟨rfl, .inl ⟨rfl, rfl⟩⟩, by simp, by simp⟩, HB.out⟩
    · obtain ⟨ht0, ht1⟩ := inR_true.1 hI
      obtain ⟨n, rfl⟩ := Int.eq_ofNat_of_zero_le ht0
      have hmul : (n : Int) * xs.length = ((n * xs.length : Nat) : Int) := by simp
      have hle : n * xs.length ≤ 30 * 30 := Nat.mul_le_mul (by omega) h30
      by_cases hm : n * xs.length ≤ 30
      · have HV : Hid (repV xs n = repL xs n ∧ repB xs n = true) := by
          have h1 : repB xs n = true := by rw [repB, hB, hI, hmul]; simp; omega
          exact Lib.hid ⟨by rw [repV, if_pos h1]; rfl, h1⟩
        have HRP := Lib.hid (fun w h => repeatSt_any (.slice p xs.length cap) xs n w h (by omega) hm)
        rw [hB] at HT
        rw [hI] at HI
        clear hB hI hno
        generalize n * xs.length = T at hmul hle hm
        go_enter Tryd.func24, Tryd.ntmps24
        go_wp2_with fail
        refine HT.out.mono ?_
        rintro e w1 ⟨rfl, hb⟩
        have HB := Lib.hid hb; clear hb
        go_wp2_with fail
        refine (HI.out _).mono ?_
        rintro e w' ⟨rfl, rfl⟩
        go_wp2_with fail
        refine (HRP.out _ (HR.out.below HB.out)).mono ?_
        rintro e w2 ⟨u, rfl, hou, hb2⟩
        have HO := Lib.hid (hou.base HB.out.size); clear hou
        have HB2 := Lib.hid (HB.out.trans (hb2.mono HB.out.size)); clear hb2
        go_wp2
        refine bodyPost_ret (v := (.tuple #[u, .bool true])) (by simp [results, Tryd.results24, go_sem, *]) rfl ?_
        exact ⟨_, by rw [HV.out.2], by rw [HV.out.1]; exact HO.out, HB2.out⟩
      · have HV := hno (by rw [repB, hB, hI, hmul]; simp; omega); clear hno
        rw [hB] at HT
        rw [hI] at HI
        clear hB hI
        generalize n * xs.length = T at hmul hle hm
        go_enter Tryd.func24, Tryd.ntmps24
        go_wp2_with fail
        refine HT.out.mono ?_
        rintro e w1 ⟨rfl, hb⟩
        have HB := Lib.hid hb; clear hb
        go_wp2_with fail
        refine (HI.out _).mono ?_
        rintro e w' ⟨rfl, rfl⟩
        go_wp2
        refine bodyPost_ret (v := (.tuple #[.slice none 0 0, .bool false])) (by simp [results, Tryd.results24, go_sem, *]) rfl ?_
        exact ⟨_, by rw [HV.out.2], by rw [HV.out.1]; exact ⟨⟨rfl, .inl ⟨rfl, rfl⟩⟩, by simp, by simp⟩, HB.out⟩
set_option maxRecDepth 100000 in
set_option maxHeartbeats 4000000 in
theorem specRepeat_any (v : Value) (xs : List St) (t : Int) (w : World) (h : RdSt w v xs) :
    Calls Tryd.prog 25 #[v, .int .i64 t] w fun e w' => ∃ v', e = .returned (.tuple #[v', .bool (repB xs t)]) ∧ OwSt w.heap.size w' v' (repV xs t) ∧ Below w.heap.size w w' := by
  have HT := Lib.hid (fun w h => l16Good_any v xs w h)
  have HR := Lib.hid h
  have hlen := h.2.1
  have HOK := Lib.hid (fun t => repL_mem (t := t) h.2.2)
  have HONE := Lib.hid (oneSt5 xs)
  have HS := Lib.hid h.1.source
  have HCL := Lib.hid (flat_length St.cells 3 St.cells_length xs)
  obtain ⟨p, cap, b, off, rfl, hcap, _, _⟩ := h.parts
  obtain ⟨i0, hi, hz0, hz1, hz2⟩ := info_parts infoSt
  clear h
  have HE : Hid (OwSt w.heap.size (w.alloc (.cells #[] 34)) (.slice (some ⟨w.heap.size, 0, none⟩) 0 0) []) := Lib.hid ⟨World.ownsRow_lit w #[] 0 (Nat.le_refl _) (Nat.zero_le _) rfl, by simp, by simp⟩
  have HR1 : Hid (RdSt (w.alloc (.cells #[] 34)) (.slice p xs.length cap) xs) := Lib.hid (HR.out.below (below_alloc1 _ _))
  have hno : repB xs t = false → Hid (repV xs t = [] ∧ repB xs t = false) := fun h => Lib.hid ⟨by rw [repV, h]; rfl, h⟩
  cases hB : scB xs
  · have HV := hno (by rw [repB, hB]; rfl); clear hno
    rw [hB] at HT
    go_enter Tryd.func25, Tryd.ntmps25
    go_wp2_with fail
    refine (HT.out _ HR1.out).mono ?_
    rintro e w1 ⟨rfl, hb⟩
    have HE1 := Lib.hid (HE.out.below hb)
    have HB := Lib.hid (Below.trans (by go_grown) (hb.mono (by simp)) : Below w.heap.size w w1); clear hb
    go_wp2
    refine bodyPost_ret (v := (.tuple #[.slice (some ⟨w.heap.size, 0, none⟩) 0 0, .bool false])) (by simp [results, Tryd.results25, go_sem, *]) rfl ?_
    exact ⟨_, by rw [HV.out.2], by rw [HV.out.1]; exact HE1.out, HB.out⟩
  · have h30 := (scB_true.1 hB).1
    have HI := Lib.hid (fun w => l1In_any t 0 30 w)
    cases hI : inR t 0 30
    · have HV := hno (by rw [repB, hB, hI]; rfl); clear hno
      rw [hB] at HT
      rw [hI] at HI
      clear hB hI
      go_enter Tryd.func25, Tryd.ntmps25
      go_wp2_with fail
      refine (HT.out _ HR1.out).mono ?_
      rintro e w1 ⟨rfl, hb⟩
      have HE1 := Lib.hid (HE.out.below hb)
      have HB := Lib.hid (Below.trans (by go_grown) (hb.mono (by simp)) : Below w.heap.size w w1); clear hb
      go_wp2_with fail
      refine (HI.out _).mono ?_
      rintro e w' ⟨rfl, rfl⟩
      go_wp2
      refine bodyPost_ret (v := (.tuple #[.slice (some ⟨w.heap.size, 0, none⟩) 0 0, .bool false])) (by simp [results, Tryd.results25, go_sem, *]) rfl ?_
      exact ⟨_, by rw [HV.out.2], by rw [HV.out.1]; exact HE1.out, HB.out⟩
    · obtain ⟨ht0, ht1⟩ := inR_true.1 hI
      obtain ⟨n, rfl⟩ := Int.eq_ofNat_of_zero_le ht0
      have hmul : (n : Int) * xs.length = ((n * xs.length : Nat) : Int) := by simp
      have hle : n * xs.length ≤ 30 * 30 := Nat.mul_le_mul (by omega) h30
      by_cases hm : n * xs.length ≤ 30
      · have HV : Hid (repV xs n = repL xs n ∧ repB xs n = true) := by
          have h1 : repB xs n = true := by rw [repB, hB, hI, hmul]; simp; omega
          exact Lib.hid ⟨by rw [repV, if_pos h1]; rfl, h1⟩
        have HM := Lib.hid hm
        rw [hB] at HT
        rw [hI] at HI
        clear hB hI hno
        generalize n * xs.length = T at hmul hle hm
        go_enter Tryd.func25, Tryd.ntmps25
        go_wp2_with fail
        refine (HT.out _ HR1.out).mono ?_
        rintro e w1 ⟨rfl, hb⟩
        have HE1 := Lib.hid (HE.out.below hb)
        have HB := Lib.hid (Below.trans (by go_grown) (hb.mono (by simp)) : Below w.heap.size w w1); clear hb HE HR1
        go_wp2_with fail
        refine (HI.out _).mono ?_
        rintro e w' ⟨rfl, rfl⟩
        go_wp2
        go_loopw [6, 7] (fun v i wr => ∃ k : Nat, k ≤ n ∧ i = .int .i64 k ∧ wr.ownsRow w.heap.size 34 3 v (k * xs.length) (repL (xs.flatMap St.cells) k) ∧ Below w.heap.size w wr) (fun _ i _ => n - (intOf i).toNat)
        case atStart => exact ⟨0, Nat.zero_le _, rfl, by simpa [repL] using HE1.out.1, HB.out⟩
        case round =>
          clear HB HE1
          obtain ⟨k, hk, rfl, hO, hb⟩ := hrel
          by_cases hlt : k < n
          · have hsz := hb.size
            have hkl : (k + 1) * xs.length ≤ n * xs.length := Nat.mul_le_mul_right _ (by omega)
            have hk1 : (k + 1) * xs.length = k * xs.length + xs.length := by rw [Nat.add_mul, Nat.one_mul]
            have hM := HM.out
            have hkb : k * xs.length + xs.length ≤ 30 := by omega
            rcases HS.out with ⟨hs, hs0, hsc⟩ | ⟨a, cap2, hs, hc2, hcells⟩
            · simp only [Value.slice.injEq] at hs
              obtain ⟨rfl, hx0, rfl⟩ := hs
              obtain rfl : xs = [] := List.length_eq_zero_iff.1 hx0
              have hO' := Lib.hid hO; have hB' := Lib.hid hb; clear hO hb
              go_wp2_with (first | (at_builtin; go_loud (refine wpList_append_own_none rfl _ _ 38 rfl w.heap.size 34 i0 3 Tryd.underlying38 hi _ _ _ rfl hO'.out rfl ?_)))
              go_wp2
              go_roundw
              case rel =>
                refine ⟨_, _, _, _, _, _, _, _, _, _, ?_, rfl⟩
                exact ⟨k + 1, by omega, by go_num, by simpa [repL] using hO'.out, hB'.out⟩
              case measure => simp [intOf]; omega
            · simp only [Value.slice.injEq, true_and] at hs
              obtain ⟨rfl, rfl⟩ := hs
              have HC := Lib.hid (cells_kept (hb.mono (Nat.le_refl _)) hcells); clear hcells
              clear hkl hk1 hM
              go_wp2_with (first | (at_builtin; go_loud (refine wpList_append_own _ rfl _ _ 38 rfl w.heap.size 34 i0 (.agg #[.int .i64 0, .int .i64 0, .string ⟨#[]⟩]) 3 32 Tryd.underlying38 hi hz0 hz1 hz2 rfl (by decide) _ _ _ rfl hO a xs.length cap (xs.flatMap St.cells) rfl HCL.out HC.out HONE.out ?c3 ?c4 ?c5 ?_)))
              try (case c3 => first | omega | (unfold maxLen; omega))
              try (case c4 => omega)
              try (case c5 => omega)
              intro v' w2 hown' hgrow
              try intro _
              go_wp2
              go_roundw
              case rel => exact ⟨k + 1, by omega, by go_num, by rw [repL_succ, Nat.add_mul, Nat.one_mul]; exact hown', Below.grown hb hgrow hb.size (fun j hj => (hO.lt j hj).1)⟩
              case measure => simp [intOf]; omega
          · obtain rfl : k = n := by omega
            have HH := Lib.hid (And.intro hO hb); clear hO hb
            go_wp2
            refine bodyPost_ret (v := (.tuple #[u6, .bool true])) (by simp [results, Tryd.results25, go_sem, *]) rfl ?_
            exact ⟨_, by rw [HV.out.2], by rw [HV.out.1]; exact ⟨by rw [repL_length, repL_flat]; exact HH.out.1, by rw [repL_length]; have := HM.out; omega, HOK.out k⟩, HH.out.2⟩
      · have HV := hno (by rw [repB, hB, hI, hmul]; simp; omega); clear hno
        rw [hB] at HT
        rw [hI] at HI
        clear hB hI
        generalize n * xs.length = T at hmul hle hm
        go_enter Tryd.func25, Tryd.ntmps25
        go_wp2_with fail
        refine (HT.out _ HR1.out).mono ?_
        rintro e w1 ⟨rfl, hb⟩
        have HE1 := Lib.hid (HE.out.below hb)
        have HB := Lib.hid (Below.trans (by go_grown) (hb.mono (by simp)) : Below w.heap.size w w1); clear hb
        go_wp2_with fail
        refine (HI.out _).mono ?_
        rintro e w' ⟨rfl, rfl⟩
        go_wp2
        refine bodyPost_ret (v := (.tuple #[.slice (some ⟨w.heap.size, 0, none⟩) 0 0, .bool false])) (by simp [results, Tryd.results25, go_sem, *]) rfl ?_
        exact ⟨_, by rw [HV.out.2], by rw [HV.out.1]; exact HE1.out, HB.out⟩
end Go.Proofs.YtbkkggbpekhenaaDoor
