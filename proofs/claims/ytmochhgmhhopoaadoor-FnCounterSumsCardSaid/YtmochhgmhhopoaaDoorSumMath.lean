/- Plain laws on lists of counters: the value of a name behind a bump, behind an addition; which counters grew; the sorted ones; sums below a prefix. No program's text is walked here. -/
import Derived.Test.YtmochhgmhhopoaaDoorCnt11
import Derived.Test.YtmochhgmhhopoaaDoorCnt13
import Derived.Test.YtmochhgmhhopoaaDoorCnt7
import Derived.Test.YtmochhgmhhopoaaDoorCnt6
import Derived.Test.YtmochhgmhhopoaaDoorCnt5
namespace Go.Proofs.YtmochhgmhhopoaaDoor
open Go.RowKit

theorem valN_cons (y : Ct) (B : List Ct) (t : List UInt8) : valN (y :: B) t = if y.k = t then y.vl else valN B t := by
  unfold valN
  rw [List.find?_cons]
  by_cases h : y.k = t
  · rw [if_pos h, beq_iff_eq.2 h]
  · rw [if_neg h, beq_eq_false_iff_ne.2 h]
theorem valN_no {xs : List Ct} {t : List UInt8} (h : ∀ x ∈ xs, x.k ≠ t) : valN xs t = 0 := by
  have h1 : xs.find? (fun x => x.k == t) = none := List.find?_eq_none.2 (fun x hx => by rw [beq_iff_eq]; exact h x hx)
  rw [valN, h1]
theorem valN_app_no {A : List Ct} (B : List Ct) {t : List UInt8} (h : ∀ x ∈ A, x.k ≠ t) : valN (A ++ B) t = valN B t := by
  induction A with
  | nil => rfl
  | cons a A ih =>
    rw [List.cons_append, valN_cons, if_neg (h a (List.mem_cons_self ..)), ih (fun x hx => h x (List.mem_cons_of_mem _ hx))]
theorem valN_app_yes {A : List Ct} (B : List Ct) {t : List UInt8} (h : ∃ x ∈ A, x.k = t) : valN (A ++ B) t = valN A t := by
  induction A with
  | nil => obtain ⟨x, hx, _⟩ := h; cases hx
  | cons a A ih =>
    rw [List.cons_append, valN_cons, valN_cons]
    by_cases ha : a.k = t
    · rw [if_pos ha, if_pos ha]
    · rw [if_neg ha, if_neg ha]
      obtain ⟨x, hx, he⟩ := h
      rcases List.mem_cons.1 hx with rfl | hx
      · exact absurd he ha
      · exact ih ⟨x, hx, he⟩
theorem pos_no (xs : List Ct) (s : List UInt8) : ∀ x ∈ xs.take (posN xs s), x.k ≠ s := by
  intro x hx e
  obtain ⟨j, hj, rfl⟩ := List.getElem_of_mem hx
  rw [List.length_take] at hj
  rw [List.getElem_take] at e
  have := pos_lt xs s j (by omega) (by omega)
  rw [e, bl_irrefl] at this; cases this
theorem valN_bump {xs : List Ct} (hu : Ups xs) (s : ByteArray) (n : Int) (t : List UInt8) : valN (bumpL xs s n) t = valN xs t + (if s.toList = t then n else 0) := by
  have hA := pos_no xs s.toList
  cases hb : hitB xs s.toList with
  | true =>
    obtain ⟨hk, he⟩ := hitB_true.1 hb
    have hx : xs = xs.take (posN xs s.toList) ++ xs[posN xs s.toList] :: xs.drop (posN xs s.toList + 1) := by
      rw [← List.drop_eq_getElem_cons hk, List.take_append_drop]
    rw [bumpL_hit n hb, vlAt_eq xs _ hk]
    by_cases ht : s.toList = t
    · subst ht
      rw [valN_app_no _ hA, valN_cons, if_pos rfl, if_pos rfl, valN_hit hk he]
      simp only; omega
    · rw [if_neg ht, Int.add_zero]
      have hxv : valN xs t = valN (xs.take (posN xs s.toList) ++ xs[posN xs s.toList] :: xs.drop (posN xs s.toList + 1)) t := by rw [← hx]
      rw [hxv]
      by_cases hy : ∃ x ∈ xs.take (posN xs s.toList), x.k = t
      · rw [valN_app_yes _ hy, valN_app_yes _ hy]
      · have hy' : ∀ x ∈ xs.take (posN xs s.toList), x.k ≠ t := fun x hx e => hy ⟨x, hx, e⟩
        rw [valN_app_no _ hy', valN_app_no _ hy', valN_cons, valN_cons, if_neg ht, if_neg (fun e => ht (he.symm.trans e))]
  | false =>
    have hx : xs = xs.take (posN xs s.toList) ++ xs.drop (posN xs s.toList) := (List.take_append_drop _ _).symm
    rw [bumpL_miss n hb]
    by_cases ht : s.toList = t
    · subst ht
      rw [valN_app_no _ hA, valN_cons, if_pos rfl, if_pos rfl, valN_miss hu (fun h e => by rw [hitB_true.2 ⟨h, e⟩] at hb; cases hb)]
      simp only; omega
    · rw [if_neg ht, Int.add_zero]
      have hxv : valN xs t = valN (xs.take (posN xs s.toList) ++ xs.drop (posN xs s.toList)) t := by rw [← hx]
      rw [hxv]
      by_cases hy : ∃ x ∈ xs.take (posN xs s.toList), x.k = t
      · rw [valN_app_yes _ hy, valN_app_yes _ hy]
      · have hy' : ∀ x ∈ xs.take (posN xs s.toList), x.k ≠ t := fun x hx e => hy ⟨x, hx, e⟩
        rw [valN_app_no _ hy', valN_app_no _ hy', valN_cons, if_neg ht]
theorem Ups.ne {xs : List Ct} (h : Ups xs) {i j : Nat} (hi : i < xs.length) (hj : j < xs.length) (hn : i ≠ j) : xs[i].k ≠ xs[j].k := by
  intro e
  rcases Nat.lt_or_ge i j with hl | hl
  · have := h.lt i j hl hj
    rw [e, bl_irrefl] at this; cases this
  · have := h.lt j i (by omega) hi
    rw [e, bl_irrefl] at this; cases this
theorem valN_stand {xs : List Ct} (h : Ups xs) (i : Nat) (hi : i < xs.length) : valN xs xs[i].k = xs[i].vl := by
  rw [valN, find_at (fun x : Ct => x.k == xs[i].k) xs i hi (by simp) (fun j hj hl => by
    rw [beq_eq_false_iff_ne]; exact h.ne hj hi (by omega))]
theorem valN_mm {xs : List Ct} (h : Ups xs) {x : Ct} (hx : x ∈ xs) : valN xs x.k = x.vl := by
  obtain ⟨i, hi, rfl⟩ := List.getElem_of_mem hx
  exact valN_stand h i hi
theorem valN_tk {ys : List Ct} (h : Ups ys) (n : Nat) (hn : n < ys.length) (t : List UInt8) : valN (ys.take (n + 1)) t = valN (ys.take n) t + (if ys[n].k = t then ys[n].vl else 0) := by
  rw [List.take_succ_eq_append_getElem hn]
  by_cases hy : ∃ x ∈ ys.take n, x.k = t
  · rw [valN_app_yes _ hy]
    obtain ⟨x, hx, rfl⟩ := hy
    obtain ⟨j, hj, rfl⟩ := List.getElem_of_mem hx
    rw [List.length_take] at hj
    rw [List.getElem_take]
    rw [if_neg (h.ne hn (by omega : j < ys.length) (by omega)), Int.add_zero]
  · have hy' : ∀ x ∈ ys.take n, x.k ≠ t := fun x hx e => hy ⟨x, hx, e⟩
    rw [valN_app_no _ hy', valN_no hy', valN_cons]
    split
    · omega
    · rw [valN_no (by simp)]; rfl
theorem addN_ups {xs ys : List Ct} (hu : Ups xs) : ∀ n, n ≤ ys.length → Ups (addN xs ys n)
  | 0, _ => hu
  | n + 1, h => by rw [addN_succ xs ys n (by omega)]; exact bumpL_ups (addN_ups hu n (by omega)) _ _
theorem valN_add {xs ys : List Ct} (hu : Ups xs) (hv : Ups ys) (t : List UInt8) : ∀ n, n ≤ ys.length → valN (addN xs ys n) t = valN xs t + valN (ys.take n) t
  | 0, _ => by rw [List.take_zero, valN_no (xs := []) (by simp)]; simp [addN]
  | n + 1, h => by
    rw [addN_succ xs ys n (by omega), valN_bump (addN_ups hu n (by omega)), valN_add hu hv t n (by omega), valN_tk hv n (by omega)]
    have e : ys[n].nm.toList = ys[n].k := rfl
    rw [e]; omega
/-- the names behind an addition -/
theorem bump_has {xs : List Ct} {s : ByteArray} {n : Int} {x : Ct} (h : x ∈ xs) : ∃ y ∈ bumpL xs s n, y.k = x.k := by
  cases hb : hitB xs s.toList with
  | true =>
    obtain ⟨hk, he⟩ := bumpL_set n hb
    obtain ⟨i, hi, rfl⟩ := List.getElem_of_mem h
    rw [he]
    refine ⟨(xs.set (posN xs s.toList) ⟨xs[posN xs s.toList].nm, xs[posN xs s.toList].vl + n⟩)[i]'(by simpa using hi), List.getElem_mem _, ?_⟩
    rw [List.getElem_set]
    split
    · rename_i h; subst h; rfl
    · rfl
  | false =>
    rw [bumpL_miss n hb]
    rw [← List.take_append_drop (posN xs s.toList) xs] at h
    rcases List.mem_append.1 h with h | h
    · exact ⟨x, List.mem_append.2 (.inl h), rfl⟩
    · exact ⟨x, List.mem_append.2 (.inr (List.mem_cons_of_mem _ h)), rfl⟩
theorem bump_new (xs : List Ct) (s : ByteArray) (n : Int) : ∃ y ∈ bumpL xs s n, y.nm = s := by
  unfold bumpL
  split
  · exact ⟨_, List.mem_append.2 (.inr (List.mem_cons_self ..)), rfl⟩
  · exact ⟨_, List.mem_append.2 (.inr (List.mem_cons_self ..)), rfl⟩
theorem add_has {xs ys : List Ct} : ∀ n, n ≤ ys.length → ∀ j (h : j < ys.length), j < n → ∃ y ∈ addN xs ys n, y.k = ys[j].k
  | 0, _, _, _, h => by omega
  | n + 1, hn, j, hj, hl => by
    rw [addN_succ xs ys n (by omega)]
    by_cases he : j = n
    · subst he
      obtain ⟨y, hy, e⟩ := bump_new (addN xs ys j) ys[j].nm ys[j].vl
      exact ⟨y, hy, congrArg ByteArray.toList e⟩
    · obtain ⟨y, hy, e⟩ := add_has (xs := xs) n (by omega) j hj (by omega)
      obtain ⟨z, hz, e2⟩ := bump_has (s := ys[n].nm) (n := ys[n].vl) hy
      exact ⟨z, hz, e2.trans e⟩
/-- two rising lists with the same members are one -/
theorem rising_ext : ∀ {l l' : List ByteArray}, l.Pairwise (fun a b => Op.bytesLess a.toList b.toList = true) → l'.Pairwise (fun a b => Op.bytesLess a.toList b.toList = true) → (∀ x, x ∈ l ↔ x ∈ l') → l = l'
  | [], [], _, _, _ => rfl
  | [], b :: l', _, _, h => by have := (h b).2 (List.mem_cons_self ..); cases this
  | a :: l, [], _, _, h => by have := (h a).1 (List.mem_cons_self ..); cases this
  | a :: l, b :: l', h1, h2, h => by
    rw [List.pairwise_cons] at h1 h2
    have hab : a = b := by
      rcases List.mem_cons.1 ((h a).1 (List.mem_cons_self ..)) with e | e
      · exact e
      · rcases List.mem_cons.1 ((h b).2 (List.mem_cons_self ..)) with e' | e'
        · exact e'.symm
        · have x1 := h2.1 a e
          have x2 := bl_asymm (h1.1 b e')
          rw [x1] at x2; cases x2
    subst hab
    refine congrArg (a :: ·) (rising_ext h1.2 h2.2 (fun x => ⟨fun hx => ?_, fun hx => ?_⟩))
    · rcases List.mem_cons.1 ((h x).1 (List.mem_cons_of_mem _ hx)) with rfl | hx'
      · have := h1.1 x hx
        rw [bl_irrefl] at this; cases this
      · exact hx'
    · rcases List.mem_cons.1 ((h x).2 (List.mem_cons_of_mem _ hx)) with rfl | hx'
      · have := h2.1 x hx
        rw [bl_irrefl] at this; cases this
      · exact hx'
theorem selN_chF (a : List Ct) (b : List Ct) : ∀ n, n ≤ b.length → selN (chF a) b n = ((b.take n).filter fun x => decide (valN a x.k < x.vl)).map Ct.nm
  | 0, _ => rfl
  | n + 1, h => by
    rw [List.take_succ_eq_append_getElem h, List.filter_append, List.map_append, ← selN_chF a b n (by omega)]
    by_cases hc : valN a b[n].k < b[n].vl
    · rw [selN_some (chF a) b n b[n].nm h (by rw [chF, if_pos hc])]
      simp [hc]
    · rw [selN_none (chF a) b n h (by rw [chF, if_neg hc])]
      simp [hc]
theorem rising_names {xs : List Ct} (h : Ups xs) (p : Ct → Bool) : ((xs.filter p).map Ct.nm).Pairwise (fun a b => Op.bytesLess a.toList b.toList = true) := by
  rw [List.pairwise_map]
  have h1 := (ups_iff xs).1 h
  rw [List.pairwise_map] at h1
  exact h1.sublist List.filter_sublist
theorem ctB_vls {xs : List Ct} (h : ctB xs = true) : Vls 1000000 xs := by
  intro x hx
  obtain ⟨i, hi, rfl⟩ := List.getElem_of_mem hx
  have := (ctB_true h).2.1 i hi
  rw [goodCt, Bool.and_eq_true, inR_true] at this
  exact this.2
theorem ctB_nms {xs : List Ct} (h : ctB xs = true) {x : Ct} (hx : x ∈ xs) : nameB x.nm = true := by
  obtain ⟨i, hi, rfl⟩ := List.getElem_of_mem hx
  have := (ctB_true h).2.1 i hi
  rw [goodCt, Bool.and_eq_true] at this
  exact this.1
theorem nameB_size {s : ByteArray} (h : nameB s = true) : s.size ≤ 20 := by
  rw [nameB, Bool.and_eq_true, decide_eq_true_eq] at h; exact h.1
theorem valN_range {xs : List Ct} (h : Vls 1000000 xs) (t : List UInt8) : 0 ≤ valN xs t ∧ valN xs t ≤ 1000000 := by
  unfold valN
  split
  · omega
  · rename_i x hx
    exact h x (List.mem_of_find?_eq_some hx)
/-- what the law says of an addition -/
theorem add_facts {xs ys : List Ct} (h : adB xs ys = true) : chB xs (adL xs ys) = true ∧ chB [] ys = true ∧ ctB (adL xs ys) = true ∧
    (∀ i (hi : i < (adL xs ys).length), coB xs (adL xs ys)[i].nm = true ∧ coB ys (adL xs ys)[i].nm = true ∧ coV xs (adL xs ys)[i].nm + coV ys (adL xs ys)[i].nm = (adL xs ys)[i].vl ∧ 0 ≤ coV xs (adL xs ys)[i].nm ∧ coV xs (adL xs ys)[i].nm ≤ 1000000 ∧ 0 ≤ coV ys (adL xs ys)[i].nm ∧ coV ys (adL xs ys)[i].nm ≤ 1000000) ∧ chL xs (adL xs ys) = chL [] ys := by
  have e : adL xs ys = addN xs ys ys.length := by rw [adL, if_pos h]
  rw [adB, Bool.and_eq_true, Bool.and_eq_true] at h
  obtain ⟨h1, h2, h3⟩ := h
  rw [e]
  have hu := (ctB_true h1).2.2
  have hv := (ctB_true h2).2.2
  have hw := (ctB_true h3).2.2
  have hval := fun t => valN_add hu hv t ys.length (Nat.le_refl _)
  simp only [List.take_length] at hval
  refine ⟨by rw [chB, h1, h3]; rfl, by rw [chB, h2]; rfl, h3, fun i hi => ?_, ?_⟩
  · have hn := ctB_nms h3 (List.getElem_mem hi)
    have c1 : coB xs (addN xs ys ys.length)[i].nm = true := by rw [coB, h1, hn]; rfl
    have c2 : coB ys (addN xs ys ys.length)[i].nm = true := by rw [coB, h2, hn]; rfl
    have v1 : coV xs (addN xs ys ys.length)[i].nm = valN xs (addN xs ys ys.length)[i].k := by rw [coV, if_pos c1]
    have v2 : coV ys (addN xs ys ys.length)[i].nm = valN ys (addN xs ys ys.length)[i].k := by rw [coV, if_pos c2]
    have r1 := valN_range (ctB_vls h1) (addN xs ys ys.length)[i].k
    have r2 := valN_range (ctB_vls h2) (addN xs ys ys.length)[i].k
    rw [v1, v2, ← hval, valN_stand hw i hi]
    exact ⟨c1, c2, rfl, r1.1, r1.2, r2.1, r2.2⟩
  · have b1 : chB xs (addN xs ys ys.length) = true := by rw [chB, h1, h3]; rfl
    have b2 : chB [] ys = true := by rw [chB, h2]; rfl
    rw [chL, if_pos b1, chL, if_pos b2, selN_chF _ _ _ (Nat.le_refl _), selN_chF _ _ _ (Nat.le_refl _), List.take_length, List.take_length]
    apply rising_ext (rising_names hw _) (rising_names hv _)
    intro s
    rw [List.mem_map, List.mem_map]
    constructor
    · rintro ⟨x, hx, rfl⟩
      rw [List.mem_filter, decide_eq_true_eq] at hx
      have e1 := valN_mm hw hx.1
      rw [hval] at e1
      have hp : 0 < valN ys x.k := by omega
      have hex : ∃ y ∈ ys, y.k = x.k := Classical.byContradiction fun hn => by
        rw [valN_no (fun y hy e => hn ⟨y, hy, e⟩)] at hp; omega
      obtain ⟨y, hy, ey⟩ := hex
      refine ⟨y, ?_, bytes_same ey⟩
      rw [List.mem_filter, decide_eq_true_eq]
      have e2 := valN_mm hv hy
      rw [ey] at e2
      exact ⟨hy, by rw [valN_no (xs := []) (by simp)]; omega⟩
    · rintro ⟨y, hy, rfl⟩
      rw [List.mem_filter, decide_eq_true_eq, valN_no (xs := []) (by simp)] at hy
      obtain ⟨j, hj, rfl⟩ := List.getElem_of_mem hy.1
      obtain ⟨z, hz, ez⟩ := add_has (xs := xs) ys.length (Nat.le_refl _) j hj hj
      refine ⟨z, ?_, bytes_same ez⟩
      rw [List.mem_filter, decide_eq_true_eq]
      have e1 := valN_mm hw hz
      have e2 := valN_stand hv j hj
      rw [hval, ez, e2] at e1
      have e3 : valN xs z.k = valN xs ys[j].k := by rw [ez]
      exact ⟨hz, by omega⟩
/-- falling values -/
def Falls (xs : List Ct) : Prop := xs.Pairwise fun a b => b.vl ≤ a.vl
theorem posV_spec (acc : List Ct) (v : Int) (hf : Falls acc) : ∀ k, k ≤ acc.length → (∀ j (h : j < acc.length), k ≤ j → acc[j].vl ≤ v) → (∀ j (h : j < acc.length), posV acc v k ≤ j → acc[j].vl ≤ v) ∧ (∀ j (h : j < acc.length), j < posV acc v k → v ≤ acc[j].vl)
  | 0, _, h => ⟨fun j hj _ => h j hj (Nat.zero_le _), fun j _ hl => by simp [posV] at hl⟩
  | k + 1, hk, h => by
    by_cases hl : acc[k].vl < v
    · rw [posV_down (by omega) hl]
      exact posV_spec acc v hf k (by omega) (fun j hj hkj => by
        by_cases he : j = k
        · subst he; omega
        · exact h j hj (by omega))
    · rw [posV_stay (by omega) hl]
      refine ⟨h, fun j hj hjk => ?_⟩
      by_cases he : j = k
      · subst he; omega
      · have := List.pairwise_iff_getElem.1 hf j k hj (by omega) (by omega)
        omega
theorem ins_falls {L : List Ct} {x : Ct} {k : Nat} (ih : Falls L) (p1 : ∀ j (h : j < L.length), k ≤ j → L[j].vl ≤ x.vl) (p2 : ∀ j (h : j < L.length), j < k → x.vl ≤ L[j].vl) : Falls (insV L x k) := by
  have hL : L = L.take k ++ L.drop k := (List.take_append_drop _ _).symm
  have ih' := ih
  unfold Falls at ih' ⊢
  rw [hL, List.pairwise_append] at ih'
  rw [insV, List.pairwise_append, List.pairwise_cons]
  refine ⟨ih'.1, ⟨fun y hy => ?_, ih'.2.1⟩, fun a ha b hb => ?_⟩
  · obtain ⟨j, hj, rfl⟩ := List.getElem_of_mem hy
    rw [List.length_drop] at hj
    rw [List.getElem_drop]
    exact p1 _ (by omega) (by omega)
  · rcases List.mem_cons.1 hb with rfl | hb
    · obtain ⟨j, hj, rfl⟩ := List.getElem_of_mem ha
      rw [List.length_take] at hj
      rw [List.getElem_take]
      exact p2 _ (by omega) (by omega)
    · exact ih'.2.2 a ha b hb
theorem srtN_falls (xs : List Ct) : ∀ n, n ≤ xs.length → Falls (srtN xs n)
  | 0, _ => List.Pairwise.nil
  | n + 1, h => by
    have ih := srtN_falls xs n (by omega)
    have hl := srtN_length xs n (by omega)
    rw [srtN_succ xs n (by omega)]
    obtain ⟨p1, p2⟩ := posV_spec (srtN xs n) xs[n].vl ih n (by omega) (fun j hj hn => by omega)
    exact ins_falls ih p1 p2
/-- the value of the name that stands at a place of the top ones -/
def tvl (xs : List Ct) (i : Nat) : Int := vlAt (srtN xs xs.length) i
theorem top_facts {xs : List Ct} {n : Int} (h : topB xs n = true) :
    ((topL xs n).length : Int) ≤ n ∧ (((topL xs n).length : Int) < n → (topL xs n).length = xs.length) ∧ (topL xs n).length ≤ xs.length ∧
    ∀ i (hi : i < (topL xs n).length), coB xs (topL xs n)[i] = true ∧ coV xs (topL xs n)[i] = tvl xs i ∧ tvl xs i ≤ 1000000 ∧ (∀ j, i = j + 1 → tvl xs i ≤ tvl xs j) := by
  have e : topL xs n = topN xs n.toNat := by rw [topL, if_pos h]
  rw [topB, Bool.and_eq_true, inR_true] at h
  obtain ⟨h1, h2, h3⟩ := h
  have hl : (topN xs n.toNat).length = min n.toNat xs.length := by rw [topN, List.length_map, List.length_take, srtN_length xs _ (Nat.le_refl _)]
  have hu := (ctB_true h1).2.2
  rw [e]
  refine ⟨by omega, fun hlt => by omega, by omega, fun i hi => ?_⟩
  have hi2 : i < (srtN xs xs.length).length := by rw [srtN_length xs _ (Nat.le_refl _)]; omega
  have hg : (topN xs n.toNat)[i] = (srtN xs xs.length)[i].nm := by
    simp only [topN, List.getElem_map, List.getElem_take]
  have hm := srtN_mem xs xs.length _ (List.getElem_mem hi2)
  have c1 : coB xs (srtN xs xs.length)[i].nm = true := by rw [coB, h1, ctB_nms h1 hm]; rfl
  have ht : tvl xs i = (srtN xs xs.length)[i].vl := vlAt_eq _ _ hi2
  rw [hg]
  refine ⟨c1, ?_, ?_, fun j hj => ?_⟩
  · rw [coV, if_pos c1, ht]; exact valN_mm hu hm
  · rw [ht]; exact (ctB_vls h1 _ hm).2
  · subst hj
    rw [tvl, tvl, vlAt_eq _ _ hi2, vlAt_eq _ _ (by omega)]
    exact List.pairwise_iff_getElem.1 (srtN_falls xs xs.length (Nat.le_refl _)) j (j + 1) (by omega) hi2 (by omega)
/-- sums below a prefix -/
def bel0 (pre : List UInt8) (x : Ct) : Int := if belB x.k pre = true then x.vl else 0
theorem totN_sum (pre : List UInt8) (xs : List Ct) : ∀ n, n ≤ xs.length → totN pre xs n = ((xs.take n).map (bel0 pre)).sum
  | 0, _ => by simp [totN]
  | n + 1, h => by
    rw [totN_succ pre xs n h, totN_sum pre xs n (by omega), List.take_succ_eq_append_getElem h, List.map_append, List.sum_append]
    simp [bel0]
theorem bel0_nil (x : Ct) : bel0 [] x = x.vl := by simp [bel0, belB]
theorem tot_all (xs : List Ct) : totN [] xs xs.length = (xs.map Ct.vl).sum := by
  rw [totN_sum [] xs _ (Nat.le_refl _), List.take_length]
  exact congrArg List.sum (List.map_congr_left fun x _ => bel0_nil x)
theorem sum_bump (xs : List Ct) (s : ByteArray) (n : Int) : ((bumpL xs s n).map Ct.vl).sum = (xs.map Ct.vl).sum + n := by
  cases hb : hitB xs s.toList with
  | true =>
    obtain ⟨hk, _⟩ := hitB_true.1 hb
    have hx : xs = xs.take (posN xs s.toList) ++ xs[posN xs s.toList] :: xs.drop (posN xs s.toList + 1) := by
      rw [← List.drop_eq_getElem_cons hk, List.take_append_drop]
    rw [bumpL_hit n hb, vlAt_eq xs _ hk]
    have h2 : (xs.map Ct.vl).sum = ((xs.take (posN xs s.toList) ++ xs[posN xs s.toList] :: xs.drop (posN xs s.toList + 1)).map Ct.vl).sum := by rw [← hx]
    rw [h2]
    simp only [List.map_append, List.map_cons, List.sum_append, List.sum_cons]
    omega
  | false =>
    have hx : xs = xs.take (posN xs s.toList) ++ xs.drop (posN xs s.toList) := (List.take_append_drop _ _).symm
    have h2 : (xs.map Ct.vl).sum = ((xs.take (posN xs s.toList) ++ xs.drop (posN xs s.toList)).map Ct.vl).sum := by rw [← hx]
    rw [bumpL_miss n hb, h2]
    simp only [List.map_append, List.map_cons, List.sum_append, List.sum_cons]
    omega
theorem e0_toList : (⟨#[]⟩ : ByteArray).toList = [] := by rw [ByteArray.toList_eq]
theorem preB_nil : preB ⟨#[]⟩ = true := by rw [preB, e0_toList]; rfl
theorem toV_nil {xs : List Ct} (h : ctB xs = true) : toB xs ⟨#[]⟩ = true ∧ toV xs ⟨#[]⟩ = (xs.map Ct.vl).sum := by
  have hb : toB xs ⟨#[]⟩ = true := by rw [toB, h, preB_nil]; rfl
  exact ⟨hb, by rw [toV, if_pos hb, e0_toList, tot_all]⟩
theorem sum_range {xs : List Ct} (h : Vls 1000000 xs) : 0 ≤ (xs.map Ct.vl).sum ∧ (xs.map Ct.vl).sum ≤ 1000000 * xs.length := by
  induction xs with
  | nil => simp
  | cons x xs ih =>
    have h1 := ih (fun y hy => h y (List.mem_cons_of_mem _ hy))
    have h2 := h x (List.mem_cons_self ..)
    simp only [List.map_cons, List.sum_cons, List.length_cons]
    omega
/-- what the law says of a bump -/
theorem bump_facts {xs : List Ct} {s : ByteArray} {n : Int} (h : bcB xs s n = true) : bcL xs s n = bumpL xs s n ∧ ctB (bumpL xs s n) = true ∧ coB xs s = true ∧ coB (bumpL xs s n) s = true ∧ coV (bumpL xs s n) s - coV xs s = n ∧
    toB xs ⟨#[]⟩ = true ∧ toB (bumpL xs s n) ⟨#[]⟩ = true ∧ toV (bumpL xs s n) ⟨#[]⟩ - toV xs ⟨#[]⟩ = n ∧ (0 ≤ coV xs s ∧ coV xs s ≤ 1000000) ∧ (0 ≤ coV (bumpL xs s n) s ∧ coV (bumpL xs s n) s ≤ 1000000) ∧ (0 ≤ toV xs ⟨#[]⟩ ∧ toV xs ⟨#[]⟩ ≤ 12000000) ∧ (0 ≤ toV (bumpL xs s n) ⟨#[]⟩ ∧ toV (bumpL xs s n) ⟨#[]⟩ ≤ 12000000) := by
  have hn : nameB s = true := by
    cases hb : nameB s with
    | true => rfl
    | false => rw [bcB_name hb] at h; cases h
  have e : bcL xs s n = bumpL xs s n := by rw [bcL, if_pos h]
  rw [bcB, Bool.and_eq_true, Bool.and_eq_true] at h
  obtain ⟨h1, _, h2⟩ := h
  have hu := (ctB_true h1).2.2
  have c1 : coB xs s = true := by rw [coB, h1, hn]; rfl
  have c2 : coB (bumpL xs s n) s = true := by rw [coB, h2, hn]; rfl
  have v1 : coV xs s = valN xs s.toList := by rw [coV, if_pos c1]
  have v2 : coV (bumpL xs s n) s = valN (bumpL xs s n) s.toList := by rw [coV, if_pos c2]
  have r1 := valN_range (ctB_vls h1) s.toList
  have r2 := valN_range (ctB_vls h2) s.toList
  have t1 := toV_nil h1
  have t2 := toV_nil h2
  have q1 := sum_range (ctB_vls h1)
  have q2 := sum_range (ctB_vls h2)
  have l1 := (ctB_true h1).1
  have l2 := (ctB_true h2).1
  refine ⟨e, h2, c1, c2, ?_, t1.1, t2.1, ?_, ?_, ?_, ?_, ?_⟩
  · rw [v1, v2, valN_bump hu, if_pos rfl]; omega
  · rw [t1.2, t2.2, sum_bump]; omega
  · rw [v1]; exact r1
  · rw [v2]; exact r2
  · rw [t1.2]; omega
  · rw [t2.2]; omega
theorem ctB_of {xs : List Ct} (h1 : xs.length ≤ 12) (h2 : ∀ k (h : k < xs.length), goodCt xs[k] = true) (h3 : Ups xs) : ctB xs = true := by
  rw [ctB_end (fun k hk => ?_), decide_eq_true h1]
  cases k with
  | zero => rw [okAt_zero xs hk]; exact h2 0 hk
  | succ k => rw [okAt_succ xs k hk, h2 _ hk, h3 k hk]; rfl
theorem ctB_filter {xs : List Ct} (h : ctB xs = true) (p : Ct → Bool) : ctB (xs.filter p) = true := by
  obtain ⟨h1, h2, h3⟩ := ctB_true h
  refine ctB_of (Nat.le_trans (List.length_filter_le _ _) h1) (fun k hk => ?_) ?_
  · have hm := (List.mem_filter.1 (List.getElem_mem hk)).1
    obtain ⟨j, hj, e⟩ := List.getElem_of_mem hm
    rw [← e]; exact h2 j hj
  · rw [ups_iff] at h3 ⊢
    exact h3.sublist (List.filter_sublist.map _)
theorem split_sum (pre : List UInt8) (q : Ct → Bool) (hq : ∀ x, q x = !belB x.k pre) : ∀ xs : List Ct, ((xs.filter q).map Ct.vl).sum + (xs.map (bel0 pre)).sum = (xs.map Ct.vl).sum ∧ ((xs.filter q).map (bel0 pre)).sum = 0
  | [] => by simp
  | x :: xs => by
    obtain ⟨h1, h2⟩ := split_sum pre q hq xs
    by_cases hb : belB x.k pre = true
    · have h3 : q x = false := by rw [hq, hb]; rfl
      rw [List.filter_cons, if_neg (by rw [h3]; exact Bool.false_ne_true)]
      simp only [List.map_cons, List.sum_cons]
      rw [bel0, if_pos hb]
      exact ⟨by omega, h2⟩
    · have h3 : q x = true := by rw [hq, Bool.eq_false_iff.2 hb]; rfl
      rw [List.filter_cons, if_pos h3]
      simp only [List.map_cons, List.sum_cons]
      rw [bel0, if_neg hb]
      exact ⟨by omega, by omega⟩
/-- what the law says of a drop -/
theorem drop_facts {xs : List Ct} {s : ByteArray} (h : drB xs s = true) : drL xs s = xs.filter (keepQ s) ∧ toB xs ⟨#[]⟩ = true ∧ toB (xs.filter (keepQ s)) ⟨#[]⟩ = true ∧ toB (xs.filter (keepQ s)) s = true ∧
    toV (xs.filter (keepQ s)) ⟨#[]⟩ + toV xs s = toV xs ⟨#[]⟩ ∧ toV (xs.filter (keepQ s)) s = 0 ∧ (0 ≤ toV xs s ∧ toV xs s ≤ 12000000) ∧ (0 ≤ toV xs ⟨#[]⟩ ∧ toV xs ⟨#[]⟩ ≤ 12000000) ∧ (0 ≤ toV (xs.filter (keepQ s)) ⟨#[]⟩ ∧ toV (xs.filter (keepQ s)) ⟨#[]⟩ ≤ 12000000) := by
  have e : drL xs s = xs.filter (keepQ s) := by rw [drL, if_pos h]
  rw [drB, Bool.and_eq_true] at h
  obtain ⟨h1, h2⟩ := h
  have hf := ctB_filter h1 (keepQ s)
  have b1 : toB xs s = true := by rw [toB, h1, h2]; rfl
  have b2 : toB (xs.filter (keepQ s)) s = true := by rw [toB, hf, h2]; rfl
  have t1 := toV_nil h1
  have t2 := toV_nil hf
  have v1 : toV xs s = (xs.map (bel0 s.toList)).sum := by rw [toV, if_pos b1, totN_sum _ _ _ (Nat.le_refl _), List.take_length]
  have v2 : toV (xs.filter (keepQ s)) s = ((xs.filter (keepQ s)).map (bel0 s.toList)).sum := by rw [toV, if_pos b2, totN_sum _ _ _ (Nat.le_refl _), List.take_length]
  have hs := split_sum s.toList (keepQ s) (fun x => rfl) xs
  have q1 := sum_range (ctB_vls h1)
  have q2 := sum_range (ctB_vls hf)
  have l1 := (ctB_true h1).1
  have l2 := (ctB_true hf).1
  have q3 := totN_bound s.toList xs (ctB_true h1).2.1 xs.length (Nat.le_refl _)
  have v3 : toV xs s = totN s.toList xs xs.length := by rw [toV, if_pos b1]
  refine ⟨e, t1.1, t2.1, b2, ?_, ?_, ?_, ?_, ?_⟩
  · rw [t2.2, v1, t1.2]; exact hs.1
  · rw [v2]; exact hs.2
  · rw [v3]; omega
  · rw [t1.2]; omega
  · rw [t2.2]; omega
end Go.Proofs.YtmochhgmhhopoaaDoor
