/- Contracts of the reference's drawings for the law on counters and their texts: each answers SOME lists of counters, names, numbers, texts, in new memory. -/
import Derived.Test.YtmochhgmhhopoaaGreatDoorStrS
import Derived.Test.YtmochhgmhhopoaaGreatDoorCtS
import Derived.BigQuiet
import Derived.Laws.StructEq
import Derived.Test.YtmochhgmhhopoaaGreatDoorCur
import Derived.Test.YtmochhgmhhopoaaGreatDoorLawKit
import Derived.Test.YtmochhgmhhopoaaGreatDoorNumT
import Derived.Lib.LaidU8
import Derived.Lib.LaidTab
import Derived.Test.YtmochhgmhhopoaaGreatDoorAtoiT
import Derived.Stop.LaidErr
import Derived.Test.YtmochhgmhhopoaaGreatDoorCnt10
import Derived.Test.YtmochhgmhhopoaaGreatDoorCnt7
import Derived.Test.YtmochhgmhhopoaaGreatDoorCnt5
import Derived.Test.YtmochhgmhhopoaaGreatDoorDrawKit
import Derived.Deep.DeepCutAuto
import Derived.Test.YtmochhgmhhopoaaGreatDoorCnt15
import Derived.Test.YtmochhgmhhopoaaGreatDoorPcMath
/- Contracts of the law's own helpers that compare lists of texts and lists of counters (equal ones). -/
namespace Go.Proofs.YtmochhgmhhopoaaGreatDoor
open Go.RowKit

set_option maxRecDepth 100000 in
set_option maxHeartbeats 2000000 in
theorem rCounters_same (v v' : Value) (xs : List Ct) (w : World) (h : RdCt w v xs) (h' : RdCt w v' xs) :
    Calls Tryz.prog 8 #[v, v'] w fun e w' => e = .returned (.bool true) ∧ Below w.heap.size w w' := by
  have hlen := h.2.1
  obtain ⟨p, cap, b, off, rfl, hcap, hp, hcell⟩ := h.parts
  obtain ⟨p', cap', b', off', rfl, hcap', hp', hcell'⟩ := h'.parts
  have HC := Lib.hid hcell; clear hcell
  have HP := Lib.hid hp; clear hp h
  have HC' := Lib.hid hcell'; clear hcell'
  have HP' := Lib.hid hp'; clear hp' h'
  go_enter Tryz.func8, Tryz.ntmps8
  go_wp2
  go_loopw [5] (fun i wr => ∃ (k : Nat), k ≤ xs.length ∧ i = .int .i64 k ∧ Below w.heap.size w wr)
    (fun i _ => xs.length - (intOf i).toNat)
  case atStart => exact ⟨0, Nat.zero_le _, rfl, Below.refl _ _⟩
  case round =>
    obtain ⟨k, hk, rfl, hb⟩ := hrel
    by_cases hlt : k < xs.length
    · obtain rfl := HP.out (by omega)
      obtain rfl := HP'.out (by omega)
      obtain ⟨c1, c2⟩ := HC.out k hlt
      obtain ⟨d1, d2⟩ := HC'.out k hlt
      have c1 := cell_on hb c1
      have c2 := cell_on hb c2
      have d1 := cell_on hb d1
      have d2 := cell_on hb d2
      generalize xs[k] = x at c1 c2 d1 d2
      obtain ⟨a1, a2⟩ := x
      simp only at c1 c2 d1 d2
      have HBb := Lib.hid hb.drew; clear hb
      go_wp2_with fail
      go_region_held3 (fun w' => w'.cell? ⟨b, off + k * 2, none⟩ = some (.string a1) ∧ w'.cell? ⟨b, off + k * 2 + 1, none⟩ = some (.int .i64 a2) ∧ w'.cell? ⟨b', off' + k * 2, none⟩ = some (.string a1) ∧ w'.cell? ⟨b', off' + k * 2 + 1, none⟩ = some (.int .i64 a2)) (go_keep) (first | fail)
      go_wp2
      go_roundw
      case rel => exact ⟨k + 1, by omega, by go_num, HBb.out⟩
      case measure => simp [intOf]; omega
    · go_wp2
      go_ret
      exact ⟨rfl, hb⟩
end Go.Proofs.YtmochhgmhhopoaaGreatDoor

/- A slice of bytes that came in as an argument, opened. -/
namespace Go.Proofs.YtmochhgmhhopoaaGreatDoor
open Go.ChangeShapes Go.WideShapes Go.ChangeAt Go.RowKit

def AsY (w : World) (v : Value) (xs : List Int) : Prop :=
  (xs.length ≤ 1073741824 → RdY w v xs) ∧ xs.length ≤ 9223372036854775807 ∧ ∃ (p : Option Addr) (cap : Nat), v = .slice p xs.length cap
def ArgY (w : World) (v : Value) : Prop := ∃ xs : List Int, AsY w v xs

set_option maxRecDepth 100000 in
theorem open_argY {H : Type} {enc : TypeId × Value → H} {W : World} {base : Nat} {v : Value} {d : DataW H} {p : List MemPlace}
    (hok : Value.okWide Tryz.prog W .any base 22 v) (h : DataW.Trod enc Tryz.prog W 0 (fun _ => true) true 22 v d p) : ArgY W v := by
  obtain ⟨a0, len, cap, rfl⟩ := okWide_slice Tryz.underlying22 hok
  obtain ⟨fuel, hf⟩ := h
  rcases open_ints Tryz.underlying22 Tryz.underlying5 (by kernel_rfl) hf with ⟨hcs, _⟩ | ⟨a, len', cap', zs, hcs, _, hl, hm, hz, _, hcell, hwf⟩
  · simp [Value.cells] at hcs
    obtain ⟨rfl, rfl, rfl⟩ := hcs
    exact ⟨[], fun _ => ⟨⟨rfl, none, 0, 0, 0, rfl, Nat.le_refl _, fun _ => rfl, fun h => by cases h⟩, by simp, by simp⟩, by simp, none, 0, rfl⟩
  · simp [Value.cells] at hcs
    obtain ⟨rfl, rfl, rfl⟩ := hcs
    have hz' : zs.length = cap := by simpa using hz
    have hlen : (zs.take len).length = len := by rw [List.length_take]; omega
    have hb : ∀ b ∈ zs.take len, 0 ≤ b ∧ b ≤ 255 := fun b hb => bounds_u8 (hwf b (List.mem_of_mem_take hb))
    refine ⟨zs.take len, fun hs => ⟨?_, hs, hb⟩, by rw [hlen]; unfold maxLen at hm; omega, some a, cap, by rw [hlen]⟩
    rw [hlen]
    by_cases h0 : 0 < len
    · obtain ⟨b, off, rfl, hc⟩ := ints_at hcell (by omega)
      refine ⟨by simp; omega, some ⟨b, off, none⟩, cap, b, off, rfl, hl, (by intro h; cases h), fun _ => ⟨rfl, fun k hk => ?_⟩⟩
      have h1 := hc k (by omega)
      have hk1 : k < zs.length := by omega
      have hk2 : k < len := by omega
      rw [h1]
      simp [hk1, hk2]
    · have h00 : len = 0 := by omega
      subst h00
      exact ⟨by simp, some a, cap, 0, 0, rfl, hl, (by intro h; cases h), fun h => by omega⟩

/-- 'too many bytes' -/
theorem rBig_any (v : Value) (xs : List Int) (w : World) (h : AsY w v xs) :
    Calls Tryz.prog 4 #[v] w fun e w' => e = .returned (.bool (decide (65536 < xs.length))) ∧ w = w' := by
  obtain ⟨_, _, p, cap, rfl⟩ := h
  go_enter Tryz.func4, Tryz.ntmps4
  go_wp2
  go_ret
  exact ⟨ret_bool (by simp; omega), rfl⟩
end Go.Proofs.YtmochhgmhhopoaaGreatDoor

/- The table of powers: what a row's list of variables says of its cells. -/
namespace Go.Proofs.YtmochhgmhhopoaaGreatDoor
open Go.ChangeShapes Go.WideShapes Go.ChangeAt Go.RowKit

theorem pow10_at {W : World} {L : List (String × DataW Unit)} (h : laidMet Tryz.prog L W) (hg : Tryz.prog.globalNamed "internal/strconv.uint64pow10" = some 3) (ht : (Tryz.prog.globals[(3 : Nat)]?).map (·.type) = some 129) (hm : ("internal/strconv.uint64pow10", Rows.laid_internal_strconv_uint64pow10) ∈ L) : PowAt W := by
  obtain ⟨g, t, cs, fuel, p, hg', ht', hv, hd⟩ := Lib.laidMet.reads h hm
  obtain rfl := Option.some.inj (hg.symm.trans hg')
  obtain rfl := Option.some.inj (ht.symm.trans ht')
  rw [show (Rows.laid_internal_strconv_uint64pow10 : DataW Unit) = Lib.tabData .u64 Lib.pow10Tab from rfl] at hd
  unfold PowAt Lib.TabIs
  rw [hv, ← Lib.cells_of_tab Tryz.underlying129 Tryz.underlying42 (by kernel_rfl) (by kernel_rfl) hd]
theorem pow10_of {W : World} {L : List (String × DataW Unit)} (h : laidMet Tryz.prog L W) (hm : ("internal/strconv.uint64pow10", Rows.laid_internal_strconv_uint64pow10) ∈ L) : PowAt W :=
  pow10_at h (by kernel_rfl) (by kernel_rfl) hm
end Go.Proofs.YtmochhgmhhopoaaGreatDoor

/- The library's two errors: what a row's list of variables says of their cells. -/
namespace Go.Proofs.YtmochhgmhhopoaaGreatDoor
open Go.ChangeShapes Go.WideShapes Go.ChangeAt Go.RowKit

theorem laid_head {P : Program} {W : World} {x : String × DataW Unit} : ∀ {L : List (String × DataW Unit)}, laidMet P L W → x ∈ L → ∃ r, laidMet P (x :: r) W
  | [], _, hm => by cases hm
  | y :: L, h, hm => by
    rcases List.mem_cons.1 hm with rfl | hm
    · exact ⟨L, h⟩
    · exact laid_head h.tail hm
theorem star_err : "*" ++ "errors.errorString" = "*errors.errorString" := by decide
theorem row_err (u : TypeId) (h : Tryz.prog.typeName? 3 u = some "*errors.errorString") : u = 136 :=
  typeName_ptr_named (nm := "errors.errorString") (by rw [star_err]; kernel_rfl) (by kernel_rfl) (by decide) u (by rw [star_err]; exact h)
theorem errs_of {W : World} {L : List (String × DataW Unit)} (h : laidMet Tryz.prog L W) (hm : ("strconv.ErrSyntax", Rows.laid_strconv_ErrSyntax) ∈ L ∧ ("strconv.ErrRange", Rows.laid_strconv_ErrRange) ∈ L) : ErrAt W := by
  obtain ⟨r1, h1⟩ := laid_head h hm.1
  obtain ⟨r2, h2⟩ := laid_head h hm.2
  obtain ⟨a0, s0, hv0, -, -, -⟩ := laid_sentinel h1 (g := 1) (by kernel_rfl) (by kernel_rfl) Tryz.underlying69 (tp := 136) row_err Tryz.underlying136 Tryz.underlying138 rfl rfl Tryz.underlying9 (by kernel_rfl) (by kernel_rfl)
  obtain ⟨a1, s1, hv1, -, -, -⟩ := laid_sentinel h2 (g := 2) (by kernel_rfl) (by kernel_rfl) Tryz.underlying69 (tp := 136) row_err Tryz.underlying136 Tryz.underlying138 rfl rfl Tryz.underlying9 (by kernel_rfl) (by kernel_rfl)
  exact ⟨⟨_, _, hv0⟩, _, _, hv1⟩
end Go.Proofs.YtmochhgmhhopoaaGreatDoor

/- Plain laws on lists of counters: the value of a name behind a bump, sums below a prefix. No program's text is walked here. -/
namespace Go.Proofs.YtmochhgmhhopoaaGreatDoor
open Go.RowKit

theorem valN_cons (y : Ct) (B : List Ct) (t : List UInt8) : valN (y :: B) t = if y.k = t then y.vl else valN B t := by
  unfold valN
  rw [List.find?_cons]
  by_cases h : y.k = t
  · rw [if_pos h, beq_iff_eq.2 h]
  · rw [if_neg h, beq_eq_false_iff_ne.2 h]
theorem valN_no {xs : List Ct} {t : List UInt8} (h : ∀ x ∈ xs, x.k ≠ t) : valN xs t = 0 := by
  have h1 : xs.find? (fun x => x.k == t) = none := List.find?_eq_none.2 (fun x hx => by rw [beq_iff_eq]; exact h x hx)
  rw [valN, h1]
theorem valN_app_no {A : List Ct} (B : List Ct) {t : List UInt8} (h : ∀ x ∈ A, x.k ≠ t) : valN (A ++ B) t = valN B t := by
  induction A with
  | nil => rfl
  | cons a A ih =>
    rw [List.cons_append, valN_cons, if_neg (h a (List.mem_cons_self ..)), ih (fun x hx => h x (List.mem_cons_of_mem _ hx))]
theorem valN_app_yes {A : List Ct} (B : List Ct) {t : List UInt8} (h : ∃ x ∈ A, x.k = t) : valN (A ++ B) t = valN A t := by
  induction A with
  | nil => obtain ⟨x, hx, _⟩ := h; cases hx
  | cons a A ih =>
    rw [List.cons_append, valN_cons, valN_cons]
    by_cases ha : a.k = t
    · rw [if_pos ha, if_pos ha]
    · rw [if_neg ha, if_neg ha]
      obtain ⟨x, hx, he⟩ := h
      rcases List.mem_cons.1 hx with rfl | hx
      · exact absurd he ha
      · exact ih ⟨x, hx, he⟩
theorem pos_no (xs : List Ct) (s : List UInt8) : ∀ x ∈ xs.take (posN xs s), x.k ≠ s := by
  intro x hx e
  obtain ⟨j, hj, rfl⟩ := List.getElem_of_mem hx
  rw [List.length_take] at hj
  rw [List.getElem_take] at e
  have := pos_lt xs s j (by omega) (by omega)
  rw [e, bl_irrefl] at this; cases this
theorem valN_bump {xs : List Ct} (hu : Ups xs) (s : ByteArray) (n : Int) (t : List UInt8) : valN (bumpL xs s n) t = valN xs t + (if s.toList = t then n else 0) := by
  have hA := pos_no xs s.toList
  cases hb : hitB xs s.toList with
  | true =>
    obtain ⟨hk, he⟩ := hitB_true.1 hb
    have hx : xs = xs.take (posN xs s.toList) ++ xs[posN xs s.toList] :: xs.drop (posN xs s.toList + 1) := by
      rw [← List.drop_eq_getElem_cons hk, List.take_append_drop]
    rw [bumpL_hit n hb, vlAt_eq xs _ hk]
    by_cases ht : s.toList = t
    · subst ht
      rw [valN_app_no _ hA, valN_cons, if_pos rfl, if_pos rfl, valN_hit hk he]
      simp only; omega
    · rw [if_neg ht, Int.add_zero]
      have hxv : valN xs t = valN (xs.take (posN xs s.toList) ++ xs[posN xs s.toList] :: xs.drop (posN xs s.toList + 1)) t := by rw [← hx]
      rw [hxv]
      by_cases hy : ∃ x ∈ xs.take (posN xs s.toList), x.k = t
      · rw [valN_app_yes _ hy, valN_app_yes _ hy]
      · have hy' : ∀ x ∈ xs.take (posN xs s.toList), x.k ≠ t := fun x hx e => hy ⟨x, hx, e⟩
        rw [valN_app_no _ hy', valN_app_no _ hy', valN_cons, valN_cons, if_neg ht, if_neg (fun e => ht (he.symm.trans e))]
  | false =>
    have hx : xs = xs.take (posN xs s.toList) ++ xs.drop (posN xs s.toList) := (List.take_append_drop _ _).symm
    rw [bumpL_miss n hb]
    by_cases ht : s.toList = t
    · subst ht
      rw [valN_app_no _ hA, valN_cons, if_pos rfl, if_pos rfl, valN_miss hu (fun h e => by rw [hitB_true.2 ⟨h, e⟩] at hb; cases hb)]
      simp only; omega
    · rw [if_neg ht, Int.add_zero]
      have hxv : valN xs t = valN (xs.take (posN xs s.toList) ++ xs.drop (posN xs s.toList)) t := by rw [← hx]
      rw [hxv]
      by_cases hy : ∃ x ∈ xs.take (posN xs s.toList), x.k = t
      · rw [valN_app_yes _ hy, valN_app_yes _ hy]
      · have hy' : ∀ x ∈ xs.take (posN xs s.toList), x.k ≠ t := fun x hx e => hy ⟨x, hx, e⟩
        rw [valN_app_no _ hy', valN_app_no _ hy', valN_cons, if_neg ht]
theorem Ups.ne {xs : List Ct} (h : Ups xs) {i j : Nat} (hi : i < xs.length) (hj : j < xs.length) (hn : i ≠ j) : xs[i].k ≠ xs[j].k := by
  intro e
  rcases Nat.lt_or_ge i j with hl | hl
  · have := h.lt i j hl hj
    rw [e, bl_irrefl] at this; cases this
  · have := h.lt j i (by omega) hi
    rw [e, bl_irrefl] at this; cases this
theorem valN_stand {xs : List Ct} (h : Ups xs) (i : Nat) (hi : i < xs.length) : valN xs xs[i].k = xs[i].vl := by
  rw [valN, find_at (fun x : Ct => x.k == xs[i].k) xs i hi (by simp) (fun j hj hl => by
    rw [beq_eq_false_iff_ne]; exact h.ne hj hi (by omega))]
theorem valN_mm {xs : List Ct} (h : Ups xs) {x : Ct} (hx : x ∈ xs) : valN xs x.k = x.vl := by
  obtain ⟨i, hi, rfl⟩ := List.getElem_of_mem hx
  exact valN_stand h i hi
theorem valN_tk {ys : List Ct} (h : Ups ys) (n : Nat) (hn : n < ys.length) (t : List UInt8) : valN (ys.take (n + 1)) t = valN (ys.take n) t + (if ys[n].k = t then ys[n].vl else 0) := by
  rw [List.take_succ_eq_append_getElem hn]
  by_cases hy : ∃ x ∈ ys.take n, x.k = t
  · rw [valN_app_yes _ hy]
    obtain ⟨x, hx, rfl⟩ := hy
    obtain ⟨j, hj, rfl⟩ := List.getElem_of_mem hx
    rw [List.length_take] at hj
    rw [List.getElem_take]
    rw [if_neg (h.ne hn (by omega : j < ys.length) (by omega)), Int.add_zero]
  · have hy' : ∀ x ∈ ys.take n, x.k ≠ t := fun x hx e => hy ⟨x, hx, e⟩
    rw [valN_app_no _ hy', valN_no hy', valN_cons]
    split
    · omega
    · rw [valN_no (by simp)]; rfl
/-- the names behind an addition -/
theorem bump_has {xs : List Ct} {s : ByteArray} {n : Int} {x : Ct} (h : x ∈ xs) : ∃ y ∈ bumpL xs s n, y.k = x.k := by
  cases hb : hitB xs s.toList with
  | true =>
    obtain ⟨hk, he⟩ := bumpL_set n hb
    obtain ⟨i, hi, rfl⟩ := List.getElem_of_mem h
    rw [he]
    refine ⟨(xs.set (posN xs s.toList) ⟨xs[posN xs s.toList].nm, xs[posN xs s.toList].vl + n⟩)[i]'(by simpa using hi), List.getElem_mem _, ?_⟩
    rw [List.getElem_set]
    split
    · rename_i h; subst h; rfl
    · rfl
  | false =>
    rw [bumpL_miss n hb]
    rw [← List.take_append_drop (posN xs s.toList) xs] at h
    rcases List.mem_append.1 h with h | h
    · exact ⟨x, List.mem_append.2 (.inl h), rfl⟩
    · exact ⟨x, List.mem_append.2 (.inr (List.mem_cons_of_mem _ h)), rfl⟩
theorem bump_new (xs : List Ct) (s : ByteArray) (n : Int) : ∃ y ∈ bumpL xs s n, y.nm = s := by
  unfold bumpL
  split
  · exact ⟨_, List.mem_append.2 (.inr (List.mem_cons_self ..)), rfl⟩
  · exact ⟨_, List.mem_append.2 (.inr (List.mem_cons_self ..)), rfl⟩
/-- two rising lists with the same members are one -/
theorem rising_ext : ∀ {l l' : List ByteArray}, l.Pairwise (fun a b => Op.bytesLess a.toList b.toList = true) → l'.Pairwise (fun a b => Op.bytesLess a.toList b.toList = true) → (∀ x, x ∈ l ↔ x ∈ l') → l = l'
  | [], [], _, _, _ => rfl
  | [], b :: l', _, _, h => by have := (h b).2 (List.mem_cons_self ..); cases this
  | a :: l, [], _, _, h => by have := (h a).1 (List.mem_cons_self ..); cases this
  | a :: l, b :: l', h1, h2, h => by
    rw [List.pairwise_cons] at h1 h2
    have hab : a = b := by
      rcases List.mem_cons.1 ((h a).1 (List.mem_cons_self ..)) with e | e
      · exact e
      · rcases List.mem_cons.1 ((h b).2 (List.mem_cons_self ..)) with e' | e'
        · exact e'.symm
        · have x1 := h2.1 a e
          have x2 := bl_asymm (h1.1 b e')
          rw [x1] at x2; cases x2
    subst hab
    refine congrArg (a :: ·) (rising_ext h1.2 h2.2 (fun x => ⟨fun hx => ?_, fun hx => ?_⟩))
    · rcases List.mem_cons.1 ((h x).1 (List.mem_cons_of_mem _ hx)) with rfl | hx'
      · have := h1.1 x hx
        rw [bl_irrefl] at this; cases this
      · exact hx'
    · rcases List.mem_cons.1 ((h x).2 (List.mem_cons_of_mem _ hx)) with rfl | hx'
      · have := h2.1 x hx
        rw [bl_irrefl] at this; cases this
      · exact hx'
theorem rising_names {xs : List Ct} (h : Ups xs) (p : Ct → Bool) : ((xs.filter p).map Ct.nm).Pairwise (fun a b => Op.bytesLess a.toList b.toList = true) := by
  rw [List.pairwise_map]
  have h1 := (ups_iff xs).1 h
  rw [List.pairwise_map] at h1
  exact h1.sublist List.filter_sublist
theorem ctB_vls {xs : List Ct} (h : ctB xs = true) : Vls 1000000 xs := by
  intro x hx
  obtain ⟨i, hi, rfl⟩ := List.getElem_of_mem hx
  have := (ctB_true h).2.1 i hi
  rw [goodCt, Bool.and_eq_true, inR_true] at this
  exact this.2
theorem ctB_nms {xs : List Ct} (h : ctB xs = true) {x : Ct} (hx : x ∈ xs) : nameB x.nm = true := by
  obtain ⟨i, hi, rfl⟩ := List.getElem_of_mem hx
  have := (ctB_true h).2.1 i hi
  rw [goodCt, Bool.and_eq_true] at this
  exact this.1
theorem nameB_size {s : ByteArray} (h : nameB s = true) : s.size ≤ 20 := by
  rw [nameB, Bool.and_eq_true, decide_eq_true_eq] at h; exact h.1
theorem valN_range {xs : List Ct} (h : Vls 1000000 xs) (t : List UInt8) : 0 ≤ valN xs t ∧ valN xs t ≤ 1000000 := by
  unfold valN
  split
  · omega
  · rename_i x hx
    exact h x (List.mem_of_find?_eq_some hx)
/-- sums below a prefix -/
def bel0 (pre : List UInt8) (x : Ct) : Int := if belB x.k pre = true then x.vl else 0
theorem totN_sum (pre : List UInt8) (xs : List Ct) : ∀ n, n ≤ xs.length → totN pre xs n = ((xs.take n).map (bel0 pre)).sum
  | 0, _ => by simp [totN]
  | n + 1, h => by
    rw [totN_succ pre xs n h, totN_sum pre xs n (by omega), List.take_succ_eq_append_getElem h, List.map_append, List.sum_append]
    simp [bel0]
theorem bel0_nil (x : Ct) : bel0 [] x = x.vl := by simp [bel0, belB]
theorem tot_all (xs : List Ct) : totN [] xs xs.length = (xs.map Ct.vl).sum := by
  rw [totN_sum [] xs _ (Nat.le_refl _), List.take_length]
  exact congrArg List.sum (List.map_congr_left fun x _ => bel0_nil x)
theorem sum_bump (xs : List Ct) (s : ByteArray) (n : Int) : ((bumpL xs s n).map Ct.vl).sum = (xs.map Ct.vl).sum + n := by
  cases hb : hitB xs s.toList with
  | true =>
    obtain ⟨hk, _⟩ := hitB_true.1 hb
    have hx : xs = xs.take (posN xs s.toList) ++ xs[posN xs s.toList] :: xs.drop (posN xs s.toList + 1) := by
      rw [← List.drop_eq_getElem_cons hk, List.take_append_drop]
    rw [bumpL_hit n hb, vlAt_eq xs _ hk]
    have h2 : (xs.map Ct.vl).sum = ((xs.take (posN xs s.toList) ++ xs[posN xs s.toList] :: xs.drop (posN xs s.toList + 1)).map Ct.vl).sum := by rw [← hx]
    rw [h2]
    simp only [List.map_append, List.map_cons, List.sum_append, List.sum_cons]
    omega
  | false =>
    have hx : xs = xs.take (posN xs s.toList) ++ xs.drop (posN xs s.toList) := (List.take_append_drop _ _).symm
    have h2 : (xs.map Ct.vl).sum = ((xs.take (posN xs s.toList) ++ xs.drop (posN xs s.toList)).map Ct.vl).sum := by rw [← hx]
    rw [bumpL_miss n hb, h2]
    simp only [List.map_append, List.map_cons, List.sum_append, List.sum_cons]
    omega
theorem e0_toList : (⟨#[]⟩ : ByteArray).toList = [] := by rw [ByteArray.toList_eq]
theorem preB_nil : preB ⟨#[]⟩ = true := by rw [preB, e0_toList]; rfl
theorem toV_nil {xs : List Ct} (h : ctB xs = true) : toB xs ⟨#[]⟩ = true ∧ toV xs ⟨#[]⟩ = (xs.map Ct.vl).sum := by
  have hb : toB xs ⟨#[]⟩ = true := by rw [toB, h, preB_nil]; rfl
  exact ⟨hb, by rw [toV, if_pos hb, e0_toList, tot_all]⟩
theorem sum_range {xs : List Ct} (h : Vls 1000000 xs) : 0 ≤ (xs.map Ct.vl).sum ∧ (xs.map Ct.vl).sum ≤ 1000000 * xs.length := by
  induction xs with
  | nil => simp
  | cons x xs ih =>
    have h1 := ih (fun y hy => h y (List.mem_cons_of_mem _ hy))
    have h2 := h x (List.mem_cons_self ..)
    simp only [List.map_cons, List.sum_cons, List.length_cons]
    omega
/-- what the law says of a bump -/
theorem bump_facts {xs : List Ct} {s : ByteArray} {n : Int} (h : bcB xs s n = true) : bcL xs s n = bumpL xs s n ∧ ctB (bumpL xs s n) = true ∧ coB xs s = true ∧ coB (bumpL xs s n) s = true ∧ coV (bumpL xs s n) s - coV xs s = n ∧
    toB xs ⟨#[]⟩ = true ∧ toB (bumpL xs s n) ⟨#[]⟩ = true ∧ toV (bumpL xs s n) ⟨#[]⟩ - toV xs ⟨#[]⟩ = n ∧ (0 ≤ coV xs s ∧ coV xs s ≤ 1000000) ∧ (0 ≤ coV (bumpL xs s n) s ∧ coV (bumpL xs s n) s ≤ 1000000) ∧ (0 ≤ toV xs ⟨#[]⟩ ∧ toV xs ⟨#[]⟩ ≤ 12000000) ∧ (0 ≤ toV (bumpL xs s n) ⟨#[]⟩ ∧ toV (bumpL xs s n) ⟨#[]⟩ ≤ 12000000) := by
  have hn : nameB s = true := by
    cases hb : nameB s with
    | true => rfl
    | false => rw [bcB_name hb] at h; cases h
  have e : bcL xs s n = bumpL xs s n := by rw [bcL, if_pos h]
  rw [bcB, Bool.and_eq_true, Bool.and_eq_true] at h
  obtain ⟨h1, _, h2⟩ := h
  have hu := (ctB_true h1).2.2
  have c1 : coB xs s = true := by rw [coB, h1, hn]; rfl
  have c2 : coB (bumpL xs s n) s = true := by rw [coB, h2, hn]; rfl
  have v1 : coV xs s = valN xs s.toList := by rw [coV, if_pos c1]
  have v2 : coV (bumpL xs s n) s = valN (bumpL xs s n) s.toList := by rw [coV, if_pos c2]
  have r1 := valN_range (ctB_vls h1) s.toList
  have r2 := valN_range (ctB_vls h2) s.toList
  have t1 := toV_nil h1
  have t2 := toV_nil h2
  have q1 := sum_range (ctB_vls h1)
  have q2 := sum_range (ctB_vls h2)
  have l1 := (ctB_true h1).1
  have l2 := (ctB_true h2).1
  refine ⟨e, h2, c1, c2, ?_, t1.1, t2.1, ?_, ?_, ?_, ?_, ?_⟩
  · rw [v1, v2, valN_bump hu, if_pos rfl]; omega
  · rw [t1.2, t2.2, sum_bump]; omega
  · rw [v1]; exact r1
  · rw [v2]; exact r2
  · rw [t1.2]; omega
  · rw [t2.2]; omega
theorem ctB_of {xs : List Ct} (h1 : xs.length ≤ 12) (h2 : ∀ k (h : k < xs.length), goodCt xs[k] = true) (h3 : Ups xs) : ctB xs = true := by
  rw [ctB_end (fun k hk => ?_), decide_eq_true h1]
  cases k with
  | zero => rw [okAt_zero xs hk]; exact h2 0 hk
  | succ k => rw [okAt_succ xs k hk, h2 _ hk, h3 k hk]; rfl
theorem ctB_filter {xs : List Ct} (h : ctB xs = true) (p : Ct → Bool) : ctB (xs.filter p) = true := by
  obtain ⟨h1, h2, h3⟩ := ctB_true h
  refine ctB_of (Nat.le_trans (List.length_filter_le _ _) h1) (fun k hk => ?_) ?_
  · have hm := (List.mem_filter.1 (List.getElem_mem hk)).1
    obtain ⟨j, hj, e⟩ := List.getElem_of_mem hm
    rw [← e]; exact h2 j hj
  · rw [ups_iff] at h3 ⊢
    exact h3.sublist (List.filter_sublist.map _)
theorem split_sum (pre : List UInt8) (q : Ct → Bool) (hq : ∀ x, q x = !belB x.k pre) : ∀ xs : List Ct, ((xs.filter q).map Ct.vl).sum + (xs.map (bel0 pre)).sum = (xs.map Ct.vl).sum ∧ ((xs.filter q).map (bel0 pre)).sum = 0
  | [] => by simp
  | x :: xs => by
    obtain ⟨h1, h2⟩ := split_sum pre q hq xs
    by_cases hb : belB x.k pre = true
    · have h3 : q x = false := by rw [hq, hb]; rfl
      rw [List.filter_cons, if_neg (by rw [h3]; exact Bool.false_ne_true)]
      simp only [List.map_cons, List.sum_cons]
      rw [bel0, if_pos hb]
      exact ⟨by omega, h2⟩
    · have h3 : q x = true := by rw [hq, Bool.eq_false_iff.2 hb]; rfl
      rw [List.filter_cons, if_pos h3]
      simp only [List.map_cons, List.sum_cons]
      rw [bel0, if_neg hb]
      exact ⟨by omega, by omega⟩
/-- what the law says of a drop -/
theorem drop_facts {xs : List Ct} {s : ByteArray} (h : drB xs s = true) : drL xs s = xs.filter (keepQ s) ∧ toB xs ⟨#[]⟩ = true ∧ toB (xs.filter (keepQ s)) ⟨#[]⟩ = true ∧ toB (xs.filter (keepQ s)) s = true ∧
    toV (xs.filter (keepQ s)) ⟨#[]⟩ + toV xs s = toV xs ⟨#[]⟩ ∧ toV (xs.filter (keepQ s)) s = 0 ∧ (0 ≤ toV xs s ∧ toV xs s ≤ 12000000) ∧ (0 ≤ toV xs ⟨#[]⟩ ∧ toV xs ⟨#[]⟩ ≤ 12000000) ∧ (0 ≤ toV (xs.filter (keepQ s)) ⟨#[]⟩ ∧ toV (xs.filter (keepQ s)) ⟨#[]⟩ ≤ 12000000) := by
  have e : drL xs s = xs.filter (keepQ s) := by rw [drL, if_pos h]
  rw [drB, Bool.and_eq_true] at h
  obtain ⟨h1, h2⟩ := h
  have hf := ctB_filter h1 (keepQ s)
  have b1 : toB xs s = true := by rw [toB, h1, h2]; rfl
  have b2 : toB (xs.filter (keepQ s)) s = true := by rw [toB, hf, h2]; rfl
  have t1 := toV_nil h1
  have t2 := toV_nil hf
  have v1 : toV xs s = (xs.map (bel0 s.toList)).sum := by rw [toV, if_pos b1, totN_sum _ _ _ (Nat.le_refl _), List.take_length]
  have v2 : toV (xs.filter (keepQ s)) s = ((xs.filter (keepQ s)).map (bel0 s.toList)).sum := by rw [toV, if_pos b2, totN_sum _ _ _ (Nat.le_refl _), List.take_length]
  have hs := split_sum s.toList (keepQ s) (fun x => rfl) xs
  have q1 := sum_range (ctB_vls h1)
  have q2 := sum_range (ctB_vls hf)
  have l1 := (ctB_true h1).1
  have l2 := (ctB_true hf).1
  have q3 := totN_bound s.toList xs (ctB_true h1).2.1 xs.length (Nat.le_refl _)
  have v3 : toV xs s = totN s.toList xs xs.length := by rw [toV, if_pos b1]
  refine ⟨e, t1.1, t2.1, b2, ?_, ?_, ?_, ?_, ?_⟩
  · rw [t2.2, v1, t1.2]; exact hs.1
  · rw [v2]; exact hs.2
  · rw [v3]; omega
  · rw [t1.2]; omega
  · rw [t2.2]; omega
end Go.Proofs.YtmochhgmhhopoaaGreatDoor

/- The reader's choice among texts, and the text with a byte more, less, or another one. Condition: at most 2^40 reads. -/
namespace Go.Proofs.YtmochhgmhhopoaaGreatDoor
open Go.RowKit

/-- one of some texts -/
theorem of_any (B u : Nat) (v : Value) (xs : List ByteArray) (w : World) (h : Cur w B u) (hu : u ≤ 1000000000000) (hr : RdS w v xs) (h1 : 1 ≤ xs.length) (hne : v.ownBlock = none ∨ v.ownBlock ≠ some B) :
    Calls Tryz.prog 52 #[.pointer (some ⟨B, 0, none⟩), v] w fun e w' => ∃ x : ByteArray, x ∈ xs ∧ e = .returned (.string x) ∧ Cur w' B (u + 2) ∧ w.grownBy w' (some B) := by
  have hlen := hr.2.1
  have HR := Lib.hid hr
  obtain ⟨p, cap, b, off, rfl, hcap, hp, _⟩ := hr.parts
  obtain rfl := hp (by omega)
  clear hp hr
  have H := Lib.hid h; clear h
  have HN := Lib.hid hne; clear hne
  go_enter Tryz.func52, Tryz.ntmps52
  go_wp2_with fail
  refine (pick_any B u xs.length w H.out hu h1 (by omega)).mono ?_
  rintro e w1 ⟨k, hk, rfl, hc, hg⟩
  obtain ⟨p', cap', b', off', hv, _, hp', hcell⟩ := (RdS.grown HR.out hg HN.out).parts
  have hp' := hp' (by omega)
  simp only [Value.slice.injEq] at hv
  obtain ⟨rfl, _, rfl⟩ := hv
  simp only [Option.some.injEq, Addr.mk.injEq, and_true] at hp'
  obtain ⟨rfl, rfl⟩ := hp'
  have c1 := hcell k hk
  clear hcell
  go_wp2
  go_ret
  exact ⟨xs[k], List.getElem_mem hk, rfl, hc, hg⟩
theorem lit_rdS (w : World) (xs : List ByteArray) (N : Nat) (hN : xs.length = N) (hn : N ≤ 1073741824) (hok : ∀ x ∈ xs, x.size ≤ 9223372036854775807) :
    RdS (w.alloc (.cells (xs.map Value.string).toArray 9)) (.slice (some ⟨w.heap.size, 0, none⟩) N N) xs := by
  subst hN
  refine ⟨⟨by simp, some ⟨w.heap.size, 0, none⟩, xs.length, w.heap.size, 0, rfl, Nat.le_refl _, (by intro h; cases h), fun _ => ⟨rfl, fun j hj => ?_⟩⟩, hn, hok⟩
  rw [cell_of_row _ w.heap.size _ _ _ (0, 0) (heap_alloc_new w _)]
  simp
/-- one of some texts that were just laid -/
theorem of_lit (B u : Nat) (xs : List ByteArray) (N M : Nat) (w : World) {A : Array Value} {g : Nat} (h : Cur w B u) (hu : u ≤ 1000000000000) (hg : g = w.heap.size) (hA : A = (xs.map Value.string).toArray) (hN : xs.length = N) (h1 : 1 ≤ N) (hn : N ≤ 1073741824) (hM : ∀ x ∈ xs, x.size ≤ M) (hM1 : M ≤ 1000) :
    Calls Tryz.prog 52 #[.pointer (some ⟨B, 0, none⟩), .slice (some ⟨g, 0, none⟩) N N] (w.alloc (.cells A 9)) fun e w' => ∃ x : ByteArray, x.size ≤ M ∧ e = .returned (.string x) ∧ Cur w' B (u + 2) ∧ w.grownBy w' (some B) := by
  subst hA hg
  have hr := lit_rdS w xs N hN hn (fun x hx => Nat.le_trans (hM x hx) (by omega))
  have hlt := h.lt
  refine (of_any B u _ xs _ (h.below (below_alloc1 _ _)) hu hr (by omega) (.inr (by simp [Value.ownBlock]; omega))).mono ?_
  rintro e w' ⟨x, hx, rfl, hc, hg⟩
  exact ⟨x, hM x hx, rfl, hc, grown_trans (World.grownBy_alloc w _ _) hg⟩

def Ct8 (w : World) (B u N : Nat) (e : Ending) (w' : World) : Prop := ∃ x : ByteArray, x.size ≤ N ∧ e = .returned (.string x) ∧ Cur w' B u ∧ w.grownBy w' (some B)
set_option maxRecDepth 100000 in
set_option maxHeartbeats 4000000 in
theorem spoilt_any (B u : Nat) (t s : ByteArray) (w : World) (h : Cur w B u) (hu : u ≤ 1000000) (ht : t.size ≤ 1048576) (hs : s.size ≤ 100) (hs1 : 1 ≤ s.size) :
    Calls Tryz.prog 49 #[.pointer (some ⟨B, 0, none⟩), .string t, .string s] w (Ct8 w B (u + 6) (t.size + 1)) := by
  have H := Lib.hid h; clear h
  cases he : t.toList.isEmpty
  · have ht0 : 0 < t.size := by
      rw [ByteArray.toList_eq, List.isEmpty_eq_false_iff] at he
      have h1 : t.data.toList.length = t.size := Array.length_toList
      have := List.length_pos_iff.2 he
      omega
    go_enter Tryz.func49, Tryz.ntmps49
    go_wp2_with fail
    refine (pick_any B u t.size _ H.out (by omega) (by omega) (by omega)).mono ?_
    rintro e w1 ⟨i, hi, rfl, hc1, hg1⟩
    have HC := Lib.hid hc1; clear hc1
    have HG := Lib.hid hg1; clear hg1
    go_wp2_with fail
    refine (pick_any B _ s.size _ HC.out (by omega) (by omega) (by omega)).mono ?_
    rintro e w2 ⟨k, hk, rfl, hc2, hg2⟩
    have HC2 := Lib.hid hc2; clear hc2
    have HG2 := Lib.hid (grown_trans HG.out hg2); clear hg2 HG HC
    have hx1 : ((s.extract k s.size).extract 0 1).size = 1 := by simp; omega
    have hx2 : (s.extract k s.size).size = s.size - k := by simp
    go_wp2_with fail
    refine (pick_any B _ 3 _ HC2.out (by omega) (by omega) (by omega)).mono ?_
    rintro e w3 ⟨j, hj, rfl, hc3, hg3⟩
    have HC3 := Lib.hid hc3; clear hc3
    have HG3 := Lib.hid (grown_trans HG2.out hg3); clear hg3 HG2 HC2
    have e1 : (t.extract 0 i).size = i := by simp; omega
    have e2 : (t.extract i t.size).size = t.size - i := by simp
    have e3 : (t.extract (i + 1) t.size).size = t.size - (i + 1) := by simp
    generalize (s.extract k s.size).extract 0 1 = x at *
    have fin : ∀ y : ByteArray, y.size ≤ t.size + 1 → ∀ n, Ct8 w B (u + 6) (t.size + 1) (.returned (.string y)) (w3.drewN n) := fun y hy n => ⟨y, hy, rfl, HC3.out.below (below_eq ⟨n, rfl⟩), grown_trans HG3.out (grown_below (below_eq ⟨n, rfl⟩))⟩
    have FIN := Lib.hid fin; clear fin
    generalize hjj : (j : Int) = jj
    clear hjj
    by_cases q0 : jj = 0
    · subst q0
      go_wp2_with fail
      go_quiet (fail)
      go_wp2
      refine bodyPost_ret (v := (.string (t.extract 0 i ++ x ++ t.extract i t.size))) (by simp [results, Tryz.results49, go_sem, *]) rfl ?_
      exact FIN.out _ (by simp only [ByteArray.size_append]; omega) _
    · by_cases q1 : jj = 1
      · subst q1
        go_wp2_with fail
        go_quiet (fail)
        go_wp2
        refine bodyPost_ret (v := (.string (t.extract 0 i ++ x ++ t.extract (i + 1) t.size))) (by simp [results, Tryz.results49, go_sem, *]) rfl ?_
        exact FIN.out _ (by simp only [ByteArray.size_append]; omega) _
      · go_wp2_with fail
        go_quiet (fail)
        go_wp2
        refine bodyPost_ret (v := (.string (t.extract 0 i ++ t.extract (i + 1) t.size))) (by simp [results, Tryz.results49, go_sem, *]) rfl ?_
        exact FIN.out _ (by simp only [ByteArray.size_append]; omega) _
  · have hx1 : (s.extract 0 1).size = 1 := by simp; omega
    go_enter Tryz.func49, Tryz.ntmps49
    go_wp2
    go_ret
    exact ⟨_, by rw [hx1]; omega, rfl, H.out.mono (by omega), World.grownBy.refl _ _⟩
end Go.Proofs.YtmochhgmhhopoaaGreatDoor

/- Contracts of the reference's drawings of counters: each answers SOME name, SOME list of counters (nothing more is needed), reading at most 65536 bytes. -/
namespace Go.Proofs.YtmochhgmhhopoaaGreatDoor
open Go.RowKit

theorem cname_draw (B u : Nat) (w : World) (h : Cur w B u) (hu : u ≤ 1000000) :
    Calls Tryz.prog 23 #[.pointer (some ⟨B, 0, none⟩)] w fun e w' => ∃ x : ByteArray, x.size ≤ 21 ∧ e = .returned (.string x) ∧ Cur w' B (u + 4) ∧ w.grownBy w' (some B) := by
  have H := Lib.hid h; clear h
  go_enter Tryz.func23, Tryz.ntmps23
  go_wp2_with fail
  refine (one_any B u 20 _ H.out (by omega) (by omega) (by omega)).mono ?_
  rintro e w1 ⟨b, rfl, hc1, hg1⟩
  have HC := Lib.hid hc1; clear hc1
  have HG := Lib.hid hg1; clear hg1
  cases b
  · go_wp2_with fail
    refine (of_lit B (u + 2) [⟨#[115, 101, 110, 116]⟩, ⟨#[108, 111, 115, 116]⟩, ⟨#[108, 111, 115, 116, 46, 117, 112]⟩, ⟨#[108, 111, 115, 116, 46, 100, 111, 119, 110]⟩, ⟨#[108, 111, 115, 116, 115]⟩, ⟨#[97]⟩, ⟨#[97, 46, 98, 46, 99]⟩, ⟨#[114, 101, 112, 97, 105, 114]⟩] 8 21 _ HC.out (by omega) (by simp) rfl rfl (by omega) (by omega) (by decide) (by omega)).mono ?_
    rintro e w2 ⟨x, hx, rfl, hc2, hg2⟩
    go_wp2
    go_ret
    exact ⟨x, hx, rfl, hc2, grown_trans HG.out hg2⟩
  · go_wp2_with fail
    refine (of_lit B (u + 2) [⟨#[]⟩, ⟨#[46]⟩, ⟨#[97, 46]⟩, ⟨#[65]⟩, ⟨#[97, 46, 46, 98]⟩, ⟨#[97, 98, 99, 100, 101, 102, 103, 104, 105, 106, 107, 108, 109, 110, 111, 112, 113, 114, 115, 116]⟩, ⟨#[97, 98, 99, 100, 101, 102, 103, 104, 105, 106, 107, 108, 109, 110, 111, 112, 113, 114, 115, 116, 117]⟩] 7 21 _ HC.out (by omega) (by simp) rfl rfl (by omega) (by omega) (by decide) (by omega)).mono ?_
    rintro e w2 ⟨x, hx, rfl, hc2, hg2⟩
    go_wp2
    go_ret
    exact ⟨x, hx, rfl, hc2, grown_trans HG.out hg2⟩

theorem OwCt.neB {w W : World} {v : Value} {xs : List Ct} {B : Nat} (h : OwCt w.heap.size W v xs) (hB : B < w.heap.size) : v.ownBlock = none ∨ v.ownBlock ≠ some B := by
  cases hv : v.ownBlock with
  | none => exact .inl rfl
  | some k => exact .inr fun e => by have := (h.lt k hv).1; have := Option.some.inj e; omega
theorem Dr.appCt {w W W' : World} {B u : Nat} {v : Value} {xs : List Ct} (h : Dr w W B u) (ho : OwCt w.heap.size W v xs) (hg : W.grownBy W' v.ownBlock) : Dr w W' B u := by
  have hlt := h.lt
  cases hv : v.ownBlock with
  | none =>
    rw [hv] at hg
    exact ⟨h.cur.below ⟨hg.os, hg.tape, hg.output, hg.size, fun k hk => hg.block k hk (by simp)⟩, grown_trans h.grown ⟨hg.os, hg.tape, hg.output, hg.size, fun k hk _ => hg.block k hk (by simp)⟩, hlt⟩
  | some g =>
    rw [hv] at hg
    have hge := (ho.lt g hv).1
    refine ⟨?_, ⟨hg.os.trans h.grown.os, hg.tape.trans h.grown.tape, hg.output.trans h.grown.output, Nat.le_trans h.size hg.size, fun k hk hne => (hg.block k (by have := h.size; omega) (by simp; omega)).trans (h.grown.block k hk hne)⟩, hlt⟩
    obtain ⟨cv, bs, n, sd, hh, hn, hr, hne⟩ := h.cur
    exact ⟨cv, bs, n, sd, (hg.block B (by have := h.size; omega) (by simp; omega)).trans hh, hn, hr.grown hg (ne_row hne (by omega)), hne⟩
theorem flatCt_snoc (xs : List Ct) (x : Ct) : (xs ++ [x]).flatMap Ct.cells = xs.flatMap Ct.cells ++ x.cells := by rw [List.flatMap_append]; simp
/-- the names are short -/
def Nms (xs : List Ct) : Prop := ∀ x ∈ xs, x.nm.size ≤ 21
theorem Nms.snoc {xs : List Ct} {x : Ct} (h : Nms xs) (hx : x.nm.size ≤ 21) : Nms (xs ++ [x]) := by
  intro y hy
  rcases List.mem_append.1 hy with hy | hy
  · exact h y hy
  · rw [List.mem_singleton.1 hy]; exact hx
theorem Nms.ok {xs : List Ct} (h : Nms xs) : ∀ x ∈ xs, x.ok := fun x hx => by have := h x hx; unfold Ct.ok; omega
theorem Nms.big {xs : List Ct} (h : Nms xs) : ∀ x ∈ xs, x.nm.size ≤ 1048576 := fun x hx => by have := h x hx; omega
theorem bcL_length (xs : List Ct) (s : ByteArray) (n : Int) : (bcL xs s n).length ≤ xs.length + 1 := by
  unfold bcL
  split
  · exact bumpL_length xs s n
  · exact Nat.zero_le _
theorem Nms.bc {xs : List Ct} (h : Nms xs) {s : ByteArray} (hs : s.size ≤ 21) (n : Int) : Nms (bcL xs s n) := by
  unfold bcL
  split
  · exact bumpL_mem h hs hs
  · intro x hx; cases hx
theorem new_dr {w w' : World} {o : Obj} {u : Nat} (h : Dr (w.alloc o) w' w.heap.size u) : Below w.heap.size w w' := new_grown h.grown
def SomeCt (w : World) (B u : Nat) (e : Ending) (w' : World) : Prop := ∃ v xs, e = .returned v ∧ OwCt w.heap.size w' v xs ∧ xs.length ≤ 14 ∧ Nms xs ∧ Dr w w' B u
set_option maxRecDepth 100000 in
set_option maxHeartbeats 8000000 in
theorem counters_any (B u : Nat) (w : World) (h : Cur w B u) (hu : u ≤ 100000) :
    Calls Tryz.prog 22 #[.pointer (some ⟨B, 0, none⟩)] w (SomeCt w B (u + 100)) := by
  obtain ⟨i0, hi, hz0, hz1, hz2⟩ := info_parts infoCt
  have hlt := h.lt
  have D0 := Lib.hid (Dr.start h); clear h
  have O0 : Hid (OwCt w.heap.size (w.alloc (.cells #[] 55)) (.slice (some ⟨w.heap.size, 0, none⟩) 0 0) []) := Lib.hid ⟨World.ownsRow_lit w #[] 0 (Nat.le_refl _) (Nat.zero_le _) rfl, Nat.zero_le _, by simp⟩
  go_enter Tryz.func22, Tryz.ntmps22
  go_wp2_with fail
  refine (pick_any B u 8 _ (D0.out.alloc _).cur (by omega) (by omega) (by omega)).mono ?_
  rintro e w1 ⟨k1, hk1, rfl, hc1, hg1⟩
  have D1 := Lib.hid ((D0.out.alloc _).call hc1 hg1)
  have O1 := Lib.hid (O0.out.grown hg1 (O0.out.neB hlt))
  clear hc1 hg1 D0 O0
  go_wp2
  go_loopw [3, 4, 5, 6] (fun v i _ _ wr => ∃ (xs : List Ct) (j : Nat), i = .int .i64 j ∧ xs.length + j ≤ 7 ∧ Hid (OwCt w.heap.size wr v xs) ∧ Hid (Nms xs) ∧ Hid (Dr w wr B (u + 2 + (7 - j) * 6))) (fun _ i _ _ _ => (intOf i).toNat)
  case atStart => exact ⟨[], k1, rfl, by simp; omega, O1, Lib.hid (by intro x hx; cases hx), Lib.hid (D1.out.mono (by omega))⟩
  case round =>
    clear D1 O1
    obtain ⟨xs, j, rfl, hj, OO, HS, DD⟩ := hrel
    have zr := DD.out.size
    by_cases hj0 : 0 < j
    · obtain ⟨j', rfl⟩ : ∃ j', j = j' + 1 := ⟨j - 1, by omega⟩
      go_wp2_with fail
      refine (cname_draw B _ _ DD.out.cur (by omega)).mono ?_
      rintro e W1 ⟨nm, hnm, rfl, hc1, hg1⟩
      have D1 := Lib.hid (DD.out.call hc1 hg1)
      have O1 := Lib.hid (OO.out.grown hg1 (OO.out.neB hlt))
      clear hc1 hg1 DD OO
      go_wp2_with fail
      refine (among_lit B _ [0, 1, 2, 50, 500000, 1000000] 6 _ D1.out.cur (by omega) (by simp) rfl rfl (by omega) (by omega)).mono ?_
      rintro e W2 ⟨a, rfl, hc2, hg2⟩
      have D2 := Lib.hid (D1.out.call hc2 hg2)
      have O2 := Lib.hid (O1.out.grown hg2 (O1.out.neB hlt))
      clear hc2 hg2 D1 O1
      have HBp := Lib.hid (fun h => specBump_any u3 xs nm a W2 h HS.out.big (by omega))
      have hbl := bcL_length xs nm a
      have HSb := Lib.hid (HS.out.bc hnm a)
      go_wp2_with fail
      refine (HBp.out O2.out.rd).mono ?_
      rintro e W3 ⟨v3, rfl, o3, b3⟩
      have D3 := Lib.hid (D2.out.call (D2.out.cur.below b3) (grown_below b3))
      have O3 := Lib.hid (O2.out.below b3)
      have P3 := Lib.hid (o3.base D2.out.size)
      clear o3 b3 D2 O2 HBp
      generalize bcL xs nm a = ys at *
      cases bcB xs nm a
      · clear P3 HSb hbl
        go_wp2
        go_roundw
        case rel => exact ⟨xs, j', by go_num, by omega, O3, HS, Lib.hid (D3.out.mono (by omega))⟩
        case measure => (simp [intOf]; try omega)
      · clear O3
        go_wp2
        go_roundw
        case rel => exact ⟨ys, j', by go_num, by omega, P3, HSb, Lib.hid (D3.out.mono (by omega))⟩
        case measure => (simp [intOf]; try omega)
    · go_wp2_with fail
      refine (pick_any B _ 30 _ DD.out.cur (by omega) (by omega) (by omega)).mono ?_
      rintro e W1 ⟨k, hk, rfl, hc1, hg1⟩
      have D1 := Lib.hid (DD.out.call hc1 hg1)
      have O1 := Lib.hid (OO.out.grown hg1 (OO.out.neB hlt))
      clear hc1 hg1 DD OO
      have D1 : Hid (Dr w W1 B (u + 50)) := Lib.hid (D1.out.mono (by omega))
      have hx7 : xs.length ≤ 7 := by omega
      clear hj hj0
      generalize hkk : (k : Int) = kk
      clear hkk
      have zr := D1.out.size
      by_cases q0 : kk = 0
      · subst q0
        go_wp2_with fail
        refine (cname_draw B _ _ D1.out.cur (by omega)).mono ?_
        rintro e W2 ⟨nm, hnm, rfl, hc1, hg1⟩
        have D2 := Lib.hid (D1.out.call hc1 hg1)
        have O2 := Lib.hid (O1.out.grown hg1 (O1.out.neB hlt))
        clear hc1 hg1 D1 O1
        go_wp2_with fail
        refine (among_lit B _ [-1, 0, 1000001] 3 _ D2.out.cur (by omega) (by simp) rfl rfl (by omega) (by omega)).mono ?_
        rintro e W3 ⟨a, rfl, hc2, hg2⟩
        have D3 := Lib.hid (D2.out.call hc2 hg2)
        have O3 := Lib.hid (O2.out.grown hg2 (O2.out.neB hlt))
        clear hc2 hg2 D2 O2
        have HS1 : Hid (Nms (xs ++ [⟨nm, a⟩])) := Lib.hid (HS.out.snoc hnm)
        have z3 := D3.out.size
        go_wp2_with (first | (at_builtin; go_loud (refine wpList_append_own _ rfl _ _ 24 rfl (w.heap.size) 55 i0 (.agg #[.string ⟨#[]⟩, .int .i64 0]) 2 24 Tryz.underlying24 hi hz0 hz1 hz2 rfl (by decide) _ _ _ rfl (O3.out.1.alloc _) ⟨W3.heap.size, 0, none⟩ 1 1 [.string nm, .int .i64 a] rfl rfl ?c1A ?c2A ?c3A ?c4A ?c5A ?_)))
        try (case c1A => first | exact cells_new _ #[.string nm, .int .i64 a] _ | exact cells_at _ #[.string nm, .int .i64 a] _ (by simp) | rfl)
        try (case c2A => first | rfl | exact ⟨rfl, rfl, rfl⟩ | exact ⟨rfl, rfl⟩ | (intro u hu; simp at hu; rcases hu with rfl | rfl | rfl | rfl <;> rfl) | (intro u hu; simp at hu; rcases hu with rfl | rfl | rfl <;> rfl) | (intro u hu; simp at hu; rcases hu with rfl | rfl <;> rfl) | (intro u hu; simp at hu; subst hu; rfl))
        try (case c3A => first | omega | (unfold maxLen; omega))
        try (case c4A => first | omega | ((try simp only [World.heap_size_alloc]); omega))
        try (case c5A => first | omega | (simp; omega))
        intro v' w2 hown' hgrow
        try intro _
        have D4 := Lib.hid (Dr.appCt (D3.out.alloc (.cells #[.string nm, .int .i64 a] 55)) (O3.out.below (below_alloc1 _ _)) hgrow)
        have O4 : Hid (OwCt w.heap.size w2 v' (xs ++ [⟨nm, a⟩])) := Lib.hid ⟨by rw [flatCt_snoc, List.length_append]; exact hown', by simp; omega, HS1.out.ok⟩
        clear hown' hgrow D3 O3
        go_wp2
        refine bodyPost_ret (v := v') (by simp [results, Tryz.results22, go_sem, *]) rfl ?_
        exact ⟨v', _, rfl, O4.out, by simp; omega, HS1.out, D4.out.mono (by omega)⟩
      · by_cases q1 : kk = 1
        · subst q1
          have O2 : Hid (OwCt w.heap.size (W1.alloc (.cells #[] 55)) (.slice (some ⟨W1.heap.size, 0, none⟩) 0 0) []) := Lib.hid ⟨World.ownsRow_lit W1 #[] 0 zr (Nat.zero_le _) rfl, Nat.zero_le _, by simp⟩
          have D2 := Lib.hid (D1.out.alloc (.cells #[] 55))
          clear O1 HS D1
          go_wp2
          go_loopw [3, 7] (fun v i wr => ∃ (xs : List Ct) (j : Nat), i = .int .i64 j ∧ xs.length ≤ j ∧ j ≤ 13 ∧ Hid (OwCt w.heap.size wr v xs) ∧ Hid (Nms xs) ∧ Hid (Dr w wr B (u + 50 + j * 2))) (fun _ i _ => 14 - (intOf i).toNat)
          case atStart => exact ⟨[], 0, rfl, Nat.le_refl _, by omega, O2, Lib.hid (by intro x hx; cases hx), Lib.hid (D2.out.mono (by omega))⟩
          case round =>
            clear D2 O2
            obtain ⟨xs, j, rfl, hxj, hj, OO, HS, DD⟩ := hrel
            have zr := DD.out.size
            go_wp2_with fail
            refine (pick_any B _ 2 _ DD.out.cur (by omega) (by omega) (by omega)).mono ?_
            rintro e W2 ⟨k2, hk2, rfl, hc2, hg2⟩
            have D2 := Lib.hid (DD.out.call hc2 hg2)
            have O2 := Lib.hid (OO.out.grown hg2 (OO.out.neB hlt))
            clear hc2 hg2 DD OO
            have z2 := D2.out.size
            by_cases hlt2 : j < 12 + k2
            · have hcv : (convert 22 9 (.slice (some ⟨W2.heap.size, 0, none⟩) 1 1)).run Tryz.prog (W2.alloc (.cells #[.int .u8 (97 + (j : Int))] 5)) = .ok (.string ⟨[UInt8.ofNat (97 + j)].toArray⟩) (W2.alloc (.cells #[.int .u8 (97 + (j : Int))] 5)) :=
                run_convert_bytes_back (P := Tryz.prog) _ 22 9 5 ⟨W2.heap.size, 0, none⟩ 1 [UInt8.ofNat (97 + j)] Tryz.underlying22 Tryz.underlying5 Tryz.underlying9 (fun i hi => by
                  obtain rfl : i = 0 := by simpa using hi
                  rw [cells_new W2 #[.int .u8 (97 + (j : Int))] 5 0 _ rfl]
                  simp only [List.getElem_cons_zero, UInt8.toNat_ofNat']
                  rw [show ((97 + j) % 2 ^ 8 : Nat) = 97 + j from by omega]
                  simp)
              have h97 : IntKind.u8.wrap (97 + (j : Int)) = 97 + (j : Int) := by rw [IntKind.wrap_u8]; omega
              have HS1 : Hid (Nms (xs ++ [⟨⟨#[110]⟩ ++ ⟨#[97 + UInt8.ofNat j]⟩, (j : Int) % 3⟩])) := Lib.hid (HS.out.snoc (by rw [ByteArray.size_append]; exact (by decide : 2 ≤ 21)))
              go_wp2_with (first | (at_builtin; go_loud (refine wpList_append_own _ rfl _ _ 24 rfl (w.heap.size) 55 i0 (.agg #[.string ⟨#[]⟩, .int .i64 0]) 2 24 Tryz.underlying24 hi hz0 hz1 hz2 rfl (by decide) _ _ _ rfl ((O2.out.1.alloc _).alloc _) ⟨W2.heap.size + 1, 0, none⟩ 1 1 [.string (⟨#[110]⟩ ++ ⟨#[97 + UInt8.ofNat j]⟩), .int .i64 ((j : Int) % 3)] rfl rfl ?c1B ?c2B ?c3B ?c4B ?c5B ?_)))
              try (case c1B => first | exact cells_new _ #[.string (⟨#[110]⟩ ++ ⟨#[97 + UInt8.ofNat j]⟩), .int .i64 ((j : Int) % 3)] _ | exact cells_at _ #[.string (⟨#[110]⟩ ++ ⟨#[97 + UInt8.ofNat j]⟩), .int .i64 ((j : Int) % 3)] _ (by simp) | rfl)
              try (case c2B => first | rfl | exact ⟨rfl, rfl, rfl⟩ | exact ⟨rfl, rfl⟩ | (intro u hu; simp at hu; rcases hu with rfl | rfl | rfl | rfl <;> rfl) | (intro u hu; simp at hu; rcases hu with rfl | rfl | rfl <;> rfl) | (intro u hu; simp at hu; rcases hu with rfl | rfl <;> rfl) | (intro u hu; simp at hu; subst hu; rfl))
              try (case c3B => first | omega | (unfold maxLen; omega))
              try (case c4B => first | omega | ((try simp only [World.heap_size_alloc]); omega))
              try (case c5B => first | omega | (simp; omega))
              intro v' w2 hown' hgrow
              try intro _
              have D4 := Lib.hid (Dr.appCt ((D2.out.alloc (.cells #[.int .u8 (97 + (j : Int))] 5)).alloc (.cells #[.string (⟨#[110]⟩ ++ ⟨#[97 + UInt8.ofNat j]⟩), .int .i64 ((j : Int) % 3)] 55)) ((O2.out.below (below_alloc1 _ _)).below (below_alloc1 _ _)) hgrow)
              have O4 : Hid (OwCt w.heap.size w2 v' (xs ++ [⟨⟨#[110]⟩ ++ ⟨#[97 + UInt8.ofNat j]⟩, (j : Int) % 3⟩])) := Lib.hid ⟨by rw [flatCt_snoc, List.length_append]; exact hown', by simp; omega, HS1.out.ok⟩
              clear hown' hgrow D2 O2
              go_wp2
              go_roundw
              case rel => exact ⟨_, j + 1, by go_num, by simp; omega, by omega, O4, HS1, Lib.hid (D4.out.mono (by omega))⟩
              case measure => simp [intOf]; omega
            · go_wp2
              refine bodyPost_ret (v := u3) (by simp [results, Tryz.results22, go_sem, *]) rfl ?_
              exact ⟨_, xs, rfl, O2.out, by omega, HS.out, D2.out.mono (by omega)⟩
        · go_wp2
          refine bodyPost_ret (v := u3) (by simp [results, Tryz.results22, go_sem, *]) rfl ?_
          exact ⟨_, xs, rfl, O1.out, by omega, HS.out, D1.out.mono (by omega)⟩
end Go.Proofs.YtmochhgmhhopoaaGreatDoor

/- Contracts of the reference's drawings for the laws on counters: each answers SOME lists of counters, names, numbers, in new memory. -/
namespace Go.Proofs.YtmochhgmhhopoaaGreatDoor
open Go.RowKit

def SomeCC (w : World) (e : Ending) (w' : World) : Prop := ∃ va vb xs ys, e = .returned (.tuple #[va, vb]) ∧ OwCt w.heap.size w' va xs ∧ OwCt w.heap.size w' vb ys ∧ Nms xs ∧ Nms ys ∧ Below w.heap.size w w'
def SomeCI (w : World) (e : Ending) (w' : World) : Prop := ∃ va xs, ∃ n : Int, e = .returned (.tuple #[va, .int .i64 n]) ∧ OwCt w.heap.size w' va xs ∧ Nms xs ∧ Below w.heap.size w w'
def SomeCS (w : World) (e : Ending) (w' : World) : Prop := ∃ va xs, ∃ t : ByteArray, e = .returned (.tuple #[va, .string t]) ∧ OwCt w.heap.size w' va xs ∧ Nms xs ∧ t.size ≤ 21 ∧ Below w.heap.size w w'
end Go.Proofs.YtmochhgmhhopoaaGreatDoor

/- Contracts of the reference's drawings for the law on counters and their texts: each answers SOME lists of counters, names, numbers, texts, in new memory. -/
namespace Go.Proofs.YtmochhgmhhopoaaGreatDoor
open Go.RowKit

def SomeCSI (w : World) (e : Ending) (w' : World) : Prop := ∃ va xs, ∃ t : ByteArray, ∃ n : Int, e = .returned (.tuple #[va, .string t, .int .i64 n]) ∧ OwCt w.heap.size w' va xs ∧ Nms xs ∧ t.size ≤ 21 ∧ Below w.heap.size w w'
def SomeC (w : World) (e : Ending) (w' : World) : Prop := ∃ va xs, e = .returned va ∧ OwCt w.heap.size w' va xs ∧ Nms xs ∧ Below w.heap.size w w'
def SomeT (w : World) (e : Ending) (w' : World) : Prop := ∃ t : ByteArray, e = .returned (.string t) ∧ t.size ≤ 400 ∧ Below w.heap.size w w'
theorem prefix_any (B u : Nat) (w : World) (h : Cur w B u) (hu : u ≤ 100000) :
    Calls Tryz.prog 60 #[.pointer (some ⟨B, 0, none⟩)] w fun e w' => ∃ x : ByteArray, x.size ≤ 21 ∧ e = .returned (.string x) ∧ Cur w' B (u + 6) ∧ w.grownBy w' (some B) := by
  have H := Lib.hid h; clear h
  go_enter Tryz.func60, Tryz.ntmps60
  go_wp2_with fail
  refine (one_any B u 4 _ H.out (by omega) (by omega) (by omega)).mono ?_
  rintro e w1 ⟨b, rfl, hc1, hg1⟩
  have HC := Lib.hid hc1; clear hc1
  have HG := Lib.hid hg1; clear hg1
  cases b
  · go_wp2_with fail
    refine (cname_draw B _ _ HC.out (by omega)).mono ?_
    rintro e w2 ⟨x, hx, rfl, hc2, hg2⟩
    go_wp2
    go_ret
    exact ⟨x, hx, rfl, hc2, grown_trans HG.out hg2⟩
  · go_wp2
    go_ret
    exact ⟨⟨#[]⟩, by decide, rfl, HC.out.mono (by omega), HG.out⟩
theorem drawTotal_any (v : Value) (bs : List Int) (w : World) (h : RdY w v bs) :
    Calls Tryz.prog 36 #[v] w (SomeCS w) := by
  obtain ⟨p, cap, b, off, rfl, _, _, _⟩ := h.parts
  have HC := Lib.hid (cur_new w _ bs h); clear h
  go_enter Tryz.func36, Tryz.ntmps36
  go_wp2_with fail
  refine (counters_any w.heap.size 0 _ HC.out (by omega)).mono ?_
  rintro e w1 ⟨v1, xs, rfl, o1, _, n1, d1⟩
  have HO := Lib.hid o1; clear o1
  have HD := Lib.hid d1; clear d1
  go_wp2_with fail
  refine (prefix_any w.heap.size _ _ HD.out.cur (by omega)).mono ?_
  rintro e w2 ⟨nm, hnm, rfl, hc2, hg2⟩
  have HD2 := Lib.hid (HD.out.call hc2 hg2)
  have HO1 := Lib.hid ((HO.out.grown hg2 (HO.out.neB (by simp))).base (B' := w.heap.size) (by simp))
  clear hc2 hg2 HO HD
  go_wp2
  refine bodyPost_ret (v := (.tuple #[v1, .string nm])) (by simp [results, Tryz.results36, go_sem, *]) rfl ?_
  exact ⟨v1, xs, nm, rfl, HO1.out, n1, hnm, new_dr HD2.out⟩
theorem drawDrop_any (v : Value) (bs : List Int) (w : World) (h : RdY w v bs) :
    Calls Tryz.prog 12 #[v] w (SomeCS w) := by
  have H := Lib.hid (drawTotal_any v bs w h)
  obtain ⟨p, cap, b, off, rfl, _, _, _⟩ := h.parts
  clear h
  go_enter Tryz.func12, Tryz.ntmps12
  go_wp2_with fail
  refine H.out.mono ?_
  rintro e w1 ⟨v1, xs, t, rfl, o1, n1, ht, hb⟩
  go_wp2
  refine bodyPost_ret (v := (.tuple #[v1, .string t])) (by simp [results, Tryz.results12, go_sem, *]) rfl ?_
  exact ⟨v1, xs, t, rfl, o1, n1, ht, hb⟩
theorem drawIsCt_any (v : Value) (bs : List Int) (w : World) (h : RdY w v bs) :
    Calls Tryz.prog 41 #[v] w (SomeC w) := by
  obtain ⟨p, cap, b, off, rfl, _, _, _⟩ := h.parts
  have HC := Lib.hid (cur_new w _ bs h); clear h
  go_enter Tryz.func41, Tryz.ntmps41
  go_wp2_with fail
  refine (counters_any w.heap.size 0 _ HC.out (by omega)).mono ?_
  rintro e w1 ⟨v1, xs, rfl, o1, _, n1, d1⟩
  go_wp2
  refine bodyPost_ret (v := v1) (by simp [results, Tryz.results41, go_sem, *]) rfl ?_
  exact ⟨v1, xs, rfl, o1.base (by simp), n1, new_dr d1⟩
theorem drawText_any (v : Value) (bs : List Int) (w : World) (h : RdY w v bs) :
    Calls Tryz.prog 16 #[v] w (SomeC w) := by
  have H := Lib.hid (drawIsCt_any v bs w h)
  obtain ⟨p, cap, b, off, rfl, _, _, _⟩ := h.parts
  clear h
  go_enter Tryz.func16, Tryz.ntmps16
  go_wp2_with fail
  refine H.out.mono ?_
  rintro e w1 ⟨v1, xs, rfl, o1, n1, hb⟩
  go_wp2
  refine bodyPost_ret (v := v1) (by simp [results, Tryz.results16, go_sem, *]) rfl ?_
  exact ⟨v1, xs, rfl, o1, n1, hb⟩
def litBump : List Int := [0, 1, 7, 500001, 1000000, -1, 1000001]
set_option maxHeartbeats 2000000 in
theorem drawBump_any (v : Value) (bs : List Int) (w : World) (h : RdY w v bs) :
    Calls Tryz.prog 5 #[v] w (SomeCSI w) := by
  obtain ⟨p, cap, b, off, rfl, _, _, _⟩ := h.parts
  have HC := Lib.hid (cur_new w _ bs h); clear h
  go_enter Tryz.func5, Tryz.ntmps5
  go_wp2_with fail
  refine (counters_any w.heap.size 0 _ HC.out (by omega)).mono ?_
  rintro e w1 ⟨v1, xs, rfl, o1, _, n1, d1⟩
  have HO := Lib.hid o1; clear o1
  have HD := Lib.hid d1; clear d1
  go_wp2_with fail
  refine (cname_draw w.heap.size _ _ HD.out.cur (by omega)).mono ?_
  rintro e w4 ⟨nm, hnm, rfl, hc4, hg4⟩
  have HD4 := Lib.hid (HD.out.call hc4 hg4)
  have HO4 := Lib.hid (HO.out.grown hg4 (HO.out.neB (by simp)))
  clear hc4 hg4 HO HD
  have z1 := HD4.out.size
  go_wp2_with fail
  refine (pick_any w.heap.size _ 24 _ (HD4.out.alloc _).cur (by omega) (by omega) (by omega)).mono ?_
  rintro e w2 ⟨k, hk, rfl, hc2, hg2⟩
  have HR := Lib.hid ((lit_rd w4 litBump 7 rfl (5 + k / 11) (by omega) (by omega)).grown hg2 (.inr (by simp [Value.ownBlock]; simp at z1; omega)))
  have HD2 := Lib.hid ((HD4.out.alloc _).call hc2 hg2)
  have HO2 := Lib.hid ((HO4.out.below (below_alloc1 _ _)).grown hg2 (HO4.out.neB (by simp)))
  clear hc2 hg2 HO4 HD4
  go_wp2_with fail
  refine (among_any w.heap.size _ _ (litBump.take (5 + k / 11)) _ HD2.out.cur (by omega) HR.out (by simp [litBump]; omega) (.inr (by simp [Value.ownBlock]; simp at z1; omega))).mono ?_
  rintro e w3 ⟨n, _, rfl, hc3, hg3⟩
  have HD3 := Lib.hid (HD2.out.call hc3 hg3)
  have HO3 := Lib.hid ((HO2.out.grown hg3 (HO2.out.neB (by simp))).base (B' := w.heap.size) (by simp))
  clear hc3 hg3 HO2 HD2 HR
  go_wp2
  refine bodyPost_ret (v := (.tuple #[v1, .string nm, .int .i64 n])) (by simp [results, Tryz.results5, go_sem, *]) rfl ?_
  exact ⟨v1, xs, nm, n, rfl, HO3.out, n1, hnm, new_dr HD3.out⟩
theorem ctxV_short (xs : List Ct) : (ctxV xs).size ≤ 360 := by
  unfold ctxV
  split
  · rename_i h; exact txN_short h
  · exact Nat.zero_le _
theorem drawParse_any (v : Value) (bs : List Int) (w : World) (h : RdY w v bs) :
    Calls Tryz.prog 20 #[v] w (SomeT w) := by
  obtain ⟨p, cap, b, off, rfl, _, _, _⟩ := h.parts
  have HC := Lib.hid (cur_new w _ bs h); clear h
  go_enter Tryz.func20, Tryz.ntmps20
  go_wp2_with fail
  refine (counters_any w.heap.size 0 _ HC.out (by omega)).mono ?_
  rintro e w1 ⟨v1, xs, rfl, o1, _, n1, d1⟩
  have HO := Lib.hid o1; clear o1
  have HD := Lib.hid d1; clear d1
  have hsz := ctxV_short xs
  have HT := Lib.hid (fun h => specText_any v1 xs w1 h n1.big)
  generalize ctxV xs = t at *
  go_wp2_with fail
  refine (HT.out HO.out.rd).mono ?_
  rintro e w2 ⟨rfl, b2⟩
  have HD2 := Lib.hid (HD.out.call (HD.out.cur.below b2) (grown_below b2))
  clear HD HO HT b2
  go_wp2_with fail
  refine (one_any w.heap.size _ 4 _ HD2.out.cur (by omega) (by omega) (by omega)).mono ?_
  rintro e w3 ⟨b, rfl, hc3, hg3⟩
  have HD3 := Lib.hid (HD2.out.call hc3 hg3)
  clear hc3 hg3 HD2
  cases b
  · go_wp2
    refine bodyPost_ret (v := (.string t)) (by simp [results, Tryz.results20, go_sem, *]) rfl ?_
    exact ⟨t, rfl, by omega, new_dr HD3.out⟩
  · have h5 : (⟨#[61, 48, 46, 32, 97]⟩ : ByteArray).size = 5 := rfl
    go_wp2_with fail
    refine (spoilt_any w.heap.size _ t ⟨#[61, 48, 46, 32, 97]⟩ _ HD3.out.cur (by omega) (by omega) (by omega) (by omega)).mono ?_
    rintro e w4 ⟨x, hx, rfl, hc4, hg4⟩
    go_wp2
    refine bodyPost_ret (v := (.string x)) (by simp [results, Tryz.results20, go_sem, *]) rfl ?_
    exact ⟨x, rfl, by omega, new_dr (HD3.out.call hc4 hg4)⟩
end Go.Proofs.YtmochhgmhhopoaaGreatDoor
