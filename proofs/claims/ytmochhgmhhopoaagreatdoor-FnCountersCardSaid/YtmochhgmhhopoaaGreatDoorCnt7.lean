/- Counters dropped: the program's DropBelow (slices.DeleteFunc on a copy), the reference's, for all lists of at most 2^30 counters. Condition: names and texts of at most 2^20 bytes. -/
import Derived.Test.YtmochhgmhhopoaaGreatDoorCnt4
import Derived.Test.YtmochhgmhhopoaaGreatDoorClearK
import Derived.Lib.LazyBuf
namespace Go.Proofs.YtmochhgmhhopoaaGreatDoor
open Go.RowKit

def drB (xs : List Ct) (s : ByteArray) : Bool := ctB xs && preB s
def keepQ (p : ByteArray) (x : Ct) : Bool := !belB x.k p.toList
def drL (xs : List Ct) (s : ByteArray) : List Ct := if drB xs s = true then xs.filter (keepQ s) else []
theorem oneCt (xs : List Ct) : ∀ u ∈ xs.flatMap Ct.cells, u.oneCell' = true := by
  intro u hu
  obtain ⟨x, _, hx⟩ := List.mem_flatMap.1 hu
  simp at hx
  rcases hx with rfl | rfl <;> rfl
set_option maxHeartbeats 1000000 in
/-- A copy in new memory (nil stays nil). -/
theorem cloneCt (v : Value) (n : Nat) (cs : List Value) (w : World) (h : Rd w v 2 n cs) (hn : n ≤ 1073741824) (hone : ∀ u ∈ cs, u.oneCell' = true) :
    Calls Tryz.prog 29 #[v] w fun e w' => ∃ v', e = .returned v' ∧ w'.ownsRow w.heap.size 55 2 v' n cs ∧ Below w.heap.size w w' := by
  rcases h.source with ⟨rfl, rfl, rfl⟩ | ⟨a, cap, rfl, hcap, hcells⟩
  · have hnil := Go.run_eql_slice_nil (P := Tryz.prog) w 24 55 none 0 0 Tryz.underlying24
    go_enter Tryz.func29, Tryz.ntmps29
    go_wp2
    go_ret
    exact ⟨_, rfl, World.ownsRow_nil _ _ _ _, Below.refl _ _⟩
  · have hnil := Go.run_eql_slice_nil (P := Tryz.prog) w 24 55 (some a) n cap Tryz.underlying24
    have HC := Lib.hid (cells_kept (below_alloc1 w (.cells #[] 55)) hcells); clear hcells
    have hl := h.1
    have HL := Lib.hid hl; clear hl
    have hO := World.ownsRow_lit (e := 55) (size := 2) w #[] 0 (Nat.le_refl _) (Nat.zero_le _) rfl
    obtain ⟨i0, hi, hz0, hz1, hz2⟩ := info_parts infoCt
    go_enter Tryz.func29, Tryz.ntmps29
    go_wp2_with (at_builtin; refine wpList_append_own _ rfl _ _ 24 rfl w.heap.size 55 i0 (.agg #[.string ⟨#[]⟩, .int .i64 0]) 2 24 Tryz.underlying24 hi hz0 hz1 hz2 rfl (by decide) _ 0 [] rfl hO a n cap cs rfl HL.out HC.out hone ?c3 ?c4 ?c5 ?_)
    case c3 => unfold maxLen; omega
    case c4 => omega
    intro v' w1 hown' hgrow _
    go_wp2
    go_ret
    refine ⟨v', rfl, by simpa using hown', (below_alloc1 _ _).grown hgrow (by simp) (fun j hj => (hO.lt j hj).1)⟩
theorem flatCt_set (ys : List Ct) (k : Nat) (x : Ct) (h : k < ys.length) : ((ys.flatMap Ct.cells).set (k * 2) (.string x.nm)).set (k * 2 + 1) (.int .i64 x.vl) = (ys.set k x).flatMap Ct.cells := by
  induction ys generalizing k with
  | nil => simp at h
  | cons y ys ih =>
    cases k with
    | zero => simp
    | succ k =>
      rw [List.flatMap_cons, List.set_append, if_neg (by simp; omega), List.set_append, if_neg (by simp; omega), List.set_cons_succ, List.flatMap_cons]
      have := ih k (by simpa using h)
      rw [show (k + 1) * 2 - y.cells.length = k * 2 from by simp; omega, show (k + 1) * 2 + 1 - y.cells.length = k * 2 + 1 from by simp; omega, this]
theorem dropC_any (x : Ct) (p : ByteArray) (g : Nat) (w : World) (hg : w.cell? ⟨g, 0, none⟩ = some (.string p)) (hx : x.nm.size ≤ 1048576) (hp : p.size ≤ 1048576) :
    Calls Tryz.prog 38 #[x.v, .pointer (some ⟨g, 0, none⟩)] w fun e w' => e = .returned (.bool (belB x.k p.toList)) ∧ Below w.heap.size w w' := by
  obtain ⟨nm, vl⟩ := x
  have hg2 := cell_on (below_alloc1 w (.cells #[.string nm, .int .i64 vl] 55)) hg
  have H := Lib.hid (fun w => implBelow_any nm p w hx hp)
  go_enter Tryz.func38, Tryz.ntmps38
  go_wp2_with fail
  refine (H.out _).mono ?_
  rintro e w' ⟨rfl, rfl⟩
  go_wp2
  go_ret
  exact ⟨rfl, by go_grown⟩
set_option maxRecDepth 100000 in
theorem dropIdx_any (v : Value) (xs : List Ct) (p : ByteArray) (g : Nat) (w : World) (h : RdCt w v xs) (hg : w.cell? ⟨g, 0, none⟩ = some (.string p)) (hS : ∀ x ∈ xs, x.nm.size ≤ 1048576) (hp1 : p.size ≤ 1048576) :
    Calls Tryz.prog 61 #[v, .func (.func 38) #[] #[.pointer (some ⟨g, 0, none⟩)]] w fun e w' => (∃ k : Int, e = .returned (.int .i64 k) ∧ ((k = -1 ∧ ∀ j (h : j < xs.length), keepQ p xs[j] = true) ∨ ∃ i : Nat, k = i ∧ ∃ hi : i < xs.length, keepQ p xs[i] = false ∧ ∀ j (h : j < xs.length), j < i → keepQ p xs[j] = true)) ∧ Below w.heap.size w w' := by
  have hlen := h.2.1
  obtain ⟨p0, cap, b, off, rfl, hcap, hp, hcell⟩ := h.parts
  have HC := Lib.hid hcell; clear hcell
  have HP := Lib.hid hp; clear hp h
  have HG := Lib.hid hg; clear hg
  go_enter Tryz.func61, Tryz.ntmps61
  go_wp2
  go_loopw [8] (fun i wr => ∃ (k : Nat), k ≤ xs.length ∧ i = .int .i64 k ∧ Hid (Below w.heap.size w wr) ∧ Hid (∀ j (h : j < xs.length), j < k → keepQ p xs[j] = true))
    (fun i _ => xs.length - (intOf i).toNat)
  case atStart => exact ⟨0, Nat.zero_le _, rfl, Lib.hid (Below.refl _ _), Lib.hid fun j _ h => absurd h (by omega)⟩
  case round =>
    obtain ⟨k, hk, rfl, HB, HF⟩ := hrel
    by_cases hlt : k < xs.length
    · obtain rfl := HP.out (by omega)
      obtain ⟨c1, c2⟩ := HC.out k hlt
      have c1 := cell_on HB.out c1
      have c2 := cell_on HB.out c2
      have HT := Lib.hid (dropC_any ⟨xs[k].nm, xs[k].vl⟩ p g _ (cell_on HB.out HG.out) (hS _ (List.getElem_mem hlt)) hp1)
      rw [show belB (Ct.k ⟨xs[k].nm, xs[k].vl⟩) p.toList = belB xs[k].k p.toList from rfl] at HT
      cases hx : belB xs[k].k p.toList
      · rw [hx] at HT
        have HX : Hid (∀ j (h : j < xs.length), j < k + 1 → keepQ p xs[j] = true) := Lib.hid (fun j h hj => by
          by_cases he : j = k
          · subst he; rw [keepQ, hx]; rfl
          · exact HF.out j h (by omega))
        clear hx
        go_wp2_with fail
        refine HT.out.mono ?_
        rintro e w1 ⟨rfl, hb1⟩
        have HB1 := Lib.hid (HB.out.trans (hb1.mono HB.out.size)); clear hb1
        go_wp2
        go_roundw
        case rel => exact ⟨k + 1, by omega, by go_num, HB1, HX⟩
        case measure => simp [intOf]; omega
      · rw [hx] at HT
        have HX : Hid (keepQ p xs[k] = false) := Lib.hid (by rw [keepQ, hx]; rfl)
        clear hx
        go_wp2_with fail
        refine HT.out.mono ?_
        rintro e w1 ⟨rfl, hb1⟩
        have HB1 := Lib.hid (HB.out.trans (hb1.mono HB.out.size)); clear hb1
        go_wp2
        go_ret
        exact ⟨⟨k, rfl, .inr ⟨k, rfl, hlt, HX.out, HF.out⟩⟩, HB1.out⟩
    · go_wp2
      go_ret
      exact ⟨⟨-1, rfl, .inl ⟨rfl, fun j h => HF.out j h (by omega)⟩⟩, HB.out⟩
theorem drop_head {α : Type} {xs ys : List α} {c : Nat} (h : ys.drop c = xs.drop c) (hx : c < xs.length) (hy : c < ys.length) : ys[c] = xs[c] := by
  rw [List.drop_eq_getElem_cons hx, List.drop_eq_getElem_cons hy] at h
  exact (List.cons.inj h).1
theorem filter_all {α : Type} {q : α → Bool} {xs : List α} (h : ∀ j (h : j < xs.length), q xs[j] = true) : xs.filter q = xs :=
  List.filter_eq_self.2 fun x hx => by obtain ⟨j, hj, rfl⟩ := List.getElem_of_mem hx; exact h j hj
theorem filter_step {α : Type} {q : α → Bool} {xs : List α} {c : Nat} (h : c < xs.length) : (xs.take (c + 1)).filter q = (xs.take c).filter q ++ (if q xs[c] = true then [xs[c]] else []) := by
  rw [List.take_succ_eq_append_getElem h, List.filter_append]
  cases hq : q xs[c] <;> simp [hq]
/-- a slice of the call's own, its block taken apart -/
theorem own_open {w : World} {B n cap g : Nat} {e : TypeId} {sz : Nat} {cs : List Value} (h : w.ownsRow B e sz (.slice (some ⟨g, 0, none⟩) n cap) n cs) : ∃ cur : List Value, w.heap[g]? = some (.cells cur.toArray e (0, 0)) ∧ cur.length = cap * sz ∧ cur.take (n * sz) = cs ∧ cap ≤ maxLen ∧ B ≤ g ∧ n ≤ cap := by
  obtain ⟨hl, h⟩ := h
  rcases h with ⟨h, _⟩ | ⟨g', cap', cur, hv, hb, hh, hn, hm, hs, ht⟩
  · cases h
  · simp only [Value.slice.injEq, Option.some.injEq, Addr.mk.injEq, and_true, true_and] at hv
    obtain ⟨rfl, rfl⟩ := hv
    exact ⟨cur.toList, by rw [hh], by simpa using hs, ht, hm, hb, hn⟩
theorem own_close {w : World} {B n cap g : Nat} {e : TypeId} {sz : Nat} {cur cs : List Value} (h : w.heap[g]? = some (.cells cur.toArray e (0, 0))) (hl : cur.length = cap * sz) (ht : cur.take (n * sz) = cs) (hm : cap ≤ maxLen) (hB : B ≤ g) (hn : n ≤ cap) (hc : cs.length = n * sz) : w.ownsRow B e sz (.slice (some ⟨g, 0, none⟩) n cap) n cs :=
  ⟨hc, .inr ⟨g, cap, cur.toArray, rfl, hB, h, hn, hm, by simpa using hl, by simpa using ht⟩⟩
theorem zeroCt : ∀ w, (zeroValue 55).run Tryz.prog w = .ok (.agg #[.string ⟨#[]⟩, .int .i64 0]) w := Tryz.zeroValue55
set_option maxRecDepth 100000 in
set_option maxHeartbeats 4000000 in
theorem dropDel_any (v : Value) (xs : List Ct) (p : ByteArray) (gp B : Nat) (w : World) (hO : w.ownsRow B 55 2 v xs.length (xs.flatMap Ct.cells)) (hok : ∀ x ∈ xs, x.ok) (hlen : xs.length ≤ 1000) (hg : w.cell? ⟨gp, 0, none⟩ = some (.string p)) (hB : gp < B) (hBw : B ≤ w.heap.size) (hS : ∀ x ∈ xs, x.nm.size ≤ 1048576) (hp1 : p.size ≤ 1048576) :
    Calls Tryz.prog 37 #[v, .func (.func 38) #[] #[.pointer (some ⟨gp, 0, none⟩)]] w fun e w' => ∃ v', e = .returned v' ∧ w'.ownsRow B 55 2 v' (xs.filter (keepQ p)).length ((xs.filter (keepQ p)).flatMap Ct.cells) ∧ Below B w w' := by
  have HI := Lib.hid (dropIdx_any v xs p gp w ⟨rd_of_own hO, by omega, hok⟩ hg hS hp1)
  obtain ⟨q, cap, g, rfl, hcap, hq⟩ := own_shape hO
  have HO := Lib.hid hO; clear hO
  have HG := Lib.hid hg; clear hg
  go_enter Tryz.func37, Tryz.ntmps37
  go_wp2_with fail
  refine HI.out.mono ?_
  rintro e w1 ⟨⟨k, rfl, hk⟩, hb1⟩
  have HB1 := Lib.hid hb1
  have HO1 := Lib.hid (own_below HO.out hb1)
  have HG1 := Lib.hid (cell_on hb1 HG.out)
  clear hb1
  rcases hk with ⟨rfl, hall⟩ | ⟨i, rfl, hi, hbad, hpre⟩
  · have HE := Lib.hid (filter_all hall); clear hall
    go_wp2
    go_ret
    exact ⟨_, rfl, by rw [HE.out]; exact HO1.out, HB1.out.mono hBw⟩
  · obtain ⟨rfl, hge⟩ := hq (by omega)
    have hst : (xs.take i) = (xs.take (i + 1)).filter (keepQ p) := by
      rw [filter_step hi, hbad, if_neg Bool.false_ne_true, List.append_nil]
      symm
      exact List.filter_eq_self.2 fun x hx => by
        obtain ⟨j, hj, rfl⟩ := List.getElem_of_mem hx
        rw [List.length_take] at hj
        rw [List.getElem_take]
        exact hpre j (by omega) (by omega)
    have HST := Lib.hid hst; clear hst hpre hbad
    have him1 : ((i : Int) == -1) = false := by rw [beq_eq_false_iff_ne]; omega
    go_wp2
    go_loopw [5, 6] (fun a c wr => ∃ (m n : Nat) (ys : List Ct), m < n ∧ n ≤ xs.length ∧ a = .int .i64 m ∧ c = .int .i64 n ∧ Hid (ys.length = xs.length ∧ ys.take m = (xs.take n).filter (keepQ p) ∧ ys.drop n = xs.drop n) ∧ Hid (wr.ownsRow B 55 2 (.slice (some ⟨g, 0, none⟩) xs.length cap) xs.length (ys.flatMap Ct.cells)) ∧ Hid (w.grownBy wr (some g)))
      (fun _ c _ => xs.length - (intOf c).toNat)
    case atStart => exact ⟨i, i + 1, xs, by omega, by omega, rfl, by go_num, Lib.hid ⟨rfl, HST.out, rfl⟩, HO1, Lib.hid (grown_of_below HB1.out)⟩
    case round =>
      clear HO1 HB1 HG1 HI
      obtain ⟨m, n, ys, hmn, hn, rfl, rfl, HY, HOY, HGr⟩ := hrel
      have hyl := HY.out.1
      by_cases hlt : n < xs.length
      · have hyn : ys[n] = xs[n] := drop_head HY.out.2.2 hlt (by omega)
        have c1 : wr.cell? ⟨g, n * 2, none⟩ = some (.string xs[n].nm) := by
          rw [HOY.out.cellAt (n * 2) (by omega), ← hyn]
          exact flat_get Ct.cells 2 Ct.cells_length ys n 0 (by omega) (by omega)
        have c2 : wr.cell? ⟨g, n * 2 + 1, none⟩ = some (.int .i64 xs[n].vl) := by
          rw [HOY.out.cellAt (n * 2 + 1) (by omega), ← hyn]
          exact flat_get Ct.cells 2 Ct.cells_length ys n 1 (by omega) (by omega)
        have hgp : wr.cell? ⟨gp, 0, none⟩ = some (.string p) := HGr.out.cell HG.out (by intro e; have := Option.some.inj e; simp at this; omega)
        have hFS := filter_step (q := keepQ p) hlt
        have HDR : Hid (ys.drop (n + 1) = xs.drop (n + 1)) := Lib.hid (by
          have := congrArg (List.drop 1) HY.out.2.2
          rwa [List.drop_drop, List.drop_drop] at this)
        have HT := Lib.hid (dropC_any ⟨xs[n].nm, xs[n].vl⟩ p gp _ (cell_on (below_alloc1 wr (.cells #[.string xs[n].nm, .int .i64 xs[n].vl] 55)) hgp) (hS _ (List.getElem_mem hlt)) hp1)
        rw [show belB (Ct.k ⟨xs[n].nm, xs[n].vl⟩) p.toList = belB xs[n].k p.toList from rfl] at HT
        clear hyn hgp
        cases hx : belB xs[n].k p.toList
        · rw [hx] at HT
          rw [show keepQ p xs[n] = true from by rw [keepQ, hx]; rfl, if_pos rfl] at hFS
          have HFS := Lib.hid hFS; clear hFS hx
          have hml : m < ys.length := by omega
          have hlc : (ys.flatMap Ct.cells).length = ys.length * 2 := flat_length Ct.cells 2 Ct.cells_length ys
          generalize hX : xs[n] = x at *
          obtain ⟨xn, xv⟩ := x
          simp only at c1 c2
          go_wp2_with fail
          refine HT.out.mono ?_
          rintro e w2 ⟨rfl, hb2⟩
          have hbb : Below wr.heap.size wr w2 := Below.trans (by go_grown) (hb2.mono (by simp))
          have hO2 := own_below HOY.out hbb
          have e0 : w2.cell? ⟨wr.heap.size, 0, none⟩ = some (.string xn) := cell_on hb2 (box_cell wr #[.string xn, .int .i64 xv] 55 0 _ rfl)
          have e1 : w2.cell? ⟨wr.heap.size, 1, none⟩ = some (.int .i64 xv) := cell_on hb2 (box_cell wr #[.string xn, .int .i64 xv] 55 1 _ rfl)
          obtain ⟨u0, d0⟩ := own_has hO2 (m * 2) (by omega)
          obtain ⟨u1, d1⟩ := own_has hO2 (m * 2 + 1) (by omega)
          have f0 := hO2.frozenAt (m * 2)
          have f1 := hO2.frozenAt (m * 2 + 1)
          have hs0 := hO2.stored (m * 2) (.string xn)
          have hs1 := hs0.1.stored (m * 2 + 1) (.int .i64 xv)
          have HS0 := Lib.hid hs0.2
          have HS1 := Lib.hid hs1
          clear hs0 hs1 hO2 hb2
          have HBB := Lib.hid hbb; clear hbb
          go_wp2
          go_roundw
          case rel =>
            refine ⟨m + 1, n + 1, ys.set m ⟨xn, xv⟩, by omega, by omega, by go_num, by go_num, Lib.hid ⟨by simpa using hyl, ?_, ?_⟩, Lib.hid ?_, Lib.hid (grown_trans (grown_trans (grown_trans HGr.out (grown_of_below HBB.out)) HS0.out) HS1.out.2)⟩
            · rw [take_set_succ ys m _ hml, HY.out.2.1, HFS.out]
            · rw [List.drop_set_of_lt (by omega), HDR.out]
            · rw [← flatCt_set ys m ⟨xn, xv⟩ hml]; exact HS1.out.1
          case measure => simp [intOf]; omega
        · rw [hx] at HT
          rw [show keepQ p xs[n] = false from by rw [keepQ, hx]; rfl, if_neg Bool.false_ne_true, List.append_nil] at hFS
          have HFS := Lib.hid hFS; clear hFS hx
          go_wp2_with fail
          refine HT.out.mono ?_
          rintro e w2 ⟨rfl, hb2⟩
          have hbb : Below wr.heap.size wr w2 := Below.trans (by go_grown) (hb2.mono (by simp))
          have HO2 := Lib.hid (own_below HOY.out hbb)
          have HBB := Lib.hid hbb; clear hbb hb2
          go_wp2
          go_roundw
          case rel => exact ⟨m, n + 1, ys, by omega, by omega, rfl, by go_num, Lib.hid ⟨hyl, by rw [HFS.out]; exact HY.out.2.1, HDR.out⟩, HO2, Lib.hid (grown_trans HGr.out (grown_of_below HBB.out))⟩
          case measure => simp [intOf]; omega
      · obtain rfl : n = xs.length := by omega
        have HFin : Hid (ys.take m = xs.filter (keepQ p)) := Lib.hid (by rw [HY.out.2.1, List.take_length])
        have hFl : m = (xs.filter (keepQ p)).length := by
          rw [← HFin.out, List.length_take]; omega
        obtain ⟨cur, hc1, hc2, hc3, hc4, hc5, hc6⟩ := own_open HOY.out
        have HC1 := Lib.hid hc1; clear hc1
        obtain ⟨zs, hzs⟩ : ∃ zs, zs = (Builtin.zeroCells (Value.agg #[.string ⟨#[]⟩, .int .i64 0]).cells (xs.length - m)).toList := ⟨_, rfl⟩
        have hzl : zs.length = (xs.length - m) * 2 := by rw [hzs, zero_length]; rfl
        have hz1 : ∀ v ∈ zs, v.oneCell' = true := by rw [hzs]; exact zero_one _ _ (by decide)
        have HZ1 := Lib.hid hz1; clear hz1
        have HZS := Lib.hid hzs; clear hzs
        have hfit : m * 2 + zs.length ≤ cur.length := by omega
        have hx0 : xs.length - m = 0 → zs = [] := fun h => by omega
        have HTK : Hid ((splice cur (m * 2) zs).take (m * 2) = (xs.filter (keepQ p)).flatMap Ct.cells ∧ (splice cur (m * 2) zs).length = cap * 2) := Lib.hid (by
          refine ⟨?_, by rw [length_splice _ _ _ hfit, hc2]⟩
          rw [splice, List.take_append_of_le_length (by rw [List.length_take]; omega), List.take_of_length_le (by rw [List.length_take]; omega)]
          have h1 : cur.take (m * 2) = (cur.take (xs.length * 2)).take (m * 2) := by rw [List.take_take, Nat.min_eq_left (by omega)]
          have h2 : (ys.flatMap Ct.cells).take (m * 2) = (ys.take m).flatMap Ct.cells := by
            conv => lhs; rw [← List.take_append_drop m ys, List.flatMap_append]
            rw [List.take_append_of_le_length (by rw [flat_length Ct.cells 2 Ct.cells_length, List.length_take]; omega), List.take_of_length_le (by rw [flat_length Ct.cells 2 Ct.cells_length, List.length_take]; omega)]
          rw [h1, hc3, h2, HFin.out])
        have HFl := Lib.hid hFl; clear hFl
        have HBf : Hid (Below B w wr) := Lib.hid ((Below.refl B w).grown HGr.out hBw (fun k hk => by have := Option.some.inj hk; omega))
        go_wp2_with (with_reducible refine wpList_clearK (o := ⟨none, _, _, _, _, _⟩) rfl (.tmp 38) 24 rfl 55 (.agg #[.string ⟨#[]⟩, .int .i64 0]) (xs.length - m) Tryz.underlying24 zeroCt (some ⟨g, m * 2, none⟩) (cap - m) ?hd g (m * 2) cur 55 HC1.out zs HZS.out ?hpos hx0 hfit HZ1.out B w HBf.out hge ?_)
        case hd => rfl
        intro w2 hg2 hb2
        go_wp2
        go_ret
        have e1 := HTK.out
        have e2 := HFl.out
        refine ⟨.slice (some ⟨g, 0, none⟩) m cap, rfl, ?_, hb2⟩
        rw [← e2]
        exact own_close hg2.out e1.2 e1.1 hc4 hge (by omega) (by rw [flat_length Ct.cells 2 Ct.cells_length, ← e2])
set_option maxRecDepth 100000 in
set_option maxHeartbeats 4000000 in
theorem implDrop_any (v : Value) (xs : List Ct) (s : ByteArray) (w : World) (h : RdCt w v xs) (hS : ∀ x ∈ xs, x.nm.size ≤ 1048576) (hs : s.size ≤ 1048576) :
    Calls Tryz.prog 13 #[v, .string s] w fun e w' => ∃ u, e = .returned (.tuple #[u, .bool (drB xs s)]) ∧ OwCt w.heap.size w' u (drL xs s) ∧ Below w.heap.size w w' := by
  have HT := Lib.hid (fun w h => implIs_any v xs w h hS)
  have HN := Lib.hid (fun w => implPre_any s w hs)
  have HR := Lib.hid (h.below (below_alloc1 w (.cells #[.string s] 9)))
  have hlen := h.2.1
  have hok := h.2.2
  have HFok : Hid (∀ x ∈ xs.filter (keepQ s), x.ok) := Lib.hid (fun x hx => hok x (List.mem_filter.1 hx).1)
  obtain ⟨p, cap, b, off, rfl, hcap, _, _⟩ := h.parts
  clear h
  have hno : drB xs s = false → Hid (drL xs s = [] ∧ drB xs s = false) := fun h => Lib.hid ⟨by rw [drL, h]; rfl, h⟩
  have e0 : (w.alloc (.cells #[.string s] 9)).cell? ⟨w.heap.size, 0, none⟩ = some (.string s) := box_cell w #[.string s] 9 0 _ rfl
  have E0 := Lib.hid e0; clear e0
  cases hB : ctB xs
  · have HV := hno (by rw [drB, hB]; rfl); clear hno
    rw [hB] at HT
    go_enter Tryz.func13, Tryz.ntmps13
    go_wp2_with fail
    refine (HT.out _ HR.out).mono ?_
    rintro e w1 ⟨rfl, hb⟩
    have HB := Lib.hid (Below.trans (by go_grown) (hb.mono (by simp)) : Below w.heap.size w w1); clear hb
    go_wp2
    refine bodyPost_ret (v := (.tuple #[.slice none 0 0, .bool false])) (by simp [results, Tryz.results13, go_sem, *]) rfl ?_
    exact ⟨_, by rw [HV.out.2], by rw [HV.out.1]; exact ⟨⟨rfl, .inl ⟨rfl, rfl⟩⟩, by simp, by simp⟩, HB.out⟩
  · cases hI : preB s
    · have HV := hno (by rw [drB, hI, Bool.and_false]); clear hno
      rw [hB] at HT
      rw [hI] at HN
      clear hB hI
      go_enter Tryz.func13, Tryz.ntmps13
      go_wp2_with fail
      refine (HT.out _ HR.out).mono ?_
      rintro e w1 ⟨rfl, hb⟩
      have e1 := cell_on hb E0.out
      have HB := Lib.hid (Below.trans (by go_grown) (hb.mono (by simp)) : Below w.heap.size w w1); clear hb
      go_wp2_with fail
      refine (HN.out _).mono ?_
      rintro e w2 ⟨rfl, hb2⟩
      have HB2 := Lib.hid (HB.out.trans (hb2.mono HB.out.size)); clear hb2
      go_wp2
      refine bodyPost_ret (v := (.tuple #[.slice none 0 0, .bool false])) (by simp [results, Tryz.results13, go_sem, *]) rfl ?_
      exact ⟨_, by rw [HV.out.2], by rw [HV.out.1]; exact ⟨⟨rfl, .inl ⟨rfl, rfl⟩⟩, by simp, by simp⟩, HB2.out⟩
    · have hbb : drB xs s = true := by rw [drB, hB, hI]; rfl
      have HV : Hid (drL xs s = xs.filter (keepQ s) ∧ drB xs s = true) := Lib.hid ⟨by rw [drL, if_pos hbb], hbb⟩
      have h12 := (ctB_true hB).1
      have hfl := List.length_filter_le (keepQ s) xs
      rw [hB] at HT
      rw [hI] at HN
      clear hB hI hbb hno
      go_enter Tryz.func13, Tryz.ntmps13
      go_wp2_with fail
      refine (HT.out _ HR.out).mono ?_
      rintro e w1 ⟨rfl, hb⟩
      have e1 := cell_on hb E0.out
      have HR1 := Lib.hid (HR.out.below hb)
      have hz1 : w.heap.size < w1.heap.size := by have := hb.size; simp at this; omega
      have HB := Lib.hid (Below.trans (by go_grown) (hb.mono (by simp)) : Below w.heap.size w w1); clear hb
      go_wp2_with fail
      refine (HN.out _).mono ?_
      rintro e w2 ⟨rfl, hb2⟩
      have e2 := cell_on hb2 e1
      have HR2 := Lib.hid (HR1.out.below hb2)
      have hz2 := hb2.size
      have HB2 := Lib.hid (HB.out.trans (hb2.mono HB.out.size)); clear hb2 e1
      go_wp2_with fail
      refine (cloneCt _ xs.length _ _ HR2.out.1 (by omega) (oneCt xs)).mono ?_
      rintro e w3 ⟨u, rfl, hou, hb3⟩
      have HO := Lib.hid hou; clear hou
      have E3 := Lib.hid (cell_on hb3 e2)
      have hz3 := hb3.size
      have HB3 := Lib.hid (HB2.out.trans (hb3.mono HB2.out.size)); clear hb3 e2
      go_wp2_with fail
      refine (dropDel_any u xs s w.heap.size w2.heap.size w3 HO.out hok (by omega) E3.out (by omega) hz3 hS hs).mono ?_
      rintro e w4 ⟨u2, rfl, ho2, hb4⟩
      have HO2 := Lib.hid (own_base ho2 (show w.heap.size ≤ w2.heap.size by omega)); clear ho2
      have HB4 : Hid (Below w.heap.size w w4) := Lib.hid (HB3.out.trans (hb4.mono (by omega))); clear hb4
      go_wp2
      refine bodyPost_ret (v := (.tuple #[u2, .bool true])) (by simp [results, Tryz.results13, go_sem, *]) rfl ?_
      exact ⟨_, by rw [HV.out.2], by rw [HV.out.1]; exact ⟨HO2.out, by omega, HFok.out⟩, HB4.out⟩
set_option maxRecDepth 100000 in
set_option maxHeartbeats 4000000 in
theorem specDrop_any (v : Value) (xs : List Ct) (s : ByteArray) (w : World) (h : RdCt w v xs) (hS : ∀ x ∈ xs, x.nm.size ≤ 1048576) (hs : s.size ≤ 1048576) :
    Calls Tryz.prog 14 #[v, .string s] w fun e w' => ∃ u, e = .returned (.tuple #[u, .bool (drB xs s)]) ∧ OwCt w.heap.size w' u (drL xs s) ∧ Below w.heap.size w w' := by
  have HT := Lib.hid (fun w h => l18Good_any v xs w h hS)
  have HN := Lib.hid (fun w => specPre_any s w hs)
  have HR := Lib.hid (h.below (below_alloc1 w (.cells #[] 55)))
  have hlen := h.2.1
  have hok := h.2.2
  have HFok : Hid (∀ x ∈ xs.filter (keepQ s), x.ok) := Lib.hid (fun x hx => hok x (List.mem_filter.1 hx).1)
  obtain ⟨i0, hi, hz0, hz1, hz2⟩ := info_parts infoCt
  obtain ⟨p, cap, b, off, rfl, hcap, hp, hcell⟩ := h.parts
  have HC := Lib.hid hcell; clear hcell
  have HP := Lib.hid hp; clear hp h
  have hno : drB xs s = false → Hid (drL xs s = [] ∧ drB xs s = false) := fun h => Lib.hid ⟨by rw [drL, h]; rfl, h⟩
  have HE0 : Hid (OwCt w.heap.size (w.alloc (.cells #[] 55)) (.slice (some ⟨w.heap.size, 0, none⟩) 0 0) []) := Lib.hid ⟨World.ownsRow_lit w #[] 0 (Nat.le_refl _) (Nat.zero_le _) rfl, by simp, by simp⟩
  cases hB : ctB xs
  · have HV := hno (by rw [drB, hB]; rfl); clear hno
    rw [hB] at HT
    go_enter Tryz.func14, Tryz.ntmps14
    go_wp2_with fail
    refine (HT.out _ HR.out).mono ?_
    rintro e w1 ⟨rfl, hb⟩
    have HE1 := Lib.hid (HE0.out.below hb)
    have HB := Lib.hid (Below.trans (by go_grown) (hb.mono (by simp)) : Below w.heap.size w w1); clear hb
    go_wp2
    refine bodyPost_ret (v := (.tuple #[.slice (some ⟨w.heap.size, 0, none⟩) 0 0, .bool false])) (by simp [results, Tryz.results14, go_sem, *]) rfl ?_
    exact ⟨_, by rw [HV.out.2], by rw [HV.out.1]; exact HE1.out, HB.out⟩
  · cases hI : preB s
    · have HV := hno (by rw [drB, hI, Bool.and_false]); clear hno
      rw [hB] at HT
      rw [hI] at HN
      clear hB hI
      go_enter Tryz.func14, Tryz.ntmps14
      go_wp2_with fail
      refine (HT.out _ HR.out).mono ?_
      rintro e w1 ⟨rfl, hb⟩
      have HE1 := Lib.hid (HE0.out.below hb)
      have HB := Lib.hid (Below.trans (by go_grown) (hb.mono (by simp)) : Below w.heap.size w w1); clear hb
      go_wp2_with fail
      refine (HN.out _).mono ?_
      rintro e w2 ⟨rfl, hb2⟩
      have HE2 := Lib.hid (HE1.out.below hb2)
      have HB2 := Lib.hid (HB.out.trans (hb2.mono HB.out.size)); clear hb2
      go_wp2
      refine bodyPost_ret (v := (.tuple #[.slice (some ⟨w.heap.size, 0, none⟩) 0 0, .bool false])) (by simp [results, Tryz.results14, go_sem, *]) rfl ?_
      exact ⟨_, by rw [HV.out.2], by rw [HV.out.1]; exact HE2.out, HB2.out⟩
    · have hbb : drB xs s = true := by rw [drB, hB, hI]; rfl
      have HV : Hid (drL xs s = xs.filter (keepQ s) ∧ drB xs s = true) := Lib.hid ⟨by rw [drL, if_pos hbb], hbb⟩
      have h12 := (ctB_true hB).1
      rw [hB] at HT
      rw [hI] at HN
      clear hB hI hbb hno
      go_enter Tryz.func14, Tryz.ntmps14
      go_wp2_with fail
      refine (HT.out _ HR.out).mono ?_
      rintro e w1 ⟨rfl, hb⟩
      have HE1 := Lib.hid (HE0.out.below hb)
      have HB := Lib.hid (Below.trans (by go_grown) (hb.mono (by simp)) : Below w.heap.size w w1); clear hb
      go_wp2_with fail
      refine (HN.out _).mono ?_
      rintro e w2 ⟨rfl, hb2⟩
      have HE2 := Lib.hid (HE1.out.below hb2)
      have HB2 := Lib.hid (HB.out.trans (hb2.mono HB.out.size)); clear hb2
      go_wp2
      go_loopw [6, 7] (fun v i wr => ∃ n : Nat, n ≤ xs.length ∧ i = .int .i64 n ∧ Hid (wr.ownsRow w.heap.size 55 2 v ((xs.take n).filter (keepQ s)).length (((xs.take n).filter (keepQ s)).flatMap Ct.cells)) ∧ Hid (Below w.heap.size w wr)) (fun _ i _ => xs.length - (intOf i).toNat)
      case atStart => exact ⟨0, Nat.zero_le _, rfl, Lib.hid HE2.out.1, HB2⟩
      case round =>
        clear HB HE1 HB2 HE2
        obtain ⟨n, hn, rfl, HO, HB⟩ := hrel
        by_cases hlt : n < xs.length
        · obtain rfl := HP.out (by omega)
          obtain ⟨c1, c2⟩ := HC.out n hlt
          have c1 := cell_on HB.out c1
          have c2 := cell_on HB.out c2
          have hsz := HB.out.size
          have hfs := filter_step (q := keepQ s) hlt
          have hfl : ((xs.take n).filter (keepQ s)).length ≤ n := Nat.le_trans (List.length_filter_le _ _) (by rw [List.length_take]; omega)
          have HBel := Lib.hid (fun w => specBelow_any xs[n].nm s w (hS _ (List.getElem_mem _)) hs)
          rw [show belB xs[n].nm.toList s.toList = belB xs[n].k s.toList from rfl] at HBel
          generalize (xs.take n).filter (keepQ s) = L at *
          cases hx : belB xs[n].k s.toList
          · rw [hx] at HBel
            rw [show keepQ s xs[n] = true from by rw [keepQ, hx]; rfl, if_pos rfl] at hfs
            have HFS := Lib.hid hfs; clear hfs hx
            generalize xs[n] = x at *
            obtain ⟨xn, xv⟩ := x
            simp only at c1 c2
            go_wp2_with fail
            refine (HBel.out _).mono ?_
            rintro e w' ⟨rfl, rfl⟩
            go_wp2_with (first | (at_builtin; go_loud (refine wpList_append_own _ rfl _ _ 24 rfl (w.heap.size) 55 i0 (.agg #[.string ⟨#[]⟩, .int .i64 0]) 2 24 Tryz.underlying24 hi hz0 hz1 hz2 rfl (by decide) _ _ _ rfl (HO.out.alloc _) ⟨_, 0, none⟩ 1 1 [.string xn, .int .i64 xv] rfl rfl ?c1 ?c2 ?c3 ?c4 ?c5 ?_)))
            try (case c1 => first | exact cells_new _ #[.string xn, .int .i64 xv] _ | exact cells_at _ #[.string xn, .int .i64 xv] _ (by simp) | rfl)
            try (case c2 => first | rfl | exact ⟨rfl, rfl, rfl⟩ | exact ⟨rfl, rfl⟩ | (intro u hu; simp at hu; rcases hu with rfl | rfl | rfl | rfl <;> rfl) | (intro u hu; simp at hu; rcases hu with rfl | rfl | rfl <;> rfl) | (intro u hu; simp at hu; rcases hu with rfl | rfl <;> rfl) | (intro u hu; simp at hu; subst hu; rfl))
            try (case c3 => first | omega | (unfold maxLen; omega))
            try (case c4 => first | omega | ((try simp only [World.heap_size_alloc]); omega))
            try (case c5 => first | omega | (simp; omega))
            intro v' w2 hown' hgrow
            try intro _
            go_wp2
            go_roundw
            case rel => exact ⟨n + 1, by omega, by go_num, Lib.hid (by rw [HFS.out]; simpa using hown'), Lib.hid (Below.grown (Below.trans HB.out (by go_grown)) hgrow (by simp; omega) (fun j hj => (HO.out.lt j hj).1))⟩
            case measure => simp [intOf]; omega
          · rw [hx] at HBel
            rw [show keepQ s xs[n] = false from by rw [keepQ, hx]; rfl, if_neg Bool.false_ne_true, List.append_nil] at hfs
            have HFS := Lib.hid hfs; clear hfs hx
            go_wp2_with fail
            refine (HBel.out _).mono ?_
            rintro e w' ⟨rfl, rfl⟩
            go_wp2
            go_roundw
            case rel => exact ⟨n + 1, by omega, by go_num, Lib.hid (by rw [HFS.out]; exact HO.out), HB⟩
            case measure => simp [intOf]; omega
        · obtain rfl : n = xs.length := by omega
          have HTk : Hid (xs.take xs.length = xs) := Lib.hid List.take_length
          have hfl := List.length_filter_le (keepQ s) xs
          go_wp2
          refine bodyPost_ret (v := (.tuple #[u6, .bool true])) (by simp [results, Tryz.results14, go_sem, *]) rfl ?_
          have e1 := HO.out
          rw [HTk.out] at e1
          exact ⟨_, by rw [HV.out.2], by rw [HV.out.1]; exact ⟨e1, by omega, HFok.out⟩, HB.out⟩
end Go.Proofs.YtmochhgmhhopoaaGreatDoor
