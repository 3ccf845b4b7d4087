/- slices.Insert of one counter into a slice of the call's own, at any place: it holds what stood ahead, the counter, what stood behind. Condition: at most 1000 counters. -/
import Derived.Test.YtmochhgmhhopoaaGreatDoorCnt7
import Derived.Test.YtmochhgmhhopoaaGreatDoorInsMath
import Derived.Lib.Overlaps
import Derived.Lib.AppendZerosOnto
import Derived.Laws.Externs
import Derived.Deep.AppendLies
namespace Go.Proofs.YtmochhgmhhopoaaGreatDoor
open Go.RowKit

theorem shape_at {w : World} {g : Nat} {cs : Array Value} {t : TypeId} {fr : Nat × Nat} (h : w.heap[g]? = some (.cells cs t fr)) : w.shape? g = some (t, cs.size) := by
  simp [World.shape?, h]
theorem frozen_at {w : World} {g i : Nat} {cs : Array Value} {t : TypeId} (h : w.heap[g]? = some (.cells cs t (0, 0))) : w.frozen? ⟨g, i, none⟩ = false := by
  simp [World.frozen?, h]
/-- what a call of slices.Insert is asked -/
def InsQ (B n : Nat) (xs : List Ct) (i : Nat) (x : Ct) (e : Ending) (w w' : World) : Prop :=
  ∃ v', e = .returned v' ∧ w'.ownsRow B 55 2 v' (n + 1) ((xs.take i ++ x :: xs.drop i).flatMap Ct.cells) ∧ Below B w w'
set_option maxRecDepth 100000 in
set_option maxHeartbeats 2000000 in
theorem insEnd_any (v : Value) (xs : List Ct) (x : Ct) (vb B : Nat) (w : World) (hO : w.ownsRow B 55 2 v xs.length (xs.flatMap Ct.cells)) (hlen : xs.length ≤ 1000) (hv : w.heap[vb]? = some x.o) (hBw : B ≤ w.heap.size) :
    Calls Tryz.prog 57 #[v, .int .i64 xs.length, .slice (some ⟨vb, 0, none⟩) 1 1] w fun e w' => InsQ B xs.length xs xs.length x e w w' := by
  obtain ⟨q, cap, g, rfl, hcap, hq⟩ := own_shape hO
  have hov := Lib.hid hO; clear hO
  obtain ⟨i0, hi, hz0, hz1, hz2⟩ := info_parts infoCt
  have HS := Lib.hid (World.news_of_block hv)
  obtain ⟨nm, vl⟩ := x
  by_cases hce : cap = xs.length
  · subst hce
    go_enter Tryz.func57, Tryz.ntmps57
    go_wp2_with (first | (at_builtin; go_loud (refine wpList_append_own _ rfl _ _ 24 rfl B 55 i0 (.agg #[.string ⟨#[]⟩, .int .i64 0]) 2 24 Tryz.underlying24 hi hz0 hz1 hz2 rfl (by decide) _ _ _ rfl hov.out ⟨vb, 0, none⟩ 1 1 [.string nm, .int .i64 vl] rfl rfl ?c1 ?c2 ?c3 ?c4 ?c5 ?_)))
    case c1 => (intro j u hu; have h := HS.out j u hu; rw [add_at, Nat.zero_add] at h; first | exact h | simpa using h)
    try (case c2 => first | exact ⟨rfl, rfl⟩ | (intro u hu; simp at hu; rcases hu with rfl | rfl <;> rfl))
    try (case c3 => first | omega | (unfold maxLen; omega))
    try (case c4 => omega)
    try (case c5 => exact hBw)
    intro v' w2 hown' hgrow
    try intro _
    go_wp2
    go_ret
    refine ⟨v', rfl, ?_, (Below.refl B w).grown hgrow hBw (fun j hj => (hov.out.lt j hj).1)⟩
    rw [List.take_length, List.drop_length, List.flatMap_append]
    exact hown'
  · skip
    go_enter Tryz.func57, Tryz.ntmps57
    go_wp2_with (first | (at_builtin; go_loud (refine wpList_append_own _ rfl _ _ 24 rfl B 55 i0 (.agg #[.string ⟨#[]⟩, .int .i64 0]) 2 24 Tryz.underlying24 hi hz0 hz1 hz2 rfl (by decide) _ _ _ rfl hov.out ⟨vb, 0, none⟩ 1 1 [.string nm, .int .i64 vl] rfl rfl ?e1 ?e2 ?e3 ?e4 ?e5 ?_)))
    case e1 => (intro j u hu; have h := HS.out j u hu; rw [add_at, Nat.zero_add] at h; first | exact h | simpa using h)
    try (case e2 => first | exact ⟨rfl, rfl⟩ | (intro u hu; simp at hu; rcases hu with rfl | rfl <;> rfl))
    try (case e3 => first | omega | (unfold maxLen; omega))
    try (case e4 => omega)
    try (case e5 => exact hBw)
    intro v' w2 hown' hgrow
    try intro _
    go_wp2
    go_ret
    refine ⟨v', rfl, ?_, (Below.refl B w).grown hgrow hBw (fun j hj => (hov.out.lt j hj).1)⟩
    rw [List.take_length, List.drop_length, List.flatMap_append]
    exact hown'
theorem ovl_run (w : World) (vb g : Nat) (o lb cb : Nat) (x : Ct) (hv : w.heap[vb]? = some x.o) {cur : List Value} (hg : w.heap[g]? = some (.cells cur.toArray 55 (0, 0))) (hne : vb ≠ g) (hc : cur.length ≠ 0) :
    (callFunc 81 #[.slice (some ⟨vb, 0, none⟩) 1 1, .slice (some ⟨g, o, none⟩) lb cb]).run Tryz.prog w = .ok (.value (.bool false)) w := by
  rw [run_callFunc_extern Tryz.func81 (by kernel_rfl) (by kernel_rfl) (by kernel_rfl) (e := Extern.SlicesOverlaps.overlaps #[24, 24] #[4]) (by kernel_rfl),
    Lib.run_overlaps_apart w 24 4 55 Tryz.underlying24 2 Tryz.sizeOf55 ⟨vb, 0, none⟩ ⟨g, o, none⟩ 1 1 lb cb hne 55 55 2 cur.length (shape_at hv) (by rw [shape_at hg]; simp) hc (frozen_at hv) (frozen_at hv)]
  rfl
theorem growCt (w : World) (g i n : Nat) (cur : List Value) (hc1 : w.heap[g]? = some (.cells cur.toArray 55 (0, 0))) (hi : i < n) (hlen : n ≤ 1000) (hl : cur.length = n * 2) :
    ∃ (cur2 : List Value) (G : Nat) (W1 : World), (Builtin.append_ #[24, 3] 24 #[.slice (some ⟨g, 0, none⟩) i n, .int .i64 ((n : Int) + 1 - i)]).run Tryz.prog w = .ok (.slice (some ⟨w.heap.size, 0, none⟩) (n + 1) G) W1 ∧
      n + 1 ≤ G ∧ G ≤ maxLen ∧ W1.heap[w.heap.size]? = some (.cells cur2.toArray 55 (0, 0)) ∧ cur2.length = G * 2 ∧ cur2.take (i * 2) = cur.take (i * 2) ∧ Below w.heap.size w W1 := by
  obtain ⟨i0, hi0, hz0, hz1, hz2⟩ := info_parts infoCt
  have holds : (Builtin.firstCells i0.size i (.slice (some ⟨g, 0, none⟩) i n)).run Tryz.prog w.drew = .ok (cur.take (i * 2)).toArray w.drew := by
    have h1 := run_loadCells_list (P := Tryz.prog) w.drew ⟨g, 0, none⟩ (cur.take (i * 2)) (fun j v hj => by
      rw [add_at, Nat.zero_add, cell_of_row w.drew g j cur.toArray 55 (0, 0) hc1]
      rw [List.getElem?_take] at hj
      split at hj
      · simpa using hj
      · cases hj)
    rw [List.length_take, Nat.min_eq_left (by omega)] at h1
    simp only [Builtin.firstCells, hz1]
    exact h1
  have hrun := Lib.run_append_grow_zeros (P := Tryz.prog) w 24 3 24 55 i0 (.agg #[.string ⟨#[]⟩, .int .i64 0]) .i64 .i64 Tryz.underlying24 Tryz.underlying3 hi0 hz0 (some ⟨g, 0, none⟩) i n (cur.take (i * 2)) holds (n + 1 - i) (by omega) (by omega) (by omega) (by omega) (by rw [hz2]; omega) (growslice_fits (by omega) (by rw [hz2]; omega))
  rw [show i + (n + 1 - i) = n + 1 by omega, show ((n + 1 - i : Nat) : Int) = (n : Int) + 1 - i by omega] at hrun
  have hG1 := grownCap_ge w (n + 1) n 55
  have hG2 := grownCap_le_maxLen w (n + 1) n 55 (by unfold maxLen; omega)
  have l1 : ∀ k, (Builtin.zeroCells (Value.agg #[.string ⟨#[]⟩, .int .i64 0]).cells k).toList.length = k * 2 := fun k => by rw [zero_length]; rfl
  refine ⟨((cur.take (i * 2)).toArray ++ Builtin.zeroCells (Value.agg #[.string ⟨#[]⟩, .int .i64 0]).cells (n + 1 - i) ++ Builtin.zeroCells (Value.agg #[.string ⟨#[]⟩, .int .i64 0]).cells (grownCap w (n + 1) n 55 - (n + 1))).toList, _, _, hrun, hG1, hG2, ?_, ?_, ?_, ?_⟩
  · rw [Array.toArray_toList]; exact heap_alloc_new w.drew _
  · rw [Array.toList_append, Array.toList_append, List.length_append, List.length_append, l1, l1, List.toList_toArray, List.length_take]; omega
  · rw [Array.toList_append, Array.toList_append, List.toList_toArray, List.append_assoc, List.take_append_of_le_length (by rw [List.length_take]; omega), List.take_take, Nat.min_self]
  · exact (Below.refl _ _).drew.alloc (Nat.le_refl _) _
set_option maxRecDepth 100000 in
set_option maxHeartbeats 4000000 in
theorem insNew_any (v : Value) (xs : List Ct) (i : Nat) (x : Ct) (vb B : Nat) (w : World) (hO : w.ownsRow B 55 2 v xs.length (xs.flatMap Ct.cells)) (hi : i < xs.length) (hlen : xs.length ≤ 1000) (hv : w.heap[vb]? = some x.o) (hBw : B ≤ w.heap.size)
    (hcap : ∀ q cap, v = .slice q xs.length cap → cap = xs.length) :
    Calls Tryz.prog 57 #[v, .int .i64 i, .slice (some ⟨vb, 0, none⟩) 1 1] w fun e w' => InsQ B xs.length xs i x e w w' := by
  obtain ⟨q, cap, g, rfl, _, hq⟩ := own_shape hO
  obtain rfl := hcap q cap rfl
  obtain ⟨rfl, hge⟩ := hq (by omega)
  obtain ⟨cur, hc1, hc2, hc3, hc4, _, _⟩ := own_open hO
  obtain ⟨i0, hi0, hz0, hz1, hz2⟩ := info_parts infoCt
  have hsz2 : (Tryz.prog.info? 55).map (·.size) = some 2 := by rw [hi0]; simp [hz1]
  have hlc : (xs.flatMap Ct.cells).length = xs.length * 2 := flat_length Ct.cells 2 Ct.cells_length xs
  rw [List.take_of_length_le (by omega)] at hc3
  have HFI := Lib.hid (flat_ins Ct.cells 2 Ct.cells_length xs x i (by omega))
  have HONE := Lib.hid (oneCt xs)
  generalize xs.flatMap Ct.cells = X at *
  subst hc3
  obtain ⟨cur2, G, W1, hrun, hG1, hG2, hg1, hl1, ht1, hb1⟩ := growCt w g i xs.length cur hc1 hi hlen hlc
  have HRUN := Lib.hid hrun; clear hrun
  have HG1 := Lib.hid hg1; clear hg1
  have hne1 : ¬ xs.length = i := by omega
  have hne2 : ¬ G = i := by omega
  have hne3 : ¬ G = i + 1 := by omega
  go_enter Tryz.func57, Tryz.ntmps57
  have hVS : ∀ j v, ([Value.string x.nm, .int .i64 x.vl] : List Value)[j]? = some v → w.cell? ((⟨vb, 0, none⟩ : Addr).add j) = some v := World.news_of_block hv
  have HVS := Lib.hid (fun j v hj => cell_on hb1 (hVS j v hj)); clear hVS
  have HVO : Hid (∀ v ∈ ([Value.string x.nm, .int .i64 x.vl] : List Value), v.oneCell' = true) := Lib.hid (by intro v hv; simp at hv; rcases hv with rfl | rfl <;> rfl)
  have hfit1 : i * 2 + ([Value.string x.nm, .int .i64 x.vl] : List Value).length ≤ cur2.length := by rw [hl1]; simp; omega
  have HB1 := Lib.hid hb1; clear hb1
  obtain ⟨V, hV⟩ : ∃ V : List Value, V = [Value.string x.nm, .int .i64 x.vl] := ⟨_, rfl⟩
  have hVl : V.length = 2 := by rw [hV]; rfl
  have HVC : Hid (x.cells = V) := Lib.hid (by rw [hV])
  rw [← hV] at HVS HVO hfit1
  clear hV
  go_wp2_with (first | (at_builtin; go_loud (refine Lib.wpList_append_run _ rfl _ _ 24 3 rfl _ _ rfl rfl _ _ HRUN.out ?_)) | (with_reducible refine wpList_copyK (o := ⟨some 45, _, _, _, _, _⟩) rfl (.tmp 43) (.tmp 44) 24 24 rfl 55 2 1 Tryz.underlying24 hsz2 (some ⟨w.heap.size, i * 2, none⟩) (some ⟨vb, 0, none⟩) (xs.length + 1 - i) (G - i) 1 1 ?hd ?hs w.heap.size (i * 2) cur2 55 HG1.out V ?hn ?hcs ?hpos hfit1 HVO.out w.heap.size w HB1.out (Nat.le_refl _) ?_))
  case hn => (show 1 = min 1 _; omega)
  try (case hcs => rw [hVl])
  case hpos => first | exact fun _ => ⟨rfl, _, rfl, HVS.out⟩ | exact HVS.out | exact fun _ => HVS.out | (intro j v hj; have h := HVS.out j v hj; rw [add_at] at h; simpa using h)
  intro W2 hg2 hb2
  have hdl : (cur.drop (i * 2)).length = (xs.length - i) * 2 := by rw [List.length_drop]; omega
  have hfit2 : (i + 1) * 2 + (cur.drop (i * 2)).length ≤ (splice cur2 (i * 2) V).length := by rw [length_splice _ _ _ hfit1, hl1, hdl]; omega
  have HD : Hid (∀ v ∈ cur.drop (i * 2), v.oneCell' = true) := Lib.hid (fun v hv => HONE.out v (List.mem_of_mem_drop hv))
  have HSRC : Hid (∀ j v, (cur.drop (i * 2))[j]? = some v → W2.cell? ((⟨g, i * 2, none⟩ : Addr).add j) = some v) := Lib.hid (fun j v hj => by
    rw [add_at]
    refine cell_on hb2 ?_
    rw [cell_of_row w g (i * 2 + j) cur.toArray 55 (0, 0) hc1]
    rw [List.getElem?_drop] at hj
    simpa using hj)
  have HG2d : Hid (W2.drew.heap[w.heap.size]? = some (.cells (splice cur2 (i * 2) V).toArray 55 (0, 0))) := Lib.hid hg2.out
  have HB2 := Lib.hid hb2; clear hb2
  have HQ := Lib.hid (And.intro hdl hfit2)
  clear hdl hfit2
  have hwi : IntKind.i64.wrap ((i : Int) + 1) = (i : Int) + 1 := by rw [IntKind.wrap_i64]; omega
  have hwi0 : (0 : Int) ≤ (i : Int) + 1 := by omega
  have hwi1 : ((i : Int) + 1).toNat = i + 1 := by omega
  have hwi2 : (i : Int) + 1 ≤ (xs.length : Int) + 1 := by omega
  have hwi3 : (i : Int) ≤ (xs.length : Int) := by omega
  have hwi4 : (xs.length : Int) + 1 ≤ (G : Int) := by omega
  have HNX : Hid (xs.length - i = Nat.min (xs.length - i) (xs.length + 1 - (i + 1))) := Lib.hid (by show _ = min _ _; omega)
  go_wp2_with fail
  go_region_law ((refine step_copyK rfl (.tmp 50) (.tmp 53) 24 24 rfl 55 2 (xs.length - i) Tryz.underlying24 hsz2 (some ⟨w.heap.size, (i + 1) * 2, none⟩) (some ⟨g, i * 2, none⟩) (xs.length + 1 - (i + 1)) (G - (i + 1)) (xs.length - i) (xs.length - i) (by simp [Act.eval, Act.put, hne3]) (by simp [Act.eval, Act.put, hne1]) w.heap.size ((i + 1) * 2) (splice cur2 (i * 2) V) 55 HG2d.out (cur.drop (i * 2)) HNX.out HQ.out.1 (fun _ => ⟨rfl, _, rfl, HSRC.out⟩) HQ.out.2 HD.out w.heap.size w HB2.out.drew (Nat.le_refl _) ?_); intro W4 hg4 hb4)
  clear hwi hwi0 hwi1 hwi2 hwi3 hwi4
  go_wp2
  go_ret
  have hin := ins_new cur2 cur V (i * 2) (xs.length * 2) hlc (by omega) hVl (by omega) ht1
  have hg5 := hg4.out
  have hq2 := HQ.out.2
  rw [show (i + 1) * 2 = i * 2 + 2 by omega] at hg5 hq2
  refine ⟨.slice (some ⟨w.heap.size, 0, none⟩) (xs.length + 1) G, rfl, own_close hg5 (by rw [length_splice _ _ _ hq2, length_splice _ _ _ hfit1, hl1]) (show _ = (xs.take i ++ x :: xs.drop i).flatMap Ct.cells by rw [← HFI.out, HVC.out, ← hin, show (xs.length + 1) * 2 = xs.length * 2 + 2 by omega]) hG2 hBw hG1 (by rw [flat_length Ct.cells 2 Ct.cells_length]; simp; omega), hb4.mono hBw⟩
set_option maxRecDepth 100000 in
set_option maxHeartbeats 4000000 in
theorem insRoom_any (q : Option Addr) (cap : Nat) (xs : List Ct) (i : Nat) (x : Ct) (vb B : Nat) (w : World) (hO : w.ownsRow B 55 2 (.slice q xs.length cap) xs.length (xs.flatMap Ct.cells)) (hi : i < xs.length) (hlen : xs.length ≤ 1000) (hv : w.heap[vb]? = some x.o) (hBw : B ≤ w.heap.size) (hvb : ∀ k, (Value.slice q xs.length cap).ownBlock = some k → vb ≠ k)
    (hcap : xs.length < cap) :
    Calls Tryz.prog 57 #[.slice q xs.length cap, .int .i64 i, .slice (some ⟨vb, 0, none⟩) 1 1] w fun e w' => InsQ B xs.length xs i x e w w' := by
  obtain ⟨q', cap', g, hqq, _, hq⟩ := own_shape hO
  obtain ⟨rfl, hge⟩ := hq (by omega)
  simp only [Value.slice.injEq, true_and] at hqq
  obtain ⟨rfl, rfl⟩ := hqq
  have hne := hvb g rfl
  obtain ⟨cur, hc1, hc2, hc3, hc4, _, _⟩ := own_open hO
  obtain ⟨i0, hi0, hz0, hz1, hz2⟩ := info_parts infoCt
  have hsz2 : (Tryz.prog.info? 55).map (·.size) = some 2 := by rw [hi0]; simp [hz1]
  have hlc : (xs.flatMap Ct.cells).length = xs.length * 2 := flat_length Ct.cells 2 Ct.cells_length xs
  have HFI := Lib.hid (flat_ins Ct.cells 2 Ct.cells_length xs x i (by omega))
  have HONE := Lib.hid (oneCt xs)
  have hov := fun o lb cb => ovl_run w vb g o lb cb x hv hc1 hne (by omega)
  clear hO
  generalize xs.flatMap Ct.cells = X at *
  have hne1 : ¬ cap = i := by omega
  have hne3 : ¬ cap = i + 1 := by omega
  have HG1 := Lib.hid hc1
  have HVS := Lib.hid (World.news_of_block hv)
  have HVO : Hid (∀ v ∈ ([Value.string x.nm, .int .i64 x.vl] : List Value), v.oneCell' = true) := Lib.hid (by intro v hv; simp at hv; rcases hv with rfl | rfl <;> rfl)
  obtain ⟨V, hV⟩ : ∃ V : List Value, V = [Value.string x.nm, .int .i64 x.vl] := ⟨_, rfl⟩
  have hVl : V.length = 2 := by rw [hV]; rfl
  have HVC : Hid (x.cells = V) := Lib.hid (by rw [hV])
  have HVS' : Hid (∀ j v, V[j]? = some v → w.cell? ((⟨vb, 0, none⟩ : Addr).add j) = some v) := Lib.hid (by rw [hV]; exact HVS.out)
  rw [← hV] at HVO
  clear hV HVS hc1
  have hdl : (X.drop (i * 2)).length = (xs.length - i) * 2 := by rw [List.length_drop]; omega
  have hfit2 : (i + 1) * 2 + (X.drop (i * 2)).length ≤ cur.length := by omega
  have HD : Hid (∀ v ∈ X.drop (i * 2), v.oneCell' = true) := Lib.hid (fun v hv => HONE.out v (List.mem_of_mem_drop hv))
  have HSRC : Hid (∀ j v, (X.drop (i * 2))[j]? = some v → w.drew.cell? ((⟨g, i * 2, none⟩ : Addr).add j) = some v) := Lib.hid (fun j v hj => by
    rw [add_at, cell_of_row w.drew g (i * 2 + j) cur.toArray 55 (0, 0) HG1.out]
    rw [List.getElem?_drop, ← hc3, List.getElem?_take] at hj
    split at hj
    · simpa using hj
    · cases hj)
  have HG2d : Hid (w.drew.heap[g]? = some (.cells cur.toArray 55 (0, 0))) := Lib.hid HG1.out
  have HQ := Lib.hid (And.intro hdl hfit2)
  have HNX : Hid (xs.length - i = Nat.min (xs.length + 1 - i) (xs.length + 1 - (i + 1))) := Lib.hid (by show _ = min _ _; omega)
  have HBv : Hid (Below B w w.drew) := Lib.hid (Below.refl _ _).drew
  clear hdl hfit2
  have hwi : IntKind.i64.wrap ((i : Int) + 1) = (i : Int) + 1 := by rw [IntKind.wrap_i64]; omega
  have hwi0 : (0 : Int) ≤ (i : Int) + 1 := by omega
  have hwi1 : ((i : Int) + 1).toNat = i + 1 := by omega
  have hwi2 : (i : Int) + 1 ≤ (xs.length : Int) + 1 := by omega
  have hwi3 : (i : Int) ≤ (xs.length : Int) + 1 := by omega
  have hwi4 : (xs.length : Int) + 1 ≤ (cap : Int) := by omega
  go_enter Tryz.func57, Tryz.ntmps57
  go_wp2_with (simp only [hov])
  go_region_law ((refine step_copyK2 rfl (.tmp 73) (.tmp 76) 24 24 rfl 55 2 (xs.length - i) Tryz.underlying24 hsz2 (some ⟨g, (i + 1) * 2, none⟩) (some ⟨g, i * 2, none⟩) (xs.length + 1 - (i + 1)) (cap - (i + 1)) (xs.length + 1 - i) (cap - i) (by simp [Act.eval, Act.put, hne3]) (by simp [Act.eval, Act.put, hne1]) g ((i + 1) * 2) cur 55 HG2d.out (X.drop (i * 2)) HNX.out HQ.out.1 (fun _ => ⟨rfl, _, rfl, HSRC.out⟩) HQ.out.2 HD.out B w HBv.out hge ?_); intro W4 hg4 hb4 ho4)
  clear hwi hwi0 hwi1 hwi2 hwi3 hwi4 HG2d HSRC HBv hov
  have HV4 : Hid (∀ j v, V[j]? = some v → W4.cell? ((⟨vb, 0, none⟩ : Addr).add j) = some v) := Lib.hid (fun j v hj => by
    have h1 := HVS'.out j v hj
    rw [add_at] at h1 ⊢
    rw [← h1]
    simp only [World.cell?, ho4.out vb hne]
    rfl)
  have HB4 := Lib.hid hb4; clear hb4 ho4
  have hfit3 : i * 2 + V.length ≤ (splice cur ((i + 1) * 2) (X.drop (i * 2))).length := by rw [length_splice _ _ _ HQ.out.2]; omega
  go_wp2_with (with_reducible refine wpList_copyK (o := ⟨some 82, _, _, _, _, _⟩) rfl (.tmp 80) (.tmp 81) 24 24 rfl 55 2 1 Tryz.underlying24 hsz2 (some ⟨g, i * 2, none⟩) (some ⟨vb, 0, none⟩) (xs.length + 1 - i) (cap - i) 1 1 ?hd ?hs g (i * 2) (splice cur ((i + 1) * 2) (X.drop (i * 2))) 55 hg4.out V ?hn ?hcs ?hpos hfit3 HVO.out B w HB4.out hge ?_)
  try (case hd => rfl)
  try (case hs => rfl)
  try (case hn => (show 1 = min 1 _; omega))
  try (case hcs => rw [hVl])
  try (case hpos => first | exact fun _ => ⟨rfl, _, rfl, HV4.out⟩ | exact HV4.out | exact fun _ => HV4.out | (intro j v hj; have h := HV4.out j v hj; rw [add_at] at h; simpa using h))
  intro W5 hg5 hb5
  go_wp2
  go_ret
  have hin := ins_in cur X V (i * 2) (xs.length * 2) hlc (by omega) hVl (by omega) hc3
  have hg6 := hg5.out
  have hq2 := HQ.out.2
  rw [show (i + 1) * 2 = i * 2 + 2 by omega] at hg6 hq2 hfit3
  refine ⟨.slice (some ⟨g, 0, none⟩) (xs.length + 1) cap, rfl, own_close hg6 (by rw [length_splice _ _ _ hfit3, length_splice _ _ _ hq2, hc2]) (show _ = (xs.take i ++ x :: xs.drop i).flatMap Ct.cells by rw [← HFI.out, HVC.out, ← hin, show (xs.length + 1) * 2 = xs.length * 2 + 2 by omega]) hc4 hge (by omega) (by rw [flat_length Ct.cells 2 Ct.cells_length]; simp; omega), hb5⟩
end Go.Proofs.YtmochhgmhhopoaaGreatDoor
