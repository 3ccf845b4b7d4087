/- A script without losses: the program's and the reference's CalmScript, for all lists of at most 2^30 steps. -/
import Derived.Test.YtgmccafmopgjaaaGreatDoorScr1
import Derived.Lib.LazyBuf
import Derived.Laws.AppendOwnNone
namespace Go.Proofs.YtgmccafmopgjaaaGreatDoor
open Go.RowKit

def calm (x : St) : St := ⟨if x.kd = 3 then 2 else if x.kd = 6 then 5 else x.kd, x.nd, x.dt⟩
def calmL (xs : List St) : List St := if scB xs = true then xs.map calm else []
def calmN (xs : List St) (n : Nat) : List St := (xs.take n).map calm ++ xs.drop n
theorem calmN_length (xs : List St) (n : Nat) : (calmN xs n).length = xs.length := by simp [calmN]; omega
theorem calmN_zero (xs : List St) : calmN xs 0 = xs := by simp [calmN]
theorem calmN_all (xs : List St) : calmN xs xs.length = xs.map calm := by simp [calmN]
theorem calmN_get (xs : List St) (n : Nat) (h : n < xs.length) : (calmN xs n)[n]'(by rw [calmN_length]; exact h) = xs[n] := by
  simp only [calmN]
  rw [List.getElem_append_right (by simp; omega)]
  simp [Nat.min_eq_left (Nat.le_of_lt h)]
theorem calmN_succ (xs : List St) (n : Nat) (h : n < xs.length) : calmN xs (n + 1) = (calmN xs n).set n (calm xs[n]) := by
  unfold calmN
  rw [List.take_succ_eq_append_getElem h, List.map_append, List.drop_eq_getElem_cons h, List.set_append]
  simp [Nat.min_eq_left (Nat.le_of_lt h)]
  rw [List.drop_eq_getElem_cons h]
  rfl
theorem calm_ok {xs : List St} (h : ∀ x ∈ xs, x.ok) : ∀ x ∈ xs.map calm, x.ok := by
  intro x hx
  obtain ⟨y, hy, rfl⟩ := List.mem_map.1 hx
  exact h y hy
theorem flatSt_set (ys : List St) (k : Nat) (z : Int) (h : k < ys.length) : (ys.flatMap St.cells).set (k * 3) (.int .i64 z) = (ys.set k ⟨z, ys[k].nd, ys[k].dt⟩).flatMap St.cells := by
  induction ys generalizing k with
  | nil => simp at h
  | cons y ys ih =>
    cases k with
    | zero => simp
    | succ k =>
      rw [List.flatMap_cons, List.set_append, if_neg (by simp; omega), List.set_cons_succ, List.flatMap_cons]
      have := ih k (by simpa using h)
      rw [show (k + 1) * 3 - y.cells.length = k * 3 from by simp; omega, this]
      rfl
theorem set_self {α : Type} (ys : List α) (k : Nat) (h : k < ys.length) : ys.set k ys[k] = ys := List.set_getElem_self h
theorem oneSt (xs : List St) : ∀ u ∈ xs.flatMap St.cells, u.oneCell' = true := by
  intro u hu
  obtain ⟨x, _, hx⟩ := List.mem_flatMap.1 hu
  simp at hx
  rcases hx with rfl | rfl | rfl <;> rfl
set_option maxHeartbeats 1000000 in
/-- A copy in new memory (nil stays nil). -/
theorem cloneSt (v : Value) (n : Nat) (cs : List Value) (w : World) (h : Rd w v 3 n cs) (hn : n ≤ 1073741824) (hone : ∀ u ∈ cs, u.oneCell' = true) :
    Calls Tryz.prog 45 #[v] w fun e w' => ∃ v', e = .returned v' ∧ w'.ownsRow w.heap.size 25 3 v' n cs ∧ Below w.heap.size w w' := by
  rcases h.source with ⟨rfl, rfl, rfl⟩ | ⟨a, cap, rfl, hcap, hcells⟩
  · have hnil := Go.run_eql_slice_nil (P := Tryz.prog) w 33 25 none 0 0 Tryz.underlying33
    go_enter Tryz.func45, Tryz.ntmps45
    go_wp2
    go_ret
    exact ⟨_, rfl, World.ownsRow_nil _ _ _ _, Below.refl _ _⟩
  · have hnil := Go.run_eql_slice_nil (P := Tryz.prog) w 33 25 (some a) n cap Tryz.underlying33
    have HC := Lib.hid (cells_kept (below_alloc1 w (.cells #[] 25)) hcells); clear hcells
    have hl := h.1
    have HL := Lib.hid hl; clear hl
    have hO := World.ownsRow_lit (e := 25) (size := 3) w #[] 0 (Nat.le_refl _) (Nat.zero_le _) rfl
    obtain ⟨i0, hi, hz0, hz1, hz2⟩ := info_parts infoSt
    go_enter Tryz.func45, Tryz.ntmps45
    go_wp2_with (at_builtin; refine wpList_append_own _ rfl _ _ 33 rfl w.heap.size 25 i0 (.agg #[.int .i64 0, .int .i64 0, .string ⟨#[]⟩]) 3 32 Tryz.underlying33 hi hz0 hz1 hz2 rfl (by decide) _ 0 [] rfl hO a n cap cs rfl HL.out HC.out hone ?c3 ?c4 ?c5 ?_)
    case c3 => unfold maxLen; omega
    case c4 => omega
    intro v' w1 hown' hgrow _
    go_wp2
    go_ret
    refine ⟨v', rfl, by simpa using hown', (below_alloc1 _ _).grown hgrow (by simp) (fun j hj => (hO.lt j hj).1)⟩

set_option maxRecDepth 100000 in
set_option maxHeartbeats 4000000 in
theorem implCalm_any (v : Value) (xs : List St) (w : World) (h : RdSt w v xs) :
    Calls Tryz.prog 21 #[v] w fun e w' => ∃ v', e = .returned (.tuple #[v', .bool (scB xs)]) ∧ OwSt w.heap.size w' v' (calmL xs) ∧ Below w.heap.size w w' := by
  have HT := Lib.hid (implIsScript_any v xs w h)
  have HR := Lib.hid h
  have hlen := h.2.1
  have hok := Lib.hid (calm_ok h.2.2)
  obtain ⟨p, cap, b, off, rfl, hcap, hp, hcell⟩ := h.parts
  clear hcell hp h
  cases hB : scB xs
  · have HV : Hid (calmL xs = []) := Lib.hid (by simp [calmL, hB])
    rw [hB] at HT
    go_enter Tryz.func21, Tryz.ntmps21
    go_wp2_with fail
    refine HT.out.mono ?_
    rintro e w1 ⟨rfl, hb⟩
    have HB := Lib.hid hb; clear hb
    go_wp2
    refine bodyPost_ret (v := (.tuple #[.slice none 0 0, .bool false])) (by simp [results, Tryz.results21, go_sem, *]) rfl ?_
    exact ⟨_, rfl, by rw [HV.out]; exact ⟨⟨rfl, .inl ⟨rfl, rfl⟩⟩, by simp, by simp⟩, HB.out⟩
  · have HV : Hid (calmL xs = xs.map calm) := Lib.hid (by simp [calmL, hB])
    have h30 := (scB_true.1 hB).1
    rw [hB] at HT
    clear hB
    go_enter Tryz.func21, Tryz.ntmps21
    go_wp2_with fail
    refine HT.out.mono ?_
    rintro e w1 ⟨rfl, hb⟩
    have HB := Lib.hid hb; clear hb
    go_wp2_with fail
    refine (cloneSt _ xs.length _ _ ((HR.out.below HB.out).1) (by omega) (oneSt xs)).mono ?_
    rintro e w2 ⟨u, rfl, hou, hb2⟩
    obtain ⟨q, qcap, g, rfl, hqc, hq⟩ := own_shape hou
    have HQ := Lib.hid hq; clear hq
    have HO := Lib.hid hou; clear hou
    have HB2 := Lib.hid (HB.out.trans (hb2.mono HB.out.size)); clear hb2
    have hz1 := HB.out.size
    go_wp2
    go_loopw [5, 13] (fun _ i wr => ∃ n : Nat, n ≤ xs.length ∧ i = .int .i64 n ∧ wr.ownsRow w1.heap.size 25 3 (.slice q xs.length qcap) xs.length ((calmN xs n).flatMap St.cells) ∧ Below w.heap.size w wr) (fun _ i _ => xs.length - (intOf i).toNat)
    case atStart => exact ⟨0, Nat.zero_le _, rfl, by rw [calmN_zero]; exact HO.out, HB2.out⟩
    case round =>
      clear HB HB2 HO
      obtain ⟨n, hn, rfl, hown, hb⟩ := hrel
      have hsz := hb.size
      by_cases hlt : n < xs.length
      · obtain ⟨rfl, hge⟩ := HQ.out (by omega)
        have hlc : n < (calmN xs n).length := by rw [calmN_length]; exact hlt
        have hgt := calmN_get xs n hlt
        have hsu := calmN_succ xs n hlt
        have hfs := fun z => flatSt_set (calmN xs n) n z hlc
        have c1 : wr.cell? ⟨g, n * 3, none⟩ = some (.int .i64 xs[n].kd) := by
          rw [hown.cellAt (n * 3) (by omega), ← hgt]
          exact flat_get St.cells 3 St.cells_length (calmN xs n) n 0 hlc (by omega)
        have f1 := hown.frozenAt (n * 3)
        have hss := fun z => hown.stored (n * 3) (.int .i64 z)
        have hself := set_self (calmN xs n) n hlc
        rw [hgt] at hself
        have HH : Hid (∀ z, calm xs[n] = ⟨z, xs[n].nd, xs[n].dt⟩ → ((calmN xs n).flatMap St.cells).set (n * 3) (.int .i64 z) = (calmN xs (n + 1)).flatMap St.cells) := Lib.hid (fun z hz => by rw [hfs z, hsu, hz, ← hgt])
        have HE : Hid (calm xs[n] = xs[n] → calmN xs (n + 1) = calmN xs n) := Lib.hid (fun hz => by rw [hsu, hz, hself])
        have HO := Lib.hid hown
        have HSS := Lib.hid hss
        clear hgt hsu hfs hself hss hlc hown
        by_cases h3 : xs[n].kd = 3
        · have HC3 : Hid (calm xs[n] = ⟨2, xs[n].nd, xs[n].dt⟩) := Lib.hid (by simp [calm, h3])
          rw [h3] at c1
          clear h3
          go_wp2
          go_roundw
          case rel => exact ⟨n + 1, by omega, by go_num, by rw [← HH.out 2 HC3.out]; exact (HSS.out 2).1, hb.grown (HSS.out 2).2 hb.size (fun j hj => by have := Option.some.inj hj; omega)⟩
          case measure => simp [intOf]; omega
        · by_cases h6 : xs[n].kd = 6
          · have HC3 : Hid (calm xs[n] = ⟨5, xs[n].nd, xs[n].dt⟩) := Lib.hid (by simp [calm, h6])
            rw [h6] at c1
            clear h3 h6
            go_wp2
            go_roundw
            case rel => exact ⟨n + 1, by omega, by go_num, by rw [← HH.out 5 HC3.out]; exact (HSS.out 5).1, hb.grown (HSS.out 5).2 hb.size (fun j hj => by have := Option.some.inj hj; omega)⟩
            case measure => simp [intOf]; omega
          · have HC3 : Hid (calm xs[n] = xs[n]) := Lib.hid (by simp [calm, h3, h6])
            go_wp2
            go_roundw
            case rel => exact ⟨n + 1, by omega, by go_num, by rw [HE.out HC3.out]; exact HO.out, hb⟩
            case measure => simp [intOf]; omega
      · obtain rfl : n = xs.length := by omega
        have HH := Lib.hid (And.intro hown hb); clear hown hb
        go_wp2
        refine bodyPost_ret (v := (.tuple #[.slice q xs.length qcap, .bool true])) (by simp [results, Tryz.results21, go_sem, *]) rfl ?_
        exact ⟨_, rfl, by rw [HV.out]; exact ⟨by rw [List.length_map, ← calmN_all]; exact own_base HH.out.1 hz1, by simp; omega, hok.out⟩, HH.out.2⟩

set_option maxRecDepth 100000 in
set_option maxHeartbeats 4000000 in
theorem specCalm_any (v : Value) (xs : List St) (w : World) (h : RdSt w v xs) :
    Calls Tryz.prog 22 #[v] w fun e w' => ∃ v', e = .returned (.tuple #[v', .bool (scB xs)]) ∧ OwSt w.heap.size w' v' (calmL xs) ∧ Below w.heap.size w w' := by
  have HT := Lib.hid (fun w => l16Good_any v xs w)
  have HR := Lib.hid h
  have hlen := h.2.1
  have hok := Lib.hid (calm_ok h.2.2)
  obtain ⟨i0, hi, hz0, hz1, hz2⟩ := info_parts infoSt
  obtain ⟨p, cap, b, off, rfl, hcap, hp, hcell⟩ := h.parts
  have HC := Lib.hid hcell; clear hcell
  have HP := Lib.hid hp; clear hp h
  cases hB : scB xs
  · have HV : Hid (calmL xs = []) := Lib.hid (by simp [calmL, hB])
    rw [hB] at HT
    go_enter Tryz.func22, Tryz.ntmps22
    go_wp2_with fail
    refine (HT.out _ (HR.out.below (by go_grown))).mono ?_
    rintro e w1 ⟨rfl, hb⟩
    have HE : Hid (OwSt w.heap.size w1 (.slice (some ⟨w.heap.size, 0, none⟩) 0 0) []) := Lib.hid (OwSt.below ⟨World.ownsRow_lit w #[] 0 (Nat.le_refl _) (Nat.zero_le _) rfl, by simp, by simp⟩ hb)
    have HB := Lib.hid (Below.trans (by go_grown) (hb.mono (by simp)) : Below w.heap.size w w1); clear hb
    go_wp2
    refine bodyPost_ret (v := (.tuple #[.slice (some ⟨w.heap.size, 0, none⟩) 0 0, .bool false])) (by simp [results, Tryz.results22, go_sem, *]) rfl ?_
    exact ⟨_, rfl, by rw [HV.out]; exact HE.out, HB.out⟩
  · have HV : Hid (calmL xs = xs.map calm) := Lib.hid (by simp [calmL, hB])
    have h30 := (scB_true.1 hB).1
    rw [hB] at HT
    clear hB
    go_enter Tryz.func22, Tryz.ntmps22
    go_wp2_with fail
    refine (HT.out _ (HR.out.below (by go_grown))).mono ?_
    rintro e w1 ⟨rfl, hb⟩
    have HE : Hid (OwSt w.heap.size w1 (.slice (some ⟨w.heap.size, 0, none⟩) 0 0) []) := Lib.hid (OwSt.below ⟨World.ownsRow_lit w #[] 0 (Nat.le_refl _) (Nat.zero_le _) rfl, by simp, by simp⟩ hb)
    have HB := Lib.hid (Below.trans (by go_grown) (hb.mono (by simp)) : Below w.heap.size w w1); clear hb
    go_wp2
    go_loopw [4, 5, 6] (fun v i _ wr => ∃ n : Nat, n ≤ xs.length ∧ i = .int .i64 n ∧ wr.ownsRow w.heap.size 25 3 v n (((xs.take n).map calm).flatMap St.cells) ∧ Below w.heap.size w wr) (fun _ i _ _ => xs.length - (intOf i).toNat)
    case atStart => exact ⟨0, Nat.zero_le _, rfl, HE.out.1, HB.out⟩
    case round =>
      clear HB HE
      obtain ⟨n, hn, rfl, hO, hb⟩ := hrel
      by_cases hlt : n < xs.length
      · obtain rfl := HP.out (by omega)
        obtain ⟨c1, c2, c3⟩ := HC.out n hlt
        have c1 := cell_on hb c1
        have c2 := cell_on hb c2
        have c3 := cell_on hb c3
        have hsz := hb.size
        have HS : Hid (((xs.take (n + 1)).map calm).flatMap St.cells = ((xs.take n).map calm).flatMap St.cells ++ (calm xs[n]).cells) := Lib.hid (by rw [take_map_succ calm xs n hlt, List.flatMap_append]; simp)
        have HL : Hid ((((xs.take n).map calm).flatMap St.cells).length = n * 3) := Lib.hid (by rw [hO.1])
        generalize xs[n] = x at c1 c2 c3 HS
        obtain ⟨xk, xn, xd⟩ := x
        simp only at c1 c2 c3
        generalize ((xs.take n).map calm).flatMap St.cells = L at *
        by_cases h3 : xk = 3
        · subst h3
          go_wp2_with (first | (at_builtin; go_loud (refine wpList_append_own _ rfl _ _ 33 rfl (w.heap.size) 25 i0 (.agg #[.int .i64 0, .int .i64 0, .string ⟨#[]⟩]) 3 32 Tryz.underlying33 hi hz0 hz1 hz2 rfl (by decide) _ _ _ rfl ((hO.alloc _).alloc _) ⟨wr.heap.size + 1, 0, none⟩ 1 1 [.int .i64 2, .int .i64 xn, .string xd] rfl rfl ?c1a ?c2a ?c3a ?c4a ?c5a ?_)))
          try (case c1a => first | exact cells_new _ #[.int .i64 2, .int .i64 xn, .string xd] _ | exact cells_at _ #[.int .i64 2, .int .i64 xn, .string xd] _ (by simp) | rfl)
          try (case c2a => first | rfl | exact ⟨rfl, rfl, rfl⟩ | exact ⟨rfl, rfl⟩ | (intro u hu; simp at hu; rcases hu with rfl | rfl | rfl | rfl <;> rfl) | (intro u hu; simp at hu; rcases hu with rfl | rfl | rfl <;> rfl) | (intro u hu; simp at hu; rcases hu with rfl | rfl <;> rfl) | (intro u hu; simp at hu; subst hu; rfl))
          try (case c3a => first | omega | (unfold maxLen; omega))
          try (case c4a => first | omega | ((try simp only [World.heap_size_alloc]); omega))
          try (case c5a => first | omega | (simp; omega))
          intro v' w2 hown' hgrow
          try intro _
          go_wp2
          go_roundw
          case rel => exact ⟨n + 1, by omega, by go_num, by rw [HS.out]; exact hown', Below.grown (Below.trans hb (by go_grown)) hgrow (by simp; omega) (fun j hj => (hO.lt j hj).1)⟩
          case measure => simp [intOf]; omega
        · by_cases h6 : xk = 6
          · subst h6
            go_wp2_with (first | (at_builtin; go_loud (refine wpList_append_own _ rfl _ _ 33 rfl (w.heap.size) 25 i0 (.agg #[.int .i64 0, .int .i64 0, .string ⟨#[]⟩]) 3 32 Tryz.underlying33 hi hz0 hz1 hz2 rfl (by decide) _ _ _ rfl ((hO.alloc _).alloc _) ⟨wr.heap.size + 1, 0, none⟩ 1 1 [.int .i64 5, .int .i64 xn, .string xd] rfl rfl ?c1b ?c2b ?c3b ?c4b ?c5b ?_)))
            try (case c1b => first | exact cells_new _ #[.int .i64 5, .int .i64 xn, .string xd] _ | exact cells_at _ #[.int .i64 5, .int .i64 xn, .string xd] _ (by simp) | rfl)
            try (case c2b => first | rfl | exact ⟨rfl, rfl, rfl⟩ | exact ⟨rfl, rfl⟩ | (intro u hu; simp at hu; rcases hu with rfl | rfl | rfl | rfl <;> rfl) | (intro u hu; simp at hu; rcases hu with rfl | rfl | rfl <;> rfl) | (intro u hu; simp at hu; rcases hu with rfl | rfl <;> rfl) | (intro u hu; simp at hu; subst hu; rfl))
            try (case c3b => first | omega | (unfold maxLen; omega))
            try (case c4b => first | omega | ((try simp only [World.heap_size_alloc]); omega))
            try (case c5b => first | omega | (simp; omega))
            intro v' w2 hown' hgrow
            try intro _
            go_wp2
            go_roundw
            case rel => exact ⟨n + 1, by omega, by go_num, by rw [HS.out]; exact hown', Below.grown (Below.trans hb (by go_grown)) hgrow (by simp; omega) (fun j hj => (hO.lt j hj).1)⟩
            case measure => simp [intOf]; omega
          · have HX : Hid (calm ⟨xk, xn, xd⟩ = ⟨xk, xn, xd⟩) := Lib.hid (by simp [calm, h3, h6])
            go_wp2_with (first | (at_builtin; go_loud (refine wpList_append_own _ rfl _ _ 33 rfl (w.heap.size) 25 i0 (.agg #[.int .i64 0, .int .i64 0, .string ⟨#[]⟩]) 3 32 Tryz.underlying33 hi hz0 hz1 hz2 rfl (by decide) _ _ _ rfl ((hO.alloc _).alloc _) ⟨wr.heap.size + 1, 0, none⟩ 1 1 [.int .i64 xk, .int .i64 xn, .string xd] rfl rfl ?c1c ?c2c ?c3c ?c4c ?c5c ?_)))
            try (case c1c => first | exact cells_new _ #[.int .i64 xk, .int .i64 xn, .string xd] _ | exact cells_at _ #[.int .i64 xk, .int .i64 xn, .string xd] _ (by simp) | rfl)
            try (case c2c => first | rfl | exact ⟨rfl, rfl, rfl⟩ | exact ⟨rfl, rfl⟩ | (intro u hu; simp at hu; rcases hu with rfl | rfl | rfl | rfl <;> rfl) | (intro u hu; simp at hu; rcases hu with rfl | rfl | rfl <;> rfl) | (intro u hu; simp at hu; rcases hu with rfl | rfl <;> rfl) | (intro u hu; simp at hu; subst hu; rfl))
            try (case c3c => first | omega | (unfold maxLen; omega))
            try (case c4c => first | omega | ((try simp only [World.heap_size_alloc]); omega))
            try (case c5c => first | omega | (simp; omega))
            intro v' w2 hown' hgrow
            try intro _
            go_wp2
            go_roundw
            case rel => exact ⟨n + 1, by omega, by go_num, by rw [HS.out, HX.out]; exact hown', Below.grown (Below.trans hb (by go_grown)) hgrow (by simp; omega) (fun j hj => (hO.lt j hj).1)⟩
            case measure => simp [intOf]; omega
      · obtain rfl : n = xs.length := by omega
        have HH := Lib.hid (And.intro hO hb); clear hO hb
        have HTk : Hid ((xs.take xs.length).map calm = xs.map calm) := Lib.hid (by rw [List.take_length])
        go_wp2
        refine bodyPost_ret (v := (.tuple #[u4, .bool true])) (by simp [results, Tryz.results22, go_sem, *]) rfl ?_
        exact ⟨_, rfl, by rw [HV.out]; exact ⟨by rw [List.length_map, ← HTk.out]; exact HH.out.1, by simp; omega, hok.out⟩, HH.out.2⟩
end Go.Proofs.YtgmccafmopgjaaaGreatDoor
