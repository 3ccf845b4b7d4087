/- The laws' own helpers on lists of groups: sizes, equal ones; lists of groups that came in as arguments, opened. -/
import Derived.Test.YtpgonlfaeejakaaDoorGr3
namespace Go.Proofs.YtpgonlfaeejakaaDoor
open Go.ChangeShapes Go.WideShapes Go.ChangeAt Go.RowKit Go.Deep

def gaM (gs : List Gr) (k : Nat) : Bool := match gs[k]? with
  | none => true
  | some g => grB g && (match k with
    | 0 => true
    | m + 1 => match gs[m]? with
      | none => true
      | some h => Op.bytesLess h.nm.toList g.nm.toList)
theorem gaB_map (ps : List (Gr × Value)) (k : Nat) : gaB ps k = gaM (ps.map Prod.fst) k := by
  unfold gaB gaM
  rw [List.getElem?_map]
  cases ps[k]? with
  | none => rfl
  | some g =>
    cases k with
    | zero => rfl
    | succ m =>
      simp only [Option.map_some, List.getElem?_map]
      cases ps[m]? <;> rfl
theorem gsB_congr {ps qs : List (Gr × Value)} (h : qs.map Prod.fst = ps.map Prod.fst) : gsB qs = gsB ps := by
  have hl : qs.length = ps.length := by have := congrArg List.length h; simpa using this
  unfold gsB
  rw [hl]
  congr 1
  exact congrArg (fun f => (List.range ps.length).all f) (funext fun k => by rw [gaB_map, gaB_map, h])
theorem specIsGroupList_any (v : Value) (ps : List (Gr × Value)) (w : World) (h : GrAt w v ps) :
    Calls Tryd.prog 6 #[v] w fun e w' => e = .returned (.bool (gsB ps)) ∧ Below w.heap.size w w' := by
  have H := Lib.hid (l21Good_any v ps w h)
  obtain ⟨p, cap, b, off, rfl, _⟩ := h.parts
  clear h
  go_enter Tryd.func6, Tryd.ntmps6
  go_wp2_with fail
  refine H.out.mono ?_
  rintro e w1 ⟨rfl, hb⟩
  go_wp2
  go_ret
  exact ⟨rfl, hb⟩
theorem keepG4 {w W w' : World} {a0 a1 a2 a3 : Addr} {v0 v1 v2 v3 : Value} (h : Below w.heap.size w W ∧ W.cell? a0 = some v0 ∧ W.cell? a1 = some v1 ∧ W.cell? a2 = some v2 ∧ W.cell? a3 = some v3) (hb : Below W.heap.size W w') :
    Below w.heap.size w w' ∧ w'.cell? a0 = some v0 ∧ w'.cell? a1 = some v1 ∧ w'.cell? a2 = some v2 ∧ w'.cell? a3 = some v3 := by
  obtain ⟨h0, c0, c1, c2, c3⟩ := h
  exact ⟨h0.trans (hb.mono h0.size), cell_on hb c0, cell_on hb c1, cell_on hb c2, cell_on hb c3⟩
set_option maxRecDepth 100000 in
set_option maxHeartbeats 4000000 in
theorem eqGroupS_any (v v' : Value) (ps qs : List (Gr × Value)) (w : World) (h : GrAt w v ps) (h' : GrAt w v' qs) (he : qs.map Prod.fst = ps.map Prod.fst) :
    Calls Tryd.prog 9 #[v, v'] w fun e w' => e = .returned (.bool true) ∧ Below w.heap.size w w' := by
  have hlen := h.2.1
  have hl : qs.length = ps.length := by have := congrArg List.length he; simpa using this
  have HR := Lib.hid h.2.2
  have HR' := Lib.hid h'.2.2
  have HE : Hid (∀ k (h : k < ps.length) (h' : k < qs.length), qs[k].1 = ps[k].1) := Lib.hid (fun k h h' => by
    have := congrArg (fun l => l[k]?) he
    simp only [List.getElem?_map, List.getElem?_eq_getElem h, List.getElem?_eq_getElem h'] at this
    exact Option.some.inj this)
  obtain ⟨p, cap, b, off, rfl, hcap, hp, hcell⟩ := h.parts
  obtain ⟨p', cap', b', off', rfl, hcap', hp', hcell'⟩ := h'.parts
  have HC := Lib.hid hcell; clear hcell
  have HP := Lib.hid hp; clear hp h
  have HC' := Lib.hid hcell'; clear hcell'
  have HP' := Lib.hid hp'; clear hp' h' he
  rw [hl]
  have HL := Lib.hid hl; clear hl
  go_enter Tryd.func9, Tryd.ntmps9
  go_wp2
  go_loopw [5] (fun i wr => ∃ (k : Nat), k ≤ ps.length ∧ i = .int .i64 k ∧ Hid (Below w.heap.size w wr)) (fun i _ => ps.length - (intOf i).toNat)
  case atStart => exact ⟨0, Nat.zero_le _, rfl, Lib.hid (Below.refl _ _)⟩
  case round =>
    obtain ⟨k, hk, rfl, HB⟩ := hrel
    by_cases hlt : k < ps.length
    · have hlt' : k < qs.length := by rw [HL.out]; exact hlt
      obtain rfl := HP.out (by omega)
      obtain rfl := HP'.out (by omega)
      obtain ⟨c1, c2⟩ := HC.out k hlt
      obtain ⟨d1, d2⟩ := HC'.out k hlt'
      rw [HE.out k hlt hlt'] at d1
      have hr := (HR.out ps[k] (List.getElem_mem hlt)).2
      have hr' := (HR'.out qs[k] (List.getElem_mem hlt')).2
      rw [HE.out k hlt hlt'] at hr'
      obtain ⟨q, qc, _, _, hq, _, _, _⟩ := hr.parts
      obtain ⟨q', qc', _, _, hq', _, _, _⟩ := hr'.parts
      rw [hq] at c2 hr
      rw [hq'] at d2 hr'
      clear hq hq' hlt'
      have c1 := cell_on HB.out c1
      have c2 := cell_on HB.out c2
      have d1 := cell_on HB.out d1
      have d2 := cell_on HB.out d2
      generalize ps[k].1 = g at *
      obtain ⟨nm, ms⟩ := g
      simp only at c1 c2 d1 d2 hr hr'
      have HT := Lib.hid (fun w h h' => eqGroup_any nm ms (.slice q ms.length qc) (.slice q' ms.length qc') w h h')
      have HA := Lib.hid hr; have HA' := Lib.hid hr'
      clear hr hr'
      go_wp2_with fail
      refine wp_region_held_drew (S := (fun w' => Below w.heap.size w w' ∧ w'.cell? ⟨b, off + k * 2, none⟩ = some (.string nm) ∧ w'.cell? ⟨b, off + k * 2 + 1, none⟩ = some (.slice q ms.length qc) ∧ w'.cell? ⟨b', off' + k * 2, none⟩ = some (.string nm) ∧ w'.cell? ⟨b', off' + k * 2 + 1, none⟩ = some (.slice q' ms.length qc'))) (by kernel_rfl) ?rx9s (fun hHeld => ?rx90)
      case rx9s => ((try dsimp only); exact ⟨HB.out.drew, c1, c2, d1, d2⟩)
      try simp only [Act.put, List.setIfInBounds_toArray, List.set_cons_zero, List.set_cons_succ]
      refine take_at 0 (some 17) (v := ?vx9_1) rfl rfl (by kernel_rfl) (by kernel_rfl) (by kernel_rfl) (fun _ _ _ h => h) (Or.inl ⟨by kernel_rfl, ?yx9_1⟩) hHeld ?zx9_1
      case yx9_1 => (intro wS hSw; (try dsimp only at hSw); go_simp; (try with_reducible rfl))
      try simp only [Act.put, List.setIfInBounds_toArray, List.set_cons_zero, List.set_cons_succ]
      refine take_at 1 (some 18) (v := ?vx9_2) rfl rfl (by kernel_rfl) (by kernel_rfl) (by kernel_rfl) (fun _ _ _ h => h) (Or.inl ⟨by kernel_rfl, ?yx9_2⟩) hHeld ?zx9_2
      case yx9_2 => (intro wS hSw; (try dsimp only at hSw); go_simp; (try with_reducible rfl))
      try simp only [Act.put, List.setIfInBounds_toArray, List.set_cons_zero, List.set_cons_succ]
      refine take_at 2 (some 19) (v := ?vx9_3) rfl rfl (by kernel_rfl) (by kernel_rfl) (by kernel_rfl) (fun _ _ _ h => h) (Or.inl ⟨by kernel_rfl, ?yx9_3⟩) hHeld ?zx9_3
      case yx9_3 => (intro wS hSw; (try dsimp only at hSw); go_simp; (try with_reducible rfl))
      try simp only [Act.put, List.setIfInBounds_toArray, List.set_cons_zero, List.set_cons_succ]
      refine take_at 3 (some 20) (v := ?vx9_4) rfl rfl (by kernel_rfl) (by kernel_rfl) (by kernel_rfl) (fun _ _ _ h => h) (Or.inl ⟨by kernel_rfl, ?yx9_4⟩) hHeld ?zx9_4
      case yx9_4 => (intro wS hSw; (try dsimp only at hSw); go_simp; (try with_reducible rfl))
      try simp only [Act.put, List.setIfInBounds_toArray, List.set_cons_zero, List.set_cons_succ]
      refine take_at 4 (some 21) (v := ?vx9_5) rfl rfl (by kernel_rfl) (by kernel_rfl) (by kernel_rfl) (fun _ _ _ h => h) (Or.inl ⟨by kernel_rfl, ?yx9_5⟩) hHeld ?zx9_5
      case yx9_5 => (intro wS hSw; (try dsimp only at hSw); go_simp; (try with_reducible rfl))
      try simp only [Act.put, List.setIfInBounds_toArray, List.set_cons_zero, List.set_cons_succ]
      refine take_at 5 (some 22) (v := ?vx9_6) rfl rfl (by kernel_rfl) (by kernel_rfl) (by kernel_rfl) (fun _ _ _ h => h) (Or.inl ⟨by kernel_rfl, ?yx9_6⟩) hHeld ?zx9_6
      case yx9_6 => (intro wS hSw; (try dsimp only at hSw); go_simp; (try with_reducible rfl))
      try simp only [Act.put, List.setIfInBounds_toArray, List.set_cons_zero, List.set_cons_succ]
      refine take_at 6 (some 23) (v := ?vx9_7) rfl rfl (by kernel_rfl) (by kernel_rfl) (by kernel_rfl) (fun _ _ _ h => h) (Or.inl ⟨by kernel_rfl, ?yx9_7⟩) hHeld ?zx9_7
      case yx9_7 => (intro wS hSw; (try dsimp only at hSw); go_simp; (try with_reducible rfl))
      try simp only [Act.put, List.setIfInBounds_toArray, List.set_cons_zero, List.set_cons_succ]
      refine take_at 7 (some 24) (v := ?vx9_8) rfl rfl (by kernel_rfl) (by kernel_rfl) (by kernel_rfl) (fun _ _ _ h => h) (Or.inl ⟨by kernel_rfl, ?yx9_8⟩) hHeld ?zx9_8
      case yx9_8 => (intro wS hSw; (try dsimp only at hSw); go_simp; (try with_reducible rfl))
      try simp only [Act.put, List.setIfInBounds_toArray, List.set_cons_zero, List.set_cons_succ]
      refine wpAnyH_ready (rs := [8]) (by kernel_rfl) (by simp) ?_
      refine cons_at (some 25) rfl rfl (by kernel_rfl) (fun K hK => ?kx9_10) AllReadyH.nil
      go_simp
      (go_at_call 20; refine (HT.out _ (HA.out.below hHeld.1) (HA'.out.below hHeld.1)).mono ?_; rintro e w' ⟨rfl, hbel⟩)
      try go_wp2_with fail
      refine hK.out _ _ ?sx9_10 (fun hHeld => ?_)
      case sx9_10 => ((try dsimp only); first | exact keepG4 (by assumption) hbel | assumption)
      clear hK K
      try simp only [Act.put, List.setIfInBounds_toArray, List.set_cons_zero, List.set_cons_succ]
      refine take_at 9 (some 26) (v := ?vx9_11) rfl rfl (by kernel_rfl) (by kernel_rfl) (by kernel_rfl) (fun _ _ _ h => h) (Or.inl ⟨by kernel_rfl, ?yx9_11⟩) hHeld ?zx9_11
      case yx9_11 => (intro wS hSw; (try dsimp only at hSw); go_simp; (try with_reducible rfl))
      try simp only [Act.put, List.setIfInBounds_toArray, List.set_cons_zero, List.set_cons_succ]
      refine wpAnyH_done (by kernel_rfl) ?_ _
      go_wp2
      go_roundw
      case rel => exact ⟨k + 1, by omega, by go_num, Lib.hid hHeld.1⟩
      case measure => simp [intOf]; omega
    · go_wp2
      go_ret
      exact ⟨rfl, HB.out⟩
end Go.Proofs.YtpgonlfaeejakaaDoor
