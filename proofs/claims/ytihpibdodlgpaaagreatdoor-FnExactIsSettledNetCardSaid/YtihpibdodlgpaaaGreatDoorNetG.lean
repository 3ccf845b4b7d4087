/- Contracts on lists of requests: the program's AreRequests, the reference's l12Good. -/
import Derived.Test.YtihpibdodlgpaaaGreatDoorNetH
namespace Go.Proofs.YtihpibdodlgpaaaGreatDoor
open Go.RowKit

/-- request k is right, and behind the one before it -/
def qkB (xs : List NRq) (b : Int) (k : Nat) : Bool := match xs[k]? with
  | none => true
  | some x => q1B x b && (match k with
    | 0 => true
    | m + 1 => match xs[m]? with
      | none => true
      | some y => decide (gp b y.n < gp b x.n))
def qsB (xs : List NRq) (b : Int) : Bool := inR b 0 65535 && decide ((xs.length : Int) ≤ 8) && (List.range xs.length).all (qkB xs b)
theorem qsB_bad {xs : List NRq} {b : Int} (k : Nat) (h : k < xs.length) (hb : qkB xs b k = false) : qsB xs b = false := by
  have : (List.range xs.length).all (qkB xs b) = false := by
    cases hr : (List.range xs.length).all (qkB xs b) with
    | false => rfl
    | true =>
      have := List.all_eq_true.1 hr k (List.mem_range.2 h)
      rw [hb] at this; cases this
  rw [qsB, this, Bool.and_false]
theorem qsB_good {xs : List NRq} {b : Int} (h0 : inR b 0 65535 = true) (h8 : (xs.length : Int) ≤ 8) (h : ∀ k, k < xs.length → qkB xs b k = true) : qsB xs b = true := by
  rw [qsB, h0, decide_eq_true h8, List.all_eq_true.2 fun k hk => h k (List.mem_range.1 hk)]; rfl
theorem qkB_zero {xs : List NRq} {b : Int} (h : 0 < xs.length) : qkB xs b 0 = q1B xs[0] b := by
  simp only [qkB, List.getElem?_eq_getElem h, Bool.and_true]
theorem qkB_succ {xs : List NRq} {b : Int} {m : Nat} (h : m + 1 < xs.length) : qkB xs b (m + 1) = (q1B xs[m + 1] b && decide (gp b xs[m].n < gp b xs[m + 1].n)) := by
  simp only [qkB, List.getElem?_eq_getElem h, List.getElem?_eq_getElem (show m < xs.length by omega)]
theorem qkB_bad1 {xs : List NRq} {b : Int} {k : Nat} (h : k < xs.length) (hq : q1B xs[k] b = false) : qkB xs b k = false := by
  simp only [qkB, List.getElem?_eq_getElem h, hq, Bool.false_and]
theorem q1B_serial {x : NRq} {b : Int} (h : q1B x b = true) : inR x.n 0 65535 = true := by
  simp only [q1B, Bool.and_eq_true] at h; exact h.1.1.1.1
theorem qkB_serial {xs : List NRq} {b : Int} {k : Nat} (h : k < xs.length) (hq : qkB xs b k = true) : inR xs[k].n 0 65535 = true := by
  simp only [qkB, List.getElem?_eq_getElem h, Bool.and_eq_true] at hq; exact q1B_serial hq.1
set_option maxRecDepth 100000 in
set_option maxHeartbeats 4000000 in
theorem nReqs_any (xs : List NRq) (v : Value) (b : Int) (w : World) (h : kRq.At 0 w v xs) (hn : xs.length ≤ 1048576) :
    Calls Tryz.prog 119 #[v, .int .i64 b] w fun e w' => e = .returned (.bool (qsB xs b)) ∧ Below w.heap.size w w' := by
  obtain ⟨p, cap, bk, off, rfl, hcap, hp, hcell⟩ := h.parts
  clear h
  have HCe := Lib.hid hcell; clear hcell
  have HPt := Lib.hid hp; clear hp
  cases h1 : inR b 0 65535
  · go_enter Tryz.func119, Tryz.ntmps119
    go_wp2_with (first | (go_at_call 86; refine (nSerial_any _ _).mono ?_; rintro e w' ⟨rfl, rfl⟩))
    go_ret
    exact ⟨ret_bool (by first | (simp [qsB, h1]; done) | (simp [qsB, h1]; intros; omega)), Below.refl _ _⟩
  · by_cases h2 : (xs.length : Int) ≤ 8
    · go_enter Tryz.func119, Tryz.ntmps119
      go_wp2_with (first | (go_at_call 86; refine (nSerial_any _ _).mono ?_; rintro e w' ⟨rfl, rfl⟩))
      go_loopw [5, 17] (fun _ i wr => ∃ k : Nat, k ≤ xs.length ∧ i = .int .i64 k ∧ Hid (∀ j, j < k → qkB xs b j = true) ∧ Hid (Below w.heap.size w wr)) (fun _ i _ => xs.length - (intOf i).toNat)
      case atStart => exact ⟨0, Nat.zero_le _, rfl, Lib.hid fun j h => absurd h (by omega), Lib.hid (Below.refl _ _)⟩
      case round =>
        obtain ⟨k, hk, rfl, HF, HB⟩ := hrel
        have hzb := HB.out.size
        by_cases hlt : k < xs.length
        · obtain rfl := HPt.out (by omega)
          obtain ⟨c, hC, hcl⟩ := HCe.out k hlt
          have HN : Hid (qkB xs b k = true → ∀ j, j < k + 1 → qkB xs b j = true) := Lib.hid (fun h j hj => by
            by_cases he : j = k
            · subst he; exact h
            · exact HF.out j (by omega))
          have HBd := Lib.hid (fun h => qsB_bad (b := b) k hlt h)
          have HB1 := Lib.hid (fun h => qkB_bad1 (b := b) hlt h)
          by_cases h00 : k = 0
          · subst h00
            have HK := Lib.hid (qkB_zero (b := b) hlt)
            obtain rfl : c = [.int .i64 xs[0].n, .int .i64 xs[0].s, .int .i64 xs[0].u, .int .i64 xs[0].t] := hC
            have d0 := cell_on HB.out (hcl 0 _ rfl)
            rw [show off + 0 * kRq.sz + 0 = off + 0 * 4 from rfl] at d0
            have d1 := cell_on HB.out (hcl 1 _ rfl)
            rw [show off + 0 * kRq.sz + 1 = off + 0 * 4 + 1 from rfl] at d1
            have d2 := cell_on HB.out (hcl 2 _ rfl)
            rw [show off + 0 * kRq.sz + 2 = off + 0 * 4 + 2 from rfl] at d2
            have d3 := cell_on HB.out (hcl 3 _ rfl)
            rw [show off + 0 * kRq.sz + 3 = off + 0 * 4 + 3 from rfl] at d3
            simp only [Nat.zero_mul, Nat.add_zero] at d0 d1 d2 d3
            clear hcl
            generalize xs[0] = x at *
            obtain ⟨n, s, u, t⟩ := x
            dsimp only at d0 d1 d2 d3
            have HQ := Lib.hid (fun w => nRequest_any ⟨n, s, u, t⟩ b w h1)
            cases hq : q1B ⟨n, s, u, t⟩ b
            · rw [hq] at HQ
              have HX := Lib.hid (HBd.out (HB1.out hq))
              clear hq
              go_wp2_with fail
              refine wp_region_held_drew (S := (fun w' => Below (wr.alloc (.cells #[.int .i64 n, .int .i64 s, .int .i64 u, .int .i64 t] 164)).heap.size (wr.alloc (.cells #[.int .i64 n, .int .i64 s, .int .i64 u, .int .i64 t] 164)) w' ∧ w'.cell? ⟨wr.heap.size, 0, none⟩ = some (.int .i64 n) ∧ w'.cell? ⟨wr.heap.size, 1, none⟩ = some (.int .i64 s) ∧ w'.cell? ⟨wr.heap.size, 2, none⟩ = some (.int .i64 u) ∧ w'.cell? ⟨wr.heap.size, 3, none⟩ = some (.int .i64 t))) (by kernel_rfl) ?rx1s (fun hHeld => ?rx10)
              case rx1s => ((try dsimp only); exact ⟨(Below.refl _ _).drew, by simp, by simp, by simp, by simp⟩)
              try simp only [Act.put, List.setIfInBounds_toArray, List.set_cons_zero, List.set_cons_succ]
              refine take_at 0 (some 22) (v := ?vx1_1) rfl rfl (by kernel_rfl) (by kernel_rfl) (by kernel_rfl) (fun _ _ _ h => h) (Or.inl ⟨by kernel_rfl, ?yx1_1⟩) hHeld ?zx1_1
              case yx1_1 => (intro wS hSw; (try dsimp only at hSw); go_simp; (try with_reducible rfl))
              try simp only [Act.put, List.setIfInBounds_toArray, List.set_cons_zero, List.set_cons_succ]
              refine take_at 1 (some 23) (v := ?vx1_2) rfl rfl (by kernel_rfl) (by kernel_rfl) (by kernel_rfl) (fun _ _ _ h => h) (Or.inl ⟨by kernel_rfl, ?yx1_2⟩) hHeld ?zx1_2
              case yx1_2 => (intro wS hSw; (try dsimp only at hSw); go_simp; (try with_reducible rfl))
              try simp only [Act.put, List.setIfInBounds_toArray, List.set_cons_zero, List.set_cons_succ]
              refine wpAnyH_ready (rs := [2]) (by kernel_rfl) (by simp) ?_
              refine cons_at (some 24) rfl rfl (by kernel_rfl) (fun K hK => ?kx1_4) AllReadyH.nil
              go_simp
              (go_at_call 139; refine (HQ.out _).mono ?_; rintro e w' ⟨rfl, hbel⟩)
              try go_wp2_with fail
              refine hK.out _ _ ?sx1_4 (fun hHeld => ?_)
              case sx1_4 => ((try dsimp only); first | exact keepB4 (by assumption) hbel | assumption)
              clear hK K
              try simp only [Act.put, List.setIfInBounds_toArray, List.set_cons_zero, List.set_cons_succ]
              refine take_at 3 (some 25) (v := ?vx1_5) rfl rfl (by kernel_rfl) (by kernel_rfl) (by kernel_rfl) (fun _ _ _ h => h) (Or.inl ⟨by kernel_rfl, ?yx1_5⟩) hHeld ?zx1_5
              case yx1_5 => (intro wS hSw; (try dsimp only at hSw); go_simp; (try with_reducible rfl))
              try simp only [Act.put, List.setIfInBounds_toArray, List.set_cons_zero, List.set_cons_succ]
              refine take_at 4 (some 26) (v := ?vx1_6) rfl rfl (by kernel_rfl) (by kernel_rfl) (by kernel_rfl) (fun _ _ _ h => h) (Or.inl ⟨by kernel_rfl, ?yx1_6⟩) hHeld ?zx1_6
              case yx1_6 => (intro wS hSw; (try dsimp only at hSw); go_simp; (try with_reducible rfl))
              try simp only [Act.put, List.setIfInBounds_toArray, List.set_cons_zero, List.set_cons_succ]
              refine take_at 5 (some 27) (v := undef) rfl rfl (by kernel_rfl) (by kernel_rfl) (by kernel_rfl) (fun _ _ _ h => h) (Or.inr ⟨by kernel_rfl, rfl⟩) hHeld ?_
              try simp only [Act.put, List.setIfInBounds_toArray, List.set_cons_zero, List.set_cons_succ]
              refine take_at 6 (some 28) (v := undef) rfl rfl (by kernel_rfl) (by kernel_rfl) (by kernel_rfl) (fun _ _ _ h => h) (Or.inr ⟨by kernel_rfl, rfl⟩) hHeld ?_
              try simp only [Act.put, List.setIfInBounds_toArray, List.set_cons_zero, List.set_cons_succ]
              refine take_at 7 (some 29) (v := undef) rfl rfl (by kernel_rfl) (by kernel_rfl) (by kernel_rfl) (fun _ _ _ h => h) (Or.inr ⟨by kernel_rfl, rfl⟩) hHeld ?_
              try simp only [Act.put, List.setIfInBounds_toArray, List.set_cons_zero, List.set_cons_succ]
              refine take_at 8 (some 30) (v := undef) rfl rfl (by kernel_rfl) (by kernel_rfl) (by kernel_rfl) (fun _ _ _ h => h) (Or.inr ⟨by kernel_rfl, rfl⟩) hHeld ?_
              try simp only [Act.put, List.setIfInBounds_toArray, List.set_cons_zero, List.set_cons_succ]
              refine take_at 9 (some 31) (v := undef) rfl rfl (by kernel_rfl) (by kernel_rfl) (by kernel_rfl) (fun _ _ _ h => h) (Or.inr ⟨by kernel_rfl, rfl⟩) hHeld ?_
              try simp only [Act.put, List.setIfInBounds_toArray, List.set_cons_zero, List.set_cons_succ]
              refine take_at 10 (some 32) (v := undef) rfl rfl (by kernel_rfl) (by kernel_rfl) (by kernel_rfl) (fun _ _ _ h => h) (Or.inr ⟨by kernel_rfl, rfl⟩) hHeld ?_
              try simp only [Act.put, List.setIfInBounds_toArray, List.set_cons_zero, List.set_cons_succ]
              refine take_at 11 (some 33) (v := undef) rfl rfl (by kernel_rfl) (by kernel_rfl) (by kernel_rfl) (fun _ _ _ h => h) (Or.inr ⟨by kernel_rfl, rfl⟩) hHeld ?_
              try simp only [Act.put, List.setIfInBounds_toArray, List.set_cons_zero, List.set_cons_succ]
              refine take_at 12 (some 34) (v := undef) rfl rfl (by kernel_rfl) (by kernel_rfl) (by kernel_rfl) (fun _ _ _ h => h) (Or.inr ⟨by kernel_rfl, rfl⟩) hHeld ?_
              try simp only [Act.put, List.setIfInBounds_toArray, List.set_cons_zero, List.set_cons_succ]
              refine take_at 13 (some 35) (v := undef) rfl rfl (by kernel_rfl) (by kernel_rfl) (by kernel_rfl) (fun _ _ _ h => h) (Or.inr ⟨by kernel_rfl, rfl⟩) hHeld ?_
              try simp only [Act.put, List.setIfInBounds_toArray, List.set_cons_zero, List.set_cons_succ]
              refine take_at 14 (some 36) (v := undef) rfl rfl (by kernel_rfl) (by kernel_rfl) (by kernel_rfl) (fun _ _ _ h => h) (Or.inr ⟨by kernel_rfl, rfl⟩) hHeld ?_
              try simp only [Act.put, List.setIfInBounds_toArray, List.set_cons_zero, List.set_cons_succ]
              refine take_at 15 (some 37) (v := undef) rfl rfl (by kernel_rfl) (by kernel_rfl) (by kernel_rfl) (fun _ _ _ h => h) (Or.inr ⟨by kernel_rfl, rfl⟩) hHeld ?_
              try simp only [Act.put, List.setIfInBounds_toArray, List.set_cons_zero, List.set_cons_succ]
              refine take_at 16 (some 38) (v := undef) rfl rfl (by kernel_rfl) (by kernel_rfl) (by kernel_rfl) (fun _ _ _ h => h) (Or.inr ⟨by kernel_rfl, rfl⟩) hHeld ?_
              try simp only [Act.put, List.setIfInBounds_toArray, List.set_cons_zero, List.set_cons_succ]
              refine take_at 17 (some 39) (v := undef) rfl rfl (by kernel_rfl) (by kernel_rfl) (by kernel_rfl) (fun _ _ _ h => h) (Or.inr ⟨by kernel_rfl, rfl⟩) hHeld ?_
              try simp only [Act.put, List.setIfInBounds_toArray, List.set_cons_zero, List.set_cons_succ]
              refine take_at 18 (some 40) (v := undef) rfl rfl (by kernel_rfl) (by kernel_rfl) (by kernel_rfl) (fun _ _ _ h => h) (Or.inr ⟨by kernel_rfl, rfl⟩) hHeld ?_
              try simp only [Act.put, List.setIfInBounds_toArray, List.set_cons_zero, List.set_cons_succ]
              refine take_at 19 (some 41) (v := undef) rfl rfl (by kernel_rfl) (by kernel_rfl) (by kernel_rfl) (fun _ _ _ h => h) (Or.inr ⟨by kernel_rfl, rfl⟩) hHeld ?_
              try simp only [Act.put, List.setIfInBounds_toArray, List.set_cons_zero, List.set_cons_succ]
              refine take_at 20 (some 42) (v := undef) rfl rfl (by kernel_rfl) (by kernel_rfl) (by kernel_rfl) (fun _ _ _ h => h) (Or.inr ⟨by kernel_rfl, rfl⟩) hHeld ?_
              try simp only [Act.put, List.setIfInBounds_toArray, List.set_cons_zero, List.set_cons_succ]
              refine take_at 21 (some 43) (v := undef) rfl rfl (by kernel_rfl) (by kernel_rfl) (by kernel_rfl) (fun _ _ _ h => h) (Or.inr ⟨by kernel_rfl, rfl⟩) hHeld ?_
              try simp only [Act.put, List.setIfInBounds_toArray, List.set_cons_zero, List.set_cons_succ]
              refine take_at 22 (some 44) (v := ?vx1_24) rfl rfl (by kernel_rfl) (by kernel_rfl) (by kernel_rfl) (fun _ _ _ h => h) (Or.inl ⟨by kernel_rfl, ?yx1_24⟩) hHeld ?zx1_24
              case yx1_24 => (intro wS hSw; (try dsimp only at hSw); go_simp; (try with_reducible rfl))
              try simp only [Act.put, List.setIfInBounds_toArray, List.set_cons_zero, List.set_cons_succ]
              refine wpAnyH_done (by kernel_rfl) ?_ _
              go_wp2
              go_ret
              exact ⟨ret_bool HX.out.symm, (HB.out.trans ((Below.trans (below_alloc1 wr (.cells #[.int .i64 n, .int .i64 s, .int .i64 u, .int .i64 t] 164)) (hHeld.1.mono (by simp))).mono HB.out.size))⟩
            · rw [hq] at HQ
              have HX := Lib.hid (HN.out (by rw [HK.out]; exact hq))
              clear hq
              go_wp2_with fail
              refine wp_region_held_drew (S := (fun w' => Below (wr.alloc (.cells #[.int .i64 n, .int .i64 s, .int .i64 u, .int .i64 t] 164)).heap.size (wr.alloc (.cells #[.int .i64 n, .int .i64 s, .int .i64 u, .int .i64 t] 164)) w' ∧ w'.cell? ⟨wr.heap.size, 0, none⟩ = some (.int .i64 n) ∧ w'.cell? ⟨wr.heap.size, 1, none⟩ = some (.int .i64 s) ∧ w'.cell? ⟨wr.heap.size, 2, none⟩ = some (.int .i64 u) ∧ w'.cell? ⟨wr.heap.size, 3, none⟩ = some (.int .i64 t))) (by kernel_rfl) ?rx2s (fun hHeld => ?rx20)
              case rx2s => ((try dsimp only); exact ⟨(Below.refl _ _).drew, by simp, by simp, by simp, by simp⟩)
              try simp only [Act.put, List.setIfInBounds_toArray, List.set_cons_zero, List.set_cons_succ]
              refine take_at 0 (some 22) (v := ?vx2_1) rfl rfl (by kernel_rfl) (by kernel_rfl) (by kernel_rfl) (fun _ _ _ h => h) (Or.inl ⟨by kernel_rfl, ?yx2_1⟩) hHeld ?zx2_1
              case yx2_1 => (intro wS hSw; (try dsimp only at hSw); go_simp; (try with_reducible rfl))
              try simp only [Act.put, List.setIfInBounds_toArray, List.set_cons_zero, List.set_cons_succ]
              refine take_at 1 (some 23) (v := ?vx2_2) rfl rfl (by kernel_rfl) (by kernel_rfl) (by kernel_rfl) (fun _ _ _ h => h) (Or.inl ⟨by kernel_rfl, ?yx2_2⟩) hHeld ?zx2_2
              case yx2_2 => (intro wS hSw; (try dsimp only at hSw); go_simp; (try with_reducible rfl))
              try simp only [Act.put, List.setIfInBounds_toArray, List.set_cons_zero, List.set_cons_succ]
              refine wpAnyH_ready (rs := [2]) (by kernel_rfl) (by simp) ?_
              refine cons_at (some 24) rfl rfl (by kernel_rfl) (fun K hK => ?kx2_4) AllReadyH.nil
              go_simp
              (go_at_call 139; refine (HQ.out _).mono ?_; rintro e w' ⟨rfl, hbel⟩)
              try go_wp2_with fail
              refine hK.out _ _ ?sx2_4 (fun hHeld => ?_)
              case sx2_4 => ((try dsimp only); first | exact keepB4 (by assumption) hbel | assumption)
              clear hK K
              try simp only [Act.put, List.setIfInBounds_toArray, List.set_cons_zero, List.set_cons_succ]
              refine take_at 3 (some 25) (v := ?vx2_5) rfl rfl (by kernel_rfl) (by kernel_rfl) (by kernel_rfl) (fun _ _ _ h => h) (Or.inl ⟨by kernel_rfl, ?yx2_5⟩) hHeld ?zx2_5
              case yx2_5 => (intro wS hSw; (try dsimp only at hSw); go_simp; (try with_reducible rfl))
              try simp only [Act.put, List.setIfInBounds_toArray, List.set_cons_zero, List.set_cons_succ]
              refine take_at 4 (some 26) (v := ?vx2_6) rfl rfl (by kernel_rfl) (by kernel_rfl) (by kernel_rfl) (fun _ _ _ h => h) (Or.inl ⟨by kernel_rfl, ?yx2_6⟩) hHeld ?zx2_6
              case yx2_6 => (intro wS hSw; (try dsimp only at hSw); go_simp; (try with_reducible rfl))
              try simp only [Act.put, List.setIfInBounds_toArray, List.set_cons_zero, List.set_cons_succ]
              refine take_at 5 (some 27) (v := ?vx2_7) rfl rfl (by kernel_rfl) (by kernel_rfl) (by kernel_rfl) (fun _ _ _ h => h) (Or.inl ⟨by kernel_rfl, ?yx2_7⟩) hHeld ?zx2_7
              case yx2_7 => (intro wS hSw; (try dsimp only at hSw); go_simp; (try with_reducible rfl))
              try simp only [Act.put, List.setIfInBounds_toArray, List.set_cons_zero, List.set_cons_succ]
              refine take_at 6 (some 28) (v := ?vx2_8) rfl rfl (by kernel_rfl) (by kernel_rfl) (by kernel_rfl) (fun _ _ _ h => h) (Or.inl ⟨by kernel_rfl, ?yx2_8⟩) hHeld ?zx2_8
              case yx2_8 => (intro wS hSw; (try dsimp only at hSw); go_simp; (try with_reducible rfl))
              try simp only [Act.put, List.setIfInBounds_toArray, List.set_cons_zero, List.set_cons_succ]
              refine take_at 7 (some 29) (v := ?vx2_9) rfl rfl (by kernel_rfl) (by kernel_rfl) (by kernel_rfl) (fun _ _ _ h => h) (Or.inl ⟨by kernel_rfl, ?yx2_9⟩) hHeld ?zx2_9
              case yx2_9 => (intro wS hSw; (try dsimp only at hSw); go_simp; (try with_reducible rfl))
              try simp only [Act.put, List.setIfInBounds_toArray, List.set_cons_zero, List.set_cons_succ]
              refine take_at 8 (some 30) (v := undef) rfl rfl (by kernel_rfl) (by kernel_rfl) (by kernel_rfl) (fun _ _ _ h => h) (Or.inr ⟨by kernel_rfl, rfl⟩) hHeld ?_
              try simp only [Act.put, List.setIfInBounds_toArray, List.set_cons_zero, List.set_cons_succ]
              refine take_at 9 (some 31) (v := undef) rfl rfl (by kernel_rfl) (by kernel_rfl) (by kernel_rfl) (fun _ _ _ h => h) (Or.inr ⟨by kernel_rfl, rfl⟩) hHeld ?_
              try simp only [Act.put, List.setIfInBounds_toArray, List.set_cons_zero, List.set_cons_succ]
              refine take_at 10 (some 32) (v := undef) rfl rfl (by kernel_rfl) (by kernel_rfl) (by kernel_rfl) (fun _ _ _ h => h) (Or.inr ⟨by kernel_rfl, rfl⟩) hHeld ?_
              try simp only [Act.put, List.setIfInBounds_toArray, List.set_cons_zero, List.set_cons_succ]
              refine take_at 11 (some 33) (v := undef) rfl rfl (by kernel_rfl) (by kernel_rfl) (by kernel_rfl) (fun _ _ _ h => h) (Or.inr ⟨by kernel_rfl, rfl⟩) hHeld ?_
              try simp only [Act.put, List.setIfInBounds_toArray, List.set_cons_zero, List.set_cons_succ]
              refine take_at 12 (some 34) (v := undef) rfl rfl (by kernel_rfl) (by kernel_rfl) (by kernel_rfl) (fun _ _ _ h => h) (Or.inr ⟨by kernel_rfl, rfl⟩) hHeld ?_
              try simp only [Act.put, List.setIfInBounds_toArray, List.set_cons_zero, List.set_cons_succ]
              refine take_at 13 (some 35) (v := undef) rfl rfl (by kernel_rfl) (by kernel_rfl) (by kernel_rfl) (fun _ _ _ h => h) (Or.inr ⟨by kernel_rfl, rfl⟩) hHeld ?_
              try simp only [Act.put, List.setIfInBounds_toArray, List.set_cons_zero, List.set_cons_succ]
              refine take_at 14 (some 36) (v := undef) rfl rfl (by kernel_rfl) (by kernel_rfl) (by kernel_rfl) (fun _ _ _ h => h) (Or.inr ⟨by kernel_rfl, rfl⟩) hHeld ?_
              try simp only [Act.put, List.setIfInBounds_toArray, List.set_cons_zero, List.set_cons_succ]
              refine take_at 15 (some 37) (v := undef) rfl rfl (by kernel_rfl) (by kernel_rfl) (by kernel_rfl) (fun _ _ _ h => h) (Or.inr ⟨by kernel_rfl, rfl⟩) hHeld ?_
              try simp only [Act.put, List.setIfInBounds_toArray, List.set_cons_zero, List.set_cons_succ]
              refine take_at 16 (some 38) (v := undef) rfl rfl (by kernel_rfl) (by kernel_rfl) (by kernel_rfl) (fun _ _ _ h => h) (Or.inr ⟨by kernel_rfl, rfl⟩) hHeld ?_
              try simp only [Act.put, List.setIfInBounds_toArray, List.set_cons_zero, List.set_cons_succ]
              refine take_at 17 (some 39) (v := undef) rfl rfl (by kernel_rfl) (by kernel_rfl) (by kernel_rfl) (fun _ _ _ h => h) (Or.inr ⟨by kernel_rfl, rfl⟩) hHeld ?_
              try simp only [Act.put, List.setIfInBounds_toArray, List.set_cons_zero, List.set_cons_succ]
              refine take_at 18 (some 40) (v := undef) rfl rfl (by kernel_rfl) (by kernel_rfl) (by kernel_rfl) (fun _ _ _ h => h) (Or.inr ⟨by kernel_rfl, rfl⟩) hHeld ?_
              try simp only [Act.put, List.setIfInBounds_toArray, List.set_cons_zero, List.set_cons_succ]
              refine take_at 19 (some 41) (v := undef) rfl rfl (by kernel_rfl) (by kernel_rfl) (by kernel_rfl) (fun _ _ _ h => h) (Or.inr ⟨by kernel_rfl, rfl⟩) hHeld ?_
              try simp only [Act.put, List.setIfInBounds_toArray, List.set_cons_zero, List.set_cons_succ]
              refine take_at 20 (some 42) (v := undef) rfl rfl (by kernel_rfl) (by kernel_rfl) (by kernel_rfl) (fun _ _ _ h => h) (Or.inr ⟨by kernel_rfl, rfl⟩) hHeld ?_
              try simp only [Act.put, List.setIfInBounds_toArray, List.set_cons_zero, List.set_cons_succ]
              refine take_at 21 (some 43) (v := ?vx2_23) rfl rfl (by kernel_rfl) (by kernel_rfl) (by kernel_rfl) (fun _ _ _ h => h) (Or.inl ⟨by kernel_rfl, ?yx2_23⟩) hHeld ?zx2_23
              case yx2_23 => (intro wS hSw; (try dsimp only at hSw); go_simp; (try with_reducible rfl))
              try simp only [Act.put, List.setIfInBounds_toArray, List.set_cons_zero, List.set_cons_succ]
              refine take_at 22 (some 44) (v := ?vx2_24) rfl rfl (by kernel_rfl) (by kernel_rfl) (by kernel_rfl) (fun _ _ _ h => h) (Or.inl ⟨by kernel_rfl, ?yx2_24⟩) hHeld ?zx2_24
              case yx2_24 => (intro wS hSw; (try dsimp only at hSw); go_simp; (try with_reducible rfl))
              try simp only [Act.put, List.setIfInBounds_toArray, List.set_cons_zero, List.set_cons_succ]
              refine wpAnyH_done (by kernel_rfl) ?_ _
              go_wp2
              go_roundw
              case rel => exact ⟨0 + 1, by omega, by go_num, HX, Lib.hid (HB.out.trans ((Below.trans (below_alloc1 wr (.cells #[.int .i64 n, .int .i64 s, .int .i64 u, .int .i64 t] 164)) (hHeld.1.mono (by simp))).mono HB.out.size))⟩
              case measure => simp [intOf]; omega
          · obtain ⟨m, hm⟩ : ∃ m, k = m + 1 := ⟨k - 1, by omega⟩
            have hm1 : m < xs.length := by omega
            have HK : Hid (qkB xs b k = (q1B xs[k] b && decide (gp b xs[m].n < gp b xs[k].n))) := Lib.hid (by subst hm; exact qkB_succ hlt)
            have hys := qkB_serial hm1 (HF.out m (by omega))
            obtain ⟨cy, hCy, hcy⟩ := HCe.out m hm1
            obtain rfl : c = [.int .i64 xs[k].n, .int .i64 xs[k].s, .int .i64 xs[k].u, .int .i64 xs[k].t] := hC
            have d0 := cell_on HB.out (hcl 0 _ rfl)
            rw [show off + k * kRq.sz + 0 = off + k * 4 from rfl] at d0
            have d1 := cell_on HB.out (hcl 1 _ rfl)
            rw [show off + k * kRq.sz + 1 = off + k * 4 + 1 from rfl] at d1
            have d2 := cell_on HB.out (hcl 2 _ rfl)
            rw [show off + k * kRq.sz + 2 = off + k * 4 + 2 from rfl] at d2
            have d3 := cell_on HB.out (hcl 3 _ rfl)
            rw [show off + k * kRq.sz + 3 = off + k * 4 + 3 from rfl] at d3
            obtain rfl : cy = [.int .i64 xs[m].n, .int .i64 xs[m].s, .int .i64 xs[m].u, .int .i64 xs[m].t] := hCy
            have g0 := cell_on HB.out (hcy 0 _ rfl)
            rw [show off + m * kRq.sz + 0 = off + m * 4 from rfl] at g0
            clear hcl hcy
            have e1 : IntKind.i64.wrap ((k : Int) - 1) = (m : Int) := by rw [IntKind.wrap_i64]; omega
            have e2 : wrap64 ((k : Int) - 1) = (m : Int) := by simp only [wrap64]; omega
            have e3 : (k : Int) - 1 = (m : Int) := by omega
            have e4 : (m : Int) < (xs.length : Int) := by omega
            have e5 : 0 < k := by omega
            have e7 : IntKind.i64.wrap (m : Int) = (m : Int) := by rw [IntKind.wrap_i64]; omega
            have e6 : (0 : Int) < (k : Int) := by omega
            clear hm
            generalize xs[k] = x at *
            generalize xs[m] = y at *
            obtain ⟨n, s, u, t⟩ := x
            obtain ⟨yn, ys, yu, yt⟩ := y
            dsimp only at d0 d1 d2 d3 g0 hys
            have HQ := Lib.hid (fun w => nRequest_any ⟨n, s, u, t⟩ b w h1)
            have gW := cell_on (below_alloc1 wr (.cells #[.int .i64 n, .int .i64 s, .int .i64 u, .int .i64 t] 164)) g0
            cases hq : q1B ⟨n, s, u, t⟩ b
            · rw [hq] at HQ
              have HX := Lib.hid (HBd.out (HB1.out hq))
              clear hq
              go_wp2_with fail
              refine wp_region_held_drew (S := (fun w' => Below (wr.alloc (.cells #[.int .i64 n, .int .i64 s, .int .i64 u, .int .i64 t] 164)).heap.size (wr.alloc (.cells #[.int .i64 n, .int .i64 s, .int .i64 u, .int .i64 t] 164)) w' ∧ w'.cell? ⟨wr.heap.size, 0, none⟩ = some (.int .i64 n) ∧ w'.cell? ⟨wr.heap.size, 1, none⟩ = some (.int .i64 s) ∧ w'.cell? ⟨wr.heap.size, 2, none⟩ = some (.int .i64 u) ∧ w'.cell? ⟨wr.heap.size, 3, none⟩ = some (.int .i64 t))) (by kernel_rfl) ?rx3s (fun hHeld => ?rx30)
              case rx3s => ((try dsimp only); exact ⟨(Below.refl _ _).drew, by simp, by simp, by simp, by simp⟩)
              try simp only [Act.put, List.setIfInBounds_toArray, List.set_cons_zero, List.set_cons_succ]
              refine take_at 0 (some 22) (v := ?vx3_1) rfl rfl (by kernel_rfl) (by kernel_rfl) (by kernel_rfl) (fun _ _ _ h => h) (Or.inl ⟨by kernel_rfl, ?yx3_1⟩) hHeld ?zx3_1
              case yx3_1 => (intro wS hSw; (try dsimp only at hSw); go_simp; (try with_reducible rfl))
              try simp only [Act.put, List.setIfInBounds_toArray, List.set_cons_zero, List.set_cons_succ]
              refine take_at 1 (some 23) (v := ?vx3_2) rfl rfl (by kernel_rfl) (by kernel_rfl) (by kernel_rfl) (fun _ _ _ h => h) (Or.inl ⟨by kernel_rfl, ?yx3_2⟩) hHeld ?zx3_2
              case yx3_2 => (intro wS hSw; (try dsimp only at hSw); go_simp; (try with_reducible rfl))
              try simp only [Act.put, List.setIfInBounds_toArray, List.set_cons_zero, List.set_cons_succ]
              refine wpAnyH_ready (rs := [2]) (by kernel_rfl) (by simp) ?_
              refine cons_at (some 24) rfl rfl (by kernel_rfl) (fun K hK => ?kx3_4) AllReadyH.nil
              go_simp
              (go_at_call 139; refine (HQ.out _).mono ?_; rintro e w' ⟨rfl, hbel⟩)
              try go_wp2_with fail
              refine hK.out _ _ ?sx3_4 (fun hHeld => ?_)
              case sx3_4 => ((try dsimp only); first | exact keepB4 (by assumption) hbel | assumption)
              clear hK K
              try simp only [Act.put, List.setIfInBounds_toArray, List.set_cons_zero, List.set_cons_succ]
              refine take_at 3 (some 25) (v := ?vx3_5) rfl rfl (by kernel_rfl) (by kernel_rfl) (by kernel_rfl) (fun _ _ _ h => h) (Or.inl ⟨by kernel_rfl, ?yx3_5⟩) hHeld ?zx3_5
              case yx3_5 => (intro wS hSw; (try dsimp only at hSw); go_simp; (try with_reducible rfl))
              try simp only [Act.put, List.setIfInBounds_toArray, List.set_cons_zero, List.set_cons_succ]
              refine take_at 4 (some 26) (v := ?vx3_6) rfl rfl (by kernel_rfl) (by kernel_rfl) (by kernel_rfl) (fun _ _ _ h => h) (Or.inl ⟨by kernel_rfl, ?yx3_6⟩) hHeld ?zx3_6
              case yx3_6 => (intro wS hSw; (try dsimp only at hSw); go_simp; (try with_reducible rfl))
              try simp only [Act.put, List.setIfInBounds_toArray, List.set_cons_zero, List.set_cons_succ]
              refine take_at 5 (some 27) (v := undef) rfl rfl (by kernel_rfl) (by kernel_rfl) (by kernel_rfl) (fun _ _ _ h => h) (Or.inr ⟨by kernel_rfl, rfl⟩) hHeld ?_
              try simp only [Act.put, List.setIfInBounds_toArray, List.set_cons_zero, List.set_cons_succ]
              refine take_at 6 (some 28) (v := undef) rfl rfl (by kernel_rfl) (by kernel_rfl) (by kernel_rfl) (fun _ _ _ h => h) (Or.inr ⟨by kernel_rfl, rfl⟩) hHeld ?_
              try simp only [Act.put, List.setIfInBounds_toArray, List.set_cons_zero, List.set_cons_succ]
              refine take_at 7 (some 29) (v := undef) rfl rfl (by kernel_rfl) (by kernel_rfl) (by kernel_rfl) (fun _ _ _ h => h) (Or.inr ⟨by kernel_rfl, rfl⟩) hHeld ?_
              try simp only [Act.put, List.setIfInBounds_toArray, List.set_cons_zero, List.set_cons_succ]
              refine take_at 8 (some 30) (v := undef) rfl rfl (by kernel_rfl) (by kernel_rfl) (by kernel_rfl) (fun _ _ _ h => h) (Or.inr ⟨by kernel_rfl, rfl⟩) hHeld ?_
              try simp only [Act.put, List.setIfInBounds_toArray, List.set_cons_zero, List.set_cons_succ]
              refine take_at 9 (some 31) (v := undef) rfl rfl (by kernel_rfl) (by kernel_rfl) (by kernel_rfl) (fun _ _ _ h => h) (Or.inr ⟨by kernel_rfl, rfl⟩) hHeld ?_
              try simp only [Act.put, List.setIfInBounds_toArray, List.set_cons_zero, List.set_cons_succ]
              refine take_at 10 (some 32) (v := undef) rfl rfl (by kernel_rfl) (by kernel_rfl) (by kernel_rfl) (fun _ _ _ h => h) (Or.inr ⟨by kernel_rfl, rfl⟩) hHeld ?_
              try simp only [Act.put, List.setIfInBounds_toArray, List.set_cons_zero, List.set_cons_succ]
              refine take_at 11 (some 33) (v := undef) rfl rfl (by kernel_rfl) (by kernel_rfl) (by kernel_rfl) (fun _ _ _ h => h) (Or.inr ⟨by kernel_rfl, rfl⟩) hHeld ?_
              try simp only [Act.put, List.setIfInBounds_toArray, List.set_cons_zero, List.set_cons_succ]
              refine take_at 12 (some 34) (v := undef) rfl rfl (by kernel_rfl) (by kernel_rfl) (by kernel_rfl) (fun _ _ _ h => h) (Or.inr ⟨by kernel_rfl, rfl⟩) hHeld ?_
              try simp only [Act.put, List.setIfInBounds_toArray, List.set_cons_zero, List.set_cons_succ]
              refine take_at 13 (some 35) (v := undef) rfl rfl (by kernel_rfl) (by kernel_rfl) (by kernel_rfl) (fun _ _ _ h => h) (Or.inr ⟨by kernel_rfl, rfl⟩) hHeld ?_
              try simp only [Act.put, List.setIfInBounds_toArray, List.set_cons_zero, List.set_cons_succ]
              refine take_at 14 (some 36) (v := undef) rfl rfl (by kernel_rfl) (by kernel_rfl) (by kernel_rfl) (fun _ _ _ h => h) (Or.inr ⟨by kernel_rfl, rfl⟩) hHeld ?_
              try simp only [Act.put, List.setIfInBounds_toArray, List.set_cons_zero, List.set_cons_succ]
              refine take_at 15 (some 37) (v := undef) rfl rfl (by kernel_rfl) (by kernel_rfl) (by kernel_rfl) (fun _ _ _ h => h) (Or.inr ⟨by kernel_rfl, rfl⟩) hHeld ?_
              try simp only [Act.put, List.setIfInBounds_toArray, List.set_cons_zero, List.set_cons_succ]
              refine take_at 16 (some 38) (v := undef) rfl rfl (by kernel_rfl) (by kernel_rfl) (by kernel_rfl) (fun _ _ _ h => h) (Or.inr ⟨by kernel_rfl, rfl⟩) hHeld ?_
              try simp only [Act.put, List.setIfInBounds_toArray, List.set_cons_zero, List.set_cons_succ]
              refine take_at 17 (some 39) (v := undef) rfl rfl (by kernel_rfl) (by kernel_rfl) (by kernel_rfl) (fun _ _ _ h => h) (Or.inr ⟨by kernel_rfl, rfl⟩) hHeld ?_
              try simp only [Act.put, List.setIfInBounds_toArray, List.set_cons_zero, List.set_cons_succ]
              refine take_at 18 (some 40) (v := undef) rfl rfl (by kernel_rfl) (by kernel_rfl) (by kernel_rfl) (fun _ _ _ h => h) (Or.inr ⟨by kernel_rfl, rfl⟩) hHeld ?_
              try simp only [Act.put, List.setIfInBounds_toArray, List.set_cons_zero, List.set_cons_succ]
              refine take_at 19 (some 41) (v := undef) rfl rfl (by kernel_rfl) (by kernel_rfl) (by kernel_rfl) (fun _ _ _ h => h) (Or.inr ⟨by kernel_rfl, rfl⟩) hHeld ?_
              try simp only [Act.put, List.setIfInBounds_toArray, List.set_cons_zero, List.set_cons_succ]
              refine take_at 20 (some 42) (v := undef) rfl rfl (by kernel_rfl) (by kernel_rfl) (by kernel_rfl) (fun _ _ _ h => h) (Or.inr ⟨by kernel_rfl, rfl⟩) hHeld ?_
              try simp only [Act.put, List.setIfInBounds_toArray, List.set_cons_zero, List.set_cons_succ]
              refine take_at 21 (some 43) (v := undef) rfl rfl (by kernel_rfl) (by kernel_rfl) (by kernel_rfl) (fun _ _ _ h => h) (Or.inr ⟨by kernel_rfl, rfl⟩) hHeld ?_
              try simp only [Act.put, List.setIfInBounds_toArray, List.set_cons_zero, List.set_cons_succ]
              refine take_at 22 (some 44) (v := ?vx3_24) rfl rfl (by kernel_rfl) (by kernel_rfl) (by kernel_rfl) (fun _ _ _ h => h) (Or.inl ⟨by kernel_rfl, ?yx3_24⟩) hHeld ?zx3_24
              case yx3_24 => (intro wS hSw; (try dsimp only at hSw); go_simp; (try with_reducible rfl))
              try simp only [Act.put, List.setIfInBounds_toArray, List.set_cons_zero, List.set_cons_succ]
              refine wpAnyH_done (by kernel_rfl) ?_ _
              go_wp2
              go_ret
              exact ⟨ret_bool HX.out.symm, (HB.out.trans ((Below.trans (below_alloc1 wr (.cells #[.int .i64 n, .int .i64 s, .int .i64 u, .int .i64 t] 164)) (hHeld.1.mono (by simp))).mono HB.out.size))⟩
            · rw [hq] at HQ
              have hxs := q1B_serial hq
              dsimp only at hxs
              have HG1 := Lib.hid (fun w => nGap_any b yn w (inR_true.1 h1).1 (inR_true.1 h1).2 (inR_true.1 hys).1 (inR_true.1 hys).2)
              have HG2 := Lib.hid (fun w => nGap_any b n w (inR_true.1 h1).1 (inR_true.1 h1).2 (inR_true.1 hxs).1 (inR_true.1 hxs).2)
              by_cases hgt : gp b yn < gp b n
              · have HX := Lib.hid (HN.out (by rw [HK.out, hq]; simp [hgt]))
                clear hq hxs
                go_wp2_with fail
                refine wp_region_held_drew (S := (fun w' => Below (wr.alloc (.cells #[.int .i64 n, .int .i64 s, .int .i64 u, .int .i64 t] 164)).heap.size (wr.alloc (.cells #[.int .i64 n, .int .i64 s, .int .i64 u, .int .i64 t] 164)) w' ∧ w'.cell? ⟨wr.heap.size, 0, none⟩ = some (.int .i64 n) ∧ w'.cell? ⟨wr.heap.size, 1, none⟩ = some (.int .i64 s) ∧ w'.cell? ⟨wr.heap.size, 2, none⟩ = some (.int .i64 u) ∧ w'.cell? ⟨wr.heap.size, 3, none⟩ = some (.int .i64 t) ∧ w'.cell? ⟨bk, off + m * 4, none⟩ = some (.int .i64 yn))) (by kernel_rfl) ?rx4s (fun hHeld => ?rx40)
                case rx4s => ((try dsimp only); exact ⟨(Below.refl _ _).drew, by simp, by simp, by simp, by simp, gW⟩)
                try simp only [Act.put, List.setIfInBounds_toArray, List.set_cons_zero, List.set_cons_succ]
                refine take_at 0 (some 22) (v := ?vx4_1) rfl rfl (by kernel_rfl) (by kernel_rfl) (by kernel_rfl) (fun _ _ _ h => h) (Or.inl ⟨by kernel_rfl, ?yx4_1⟩) hHeld ?zx4_1
                case yx4_1 => (intro wS hSw; (try dsimp only at hSw); go_simp; (try with_reducible rfl))
                try simp only [Act.put, List.setIfInBounds_toArray, List.set_cons_zero, List.set_cons_succ]
                refine take_at 1 (some 23) (v := ?vx4_2) rfl rfl (by kernel_rfl) (by kernel_rfl) (by kernel_rfl) (fun _ _ _ h => h) (Or.inl ⟨by kernel_rfl, ?yx4_2⟩) hHeld ?zx4_2
                case yx4_2 => (intro wS hSw; (try dsimp only at hSw); go_simp; (try with_reducible rfl))
                try simp only [Act.put, List.setIfInBounds_toArray, List.set_cons_zero, List.set_cons_succ]
                refine wpAnyH_ready (rs := [2]) (by kernel_rfl) (by simp) ?_
                refine cons_at (some 24) rfl rfl (by kernel_rfl) (fun K hK => ?kx4_4) AllReadyH.nil
                go_simp
                (go_at_call 139; refine (HQ.out _).mono ?_; rintro e w' ⟨rfl, hbel⟩)
                try go_wp2_with fail
                refine hK.out _ _ ?sx4_4 (fun hHeld => ?_)
                case sx4_4 => ((try dsimp only); first | exact keepB5 (by assumption) hbel | assumption)
                clear hK K
                try simp only [Act.put, List.setIfInBounds_toArray, List.set_cons_zero, List.set_cons_succ]
                refine take_at 3 (some 25) (v := ?vx4_5) rfl rfl (by kernel_rfl) (by kernel_rfl) (by kernel_rfl) (fun _ _ _ h => h) (Or.inl ⟨by kernel_rfl, ?yx4_5⟩) hHeld ?zx4_5
                case yx4_5 => (intro wS hSw; (try dsimp only at hSw); go_simp; (try with_reducible rfl))
                try simp only [Act.put, List.setIfInBounds_toArray, List.set_cons_zero, List.set_cons_succ]
                refine take_at 4 (some 26) (v := ?vx4_6) rfl rfl (by kernel_rfl) (by kernel_rfl) (by kernel_rfl) (fun _ _ _ h => h) (Or.inl ⟨by kernel_rfl, ?yx4_6⟩) hHeld ?zx4_6
                case yx4_6 => (intro wS hSw; (try dsimp only at hSw); go_simp; (try with_reducible rfl))
                try simp only [Act.put, List.setIfInBounds_toArray, List.set_cons_zero, List.set_cons_succ]
                refine take_at 5 (some 27) (v := ?vx4_7) rfl rfl (by kernel_rfl) (by kernel_rfl) (by kernel_rfl) (fun _ _ _ h => h) (Or.inl ⟨by kernel_rfl, ?yx4_7⟩) hHeld ?zx4_7
                case yx4_7 => (intro wS hSw; (try dsimp only at hSw); go_simp; (try with_reducible rfl))
                try simp only [Act.put, List.setIfInBounds_toArray, List.set_cons_zero, List.set_cons_succ]
                refine take_at 6 (some 28) (v := ?vx4_8) rfl rfl (by kernel_rfl) (by kernel_rfl) (by kernel_rfl) (fun _ _ _ h => h) (Or.inl ⟨by kernel_rfl, ?yx4_8⟩) hHeld ?zx4_8
                case yx4_8 => (intro wS hSw; (try dsimp only at hSw); go_simp; (try with_reducible rfl))
                try simp only [Act.put, List.setIfInBounds_toArray, List.set_cons_zero, List.set_cons_succ]
                refine take_at 7 (some 29) (v := ?vx4_9) rfl rfl (by kernel_rfl) (by kernel_rfl) (by kernel_rfl) (fun _ _ _ h => h) (Or.inl ⟨by kernel_rfl, ?yx4_9⟩) hHeld ?zx4_9
                case yx4_9 => (intro wS hSw; (try dsimp only at hSw); go_simp; (try with_reducible rfl))
                try simp only [Act.put, List.setIfInBounds_toArray, List.set_cons_zero, List.set_cons_succ]
                refine take_at 8 (some 30) (v := ?vx4_10) rfl rfl (by kernel_rfl) (by kernel_rfl) (by kernel_rfl) (fun _ _ _ h => h) (Or.inl ⟨by kernel_rfl, ?yx4_10⟩) hHeld ?zx4_10
                case yx4_10 => (intro wS hSw; (try dsimp only at hSw); go_simp; (try with_reducible rfl))
                try simp only [Act.put, List.setIfInBounds_toArray, List.set_cons_zero, List.set_cons_succ]
                refine take_at 9 (some 31) (v := ?vx4_11) rfl rfl (by kernel_rfl) (by kernel_rfl) (by kernel_rfl) (fun _ _ _ h => h) (Or.inl ⟨by kernel_rfl, ?yx4_11⟩) hHeld ?zx4_11
                case yx4_11 => (intro wS hSw; (try dsimp only at hSw); go_simp; (try with_reducible rfl))
                try simp only [Act.put, List.setIfInBounds_toArray, List.set_cons_zero, List.set_cons_succ]
                refine take_at 10 (some 32) (v := ?vx4_12) rfl rfl (by kernel_rfl) (by kernel_rfl) (by kernel_rfl) (fun _ _ _ h => h) (Or.inl ⟨by kernel_rfl, ?yx4_12⟩) hHeld ?zx4_12
                case yx4_12 => (intro wS hSw; (try dsimp only at hSw); go_simp; (try with_reducible rfl))
                try simp only [Act.put, List.setIfInBounds_toArray, List.set_cons_zero, List.set_cons_succ]
                refine take_at 11 (some 33) (v := ?vx4_13) rfl rfl (by kernel_rfl) (by kernel_rfl) (by kernel_rfl) (fun _ _ _ h => h) (Or.inl ⟨by kernel_rfl, ?yx4_13⟩) hHeld ?zx4_13
                case yx4_13 => (intro wS hSw; (try dsimp only at hSw); go_simp; (try with_reducible rfl))
                try simp only [Act.put, List.setIfInBounds_toArray, List.set_cons_zero, List.set_cons_succ]
                refine take_at 12 (some 34) (v := ?vx4_14) rfl rfl (by kernel_rfl) (by kernel_rfl) (by kernel_rfl) (fun _ _ _ h => h) (Or.inl ⟨by kernel_rfl, ?yx4_14⟩) hHeld ?zx4_14
                case yx4_14 => (intro wS hSw; (try dsimp only at hSw); go_simp; (try with_reducible rfl))
                try simp only [Act.put, List.setIfInBounds_toArray, List.set_cons_zero, List.set_cons_succ]
                refine take_at 13 (some 35) (v := ?vx4_15) rfl rfl (by kernel_rfl) (by kernel_rfl) (by kernel_rfl) (fun _ _ _ h => h) (Or.inl ⟨by kernel_rfl, ?yx4_15⟩) hHeld ?zx4_15
                case yx4_15 => (intro wS hSw; (try dsimp only at hSw); go_simp; (try with_reducible rfl))
                try simp only [Act.put, List.setIfInBounds_toArray, List.set_cons_zero, List.set_cons_succ]
                refine take_at 14 (some 36) (v := ?vx4_16) rfl rfl (by kernel_rfl) (by kernel_rfl) (by kernel_rfl) (fun _ _ _ h => h) (Or.inl ⟨by kernel_rfl, ?yx4_16⟩) hHeld ?zx4_16
                case yx4_16 => (intro wS hSw; (try dsimp only at hSw); go_simp; (try with_reducible rfl))
                try simp only [Act.put, List.setIfInBounds_toArray, List.set_cons_zero, List.set_cons_succ]
                refine take_at 16 (some 38) (v := ?vx4_17) rfl rfl (by kernel_rfl) (by kernel_rfl) (by kernel_rfl) (fun _ _ _ h => h) (Or.inl ⟨by kernel_rfl, ?yx4_17⟩) hHeld ?zx4_17
                case yx4_17 => (intro wS hSw; (try dsimp only at hSw); go_simp; (try with_reducible rfl))
                try simp only [Act.put, List.setIfInBounds_toArray, List.set_cons_zero, List.set_cons_succ]
                refine take_at 17 (some 39) (v := ?vx4_18) rfl rfl (by kernel_rfl) (by kernel_rfl) (by kernel_rfl) (fun _ _ _ h => h) (Or.inl ⟨by kernel_rfl, ?yx4_18⟩) hHeld ?zx4_18
                case yx4_18 => (intro wS hSw; (try dsimp only at hSw); go_simp; (try with_reducible rfl))
                try simp only [Act.put, List.setIfInBounds_toArray, List.set_cons_zero, List.set_cons_succ]
                refine take_at 18 (some 40) (v := ?vx4_19) rfl rfl (by kernel_rfl) (by kernel_rfl) (by kernel_rfl) (fun _ _ _ h => h) (Or.inl ⟨by kernel_rfl, ?yx4_19⟩) hHeld ?zx4_19
                case yx4_19 => (intro wS hSw; (try dsimp only at hSw); go_simp; (try with_reducible rfl))
                try simp only [Act.put, List.setIfInBounds_toArray, List.set_cons_zero, List.set_cons_succ]
                refine wpAnyH_ready (rs := [15]) (by kernel_rfl) (by simp) ?_
                refine cons_at (some 37) rfl rfl (by kernel_rfl) (fun K hK => ?kx4_21) AllReadyH.nil
                go_simp
                (go_at_call 88; refine (HG1.out _).mono ?_; rintro e w' ⟨rfl, rfl⟩)
                try go_wp2_with fail
                refine hK.out _ _ ?sx4_21 (fun hHeld => ?_)
                case sx4_21 => ((try dsimp only); first | exact keepB5 (by assumption) hbel | assumption)
                clear hK K
                try simp only [Act.put, List.setIfInBounds_toArray, List.set_cons_zero, List.set_cons_succ]
                refine wpAnyH_ready (rs := [19]) (by kernel_rfl) (by simp) ?_
                refine cons_at (some 41) rfl rfl (by kernel_rfl) (fun K hK => ?kx4_23) AllReadyH.nil
                go_simp
                (go_at_call 88; refine (HG2.out _).mono ?_; rintro e w' ⟨rfl, rfl⟩)
                try go_wp2_with fail
                refine hK.out _ _ ?sx4_23 (fun hHeld => ?_)
                case sx4_23 => ((try dsimp only); first | exact keepB5 (by assumption) hbel | assumption)
                clear hK K
                try simp only [Act.put, List.setIfInBounds_toArray, List.set_cons_zero, List.set_cons_succ]
                refine take_at 20 (some 42) (v := ?vx4_24) rfl rfl (by kernel_rfl) (by kernel_rfl) (by kernel_rfl) (fun _ _ _ h => h) (Or.inl ⟨by kernel_rfl, ?yx4_24⟩) hHeld ?zx4_24
                case yx4_24 => (intro wS hSw; (try dsimp only at hSw); go_simp; (try with_reducible rfl))
                try simp only [Act.put, List.setIfInBounds_toArray, List.set_cons_zero, List.set_cons_succ]
                refine take_at 21 (some 43) (v := ?vx4_25) rfl rfl (by kernel_rfl) (by kernel_rfl) (by kernel_rfl) (fun _ _ _ h => h) (Or.inl ⟨by kernel_rfl, ?yx4_25⟩) hHeld ?zx4_25
                case yx4_25 => (intro wS hSw; (try dsimp only at hSw); go_simp; (try with_reducible rfl))
                try simp only [Act.put, List.setIfInBounds_toArray, List.set_cons_zero, List.set_cons_succ]
                refine take_at 22 (some 44) (v := ?vx4_26) rfl rfl (by kernel_rfl) (by kernel_rfl) (by kernel_rfl) (fun _ _ _ h => h) (Or.inl ⟨by kernel_rfl, ?yx4_26⟩) hHeld ?zx4_26
                case yx4_26 => (intro wS hSw; (try dsimp only at hSw); go_simp; (try with_reducible rfl))
                try simp only [Act.put, List.setIfInBounds_toArray, List.set_cons_zero, List.set_cons_succ]
                refine wpAnyH_done (by kernel_rfl) ?_ _
                go_wp2
                go_roundw
                case rel => exact ⟨k + 1, by omega, by go_num, HX, Lib.hid (HB.out.trans ((Below.trans (below_alloc1 wr (.cells #[.int .i64 n, .int .i64 s, .int .i64 u, .int .i64 t] 164)) (hHeld.1.mono (by simp))).mono HB.out.size))⟩
                case measure => simp [intOf]; omega
              · have HX := Lib.hid (HBd.out (by rw [HK.out, hq]; simp [hgt]))
                have hgt2 : gp b n ≤ gp b yn := by omega
                clear hq hxs
                go_wp2_with fail
                refine wp_region_held_drew (S := (fun w' => Below (wr.alloc (.cells #[.int .i64 n, .int .i64 s, .int .i64 u, .int .i64 t] 164)).heap.size (wr.alloc (.cells #[.int .i64 n, .int .i64 s, .int .i64 u, .int .i64 t] 164)) w' ∧ w'.cell? ⟨wr.heap.size, 0, none⟩ = some (.int .i64 n) ∧ w'.cell? ⟨wr.heap.size, 1, none⟩ = some (.int .i64 s) ∧ w'.cell? ⟨wr.heap.size, 2, none⟩ = some (.int .i64 u) ∧ w'.cell? ⟨wr.heap.size, 3, none⟩ = some (.int .i64 t) ∧ w'.cell? ⟨bk, off + m * 4, none⟩ = some (.int .i64 yn))) (by kernel_rfl) ?rx5s (fun hHeld => ?rx50)
                case rx5s => ((try dsimp only); exact ⟨(Below.refl _ _).drew, by simp, by simp, by simp, by simp, gW⟩)
                try simp only [Act.put, List.setIfInBounds_toArray, List.set_cons_zero, List.set_cons_succ]
                refine take_at 0 (some 22) (v := ?vx5_1) rfl rfl (by kernel_rfl) (by kernel_rfl) (by kernel_rfl) (fun _ _ _ h => h) (Or.inl ⟨by kernel_rfl, ?yx5_1⟩) hHeld ?zx5_1
                case yx5_1 => (intro wS hSw; (try dsimp only at hSw); go_simp; (try with_reducible rfl))
                try simp only [Act.put, List.setIfInBounds_toArray, List.set_cons_zero, List.set_cons_succ]
                refine take_at 1 (some 23) (v := ?vx5_2) rfl rfl (by kernel_rfl) (by kernel_rfl) (by kernel_rfl) (fun _ _ _ h => h) (Or.inl ⟨by kernel_rfl, ?yx5_2⟩) hHeld ?zx5_2
                case yx5_2 => (intro wS hSw; (try dsimp only at hSw); go_simp; (try with_reducible rfl))
                try simp only [Act.put, List.setIfInBounds_toArray, List.set_cons_zero, List.set_cons_succ]
                refine wpAnyH_ready (rs := [2]) (by kernel_rfl) (by simp) ?_
                refine cons_at (some 24) rfl rfl (by kernel_rfl) (fun K hK => ?kx5_4) AllReadyH.nil
                go_simp
                (go_at_call 139; refine (HQ.out _).mono ?_; rintro e w' ⟨rfl, hbel⟩)
                try go_wp2_with fail
                refine hK.out _ _ ?sx5_4 (fun hHeld => ?_)
                case sx5_4 => ((try dsimp only); first | exact keepB5 (by assumption) hbel | assumption)
                clear hK K
                try simp only [Act.put, List.setIfInBounds_toArray, List.set_cons_zero, List.set_cons_succ]
                refine take_at 3 (some 25) (v := ?vx5_5) rfl rfl (by kernel_rfl) (by kernel_rfl) (by kernel_rfl) (fun _ _ _ h => h) (Or.inl ⟨by kernel_rfl, ?yx5_5⟩) hHeld ?zx5_5
                case yx5_5 => (intro wS hSw; (try dsimp only at hSw); go_simp; (try with_reducible rfl))
                try simp only [Act.put, List.setIfInBounds_toArray, List.set_cons_zero, List.set_cons_succ]
                refine take_at 4 (some 26) (v := ?vx5_6) rfl rfl (by kernel_rfl) (by kernel_rfl) (by kernel_rfl) (fun _ _ _ h => h) (Or.inl ⟨by kernel_rfl, ?yx5_6⟩) hHeld ?zx5_6
                case yx5_6 => (intro wS hSw; (try dsimp only at hSw); go_simp; (try with_reducible rfl))
                try simp only [Act.put, List.setIfInBounds_toArray, List.set_cons_zero, List.set_cons_succ]
                refine take_at 5 (some 27) (v := ?vx5_7) rfl rfl (by kernel_rfl) (by kernel_rfl) (by kernel_rfl) (fun _ _ _ h => h) (Or.inl ⟨by kernel_rfl, ?yx5_7⟩) hHeld ?zx5_7
                case yx5_7 => (intro wS hSw; (try dsimp only at hSw); go_simp; (try with_reducible rfl))
                try simp only [Act.put, List.setIfInBounds_toArray, List.set_cons_zero, List.set_cons_succ]
                refine take_at 6 (some 28) (v := ?vx5_8) rfl rfl (by kernel_rfl) (by kernel_rfl) (by kernel_rfl) (fun _ _ _ h => h) (Or.inl ⟨by kernel_rfl, ?yx5_8⟩) hHeld ?zx5_8
                case yx5_8 => (intro wS hSw; (try dsimp only at hSw); go_simp; (try with_reducible rfl))
                try simp only [Act.put, List.setIfInBounds_toArray, List.set_cons_zero, List.set_cons_succ]
                refine take_at 7 (some 29) (v := ?vx5_9) rfl rfl (by kernel_rfl) (by kernel_rfl) (by kernel_rfl) (fun _ _ _ h => h) (Or.inl ⟨by kernel_rfl, ?yx5_9⟩) hHeld ?zx5_9
                case yx5_9 => (intro wS hSw; (try dsimp only at hSw); go_simp; (try with_reducible rfl))
                try simp only [Act.put, List.setIfInBounds_toArray, List.set_cons_zero, List.set_cons_succ]
                refine take_at 8 (some 30) (v := ?vx5_10) rfl rfl (by kernel_rfl) (by kernel_rfl) (by kernel_rfl) (fun _ _ _ h => h) (Or.inl ⟨by kernel_rfl, ?yx5_10⟩) hHeld ?zx5_10
                case yx5_10 => (intro wS hSw; (try dsimp only at hSw); go_simp; (try with_reducible rfl))
                try simp only [Act.put, List.setIfInBounds_toArray, List.set_cons_zero, List.set_cons_succ]
                refine take_at 9 (some 31) (v := ?vx5_11) rfl rfl (by kernel_rfl) (by kernel_rfl) (by kernel_rfl) (fun _ _ _ h => h) (Or.inl ⟨by kernel_rfl, ?yx5_11⟩) hHeld ?zx5_11
                case yx5_11 => (intro wS hSw; (try dsimp only at hSw); go_simp; (try with_reducible rfl))
                try simp only [Act.put, List.setIfInBounds_toArray, List.set_cons_zero, List.set_cons_succ]
                refine take_at 10 (some 32) (v := ?vx5_12) rfl rfl (by kernel_rfl) (by kernel_rfl) (by kernel_rfl) (fun _ _ _ h => h) (Or.inl ⟨by kernel_rfl, ?yx5_12⟩) hHeld ?zx5_12
                case yx5_12 => (intro wS hSw; (try dsimp only at hSw); go_simp; (try with_reducible rfl))
                try simp only [Act.put, List.setIfInBounds_toArray, List.set_cons_zero, List.set_cons_succ]
                refine take_at 11 (some 33) (v := ?vx5_13) rfl rfl (by kernel_rfl) (by kernel_rfl) (by kernel_rfl) (fun _ _ _ h => h) (Or.inl ⟨by kernel_rfl, ?yx5_13⟩) hHeld ?zx5_13
                case yx5_13 => (intro wS hSw; (try dsimp only at hSw); go_simp; (try with_reducible rfl))
                try simp only [Act.put, List.setIfInBounds_toArray, List.set_cons_zero, List.set_cons_succ]
                refine take_at 12 (some 34) (v := ?vx5_14) rfl rfl (by kernel_rfl) (by kernel_rfl) (by kernel_rfl) (fun _ _ _ h => h) (Or.inl ⟨by kernel_rfl, ?yx5_14⟩) hHeld ?zx5_14
                case yx5_14 => (intro wS hSw; (try dsimp only at hSw); go_simp; (try with_reducible rfl))
                try simp only [Act.put, List.setIfInBounds_toArray, List.set_cons_zero, List.set_cons_succ]
                refine take_at 13 (some 35) (v := ?vx5_15) rfl rfl (by kernel_rfl) (by kernel_rfl) (by kernel_rfl) (fun _ _ _ h => h) (Or.inl ⟨by kernel_rfl, ?yx5_15⟩) hHeld ?zx5_15
                case yx5_15 => (intro wS hSw; (try dsimp only at hSw); go_simp; (try with_reducible rfl))
                try simp only [Act.put, List.setIfInBounds_toArray, List.set_cons_zero, List.set_cons_succ]
                refine take_at 14 (some 36) (v := ?vx5_16) rfl rfl (by kernel_rfl) (by kernel_rfl) (by kernel_rfl) (fun _ _ _ h => h) (Or.inl ⟨by kernel_rfl, ?yx5_16⟩) hHeld ?zx5_16
                case yx5_16 => (intro wS hSw; (try dsimp only at hSw); go_simp; (try with_reducible rfl))
                try simp only [Act.put, List.setIfInBounds_toArray, List.set_cons_zero, List.set_cons_succ]
                refine take_at 16 (some 38) (v := ?vx5_17) rfl rfl (by kernel_rfl) (by kernel_rfl) (by kernel_rfl) (fun _ _ _ h => h) (Or.inl ⟨by kernel_rfl, ?yx5_17⟩) hHeld ?zx5_17
                case yx5_17 => (intro wS hSw; (try dsimp only at hSw); go_simp; (try with_reducible rfl))
                try simp only [Act.put, List.setIfInBounds_toArray, List.set_cons_zero, List.set_cons_succ]
                refine take_at 17 (some 39) (v := ?vx5_18) rfl rfl (by kernel_rfl) (by kernel_rfl) (by kernel_rfl) (fun _ _ _ h => h) (Or.inl ⟨by kernel_rfl, ?yx5_18⟩) hHeld ?zx5_18
                case yx5_18 => (intro wS hSw; (try dsimp only at hSw); go_simp; (try with_reducible rfl))
                try simp only [Act.put, List.setIfInBounds_toArray, List.set_cons_zero, List.set_cons_succ]
                refine take_at 18 (some 40) (v := ?vx5_19) rfl rfl (by kernel_rfl) (by kernel_rfl) (by kernel_rfl) (fun _ _ _ h => h) (Or.inl ⟨by kernel_rfl, ?yx5_19⟩) hHeld ?zx5_19
                case yx5_19 => (intro wS hSw; (try dsimp only at hSw); go_simp; (try with_reducible rfl))
                try simp only [Act.put, List.setIfInBounds_toArray, List.set_cons_zero, List.set_cons_succ]
                refine wpAnyH_ready (rs := [15]) (by kernel_rfl) (by simp) ?_
                refine cons_at (some 37) rfl rfl (by kernel_rfl) (fun K hK => ?kx5_21) AllReadyH.nil
                go_simp
                (go_at_call 88; refine (HG1.out _).mono ?_; rintro e w' ⟨rfl, rfl⟩)
                try go_wp2_with fail
                refine hK.out _ _ ?sx5_21 (fun hHeld => ?_)
                case sx5_21 => ((try dsimp only); first | exact keepB5 (by assumption) hbel | assumption)
                clear hK K
                try simp only [Act.put, List.setIfInBounds_toArray, List.set_cons_zero, List.set_cons_succ]
                refine wpAnyH_ready (rs := [19]) (by kernel_rfl) (by simp) ?_
                refine cons_at (some 41) rfl rfl (by kernel_rfl) (fun K hK => ?kx5_23) AllReadyH.nil
                go_simp
                (go_at_call 88; refine (HG2.out _).mono ?_; rintro e w' ⟨rfl, rfl⟩)
                try go_wp2_with fail
                refine hK.out _ _ ?sx5_23 (fun hHeld => ?_)
                case sx5_23 => ((try dsimp only); first | exact keepB5 (by assumption) hbel | assumption)
                clear hK K
                try simp only [Act.put, List.setIfInBounds_toArray, List.set_cons_zero, List.set_cons_succ]
                refine take_at 20 (some 42) (v := ?vx5_24) rfl rfl (by kernel_rfl) (by kernel_rfl) (by kernel_rfl) (fun _ _ _ h => h) (Or.inl ⟨by kernel_rfl, ?yx5_24⟩) hHeld ?zx5_24
                case yx5_24 => (intro wS hSw; (try dsimp only at hSw); go_simp; (try with_reducible rfl))
                try simp only [Act.put, List.setIfInBounds_toArray, List.set_cons_zero, List.set_cons_succ]
                refine take_at 21 (some 43) (v := ?vx5_25) rfl rfl (by kernel_rfl) (by kernel_rfl) (by kernel_rfl) (fun _ _ _ h => h) (Or.inl ⟨by kernel_rfl, ?yx5_25⟩) hHeld ?zx5_25
                case yx5_25 => (intro wS hSw; (try dsimp only at hSw); go_simp; (try with_reducible rfl))
                try simp only [Act.put, List.setIfInBounds_toArray, List.set_cons_zero, List.set_cons_succ]
                refine take_at 22 (some 44) (v := ?vx5_26) rfl rfl (by kernel_rfl) (by kernel_rfl) (by kernel_rfl) (fun _ _ _ h => h) (Or.inl ⟨by kernel_rfl, ?yx5_26⟩) hHeld ?zx5_26
                case yx5_26 => (intro wS hSw; (try dsimp only at hSw); go_simp; (try with_reducible rfl))
                try simp only [Act.put, List.setIfInBounds_toArray, List.set_cons_zero, List.set_cons_succ]
                refine wpAnyH_done (by kernel_rfl) ?_ _
                go_wp2
                go_ret
                exact ⟨ret_bool HX.out.symm, (HB.out.trans ((Below.trans (below_alloc1 wr (.cells #[.int .i64 n, .int .i64 s, .int .i64 u, .int .i64 t] 164)) (hHeld.1.mono (by simp))).mono HB.out.size))⟩
        · obtain rfl : k = xs.length := by omega
          have HG := Lib.hid (qsB_good h1 h2 (fun j hj => HF.out j (by omega)))
          go_wp2
          go_ret
          exact ⟨ret_bool HG.out.symm, HB.out⟩
    · go_enter Tryz.func119, Tryz.ntmps119
      go_wp2_with (first | (go_at_call 86; refine (nSerial_any _ _).mono ?_; rintro e w' ⟨rfl, rfl⟩))
      go_ret
      exact ⟨ret_bool (by first | (simp [qsB, h1, h2]; done) | (simp [qsB, h1, h2]; intros; omega)), Below.refl _ _⟩
set_option maxRecDepth 100000 in
set_option maxHeartbeats 4000000 in
theorem sReqs_any (xs : List NRq) (v : Value) (b : Int) (w : World) (h : kRq.At 0 w v xs) (hn : xs.length ≤ 1048576) :
    Calls Tryz.prog 108 #[v, .int .i64 b] w fun e w' => e = .returned (.bool (qsB xs b)) ∧ Below w.heap.size w w' := by
  obtain ⟨p, cap, bk, off, rfl, hcap, hp, hcell⟩ := h.parts
  clear h
  have HCe := Lib.hid hcell; clear hcell
  have HPt := Lib.hid hp; clear hp
  cases h1 : inR b 0 65535
  · go_enter Tryz.func108, Tryz.ntmps108
    go_wp2_with (first | (go_at_call 71; refine (nGood_any _ _).mono ?_; rintro e w' ⟨rfl, rfl⟩))
    go_ret
    exact ⟨ret_bool (by first | (simp [qsB, h1]; done) | (simp [qsB, h1]; intros; omega)), Below.refl _ _⟩
  · by_cases h2 : (xs.length : Int) ≤ 8
    · go_enter Tryz.func108, Tryz.ntmps108
      go_wp2_with (first | (go_at_call 71; refine (nGood_any _ _).mono ?_; rintro e w' ⟨rfl, rfl⟩))
      go_loopw [5] (fun i wr => ∃ k : Nat, k ≤ xs.length ∧ i = .int .i64 k ∧ Hid (∀ j, j < k → qkB xs b j = true) ∧ Hid (Below w.heap.size w wr)) (fun i _ => xs.length - (intOf i).toNat)
      case atStart => exact ⟨0, Nat.zero_le _, rfl, Lib.hid fun j h => absurd h (by omega), Lib.hid (Below.refl _ _)⟩
      case round =>
        obtain ⟨k, hk, rfl, HF, HB⟩ := hrel
        have hzb := HB.out.size
        by_cases hlt : k < xs.length
        · obtain rfl := HPt.out (by omega)
          obtain ⟨c, hC, hcl⟩ := HCe.out k hlt
          have HN : Hid (qkB xs b k = true → ∀ j, j < k + 1 → qkB xs b j = true) := Lib.hid (fun h j hj => by
            by_cases he : j = k
            · subst he; exact h
            · exact HF.out j (by omega))
          have HBd := Lib.hid (fun h => qsB_bad (b := b) k hlt h)
          have HB1 := Lib.hid (fun h => qkB_bad1 (b := b) hlt h)
          by_cases h00 : k = 0
          · subst h00
            have HK := Lib.hid (qkB_zero (b := b) hlt)
            obtain rfl : c = [.int .i64 xs[0].n, .int .i64 xs[0].s, .int .i64 xs[0].u, .int .i64 xs[0].t] := hC
            have d0 := cell_on HB.out (hcl 0 _ rfl)
            rw [show off + 0 * kRq.sz + 0 = off + 0 * 4 from rfl] at d0
            have d1 := cell_on HB.out (hcl 1 _ rfl)
            rw [show off + 0 * kRq.sz + 1 = off + 0 * 4 + 1 from rfl] at d1
            have d2 := cell_on HB.out (hcl 2 _ rfl)
            rw [show off + 0 * kRq.sz + 2 = off + 0 * 4 + 2 from rfl] at d2
            have d3 := cell_on HB.out (hcl 3 _ rfl)
            rw [show off + 0 * kRq.sz + 3 = off + 0 * 4 + 3 from rfl] at d3
            simp only [Nat.zero_mul, Nat.add_zero] at d0 d1 d2 d3
            clear hcl
            generalize xs[0] = x at *
            obtain ⟨n, s, u, t⟩ := x
            dsimp only at d0 d1 d2 d3
            cases q1 : inR n 0 65535
            · have HX := Lib.hid (HBd.out (HB1.out (by first | (simp [q1B, q1]; done) | (simp [q1B, q1]; intros; omega))))
              go_wp2_with (first | (go_at_call 71; refine (nGood_any _ _).mono ?_; rintro e w' ⟨rfl, rfl⟩) | (go_at_call 68; refine (l1In_any _ _ _ _).mono ?_; rintro e w' ⟨rfl, rfl⟩))
              go_ret
              exact ⟨ret_bool HX.out.symm, HB.out.trans ((below_alloc1 _ _).mono HB.out.size)⟩
            · by_cases q2 : gp b n < 8
              · cases q3 : inR s 1 3
                · have HG2 := Lib.hid (fun w => sGap_any b n w (inR_true.1 h1).1 (inR_true.1 h1).2 (inR_true.1 q1).1 (inR_true.1 q1).2)
                  have HX := Lib.hid (HBd.out (HB1.out (by first | (simp [q1B, q1, q2, q3]; done) | (simp [q1B, q1, q2, q3]; intros; omega))))
                  go_wp2_with (first | (go_at_call 71; refine (nGood_any _ _).mono ?_; rintro e w' ⟨rfl, rfl⟩) | (go_at_call 68; refine (l1In_any _ _ _ _).mono ?_; rintro e w' ⟨rfl, rfl⟩) | (go_at_call 73; refine (HG2.out _).mono ?_; rintro e w' ⟨rfl, rfl⟩))
                  go_ret
                  exact ⟨ret_bool HX.out.symm, HB.out.trans ((below_alloc1 _ _).mono HB.out.size)⟩
                · cases q4 : inR u 0 10007
                  · have HG2 := Lib.hid (fun w => sGap_any b n w (inR_true.1 h1).1 (inR_true.1 h1).2 (inR_true.1 q1).1 (inR_true.1 q1).2)
                    have HX := Lib.hid (HBd.out (HB1.out (by first | (simp [q1B, q1, q2, q3, q4]; done) | (simp [q1B, q1, q2, q3, q4]; intros; omega))))
                    go_wp2_with (first | (go_at_call 71; refine (nGood_any _ _).mono ?_; rintro e w' ⟨rfl, rfl⟩) | (go_at_call 68; refine (l1In_any _ _ _ _).mono ?_; rintro e w' ⟨rfl, rfl⟩) | (go_at_call 73; refine (HG2.out _).mono ?_; rintro e w' ⟨rfl, rfl⟩))
                    go_ret
                    exact ⟨ret_bool HX.out.symm, HB.out.trans ((below_alloc1 _ _).mono HB.out.size)⟩
                  · cases q5 : inR t 0 3
                    · have HG2 := Lib.hid (fun w => sGap_any b n w (inR_true.1 h1).1 (inR_true.1 h1).2 (inR_true.1 q1).1 (inR_true.1 q1).2)
                      have HX := Lib.hid (HBd.out (HB1.out (by first | (simp [q1B, q1, q2, q3, q4, q5]; done) | (simp [q1B, q1, q2, q3, q4, q5]; intros; omega))))
                      go_wp2_with (first | (go_at_call 71; refine (nGood_any _ _).mono ?_; rintro e w' ⟨rfl, rfl⟩) | (go_at_call 68; refine (l1In_any _ _ _ _).mono ?_; rintro e w' ⟨rfl, rfl⟩) | (go_at_call 73; refine (HG2.out _).mono ?_; rintro e w' ⟨rfl, rfl⟩))
                      go_ret
                      exact ⟨ret_bool HX.out.symm, HB.out.trans ((below_alloc1 _ _).mono HB.out.size)⟩
                    · have HG2 := Lib.hid (fun w => sGap_any b n w (inR_true.1 h1).1 (inR_true.1 h1).2 (inR_true.1 q1).1 (inR_true.1 q1).2)
                      have hq : q1B ⟨n, s, u, t⟩ b = true := by simp [q1B, q1, q2, q3, q4, q5]
                      have HX := Lib.hid (HN.out (by rw [HK.out]; exact hq))
                      have hd0 : decide ((0 : Int) < ((0 : Nat) : Int)) = false := rfl
                      clear hq
                      go_wp2_with (first | (go_at_call 71; refine (nGood_any _ _).mono ?_; rintro e w' ⟨rfl, rfl⟩) | (go_at_call 68; refine (l1In_any _ _ _ _).mono ?_; rintro e w' ⟨rfl, rfl⟩) | (go_at_call 73; refine (HG2.out _).mono ?_; rintro e w' ⟨rfl, rfl⟩))
                      go_quiet (fail)
                      go_wp2
                      go_roundw
                      case rel => exact ⟨0 + 1, by omega, by go_num, HX, Lib.hid (HB.out.trans ((below_drewN (below_alloc1 wr (.cells #[.int .i64 n, .int .i64 s, .int .i64 u, .int .i64 t] 164)) nq).mono HB.out.size))⟩
                      case measure => simp [intOf]; omega
              · have HG2 := Lib.hid (fun w => sGap_any b n w (inR_true.1 h1).1 (inR_true.1 h1).2 (inR_true.1 q1).1 (inR_true.1 q1).2)
                have HX := Lib.hid (HBd.out (HB1.out (by first | (simp [q1B, q1, q2]; done) | (simp [q1B, q1, q2]; intros; omega))))
                go_wp2_with (first | (go_at_call 71; refine (nGood_any _ _).mono ?_; rintro e w' ⟨rfl, rfl⟩) | (go_at_call 68; refine (l1In_any _ _ _ _).mono ?_; rintro e w' ⟨rfl, rfl⟩) | (go_at_call 73; refine (HG2.out _).mono ?_; rintro e w' ⟨rfl, rfl⟩))
                go_ret
                exact ⟨ret_bool HX.out.symm, HB.out.trans ((below_alloc1 _ _).mono HB.out.size)⟩
          · obtain ⟨m, hm⟩ : ∃ m, k = m + 1 := ⟨k - 1, by omega⟩
            have hm1 : m < xs.length := by omega
            have HK : Hid (qkB xs b k = (q1B xs[k] b && decide (gp b xs[m].n < gp b xs[k].n))) := Lib.hid (by subst hm; exact qkB_succ hlt)
            have hys := qkB_serial hm1 (HF.out m (by omega))
            obtain ⟨cy, hCy, hcy⟩ := HCe.out m hm1
            obtain rfl : c = [.int .i64 xs[k].n, .int .i64 xs[k].s, .int .i64 xs[k].u, .int .i64 xs[k].t] := hC
            have d0 := cell_on HB.out (hcl 0 _ rfl)
            rw [show off + k * kRq.sz + 0 = off + k * 4 from rfl] at d0
            have d1 := cell_on HB.out (hcl 1 _ rfl)
            rw [show off + k * kRq.sz + 1 = off + k * 4 + 1 from rfl] at d1
            have d2 := cell_on HB.out (hcl 2 _ rfl)
            rw [show off + k * kRq.sz + 2 = off + k * 4 + 2 from rfl] at d2
            have d3 := cell_on HB.out (hcl 3 _ rfl)
            rw [show off + k * kRq.sz + 3 = off + k * 4 + 3 from rfl] at d3
            obtain rfl : cy = [.int .i64 xs[m].n, .int .i64 xs[m].s, .int .i64 xs[m].u, .int .i64 xs[m].t] := hCy
            have g0 := cell_on HB.out (hcy 0 _ rfl)
            rw [show off + m * kRq.sz + 0 = off + m * 4 from rfl] at g0
            clear hcl hcy
            have e1 : IntKind.i64.wrap ((k : Int) - 1) = (m : Int) := by rw [IntKind.wrap_i64]; omega
            have e2 : wrap64 ((k : Int) - 1) = (m : Int) := by simp only [wrap64]; omega
            have e3 : (k : Int) - 1 = (m : Int) := by omega
            have e4 : (m : Int) < (xs.length : Int) := by omega
            have e5 : 0 < k := by omega
            have e7 : IntKind.i64.wrap (m : Int) = (m : Int) := by rw [IntKind.wrap_i64]; omega
            have e6 : (0 : Int) < (k : Int) := by omega
            clear hm
            generalize xs[k] = x at *
            generalize xs[m] = y at *
            obtain ⟨n, s, u, t⟩ := x
            obtain ⟨yn, ys, yu, yt⟩ := y
            dsimp only at d0 d1 d2 d3 g0 hys
            cases q1 : inR n 0 65535
            · have HX := Lib.hid (HBd.out (HB1.out (by first | (simp [q1B, q1]; done) | (simp [q1B, q1]; intros; omega))))
              go_wp2_with (first | (go_at_call 71; refine (nGood_any _ _).mono ?_; rintro e w' ⟨rfl, rfl⟩) | (go_at_call 68; refine (l1In_any _ _ _ _).mono ?_; rintro e w' ⟨rfl, rfl⟩))
              go_ret
              exact ⟨ret_bool HX.out.symm, HB.out.trans ((below_alloc1 _ _).mono HB.out.size)⟩
            · by_cases q2 : gp b n < 8
              · cases q3 : inR s 1 3
                · have HG2 := Lib.hid (fun w => sGap_any b n w (inR_true.1 h1).1 (inR_true.1 h1).2 (inR_true.1 q1).1 (inR_true.1 q1).2)
                  have HX := Lib.hid (HBd.out (HB1.out (by first | (simp [q1B, q1, q2, q3]; done) | (simp [q1B, q1, q2, q3]; intros; omega))))
                  go_wp2_with (first | (go_at_call 71; refine (nGood_any _ _).mono ?_; rintro e w' ⟨rfl, rfl⟩) | (go_at_call 68; refine (l1In_any _ _ _ _).mono ?_; rintro e w' ⟨rfl, rfl⟩) | (go_at_call 73; refine (HG2.out _).mono ?_; rintro e w' ⟨rfl, rfl⟩))
                  go_ret
                  exact ⟨ret_bool HX.out.symm, HB.out.trans ((below_alloc1 _ _).mono HB.out.size)⟩
                · cases q4 : inR u 0 10007
                  · have HG2 := Lib.hid (fun w => sGap_any b n w (inR_true.1 h1).1 (inR_true.1 h1).2 (inR_true.1 q1).1 (inR_true.1 q1).2)
                    have HX := Lib.hid (HBd.out (HB1.out (by first | (simp [q1B, q1, q2, q3, q4]; done) | (simp [q1B, q1, q2, q3, q4]; intros; omega))))
                    go_wp2_with (first | (go_at_call 71; refine (nGood_any _ _).mono ?_; rintro e w' ⟨rfl, rfl⟩) | (go_at_call 68; refine (l1In_any _ _ _ _).mono ?_; rintro e w' ⟨rfl, rfl⟩) | (go_at_call 73; refine (HG2.out _).mono ?_; rintro e w' ⟨rfl, rfl⟩))
                    go_ret
                    exact ⟨ret_bool HX.out.symm, HB.out.trans ((below_alloc1 _ _).mono HB.out.size)⟩
                  · cases q5 : inR t 0 3
                    · have HG2 := Lib.hid (fun w => sGap_any b n w (inR_true.1 h1).1 (inR_true.1 h1).2 (inR_true.1 q1).1 (inR_true.1 q1).2)
                      have HX := Lib.hid (HBd.out (HB1.out (by first | (simp [q1B, q1, q2, q3, q4, q5]; done) | (simp [q1B, q1, q2, q3, q4, q5]; intros; omega))))
                      go_wp2_with (first | (go_at_call 71; refine (nGood_any _ _).mono ?_; rintro e w' ⟨rfl, rfl⟩) | (go_at_call 68; refine (l1In_any _ _ _ _).mono ?_; rintro e w' ⟨rfl, rfl⟩) | (go_at_call 73; refine (HG2.out _).mono ?_; rintro e w' ⟨rfl, rfl⟩))
                      go_ret
                      exact ⟨ret_bool HX.out.symm, HB.out.trans ((below_alloc1 _ _).mono HB.out.size)⟩
                    · have HG2 := Lib.hid (fun w => sGap_any b n w (inR_true.1 h1).1 (inR_true.1 h1).2 (inR_true.1 q1).1 (inR_true.1 q1).2)
                      have hq : q1B ⟨n, s, u, t⟩ b = true := by simp [q1B, q1, q2, q3, q4, q5]
                      have HG1 := Lib.hid (fun w => sGap_any b yn w (inR_true.1 h1).1 (inR_true.1 h1).2 (inR_true.1 hys).1 (inR_true.1 hys).2)
                      have HQ1 := Lib.hid (fun m => (HG1.out ((wr.alloc (.cells #[.int .i64 n, .int .i64 s, .int .i64 u, .int .i64 t] 164)).drewN m)).mono (fun e w' h => (⟨h.1, ⟨m, h.2.symm⟩⟩ : e = .returned (.int .i64 (gp b yn)) ∧ ∃ q, w' = (wr.alloc (.cells #[.int .i64 n, .int .i64 s, .int .i64 u, .int .i64 t] 164)).drewN q)))
                      have HQ2 := Lib.hid (fun m => (HG2.out ((wr.alloc (.cells #[.int .i64 n, .int .i64 s, .int .i64 u, .int .i64 t] 164)).drewN m)).mono (fun e w' h => (⟨h.1, ⟨m, h.2.symm⟩⟩ : e = .returned (.int .i64 (gp b n)) ∧ ∃ q, w' = (wr.alloc (.cells #[.int .i64 n, .int .i64 s, .int .i64 u, .int .i64 t] 164)).drewN q)))
                      have gW := cell_on (below_alloc1 wr (.cells #[.int .i64 n, .int .i64 s, .int .i64 u, .int .i64 t] 164)) g0
                      by_cases hgt : gp b yn < gp b n
                      · have HX := Lib.hid (HN.out (by rw [HK.out, hq]; simp [hgt]))
                        clear hq
                        go_wp2_with (first | (go_at_call 71; refine (nGood_any _ _).mono ?_; rintro e w' ⟨rfl, rfl⟩) | (go_at_call 68; refine (l1In_any _ _ _ _).mono ?_; rintro e w' ⟨rfl, rfl⟩) | (go_at_call 73; refine (HG2.out _).mono ?_; rintro e w' ⟨rfl, rfl⟩))
                        go_quiet ((first | (go_at_call 73; exact HQ1.out _) | (go_at_call 73; exact HQ2.out _)))
                        go_wp2
                        go_roundw
                        case rel => exact ⟨k + 1, by omega, by go_num, HX, Lib.hid (HB.out.trans ((below_drewN (below_alloc1 wr (.cells #[.int .i64 n, .int .i64 s, .int .i64 u, .int .i64 t] 164)) nq).mono HB.out.size))⟩
                        case measure => simp [intOf]; omega
                      · have HX := Lib.hid (HBd.out (by rw [HK.out, hq]; simp [hgt]))
                        have hgt2 : gp b n ≤ gp b yn := by omega
                        clear hq
                        go_wp2_with (first | (go_at_call 71; refine (nGood_any _ _).mono ?_; rintro e w' ⟨rfl, rfl⟩) | (go_at_call 68; refine (l1In_any _ _ _ _).mono ?_; rintro e w' ⟨rfl, rfl⟩) | (go_at_call 73; refine (HG2.out _).mono ?_; rintro e w' ⟨rfl, rfl⟩))
                        go_quiet ((first | (go_at_call 73; exact HQ1.out _) | (go_at_call 73; exact HQ2.out _)))
                        go_wp2
                        go_ret
                        exact ⟨ret_bool HX.out.symm, (Lib.hid (HB.out.trans ((below_drewN (below_alloc1 wr (.cells #[.int .i64 n, .int .i64 s, .int .i64 u, .int .i64 t] 164)) nq).mono HB.out.size))).out⟩
              · have HG2 := Lib.hid (fun w => sGap_any b n w (inR_true.1 h1).1 (inR_true.1 h1).2 (inR_true.1 q1).1 (inR_true.1 q1).2)
                have HX := Lib.hid (HBd.out (HB1.out (by first | (simp [q1B, q1, q2]; done) | (simp [q1B, q1, q2]; intros; omega))))
                go_wp2_with (first | (go_at_call 71; refine (nGood_any _ _).mono ?_; rintro e w' ⟨rfl, rfl⟩) | (go_at_call 68; refine (l1In_any _ _ _ _).mono ?_; rintro e w' ⟨rfl, rfl⟩) | (go_at_call 73; refine (HG2.out _).mono ?_; rintro e w' ⟨rfl, rfl⟩))
                go_ret
                exact ⟨ret_bool HX.out.symm, HB.out.trans ((below_alloc1 _ _).mono HB.out.size)⟩
        · obtain rfl : k = xs.length := by omega
          have HG := Lib.hid (qsB_good h1 h2 (fun j hj => HF.out j (by omega)))
          go_wp2
          go_ret
          exact ⟨ret_bool HG.out.symm, HB.out⟩
    · go_enter Tryz.func108, Tryz.ntmps108
      go_wp2_with (first | (go_at_call 71; refine (nGood_any _ _).mono ?_; rintro e w' ⟨rfl, rfl⟩))
      go_ret
      exact ⟨ret_bool (by first | (simp [qsB, h1, h2]; done) | (simp [qsB, h1, h2]; intros; omega)), Below.refl _ _⟩
end Go.Proofs.YtihpibdodlgpaaaGreatDoor
