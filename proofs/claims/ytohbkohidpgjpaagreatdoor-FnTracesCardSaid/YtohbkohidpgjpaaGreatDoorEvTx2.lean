/- The text of an event: the program's and the reference's EventText, for every event, where the table of words and the library's table of powers hold what is laid. -/
import Derived.Test.YtohbkohidpgjpaaGreatDoorEvTx
import Derived.Test.YtohbkohidpgjpaaGreatDoorStrS
namespace Go.Proofs.YtohbkohidpgjpaaGreatDoor
open Go.RowKit

theorem words17_any (k : Nat) (hk : k < 5) (w : World) : Calls Tryz.prog 37 #[] w fun e w' => ∃ g, e = .returned (.slice (some ⟨g, 0, none⟩) 5 5) ∧ w'.cell? ⟨g, k, none⟩ = some (.string (trW k)) ∧ Below w.heap.size w w' := by
  have hc : ∀ i u, ([.string (trW 0), .string (trW 1), .string (trW 2), .string (trW 3), .string (trW 4)] : List Value)[i]? = some u → (w.alloc (.cells #[.string (trW 0), .string (trW 1), .string (trW 2), .string (trW 3), .string (trW 4)] 9)).cell? ((⟨w.heap.size, 0, none⟩ : Addr).add i) = some u := cells_new w #[_, _, _, _, _] _
  have HC : Hid ((w.alloc (.cells #[.string (trW 0), .string (trW 1), .string (trW 2), .string (trW 3), .string (trW 4)] 9)).cell? ⟨w.heap.size, k, none⟩ = some (.string (trW k))) := Lib.hid (by
    have h := hc k (.string (trW k)) (by
      have : k = 0 ∨ k = 1 ∨ k = 2 ∨ k = 3 ∨ k = 4 := by omega
      rcases this with rfl | rfl | rfl | rfl | rfl <;> rfl)
    rwa [show (⟨w.heap.size, 0, none⟩ : Addr).add k = ⟨w.heap.size, k, none⟩ from by unfold Addr.add; split <;> simp_all] at h)
  clear hc
  go_enter Tryz.func37, Tryz.ntmps37
  go_wp2
  go_ret
  exact ⟨_, rfl, HC.out, below_alloc1 _ _⟩
theorem evT_nat (t n k m : Nat) : evT ⟨t, n, k, m⟩ = numT t ++ ⟨#[58, 32, 110, 111, 100, 101, 32]⟩ ++ numT n ++ ⟨#[32]⟩ ++ trW k ++ ⟨#[32]⟩ ++ numT m := rfl
/-- a valid event, in natural numbers -/
theorem evB_nat {x : Ev} (h : evB x = true) : ∃ t n k m : Nat, x = ⟨t, n, k, m⟩ ∧ t ≤ 10000 ∧ n ≤ 7 ∧ 1 ≤ k ∧ k ≤ 4 ∧ m ≤ 65535 := by
  obtain ⟨a, b, c, d⟩ := x
  have h := evB_iff.1 h
  simp only at h
  exact ⟨a.toNat, b.toNat, c.toNat, d.toNat, by simp only [Ev.mk.injEq]; omega, by omega, by omega, by omega, by omega, by omega⟩
set_option maxRecDepth 100000 in
set_option maxHeartbeats 2000000 in
theorem l17Text_any (x : Ev) (w : World) (hx : evB x = true) :
    Calls Tryz.prog 28 #[x.v] w fun e w' => e = .returned (.string (evT x)) ∧ Below w.heap.size w w' := by
  obtain ⟨t, n, k, m, rfl, ht, hn, hk1, hk4, hm⟩ := evB_nat hx
  clear hx
  have N1 := Lib.hid (fun w => num_any t w (by omega))
  have N2 := Lib.hid (fun w => num_any n w (by omega))
  have N3 := Lib.hid (fun w => num_any m w (by omega))
  have HWd := Lib.hid (fun w => words17_any k (by omega) w)
  have HE := Lib.hid (evT_nat t n k m)
  have s1 := numT_small (n := t) (by omega)
  have s2 := numT_small (n := n) (by omega)
  have s3 := numT_small (n := m) (by omega)
  have s4 := trW_size k
  generalize numT t = a at *
  generalize numT n = b at *
  generalize numT m = c at *
  generalize trW k = d at *
  have z1 : (⟨#[58, 32, 110, 111, 100, 101, 32]⟩ : ByteArray).size = 7 := rfl
  have z2 : (⟨#[32]⟩ : ByteArray).size = 1 := rfl
  have hk5 : (k : Int) < 5 := by omega
  have n1 : ¬ 9223372036854775807 < a.size + 7 := by omega
  have n2 : ¬ 9223372036854775807 < a.size + 7 + b.size := by omega
  have n3 : ¬ 9223372036854775807 < a.size + 7 + b.size + 1 := by omega
  have n4 : ¬ 9223372036854775807 < a.size + 7 + b.size + 1 + d.size := by omega
  have n5 : ¬ 9223372036854775807 < a.size + 7 + b.size + 1 + d.size + 1 := by omega
  have n6 : ¬ 9223372036854775807 < a.size + 7 + b.size + 1 + d.size + 1 + c.size := by omega
  have c0 : (w.alloc (.cells #[.int .i64 t, .int .i64 n, .int .i64 k, .int .i64 m] 25)).cell? ⟨w.heap.size, 0, none⟩ = some (.int .i64 t) := by rw [cell_of_row _ _ _ _ _ _ (heap_alloc_new w _)]; rfl
  have c1 : (w.alloc (.cells #[.int .i64 t, .int .i64 n, .int .i64 k, .int .i64 m] 25)).cell? ⟨w.heap.size, 1, none⟩ = some (.int .i64 n) := by rw [cell_of_row _ _ _ _ _ _ (heap_alloc_new w _)]; rfl
  have c2 : (w.alloc (.cells #[.int .i64 t, .int .i64 n, .int .i64 k, .int .i64 m] 25)).cell? ⟨w.heap.size, 2, none⟩ = some (.int .i64 k) := by rw [cell_of_row _ _ _ _ _ _ (heap_alloc_new w _)]; rfl
  have c3 : (w.alloc (.cells #[.int .i64 t, .int .i64 n, .int .i64 k, .int .i64 m] 25)).cell? ⟨w.heap.size, 3, none⟩ = some (.int .i64 m) := by rw [cell_of_row _ _ _ _ _ _ (heap_alloc_new w _)]; rfl
  go_enter Tryz.func28, Tryz.ntmps28
  go_wp2_with fail
  refine wp_region_held_drew (S := (fun w' => Below w.heap.size w w' ∧ w'.cell? ⟨w.heap.size, 0, none⟩ = some (.int .i64 t) ∧ w'.cell? ⟨w.heap.size, 1, none⟩ = some (.int .i64 n) ∧ w'.cell? ⟨w.heap.size, 2, none⟩ = some (.int .i64 k) ∧ w'.cell? ⟨w.heap.size, 3, none⟩ = some (.int .i64 m))) (by kernel_rfl) ?rx2s (fun hHeld => ?rx20)
  case rx2s => ((try dsimp only); exact ⟨(below_alloc1 _ _).drew, c0, c1, c2, c3⟩)
  try simp only [Act.put, List.setIfInBounds_toArray, List.set_cons_zero, List.set_cons_succ]
  refine take_at 0 (some 3) (v := ?vx2_1) rfl rfl (by kernel_rfl) (by kernel_rfl) (by kernel_rfl) (fun _ _ _ h => h) (Or.inl ⟨by kernel_rfl, ?yx2_1⟩) hHeld ?zx2_1
  case yx2_1 => (intro wS hSw; (try dsimp only at hSw); go_simp; (try with_reducible rfl))
  try simp only [Act.put, List.setIfInBounds_toArray, List.set_cons_zero, List.set_cons_succ]
  refine take_at 1 (some 4) (v := ?vx2_2) rfl rfl (by kernel_rfl) (by kernel_rfl) (by kernel_rfl) (fun _ _ _ h => h) (Or.inl ⟨by kernel_rfl, ?yx2_2⟩) hHeld ?zx2_2
  case yx2_2 => (intro wS hSw; (try dsimp only at hSw); go_simp; (try with_reducible rfl))
  try simp only [Act.put, List.setIfInBounds_toArray, List.set_cons_zero, List.set_cons_succ]
  refine take_at 4 (some 7) (v := ?vx2_3) rfl rfl (by kernel_rfl) (by kernel_rfl) (by kernel_rfl) (fun _ _ _ h => h) (Or.inl ⟨by kernel_rfl, ?yx2_3⟩) hHeld ?zx2_3
  case yx2_3 => (intro wS hSw; (try dsimp only at hSw); go_simp; (try with_reducible rfl))
  try simp only [Act.put, List.setIfInBounds_toArray, List.set_cons_zero, List.set_cons_succ]
  refine take_at 5 (some 8) (v := ?vx2_4) rfl rfl (by kernel_rfl) (by kernel_rfl) (by kernel_rfl) (fun _ _ _ h => h) (Or.inl ⟨by kernel_rfl, ?yx2_4⟩) hHeld ?zx2_4
  case yx2_4 => (intro wS hSw; (try dsimp only at hSw); go_simp; (try with_reducible rfl))
  try simp only [Act.put, List.setIfInBounds_toArray, List.set_cons_zero, List.set_cons_succ]
  refine take_at 10 (some 13) (v := ?vx2_5) rfl rfl (by kernel_rfl) (by kernel_rfl) (by kernel_rfl) (fun _ _ _ h => h) (Or.inl ⟨by kernel_rfl, ?yx2_5⟩) hHeld ?zx2_5
  case yx2_5 => (intro wS hSw; (try dsimp only at hSw); go_simp; (try with_reducible rfl))
  try simp only [Act.put, List.setIfInBounds_toArray, List.set_cons_zero, List.set_cons_succ]
  refine take_at 11 (some 14) (v := ?vx2_6) rfl rfl (by kernel_rfl) (by kernel_rfl) (by kernel_rfl) (fun _ _ _ h => h) (Or.inl ⟨by kernel_rfl, ?yx2_6⟩) hHeld ?zx2_6
  case yx2_6 => (intro wS hSw; (try dsimp only at hSw); go_simp; (try with_reducible rfl))
  try simp only [Act.put, List.setIfInBounds_toArray, List.set_cons_zero, List.set_cons_succ]
  refine take_at 16 (some 19) (v := ?vx2_7) rfl rfl (by kernel_rfl) (by kernel_rfl) (by kernel_rfl) (fun _ _ _ h => h) (Or.inl ⟨by kernel_rfl, ?yx2_7⟩) hHeld ?zx2_7
  case yx2_7 => (intro wS hSw; (try dsimp only at hSw); go_simp; (try with_reducible rfl))
  try simp only [Act.put, List.setIfInBounds_toArray, List.set_cons_zero, List.set_cons_succ]
  refine take_at 17 (some 20) (v := ?vx2_8) rfl rfl (by kernel_rfl) (by kernel_rfl) (by kernel_rfl) (fun _ _ _ h => h) (Or.inl ⟨by kernel_rfl, ?yx2_8⟩) hHeld ?zx2_8
  case yx2_8 => (intro wS hSw; (try dsimp only at hSw); go_simp; (try with_reducible rfl))
  try simp only [Act.put, List.setIfInBounds_toArray, List.set_cons_zero, List.set_cons_succ]
  refine wpAnyH_ready (rs := [2]) (by kernel_rfl) (by simp) ?_
  refine cons_at (some 5) rfl rfl (by kernel_rfl) (fun K hK => ?kx2_10) AllReadyH.nil
  go_simp
  (go_at_call 59; refine (N1.out _).mono ?_; rintro e w' ⟨rfl, hbel⟩)
  try go_wp2_with fail
  refine hK.out _ _ ?sx2_10 (fun hHeld => ?_)
  case sx2_10 => ((try dsimp only); first | exact keepB4 (by assumption) hbel | assumption)
  clear hK K
  try simp only [Act.put, List.setIfInBounds_toArray, List.set_cons_zero, List.set_cons_succ]
  refine take_at 3 (some 6) (v := ?vx2_11) rfl rfl (by kernel_rfl) (by kernel_rfl) (by kernel_rfl) (fun _ _ _ h => h) (Or.inl ⟨by kernel_rfl, ?yx2_11⟩) hHeld ?zx2_11
  case yx2_11 => (intro wS hSw; (try dsimp only at hSw); go_simp; (try with_reducible rfl))
  try simp only [Act.put, List.setIfInBounds_toArray, List.set_cons_zero, List.set_cons_succ]
  refine wpAnyH_ready (rs := [6]) (by kernel_rfl) (by simp) ?_
  refine cons_at (some 9) rfl rfl (by kernel_rfl) (fun K hK => ?kx2_13) AllReadyH.nil
  go_simp
  (go_at_call 59; refine (N2.out _).mono ?_; rintro e w' ⟨rfl, hbel⟩)
  try go_wp2_with fail
  refine hK.out _ _ ?sx2_13 (fun hHeld => ?_)
  case sx2_13 => ((try dsimp only); first | exact keepB4 (by assumption) hbel | assumption)
  clear hK K
  try simp only [Act.put, List.setIfInBounds_toArray, List.set_cons_zero, List.set_cons_succ]
  refine take_at 7 (some 10) (v := ?vx2_14) rfl rfl (by kernel_rfl) (by kernel_rfl) (by kernel_rfl) (fun _ _ _ h => h) (Or.inl ⟨by kernel_rfl, ?yx2_14⟩) hHeld ?zx2_14
  case yx2_14 => (intro wS hSw; (try dsimp only at hSw); go_simp; (try with_reducible rfl))
  try simp only [Act.put, List.setIfInBounds_toArray, List.set_cons_zero, List.set_cons_succ]
  refine take_at 8 (some 11) (v := ?vx2_15) rfl rfl (by kernel_rfl) (by kernel_rfl) (by kernel_rfl) (fun _ _ _ h => h) (Or.inl ⟨by kernel_rfl, ?yx2_15⟩) hHeld ?zx2_15
  case yx2_15 => (intro wS hSw; (try dsimp only at hSw); go_simp; (try with_reducible rfl))
  try simp only [Act.put, List.setIfInBounds_toArray, List.set_cons_zero, List.set_cons_succ]
  refine wpAnyH_ready (rs := [9]) (by kernel_rfl) (by simp) ?_
  refine cons_at (some 12) rfl rfl (by kernel_rfl) (fun K hK => ?kx2_17) AllReadyH.nil
  go_simp
  (go_at_call 37; refine (HWd.out _).mono ?_; rintro e w' ⟨g, rfl, cw, hbel⟩)
  try go_wp2_with fail
  refine hK.out _ _ ?sx2_17 (fun hHeld => ?_)
  case sx2_17 => ((try dsimp only); first | exact keepB4 (by assumption) hbel | assumption)
  clear hK K
  try simp only [Act.put, List.setIfInBounds_toArray, List.set_cons_zero, List.set_cons_succ]
  refine wpAnyH_ready (rs := [12, 18]) (by kernel_rfl) (by simp) ?_
  refine cons_at (some 15) rfl rfl (by kernel_rfl) (fun K hK => ?kx2_19) ?mx2_19
  case kx2_19 =>
    go_simp
    refine hK.out _ _ ?sx2_19 (fun hHeld => ?_)
    case sx2_19 => ((try dsimp only); first | exact keepB4 (by assumption) hbel | assumption)
    clear hK K
    try simp only [Act.put, List.setIfInBounds_toArray, List.set_cons_zero, List.set_cons_succ]
    refine wpAnyH_ready (rs := [13, 18]) (by kernel_rfl) (by simp) ?_
    refine cons_at (some 16) rfl rfl (by kernel_rfl) (fun K hK => ?kx2_21) ?mx2_21
    case kx2_21 =>
      go_simp
      refine hK.out _ _ ?sx2_21 (fun hHeld => ?_)
      case sx2_21 => ((try dsimp only); first | exact keepB4 (by assumption) hbel | assumption)
      clear hK K
      try simp only [Act.put, List.setIfInBounds_toArray, List.set_cons_zero, List.set_cons_succ]
      refine take_at 14 (some 17) (v := ?vx2_22) rfl rfl (by kernel_rfl) (by kernel_rfl) (by kernel_rfl) (fun _ _ _ h => h) (Or.inl ⟨by kernel_rfl, ?yx2_22⟩) hHeld ?zx2_22
      case yx2_22 => (intro wS hSw; (try dsimp only at hSw); go_simp; (try with_reducible rfl))
      try simp only [Act.put, List.setIfInBounds_toArray, List.set_cons_zero, List.set_cons_succ]
      refine take_at 15 (some 18) (v := ?vx2_23) rfl rfl (by kernel_rfl) (by kernel_rfl) (by kernel_rfl) (fun _ _ _ h => h) (Or.inl ⟨by kernel_rfl, ?yx2_23⟩) hHeld ?zx2_23
      case yx2_23 => (intro wS hSw; (try dsimp only at hSw); go_simp; (try with_reducible rfl))
      try simp only [Act.put, List.setIfInBounds_toArray, List.set_cons_zero, List.set_cons_succ]
      refine wpAnyH_ready (rs := [18]) (by kernel_rfl) (by simp) ?_
      refine cons_at (some 21) rfl rfl (by kernel_rfl) (fun K hK => ?kx2_25) AllReadyH.nil
      go_simp
      (go_at_call 59; refine (N3.out _).mono ?_; rintro e w' ⟨rfl, hbel⟩; have cw := cell_on hbel cw)
      try go_wp2_with fail
      refine hK.out _ _ ?sx2_25 (fun hHeld => ?_)
      case sx2_25 => ((try dsimp only); first | exact keepB4 (by assumption) hbel | assumption)
      clear hK K
      try simp only [Act.put, List.setIfInBounds_toArray, List.set_cons_zero, List.set_cons_succ]
      refine take_at 19 (some 22) (v := ?vx2_26) rfl rfl (by kernel_rfl) (by kernel_rfl) (by kernel_rfl) (fun _ _ _ h => h) (Or.inl ⟨by kernel_rfl, ?yx2_26⟩) hHeld ?zx2_26
      case yx2_26 => (intro wS hSw; (try dsimp only at hSw); go_simp; (try with_reducible rfl))
      try simp only [Act.put, List.setIfInBounds_toArray, List.set_cons_zero, List.set_cons_succ]
      refine take_at 20 (some 2) (v := ?vx2_27) rfl rfl (by kernel_rfl) (by kernel_rfl) (by kernel_rfl) (fun _ _ _ h => h) (Or.inl ⟨by kernel_rfl, ?yx2_27⟩) hHeld ?zx2_27
      case yx2_27 => (intro wS hSw; (try dsimp only at hSw); go_simp; (try with_reducible rfl))
      try simp only [Act.put, List.setIfInBounds_toArray, List.set_cons_zero, List.set_cons_succ]
      refine wpAnyH_done (by kernel_rfl) ?_ _
      (go_wp2; go_ret; exact ⟨str_same HE.out.symm, hHeld.1⟩)
    refine cons_at (some 21) rfl rfl (by kernel_rfl) (fun K hK => ?kx2_28) AllReadyH.nil
    go_simp
    (go_at_call 59; refine (N3.out _).mono ?_; rintro e w' ⟨rfl, hbel⟩; have cw := cell_on hbel cw)
    try go_wp2_with fail
    refine hK.out _ _ ?sx2_28 (fun hHeld => ?_)
    case sx2_28 => ((try dsimp only); first | exact keepB4 (by assumption) hbel | assumption)
    clear hK K
    try simp only [Act.put, List.setIfInBounds_toArray, List.set_cons_zero, List.set_cons_succ]
    refine wpAnyH_ready (rs := [13]) (by kernel_rfl) (by simp) ?_
    refine cons_at (some 16) rfl rfl (by kernel_rfl) (fun K hK => ?kx2_30) AllReadyH.nil
    go_simp
    refine hK.out _ _ ?sx2_30 (fun hHeld => ?_)
    case sx2_30 => ((try dsimp only); first | exact keepB4 (by assumption) hbel | assumption)
    clear hK K
    try simp only [Act.put, List.setIfInBounds_toArray, List.set_cons_zero, List.set_cons_succ]
    refine take_at 14 (some 17) (v := ?vx2_31) rfl rfl (by kernel_rfl) (by kernel_rfl) (by kernel_rfl) (fun _ _ _ h => h) (Or.inl ⟨by kernel_rfl, ?yx2_31⟩) hHeld ?zx2_31
    case yx2_31 => (intro wS hSw; (try dsimp only at hSw); go_simp; (try with_reducible rfl))
    try simp only [Act.put, List.setIfInBounds_toArray, List.set_cons_zero, List.set_cons_succ]
    refine take_at 15 (some 18) (v := ?vx2_32) rfl rfl (by kernel_rfl) (by kernel_rfl) (by kernel_rfl) (fun _ _ _ h => h) (Or.inl ⟨by kernel_rfl, ?yx2_32⟩) hHeld ?zx2_32
    case yx2_32 => (intro wS hSw; (try dsimp only at hSw); go_simp; (try with_reducible rfl))
    try simp only [Act.put, List.setIfInBounds_toArray, List.set_cons_zero, List.set_cons_succ]
    refine take_at 19 (some 22) (v := ?vx2_33) rfl rfl (by kernel_rfl) (by kernel_rfl) (by kernel_rfl) (fun _ _ _ h => h) (Or.inl ⟨by kernel_rfl, ?yx2_33⟩) hHeld ?zx2_33
    case yx2_33 => (intro wS hSw; (try dsimp only at hSw); go_simp; (try with_reducible rfl))
    try simp only [Act.put, List.setIfInBounds_toArray, List.set_cons_zero, List.set_cons_succ]
    refine take_at 20 (some 2) (v := ?vx2_34) rfl rfl (by kernel_rfl) (by kernel_rfl) (by kernel_rfl) (fun _ _ _ h => h) (Or.inl ⟨by kernel_rfl, ?yx2_34⟩) hHeld ?zx2_34
    case yx2_34 => (intro wS hSw; (try dsimp only at hSw); go_simp; (try with_reducible rfl))
    try simp only [Act.put, List.setIfInBounds_toArray, List.set_cons_zero, List.set_cons_succ]
    refine wpAnyH_done (by kernel_rfl) ?_ _
    (go_wp2; go_ret; exact ⟨str_same HE.out.symm, hHeld.1⟩)
  refine cons_at (some 21) rfl rfl (by kernel_rfl) (fun K hK => ?kx2_35) AllReadyH.nil
  go_simp
  (go_at_call 59; refine (N3.out _).mono ?_; rintro e w' ⟨rfl, hbel⟩; have cw := cell_on hbel cw)
  try go_wp2_with fail
  refine hK.out _ _ ?sx2_35 (fun hHeld => ?_)
  case sx2_35 => ((try dsimp only); first | exact keepB4 (by assumption) hbel | assumption)
  clear hK K
  try simp only [Act.put, List.setIfInBounds_toArray, List.set_cons_zero, List.set_cons_succ]
  refine wpAnyH_ready (rs := [12]) (by kernel_rfl) (by simp) ?_
  refine cons_at (some 15) rfl rfl (by kernel_rfl) (fun K hK => ?kx2_37) AllReadyH.nil
  go_simp
  refine hK.out _ _ ?sx2_37 (fun hHeld => ?_)
  case sx2_37 => ((try dsimp only); first | exact keepB4 (by assumption) hbel | assumption)
  clear hK K
  try simp only [Act.put, List.setIfInBounds_toArray, List.set_cons_zero, List.set_cons_succ]
  refine wpAnyH_ready (rs := [13]) (by kernel_rfl) (by simp) ?_
  refine cons_at (some 16) rfl rfl (by kernel_rfl) (fun K hK => ?kx2_39) AllReadyH.nil
  go_simp
  refine hK.out _ _ ?sx2_39 (fun hHeld => ?_)
  case sx2_39 => ((try dsimp only); first | exact keepB4 (by assumption) hbel | assumption)
  clear hK K
  try simp only [Act.put, List.setIfInBounds_toArray, List.set_cons_zero, List.set_cons_succ]
  refine take_at 14 (some 17) (v := ?vx2_40) rfl rfl (by kernel_rfl) (by kernel_rfl) (by kernel_rfl) (fun _ _ _ h => h) (Or.inl ⟨by kernel_rfl, ?yx2_40⟩) hHeld ?zx2_40
  case yx2_40 => (intro wS hSw; (try dsimp only at hSw); go_simp; (try with_reducible rfl))
  try simp only [Act.put, List.setIfInBounds_toArray, List.set_cons_zero, List.set_cons_succ]
  refine take_at 15 (some 18) (v := ?vx2_41) rfl rfl (by kernel_rfl) (by kernel_rfl) (by kernel_rfl) (fun _ _ _ h => h) (Or.inl ⟨by kernel_rfl, ?yx2_41⟩) hHeld ?zx2_41
  case yx2_41 => (intro wS hSw; (try dsimp only at hSw); go_simp; (try with_reducible rfl))
  try simp only [Act.put, List.setIfInBounds_toArray, List.set_cons_zero, List.set_cons_succ]
  refine take_at 19 (some 22) (v := ?vx2_42) rfl rfl (by kernel_rfl) (by kernel_rfl) (by kernel_rfl) (fun _ _ _ h => h) (Or.inl ⟨by kernel_rfl, ?yx2_42⟩) hHeld ?zx2_42
  case yx2_42 => (intro wS hSw; (try dsimp only at hSw); go_simp; (try with_reducible rfl))
  try simp only [Act.put, List.setIfInBounds_toArray, List.set_cons_zero, List.set_cons_succ]
  refine take_at 20 (some 2) (v := ?vx2_43) rfl rfl (by kernel_rfl) (by kernel_rfl) (by kernel_rfl) (fun _ _ _ h => h) (Or.inl ⟨by kernel_rfl, ?yx2_43⟩) hHeld ?zx2_43
  case yx2_43 => (intro wS hSw; (try dsimp only at hSw); go_simp; (try with_reducible rfl))
  try simp only [Act.put, List.setIfInBounds_toArray, List.set_cons_zero, List.set_cons_succ]
  refine wpAnyH_done (by kernel_rfl) ?_ _
  (go_wp2; go_ret; exact ⟨str_same HE.out.symm, hHeld.1⟩)
set_option maxRecDepth 100000 in
set_option maxHeartbeats 1000000 in
theorem specText17_any (x : Ev) (w : World) :
    Calls Tryz.prog 7 #[x.v] w fun e w' => e = .returned (.tuple #[.string (evtV x), .bool (evB x)]) ∧ Below w.heap.size w w' := by
  have HG := Lib.hid (fun w => l17One_any x w)
  cases hB : evB x
  · have HV : Hid (evtV x = ⟨#[]⟩) := Lib.hid (by rw [evtV, hB]; rfl)
    rw [hB] at HG
    obtain ⟨t, n, k, m⟩ := x
    go_enter Tryz.func7, Tryz.ntmps7
    go_wp2_with fail
    refine (HG.out _).mono ?_
    rintro e w1 ⟨rfl, hb1⟩
    have HB := Lib.hid (Below.trans (by go_grown) (hb1.mono (by simp)) : Below w.heap.size w w1); clear hb1
    go_wp2
    refine bodyPost_ret (v := (.tuple #[.string ⟨#[]⟩, .bool false])) (by simp [results, Tryz.results7, go_sem, *]) rfl ?_
    exact ⟨by rw [HV.out], HB.out⟩
  · have HV : Hid (evtV x = evT x) := Lib.hid (by rw [evtV, if_pos hB])
    have HT := Lib.hid (fun w => l17Text_any x w hB)
    rw [hB] at HG
    generalize evT x = tx at *
    obtain ⟨t, n, k, m⟩ := x
    go_enter Tryz.func7, Tryz.ntmps7
    go_wp2_with fail
    refine (HG.out _).mono ?_
    rintro e w1 ⟨rfl, hb1⟩
    have HX : Hid (w1.heap[w.heap.size]? = some (.cells #[.int .i64 t, .int .i64 n, .int .i64 k, .int .i64 m] 25 (0, 0))) := Lib.hid ((hb1.block w.heap.size (by simp)).trans (heap_alloc_new _ _))
    have HB := Lib.hid (Below.trans (by go_grown) (hb1.mono (by simp)) : Below w.heap.size w w1); clear hb1
    have uh := HX.out; have u0 := cell_of_row w1 (w.heap.size) 0 _ _ _ uh; simp at u0; have uf0 := frozen_of_row w1 (w.heap.size) 0 _ _ uh; have u1 := cell_of_row w1 (w.heap.size) 1 _ _ _ uh; simp at u1; have uf1 := frozen_of_row w1 (w.heap.size) 1 _ _ uh; have u2 := cell_of_row w1 (w.heap.size) 2 _ _ _ uh; simp at u2; have uf2 := frozen_of_row w1 (w.heap.size) 2 _ _ uh; have u3 := cell_of_row w1 (w.heap.size) 3 _ _ _ uh; simp at u3; have uf3 := frozen_of_row w1 (w.heap.size) 3 _ _ uh; clear uh
    go_wp2_with fail
    refine (HT.out _).mono ?_
    rintro e w2 ⟨rfl, hb2⟩
    have HB2 := Lib.hid (HB.out.trans (hb2.mono HB.out.size)); clear hb2
    go_wp2
    refine bodyPost_ret (v := (.tuple #[.string tx, .bool true])) (by simp [results, Tryz.results7, go_sem, *]) rfl ?_
    exact ⟨by rw [HV.out], HB2.out⟩
set_option maxRecDepth 100000 in
set_option maxHeartbeats 2000000 in
theorem implText17_any (x : Ev) (w : World) (hW : TrAt w) (hP : PowAt w) :
    Calls Tryz.prog 6 #[x.v] w fun e w' => e = .returned (.tuple #[.string (evtV x), .bool (evB x)]) ∧ Below w.heap.size w w' := by
  have HWo := Lib.hid hW; have HPw := Lib.hid hP
  clear hW hP
  have HG := Lib.hid (fun w => isEvent_any x w)
  cases hB : evB x
  · have HV : Hid (evtV x = ⟨#[]⟩) := Lib.hid (by rw [evtV, hB]; rfl)
    rw [hB] at HG
    obtain ⟨t, n, k, m⟩ := x
    go_enter Tryz.func6, Tryz.ntmps6
    go_wp2_with fail
    refine (HG.out _).mono ?_
    rintro e w1 ⟨rfl, hb1⟩
    have HB := Lib.hid (Below.trans (by go_grown) (hb1.mono (by simp)) : Below w.heap.size w w1); clear hb1
    go_wp2
    refine bodyPost_ret (v := (.tuple #[.string ⟨#[]⟩, .bool false])) (by simp [results, Tryz.results6, go_sem, *]) rfl ?_
    exact ⟨by rw [HV.out], HB.out⟩
  · have HV : Hid (evtV x = evT x) := Lib.hid (by rw [evtV, if_pos hB])
    rw [hB] at HG
    obtain ⟨t, n, k, m, rfl, ht, hn, hk1, hk4, hm⟩ := evB_nat hB
    clear hB
    have N1 := Lib.hid (fun w h => itoa_any t w (by omega) h)
    have N2 := Lib.hid (fun w h => itoa_any n w (by omega) h)
    have N3 := Lib.hid (fun w h => itoa_any m w (by omega) h)
    have HE := Lib.hid (evT_nat t n k m)
    have s1 := numT_small (n := t) (by omega)
    have s2 := numT_small (n := n) (by omega)
    have s3 := numT_small (n := m) (by omega)
    have s4 := trW_size k
    have HWk := Lib.hid (fun W (h : Below w.heap.size w W) => (HWo.out.below h) k (by omega))
    generalize numT t = a at *
    generalize numT n = b at *
    generalize numT m = c at *
    generalize trW k = d at *
    have z1 : (⟨#[58, 32, 110, 111, 100, 101, 32]⟩ : ByteArray).size = 7 := rfl
    have z2 : (⟨#[32]⟩ : ByteArray).size = 1 := rfl
    have hk5 : (k : Int) < 5 := by omega
    have n1 : ¬ 9223372036854775807 < a.size + 7 := by omega
    have n2 : ¬ 9223372036854775807 < a.size + 7 + b.size := by omega
    have n3 : ¬ 9223372036854775807 < a.size + 7 + b.size + 1 := by omega
    have n4 : ¬ 9223372036854775807 < a.size + 7 + b.size + 1 + d.size := by omega
    have n5 : ¬ 9223372036854775807 < a.size + 7 + b.size + 1 + d.size + 1 := by omega
    have n6 : ¬ 9223372036854775807 < a.size + 7 + b.size + 1 + d.size + 1 + c.size := by omega
    go_enter Tryz.func6, Tryz.ntmps6
    go_wp2_with fail
    refine (HG.out _).mono ?_
    rintro e w1 ⟨rfl, hb1⟩
    have HX : Hid (w1.heap[w.heap.size]? = some (.cells #[.int .i64 t, .int .i64 n, .int .i64 k, .int .i64 m] 25 (0, 0))) := Lib.hid ((hb1.block w.heap.size (by simp)).trans (heap_alloc_new _ _))
    have HB := Lib.hid (Below.trans (by go_grown) (hb1.mono (by simp)) : Below w.heap.size w w1); clear hb1
    have uh := HX.out; have u0 := cell_of_row w1 (w.heap.size) 0 _ _ _ uh; simp at u0; have uf0 := frozen_of_row w1 (w.heap.size) 0 _ _ uh; have u1 := cell_of_row w1 (w.heap.size) 1 _ _ _ uh; simp at u1; have uf1 := frozen_of_row w1 (w.heap.size) 1 _ _ uh; have u2 := cell_of_row w1 (w.heap.size) 2 _ _ _ uh; simp at u2; have uf2 := frozen_of_row w1 (w.heap.size) 2 _ _ uh; have u3 := cell_of_row w1 (w.heap.size) 3 _ _ _ uh; simp at u3; have uf3 := frozen_of_row w1 (w.heap.size) 3 _ _ uh; clear uh
    have cw := HWk.out _ HB.out
    go_wp2_with fail
    refine wp_region_held_drew (S := (fun w' => Below w.heap.size w w' ∧ w'.cell? ⟨w.heap.size, 0, none⟩ = some (.int .i64 t) ∧ w'.cell? ⟨w.heap.size, 1, none⟩ = some (.int .i64 n) ∧ w'.cell? ⟨w.heap.size, 2, none⟩ = some (.int .i64 k) ∧ w'.cell? ⟨w.heap.size, 3, none⟩ = some (.int .i64 m) ∧ w'.cell? ⟨0, k, none⟩ = some (.string d))) (by kernel_rfl) ?rx3s (fun hHeld => ?rx30)
    case rx3s => ((try dsimp only); exact ⟨HB.out.drew, u0, u1, u2, u3, cw⟩)
    try simp only [Act.put, List.setIfInBounds_toArray, List.set_cons_zero, List.set_cons_succ]
    refine take_at 0 (some 7) (v := ?vx3_1) rfl rfl (by kernel_rfl) (by kernel_rfl) (by kernel_rfl) (fun _ _ _ h => h) (Or.inl ⟨by kernel_rfl, ?yx3_1⟩) hHeld ?zx3_1
    case yx3_1 => (intro wS hSw; (try dsimp only at hSw); go_simp; (try with_reducible rfl))
    try simp only [Act.put, List.setIfInBounds_toArray, List.set_cons_zero, List.set_cons_succ]
    refine take_at 1 (some 8) (v := ?vx3_2) rfl rfl (by kernel_rfl) (by kernel_rfl) (by kernel_rfl) (fun _ _ _ h => h) (Or.inl ⟨by kernel_rfl, ?yx3_2⟩) hHeld ?zx3_2
    case yx3_2 => (intro wS hSw; (try dsimp only at hSw); go_simp; (try with_reducible rfl))
    try simp only [Act.put, List.setIfInBounds_toArray, List.set_cons_zero, List.set_cons_succ]
    refine take_at 4 (some 11) (v := ?vx3_3) rfl rfl (by kernel_rfl) (by kernel_rfl) (by kernel_rfl) (fun _ _ _ h => h) (Or.inl ⟨by kernel_rfl, ?yx3_3⟩) hHeld ?zx3_3
    case yx3_3 => (intro wS hSw; (try dsimp only at hSw); go_simp; (try with_reducible rfl))
    try simp only [Act.put, List.setIfInBounds_toArray, List.set_cons_zero, List.set_cons_succ]
    refine take_at 5 (some 12) (v := ?vx3_4) rfl rfl (by kernel_rfl) (by kernel_rfl) (by kernel_rfl) (fun _ _ _ h => h) (Or.inl ⟨by kernel_rfl, ?yx3_4⟩) hHeld ?zx3_4
    case yx3_4 => (intro wS hSw; (try dsimp only at hSw); go_simp; (try with_reducible rfl))
    try simp only [Act.put, List.setIfInBounds_toArray, List.set_cons_zero, List.set_cons_succ]
    refine take_at 9 (some 16) (v := ?vx3_5) rfl rfl (by kernel_rfl) (by kernel_rfl) (by kernel_rfl) (fun _ _ _ h => h) (Or.inl ⟨by kernel_rfl, ?yx3_5⟩) hHeld ?zx3_5
    case yx3_5 => (intro wS hSw; (try dsimp only at hSw); go_simp; (try with_reducible rfl))
    try simp only [Act.put, List.setIfInBounds_toArray, List.set_cons_zero, List.set_cons_succ]
    refine take_at 10 (some 17) (v := ?vx3_6) rfl rfl (by kernel_rfl) (by kernel_rfl) (by kernel_rfl) (fun _ _ _ h => h) (Or.inl ⟨by kernel_rfl, ?yx3_6⟩) hHeld ?zx3_6
    case yx3_6 => (intro wS hSw; (try dsimp only at hSw); go_simp; (try with_reducible rfl))
    try simp only [Act.put, List.setIfInBounds_toArray, List.set_cons_zero, List.set_cons_succ]
    refine take_at 11 (some 18) (v := ?vx3_7) rfl rfl (by kernel_rfl) (by kernel_rfl) (by kernel_rfl) (fun _ _ _ h => h) (Or.inl ⟨by kernel_rfl, ?yx3_7⟩) hHeld ?zx3_7
    case yx3_7 => (intro wS hSw; (try dsimp only at hSw); go_simp; (try with_reducible rfl))
    try simp only [Act.put, List.setIfInBounds_toArray, List.set_cons_zero, List.set_cons_succ]
    refine take_at 12 (some 19) (v := ?vx3_8) rfl rfl (by kernel_rfl) (by kernel_rfl) (by kernel_rfl) (fun _ _ _ h => h) (Or.inl ⟨by kernel_rfl, ?yx3_8⟩) hHeld ?zx3_8
    case yx3_8 => (intro wS hSw; (try dsimp only at hSw); go_simp; (try with_reducible rfl))
    try simp only [Act.put, List.setIfInBounds_toArray, List.set_cons_zero, List.set_cons_succ]
    refine take_at 15 (some 22) (v := ?vx3_9) rfl rfl (by kernel_rfl) (by kernel_rfl) (by kernel_rfl) (fun _ _ _ h => h) (Or.inl ⟨by kernel_rfl, ?yx3_9⟩) hHeld ?zx3_9
    case yx3_9 => (intro wS hSw; (try dsimp only at hSw); go_simp; (try with_reducible rfl))
    try simp only [Act.put, List.setIfInBounds_toArray, List.set_cons_zero, List.set_cons_succ]
    refine take_at 16 (some 23) (v := ?vx3_10) rfl rfl (by kernel_rfl) (by kernel_rfl) (by kernel_rfl) (fun _ _ _ h => h) (Or.inl ⟨by kernel_rfl, ?yx3_10⟩) hHeld ?zx3_10
    case yx3_10 => (intro wS hSw; (try dsimp only at hSw); go_simp; (try with_reducible rfl))
    try simp only [Act.put, List.setIfInBounds_toArray, List.set_cons_zero, List.set_cons_succ]
    refine wpAnyH_ready (rs := [2]) (by kernel_rfl) (by simp) ?_
    refine cons_at (some 9) rfl rfl (by kernel_rfl) (fun K hK => ?kx3_12) AllReadyH.nil
    go_simp
    (go_at_call 26; refine (N1.out _ (HPw.out.below hHeld.1)).mono ?_; rintro e w' ⟨rfl, hbel⟩)
    try go_wp2_with fail
    refine hK.out _ _ ?sx3_12 (fun hHeld => ?_)
    case sx3_12 => ((try dsimp only); first | exact keepB5 (by assumption) hbel | assumption)
    clear hK K
    try simp only [Act.put, List.setIfInBounds_toArray, List.set_cons_zero, List.set_cons_succ]
    refine take_at 3 (some 10) (v := ?vx3_13) rfl rfl (by kernel_rfl) (by kernel_rfl) (by kernel_rfl) (fun _ _ _ h => h) (Or.inl ⟨by kernel_rfl, ?yx3_13⟩) hHeld ?zx3_13
    case yx3_13 => (intro wS hSw; (try dsimp only at hSw); go_simp; (try with_reducible rfl))
    try simp only [Act.put, List.setIfInBounds_toArray, List.set_cons_zero, List.set_cons_succ]
    refine wpAnyH_ready (rs := [6]) (by kernel_rfl) (by simp) ?_
    refine cons_at (some 13) rfl rfl (by kernel_rfl) (fun K hK => ?kx3_15) AllReadyH.nil
    go_simp
    (go_at_call 26; refine (N2.out _ (HPw.out.below hHeld.1)).mono ?_; rintro e w' ⟨rfl, hbel⟩)
    try go_wp2_with fail
    refine hK.out _ _ ?sx3_15 (fun hHeld => ?_)
    case sx3_15 => ((try dsimp only); first | exact keepB5 (by assumption) hbel | assumption)
    clear hK K
    try simp only [Act.put, List.setIfInBounds_toArray, List.set_cons_zero, List.set_cons_succ]
    refine take_at 7 (some 14) (v := ?vx3_16) rfl rfl (by kernel_rfl) (by kernel_rfl) (by kernel_rfl) (fun _ _ _ h => h) (Or.inl ⟨by kernel_rfl, ?yx3_16⟩) hHeld ?zx3_16
    case yx3_16 => (intro wS hSw; (try dsimp only at hSw); go_simp; (try with_reducible rfl))
    try simp only [Act.put, List.setIfInBounds_toArray, List.set_cons_zero, List.set_cons_succ]
    refine take_at 8 (some 15) (v := ?vx3_17) rfl rfl (by kernel_rfl) (by kernel_rfl) (by kernel_rfl) (fun _ _ _ h => h) (Or.inl ⟨by kernel_rfl, ?yx3_17⟩) hHeld ?zx3_17
    case yx3_17 => (intro wS hSw; (try dsimp only at hSw); go_simp; (try with_reducible rfl))
    try simp only [Act.put, List.setIfInBounds_toArray, List.set_cons_zero, List.set_cons_succ]
    refine take_at 13 (some 20) (v := ?vx3_18) rfl rfl (by kernel_rfl) (by kernel_rfl) (by kernel_rfl) (fun _ _ _ h => h) (Or.inl ⟨by kernel_rfl, ?yx3_18⟩) hHeld ?zx3_18
    case yx3_18 => (intro wS hSw; (try dsimp only at hSw); go_simp; (try with_reducible rfl))
    try simp only [Act.put, List.setIfInBounds_toArray, List.set_cons_zero, List.set_cons_succ]
    refine take_at 14 (some 21) (v := ?vx3_19) rfl rfl (by kernel_rfl) (by kernel_rfl) (by kernel_rfl) (fun _ _ _ h => h) (Or.inl ⟨by kernel_rfl, ?yx3_19⟩) hHeld ?zx3_19
    case yx3_19 => (intro wS hSw; (try dsimp only at hSw); go_simp; (try with_reducible rfl))
    try simp only [Act.put, List.setIfInBounds_toArray, List.set_cons_zero, List.set_cons_succ]
    refine wpAnyH_ready (rs := [17]) (by kernel_rfl) (by simp) ?_
    refine cons_at (some 24) rfl rfl (by kernel_rfl) (fun K hK => ?kx3_21) AllReadyH.nil
    go_simp
    (go_at_call 26; refine (N3.out _ (HPw.out.below hHeld.1)).mono ?_; rintro e w' ⟨rfl, hbel⟩)
    try go_wp2_with fail
    refine hK.out _ _ ?sx3_21 (fun hHeld => ?_)
    case sx3_21 => ((try dsimp only); first | exact keepB5 (by assumption) hbel | assumption)
    clear hK K
    try simp only [Act.put, List.setIfInBounds_toArray, List.set_cons_zero, List.set_cons_succ]
    refine take_at 18 (some 25) (v := ?vx3_22) rfl rfl (by kernel_rfl) (by kernel_rfl) (by kernel_rfl) (fun _ _ _ h => h) (Or.inl ⟨by kernel_rfl, ?yx3_22⟩) hHeld ?zx3_22
    case yx3_22 => (intro wS hSw; (try dsimp only at hSw); go_simp; (try with_reducible rfl))
    try simp only [Act.put, List.setIfInBounds_toArray, List.set_cons_zero, List.set_cons_succ]
    refine take_at 19 (some 2) (v := ?vx3_23) rfl rfl (by kernel_rfl) (by kernel_rfl) (by kernel_rfl) (fun _ _ _ h => h) (Or.inl ⟨by kernel_rfl, ?yx3_23⟩) hHeld ?zx3_23
    case yx3_23 => (intro wS hSw; (try dsimp only at hSw); go_simp; (try with_reducible rfl))
    try simp only [Act.put, List.setIfInBounds_toArray, List.set_cons_zero, List.set_cons_succ]
    refine take_at 20 (some 3) (v := ?vx3_24) rfl rfl (by kernel_rfl) (by kernel_rfl) (by kernel_rfl) (fun _ _ _ h => h) (Or.inl ⟨by kernel_rfl, ?yx3_24⟩) hHeld ?zx3_24
    case yx3_24 => (intro wS hSw; (try dsimp only at hSw); go_simp; (try with_reducible rfl))
    try simp only [Act.put, List.setIfInBounds_toArray, List.set_cons_zero, List.set_cons_succ]
    refine wpAnyH_done (by kernel_rfl) ?_ _
    (go_wp2; refine bodyPost_ret (v := (.tuple #[.string (a ++ ⟨#[58, 32, 110, 111, 100, 101, 32]⟩ ++ b ++ ⟨#[32]⟩ ++ d ++ ⟨#[32]⟩ ++ c), .bool true])) (by simp [results, Tryz.results6, go_sem, *]) rfl ?_; exact ⟨by rw [HV.out, HE.out], hHeld.1⟩)
end Go.Proofs.YtohbkohidpgjpaaGreatDoor
