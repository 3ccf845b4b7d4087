/- Contracts on packets: the program's IsValidPacket, the reference's l4Good. Condition: texts of at most 2^20 bytes. -/
import Derived.Test.YtihpibdodlgpaaaGreatDoorNetN
namespace Go.Proofs.YtihpibdodlgpaaaGreatDoor
open Go.RowKit

set_option maxRecDepth 100000 in
set_option maxHeartbeats 4000000 in
theorem nPacket_any (x : NPk) (w : World) (hs : x.dt.size ≤ 1048576) :
    Calls Tryz.prog 116 #[.agg #[.int .i64 x.kd, .int .i64 x.nm, .int .i64 x.tr, .int .i64 x.ld, .string x.dt]] w fun e w' => e = .returned (.bool (pkB x)) ∧ Below w.heap.size w w' := by
  obtain ⟨kd, nm, tr, ld, dt⟩ := x
  have hB : Below w.heap.size w (w.alloc (.cells #[.int .i64 kd, .int .i64 nm, .int .i64 tr, .int .i64 ld, .string dt] 141)) := below_alloc1 _ _
  have c0 : (w.alloc (.cells #[.int .i64 kd, .int .i64 nm, .int .i64 tr, .int .i64 ld, .string dt] 141)).cell? ⟨w.heap.size, 0, none⟩ = some (Value.int .i64 kd) := by simp
  have c1 : (w.alloc (.cells #[.int .i64 kd, .int .i64 nm, .int .i64 tr, .int .i64 ld, .string dt] 141)).cell? ⟨w.heap.size, 1, none⟩ = some (Value.int .i64 nm) := by simp
  have c2 : (w.alloc (.cells #[.int .i64 kd, .int .i64 nm, .int .i64 tr, .int .i64 ld, .string dt] 141)).cell? ⟨w.heap.size, 2, none⟩ = some (Value.int .i64 tr) := by simp
  have c3 : (w.alloc (.cells #[.int .i64 kd, .int .i64 nm, .int .i64 tr, .int .i64 ld, .string dt] 141)).cell? ⟨w.heap.size, 3, none⟩ = some (Value.int .i64 ld) := by simp
  have c4 : (w.alloc (.cells #[.int .i64 kd, .int .i64 nm, .int .i64 tr, .int .i64 ld, .string dt] 141)).cell? ⟨w.heap.size, 4, none⟩ = some (Value.string dt) := by simp
  have HI : Hid (∀ w, Calls Tryz.prog 136 #[.string dt] w fun e w' => e = .returned (.bool (itB dt)) ∧ Below w.heap.size w w') := Lib.hid (fun w => isItem_any dt w (by simp only at hs; omega))
  cases h1 : inR kd 1 5
  · go_enter Tryz.func116, Tryz.ntmps116
    go_wp2_with (first | (go_at_call 83; refine (within_any _ _ _ _).mono ?_; rintro e w' ⟨rfl, rfl⟩) | (go_at_call 86; refine (nSerial_any _ _).mono ?_; rintro e w' ⟨rfl, rfl⟩) | (go_at_call 136; refine (HI.out _).mono ?_; rintro e w1 ⟨rfl, hbel⟩; have hB := hB.trans (hbel.mono hB.size); have c0 := cell_on hbel c0; have c1 := cell_on hbel c1; have c2 := cell_on hbel c2; have c3 := cell_on hbel c3; have c4 := cell_on hbel c4))
    go_ret
    exact ⟨ret_bool (by first | (simp [pkB, h1]; done) | (simp [pkB, h1]; intros; omega)), hB⟩
  · cases h2 : inR nm 0 65535
    · go_enter Tryz.func116, Tryz.ntmps116
      go_wp2_with (first | (go_at_call 83; refine (within_any _ _ _ _).mono ?_; rintro e w' ⟨rfl, rfl⟩) | (go_at_call 86; refine (nSerial_any _ _).mono ?_; rintro e w' ⟨rfl, rfl⟩) | (go_at_call 136; refine (HI.out _).mono ?_; rintro e w1 ⟨rfl, hbel⟩; have hB := hB.trans (hbel.mono hB.size); have c0 := cell_on hbel c0; have c1 := cell_on hbel c1; have c2 := cell_on hbel c2; have c3 := cell_on hbel c3; have c4 := cell_on hbel c4))
      go_ret
      exact ⟨ret_bool (by first | (simp [pkB, h1, h2]; done) | (simp [pkB, h1, h2]; intros; omega)), hB⟩
    · cases h3 : inR tr 0 65535
      · go_enter Tryz.func116, Tryz.ntmps116
        go_wp2_with (first | (go_at_call 83; refine (within_any _ _ _ _).mono ?_; rintro e w' ⟨rfl, rfl⟩) | (go_at_call 86; refine (nSerial_any _ _).mono ?_; rintro e w' ⟨rfl, rfl⟩) | (go_at_call 136; refine (HI.out _).mono ?_; rintro e w1 ⟨rfl, hbel⟩; have hB := hB.trans (hbel.mono hB.size); have c0 := cell_on hbel c0; have c1 := cell_on hbel c1; have c2 := cell_on hbel c2; have c3 := cell_on hbel c3; have c4 := cell_on hbel c4))
        go_ret
        exact ⟨ret_bool (by first | (simp [pkB, h1, h2, h3]; done) | (simp [pkB, h1, h2, h3]; intros; omega)), hB⟩
      · cases h4 : inR ld 0 65535
        · go_enter Tryz.func116, Tryz.ntmps116
          go_wp2_with (first | (go_at_call 83; refine (within_any _ _ _ _).mono ?_; rintro e w' ⟨rfl, rfl⟩) | (go_at_call 86; refine (nSerial_any _ _).mono ?_; rintro e w' ⟨rfl, rfl⟩) | (go_at_call 136; refine (HI.out _).mono ?_; rintro e w1 ⟨rfl, hbel⟩; have hB := hB.trans (hbel.mono hB.size); have c0 := cell_on hbel c0; have c1 := cell_on hbel c1; have c2 := cell_on hbel c2; have c3 := cell_on hbel c3; have c4 := cell_on hbel c4))
          go_ret
          exact ⟨ret_bool (by first | (simp [pkB, h1, h2, h3, h4]; done) | (simp [pkB, h1, h2, h3, h4]; intros; omega)), hB⟩
        · cases h5 : itB dt
          · have HG := Lib.hid (fun w => nGap_any tr ld w (inR_true.1 h3).1 (inR_true.1 h3).2 (inR_true.1 h4).1 (inR_true.1 h4).2)
            go_enter Tryz.func116, Tryz.ntmps116
            go_wp2_with (first | (go_at_call 83; refine (within_any _ _ _ _).mono ?_; rintro e w' ⟨rfl, rfl⟩) | (go_at_call 86; refine (nSerial_any _ _).mono ?_; rintro e w' ⟨rfl, rfl⟩) | (go_at_call 136; refine (HI.out _).mono ?_; rintro e w1 ⟨rfl, hbel⟩; have hB := hB.trans (hbel.mono hB.size); have c0 := cell_on hbel c0; have c1 := cell_on hbel c1; have c2 := cell_on hbel c2; have c3 := cell_on hbel c3; have c4 := cell_on hbel c4) | (go_at_call 88; refine (HG.out _).mono ?_; rintro e w' ⟨rfl, rfl⟩))
            go_ret
            exact ⟨ret_bool (by first | (simp [pkB, h1, h2, h3, h4, h5]; done) | (simp [pkB, h1, h2, h3, h4, h5]; intros; omega)), hB⟩
          · by_cases h6 : gp tr ld ≤ 32767
            · cases e1 : dt.toList.isEmpty
              · cases e2 : kd == 1
                · have HG := Lib.hid (fun w => nGap_any tr ld w (inR_true.1 h3).1 (inR_true.1 h3).2 (inR_true.1 h4).1 (inR_true.1 h4).2)
                  go_enter Tryz.func116, Tryz.ntmps116
                  go_wp2_with (first | (go_at_call 83; refine (within_any _ _ _ _).mono ?_; rintro e w' ⟨rfl, rfl⟩) | (go_at_call 86; refine (nSerial_any _ _).mono ?_; rintro e w' ⟨rfl, rfl⟩) | (go_at_call 136; refine (HI.out _).mono ?_; rintro e w1 ⟨rfl, hbel⟩; have hB := hB.trans (hbel.mono hB.size); have c0 := cell_on hbel c0; have c1 := cell_on hbel c1; have c2 := cell_on hbel c2; have c3 := cell_on hbel c3; have c4 := cell_on hbel c4) | (go_at_call 88; refine (HG.out _).mono ?_; rintro e w' ⟨rfl, rfl⟩))
                  go_ret
                  exact ⟨ret_bool (by first | (simp [pkB, h1, h2, h3, h4, h5, h6, e1, e2]; done) | (simp [pkB, h1, h2, h3, h4, h5, h6, e1, e2]; intros; omega)), hB⟩
                · have HG := Lib.hid (fun w => nGap_any tr ld w (inR_true.1 h3).1 (inR_true.1 h3).2 (inR_true.1 h4).1 (inR_true.1 h4).2)
                  go_enter Tryz.func116, Tryz.ntmps116
                  go_wp2_with (first | (go_at_call 83; refine (within_any _ _ _ _).mono ?_; rintro e w' ⟨rfl, rfl⟩) | (go_at_call 86; refine (nSerial_any _ _).mono ?_; rintro e w' ⟨rfl, rfl⟩) | (go_at_call 136; refine (HI.out _).mono ?_; rintro e w1 ⟨rfl, hbel⟩; have hB := hB.trans (hbel.mono hB.size); have c0 := cell_on hbel c0; have c1 := cell_on hbel c1; have c2 := cell_on hbel c2; have c3 := cell_on hbel c3; have c4 := cell_on hbel c4) | (go_at_call 88; refine (HG.out _).mono ?_; rintro e w' ⟨rfl, rfl⟩))
                  go_ret
                  exact ⟨ret_bool (by first | (simp [pkB, h1, h2, h3, h4, h5, h6, e1, e2]; done) | (simp [pkB, h1, h2, h3, h4, h5, h6, e1, e2]; intros; omega)), hB⟩
              · have HG := Lib.hid (fun w => nGap_any tr ld w (inR_true.1 h3).1 (inR_true.1 h3).2 (inR_true.1 h4).1 (inR_true.1 h4).2)
                go_enter Tryz.func116, Tryz.ntmps116
                go_wp2_with (first | (go_at_call 83; refine (within_any _ _ _ _).mono ?_; rintro e w' ⟨rfl, rfl⟩) | (go_at_call 86; refine (nSerial_any _ _).mono ?_; rintro e w' ⟨rfl, rfl⟩) | (go_at_call 136; refine (HI.out _).mono ?_; rintro e w1 ⟨rfl, hbel⟩; have hB := hB.trans (hbel.mono hB.size); have c0 := cell_on hbel c0; have c1 := cell_on hbel c1; have c2 := cell_on hbel c2; have c3 := cell_on hbel c3; have c4 := cell_on hbel c4) | (go_at_call 88; refine (HG.out _).mono ?_; rintro e w' ⟨rfl, rfl⟩))
                go_ret
                exact ⟨ret_bool (by first | (simp [pkB, h1, h2, h3, h4, h5, h6, e1]; done) | (simp [pkB, h1, h2, h3, h4, h5, h6, e1]; intros; omega)), hB⟩
            · have HG := Lib.hid (fun w => nGap_any tr ld w (inR_true.1 h3).1 (inR_true.1 h3).2 (inR_true.1 h4).1 (inR_true.1 h4).2)
              go_enter Tryz.func116, Tryz.ntmps116
              go_wp2_with (first | (go_at_call 83; refine (within_any _ _ _ _).mono ?_; rintro e w' ⟨rfl, rfl⟩) | (go_at_call 86; refine (nSerial_any _ _).mono ?_; rintro e w' ⟨rfl, rfl⟩) | (go_at_call 136; refine (HI.out _).mono ?_; rintro e w1 ⟨rfl, hbel⟩; have hB := hB.trans (hbel.mono hB.size); have c0 := cell_on hbel c0; have c1 := cell_on hbel c1; have c2 := cell_on hbel c2; have c3 := cell_on hbel c3; have c4 := cell_on hbel c4) | (go_at_call 88; refine (HG.out _).mono ?_; rintro e w' ⟨rfl, rfl⟩))
              go_ret
              exact ⟨ret_bool (by first | (simp [pkB, h1, h2, h3, h4, h5, h6]; done) | (simp [pkB, h1, h2, h3, h4, h5, h6]; intros; omega)), hB⟩
set_option maxRecDepth 100000 in
set_option maxHeartbeats 4000000 in
theorem sPacket_any (x : NPk) (w : World) (hs : x.dt.size ≤ 1048576) :
    Calls Tryz.prog 110 #[.agg #[.int .i64 x.kd, .int .i64 x.nm, .int .i64 x.tr, .int .i64 x.ld, .string x.dt]] w fun e w' => e = .returned (.bool (pkB x)) ∧ Below w.heap.size w w' := by
  obtain ⟨kd, nm, tr, ld, dt⟩ := x
  have hB : Below w.heap.size w (w.alloc (.cells #[.int .i64 kd, .int .i64 nm, .int .i64 tr, .int .i64 ld, .string dt] 141)) := below_alloc1 _ _
  have c0 : (w.alloc (.cells #[.int .i64 kd, .int .i64 nm, .int .i64 tr, .int .i64 ld, .string dt] 141)).cell? ⟨w.heap.size, 0, none⟩ = some (Value.int .i64 kd) := by simp
  have c1 : (w.alloc (.cells #[.int .i64 kd, .int .i64 nm, .int .i64 tr, .int .i64 ld, .string dt] 141)).cell? ⟨w.heap.size, 1, none⟩ = some (Value.int .i64 nm) := by simp
  have c2 : (w.alloc (.cells #[.int .i64 kd, .int .i64 nm, .int .i64 tr, .int .i64 ld, .string dt] 141)).cell? ⟨w.heap.size, 2, none⟩ = some (Value.int .i64 tr) := by simp
  have c3 : (w.alloc (.cells #[.int .i64 kd, .int .i64 nm, .int .i64 tr, .int .i64 ld, .string dt] 141)).cell? ⟨w.heap.size, 3, none⟩ = some (Value.int .i64 ld) := by simp
  have c4 : (w.alloc (.cells #[.int .i64 kd, .int .i64 nm, .int .i64 tr, .int .i64 ld, .string dt] 141)).cell? ⟨w.heap.size, 4, none⟩ = some (Value.string dt) := by simp
  have HI : Hid (∀ w, Calls Tryz.prog 105 #[.string dt, .int .i64 8] w fun e w' => e = .returned (.bool (itB dt)) ∧ Below w.heap.size w w') := Lib.hid (fun w => l4Letters_any dt w (by simp only at hs; omega))
  cases h1 : inR kd 1 5
  · go_enter Tryz.func110, Tryz.ntmps110
    go_wp2_with (first | (go_at_call 68; refine (l1In_any _ _ _ _).mono ?_; rintro e w' ⟨rfl, rfl⟩) | (go_at_call 71; refine (nGood_any _ _).mono ?_; rintro e w' ⟨rfl, rfl⟩) | (go_at_call 105; refine (HI.out _).mono ?_; rintro e w1 ⟨rfl, hbel⟩; have hB := hB.trans (hbel.mono hB.size); have c0 := cell_on hbel c0; have c1 := cell_on hbel c1; have c2 := cell_on hbel c2; have c3 := cell_on hbel c3; have c4 := cell_on hbel c4))
    go_ret
    exact ⟨ret_bool (by first | (simp [pkB, h1]; done) | (simp [pkB, h1]; intros; omega)), hB⟩
  · cases h2 : inR nm 0 65535
    · go_enter Tryz.func110, Tryz.ntmps110
      go_wp2_with (first | (go_at_call 68; refine (l1In_any _ _ _ _).mono ?_; rintro e w' ⟨rfl, rfl⟩) | (go_at_call 71; refine (nGood_any _ _).mono ?_; rintro e w' ⟨rfl, rfl⟩) | (go_at_call 105; refine (HI.out _).mono ?_; rintro e w1 ⟨rfl, hbel⟩; have hB := hB.trans (hbel.mono hB.size); have c0 := cell_on hbel c0; have c1 := cell_on hbel c1; have c2 := cell_on hbel c2; have c3 := cell_on hbel c3; have c4 := cell_on hbel c4))
      go_ret
      exact ⟨ret_bool (by first | (simp [pkB, h1, h2]; done) | (simp [pkB, h1, h2]; intros; omega)), hB⟩
    · cases h3 : inR tr 0 65535
      · go_enter Tryz.func110, Tryz.ntmps110
        go_wp2_with (first | (go_at_call 68; refine (l1In_any _ _ _ _).mono ?_; rintro e w' ⟨rfl, rfl⟩) | (go_at_call 71; refine (nGood_any _ _).mono ?_; rintro e w' ⟨rfl, rfl⟩) | (go_at_call 105; refine (HI.out _).mono ?_; rintro e w1 ⟨rfl, hbel⟩; have hB := hB.trans (hbel.mono hB.size); have c0 := cell_on hbel c0; have c1 := cell_on hbel c1; have c2 := cell_on hbel c2; have c3 := cell_on hbel c3; have c4 := cell_on hbel c4))
        go_ret
        exact ⟨ret_bool (by first | (simp [pkB, h1, h2, h3]; done) | (simp [pkB, h1, h2, h3]; intros; omega)), hB⟩
      · cases h4 : inR ld 0 65535
        · go_enter Tryz.func110, Tryz.ntmps110
          go_wp2_with (first | (go_at_call 68; refine (l1In_any _ _ _ _).mono ?_; rintro e w' ⟨rfl, rfl⟩) | (go_at_call 71; refine (nGood_any _ _).mono ?_; rintro e w' ⟨rfl, rfl⟩) | (go_at_call 105; refine (HI.out _).mono ?_; rintro e w1 ⟨rfl, hbel⟩; have hB := hB.trans (hbel.mono hB.size); have c0 := cell_on hbel c0; have c1 := cell_on hbel c1; have c2 := cell_on hbel c2; have c3 := cell_on hbel c3; have c4 := cell_on hbel c4))
          go_ret
          exact ⟨ret_bool (by first | (simp [pkB, h1, h2, h3, h4]; done) | (simp [pkB, h1, h2, h3, h4]; intros; omega)), hB⟩
        · by_cases h6 : gp tr ld ≤ 32767
          · cases h5 : itB dt
            · have HG := Lib.hid (fun w => sGap_any tr ld w (inR_true.1 h3).1 (inR_true.1 h3).2 (inR_true.1 h4).1 (inR_true.1 h4).2)
              go_enter Tryz.func110, Tryz.ntmps110
              go_wp2_with (first | (go_at_call 68; refine (l1In_any _ _ _ _).mono ?_; rintro e w' ⟨rfl, rfl⟩) | (go_at_call 71; refine (nGood_any _ _).mono ?_; rintro e w' ⟨rfl, rfl⟩) | (go_at_call 105; refine (HI.out _).mono ?_; rintro e w1 ⟨rfl, hbel⟩; have hB := hB.trans (hbel.mono hB.size); have c0 := cell_on hbel c0; have c1 := cell_on hbel c1; have c2 := cell_on hbel c2; have c3 := cell_on hbel c3; have c4 := cell_on hbel c4) | (go_at_call 73; refine (HG.out _).mono ?_; rintro e w' ⟨rfl, rfl⟩))
              go_ret
              exact ⟨ret_bool (by first | (simp [pkB, h1, h2, h3, h4, h6, h5]; done) | (simp [pkB, h1, h2, h3, h4, h6, h5]; intros; omega)), hB⟩
            · cases e1 : dt.toList.isEmpty
              · cases e2 : kd == 1
                · have HG := Lib.hid (fun w => sGap_any tr ld w (inR_true.1 h3).1 (inR_true.1 h3).2 (inR_true.1 h4).1 (inR_true.1 h4).2)
                  go_enter Tryz.func110, Tryz.ntmps110
                  go_wp2_with (first | (go_at_call 68; refine (l1In_any _ _ _ _).mono ?_; rintro e w' ⟨rfl, rfl⟩) | (go_at_call 71; refine (nGood_any _ _).mono ?_; rintro e w' ⟨rfl, rfl⟩) | (go_at_call 105; refine (HI.out _).mono ?_; rintro e w1 ⟨rfl, hbel⟩; have hB := hB.trans (hbel.mono hB.size); have c0 := cell_on hbel c0; have c1 := cell_on hbel c1; have c2 := cell_on hbel c2; have c3 := cell_on hbel c3; have c4 := cell_on hbel c4) | (go_at_call 73; refine (HG.out _).mono ?_; rintro e w' ⟨rfl, rfl⟩))
                  go_ret
                  exact ⟨ret_bool (by first | (simp [pkB, h1, h2, h3, h4, h6, h5, e1, e2]; done) | (simp [pkB, h1, h2, h3, h4, h6, h5, e1, e2]; intros; omega)), hB⟩
                · have HG := Lib.hid (fun w => sGap_any tr ld w (inR_true.1 h3).1 (inR_true.1 h3).2 (inR_true.1 h4).1 (inR_true.1 h4).2)
                  go_enter Tryz.func110, Tryz.ntmps110
                  go_wp2_with (first | (go_at_call 68; refine (l1In_any _ _ _ _).mono ?_; rintro e w' ⟨rfl, rfl⟩) | (go_at_call 71; refine (nGood_any _ _).mono ?_; rintro e w' ⟨rfl, rfl⟩) | (go_at_call 105; refine (HI.out _).mono ?_; rintro e w1 ⟨rfl, hbel⟩; have hB := hB.trans (hbel.mono hB.size); have c0 := cell_on hbel c0; have c1 := cell_on hbel c1; have c2 := cell_on hbel c2; have c3 := cell_on hbel c3; have c4 := cell_on hbel c4) | (go_at_call 73; refine (HG.out _).mono ?_; rintro e w' ⟨rfl, rfl⟩))
                  go_ret
                  exact ⟨ret_bool (by first | (simp [pkB, h1, h2, h3, h4, h6, h5, e1, e2]; done) | (simp [pkB, h1, h2, h3, h4, h6, h5, e1, e2]; intros; omega)), hB⟩
              · have HG := Lib.hid (fun w => sGap_any tr ld w (inR_true.1 h3).1 (inR_true.1 h3).2 (inR_true.1 h4).1 (inR_true.1 h4).2)
                go_enter Tryz.func110, Tryz.ntmps110
                go_wp2_with (first | (go_at_call 68; refine (l1In_any _ _ _ _).mono ?_; rintro e w' ⟨rfl, rfl⟩) | (go_at_call 71; refine (nGood_any _ _).mono ?_; rintro e w' ⟨rfl, rfl⟩) | (go_at_call 105; refine (HI.out _).mono ?_; rintro e w1 ⟨rfl, hbel⟩; have hB := hB.trans (hbel.mono hB.size); have c0 := cell_on hbel c0; have c1 := cell_on hbel c1; have c2 := cell_on hbel c2; have c3 := cell_on hbel c3; have c4 := cell_on hbel c4) | (go_at_call 73; refine (HG.out _).mono ?_; rintro e w' ⟨rfl, rfl⟩))
                go_ret
                exact ⟨ret_bool (by first | (simp [pkB, h1, h2, h3, h4, h6, h5, e1]; done) | (simp [pkB, h1, h2, h3, h4, h6, h5, e1]; intros; omega)), hB⟩
          · have HG := Lib.hid (fun w => sGap_any tr ld w (inR_true.1 h3).1 (inR_true.1 h3).2 (inR_true.1 h4).1 (inR_true.1 h4).2)
            go_enter Tryz.func110, Tryz.ntmps110
            go_wp2_with (first | (go_at_call 68; refine (l1In_any _ _ _ _).mono ?_; rintro e w' ⟨rfl, rfl⟩) | (go_at_call 71; refine (nGood_any _ _).mono ?_; rintro e w' ⟨rfl, rfl⟩) | (go_at_call 105; refine (HI.out _).mono ?_; rintro e w1 ⟨rfl, hbel⟩; have hB := hB.trans (hbel.mono hB.size); have c0 := cell_on hbel c0; have c1 := cell_on hbel c1; have c2 := cell_on hbel c2; have c3 := cell_on hbel c3; have c4 := cell_on hbel c4) | (go_at_call 73; refine (HG.out _).mono ?_; rintro e w' ⟨rfl, rfl⟩))
            go_ret
            exact ⟨ret_bool (by first | (simp [pkB, h1, h2, h3, h4, h6]; done) | (simp [pkB, h1, h2, h3, h4, h6]; intros; omega)), hB⟩
end Go.Proofs.YtihpibdodlgpaaaGreatDoor
