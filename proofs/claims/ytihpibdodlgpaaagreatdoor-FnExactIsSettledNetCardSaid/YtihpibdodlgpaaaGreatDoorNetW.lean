/- Contracts on the windows of sources: the program's IsValidSendWindow, the reference's l9Good. -/
import Derived.Test.YtihpibdodlgpaaaGreatDoorNetQ
namespace Go.Proofs.YtihpibdodlgpaaaGreatDoor
open Go.RowKit

/-- a valid window of a source -/
def swB (x : NSw) : Bool := inR x.tr 0 65535 && inR x.sz 1 6 && decide ((x.it.length : Int) ≤ x.sz) && x.it.all itB
set_option maxRecDepth 100000 in
set_option maxHeartbeats 4000000 in
theorem areItems1_any (s : ByteArray) (w : World) (hs : s.size ≤ 1048576) :
    Calls Tryz.prog 135 #[.string s] w fun e w' => e = .returned (.bool (!itB s)) ∧ Below w.heap.size w w' := by
  have H : Hid (∀ w, Calls Tryz.prog 136 #[.string s] w fun e w' => e = .returned (.bool (itB s)) ∧ Below w.heap.size w w') := Lib.hid (fun w => isItem_any s w (by omega))
  go_enter Tryz.func135, Tryz.ntmps135
  go_wp2_with fail
  refine (H.out _).mono ?_
  rintro e w1 ⟨rfl, hb⟩
  go_wp2
  go_ret
  exact ⟨rfl, hb⟩
set_option maxRecDepth 100000 in
set_option maxHeartbeats 4000000 in
theorem areItems_any (v : Value) (xs : List ByteArray) (w : World) (h : kS.At 0 w v xs) (hf : fitL fitS 1048576 xs) :
    Calls Tryz.prog 114 #[v] w fun e w' => e = .returned (.bool (xs.all itB)) ∧ Below w.heap.size w w' := by
  have H := conE_any (fun x => !itB x) v xs w h hf.1 (fun x hx W _ => areItems1_any x W (hf.2 x hx))
  rw [any_not] at H
  have HH := Lib.hid H
  obtain ⟨p, cap, b, off, rfl, _, _, _⟩ := h.parts
  clear h H
  go_enter Tryz.func114, Tryz.ntmps114
  go_wp2_with fail
  refine HH.out.mono ?_
  rintro e w1 ⟨rfl, hb⟩
  go_wp2
  go_ret
  exact ⟨ret_bool (by simp), hb⟩
set_option maxRecDepth 100000 in
set_option maxHeartbeats 4000000 in
theorem nSend_any (x : NSw) (v0 : Value) (w : World) (h : kS.At 0 w v0 x.it) (hf : fitSw 1048576 x) :
    Calls Tryz.prog 84 #[.agg #[.int .i64 x.tr, .int .i64 x.sz, v0]] w fun e w' => e = .returned (.bool (swB x)) ∧ Below w.heap.size w w' := by
  obtain ⟨tr, sz, it⟩ := x
  dsimp only at h ⊢
  have hlen := hf.1
  simp only at hlen
  have HA := Lib.hid h
  obtain ⟨p, cap, b, off, rfl, hcap, hp, hcell⟩ := h.parts
  have hB : Below w.heap.size w (w.alloc (.cells #[.int .i64 tr, .int .i64 sz, .slice p it.length cap] 40)) := below_alloc1 _ _
  have c0 : (w.alloc (.cells #[.int .i64 tr, .int .i64 sz, .slice p it.length cap] 40)).cell? ⟨w.heap.size, 0, none⟩ = some (Value.int .i64 tr) := by simp
  have c1 : (w.alloc (.cells #[.int .i64 tr, .int .i64 sz, .slice p it.length cap] 40)).cell? ⟨w.heap.size, 1, none⟩ = some (Value.int .i64 sz) := by simp
  have c2 : (w.alloc (.cells #[.int .i64 tr, .int .i64 sz, .slice p it.length cap] 40)).cell? ⟨w.heap.size, 2, none⟩ = some (Value.slice p it.length cap) := by simp
  have HI := Lib.hid (fun w h => areItems_any (.slice p it.length cap) it w h hf)
  clear hp hcell h hf
  cases h1 : inR tr 0 65535
  · go_enter Tryz.func84, Tryz.ntmps84
    go_wp2_with (first | (go_at_call 86; refine (nSerial_any _ _).mono ?_; rintro e w' ⟨rfl, rfl⟩) | (go_at_call 83; refine (within_any _ _ _ _).mono ?_; rintro e w' ⟨rfl, rfl⟩) | (go_at_call 114; refine (HI.out _ (HA.out.below hB)).mono ?_; rintro e w1 ⟨rfl, hbel⟩; have hB := hB.trans (hbel.mono hB.size)))
    go_ret
    exact ⟨ret_bool (by first | (simp [swB, h1]; done) | (simp [swB, h1]; intros; omega)), hB⟩
  · cases h2 : inR sz 1 6
    · go_enter Tryz.func84, Tryz.ntmps84
      go_wp2_with (first | (go_at_call 86; refine (nSerial_any _ _).mono ?_; rintro e w' ⟨rfl, rfl⟩) | (go_at_call 83; refine (within_any _ _ _ _).mono ?_; rintro e w' ⟨rfl, rfl⟩) | (go_at_call 114; refine (HI.out _ (HA.out.below hB)).mono ?_; rintro e w1 ⟨rfl, hbel⟩; have hB := hB.trans (hbel.mono hB.size)))
      go_ret
      exact ⟨ret_bool (by first | (simp [swB, h1, h2]; done) | (simp [swB, h1, h2]; intros; omega)), hB⟩
    · by_cases h3 : (it.length : Int) ≤ sz
      · go_enter Tryz.func84, Tryz.ntmps84
        go_wp2_with (first | (go_at_call 86; refine (nSerial_any _ _).mono ?_; rintro e w' ⟨rfl, rfl⟩) | (go_at_call 83; refine (within_any _ _ _ _).mono ?_; rintro e w' ⟨rfl, rfl⟩) | (go_at_call 114; refine (HI.out _ (HA.out.below hB)).mono ?_; rintro e w1 ⟨rfl, hbel⟩; have hB := hB.trans (hbel.mono hB.size)))
        go_ret
        exact ⟨ret_bool (by first | (simp [swB, h1, h2, h3]; done) | (simp [swB, h1, h2, h3]; intros; omega)), hB⟩
      · go_enter Tryz.func84, Tryz.ntmps84
        go_wp2_with (first | (go_at_call 86; refine (nSerial_any _ _).mono ?_; rintro e w' ⟨rfl, rfl⟩) | (go_at_call 83; refine (within_any _ _ _ _).mono ?_; rintro e w' ⟨rfl, rfl⟩) | (go_at_call 114; refine (HI.out _ (HA.out.below hB)).mono ?_; rintro e w1 ⟨rfl, hbel⟩; have hB := hB.trans (hbel.mono hB.size)))
        go_ret
        exact ⟨ret_bool (by first | (simp [swB, h1, h2, h3]; done) | (simp [swB, h1, h2, h3]; intros; omega)), hB⟩
set_option maxRecDepth 100000 in
set_option maxHeartbeats 4000000 in
theorem sSend_any (x : NSw) (v0 : Value) (w : World) (h : kS.At 0 w v0 x.it) (hf : fitSw 1048576 x) :
    Calls Tryz.prog 69 #[.agg #[.int .i64 x.tr, .int .i64 x.sz, v0]] w fun e w' => e = .returned (.bool (swB x)) ∧ Below w.heap.size w w' := by
  obtain ⟨tr, sz, it⟩ := x
  dsimp only at h ⊢
  have hlen := hf.1
  simp only at hlen
  have HA := Lib.hid h
  obtain ⟨p, cap, b, off, rfl, hcap, hp, hcell⟩ := h.parts
  have hB : Below w.heap.size w (w.alloc (.cells #[.int .i64 tr, .int .i64 sz, .slice p it.length cap] 40)) := below_alloc1 _ _
  have c0 : (w.alloc (.cells #[.int .i64 tr, .int .i64 sz, .slice p it.length cap] 40)).cell? ⟨w.heap.size, 0, none⟩ = some (Value.int .i64 tr) := by simp
  have c1 : (w.alloc (.cells #[.int .i64 tr, .int .i64 sz, .slice p it.length cap] 40)).cell? ⟨w.heap.size, 1, none⟩ = some (Value.int .i64 sz) := by simp
  have c2 : (w.alloc (.cells #[.int .i64 tr, .int .i64 sz, .slice p it.length cap] 40)).cell? ⟨w.heap.size, 2, none⟩ = some (Value.slice p it.length cap) := by simp
  have HCe := Lib.hid hcell; clear hcell
  have HPt := Lib.hid hp; clear hp h
  have HF := Lib.hid hf.2; clear hf
  cases h1 : inR tr 0 65535
  · go_enter Tryz.func69, Tryz.ntmps69
    go_wp2_with (first | (go_at_call 71; refine (nGood_any _ _).mono ?_; rintro e w' ⟨rfl, rfl⟩) | (go_at_call 68; refine (l1In_any _ _ _ _).mono ?_; rintro e w' ⟨rfl, rfl⟩))
    go_ret
    exact ⟨ret_bool (by first | (simp [swB, h1]; done) | (simp [swB, h1]; intros; omega)), hB⟩
  · cases h2 : inR sz 1 6
    · go_enter Tryz.func69, Tryz.ntmps69
      go_wp2_with (first | (go_at_call 71; refine (nGood_any _ _).mono ?_; rintro e w' ⟨rfl, rfl⟩) | (go_at_call 68; refine (l1In_any _ _ _ _).mono ?_; rintro e w' ⟨rfl, rfl⟩))
      go_ret
      exact ⟨ret_bool (by first | (simp [swB, h1, h2]; done) | (simp [swB, h1, h2]; intros; omega)), hB⟩
    · by_cases h3 : (it.length : Int) ≤ sz
      · have HV : Hid (swB ⟨tr, sz, it⟩ = it.all itB) := Lib.hid (by simp [swB, h1, h2, h3])
        have HC0 := Lib.hid (And.intro c0 (And.intro c1 c2))
        have HB0 := Lib.hid hB
        go_enter Tryz.func69, Tryz.ntmps69
        go_wp2_with (first | (go_at_call 71; refine (nGood_any _ _).mono ?_; rintro e w' ⟨rfl, rfl⟩) | (go_at_call 68; refine (l1In_any _ _ _ _).mono ?_; rintro e w' ⟨rfl, rfl⟩))
        go_loopw [3] (fun i wr => ∃ k : Nat, k ≤ it.length ∧ i = .int .i64 k ∧ Hid (∀ x ∈ it.take k, itB x = true) ∧ Hid (Below (w.alloc (.cells #[.int .i64 tr, .int .i64 sz, .slice p it.length cap] 40)).heap.size (w.alloc (.cells #[.int .i64 tr, .int .i64 sz, .slice p it.length cap] 40)) wr)) (fun i _ => it.length - (intOf i).toNat)
        case atStart => exact ⟨0, Nat.zero_le _, rfl, Lib.hid (by simp), Lib.hid (Below.refl _ _)⟩
        case round =>
          obtain ⟨k, hk, rfl, HT, HBr⟩ := hrel
          have hB2 := HB0.out.trans (HBr.out.mono HB0.out.size)
          have c0 := cell_on HBr.out HC0.out.1
          have c1 := cell_on HBr.out HC0.out.2.1
          have c2 := cell_on HBr.out HC0.out.2.2
          by_cases hlt : k < it.length
          · obtain rfl := HPt.out (by omega)
            obtain ⟨c, hC, hcl⟩ := HCe.out k hlt
            have hmem := List.getElem_mem hlt
            have HTk : Hid (it.take (k + 1) = it.take k ++ [it[k]]) := Lib.hid (List.take_succ_eq_append_getElem hlt)
            have hs : it[k].size ≤ 1048576 := HF.out it[k] hmem
            have HN1 : Hid (itB it[k] = false → it.all itB = false) := Lib.hid (fun h => all_no hmem h)
            generalize it[k] = x at *
            obtain rfl : c = [.string x] := hC
            have d0 := cell_on hB2 (hcl 0 _ rfl)
            rw [show off + k * kS.sz + 0 = off + k from by show off + k * 1 + 0 = off + k; omega] at d0
            have HL : Hid (∀ w, Calls Tryz.prog 105 #[.string x, .int .i64 8] w fun e w' => e = .returned (.bool (itB x)) ∧ Below w.heap.size w w') := Lib.hid (fun w => l4Letters_any x w (by omega))
            clear hs hcl hmem
            have HB2 := Lib.hid hB2; clear hB2
            cases hx : itB x
            · rw [hx] at HL
              have HX := Lib.hid (HN1.out hx); clear hx HN1
              go_wp2_with (go_at_call 105; refine (HL.out _).mono ?_; rintro e w1 ⟨rfl, hbel⟩)
              go_ret
              exact ⟨ret_bool (by rw [HV.out, HX.out]), HB2.out.trans (hbel.mono HB2.out.size)⟩
            · rw [hx] at HL
              have HX := Lib.hid hx; clear hx HN1
              go_wp2_with (go_at_call 105; refine (HL.out _).mono ?_; rintro e w1 ⟨rfl, hbel⟩)
              go_roundw
              case rel => exact ⟨k + 1, by omega, by go_num, Lib.hid (snoc_take HTk.out HT.out HX.out), Lib.hid (HBr.out.trans (hbel.mono HBr.out.size))⟩
              case measure => simp [intOf]; omega
          · obtain rfl : k = it.length := by omega
            have HG : Hid (it.all itB = true) := Lib.hid (all_of_take HT.out)
            have HB2 := Lib.hid hB2; clear hB2
            go_wp2
            go_ret
            exact ⟨ret_bool (by rw [HV.out, HG.out]), HB2.out⟩
      · go_enter Tryz.func69, Tryz.ntmps69
        go_wp2_with (first | (go_at_call 71; refine (nGood_any _ _).mono ?_; rintro e w' ⟨rfl, rfl⟩) | (go_at_call 68; refine (l1In_any _ _ _ _).mono ?_; rintro e w' ⟨rfl, rfl⟩))
        go_ret
        exact ⟨ret_bool (by first | (simp [swB, h1, h2, h3]; done) | (simp [swB, h1, h2, h3]; intros; omega)), hB⟩
end Go.Proofs.YtihpibdodlgpaaaGreatDoor
