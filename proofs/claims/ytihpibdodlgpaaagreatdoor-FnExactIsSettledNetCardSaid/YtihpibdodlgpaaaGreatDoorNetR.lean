/- Contracts on the windows of receivers: the program's IsValidReceiveWindow, the reference's l10Good. -/
import Derived.Test.YtihpibdodlgpaaaGreatDoorNetW
namespace Go.Proofs.YtihpibdodlgpaaaGreatDoor
open Go.RowKit

/-- a valid slot; a valid window of a receiver -/
def slB (x : NSl) : Bool := itB x.it && (x.hv || x.it.toList.isEmpty)
def rwE (sl : List NSl) : Bool := match sl[0]?, sl[sl.length - 1]? with
  | some a, some z => !a.hv && z.hv
  | _, _ => true
def rwB (x : NRw) : Bool := inR x.nx 0 65535 && decide ((x.sl.length : Int) ≤ 8) && x.sl.all slB && rwE x.sl
theorem rwE_nil {sl : List NSl} (h : sl.length = 0) : rwE sl = true := by
  obtain rfl := List.length_eq_zero_iff.1 h
  rfl
theorem rwE_some {sl : List NSl} {a z : NSl} (ha : sl[0]? = some a) (hz : sl[sl.length - 1]? = some z) : rwE sl = (!a.hv && z.hv) := by
  rw [rwE, ha, hz]
set_option maxRecDepth 100000 in
set_option maxHeartbeats 4000000 in
theorem rwSlot1_any (x : NSl) (w : World) (hs : x.it.size ≤ 1048576) :
    Calls Tryz.prog 138 #[.agg #[.bool x.hv, .string x.it]] w fun e w' => e = .returned (.bool (!slB x)) ∧ Below w.heap.size w w' := by
  obtain ⟨hv, it⟩ := x
  dsimp only at hs ⊢
  have hB : Below w.heap.size w (w.alloc (.cells #[.bool hv, .string it] 182)) := below_alloc1 _ _
  have c0 : (w.alloc (.cells #[.bool hv, .string it] 182)).cell? ⟨w.heap.size, 0, none⟩ = some (Value.bool hv) := by simp
  have c1 : (w.alloc (.cells #[.bool hv, .string it] 182)).cell? ⟨w.heap.size, 1, none⟩ = some (Value.string it) := by simp
  have HI : Hid (∀ w, Calls Tryz.prog 136 #[.string it] w fun e w' => e = .returned (.bool (itB it)) ∧ Below w.heap.size w w') := Lib.hid (fun w => isItem_any it w (by omega))
  cases h1 : itB it
  · go_enter Tryz.func138, Tryz.ntmps138
    go_wp2_with ((go_at_call 136; refine (HI.out _).mono ?_; rintro e w1 ⟨rfl, hbel⟩; have hB := hB.trans (hbel.mono hB.size); have c0 := cell_on hbel c0; have c1 := cell_on hbel c1))
    go_ret
    exact ⟨ret_bool (by simp [slB, h1]), hB⟩
  · cases hv
    · go_enter Tryz.func138, Tryz.ntmps138
      go_wp2_with ((go_at_call 136; refine (HI.out _).mono ?_; rintro e w1 ⟨rfl, hbel⟩; have hB := hB.trans (hbel.mono hB.size); have c0 := cell_on hbel c0; have c1 := cell_on hbel c1))
      go_ret
      exact ⟨ret_bool (by simp [slB, h1]), hB⟩
    · go_enter Tryz.func138, Tryz.ntmps138
      go_wp2_with ((go_at_call 136; refine (HI.out _).mono ?_; rintro e w1 ⟨rfl, hbel⟩; have hB := hB.trans (hbel.mono hB.size); have c0 := cell_on hbel c0; have c1 := cell_on hbel c1))
      go_ret
      exact ⟨ret_bool (by simp [slB, h1]), hB⟩
set_option maxRecDepth 100000 in
set_option maxHeartbeats 4000000 in
theorem nRecv_any (x : NRw) (v0 : Value) (w : World) (h : kSl.At 0 w v0 x.sl) (hf : fitRw 1048576 x) :
    Calls Tryz.prog 118 #[.agg #[.int .i64 x.nx, v0]] w fun e w' => e = .returned (.bool (rwB x)) ∧ Below w.heap.size w w' := by
  obtain ⟨nx, sl⟩ := x
  dsimp only at h ⊢
  have hlen := hf.1
  simp only at hlen
  have HA := Lib.hid h
  obtain ⟨p, cap, b, off, rfl, hcap, hp, hcell⟩ := h.parts
  have hB : Below w.heap.size w (w.alloc (.cells #[.int .i64 nx, .slice p sl.length cap] 74)) := below_alloc1 _ _
  have c0 : (w.alloc (.cells #[.int .i64 nx, .slice p sl.length cap] 74)).cell? ⟨w.heap.size, 0, none⟩ = some (Value.int .i64 nx) := by simp
  have c1 : (w.alloc (.cells #[.int .i64 nx, .slice p sl.length cap] 74)).cell? ⟨w.heap.size, 1, none⟩ = some (Value.slice p sl.length cap) := by simp
  have HCe := Lib.hid hcell; clear hcell
  have HPt := Lib.hid hp; clear hp
  have HI : Hid (∀ W, kSl.At 0 W (.slice p sl.length cap) sl → Calls Tryz.prog 137 #[.slice p sl.length cap, .func (.func 138) #[] #[]] W fun e w' => e = .returned (.bool (!sl.all slB)) ∧ Below W.heap.size W w') := Lib.hid (fun W h => by
    have H := conF_any (fun x => !slB x) (.slice p sl.length cap) sl W h hlen (fun x hx W _ => rwSlot1_any x W (hf.2 x hx))
    rw [any_not] at H
    exact H)
  clear h hf
  cases h1 : inR nx 0 65535
  · go_enter Tryz.func118, Tryz.ntmps118
    go_wp2_with (first | (go_at_call 86; refine (nSerial_any _ _).mono ?_; rintro e w' ⟨rfl, rfl⟩) | (go_at_call 137; refine (HI.out _ (HA.out.below hB)).mono ?_; rintro e w1 ⟨rfl, hbel⟩; have hB := hB.trans (hbel.mono hB.size); have c0 := cell_on hbel c0; have c1 := cell_on hbel c1))
    go_ret
    exact ⟨ret_bool (by first | (simp [rwB, h1]; done) | (simp [rwB, h1]; intros; omega)), hB⟩
  · by_cases h2 : (sl.length : Int) ≤ 8
    · cases h3 : sl.all slB
      · go_enter Tryz.func118, Tryz.ntmps118
        go_wp2_with (first | (go_at_call 86; refine (nSerial_any _ _).mono ?_; rintro e w' ⟨rfl, rfl⟩) | (go_at_call 137; refine (HI.out _ (HA.out.below hB)).mono ?_; rintro e w1 ⟨rfl, hbel⟩; have hB := hB.trans (hbel.mono hB.size); have c0 := cell_on hbel c0; have c1 := cell_on hbel c1))
        go_ret
        exact ⟨ret_bool (by first | (simp [rwB, h1, h2, h3]; done) | (simp [rwB, h1, h2, h3]; intros; omega)), hB⟩
      · by_cases h4 : sl.length = 0
        · have HE := Lib.hid (rwE_nil h4)
          have h5 : (sl.length : Int) = 0 := by omega
          obtain rfl := List.length_eq_zero_iff.1 h4
          go_enter Tryz.func118, Tryz.ntmps118
          go_wp2_with (first | (go_at_call 86; refine (nSerial_any _ _).mono ?_; rintro e w' ⟨rfl, rfl⟩) | (go_at_call 137; refine (HI.out _ (HA.out.below hB)).mono ?_; rintro e w1 ⟨rfl, hbel⟩; have hB := hB.trans (hbel.mono hB.size); have c0 := cell_on hbel c0; have c1 := cell_on hbel c1))
          go_ret
          exact ⟨ret_bool (by simp [rwB, h1, h3, HE.out]), hB⟩
        · obtain ⟨m, hm⟩ : ∃ m, sl.length = m + 1 := ⟨sl.length - 1, by omega⟩
          obtain rfl := HPt.out (by omega)
          obtain ⟨ca, hCa, hca⟩ := HCe.out 0 (by omega)
          obtain ⟨cz, hCz, hcz⟩ := HCe.out m (by omega)
          have HE : Hid (rwE sl = (!sl[0].hv && sl[m].hv)) := Lib.hid (rwE_some (List.getElem?_eq_getElem (by omega)) (by rw [show sl.length - 1 = m by omega]; exact List.getElem?_eq_getElem (by omega)))
          generalize sl[0] = sa at *
          generalize sl[m] = sz at *
          obtain ⟨ah, ai⟩ := sa
          obtain ⟨zh, zi⟩ := sz
          obtain rfl : ca = [.bool ah, .string ai] := hCa
          obtain rfl : cz = [.bool zh, .string zi] := hCz
          have da : w.cell? ⟨b, off, none⟩ = some (Value.bool ah) := by have h := hca 0 _ rfl; rwa [show off + 0 * kSl.sz + 0 = off from by omega] at h
          have dz : w.cell? ⟨b, off + m * 2, none⟩ = some (Value.bool zh) := hcz 0 _ rfl
          have e1 : IntKind.i64.wrap (((sl.length : Nat) : Int) - 1) = (m : Int) := by rw [IntKind.wrap_i64]; omega
          have e2 : wrap64 (((sl.length : Nat) : Int) - 1) = (m : Int) := by simp only [wrap64]; omega
          have e3 : ((sl.length : Nat) : Int) - 1 = (m : Int) := by omega
          have e4 : (m : Int) < (sl.length : Int) := by omega
          have e5 : ¬ (sl.length : Int) = 0 := by omega
          have e6 : (0 : Int) < (sl.length : Int) := by omega
          have e7 : ¬ sl.length = 0 := by omega
          have e8 : ¬ sl = [] := fun h => by rw [h] at e7; exact e7 rfl
          clear hca hcz
          have da := cell_on (below_alloc1 w (.cells #[.int .i64 nx, .slice (some ⟨b, off, none⟩) sl.length cap] 74)) da
          have dz := cell_on (below_alloc1 w (.cells #[.int .i64 nx, .slice (some ⟨b, off, none⟩) sl.length cap] 74)) dz
          have HM := Lib.hid hm; clear hm
          have HV : Hid (rwB ⟨nx, sl⟩ = (!ah && zh)) := Lib.hid (by simp [rwB, h1, h2, h3, HE.out])
          clear HE h4
          cases ah
          · go_enter Tryz.func118, Tryz.ntmps118
            go_wp2_with (first | (go_at_call 86; refine (nSerial_any _ _).mono ?_; rintro e w' ⟨rfl, rfl⟩) | (go_at_call 137; refine (HI.out _ (HA.out.below hB)).mono ?_; rintro e w1 ⟨rfl, hbel⟩; have hB := hB.trans (hbel.mono hB.size); have c0 := cell_on hbel c0; have c1 := cell_on hbel c1; have da := cell_on hbel da; have dz := cell_on hbel dz))
            go_ret
            exact ⟨ret_bool (by rw [HV.out]; first | rfl | simp [e8]), hB⟩
          · go_enter Tryz.func118, Tryz.ntmps118
            go_wp2_with (first | (go_at_call 86; refine (nSerial_any _ _).mono ?_; rintro e w' ⟨rfl, rfl⟩) | (go_at_call 137; refine (HI.out _ (HA.out.below hB)).mono ?_; rintro e w1 ⟨rfl, hbel⟩; have hB := hB.trans (hbel.mono hB.size); have c0 := cell_on hbel c0; have c1 := cell_on hbel c1; have da := cell_on hbel da; have dz := cell_on hbel dz))
            go_ret
            exact ⟨ret_bool (by rw [HV.out]; first | rfl | simp [e8]), hB⟩
    · go_enter Tryz.func118, Tryz.ntmps118
      go_wp2_with (first | (go_at_call 86; refine (nSerial_any _ _).mono ?_; rintro e w' ⟨rfl, rfl⟩) | (go_at_call 137; refine (HI.out _ (HA.out.below hB)).mono ?_; rintro e w1 ⟨rfl, hbel⟩; have hB := hB.trans (hbel.mono hB.size); have c0 := cell_on hbel c0; have c1 := cell_on hbel c1))
      go_ret
      exact ⟨ret_bool (by first | (simp [rwB, h1, h2]; done) | (simp [rwB, h1, h2]; intros; omega)), hB⟩
set_option maxRecDepth 100000 in
set_option maxHeartbeats 4000000 in
theorem sRecv_any (x : NRw) (v0 : Value) (w : World) (h : kSl.At 0 w v0 x.sl) (hf : fitRw 1048576 x) :
    Calls Tryz.prog 107 #[.agg #[.int .i64 x.nx, v0]] w fun e w' => e = .returned (.bool (rwB x)) ∧ Below w.heap.size w w' := by
  obtain ⟨nx, sl⟩ := x
  dsimp only at h ⊢
  have hlen := hf.1
  simp only at hlen
  have HA := Lib.hid h
  obtain ⟨p, cap, b, off, rfl, hcap, hp, hcell⟩ := h.parts
  have hB : Below w.heap.size w (w.alloc (.cells #[.int .i64 nx, .slice p sl.length cap] 74)) := below_alloc1 _ _
  have c0 : (w.alloc (.cells #[.int .i64 nx, .slice p sl.length cap] 74)).cell? ⟨w.heap.size, 0, none⟩ = some (Value.int .i64 nx) := by simp
  have c1 : (w.alloc (.cells #[.int .i64 nx, .slice p sl.length cap] 74)).cell? ⟨w.heap.size, 1, none⟩ = some (Value.slice p sl.length cap) := by simp
  have HCe := Lib.hid hcell; clear hcell
  have HPt := Lib.hid hp; clear hp
  have HF := Lib.hid hf.2; clear h hf
  cases h1 : inR nx 0 65535
  · go_enter Tryz.func107, Tryz.ntmps107
    go_wp2_with (first | (go_at_call 71; refine (nGood_any _ _).mono ?_; rintro e w' ⟨rfl, rfl⟩))
    go_ret
    exact ⟨ret_bool (by first | (simp [rwB, h1]; done) | (simp [rwB, h1]; intros; omega)), hB⟩
  · by_cases h2 : (sl.length : Int) ≤ 8
    · have HV : Hid (rwB ⟨nx, sl⟩ = (sl.all slB && rwE sl)) := Lib.hid (by simp [rwB, h1, h2])
      have HC0 := Lib.hid (And.intro c0 c1)
      have HB0 := Lib.hid hB
      clear hB c0 c1
      go_enter Tryz.func107, Tryz.ntmps107
      go_wp2_with (first | (go_at_call 71; refine (nGood_any _ _).mono ?_; rintro e w' ⟨rfl, rfl⟩))
      go_loopw [4] (fun i wr => ∃ k : Nat, k ≤ sl.length ∧ i = .int .i64 k ∧ Hid (∀ x ∈ sl.take k, slB x = true) ∧ Hid (Below (w.alloc (.cells #[.int .i64 nx, .slice p sl.length cap] 74)).heap.size (w.alloc (.cells #[.int .i64 nx, .slice p sl.length cap] 74)) wr)) (fun i _ => sl.length - (intOf i).toNat)
      case atStart => exact ⟨0, Nat.zero_le _, rfl, Lib.hid (by simp), Lib.hid (Below.refl _ _)⟩
      case round =>
        obtain ⟨k, hk, rfl, HT, HBr⟩ := hrel
        have hB := HB0.out.trans (HBr.out.mono HB0.out.size)
        have c0 := cell_on HBr.out HC0.out.1
        have c1 := cell_on HBr.out HC0.out.2
        by_cases hlt : k < sl.length
        · obtain rfl := HPt.out (by omega)
          obtain ⟨c, hC, hcl⟩ := HCe.out k hlt
          have hmem := List.getElem_mem hlt
          have HTk : Hid (sl.take (k + 1) = sl.take k ++ [sl[k]]) := Lib.hid (List.take_succ_eq_append_getElem hlt)
          have hs : sl[k].it.size ≤ 1048576 := HF.out sl[k] hmem
          have HN1 : Hid (slB sl[k] = false → sl.all slB = false) := Lib.hid (fun h => all_no hmem h)
          generalize sl[k] = x at *
          obtain ⟨hv, it⟩ := x
          dsimp only at hs
          obtain rfl : c = [.bool (⟨hv, it⟩ : NSl).hv, .string (⟨hv, it⟩ : NSl).it] := hC
          have d0 := cell_on hB (hcl 0 _ rfl)
          rw [show off + k * kSl.sz + 0 = off + k * 2 from rfl] at d0
          have d1 := cell_on hB (hcl 1 _ rfl)
          rw [show off + k * kSl.sz + 1 = off + k * 2 + 1 from rfl] at d1
          dsimp only at d0 d1
          have HL : Hid (∀ w, Calls Tryz.prog 105 #[.string it, .int .i64 8] w fun e w' => e = .returned (.bool (itB it)) ∧ Below w.heap.size w w') := Lib.hid (fun w => l4Letters_any it w (by omega))
          clear hs hcl hmem
          cases q1 : itB it
          · rw [q1] at HL
            have HX := Lib.hid (HN1.out (by simp [slB, q1]))
            go_wp2_with (go_at_call 105; refine (HL.out _).mono ?_; rintro e w1 ⟨rfl, hbel⟩; have hB := hB.trans (hbel.mono hB.size); have HBr := Lib.hid (HBr.out.trans (hbel.mono HBr.out.size)); have c0 := cell_on hbel c0; have c1 := cell_on hbel c1; have d0 := cell_on hbel d0; have d1 := cell_on hbel d1)
            go_ret
            exact ⟨ret_bool (by rw [HV.out, HX.out]; try rfl), hB⟩
          · rw [q1] at HL
            cases hv
            · cases q2 : it.toList.isEmpty
              · have HX := Lib.hid (HN1.out (by simp [slB, q1, q2]))
                go_wp2_with (go_at_call 105; refine (HL.out _).mono ?_; rintro e w1 ⟨rfl, hbel⟩; have hB := hB.trans (hbel.mono hB.size); have HBr := Lib.hid (HBr.out.trans (hbel.mono HBr.out.size)); have c0 := cell_on hbel c0; have c1 := cell_on hbel c1; have d0 := cell_on hbel d0; have d1 := cell_on hbel d1)
                go_ret
                exact ⟨ret_bool (by rw [HV.out, HX.out]; try rfl), hB⟩
              · have HX : Hid (slB ⟨false, it⟩ = true) := Lib.hid (by simp [slB, q1, q2])
                go_wp2_with (go_at_call 105; refine (HL.out _).mono ?_; rintro e w1 ⟨rfl, hbel⟩; have hB := hB.trans (hbel.mono hB.size); have HBr := Lib.hid (HBr.out.trans (hbel.mono HBr.out.size)); have c0 := cell_on hbel c0; have c1 := cell_on hbel c1; have d0 := cell_on hbel d0; have d1 := cell_on hbel d1)
                go_roundw
                case rel => exact ⟨k + 1, by omega, by go_num, Lib.hid (snoc_take HTk.out HT.out HX.out), HBr⟩
                case measure => simp [intOf]; omega
            · have HX : Hid (slB ⟨true, it⟩ = true) := Lib.hid (by simp [slB, q1])
              go_wp2_with (go_at_call 105; refine (HL.out _).mono ?_; rintro e w1 ⟨rfl, hbel⟩; have hB := hB.trans (hbel.mono hB.size); have HBr := Lib.hid (HBr.out.trans (hbel.mono HBr.out.size)); have c0 := cell_on hbel c0; have c1 := cell_on hbel c1; have d0 := cell_on hbel d0; have d1 := cell_on hbel d1)
              go_roundw
              case rel => exact ⟨k + 1, by omega, by go_num, Lib.hid (snoc_take HTk.out HT.out HX.out), HBr⟩
              case measure => simp [intOf]; omega
        · obtain rfl : k = sl.length := by omega
          have HG : Hid (sl.all slB = true) := Lib.hid (all_of_take HT.out)
          have HV2 : Hid (rwB ⟨nx, sl⟩ = rwE sl) := Lib.hid (by rw [HV.out, HG.out]; try rfl)
          clear HV HG HT
          by_cases h4 : sl.length = 0
          · have HE := Lib.hid (rwE_nil h4)
            obtain rfl := List.length_eq_zero_iff.1 h4
            go_wp2
            go_ret
            exact ⟨ret_bool (by rw [HV2.out, HE.out]; try first | rfl | simp), hB⟩
          · obtain ⟨m, hm⟩ : ∃ m, sl.length = m + 1 := ⟨sl.length - 1, by omega⟩
            obtain rfl := HPt.out (by omega)
            obtain ⟨ca, hCa, hca⟩ := HCe.out 0 (by omega)
            obtain ⟨cz, hCz, hcz⟩ := HCe.out m (by omega)
            have HE : Hid (rwE sl = (!sl[0].hv && sl[m].hv)) := Lib.hid (rwE_some (List.getElem?_eq_getElem (by omega)) (by rw [show sl.length - 1 = m by omega]; exact List.getElem?_eq_getElem (by omega)))
            generalize sl[0] = sa at *
            generalize sl[m] = sz at *
            obtain ⟨ah, ai⟩ := sa
            obtain ⟨zh, zi⟩ := sz
            obtain rfl : ca = [.bool ah, .string ai] := hCa
            obtain rfl : cz = [.bool zh, .string zi] := hCz
            have da : w.cell? ⟨b, off, none⟩ = some (Value.bool ah) := by have h := hca 0 _ rfl; rwa [show off + 0 * kSl.sz + 0 = off from by omega] at h
            have dz : w.cell? ⟨b, off + m * 2, none⟩ = some (Value.bool zh) := hcz 0 _ rfl
            have e1 : IntKind.i64.wrap (((sl.length : Nat) : Int) - 1) = (m : Int) := by rw [IntKind.wrap_i64]; omega
            have e2 : wrap64 (((sl.length : Nat) : Int) - 1) = (m : Int) := by simp only [wrap64]; omega
            have e3 : ((sl.length : Nat) : Int) - 1 = (m : Int) := by omega
            have e4 : (m : Int) < (sl.length : Int) := by omega
            have e5 : ¬ (sl.length : Int) = 0 := by omega
            have e6 : (0 : Int) < (sl.length : Int) := by omega
            have e7 : ¬ sl.length = 0 := by omega
            have e8 : ¬ sl = [] := fun h => by rw [h] at e7; exact e7 rfl
            clear hca hcz
            have da := cell_on hB da
            have dz := cell_on hB dz
            have HM := Lib.hid hm; clear hm
            have HV3 : Hid (rwB ⟨nx, sl⟩ = (!ah && zh)) := Lib.hid (by rw [HV2.out, HE.out])
            clear HE h4
            cases ah
            · go_wp2
              go_ret
              exact ⟨ret_bool (by rw [HV3.out]; first | rfl | simp [e8]), hB⟩
            · go_wp2
              go_ret
              exact ⟨ret_bool (by rw [HV3.out]; first | rfl | simp [e8]), hB⟩
    · go_enter Tryz.func107, Tryz.ntmps107
      go_wp2_with (first | (go_at_call 71; refine (nGood_any _ _).mono ?_; rintro e w' ⟨rfl, rfl⟩))
      go_ret
      exact ⟨ret_bool (by first | (simp [rwB, h1, h2]; done) | (simp [rwB, h1, h2]; intros; omega)), hB⟩
end Go.Proofs.YtihpibdodlgpaaaGreatDoor
