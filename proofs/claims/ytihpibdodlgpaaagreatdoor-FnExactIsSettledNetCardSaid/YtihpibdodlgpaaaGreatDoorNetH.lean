/- Contracts: whether a window has an item (the program's has, the reference's l10Have); the program's isRequest. -/
import Derived.Test.YtihpibdodlgpaaaGreatDoorNetR
namespace Go.Proofs.YtihpibdodlgpaaaGreatDoor
open Go.RowKit

/-- whether the item with a serial is in the window -/
def haB (x : NRw) (n : Int) : Bool := match x.sl[(gp x.nx n).toNat]? with
  | some s => s.hv
  | none => false
theorem haB_at {nx n : Int} {sl : List NSl} {m : Nat} (hm : gp nx n = m) (hl : m < sl.length) : haB ⟨nx, sl⟩ n = sl[m].hv := by
  rw [haB, show (gp nx n).toNat = m from by rw [hm]; rfl, List.getElem?_eq_getElem hl]
theorem haB_no {nx n : Int} {sl : List NSl} {m : Nat} (hm : gp nx n = m) (hl : ¬ m < sl.length) : haB ⟨nx, sl⟩ n = false := by
  rw [haB, show (gp nx n).toNat = m from by rw [hm]; rfl, List.getElem?_eq_none (Nat.le_of_not_lt hl)]
theorem gp_nat (a b : Int) : ∃ m : Nat, gp a b = m ∧ m ≤ 65535 := ⟨(gp a b).toNat, by unfold gp; omega, by unfold gp; omega⟩
theorem not_before {a b : Int} (h : gp a b < 8) : inR (gp b a) 1 32767 = false := by
  rw [inR_false]; unfold gp at *; omega
/-- a request, by itself -/
def q1B (x : NRq) (b : Int) : Bool := inR x.n 0 65535 && decide (gp b x.n < 8) && inR x.s 1 3 && inR x.u 0 10007 && inR x.t 0 3
set_option maxRecDepth 100000 in
set_option maxHeartbeats 4000000 in
theorem nHas_any (x : NRw) (n : Int) (v0 : Value) (w : World) (h : kSl.At 0 w v0 x.sl) (hn : x.sl.length ≤ 1048576) (h1 : inR x.nx 0 65535 = true) (h2 : inR n 0 65535 = true) :
    Calls Tryz.prog 122 #[.agg #[.int .i64 x.nx, v0], .int .i64 n] w fun e w' => e = .returned (.bool (haB x n)) ∧ Below w.heap.size w w' := by
  obtain ⟨nx, sl⟩ := x
  dsimp only at h hn h1 ⊢
  obtain ⟨m, hm, hm2⟩ := gp_nat nx n
  have HG := Lib.hid (fun w => nGap_any nx n w (inR_true.1 h1).1 (inR_true.1 h1).2 (inR_true.1 h2).1 (inR_true.1 h2).2)
  rw [hm] at HG
  have HM := Lib.hid hm; clear hm
  obtain ⟨p, cap, b, off, rfl, hcap, hp, hcell⟩ := h.parts
  clear h h1 h2
  by_cases hlt : m < sl.length
  · obtain rfl := hp (by omega)
    obtain ⟨c, hC, hcl⟩ := hcell m hlt
    have HV := Lib.hid (haB_at HM.out hlt)
    clear hcell hp
    generalize sl[m] = s at *
    obtain ⟨hv, it⟩ := s
    obtain rfl : c = [.bool hv, .string it] := hC
    have d0 : w.cell? ⟨b, off + m * 2, none⟩ = some (Value.bool hv) := hcl 0 _ rfl
    have d0 := cell_on (below_alloc1 w (.cells #[.int .i64 nx, .slice (some ⟨b, off, none⟩) sl.length cap] 74)) d0
    clear hcl
    have hl2 : (m : Int) < (sl.length : Int) := by omega
    go_enter Tryz.func122, Tryz.ntmps122
    go_wp2_with (first | (go_at_call 88; refine (HG.out _).mono ?_; rintro e w' ⟨rfl, rfl⟩))
    go_ret
    exact ⟨ret_bool (by rw [HV.out]; try simp), by go_grown⟩
  · have HV := Lib.hid (haB_no HM.out hlt)
    clear hcell hp
    have hl2 : decide ((m : Int) < (sl.length : Int)) = false := decide_eq_false (by omega)
    go_enter Tryz.func122, Tryz.ntmps122
    go_wp2_with (first | (go_at_call 88; refine (HG.out _).mono ?_; rintro e w' ⟨rfl, rfl⟩))
    go_ret
    exact ⟨ret_bool (by rw [HV.out]; try simp), by go_grown⟩
set_option maxRecDepth 100000 in
set_option maxHeartbeats 4000000 in
theorem sHave_any (x : NRw) (n : Int) (v0 : Value) (w : World) (h : kSl.At 0 w v0 x.sl) (hn : x.sl.length ≤ 1048576) (h1 : inR x.nx 0 65535 = true) (h2 : inR n 0 65535 = true) (h8 : gp x.nx n < 8) :
    Calls Tryz.prog 109 #[.agg #[.int .i64 x.nx, v0], .int .i64 n] w fun e w' => e = .returned (.bool (haB x n)) ∧ Below w.heap.size w w' := by
  obtain ⟨nx, sl⟩ := x
  dsimp only at h hn h1 h8 ⊢
  obtain ⟨m, hm, hm2⟩ := gp_nat nx n
  have HG := Lib.hid (fun w => sGap_any nx n w (inR_true.1 h1).1 (inR_true.1 h1).2 (inR_true.1 h2).1 (inR_true.1 h2).2)
  have HBf := Lib.hid (fun w => sBefore_any n nx w (inR_true.1 h2).1 (inR_true.1 h2).2 (inR_true.1 h1).1 (inR_true.1 h1).2)
  rw [not_before h8] at HBf
  rw [hm] at HG
  have HM := Lib.hid hm; clear hm h8
  obtain ⟨p, cap, b, off, rfl, hcap, hp, hcell⟩ := h.parts
  clear h h1 h2
  by_cases hlt : m < sl.length
  · obtain rfl := hp (by omega)
    obtain ⟨c, hC, hcl⟩ := hcell m hlt
    have HV := Lib.hid (haB_at HM.out hlt)
    clear hcell hp
    generalize sl[m] = s at *
    obtain ⟨hv, it⟩ := s
    obtain rfl : c = [.bool hv, .string it] := hC
    have d0 : w.cell? ⟨b, off + m * 2, none⟩ = some (Value.bool hv) := hcl 0 _ rfl
    have d0 := cell_on (below_alloc1 w (.cells #[.int .i64 nx, .slice (some ⟨b, off, none⟩) sl.length cap] 74)) d0
    clear hcl
    have hl2 : (m : Int) < (sl.length : Int) := by omega
    go_enter Tryz.func109, Tryz.ntmps109
    go_wp2_with (first | (go_at_call 73; refine (HG.out _).mono ?_; rintro e w' ⟨rfl, rfl⟩) | (go_at_call 132; refine (HBf.out _).mono ?_; rintro e w' ⟨rfl, rfl⟩))
    go_ret
    exact ⟨ret_bool (by rw [HV.out]; try simp), by go_grown⟩
  · have HV := Lib.hid (haB_no HM.out hlt)
    clear hcell hp
    have hl2 : decide ((m : Int) < (sl.length : Int)) = false := decide_eq_false (by omega)
    go_enter Tryz.func109, Tryz.ntmps109
    go_wp2_with (first | (go_at_call 73; refine (HG.out _).mono ?_; rintro e w' ⟨rfl, rfl⟩) | (go_at_call 132; refine (HBf.out _).mono ?_; rintro e w' ⟨rfl, rfl⟩))
    go_ret
    exact ⟨ret_bool (by rw [HV.out]; try simp), by go_grown⟩
set_option maxRecDepth 100000 in
set_option maxHeartbeats 4000000 in
theorem nRequest_any (x : NRq) (b : Int) (w : World) (hb : inR b 0 65535 = true) :
    Calls Tryz.prog 139 #[.agg #[.int .i64 x.n, .int .i64 x.s, .int .i64 x.u, .int .i64 x.t], .int .i64 b] w fun e w' => e = .returned (.bool (q1B x b)) ∧ Below w.heap.size w w' := by
  obtain ⟨n, s, u, t⟩ := x
  dsimp only
  cases h1 : inR n 0 65535
  · go_enter Tryz.func139, Tryz.ntmps139
    go_wp2_with (first | (go_at_call 86; refine (nSerial_any _ _).mono ?_; rintro e w' ⟨rfl, rfl⟩) | (go_at_call 83; refine (within_any _ _ _ _).mono ?_; rintro e w' ⟨rfl, rfl⟩))
    go_ret
    exact ⟨ret_bool (by first | (simp [q1B, h1]; done) | (simp [q1B, h1]; intros; omega)), by go_grown⟩
  · by_cases h2 : gp b n < 8
    · cases h3 : inR s 1 3
      · have HG := Lib.hid (fun w => nGap_any b n w (inR_true.1 hb).1 (inR_true.1 hb).2 (inR_true.1 h1).1 (inR_true.1 h1).2)
        go_enter Tryz.func139, Tryz.ntmps139
        go_wp2_with (first | (go_at_call 86; refine (nSerial_any _ _).mono ?_; rintro e w' ⟨rfl, rfl⟩) | (go_at_call 83; refine (within_any _ _ _ _).mono ?_; rintro e w' ⟨rfl, rfl⟩) | (go_at_call 88; refine (HG.out _).mono ?_; rintro e w' ⟨rfl, rfl⟩))
        go_ret
        exact ⟨ret_bool (by first | (simp [q1B, h1, h2, h3]; done) | (simp [q1B, h1, h2, h3]; intros; omega)), by go_grown⟩
      · cases h4 : inR u 0 10007
        · have HG := Lib.hid (fun w => nGap_any b n w (inR_true.1 hb).1 (inR_true.1 hb).2 (inR_true.1 h1).1 (inR_true.1 h1).2)
          go_enter Tryz.func139, Tryz.ntmps139
          go_wp2_with (first | (go_at_call 86; refine (nSerial_any _ _).mono ?_; rintro e w' ⟨rfl, rfl⟩) | (go_at_call 83; refine (within_any _ _ _ _).mono ?_; rintro e w' ⟨rfl, rfl⟩) | (go_at_call 88; refine (HG.out _).mono ?_; rintro e w' ⟨rfl, rfl⟩))
          go_ret
          exact ⟨ret_bool (by first | (simp [q1B, h1, h2, h3, h4]; done) | (simp [q1B, h1, h2, h3, h4]; intros; omega)), by go_grown⟩
        · have HG := Lib.hid (fun w => nGap_any b n w (inR_true.1 hb).1 (inR_true.1 hb).2 (inR_true.1 h1).1 (inR_true.1 h1).2)
          go_enter Tryz.func139, Tryz.ntmps139
          go_wp2_with (first | (go_at_call 86; refine (nSerial_any _ _).mono ?_; rintro e w' ⟨rfl, rfl⟩) | (go_at_call 83; refine (within_any _ _ _ _).mono ?_; rintro e w' ⟨rfl, rfl⟩) | (go_at_call 88; refine (HG.out _).mono ?_; rintro e w' ⟨rfl, rfl⟩))
          go_ret
          exact ⟨ret_bool (by first | (simp [q1B, h1, h2, h3, h4]; done) | (simp [q1B, h1, h2, h3, h4]; intros; omega)), by go_grown⟩
    · have HG := Lib.hid (fun w => nGap_any b n w (inR_true.1 hb).1 (inR_true.1 hb).2 (inR_true.1 h1).1 (inR_true.1 h1).2)
      go_enter Tryz.func139, Tryz.ntmps139
      go_wp2_with (first | (go_at_call 86; refine (nSerial_any _ _).mono ?_; rintro e w' ⟨rfl, rfl⟩) | (go_at_call 83; refine (within_any _ _ _ _).mono ?_; rintro e w' ⟨rfl, rfl⟩) | (go_at_call 88; refine (HG.out _).mono ?_; rintro e w' ⟨rfl, rfl⟩))
      go_ret
      exact ⟨ret_bool (by first | (simp [q1B, h1, h2]; done) | (simp [q1B, h1, h2]; intros; omega)), by go_grown⟩
end Go.Proofs.YtihpibdodlgpaaaGreatDoor
