/- Contracts on queues of packets: the program's isQueue and its test on requests, the reference's l15Queue. -/
import Derived.Test.YtihpibdodlgpaaaGreatDoorNetP
import Derived.Test.YtihpibdodlgpaaaGreatDoorNetC
import Derived.Test.YtihpibdodlgpaaaGreatDoorKeep
namespace Go.Proofs.YtihpibdodlgpaaaGreatDoor
open Go.RowKit

/-- at most six valid packets; those on the way up are requests -/
def quB (xs : List NPk) : Bool := decide (xs.length ≤ 6) && xs.all pkB
def rqB (xs : List NPk) : Bool := xs.all (fun x => x.kd == 3)
theorem any_not {α : Type} (P : α → Bool) (xs : List α) : xs.any (fun x => !P x) = !xs.all P := by
  induction xs with
  | nil => rfl
  | cons x xs ih => rw [List.any_cons, List.all_cons, ih]; cases P x <;> simp
theorem all_of_take {α : Type} {P : α → Bool} {xs : List α} (h : ∀ x ∈ xs.take xs.length, P x = true) : xs.all P = true :=
  List.all_eq_true.2 fun x hx => h x (by rw [List.take_length]; exact hx)
theorem all_no {α : Type} {P : α → Bool} {xs : List α} {x : α} (hx : x ∈ xs) (h : P x = false) : xs.all P = false := by
  cases hb : xs.all P with
  | false => rfl
  | true => rw [List.all_eq_true.1 hb x hx] at h; cases h
theorem snoc_take {α : Type} {Q : α → Prop} {xs : List α} {k : Nat} {x : α} (hk : xs.take (k + 1) = xs.take k ++ [x]) (h : ∀ y ∈ xs.take k, Q y) (hx : Q x) : ∀ y ∈ xs.take (k + 1), Q y := by
  rw [hk]
  intro y hy
  rcases List.mem_append.1 hy with hy | hy
  · exact h y hy
  · rw [List.mem_singleton.1 hy]; exact hx
set_option maxRecDepth 100000 in
set_option maxHeartbeats 4000000 in
theorem isQ1_any (x : NPk) (w : World) (hs : x.dt.size ≤ 1048576) :
    Calls Tryz.prog 115 #[.agg #[.int .i64 x.kd, .int .i64 x.nm, .int .i64 x.tr, .int .i64 x.ld, .string x.dt]] w fun e w' => e = .returned (.bool (!pkB x)) ∧ Below w.heap.size w w' := by
  have H := Lib.hid (fun w => nPacket_any x w hs)
  go_enter Tryz.func115, Tryz.ntmps115
  go_wp2_with fail
  refine (H.out _).mono ?_
  rintro e w1 ⟨rfl, hb⟩
  go_wp2
  go_ret
  exact ⟨rfl, Below.trans (by go_grown) (hb.mono (by simp <;> omega))⟩
set_option maxRecDepth 100000 in
set_option maxHeartbeats 4000000 in
theorem isN1_any (x : NPk) (w : World) :
    Calls Tryz.prog 91 #[.agg #[.int .i64 x.kd, .int .i64 x.nm, .int .i64 x.tr, .int .i64 x.ld, .string x.dt]] w fun e w' => e = .returned (.bool (!(x.kd == 3))) ∧ Below w.heap.size w w' := by
  go_enter Tryz.func91, Tryz.ntmps91
  go_wp2
  go_ret
  exact ⟨ret_bool (by first | rfl | simp), by go_grown⟩
set_option maxRecDepth 100000 in
set_option maxHeartbeats 4000000 in
theorem nQueue_any (v : Value) (xs : List NPk) (w : World) (h : kPk.At 0 w v xs) (hf : fitL fitPk 1048576 xs) :
    Calls Tryz.prog 89 #[v] w fun e w' => e = .returned (.bool (quB xs)) ∧ Below w.heap.size w w' := by
  have H := Lib.hid (fun w h => conA_any (fun x => !pkB x) v xs w h hf.1 (fun x hx W _ => isQ1_any x W (hf.2 x hx)))
  have HA := Lib.hid h
  have hlen := hf.1
  obtain ⟨p, cap, b, off, rfl, _, _, _⟩ := h.parts
  clear h
  by_cases hl : xs.length ≤ 6
  · have hV : Hid (quB xs = !xs.any (fun x => !pkB x)) := Lib.hid (by simp [quB, hl, any_not])
    have hl2 : (xs.length : Int) ≤ 6 := by omega
    go_enter Tryz.func89, Tryz.ntmps89
    go_wp2_with fail
    refine (H.out _ HA.out).mono ?_
    rintro e w1 ⟨rfl, hb⟩
    go_wp2
    go_ret
    exact ⟨ret_bool (by rw [hV.out]), hb⟩
  · have hV : Hid (quB xs = false) := Lib.hid (by simp [quB, hl])
    have hl2 : decide ((xs.length : Int) ≤ 6) = false := decide_eq_false (by omega)
    go_enter Tryz.func89, Tryz.ntmps89
    go_wp2
    go_ret
    exact ⟨ret_bool (by rw [hV.out]), Below.refl _ _⟩
set_option maxRecDepth 100000 in
set_option maxHeartbeats 4000000 in
theorem nReq_any (v : Value) (xs : List NPk) (w : World) (h : kPk.At 0 w v xs) (hf : fitL fitPk 1048576 xs) :
    Calls Tryz.prog 90 #[v, .func (.func 91) #[] #[]] w fun e w' => e = .returned (.bool (!rqB xs)) ∧ Below w.heap.size w w' := by
  have H := conB_any (fun x => !(x.kd == 3)) v xs w h hf.1 (fun x _ W _ => isN1_any x W)
  rw [any_not] at H
  exact H
set_option maxRecDepth 100000 in
set_option maxHeartbeats 4000000 in
theorem sQueue_false (v : Value) (xs : List NPk) (w : World) (h : kPk.At 0 w v xs) (hf : fitL fitPk 1048576 xs) :
    Calls Tryz.prog 76 #[v, .bool false] w fun e w' => e = .returned (.bool (quB xs)) ∧ Below w.heap.size w w' := by
  obtain ⟨p, cap, b, off, rfl, hcap, hp, hcell⟩ := h.parts
  have HCe := Lib.hid hcell; clear hcell
  have HPt := Lib.hid hp; clear hp h
  have hlen := hf.1
  have HF := Lib.hid hf.2; clear hf
  go_enter Tryz.func76, Tryz.ntmps76
  go_wp2
  go_loopw [5] (fun i wr => ∃ k : Nat, k ≤ xs.length ∧ i = .int .i64 k ∧ Hid (∀ x ∈ xs.take k, pkB x = true) ∧ Below w.heap.size w wr) (fun i _ => xs.length - (intOf i).toNat)
  case atStart => exact ⟨0, Nat.zero_le _, rfl, Lib.hid (by simp), Below.refl _ _⟩
  case round =>
    obtain ⟨k, hk, rfl, HT, hB⟩ := hrel
    by_cases hlt : k < xs.length
    · obtain rfl := HPt.out (by omega)
      obtain ⟨c, hC, hcl⟩ := HCe.out k hlt
      have hmem := List.getElem_mem hlt
      have HTk : Hid (xs.take (k + 1) = xs.take k ++ [xs[k]]) := Lib.hid (List.take_succ_eq_append_getElem hlt)
      have hs := HF.out xs[k] hmem
      have HN1 : Hid (pkB xs[k] = false → quB xs = false) := Lib.hid (fun h => by simp [quB, all_no hmem h])
      generalize xs[k] = x at *
      obtain rfl : c = [.int .i64 x.kd, .int .i64 x.nm, .int .i64 x.tr, .int .i64 x.ld, .string x.dt] := hC
      have d0 : _ = some (Value.int .i64 x.kd) := cell_on hB (hcl 0 _ rfl)
      rw [show off + k * kPk.sz + 0 = off + k * 5 from rfl] at d0
      have d1 : _ = some (Value.int .i64 x.nm) := cell_on hB (hcl 1 _ rfl)
      rw [show off + k * kPk.sz + 1 = off + k * 5 + 1 from rfl] at d1
      have d2 : _ = some (Value.int .i64 x.tr) := cell_on hB (hcl 2 _ rfl)
      rw [show off + k * kPk.sz + 2 = off + k * 5 + 2 from rfl] at d2
      have d3 : _ = some (Value.int .i64 x.ld) := cell_on hB (hcl 3 _ rfl)
      rw [show off + k * kPk.sz + 3 = off + k * 5 + 3 from rfl] at d3
      have d4 : _ = some (Value.string x.dt) := cell_on hB (hcl 4 _ rfl)
      rw [show off + k * kPk.sz + 4 = off + k * 5 + 4 from rfl] at d4
      have HL := Lib.hid (fun w => sPacket_any x w hs)
      clear hs hcl hmem
      cases hx : pkB x
      · rw [hx] at HL
        have HV := Lib.hid (HN1.out hx); clear hx HN1
        go_wp2_with ((go_at_call 110; refine (HL.out _).mono ?_; rintro e w1 ⟨rfl, hbel⟩; have hB := hB.trans (hbel.mono hB.size); have d0 := cell_on hbel d0; have d1 := cell_on hbel d1; have d2 := cell_on hbel d2; have d3 := cell_on hbel d3; have d4 := cell_on hbel d4))
        go_ret
        exact ⟨ret_bool HV.out.symm, hB⟩
      · rw [hx] at HL
        have HX0 := Lib.hid hx; clear hx HN1
        go_wp2_with ((go_at_call 110; refine (HL.out _).mono ?_; rintro e w1 ⟨rfl, hbel⟩; have hB := hB.trans (hbel.mono hB.size); have d0 := cell_on hbel d0; have d1 := cell_on hbel d1; have d2 := cell_on hbel d2; have d3 := cell_on hbel d3; have d4 := cell_on hbel d4))
        go_roundw
        case rel => exact ⟨k + 1, by omega, by go_num, Lib.hid (snoc_take HTk.out HT.out HX0.out), hB⟩
        case measure => simp [intOf]; omega
    · obtain rfl : k = xs.length := by omega
      have HG : Hid (quB xs = decide ((xs.length : Int) ≤ 6)) := Lib.hid (by
        have h1 : xs.all pkB = true := all_of_take (fun x hx => HT.out x hx)
        have h3 : decide ((xs.length : Int) ≤ 6) = decide (xs.length ≤ 6) := decide_eq_decide.2 (by omega)
        rw [h3, quB, h1]; simp)
      go_wp2
      go_ret
      exact ⟨ret_bool (by rw [HG.out]), hB⟩
set_option maxRecDepth 100000 in
set_option maxHeartbeats 4000000 in
theorem sQueue_true (v : Value) (xs : List NPk) (w : World) (h : kPk.At 0 w v xs) (hf : fitL fitPk 1048576 xs) :
    Calls Tryz.prog 76 #[v, .bool true] w fun e w' => e = .returned (.bool (quB xs && rqB xs)) ∧ Below w.heap.size w w' := by
  obtain ⟨p, cap, b, off, rfl, hcap, hp, hcell⟩ := h.parts
  have HCe := Lib.hid hcell; clear hcell
  have HPt := Lib.hid hp; clear hp h
  have hlen := hf.1
  have HF := Lib.hid hf.2; clear hf
  go_enter Tryz.func76, Tryz.ntmps76
  go_wp2
  go_loopw [5] (fun i wr => ∃ k : Nat, k ≤ xs.length ∧ i = .int .i64 k ∧ Hid (∀ x ∈ xs.take k, pkB x = true ∧ (x.kd == 3) = true) ∧ Below w.heap.size w wr) (fun i _ => xs.length - (intOf i).toNat)
  case atStart => exact ⟨0, Nat.zero_le _, rfl, Lib.hid (by simp), Below.refl _ _⟩
  case round =>
    obtain ⟨k, hk, rfl, HT, hB⟩ := hrel
    by_cases hlt : k < xs.length
    · obtain rfl := HPt.out (by omega)
      obtain ⟨c, hC, hcl⟩ := HCe.out k hlt
      have hmem := List.getElem_mem hlt
      have HTk : Hid (xs.take (k + 1) = xs.take k ++ [xs[k]]) := Lib.hid (List.take_succ_eq_append_getElem hlt)
      have hs := HF.out xs[k] hmem
      have HN1 : Hid (pkB xs[k] = false → (quB xs && rqB xs) = false) := Lib.hid (fun h => by simp [quB, all_no hmem h])
      have HN2 : Hid ((xs[k].kd == 3) = false → (quB xs && rqB xs) = false) := Lib.hid (fun h => by simp [rqB, all_no (P := fun x : NPk => x.kd == 3) hmem h])
      generalize xs[k] = x at *
      obtain rfl : c = [.int .i64 x.kd, .int .i64 x.nm, .int .i64 x.tr, .int .i64 x.ld, .string x.dt] := hC
      have d0 : _ = some (Value.int .i64 x.kd) := cell_on hB (hcl 0 _ rfl)
      rw [show off + k * kPk.sz + 0 = off + k * 5 from rfl] at d0
      have d1 : _ = some (Value.int .i64 x.nm) := cell_on hB (hcl 1 _ rfl)
      rw [show off + k * kPk.sz + 1 = off + k * 5 + 1 from rfl] at d1
      have d2 : _ = some (Value.int .i64 x.tr) := cell_on hB (hcl 2 _ rfl)
      rw [show off + k * kPk.sz + 2 = off + k * 5 + 2 from rfl] at d2
      have d3 : _ = some (Value.int .i64 x.ld) := cell_on hB (hcl 3 _ rfl)
      rw [show off + k * kPk.sz + 3 = off + k * 5 + 3 from rfl] at d3
      have d4 : _ = some (Value.string x.dt) := cell_on hB (hcl 4 _ rfl)
      rw [show off + k * kPk.sz + 4 = off + k * 5 + 4 from rfl] at d4
      have HL := Lib.hid (fun w => sPacket_any x w hs)
      clear hs hcl hmem
      cases hx : pkB x
      · rw [hx] at HL
        have HV := Lib.hid (HN1.out hx); clear hx HN1 HN2
        go_wp2_with ((go_at_call 110; refine (HL.out _).mono ?_; rintro e w1 ⟨rfl, hbel⟩; have hB := hB.trans (hbel.mono hB.size); have d0 := cell_on hbel d0; have d1 := cell_on hbel d1; have d2 := cell_on hbel d2; have d3 := cell_on hbel d3; have d4 := cell_on hbel d4))
        go_ret
        exact ⟨ret_bool HV.out.symm, hB⟩
      · rw [hx] at HL
        have HX0 := Lib.hid hx; clear hx HN1
        cases hk3 : (x.kd == 3)
        · have HV := Lib.hid (HN2.out hk3)
          have hk4 : ¬ x.kd = 3 := by simpa using hk3
          clear hk3 HN2
          go_wp2_with ((go_at_call 110; refine (HL.out _).mono ?_; rintro e w1 ⟨rfl, hbel⟩; have hB := hB.trans (hbel.mono hB.size); have d0 := cell_on hbel d0; have d1 := cell_on hbel d1; have d2 := cell_on hbel d2; have d3 := cell_on hbel d3; have d4 := cell_on hbel d4))
          go_ret
          exact ⟨ret_bool HV.out.symm, hB⟩
        · have HK3 := Lib.hid hk3
          have hk4 : x.kd = 3 := by simpa using hk3
          obtain ⟨kd, nm, tr, ld, dt⟩ := x
          simp only at hk4
          subst hk4
          clear hk3 HN2
          go_wp2_with ((go_at_call 110; refine (HL.out _).mono ?_; rintro e w1 ⟨rfl, hbel⟩; have hB := hB.trans (hbel.mono hB.size); have d0 := cell_on hbel d0; have d1 := cell_on hbel d1; have d2 := cell_on hbel d2; have d3 := cell_on hbel d3; have d4 := cell_on hbel d4))
          go_roundw
          case rel => exact ⟨k + 1, by omega, by go_num, Lib.hid (snoc_take HTk.out HT.out ⟨HX0.out, HK3.out⟩), hB⟩
          case measure => simp [intOf]; omega
    · obtain rfl : k = xs.length := by omega
      have HG : Hid ((quB xs && rqB xs) = decide ((xs.length : Int) ≤ 6)) := Lib.hid (by
        have h1 : xs.all pkB = true := all_of_take (fun x hx => (HT.out x hx).1)
        have h2 : rqB xs = true := all_of_take (P := fun x : NPk => x.kd == 3) (fun x hx => (HT.out x hx).2)
        have h3 : decide ((xs.length : Int) ≤ 6) = decide (xs.length ≤ 6) := decide_eq_decide.2 (by omega)
        rw [h3, quB, h1, h2]; simp)
      go_wp2
      go_ret
      exact ⟨ret_bool (by rw [HG.out]), hB⟩
end Go.Proofs.YtihpibdodlgpaaaGreatDoor
