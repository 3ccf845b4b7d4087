/- Contracts on the ticks between two events of a trace: the program's and the reference's TicksBetween, for all arguments. -/
import Derived.Test.YtgmccafmopgjaaaEvList
import Derived.Deep.DeepCutAuto
namespace Go.Proofs.Ytgmccafmopgjaaa
open Go.RowKit

def sentP (number node : Int) (x : Ev) : Bool := decide (x.k = 1 ∧ x.m = number ∧ x.n = node)
def relP (number node : Int) (x : Ev) : Bool := decide (x.k = 4 ∧ x.m = number ∧ x.n = node)
/-- k is the first index from f on at which p holds -/
def FirstAt (p : Ev → Bool) (xs : List Ev) (f k : Nat) : Prop := f ≤ k ∧ ∃ h : k < xs.length, p xs[k] = true ∧ ∀ j (hj : j < k), f ≤ j → p (xs[j]'(by omega)) = false
open Classical in
noncomputable def fiO (p : Ev → Bool) (xs : List Ev) (f : Nat) : Option Nat := if h : ∃ k, FirstAt p xs f k then some h.choose else none
theorem fiO_some {p : Ev → Bool} {xs : List Ev} {f k : Nat} (h : FirstAt p xs f k) : fiO p xs f = some k := by
  have hex : ∃ k, FirstAt p xs f k := ⟨k, h⟩
  rw [fiO, dif_pos hex]
  have hc := hex.choose_spec
  generalize hex.choose = m at hc
  obtain ⟨a1, a2, a3, a4⟩ := h
  obtain ⟨b1, b2, b3, b4⟩ := hc
  rcases Nat.lt_trichotomy m k with hlt | rfl | hlt
  · rw [a4 m hlt b1] at b3; cases b3
  · rfl
  · rw [b4 k hlt a1] at a3; cases a3
theorem fiO_none {p : Ev → Bool} {xs : List Ev} {f : Nat} (h : ∀ j (hj : j < xs.length), f ≤ j → p xs[j] = false) : fiO p xs f = none := by
  rw [fiO, dif_neg]
  rintro ⟨k, h1, h2, h3, _⟩
  rw [h k h2 h1] at h3; cases h3
theorem first_drop {p : Ev → Bool} {xs : List Ev} {i k : Nat} (h : FirstAt p (xs.drop i) 0 k) : FirstAt p xs i (i + k) := by
  obtain ⟨_, h1, h2, h3⟩ := h
  rw [List.length_drop] at h1
  refine ⟨by omega, by omega, by rw [List.getElem_drop] at h2; exact h2, fun j hj hi => ?_⟩
  have := h3 (j - i) (by omega) (Nat.zero_le _)
  rw [List.getElem_drop] at this
  simpa [show i + (j - i) = j by omega] using this
theorem none_drop {p : Ev → Bool} {xs : List Ev} {i : Nat} (h : ∀ j (hj : j < (xs.drop i).length), p (xs.drop i)[j] = false) : ∀ j (hj : j < xs.length), i ≤ j → p xs[j] = false := by
  intro j hj hi
  have := h (j - i) (by rw [List.length_drop]; omega)
  rw [List.getElem_drop] at this
  simpa [show i + (j - i) = j by omega] using this
def tbB (xs : List Ev) (number a b : Int) : Bool := inR number 0 65535 && inR a 0 7 && inR b 0 7
/-- what TicksBetween answers of a valid trace -/
noncomputable def tbW (xs : List Ev) (number a b : Int) : Int × Bool := match fiO (sentP number a) xs 0 with
  | none => (0, false)
  | some i => match fiO (relP number b) xs i with
    | none => (0, false)
    | some k => (xs[k]!.t - xs[i]!.t, true)
noncomputable def tbV (xs : List Ev) (number a b : Int) : Int × Bool := if tsB xs = true ∧ tbB xs number a b = true then tbW xs number a b else (0, false)
/-- a slice from an index on -/
theorem RdEv.drop {w : World} {xs : List Ev} {cap b off i : Nat} (hcap : xs.length ≤ cap) (hl : xs.length ≤ 1073741824)
    (hc : ∀ k (hk : k < xs.length), w.cell? ⟨b, off + k * 4, none⟩ = some (.int .i64 xs[k].t) ∧ w.cell? ⟨b, off + k * 4 + 1, none⟩ = some (.int .i64 xs[k].n) ∧ w.cell? ⟨b, off + k * 4 + 2, none⟩ = some (.int .i64 xs[k].k) ∧ w.cell? ⟨b, off + k * 4 + 3, none⟩ = some (.int .i64 xs[k].m))
    (hi : i < xs.length) : RdEv w (.slice (some ⟨b, off + i * 4, none⟩) (xs.length - i) (cap - i)) (xs.drop i) := by
  have hld : (xs.drop i).length = xs.length - i := List.length_drop
  refine ⟨⟨flat_length Ev.cells 4 Ev.cells_length _, some ⟨b, off + i * 4, none⟩, cap - i, b, off + i * 4, by rw [hld], by omega, (by intro h; cases h), fun _ => ⟨rfl, fun j hj => ?_⟩⟩, by omega⟩
  rw [hld] at hj
  obtain ⟨q, r, hq, hr⟩ : ∃ q r, j = q * 4 + r ∧ r < 4 := ⟨j / 4, j % 4, by omega, by omega⟩
  subst hq
  rw [flat_get Ev.cells 4 Ev.cells_length (xs.drop i) q r (by omega) hr]
  obtain ⟨c0, c1, c2, c3⟩ := hc (i + q) (by omega)
  have e : off + i * 4 + (q * 4 + r) = off + (i + q) * 4 + r := by omega
  rw [e, List.getElem_drop]
  have hr4 : r = 0 ∨ r = 1 ∨ r = 2 ∨ r = 3 := by omega
  rcases hr4 with rfl | rfl | rfl | rfl
  · exact c0
  · exact c1
  · exact c2
  · exact c3

theorem cl1_any (number node : Int) (x : Ev) (A B : Nat) (w : World) (hA : w.cell? ⟨A, 0, none⟩ = some (.int .i64 number)) (hB : w.cell? ⟨B, 0, none⟩ = some (.int .i64 node)) :
    Calls Try.prog 53 #[x.v, .pointer (some ⟨A, 0, none⟩), .pointer (some ⟨B, 0, none⟩)] w fun e w' => e = .returned (.bool (sentP number node x)) ∧ Below w.heap.size w w' := by
  have lA := World.block_lt_of_cell? w _ hA
  have lB := World.block_lt_of_cell? w _ hB
  have nA : A ≠ w.heap.size := by simp at lA; omega
  have nB : B ≠ w.heap.size := by simp at lB; omega
  simp only at lA lB
  obtain ⟨t, n, k, m⟩ := x
  by_cases h1 : k = 1
  · subst h1
    by_cases h2 : m = number
    · by_cases h3 : n = node
      · have HV : Hid (sentP number node ⟨t, n, 1, m⟩ = true) := Lib.hid (by simp [sentP, h2, h3])
        subst h2 h3
        go_enter Try.func53, Try.ntmps53
        go_wp2
        go_ret
        exact ⟨ret_bool HV.out.symm, by go_grown⟩
      · have HV : Hid (sentP number node ⟨t, n, 1, m⟩ = false) := Lib.hid (by simp [sentP, h3])
        have h3' : (n == node) = false := beq_eq_false_iff_ne.2 h3
        subst h2
        go_enter Try.func53, Try.ntmps53
        go_wp2
        go_ret
        exact ⟨ret_bool HV.out.symm, by go_grown⟩
    · have HV : Hid (sentP number node ⟨t, n, 1, m⟩ = false) := Lib.hid (by simp [sentP, h2])
      have h2' : (m == number) = false := beq_eq_false_iff_ne.2 h2
      go_enter Try.func53, Try.ntmps53
      go_wp2
      go_ret
      exact ⟨ret_bool HV.out.symm, by go_grown⟩
  · have HV : Hid (sentP number node ⟨t, n, k, m⟩ = false) := Lib.hid (by simp [sentP, h1])
    have h1' : (k == 1) = false := beq_eq_false_iff_ne.2 h1
    go_enter Try.func53, Try.ntmps53
    go_wp2
    go_ret
    exact ⟨ret_bool HV.out.symm, by go_grown⟩
theorem idx1_any (number node : Int) (A B : Nat) (v : Value) (xs : List Ev) (w : World) (h : RdEv w v xs) (hA : w.cell? ⟨A, 0, none⟩ = some (.int .i64 number)) (hB : w.cell? ⟨B, 0, none⟩ = some (.int .i64 node)) :
    Calls Try.prog 52 #[v, .func (.func 53) #[] #[.pointer (some ⟨A, 0, none⟩), .pointer (some ⟨B, 0, none⟩)]] w fun e w' => (∃ r : Int, e = .returned (.int .i64 r) ∧ (r = -1 ∧ (∀ j (h : j < xs.length), sentP number node xs[j] = false) ∨ ∃ k : Nat, r = k ∧ FirstAt (sentP number node) xs 0 k)) ∧ Below w.heap.size w w' := by
  have hlen := h.2
  obtain ⟨p, cap, b, off, rfl, hcap, hp, hcell⟩ := h.parts
  have HC := Lib.hid hcell; clear hcell
  have HP := Lib.hid hp; clear hp
  have HA := Lib.hid hA; clear hA
  have HB := Lib.hid hB; clear hB
  go_enter Try.func52, Try.ntmps52
  go_wp2
  go_loopw [8] (fun i wr => ∃ (k : Nat), k ≤ xs.length ∧ i = .int .i64 k ∧ Below w.heap.size w wr ∧ Hid (∀ j (h : j < xs.length), j < k → sentP number node xs[j] = false))
    (fun i _ => xs.length - (intOf i).toNat)
  case atStart => exact ⟨0, Nat.zero_le _, rfl, Below.refl _ _, Lib.hid fun j _ h => absurd h (by omega)⟩
  case round =>
    obtain ⟨k, hk, rfl, hb, HF⟩ := hrel
    by_cases hlt : k < xs.length
    · obtain rfl := HP.out (by omega)
      obtain ⟨c1, c2, c3, c4⟩ := HC.out k hlt
      have c1 := cell_on hb c1
      have c2 := cell_on hb c2
      have c3 := cell_on hb c3
      have c4 := cell_on hb c4
      have HL := Lib.hid (cl1_any number node ⟨xs[k].t, xs[k].n, xs[k].k, xs[k].m⟩ A B wr (cell_on hb HA.out) (cell_on hb HB.out))
      cases hx : sentP number node xs[k]
      · rw [show sentP number node ⟨xs[k].t, xs[k].n, xs[k].k, xs[k].m⟩ = false from hx] at HL
        have HX := Lib.hid hx; clear hx
        go_wp2_with (go_at_call 53; refine HL.out.mono ?_; rintro e w1 ⟨rfl, hb1⟩)
        go_roundw
        case rel => exact ⟨k + 1, by omega, by go_num, hb.trans (hb1.mono hb.size), Lib.hid fun j h hj => (by
          by_cases he : j = k
          · subst he; exact HX.out
          · exact HF.out j h (by omega))⟩
        case measure => simp [intOf]; omega
      · rw [show sentP number node ⟨xs[k].t, xs[k].n, xs[k].k, xs[k].m⟩ = true from hx] at HL
        have HX := Lib.hid hx; clear hx
        go_wp2_with (go_at_call 53; refine HL.out.mono ?_; rintro e w1 ⟨rfl, hb1⟩)
        go_ret
        exact ⟨⟨k, rfl, .inr ⟨k, rfl, Nat.zero_le _, hlt, HX.out, fun j hj _ => HF.out j (by omega) hj⟩⟩, hb.trans (hb1.mono hb.size)⟩
    · go_wp2
      go_ret
      exact ⟨⟨-1, rfl, .inl ⟨rfl, fun j h => HF.out j h (by omega)⟩⟩, hb⟩

theorem cl2_any (number node : Int) (x : Ev) (A B : Nat) (w : World) (hA : w.cell? ⟨A, 0, none⟩ = some (.int .i64 number)) (hB : w.cell? ⟨B, 0, none⟩ = some (.int .i64 node)) :
    Calls Try.prog 54 #[x.v, .pointer (some ⟨A, 0, none⟩), .pointer (some ⟨B, 0, none⟩)] w fun e w' => e = .returned (.bool (relP number node x)) ∧ Below w.heap.size w w' := by
  have lA := World.block_lt_of_cell? w _ hA
  have lB := World.block_lt_of_cell? w _ hB
  have nA : A ≠ w.heap.size := by simp at lA; omega
  have nB : B ≠ w.heap.size := by simp at lB; omega
  simp only at lA lB
  obtain ⟨t, n, k, m⟩ := x
  by_cases h1 : k = 4
  · subst h1
    by_cases h2 : m = number
    · by_cases h3 : n = node
      · have HV : Hid (relP number node ⟨t, n, 4, m⟩ = true) := Lib.hid (by simp [relP, h2, h3])
        subst h2 h3
        go_enter Try.func54, Try.ntmps54
        go_wp2
        go_ret
        exact ⟨ret_bool HV.out.symm, by go_grown⟩
      · have HV : Hid (relP number node ⟨t, n, 4, m⟩ = false) := Lib.hid (by simp [relP, h3])
        have h3' : (n == node) = false := beq_eq_false_iff_ne.2 h3
        subst h2
        go_enter Try.func54, Try.ntmps54
        go_wp2
        go_ret
        exact ⟨ret_bool HV.out.symm, by go_grown⟩
    · have HV : Hid (relP number node ⟨t, n, 4, m⟩ = false) := Lib.hid (by simp [relP, h2])
      have h2' : (m == number) = false := beq_eq_false_iff_ne.2 h2
      go_enter Try.func54, Try.ntmps54
      go_wp2
      go_ret
      exact ⟨ret_bool HV.out.symm, by go_grown⟩
  · have HV : Hid (relP number node ⟨t, n, k, m⟩ = false) := Lib.hid (by simp [relP, h1])
    have h1' : (k == 4) = false := beq_eq_false_iff_ne.2 h1
    go_enter Try.func54, Try.ntmps54
    go_wp2
    go_ret
    exact ⟨ret_bool HV.out.symm, by go_grown⟩
theorem idx2_any (number node : Int) (A B : Nat) (v : Value) (xs : List Ev) (w : World) (h : RdEv w v xs) (hA : w.cell? ⟨A, 0, none⟩ = some (.int .i64 number)) (hB : w.cell? ⟨B, 0, none⟩ = some (.int .i64 node)) :
    Calls Try.prog 52 #[v, .func (.func 54) #[] #[.pointer (some ⟨A, 0, none⟩), .pointer (some ⟨B, 0, none⟩)]] w fun e w' => (∃ r : Int, e = .returned (.int .i64 r) ∧ (r = -1 ∧ (∀ j (h : j < xs.length), relP number node xs[j] = false) ∨ ∃ k : Nat, r = k ∧ FirstAt (relP number node) xs 0 k)) ∧ Below w.heap.size w w' := by
  have hlen := h.2
  obtain ⟨p, cap, b, off, rfl, hcap, hp, hcell⟩ := h.parts
  have HC := Lib.hid hcell; clear hcell
  have HP := Lib.hid hp; clear hp
  have HA := Lib.hid hA; clear hA
  have HB := Lib.hid hB; clear hB
  go_enter Try.func52, Try.ntmps52
  go_wp2
  go_loopw [8] (fun i wr => ∃ (k : Nat), k ≤ xs.length ∧ i = .int .i64 k ∧ Below w.heap.size w wr ∧ Hid (∀ j (h : j < xs.length), j < k → relP number node xs[j] = false))
    (fun i _ => xs.length - (intOf i).toNat)
  case atStart => exact ⟨0, Nat.zero_le _, rfl, Below.refl _ _, Lib.hid fun j _ h => absurd h (by omega)⟩
  case round =>
    obtain ⟨k, hk, rfl, hb, HF⟩ := hrel
    by_cases hlt : k < xs.length
    · obtain rfl := HP.out (by omega)
      obtain ⟨c1, c2, c3, c4⟩ := HC.out k hlt
      have c1 := cell_on hb c1
      have c2 := cell_on hb c2
      have c3 := cell_on hb c3
      have c4 := cell_on hb c4
      have HL := Lib.hid (cl2_any number node ⟨xs[k].t, xs[k].n, xs[k].k, xs[k].m⟩ A B wr (cell_on hb HA.out) (cell_on hb HB.out))
      cases hx : relP number node xs[k]
      · rw [show relP number node ⟨xs[k].t, xs[k].n, xs[k].k, xs[k].m⟩ = false from hx] at HL
        have HX := Lib.hid hx; clear hx
        go_wp2_with (go_at_call 54; refine HL.out.mono ?_; rintro e w1 ⟨rfl, hb1⟩)
        go_roundw
        case rel => exact ⟨k + 1, by omega, by go_num, hb.trans (hb1.mono hb.size), Lib.hid fun j h hj => (by
          by_cases he : j = k
          · subst he; exact HX.out
          · exact HF.out j h (by omega))⟩
        case measure => simp [intOf]; omega
      · rw [show relP number node ⟨xs[k].t, xs[k].n, xs[k].k, xs[k].m⟩ = true from hx] at HL
        have HX := Lib.hid hx; clear hx
        go_wp2_with (go_at_call 54; refine HL.out.mono ?_; rintro e w1 ⟨rfl, hb1⟩)
        go_ret
        exact ⟨⟨k, rfl, .inr ⟨k, rfl, Nat.zero_le _, hlt, HX.out, fun j hj _ => HF.out j (by omega) hj⟩⟩, hb.trans (hb1.mono hb.size)⟩
    · go_wp2
      go_ret
      exact ⟨⟨-1, rfl, .inl ⟨rfl, fun j h => HF.out j h (by omega)⟩⟩, hb⟩

set_option maxHeartbeats 1000000 in
theorem first1_any (number node : Int) (f : Nat) (v : Value) (xs : List Ev) (w : World) (h : RdEv w v xs) (hf : f ≤ xs.length) :
    Calls Try.prog 56 #[v, .int .i64 f, .int .i64 node, .int .i64 1, .int .i64 number] w fun e w' => (∃ r : Int, e = .returned (.int .i64 r) ∧ (r = -1 ∧ (∀ j (h : j < xs.length), f ≤ j → sentP number node xs[j] = false) ∨ ∃ k : Nat, r = k ∧ FirstAt (sentP number node) xs f k)) ∧ w = w' := by
  have hlen := h.2
  obtain ⟨p, cap, b, off, rfl, hcap, hp, hcell⟩ := h.parts
  have HC := Lib.hid hcell; clear hcell
  have HP := Lib.hid hp; clear hp h
  go_enter Try.func56, Try.ntmps56
  go_wp2
  go_loopw [11] (fun i wr => ∃ (k : Nat), f ≤ k ∧ k ≤ xs.length ∧ i = .int .i64 k ∧ wr = w ∧ Hid (∀ j (h : j < xs.length), f ≤ j → j < k → sentP number node xs[j] = false))
    (fun i _ => xs.length - (intOf i).toNat)
  case atStart => exact ⟨f, Nat.le_refl _, hf, rfl, rfl, Lib.hid fun j _ h1 h2 => absurd h2 (by omega)⟩
  case round =>
    obtain ⟨k, hfk, hk, rfl, rfl, HF⟩ := hrel
    by_cases hlt : k < xs.length
    · obtain rfl := HP.out (by omega)
      obtain ⟨c1, c2, c3, c4⟩ := HC.out k hlt
      have hnext : sentP number node xs[k] = false → ∀ j (h : j < xs.length), f ≤ j → j < k + 1 → sentP number node xs[j] = false := fun hx j h h1 h2 => by
        by_cases he : j = k
        · subst he; exact hx
        · exact HF.out j h h1 (by omega)
      have HN := Lib.hid hnext; clear hnext
      by_cases h3 : xs[k].n = node
      · by_cases h1 : xs[k].k = 1
        · by_cases h2 : xs[k].m = number
          · have HX : Hid (sentP number node xs[k] = true) := Lib.hid (by simp [sentP, h1, h2, h3])
            go_wp2
            go_ret
            exact ⟨⟨k, rfl, .inr ⟨k, rfl, hfk, hlt, HX.out, fun j hj h1 => HF.out j (by omega) h1 hj⟩⟩, rfl⟩
          · have HX : Hid (sentP number node xs[k] = false) := Lib.hid (by simp [sentP, h2])
            have h2' : (xs[k].m == number) = false := beq_eq_false_iff_ne.2 h2
            go_wp2
            go_roundw
            case rel => exact ⟨k + 1, by omega, by omega, by go_num, by first | rfl | trivial, Lib.hid (HN.out HX.out)⟩
            case measure => simp [intOf]; omega
        · have HX : Hid (sentP number node xs[k] = false) := Lib.hid (by simp [sentP, h1])
          have h1' : (xs[k].k == 1) = false := beq_eq_false_iff_ne.2 h1
          go_wp2
          go_roundw
          case rel => exact ⟨k + 1, by omega, by omega, by go_num, by first | rfl | trivial, Lib.hid (HN.out HX.out)⟩
          case measure => simp [intOf]; omega
      · have HX : Hid (sentP number node xs[k] = false) := Lib.hid (by simp [sentP, h3])
        have h3' : (xs[k].n == node) = false := beq_eq_false_iff_ne.2 h3
        go_wp2
        go_roundw
        case rel => exact ⟨k + 1, by omega, by omega, by go_num, by first | rfl | trivial, Lib.hid (HN.out HX.out)⟩
        case measure => simp [intOf]; omega
    · go_wp2
      go_ret
      exact ⟨⟨-1, rfl, .inl ⟨rfl, fun j h h1 => HF.out j h h1 (by omega)⟩⟩, rfl⟩

set_option maxHeartbeats 1000000 in
theorem first2_any (number node : Int) (f : Nat) (v : Value) (xs : List Ev) (w : World) (h : RdEv w v xs) (hf : f ≤ xs.length) :
    Calls Try.prog 56 #[v, .int .i64 f, .int .i64 node, .int .i64 4, .int .i64 number] w fun e w' => (∃ r : Int, e = .returned (.int .i64 r) ∧ (r = -1 ∧ (∀ j (h : j < xs.length), f ≤ j → relP number node xs[j] = false) ∨ ∃ k : Nat, r = k ∧ FirstAt (relP number node) xs f k)) ∧ w = w' := by
  have hlen := h.2
  obtain ⟨p, cap, b, off, rfl, hcap, hp, hcell⟩ := h.parts
  have HC := Lib.hid hcell; clear hcell
  have HP := Lib.hid hp; clear hp h
  go_enter Try.func56, Try.ntmps56
  go_wp2
  go_loopw [11] (fun i wr => ∃ (k : Nat), f ≤ k ∧ k ≤ xs.length ∧ i = .int .i64 k ∧ wr = w ∧ Hid (∀ j (h : j < xs.length), f ≤ j → j < k → relP number node xs[j] = false))
    (fun i _ => xs.length - (intOf i).toNat)
  case atStart => exact ⟨f, Nat.le_refl _, hf, rfl, rfl, Lib.hid fun j _ h1 h2 => absurd h2 (by omega)⟩
  case round =>
    obtain ⟨k, hfk, hk, rfl, rfl, HF⟩ := hrel
    by_cases hlt : k < xs.length
    · obtain rfl := HP.out (by omega)
      obtain ⟨c1, c2, c3, c4⟩ := HC.out k hlt
      have hnext : relP number node xs[k] = false → ∀ j (h : j < xs.length), f ≤ j → j < k + 1 → relP number node xs[j] = false := fun hx j h h1 h2 => by
        by_cases he : j = k
        · subst he; exact hx
        · exact HF.out j h h1 (by omega)
      have HN := Lib.hid hnext; clear hnext
      by_cases h3 : xs[k].n = node
      · by_cases h1 : xs[k].k = 4
        · by_cases h2 : xs[k].m = number
          · have HX : Hid (relP number node xs[k] = true) := Lib.hid (by simp [relP, h1, h2, h3])
            go_wp2
            go_ret
            exact ⟨⟨k, rfl, .inr ⟨k, rfl, hfk, hlt, HX.out, fun j hj h1 => HF.out j (by omega) h1 hj⟩⟩, rfl⟩
          · have HX : Hid (relP number node xs[k] = false) := Lib.hid (by simp [relP, h2])
            have h2' : (xs[k].m == number) = false := beq_eq_false_iff_ne.2 h2
            go_wp2
            go_roundw
            case rel => exact ⟨k + 1, by omega, by omega, by go_num, by first | rfl | trivial, Lib.hid (HN.out HX.out)⟩
            case measure => simp [intOf]; omega
        · have HX : Hid (relP number node xs[k] = false) := Lib.hid (by simp [relP, h1])
          have h1' : (xs[k].k == 4) = false := beq_eq_false_iff_ne.2 h1
          go_wp2
          go_roundw
          case rel => exact ⟨k + 1, by omega, by omega, by go_num, by first | rfl | trivial, Lib.hid (HN.out HX.out)⟩
          case measure => simp [intOf]; omega
      · have HX : Hid (relP number node xs[k] = false) := Lib.hid (by simp [relP, h3])
        have h3' : (xs[k].n == node) = false := beq_eq_false_iff_ne.2 h3
        go_wp2
        go_roundw
        case rel => exact ⟨k + 1, by omega, by omega, by go_num, by first | rfl | trivial, Lib.hid (HN.out HX.out)⟩
        case measure => simp [intOf]; omega
    · go_wp2
      go_ret
      exact ⟨⟨-1, rfl, .inl ⟨rfl, fun j h h1 => HF.out j h h1 (by omega)⟩⟩, rfl⟩
end Go.Proofs.Ytgmccafmopgjaaa
