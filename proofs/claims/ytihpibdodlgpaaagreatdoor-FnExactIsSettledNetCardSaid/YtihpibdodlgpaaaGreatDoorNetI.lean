/- Lists of numbers in networks: whether a number is there, faces in ascending order: the contracts by relations. -/
import Derived.Test.YtihpibdodlgpaaaGreatDoorGr1
import Derived.Test.YtihpibdodlgpaaaGreatDoorNetN
namespace Go.Proofs.YtihpibdodlgpaaaGreatDoor
open Go.RowKit

theorem kI_flat : ∀ {cs : List (List Value)} {xs : List Int}, cs.length = xs.length → (∀ (k : Nat) (c : List Value) (x : Int), cs[k]? = some c → xs[k]? = some x → c = [.int .i64 x]) → cs.flatten = xs.map (Value.int .i64)
  | [], [], _, _ => rfl
  | [], _ :: _, h, _ => by simp at h
  | _ :: _, [], h, _ => by simp at h
  | c :: cs, x :: xs, h, hc => by
    have h0 := hc 0 c x rfl rfl
    have h1 := kI_flat (cs := cs) (xs := xs) (by simpa using h) (fun k c' x' h1 h2 => hc (k + 1) c' x' (by simpa using h1) (by simpa using h2))
    rw [List.flatten_cons, h0, h1]; rfl
theorem rdI_of {B : Nat} {w : World} {v : Value} {xs : List Int} (h : kI.At B w v xs) (hn : xs.length ≤ 1048576) : RdI w v xs := by
  obtain ⟨cs, h1, _, h3, h5⟩ := h
  have e := kI_flat h3 h5
  rw [e] at h1
  exact ⟨h1, by omega⟩
def hasB (xs : List Int) (n : Int) : Bool := xs.any (fun x => decide (x = n))
theorem hasB_at {xs : List Int} {n : Int} (k : Nat) (h : k < xs.length) (he : xs[k] = n) : hasB xs n = true := by
  rw [hasB, List.any_eq_true]
  exact ⟨_, List.getElem_mem h, decide_eq_true he⟩
theorem hasB_no {xs : List Int} {n : Int} (h : ∀ k (h : k < xs.length), xs[k] ≠ n) : hasB xs n = false := by
  cases hb : hasB xs n with
  | false => rfl
  | true =>
    rw [hasB, List.any_eq_true] at hb
    obtain ⟨x, hx, he⟩ := hb
    obtain ⟨k, hk, rfl⟩ := List.getElem_of_mem hx
    exact absurd (of_decide_eq_true he) (h k hk)
set_option maxHeartbeats 1000000 in
theorem indexI_any (v : Value) (xs : List Int) (n : Int) (w : World) (h : RdI w v xs) :
    Calls Tryz.prog 129 #[v, .int .i64 n] w fun e w' => ∃ r : Int, e = .returned (.int .i64 r) ∧ decide (0 ≤ r) = hasB xs n ∧ -1 ≤ r ∧ w = w' := by
  have hlen := h.2
  obtain ⟨p, cap, b, off, rfl, hcap, hp, hcell⟩ := h.parts
  have HC := Lib.hid hcell; clear hcell
  have HP := Lib.hid hp; clear hp h
  go_enter Tryz.func129, Tryz.ntmps129
  go_wp2
  go_loopw [8] (fun i wr => ∃ (k : Nat), k ≤ xs.length ∧ i = .int .i64 k ∧ w = wr ∧ Hid (∀ j (h : j < xs.length), j < k → xs[j] ≠ n)) (fun i _ => xs.length - (intOf i).toNat)
  case atStart => exact ⟨0, Nat.zero_le _, rfl, rfl, Lib.hid fun j _ h => absurd h (by omega)⟩
  case round =>
    obtain ⟨k, hk, rfl, rfl, HF⟩ := hrel
    by_cases hlt : k < xs.length
    · obtain rfl := HP.out (by omega)
      have c1 := HC.out k hlt
      have HY := Lib.hid (fun h => hasB_at (n := n) k hlt h)
      have HN : Hid (xs[k] ≠ n → ∀ j (h : j < xs.length), j < k + 1 → xs[j] ≠ n) := Lib.hid (fun hh j h hj => by
        by_cases he : j = k
        · subst he; exact hh
        · exact HF.out j h (by omega))
      generalize xs[k] = x at *
      by_cases hx : n = x
      · have hx1 : (n == x) = true := by rw [beq_iff_eq]; exact hx
        have HY2 := Lib.hid (HY.out hx.symm)
        clear hx HN HY
        go_wp2
        go_ret
        exact ⟨_, rfl, by rw [HY2.out]; exact decide_eq_true (by omega), by omega, rfl⟩
      · have hx1 : (n == x) = false := by rw [beq_eq_false_iff_ne]; exact hx
        have HN2 := Lib.hid (HN.out (fun e => hx e.symm))
        clear hx HN HY
        go_wp2
        go_roundw
        case rel => exact ⟨k + 1, by omega, by go_num, by first | rfl | trivial, HN2⟩
        case measure => simp [intOf]; omega
    · have HE := Lib.hid (hasB_no (xs := xs) (n := n) fun j hj => HF.out j hj (by omega))
      go_wp2
      go_ret
      exact ⟨_, rfl, by rw [HE.out]; decide, by omega, rfl⟩
theorem containsI_any (v : Value) (xs : List Int) (n : Int) (w : World) (h : RdI w v xs) :
    Calls Tryz.prog 102 #[v, .int .i64 n] w fun e w' => e = .returned (.bool (hasB xs n)) ∧ w = w' := by
  have H := Lib.hid (indexI_any v xs n w h)
  obtain ⟨p, cap, b, off, rfl, _⟩ := h.parts
  clear h
  go_enter Tryz.func102, Tryz.ntmps102
  go_wp2_with fail
  refine H.out.mono ?_
  rintro e w1 ⟨r, rfl, hr, h1, rfl⟩
  go_wp2
  go_ret
  exact ⟨by first | rfl | exact ret_bool hr, rfl⟩

theorem nFaces_any (v : Value) (xs : List Int) (w : World) (h : kI.At 0 w v xs) (hn : xs.length ≤ 1048576) :
    Calls Tryz.prog 123 #[v] w fun e w' => e = .returned (.bool (riB xs)) ∧ w = w' := areFaces_any v xs w (rdI_of h hn)
set_option maxRecDepth 100000 in
theorem sFaces_any (v : Value) (xs : List Int) (w : World) (h : kI.At 0 w v xs) (hn : xs.length ≤ 1048576) :
    Calls Tryz.prog 106 #[v] w fun e w' => e = .returned (.bool (riB xs)) ∧ Below w.heap.size w w' := by
  have H := Lib.hid (l1Rising_any v xs w (rdI_of h hn))
  obtain ⟨p, cap, b, off, rfl, _, _, _⟩ := h.parts
  clear h
  go_enter Tryz.func106, Tryz.ntmps106
  go_wp2_with fail
  refine H.out.mono ?_
  rintro e w1 ⟨rfl, hb⟩
  have HB := Lib.hid (below_eq (B := w.heap.size) hb); clear hb
  go_wp2
  go_ret
  exact ⟨rfl, HB.out⟩
set_option maxRecDepth 100000 in
theorem nLeaf_any (xs : List Int) (n : Int) (v : Value) (w : World) (h : kI.At 0 w v xs) (hn : xs.length ≤ 1048576) :
    Calls Tryz.prog 61 #[.agg #[v], .int .i64 n] w fun e w' => e = .returned (.bool (!hasB xs n)) ∧ Below w.heap.size w w' := by
  have H := Lib.hid (fun w h => containsI_any v xs n w h)
  have HR := Lib.hid (rdI_of h hn)
  obtain ⟨p, cap, b, off, rfl, _, _, _⟩ := h.parts
  clear h
  go_enter Tryz.func61, Tryz.ntmps61
  go_wp2_with fail
  refine (H.out _ (HR.out.below (by go_grown))).mono ?_
  rintro e w1 ⟨rfl, rfl⟩
  go_wp2
  go_ret
  exact ⟨rfl, by go_grown⟩
end Go.Proofs.YtihpibdodlgpaaaGreatDoor
