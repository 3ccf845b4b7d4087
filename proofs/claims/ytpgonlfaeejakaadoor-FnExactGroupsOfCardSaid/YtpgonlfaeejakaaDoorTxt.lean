/- The text that the harness marks strings with (markText), and its contract. Condition: numbers of at most 2^62. -/
import Derived.Test.YtpgonlfaeejakaaDoorMem
import Derived.Laws.IdiomStrings
import Derived.WalkLawsBesides
import Derived.WalkSpells
import Derived.Handy
namespace Go.Proofs.YtpgonlfaeejakaaDoor
open Go.RowKit

theorem own_has {w : World} {base : Nat} {e : TypeId} {sz n cap g : Nat} {cs : List Value} (h : w.ownsRow base e sz (.slice (some ⟨g, 0, none⟩) n cap) n cs) (i : Nat) (hi : i < n * sz) : ∃ u, w.cell? ⟨g, i, none⟩ = some u :=
  ⟨_, (h.cellAt i hi).trans (List.getElem?_eq_getElem (by rw [h.1]; exact hi))⟩
theorem grown_of_below {w w' : World} {row : Option Nat} (h : Below w.heap.size w w') : w.grownBy w' row := ⟨h.os, h.tape, h.output, h.size, fun i hi _ => h.block i hi⟩
theorem str_same {a b : ByteArray} (h : a = b) : Ending.returned (.string a) = .returned (.string b) := by rw [h]
def dg (k : Nat) : UInt8 := UInt8.ofNat (48 + k % 10)
theorem dg_nat (k : Nat) : ((dg k).toNat : Int) = 48 + (k : Int) % 10 := by
  unfold dg
  rw [UInt8.toNat_ofNat']
  omega
/-- the digits of k ahead of l; f: more rounds than k has digits -/
def mkD : Nat → Nat → List UInt8 → List UInt8
  | 0, _, l => l
  | f + 1, k, l => if k = 0 then l else mkD f (k / 10) (dg k :: l)
def mkText (k : Int) : ByteArray := if k ≤ 0 then ⟨#[109, 48]⟩ else ⟨(109 :: mkD k.toNat k.toNat []).toArray⟩
theorem mkD_zero (f : Nat) (l : List UInt8) : mkD f 0 l = l := by cases f <;> simp [mkD]
theorem mkD_step (f k : Nat) (l : List UInt8) (h : 0 < k) : mkD (f + 1) k l = mkD f (k / 10) (dg k :: l) := by
  rw [mkD, if_neg (by omega)]
theorem mkD_length (f k : Nat) (l : List UInt8) : (mkD f k l).length ≤ l.length + f := by
  induction f generalizing k l with
  | zero => simp [mkD]
  | succ f ih =>
    unfold mkD
    split
    · omega
    · have := ih (k / 10) (dg k :: l)
      simp at this
      omega
theorem mkText_size (k : Int) (h : k ≤ 4611686018427387904) : (mkText k).size ≤ 9223372036854775807 := by
  unfold mkText
  split
  · simp [ByteArray.size]
  · have := mkD_length k.toNat k.toNat []
    simp [ByteArray.size] at this ⊢
    omega
set_option maxRecDepth 100000 in
set_option maxHeartbeats 400000 in
theorem markText_any (k : Int) (w : World) (h : k ≤ 4611686018427387904) :
    Calls Tryd.prog 25 #[.int .i64 k] w fun e w' => e = .returned (.string (mkText k)) ∧ Below w.heap.size w w' := by
  by_cases hk : k ≤ 0
  · go_enter Tryd.func25, Tryd.ntmps25
    go_wp2
    go_ret
    exact ⟨str_same (by rw [mkText, if_pos hk]), Below.refl _ _⟩
  · go_enter Tryd.func25, Tryd.ntmps25
    go_wp2
    go_loopw [0, 3] (fun a o wr => ∃ (f q : Nat) (l : List UInt8), q ≤ f ∧ a = .int .i64 q ∧ o = .string ⟨l.toArray⟩ ∧ (l.length : Int) + q ≤ k ∧ Hid (mkD f q l = mkD k.toNat k.toNat []) ∧ Below w.heap.size w wr)
      (fun a _ _ => (intOf a).toNat)
    case atStart => exact ⟨k.toNat, k.toNat, [], Nat.le_refl _, by rw [show ((k.toNat : Nat) : Int) = k from by omega], rfl, by simp; omega, Lib.hid rfl, Below.refl _ _⟩
    case round =>
      obtain ⟨f, q, l, hf, rfl, rfl, hq, HL, hb⟩ := hrel
      by_cases h0 : 0 < q
      · obtain ⟨f, rfl⟩ : ∃ f', f = f' + 1 := ⟨f - 1, by omega⟩
        have HS := Lib.hid (mkD_step f q l h0)
        have hcv : (convert 53 9 (.slice (some ⟨wr.heap.size, 0, none⟩) 1 1)).run Tryd.prog (wr.alloc (.cells #[.int .u8 (48 + (q : Int) % 10)] 5)) = .ok (.string ⟨[dg q].toArray⟩) (wr.alloc (.cells #[.int .u8 (48 + (q : Int) % 10)] 5)) :=
          run_convert_bytes_back (P := Tryd.prog) _ 53 9 5 ⟨wr.heap.size, 0, none⟩ 1 [dg q] Tryd.underlying53 Tryd.underlying5 Tryd.underlying9 (fun j hj => by
            obtain rfl : j = 0 := by simpa using hj
            rw [cells_new wr #[.int .u8 (48 + (q : Int) % 10)] 5 0 _ rfl]
            simp only [List.getElem_cons_zero, dg_nat])
        go_wp2
        go_roundw
        case rel => exact ⟨f, q / 10, dg q :: l, by omega, by go_num, by rw [show (#[dg q] : Array UInt8) = [dg q].toArray from rfl, bytes_append]; rfl, by simp; omega, Lib.hid (by rw [← HL.out, HS.out]), by have := hb.size; go_grown⟩
        case measure => simp [intOf]; omega
      · have hq0 : q = 0 := by omega
        subst hq0
        have HV : Hid (l = mkD k.toNat k.toNat []) := Lib.hid (by rw [← HL.out, mkD_zero])
        go_wp2
        go_ret
        refine ⟨str_same ?_, hb⟩
        rw [mkText, if_neg (by omega), ← HV.out]
        exact bytes_append [109] l
end Go.Proofs.YtpgonlfaeejakaaDoor
