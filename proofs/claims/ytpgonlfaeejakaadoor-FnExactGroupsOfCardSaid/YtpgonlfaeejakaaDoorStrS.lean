/- Slices of strings: how they read, and contracts of the harness's functions on them: compare (equal ones), mark, look for marks. Condition: at most 2^30 elements. -/
import Derived.Test.YtpgonlfaeejakaaDoorOpenSl
import Derived.Test.YtpgonlfaeejakaaDoorTxt
import Derived.Test.YtpgonlfaeejakaaDoorKeep
import Derived.Deep.RegionHeld3
import Derived.Handy
namespace Go.Proofs.YtpgonlfaeejakaaDoor
open Go.RowKit

theorem infoStr : (Tryd.prog.info? 9).map (fun i => (i.zero, i.size, i.bytes)) = some (some (.string ⟨#[]⟩), 1, 16) := by kernel_rfl
def RdS (w : World) (v : Value) (xs : List ByteArray) : Prop := Rd w v 1 xs.length (xs.map Value.string) ∧ xs.length ≤ 1073741824 ∧ ∀ x ∈ xs, x.size ≤ 9223372036854775807
def OwS (B : Nat) (w : World) (v : Value) (xs : List ByteArray) : Prop := w.ownsRow B 9 1 v xs.length (xs.map Value.string) ∧ xs.length ≤ 1073741824 ∧ ∀ x ∈ xs, x.size ≤ 9223372036854775807
theorem OwS.rd {B : Nat} {w : World} {v : Value} {xs : List ByteArray} (h : OwS B w v xs) : RdS w v xs := ⟨rd_of_own h.1, h.2⟩
theorem RdS.below {w w' : World} {v : Value} {xs : List ByteArray} (h : RdS w v xs) (hb : Below w.heap.size w w') : RdS w' v xs := ⟨h.1.below hb, h.2⟩
theorem OwS.below {B : Nat} {w w' : World} {v : Value} {xs : List ByteArray} (h : OwS B w v xs) (hb : Below w.heap.size w w') : OwS B w' v xs := ⟨own_below h.1 hb, h.2⟩
theorem OwS.base {B B' : Nat} {w : World} {v : Value} {xs : List ByteArray} (h : OwS B w v xs) (hb : B' ≤ B) : OwS B' w v xs := ⟨own_base h.1 hb, h.2⟩
theorem RdS.grown {w w' : World} {v : Value} {xs : List ByteArray} {row : Option Nat} (h : RdS w v xs) (hg : w.grownBy w' row) (hne : v.ownBlock = none ∨ v.ownBlock ≠ row) : RdS w' v xs := ⟨h.1.grown hg hne, h.2⟩
theorem OwS.lt {B : Nat} {w : World} {v : Value} {xs : List ByteArray} (h : OwS B w v xs) : ∀ k, v.ownBlock = some k → B ≤ k ∧ k < w.heap.size := h.1.lt
theorem OwS.grown {B : Nat} {w w' : World} {v : Value} {xs : List ByteArray} {row : Option Nat} (h : OwS B w v xs) (hg : w.grownBy w' row) (hne : v.ownBlock = none ∨ v.ownBlock ≠ row) : OwS B w' v xs := ⟨h.1.kept hg hne, h.2⟩
theorem owS_nil (B : Nat) (w : World) : OwS B w (.slice none 0 0) [] := ⟨World.ownsRow_nil _ _ _ _, by simp, by simp⟩
theorem RdS.parts {w : World} {v : Value} {xs : List ByteArray} (h : RdS w v xs) : ∃ (p : Option Addr) (cap b off : Nat), v = .slice p xs.length cap ∧ xs.length ≤ cap ∧ (0 < xs.length → p = some ⟨b, off, none⟩) ∧
    (∀ k (hk : k < xs.length), w.cell? ⟨b, off + k, none⟩ = some (.string xs[k])) := by
  obtain ⟨⟨hl, p, cap, b, off, hv, hcap, _, hc⟩, _⟩ := h
  refine ⟨p, cap, b, off, hv, hcap, fun h => (hc h).1, fun k hk => ?_⟩
  rw [(hc (by omega)).2 k (by omega)]
  simp [hk]
set_option maxRecDepth 100000 in
set_option maxHeartbeats 1000000 in
theorem eqS_below (v v' : Value) (xs : List ByteArray) (w : World) (h : RdS w v xs) (h' : RdS w v' xs) :
    Calls Tryd.prog 12 #[v, v'] w fun e w' => e = .returned (.bool true) ∧ Below w.heap.size w w' := by
  have hlen := h.2.1
  obtain ⟨p, cap, b, off, rfl, hcap, hp, hcell⟩ := h.parts
  obtain ⟨p', cap', b', off', rfl, hcap', hp', hcell'⟩ := h'.parts
  have HC := Lib.hid hcell; clear hcell
  have HP := Lib.hid hp; clear hp
  have HC' := Lib.hid hcell'; clear hcell'
  have HP' := Lib.hid hp'; clear hp'
  go_enter Tryd.func12, Tryd.ntmps12
  go_wp2
  go_loopw [5] (fun i wr => ∃ (k n : Nat), k ≤ xs.length ∧ i = .int .i64 k ∧ wr = w.drewN n)
    (fun i _ => xs.length - (intOf i).toNat)
  case atStart => exact ⟨0, 0, Nat.zero_le _, rfl, rfl⟩
  case round =>
    obtain ⟨k, n, hk, rfl, rfl⟩ := hrel
    by_cases hlt : k < xs.length
    · obtain rfl := HP.out (by omega)
      obtain rfl := HP'.out (by omega)
      have c1 := HC.out k hlt
      have c2 := HC'.out k hlt
      go_wp2
      go_quiet (fail)
      go_wp2
      go_roundw
      case rel => exact ⟨k + 1, n + nq, by omega, by go_num, by simp⟩
      case measure => simp [intOf]; omega
    · go_wp2
      go_ret
      exact ⟨rfl, below_eq ⟨n, rfl⟩⟩
def marksS (c : Int) : Nat → List ByteArray
  | 0 => []
  | n + 1 => marksS c n ++ [mkText (c + n)]
theorem marksS_length (c : Int) (n : Nat) : (marksS c n).length = n := by
  induction n with
  | zero => rfl
  | succ n ih => simp [marksS, ih]
theorem marksS_get (c : Int) (n j : Nat) (h : j < n) : (marksS c n)[j]'(by rw [marksS_length]; exact h) = mkText (c + j) := by
  induction n with
  | zero => omega
  | succ n ih =>
    simp only [marksS]
    by_cases hj : j < n
    · rw [List.getElem_append_left (by rw [marksS_length]; exact hj)]; exact ih hj
    · have : j = n := by omega
      subst this
      simp [List.getElem_append_right, marksS_length]
theorem marksS_ok (c : Int) (n : Nat) (h1 : c + n ≤ 4611686018427387904) : ∀ x ∈ marksS c n, x.size ≤ 9223372036854775807 := by
  induction n with
  | zero => intro x hx; cases hx
  | succ n ih =>
    intro x hx
    rcases List.mem_append.1 hx with h | h
    · exact ih (by omega) x h
    · rw [List.mem_singleton] at h
      subst h
      exact mkText_size _ (by omega)
set_option maxRecDepth 100000 in
set_option maxHeartbeats 2000000 in
theorem markS_any (v : Value) (xs : List ByteArray) (c : Int) (B : Nat) (w : World) (h : OwS B w v xs) (h0 : 0 ≤ c) (h1 : c ≤ 1152921504606846976) :
    Calls Tryd.prog 14 #[v, .int .i64 c] w fun e w' => e = .returned (.int .i64 (c + xs.length)) ∧ OwS B w' v (marksS c xs.length) ∧ w.grownBy w' v.ownBlock := by
  have hlen := h.2.1
  obtain ⟨p, cap, g, rfl, hcap, hp⟩ := own_shape h.1
  have HP := Lib.hid hp; clear hp
  have HO := Lib.hid h.1; clear h
  go_enter Tryd.func14, Tryd.ntmps14
  go_wp2
  go_loopw [1, 5] (fun a i wr => ∃ (k : Nat) (L : List Value), k ≤ xs.length ∧ i = .int .i64 k ∧ a = .int .i64 (c + k) ∧ wr.ownsRow B 9 1 (.slice p xs.length cap) xs.length L ∧ Hid (L.take k = (marksS c k).map Value.string) ∧ w.grownBy wr (Value.slice p xs.length cap).ownBlock)
    (fun _ i _ => xs.length - (intOf i).toNat)
  case atStart => exact ⟨0, _, Nat.zero_le _, rfl, by simp, HO.out, Lib.hid rfl, World.grownBy.refl _ _⟩
  case round =>
    obtain ⟨k, L, hk, rfl, rfl, hown, HL, hb⟩ := hrel
    by_cases hlt : k < xs.length
    · obtain ⟨rfl, hge⟩ := HP.out (by omega)
      have HLl := Lib.hid hown.1
      go_wp2_with fail
      refine (markText_any (c + k) _ (by omega)).mono ?_
      rintro e v1 ⟨rfl, hbv1⟩
      have ho1 := own_below hown hbv1
      have HBV1 := Lib.hid hbv1; clear hbv1
      obtain ⟨u2, d2⟩ := own_has ho1 k (by omega)
      have f2 := ho1.frozenAt k
      have hs2 := ho1.stored k (.string (mkText (c + k)))
      have HS2 := Lib.hid hs2
      clear hs2
      go_wp2
      go_roundw
      case rel =>
        refine ⟨k + 1, _, by omega, by go_num, by go_num, HS2.out.1, Lib.hid ?_, grown_trans (grown_trans (hb) (grown_of_below HBV1.out)) HS2.out.2⟩
        rw [take_set_succ L k _ (by have := HLl.out; omega), HL.out]
        simp [marksS]
      case measure => simp [intOf]; omega
    · have hkn : k = xs.length := by omega
      have hL : L = (marksS c xs.length).map Value.string := by
        have h1 := HL.out
        have h2 := hown.1
        rwa [List.take_of_length_le (by omega), hkn] at h1
      have HX := Lib.hid hL; clear hL
      have HK := Lib.hid hkn; clear hkn
      go_wp2
      go_ret
      refine ⟨ret_int (by rw [HK.out]), ⟨by rw [← HX.out, marksS_length]; exact hown, by rw [marksS_length]; exact hlen, marksS_ok c xs.length (by omega)⟩, hb⟩
set_option maxRecDepth 100000 in
set_option maxHeartbeats 2000000 in
theorem heldS_any (v : Value) (n : Nat) (c : Int) (w : World) (h : RdS w v (marksS c n)) (h0 : 0 ≤ c) (h1 : c ≤ 1152921504606846976) :
    Calls Tryd.prog 15 #[v, .int .i64 c] w fun e w' => e = .returned (.int .i64 (c + n)) ∧ Below w.heap.size w w' := by
  have hlen := h.2.1
  obtain ⟨p, cap, b, off, rfl, hcap, hp, hcell0⟩ := h.parts
  rw [marksS_length] at *
  have hcell : ∀ k, k < n → w.cell? ⟨b, off + k, none⟩ = some (.string (mkText (c + k))) := fun k hk => by
    rw [hcell0 k (by rw [marksS_length]; exact hk), marksS_get c n k hk]
  clear hcell0
  have HC := Lib.hid hcell; clear hcell
  have HP := Lib.hid hp; clear hp
  go_enter Tryd.func15, Tryd.ntmps15
  go_wp2
  go_loopw [1, 5] (fun a i wr => ∃ (k : Nat), k ≤ n ∧ i = .int .i64 k ∧ a = .int .i64 (c + k) ∧ Below w.heap.size w wr)
    (fun _ i _ => n - (intOf i).toNat)
  case atStart => exact ⟨0, Nat.zero_le _, rfl, by simp, Below.refl _ _⟩
  case round =>
    obtain ⟨k, hk, rfl, rfl, hb⟩ := hrel
    by_cases hlt : k < n
    · obtain rfl := HP.out (by omega)
      have c0 := HC.out k hlt
      have c0 := cell_on hb c0
      go_wp2_with fail
      have hBh := Lib.hid hb
      go_region_held3 (fun w' => Below w.heap.size w w' ∧ w'.cell? ⟨b, off + k, none⟩ = some (.string (mkText (c + k)))) (first | exact keepB1 (by assumption) hbel | exact ⟨hBh.out.drew, by go_keep⟩)
        (first | (go_at_call 25; refine (markText_any (c + k) _ (by omega)).mono ?_; rintro e w' ⟨rfl, hbel⟩))
      go_wp2
      go_roundw
      case rel => exact ⟨k + 1, by omega, by go_num, by go_num, (by assumption : Below w.heap.size w _ ∧ _).1⟩
      case measure => simp [intOf]; omega
    · have hkn : k = n := by omega
      subst hkn
      go_wp2
      go_ret
      exact ⟨rfl, hb⟩
end Go.Proofs.YtpgonlfaeejakaaDoor
