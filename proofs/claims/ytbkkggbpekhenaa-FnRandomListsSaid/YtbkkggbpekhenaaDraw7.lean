/- Contracts of ShuffleList, program and reference alike: for every list of at most 2^30 numbers. -/
import Derived.Test.YtbkkggbpekhenaaDraw3
import Derived.Test.YtbkkggbpekhenaaIntC
import Derived.BigRegion
namespace Go.Proofs.Ytbkkggbpekhenaa
open Go.RowKit

/-- exchange two places -/
def swapL (L : List Int) (i k : Nat) : List Int := (L.set i (L.getD k 0)).set k (L.getD i 0)
/-- from place j - 1 down to place 1: draw and exchange -/
def shufL : Nat → Int → List Int → Int × List Int
  | 0, s, L => (s, L)
  | i + 1, s, L => if i = 0 then (s, L) else shufL i (nextV s) (swapL L i (drawV s ((i : Int) + 1)).toNat)
theorem shufL_stop (s : Int) (L : List Int) (j : Nat) (h : j ≤ 1) : shufL j s L = (s, L) := by
  match j, h with
  | 0, _ => rfl
  | 1, _ => simp [shufL]
theorem shufL_step (s : Int) (L : List Int) (i k : Nat) (h : 0 < i) (hk : drawV s ((i : Int) + 1) = (k : Int)) : shufL (i + 1) s L = shufL i (nextV s) (swapL L i k) := by
  rw [shufL, if_neg (by omega), hk, Int.toNat_natCast]
theorem swapL_length (L : List Int) (i k : Nat) : (swapL L i k).length = L.length := by simp [swapL]
def shB (s : Int) (xs : List Int) : Bool := inR s 1 2147483646 && decide (xs.length ≤ 50)
def shS (s : Int) (xs : List Int) : Int := if shB s xs = true then (shufL xs.length s xs).1 else 0
def shL (s : Int) (xs : List Int) : List Int := if shB s xs = true then (shufL xs.length s xs).2 else []
theorem shufL_length (i : Nat) (s : Int) (L : List Int) : (shufL i s L).2.length = L.length := by
  induction i generalizing s L with
  | zero => rfl
  | succ i ih =>
    rw [shufL]
    split
    · rfl
    · rw [ih, swapL_length]
theorem shL_length (s : Int) (xs : List Int) : (shL s xs).length ≤ 1073741824 := by
  unfold shL
  split
  · rename_i h
    simp only [shB, Bool.and_eq_true, decide_eq_true_eq] at h
    rw [shufL_length]; omega
  · simp
theorem map_swap (L : List Int) (i k : Nat) (hi : i < L.length) (hk : k < L.length) :
    (swapL L i k).map (Value.int .i64) = ((L.map (Value.int .i64)).set i (.int .i64 L[k])).set k (.int .i64 L[i]) := by
  simp [swapL, List.map_set, List.getD_eq_getElem?_getD, hi, hk]

set_option maxHeartbeats 4000000 in
theorem implShuffle_any (s : Int) (v : Value) (xs : List Int) (w : World) (h : RdI w v xs) :
    Calls Try.prog 12 #[.int .i64 s, v] w fun e w' => ∃ v', e = .returned (.tuple #[.int .i64 (shS s xs), v', .bool (shB s xs)]) ∧ OwI w.heap.size w' v' (shL s xs) ∧ Below w.heap.size w w' := by
  have hlen := h.2
  obtain ⟨p, cap, b, off, hv, hcap, hp, hcell⟩ := h.parts
  have HC := Lib.hid hcell; clear hcell
  have HP := Lib.hid hp; clear hp
  cases h1 : inR s 1 2147483646
  · have hB : shB s xs = false := by simp [shB, h1]
    subst hv
    go_enter Try.func12, Try.ntmps12
    go_wp2_with ((go_at_call 35; refine (isState_any _ _).mono ?_; rintro e w' ⟨rfl, rfl⟩))
    go_ret3
    exact ⟨_, by simp [shS, hB]; rfl, by simp [shL, hB]; exact ⟨World.ownsRow_nil _ _ _ _, by simp⟩, Below.refl _ _⟩
  · by_cases h2 : 50 < xs.length
    · have hB : shB s xs = false := by simp [shB, h1]; omega
      subst hv
      go_enter Try.func12, Try.ntmps12
      go_wp2_with ((go_at_call 35; refine (isState_any _ _).mono ?_; rintro e w' ⟨rfl, rfl⟩))
      go_ret3
      exact ⟨_, by simp [shS, hB]; rfl, by simp [shL, hB]; exact ⟨World.ownsRow_nil _ _ _ _, by simp⟩, Below.refl _ _⟩
    · have hB : shB s xs = true := by simp [shB, h1]; omega
      obtain ⟨a1, a2⟩ := inR_true.1 h1
      have HB := Lib.hid hB; clear hB
      have H := Lib.hid h; clear h
      subst hv
      go_enter Try.func12, Try.ntmps12
      go_wp2_with ((go_at_call 35; refine (isState_any _ _).mono ?_; rintro e w' ⟨rfl, rfl⟩))
      refine (cloneInt_any _ _ _ H.out).mono ?_
      rintro e w1 ⟨v1, rfl, hown, hb⟩
      obtain ⟨p1, cap1, g, rfl, hcap1, hp1⟩ := own_shape hown.1
      have HP1 := Lib.hid hp1; clear hp1
      have HO := Lib.hid hown.1; clear hown
      go_wp2
      go_loopw [0, 8, 9] (fun a i _ wr => ∃ (j : Nat) (st : Int) (L : List Int), j ≤ xs.length ∧ i = .int .i64 (j - 1) ∧ a = .int .i64 st ∧ 0 ≤ st ∧ st < 2147483647 ∧ Hid (L.length = xs.length) ∧
          wr.ownsRow w.heap.size 3 1 (.slice p1 xs.length cap1) xs.length (L.map (Value.int .i64)) ∧ Hid (shufL j st L = shufL xs.length s xs) ∧ Below w.heap.size w wr)
        (fun _ i _ _ => (intOf i).toNat)
      case atStart => exact ⟨xs.length, s, xs, Nat.le_refl _, rfl, rfl, by omega, by omega, Lib.hid rfl, HO.out, Lib.hid rfl, hb⟩
      case round =>
        obtain ⟨j, st, L, hj, rfl, rfl, r1, r2, HLn, hown, HS, hbw⟩ := hrel
        by_cases hj1 : 1 < j
        · obtain ⟨i, rfl⟩ : ∃ i, j = i + 1 := ⟨j - 1, by omega⟩
          rw [show (((i + 1 : Nat) : Int) - 1) = (i : Int) from by omega]
          obtain ⟨d1, d2⟩ := drawV_range st ((i : Int) + 1) (by omega) (by omega)
          obtain ⟨k, hk⟩ := Int.eq_ofNat_of_zero_le d1
          rw [hk] at d1 d2
          obtain ⟨hpe, hge⟩ := HP1.out (by omega)
          subst hpe
          have hiL : i < L.length := by have := HLn.out; omega
          have hkL : k < L.length := by have := HLn.out; omega
          have c1 : wr.cell? ⟨g, i, none⟩ = some (.int .i64 L[i]) := by rw [hown.cellAt i (by omega)]; simp [hiL]
          have c2 : wr.cell? ⟨g, k, none⟩ = some (.int .i64 L[k]) := by rw [hown.cellAt k (by omega)]; simp [hkL]
          have f1 := hown.frozenAt i
          have f2 := hown.frozenAt k
          have hst := hown.stored i (.int .i64 L[k])
          have hst2 := hst.1.stored k (.int .i64 L[i])
          have c3 : ∃ y, (wr.setCell ⟨g, i, none⟩ (.int .i64 L[k])).cell? ⟨g, k, none⟩ = some y := by
            rw [hst.1.cellAt k (by omega)]
            exact ⟨_, List.getElem?_eq_getElem (by simp; omega)⟩
          obtain ⟨y, c3⟩ := c3
          have f3 := hst.1.frozenAt k
          have HST := Lib.hid hst; clear hst
          have HST2 := Lib.hid hst2; clear hst2
          go_wp2_with (go_at_call 37; refine (draw_any _ _ _ (by omega) (by omega) (by omega) (by omega)).mono ?_; rintro e w' ⟨rfl, rfl⟩)
          go_region
          go_wp2
          go_roundw
          case rel =>
            refine ⟨i, nextV st, swapL L i k, by omega, by go_num, rfl, (nextV_range st).1, (nextV_range st).2, Lib.hid (by rw [swapL_length, HLn.out]), ?_, Lib.hid (by rw [← shufL_step st L i k (by omega) hk, HS.out]), ((hbw.grown HST.out.2 hbw.size (fun j hj => by cases hj; exact hge)).grown HST2.out.2 (by simpa using hbw.size) (fun j hj => by cases hj; exact hge)).drew⟩
            rw [map_swap L i k hiL hkL]
            exact HST2.out.1.drew
          case measure => simp [intOf]; omega
        · have he : shufL xs.length s xs = (st, L) := by rw [← HS.out, shufL_stop st L j (by omega)]
          have hL := HLn.out
          have HE := Lib.hid he; clear he
          have HL := Lib.hid hL; clear hL
          have hw2 : OwI w.heap.size wr (.slice p1 xs.length cap1) (shL s xs) := by
            simp only [shL, HB.out, if_true, HE.out]
            exact ⟨by rw [HL.out]; exact hown, by rw [HL.out]; exact hlen⟩
          go_wp2
          go_ret3
          exact ⟨_, by simp [shS, HB.out, HE.out], hw2, hbw⟩

set_option maxHeartbeats 4000000 in
theorem specShuffle_any (s : Int) (v : Value) (xs : List Int) (w : World) (h : RdI w v xs) :
    Calls Try.prog 13 #[.int .i64 s, v] w fun e w' => ∃ v', e = .returned (.tuple #[.int .i64 (shS s xs), v', .bool (shB s xs)]) ∧ OwI w.heap.size w' v' (shL s xs) ∧ Below w.heap.size w w' := by
  have hlen := h.2
  obtain ⟨p, cap, b, off, hv, hcap, hp, hcell⟩ := h.parts
  have HC := Lib.hid hcell; clear hcell
  have HP := Lib.hid hp; clear hp
  cases h1 : inR s 1 2147483646
  · have hB : shB s xs = false := by simp [shB, h1]
    subst hv
    go_enter Try.func13, Try.ntmps13
    go_wp2_with ((go_at_call 26; refine (l20State_any _ _).mono ?_; rintro e w' ⟨rfl, rfl⟩))
    go_ret3
    exact ⟨_, by simp [shS, hB]; rfl, by simp [shL, hB]; exact ⟨World.ownsRow_lit w #[] 0 (Nat.le_refl _) (Nat.zero_le _) rfl, by simp⟩, below_alloc1 _ _⟩
  · by_cases h2 : 50 < xs.length
    · have hB : shB s xs = false := by simp [shB, h1]; omega
      subst hv
      go_enter Try.func13, Try.ntmps13
      go_wp2_with ((go_at_call 26; refine (l20State_any _ _).mono ?_; rintro e w' ⟨rfl, rfl⟩))
      go_ret3
      exact ⟨_, by simp [shS, hB]; rfl, by simp [shL, hB]; exact ⟨World.ownsRow_lit w #[] 0 (Nat.le_refl _) (Nat.zero_le _) rfl, by simp⟩, below_alloc1 _ _⟩
    · have hB : shB s xs = true := by simp [shB, h1]; omega
      obtain ⟨a1, a2⟩ := inR_true.1 h1
      have HB := Lib.hid hB; clear hB
      have H := Lib.hid h; clear h
      subst hv
      go_enter Try.func13, Try.ntmps13
      go_wp2_with ((go_at_call 26; refine (l20State_any _ _).mono ?_; rintro e w' ⟨rfl, rfl⟩))
      refine (l1Own_any _ _ _ H.out).mono ?_
      rintro e w1 ⟨v1, rfl, hown, hb⟩
      obtain ⟨p1, cap1, g, rfl, hcap1, hp1⟩ := own_shape hown.1
      have HP1 := Lib.hid hp1; clear hp1
      have HO := Lib.hid hown.1; clear hown
      go_wp2
      go_loopw [0, 8, 9, 10, 11] (fun a i _ _ _ wr => ∃ (j : Nat) (st : Int) (L : List Int), j ≤ xs.length ∧ i = .int .i64 (j - 1) ∧ a = .int .i64 st ∧ 0 ≤ st ∧ st < 2147483647 ∧ Hid (L.length = xs.length) ∧
          wr.ownsRow w.heap.size 3 1 (.slice p1 xs.length cap1) xs.length (L.map (Value.int .i64)) ∧ Hid (shufL j st L = shufL xs.length s xs) ∧ Below w.heap.size w wr)
        (fun _ i _ _ _ _ => (intOf i).toNat)
      case atStart => exact ⟨xs.length, s, xs, Nat.le_refl _, rfl, rfl, by omega, by omega, Lib.hid rfl, HO.out, Lib.hid rfl, hb⟩
      case round =>
        obtain ⟨j, st, L, hj, rfl, rfl, r1, r2, HLn, hown, HS, hbw⟩ := hrel
        by_cases hj1 : 1 < j
        · obtain ⟨i, rfl⟩ : ∃ i, j = i + 1 := ⟨j - 1, by omega⟩
          rw [show (((i + 1 : Nat) : Int) - 1) = (i : Int) from by omega]
          obtain ⟨d1, d2⟩ := drawV_range st ((i : Int) + 1) (by omega) (by omega)
          obtain ⟨k, hk⟩ := Int.eq_ofNat_of_zero_le d1
          rw [hk] at d1 d2
          obtain ⟨hpe, hge⟩ := HP1.out (by omega)
          subst hpe
          have hiL : i < L.length := by have := HLn.out; omega
          have hkL : k < L.length := by have := HLn.out; omega
          have c1 : wr.cell? ⟨g, i, none⟩ = some (.int .i64 L[i]) := by rw [hown.cellAt i (by omega)]; simp [hiL]
          have c2 : wr.cell? ⟨g, k, none⟩ = some (.int .i64 L[k]) := by rw [hown.cellAt k (by omega)]; simp [hkL]
          have f1 := hown.frozenAt i
          have f2 := hown.frozenAt k
          have hst := hown.stored i (.int .i64 L[k])
          have hst2 := hst.1.stored k (.int .i64 L[i])
          have c3 : ∃ y, (wr.setCell ⟨g, i, none⟩ (.int .i64 L[k])).cell? ⟨g, k, none⟩ = some y := by
            rw [hst.1.cellAt k (by omega)]
            exact ⟨_, List.getElem?_eq_getElem (by simp; omega)⟩
          obtain ⟨y, c3⟩ := c3
          have f3 := hst.1.frozenAt k
          have HST := Lib.hid hst; clear hst
          have HST2 := Lib.hid hst2; clear hst2
          go_wp2_with (go_at_call 39; refine (l20Draw_any _ _ _ (by omega) (by omega) (by omega) (by omega)).mono ?_; rintro e w' ⟨rfl, rfl⟩)
          go_roundw
          case rel =>
            refine ⟨i, nextV st, swapL L i k, by omega, by go_num, rfl, (nextV_range st).1, (nextV_range st).2, Lib.hid (by rw [swapL_length, HLn.out]), ?_, Lib.hid (by rw [← shufL_step st L i k (by omega) hk, HS.out]), (hbw.grown HST.out.2 hbw.size (fun j hj => by cases hj; exact hge)).grown HST2.out.2 (by simpa using hbw.size) (fun j hj => by cases hj; exact hge)⟩
            rw [map_swap L i k hiL hkL]
            exact HST2.out.1
          case measure => simp [intOf]; omega
        · have he : shufL xs.length s xs = (st, L) := by rw [← HS.out, shufL_stop st L j (by omega)]
          have hL := HLn.out
          have HE := Lib.hid he; clear he
          have HL := Lib.hid hL; clear hL
          have hw2 : OwI w.heap.size wr (.slice p1 xs.length cap1) (shL s xs) := by
            simp only [shL, HB.out, if_true, HE.out]
            exact ⟨by rw [HL.out]; exact hown, by rw [HL.out]; exact hlen⟩
          go_wp2
          go_ret3
          exact ⟨_, by simp [shS, HB.out, HE.out], hw2, hbw⟩
end Go.Proofs.Ytbkkggbpekhenaa
