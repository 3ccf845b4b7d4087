/- Contracts: the program's and the reference's SmallestBurst, for all arguments. -/
import Derived.Test.YtgmccafmopgjaaaRate8
import Derived.Test.YtgmccafmopgjaaaLoadMath
namespace Go.Proofs.Ytgmccafmopgjaaa
open Go.RowKit

theorem sbN_bad (n d : Int) (xs : List Ld) (f : Nat) (b : Int) (h : fbB n d b = false) : sbN n d xs (f + 1) b = (0, false) := by rw [sbN, if_pos h]
theorem sbN_hit (n d : Int) (xs : List Ld) (f : Nat) (b : Int) (h : fbB n d b = true) (hl : (fitL (fbK n d b) xs).length = xs.length) : sbN n d xs (f + 1) b = (b, true) := by rw [sbN, if_neg (by simp [h]), if_pos hl]
theorem sbN_next (n d : Int) (xs : List Ld) (f : Nat) (b : Int) (h : fbB n d b = true) (hl : (fitL (fbK n d b) xs).length ≠ xs.length) : sbN n d xs (f + 1) b = sbN n d xs f (b + 1) := by rw [sbN, if_neg (by simp [h]), if_neg hl]

set_option maxRecDepth 100000 in
set_option maxHeartbeats 4000000 in
theorem implSmall_any (nu de : Int) (v : Value) (xs : List Ld) (w : World) (h : RdLd w v xs) :
    Calls Try.prog 27 #[.int .i64 nu, .int .i64 de, v] w fun e w' => e = .returned (.tuple #[.int .i64 (sbV nu de xs).1, .bool (sbV nu de xs).2]) ∧ Below w.heap.size w w' := by
  have hlen := h.2
  have HR := Lib.hid h
  have HT := Lib.hid (areLoads_any v xs w h)
  obtain ⟨p, cap, b, off, rfl, hcap, _⟩ := h.parts
  clear h
  by_cases h0 : xs.length = 0
  · have hV : sbV nu de xs = (0, false) := by rw [sbV, if_neg (fun h => h.2 (List.eq_nil_of_length_eq_zero h0))]
    rw [hV]
    rw [h0] at HT HR hcap ⊢
    clear hV
    go_enter Try.func27, Try.ntmps27
    go_wp2
    go_ret2
    exact ⟨rfl, Below.refl _ _⟩
  have hn0 : (((xs.length : Nat) : Int) == 0) = false := beq_eq_false_iff_ne.2 (by omega)
  cases h1 : lsB xs
  · have hV : sbV nu de xs = (0, false) := by rw [sbV, if_neg (fun h => by rw [h1] at h; cases h.1)]
    rw [hV]
    clear hV
    rw [h1] at HT
    clear h1
    go_enter Try.func27, Try.ntmps27
    go_wp2_with fail
    refine HT.out.mono ?_
    rintro e w1 ⟨rfl, hb⟩
    go_wp2
    go_ret2
    exact ⟨rfl, hb⟩
  have HV : Hid (sbV nu de xs = sbN nu de xs 1000 1) := Lib.hid (by rw [sbV, if_pos ⟨h1, fun e => h0 (by rw [e]; rfl)⟩])
  have hls := (lsB_true.1 h1).1
  rw [h1] at HT
  clear h1
  go_enter Try.func27, Try.ntmps27
  go_wp2_with fail
  refine HT.out.mono ?_
  rintro e w1 ⟨rfl, hb⟩
  have HB := Lib.hid hb; clear hb
  go_wp2
  go_loopw [8] (fun i wr => ∃ n : Nat, n ≤ 1000 ∧ i = .int .i64 (n + 1) ∧ Hid (sbV nu de xs = sbN nu de xs (1000 - n) (n + 1)) ∧ Below w.heap.size w wr) (fun i _ => 1001 - (intOf i).toNat)
  case atStart => exact ⟨0, Nat.zero_le _, rfl, Lib.hid HV.out, HB.out⟩
  case round =>
    clear HB HV
    obtain ⟨n, hn, rfl, HS, hb⟩ := hrel
    have hsz := hb.size
    by_cases hlt : n < 1000
    · obtain ⟨f, hf⟩ : ∃ f, 1000 - n = f + 1 := ⟨999 - n, by omega⟩
      rw [hf] at HS
      have HF := Lib.hid (implFull_any nu de ((n : Int) + 1))
      cases hfb : fbB nu de ((n : Int) + 1)
      · have HS1 := Lib.hid (HS.out.trans (sbN_bad nu de xs f _ hfb))
        rw [hfb] at HF
        clear HS hfb
        generalize fbK nu de ((n : Int) + 1) = K at HF
        obtain ⟨kn, kd, kb, kl, kt⟩ := K
        go_wp2_with fail
        refine (HF.out _).mono ?_
        rintro e w2 ⟨rfl, hb2⟩
        have HB2 := Lib.hid (hb.trans (hb2.mono hb.size)); clear hb hb2
        go_wp2
        go_ret2
        rw [HS1.out]
        exact ⟨rfl, HB2.out.trans (Below.mono (by go_grown) HB2.out.size)⟩
      · have hhit := sbN_hit nu de xs f ((n : Int) + 1) hfb
        have hnext := sbN_next nu de xs f ((n : Int) + 1) hfb
        rw [hfb] at HF
        clear hfb
        have hfl := fitL_length (fbK nu de ((n : Int) + 1)) xs
        generalize fbK nu de ((n : Int) + 1) = K at HF hhit hnext hfl
        have HFt := Lib.hid (fun w h => implFit_any K (.slice p xs.length cap) xs w h)
        generalize fitL K xs = L at *
        obtain ⟨kn, kd, kb, kl, kt⟩ := K
        have HH := Lib.hid hhit; clear hhit
        have HN := Lib.hid hnext; clear hnext
        go_wp2_with fail
        refine (HF.out _).mono ?_
        rintro e w2 ⟨rfl, hb2⟩
        have HB2 := Lib.hid (hb.trans (hb2.mono hb.size)); clear hb hb2
        have hz2 := HB2.out.size
        go_wp2_with fail
        refine (HFt.out _ (HR.out.below (HB2.out.trans (Below.mono (by go_grown) HB2.out.size)))).mono ?_
        rintro e w3 ⟨v3, rfl, hown, hb3⟩
        have HB3 := Lib.hid ((HB2.out.trans (Below.mono (by go_grown) HB2.out.size)).trans (hb3.mono (by simp; omega)) : Below w.heap.size w w3)
        clear hb3
        obtain ⟨p3, cap3, g3, rfl, hcap3, _⟩ := own_shape hown.1
        clear hown
        by_cases he : L.length = xs.length
        · have HS1 := Lib.hid (HS.out.trans (HH.out he))
          have heb : (((L.length : Nat) : Int) == ((xs.length : Nat) : Int)) = true := by simp [he]
          go_wp2
          go_ret2
          rw [HS1.out]
          exact ⟨rfl, HB3.out⟩
        · have HS1 := Lib.hid (HS.out.trans (HN.out he))
          have heb : (((L.length : Nat) : Int) == ((xs.length : Nat) : Int)) = false := beq_eq_false_iff_ne.2 (by omega)
          go_wp2
          go_roundw
          case rel => exact ⟨n + 1, by omega, by go_num, Lib.hid (by rw [HS1.out, show 1000 - (n + 1) = f by omega]; rfl), HB3.out⟩
          case measure => simp [intOf]; omega
    · obtain rfl : n = 1000 := by omega
      have HS1 := Lib.hid HS.out
      clear HS
      go_wp2
      go_ret2
      rw [HS1.out]
      exact ⟨rfl, hb⟩

set_option maxRecDepth 100000 in
set_option maxHeartbeats 4000000 in
theorem specSmall_any (nu de : Int) (v : Value) (xs : List Ld) (w : World) (h : RdLd w v xs) :
    Calls Try.prog 28 #[.int .i64 nu, .int .i64 de, v] w fun e w' => e = .returned (.tuple #[.int .i64 (sbV nu de xs).1, .bool (sbV nu de xs).2]) ∧ Below w.heap.size w w' := by
  have hlen := h.2
  have HR := Lib.hid h
  have HT := Lib.hid (l19List_any v xs w h)
  obtain ⟨p, cap, b, off, rfl, hcap, _⟩ := h.parts
  clear h
  cases h1 : lsB xs
  · have hV : sbV nu de xs = (0, false) := by rw [sbV, if_neg (fun h => by rw [h1] at h; cases h.1)]
    rw [hV]
    clear hV
    rw [h1] at HT
    clear h1
    go_enter Try.func28, Try.ntmps28
    go_wp2_with fail
    refine HT.out.mono ?_
    rintro e w1 ⟨rfl, hb⟩
    go_wp2
    go_ret2
    exact ⟨rfl, hb⟩
  by_cases h0 : xs.length = 0
  · have hV : sbV nu de xs = (0, false) := by rw [sbV, if_neg (fun h => h.2 (List.eq_nil_of_length_eq_zero h0))]
    rw [hV]
    rw [h1] at HT
    rw [h0] at HT HR hcap ⊢
    clear hV h1
    go_enter Try.func28, Try.ntmps28
    go_wp2_with fail
    refine HT.out.mono ?_
    rintro e w1 ⟨rfl, hb⟩
    go_wp2
    go_ret2
    exact ⟨rfl, hb⟩
  have hn0 : (((xs.length : Nat) : Int) == 0) = false := beq_eq_false_iff_ne.2 (by omega)
  have HV : Hid (sbV nu de xs = sbN nu de xs 1000 1) := Lib.hid (by rw [sbV, if_pos ⟨h1, fun e => h0 (by rw [e]; rfl)⟩])
  have hls := (lsB_true.1 h1).1
  rw [h1] at HT
  clear h1
  go_enter Try.func28, Try.ntmps28
  go_wp2_with fail
  refine HT.out.mono ?_
  rintro e w1 ⟨rfl, hb⟩
  have HB := Lib.hid hb; clear hb
  go_wp2
  go_loopw [8] (fun i wr => ∃ n : Nat, n ≤ 1000 ∧ i = .int .i64 (n + 1) ∧ Hid (sbV nu de xs = sbN nu de xs (1000 - n) (n + 1)) ∧ Below w.heap.size w wr) (fun i _ => 1001 - (intOf i).toNat)
  case atStart => exact ⟨0, Nat.zero_le _, rfl, Lib.hid HV.out, HB.out⟩
  case round =>
    clear HB HV
    obtain ⟨n, hn, rfl, HS, hb⟩ := hrel
    have hsz := hb.size
    by_cases hlt : n < 1000
    · obtain ⟨f, hf⟩ : ∃ f, 1000 - n = f + 1 := ⟨999 - n, by omega⟩
      rw [hf] at HS
      have HF := Lib.hid (specFull_any nu de ((n : Int) + 1))
      cases hfb : fbB nu de ((n : Int) + 1)
      · have HS1 := Lib.hid (HS.out.trans (sbN_bad nu de xs f _ hfb))
        rw [hfb] at HF
        clear HS hfb
        generalize fbK nu de ((n : Int) + 1) = K at HF
        obtain ⟨kn, kd, kb, kl, kt⟩ := K
        go_wp2_with fail
        refine (HF.out _).mono ?_
        rintro e w2 ⟨rfl, hb2⟩
        have HB2 := Lib.hid (hb.trans (hb2.mono hb.size)); clear hb hb2
        go_wp2
        go_ret2
        rw [HS1.out]
        exact ⟨rfl, HB2.out.trans (Below.mono (by go_grown) HB2.out.size)⟩
      · have hhit := sbN_hit nu de xs f ((n : Int) + 1) hfb
        have hnext := sbN_next nu de xs f ((n : Int) + 1) hfb
        rw [hfb] at HF
        clear hfb
        have hfl := fitL_length (fbK nu de ((n : Int) + 1)) xs
        generalize fbK nu de ((n : Int) + 1) = K at HF hhit hnext hfl
        have HFt := Lib.hid (fun w h => specFit_any K (.slice p xs.length cap) xs w h)
        generalize fitL K xs = L at *
        obtain ⟨kn, kd, kb, kl, kt⟩ := K
        have HH := Lib.hid hhit; clear hhit
        have HN := Lib.hid hnext; clear hnext
        go_wp2_with fail
        refine (HF.out _).mono ?_
        rintro e w2 ⟨rfl, hb2⟩
        have HB2 := Lib.hid (hb.trans (hb2.mono hb.size)); clear hb hb2
        have hz2 := HB2.out.size
        go_wp2_with fail
        refine (HFt.out _ (HR.out.below (HB2.out.trans (Below.mono (by go_grown) HB2.out.size)))).mono ?_
        rintro e w3 ⟨v3, rfl, hown, hb3⟩
        have HB3 := Lib.hid ((HB2.out.trans (Below.mono (by go_grown) HB2.out.size)).trans (hb3.mono (by simp; omega)) : Below w.heap.size w w3)
        clear hb3
        obtain ⟨p3, cap3, g3, rfl, hcap3, _⟩ := own_shape hown.1
        clear hown
        by_cases he : L.length = xs.length
        · have HS1 := Lib.hid (HS.out.trans (HH.out he))
          have heb : (((L.length : Nat) : Int) == ((xs.length : Nat) : Int)) = true := by simp [he]
          go_wp2
          go_ret2
          rw [HS1.out]
          exact ⟨rfl, HB3.out⟩
        · have HS1 := Lib.hid (HS.out.trans (HN.out he))
          have heb : (((L.length : Nat) : Int) == ((xs.length : Nat) : Int)) = false := beq_eq_false_iff_ne.2 (by omega)
          go_wp2
          go_roundw
          case rel => exact ⟨n + 1, by omega, by go_num, Lib.hid (by rw [HS1.out, show 1000 - (n + 1) = f by omega]; rfl), HB3.out⟩
          case measure => simp [intOf]; omega
    · obtain rfl : n = 1000 := by omega
      have HS1 := Lib.hid HS.out
      clear HS
      go_wp2
      go_ret2
      rw [HS1.out]
      exact ⟨rfl, hb⟩
end Go.Proofs.Ytgmccafmopgjaaa
