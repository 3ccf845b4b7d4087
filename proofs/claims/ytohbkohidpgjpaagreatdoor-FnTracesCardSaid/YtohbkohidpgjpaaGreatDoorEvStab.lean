/- Contract: slices.SortStableFunc on at most 30 events, by their ticks: blocks of 20 sorted by insertion, then merged. -/
import Derived.Test.YtohbkohidpgjpaaGreatDoorEvSm3
namespace Go.Proofs.YtohbkohidpgjpaaGreatDoor
open Go.RowKit

set_option maxRecDepth 100000 in
set_option maxHeartbeats 4000000 in
theorem stable_any (g n cap B : Nat) (Y : List Ev) (w : World) (hO : Arr B w g n cap Y) (hn : n ≤ 30) (hBw : B ≤ w.heap.size) :
    Calls Tryz.prog 66 #[.slice (some ⟨g, 0, none⟩) n cap, .int .i64 n, mtF] w fun e w' => e = .returned (.tuple #[]) ∧ (∃ M, Arr B w' g n cap M ∧ Stb Ev.t Y M) ∧ Below B w w' := by
  have hlen := hO.2
  have HL := Lib.hid hlen; clear hlen
  have HI : Hid (∃ S, Arr B w g n cap (S ++ Y.drop 0) ∧ Stb Ev.t (Y.take 0) S ∧ S.length = 0) := Lib.hid ⟨[], by simpa using hO, by simpa using Stb.self (key := Ev.t) List.Pairwise.nil, rfl⟩
  clear hO
  go_enter Tryz.func66, Tryz.ntmps66
  go_wp2
  go_loopw [7, 8] (fun a b wr => ∃ c : Nat, (c = 0 ∨ (c = 20 ∧ 20 ≤ n)) ∧ a = .int .i64 c ∧ b = .int .i64 (c + 20 : Nat) ∧ Hid (∃ S, Arr B wr g n cap (S ++ Y.drop c) ∧ Stb Ev.t (Y.take c) S ∧ S.length = c) ∧ Hid (Below B w wr)) (fun a _ _ => 40 - (intOf a).toNat)
  case atStart => exact ⟨0, .inl rfl, rfl, by go_num, HI, Lib.hid (Below.refl _ _)⟩
  case round =>
    clear HI
    obtain ⟨c, hc, rfl, rfl, HS, HB⟩ := hrel
    have hzb := HB.out.size
    obtain ⟨S, hA, hSt, hSl⟩ := HS.out
    clear HS
    have HA := Lib.hid hA; clear hA
    have HSt := Lib.hid hSt; clear hSt
    have HSl := Lib.hid hSl; clear hSl
    by_cases hlt : c + 20 ≤ n
    · obtain ⟨rfl, h20⟩ : c = 0 ∧ 20 ≤ n := by omega
      have HC := Lib.hid (insSort_any g n cap B [] (Y.take 20) (Y.drop 20) 0 20 wr (by
        have h := HA.out
        rw [List.eq_nil_of_length_eq_zero HSl.out] at h
        simpa using h) rfl (by rw [List.length_take]; have := HL.out; omega) (by omega) (by omega))
      have h20' : (20 : Int) ≤ n := by omega
      clear HA HSt HSl
      go_wp2_with fail
      refine HC.out.mono ?_
      rintro e w1 ⟨rfl, hM, hb⟩
      have HM := Lib.hid hM; clear hM
      have HB2 := Lib.hid (HB.out.trans hb); clear hb
      go_wp2
      go_roundw
      case rel =>
        refine ⟨20, .inr ⟨rfl, h20⟩, rfl, by go_num, Lib.hid ?_, HB2⟩
        obtain ⟨M, h1, h2, h3⟩ := HM.out
        exact ⟨M, by simpa using h1, h2, by rw [h3, List.length_take]; have := HL.out; omega⟩
      case measure => simp [intOf]
    · have hcn : c ≤ n := by omega
      have hnlt : ¬ ((c : Int) + 20 ≤ n) := by omega
      have HC := Lib.hid (insSort_any g n cap B S (Y.drop c) [] c n wr (by simpa using HA.out) HSl.out (by rw [List.length_drop]; have := HL.out; omega) (by omega) (by omega))
      clear HA
      go_wp2_with fail
      refine HC.out.mono ?_
      rintro e w1 ⟨rfl, hM, hb⟩
      have HM := Lib.hid hM; clear hM
      have HB2 := Lib.hid (HB.out.trans hb); clear hb HB HC
      by_cases hn20 : n ≤ 20
      · have hz : ¬ (20 : Int) < n := by omega
        go_wp2
        go_loop [6, 7, 8, 9] (fun a _ _ _ => a = .int .i64 20) (fun _ _ _ _ => 0)
        case atStart => rfl
        case round =>
          obtain rfl := hrel
          go_wp2
          go_end0
          refine ⟨rfl, ?_, HB2.out⟩
          obtain ⟨M, h1, h2, h3⟩ := HM.out
          rw [List.append_nil] at h1
          refine ⟨S ++ M, h1, ?_⟩
          rcases hc with rfl | ⟨rfl, h20⟩
          · rw [List.eq_nil_of_length_eq_zero HSl.out]
            simpa using h2
          · have hd : Y.drop 20 = [] := List.drop_of_length_le (by have := HL.out; omega)
            have hM0 : M = [] := List.eq_nil_of_length_eq_zero (by rw [h3, hd]; rfl)
            have ht : Y.take 20 = Y := List.take_of_length_le (by have := HL.out; omega)
            rw [hM0, List.append_nil, ← ht]
            exact HSt.out
      · obtain ⟨rfl, h20⟩ : c = 20 ∧ 20 ≤ n := by omega
        have hz : (20 : Int) < n := by omega
        have hz2 : ¬ (40 : Int) ≤ n := by omega
        have hz3 : ¬ (40 : Int) < n := by omega
        obtain ⟨M, h1, h2, h3⟩ := HM.out
        have HC := Lib.hid (symM_any g n cap B (by omega) (S.length + M.length + 1) [] S M [] 0 20 n w1 (by simpa using h1) rfl (by rw [HSl.out]) (by rw [h3, List.length_drop]; have := HL.out; omega) HSt.out.1 h2.1 (by have := HSl.out; omega) (by rw [h3, List.length_drop]; have := HL.out; omega) (Nat.le_trans hBw HB2.out.size) (by omega))
        have HM2 := Lib.hid (fun K (hK : Stb Ev.t (S ++ M) K) => Stb.parts HSt.out h2 hK)
        rw [List.take_append_drop] at HM2
        clear HM h1 h2 h3 HSt HSl
        go_wp2
        go_loopw [6, 7, 8, 9] (fun a _ _ _ wr2 => (a = .int .i64 20 ∧ wr2 = w1) ∨ (a = .int .i64 40 ∧ Hid (∃ M, Arr B wr2 g n cap M ∧ Stb Ev.t Y M) ∧ Hid (Below B w wr2))) (fun a _ _ _ _ => 40 - (intOf a).toNat)
        case atStart => exact .inl ⟨rfl, rfl⟩
        case round =>
          rcases hrel with ⟨rfl, hw⟩ | ⟨rfl, HF, HB3⟩
          · cases hw
            go_wp2
            go_loop [7, 8] (fun a b => a = .int .i64 0 ∧ b = .int .i64 40) (fun _ _ => 0)
            case atStart => exact ⟨rfl, rfl⟩
            case round =>
              obtain ⟨rfl, rfl⟩ := hrel
              go_wp2_with fail
              refine HC.out.mono ?_
              rintro e w2 ⟨rfl, hM, hb⟩
              have HM := Lib.hid hM; clear hM
              have HB3 := Lib.hid (HB2.out.trans hb); clear hb
              go_wp2
              go_roundw
              case rel =>
                refine .inr ⟨rfl, Lib.hid ?_, HB3⟩
                obtain ⟨K, k1, k2, k3⟩ := HM.out
                exact ⟨K, by simpa using k1, HM2.out K k2⟩
              case measure => simp [intOf]
          · go_wp2
            go_end0
            exact ⟨rfl, HF.out, HB3.out⟩
set_option maxRecDepth 100000 in
theorem insNil (w : World) : Calls Tryz.prog 76 #[.slice none 0 0, .int .i64 0, .int .i64 0, mtF] w fun e w' => e = .returned (.tuple #[]) ∧ Below w.heap.size w w' := by
  go_enter Tryz.func76, Tryz.ntmps76
  go_wp2
  go_loop [8, 9] (fun i _ => i = .int .i64 1) (fun _ _ => 0)
  case atStart => rfl
  case round =>
    obtain rfl := hrel
    go_wp2
    go_end0
    exact ⟨rfl, Below.refl _ _⟩
set_option maxRecDepth 100000 in
theorem stableNil (w : World) : Calls Tryz.prog 66 #[.slice none 0 0, .int .i64 0, mtF] w fun e w' => e = .returned (.tuple #[]) ∧ Below w.heap.size w w' := by
  go_enter Tryz.func66, Tryz.ntmps66
  go_wp2
  go_loop [7, 8] (fun a b => a = .int .i64 0 ∧ b = .int .i64 20) (fun _ _ => 0)
  case atStart => exact ⟨rfl, rfl⟩
  case round =>
    obtain ⟨rfl, rfl⟩ := hrel
    go_wp2_with fail
    refine (insNil w).mono ?_
    rintro e w1 ⟨rfl, hb⟩
    have HB := Lib.hid hb; clear hb
    go_wp2
    go_loop [6, 7, 8, 9] (fun a _ _ _ => a = .int .i64 20) (fun _ _ _ _ => 0)
    case atStart => rfl
    case round =>
      obtain rfl := hrel
      go_wp2
      go_end0
      exact ⟨rfl, HB.out⟩
set_option maxRecDepth 100000 in
set_option maxHeartbeats 4000000 in
theorem sortSt_any (v : Value) (Y : List Ev) (B : Nat) (w : World) (hO : w.ownsRow B 25 4 v Y.length (Y.flatMap Ev.cells)) (hn : Y.length ≤ 30) (hBw : B ≤ w.heap.size) :
    Calls Tryz.prog 41 #[v, mtF] w fun e w' => e = .returned (.tuple #[]) ∧ (∃ M, w'.ownsRow B 25 4 v M.length (M.flatMap Ev.cells) ∧ Stb Ev.t Y M ∧ M.length = Y.length) ∧ Below B w w' := by
  rcases hO.2 with ⟨rfl, hz⟩ | ⟨g, cap, cur, rfl, hr⟩
  · obtain rfl := List.length_eq_zero_iff.1 hz
    go_enter Tryz.func41, Tryz.ntmps41
    go_wp2_with fail
    refine (stableNil w).mono ?_
    rintro e w1 ⟨rfl, hb⟩
    have HB := Lib.hid hb; clear hb
    go_wp2
    go_end0
    exact ⟨rfl, ⟨[], ⟨rfl, .inl ⟨rfl, rfl⟩⟩, Stb.self List.Pairwise.nil, rfl⟩, HB.out.mono hBw⟩
  · have HI := Lib.hid (stable_any g Y.length cap B Y w ⟨hO, rfl⟩ hn hBw)
    clear hO hr
    go_enter Tryz.func41, Tryz.ntmps41
    go_wp2_with fail
    refine HI.out.mono ?_
    rintro e w1 ⟨rfl, ho, hb⟩
    have HO := Lib.hid ho; clear ho
    have HB := Lib.hid hb; clear hb
    go_wp2
    go_end0
    refine ⟨rfl, ?_, HB.out⟩
    obtain ⟨M, h1, h2⟩ := HO.out
    have hl := h1.2
    exact ⟨M, by rw [hl]; exact h1.1, h2, hl⟩
end Go.Proofs.YtohbkohidpgjpaaGreatDoor
