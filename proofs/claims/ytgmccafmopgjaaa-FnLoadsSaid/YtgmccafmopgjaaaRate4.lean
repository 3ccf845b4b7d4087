/- Contracts of TicksToFit and TakeTokens, program and reference alike: for all arguments. -/
import Derived.Test.YtgmccafmopgjaaaRate3
namespace Go.Proofs.Ytgmccafmopgjaaa
open Go.RowKit

/-- may a load be asked of a bucket -/
def askB (k : Bk) (x : Ld) : Bool := canFill k x.t && ldB x
def tfB (k : Bk) (x : Ld) : Bool := askB k x && k.waitB x
def tfV (k : Bk) (x : Ld) : Int := if tfB k x = true then k.waitT x else 0
def ttB (k : Bk) (x : Ld) : Bool := askB k x && k.fits x.t x.s
def ttK (k : Bk) (x : Ld) : Bk := if ttB k x = true then k.take x.t x.s else Bk.zero


theorem lvl_wf {k : Bk} {now s : Int} (h : canFill k now = true) (h0 : 0 ≤ s) (h1 : s ≤ 1000) : (0 ≤ (k.fill now).l ∧ (k.fill now).l ≤ 100000) ∧ 0 ≤ s * k.d ∧ s * k.d ≤ 100000 :=
  ⟨by have := fill_bound h; omega, size_wf h h0 h1⟩

set_option maxRecDepth 100000 in
set_option maxHeartbeats 8000000 in
theorem specTicks_any (k : Bk) (x : Ld) (w : World) :
    Calls Try.prog 63 #[k.v, x.v] w fun e w' => e = .returned (.tuple #[.int .i64 (tfV k x), .bool (tfB k x)]) ∧ Below w.heap.size w w' := by
  have HC := Lib.hid (l19Asked_any k x.t)
  have HL := Lib.hid (l19Load_any x)
  cases hx : ldB x
  · have hz : tfB k x = false := by simp [tfB, askB, hx]
    have HZ := Lib.hid hz; clear hz
    have HX := Lib.hid hx; clear hx
    obtain ⟨n, d, b, l, t⟩ := k
    obtain ⟨xt, xs⟩ := x
    go_enter Try.func63, Try.ntmps63
    go_wp2_with fail
    refine (HL.out _).mono ?_
    rintro e w1 ⟨rfl, hb⟩
    rw [HX.out]
    have HBel := Lib.hid hb; clear hb
    go_wp2
    go_ret2
    exact ⟨by simp [tfV, HZ.out], Below.trans (by go_grown) (HBel.out.mono (by simp <;> omega))⟩
  · cases h : canFill k x.t
    · have hz : tfB k x = false := by simp [tfB, askB, h]
      have HZ := Lib.hid hz; clear hz
      have H := Lib.hid h; clear h
      have HX := Lib.hid hx; clear hx
      obtain ⟨n, d, b, l, t⟩ := k
      obtain ⟨xt, xs⟩ := x
      go_enter Try.func63, Try.ntmps63
      go_wp2_with fail
      refine (HL.out _).mono ?_
      rintro e w1 ⟨rfl, hb⟩
      rw [HX.out]
      have kh := ((hb.block w.heap.size (by simp <;> omega)).trans (heap_alloc2_old w _ _)); have k0 := cell_of_row w1 (w.heap.size) 0 _ _ _ kh; simp at k0; have kf0 := frozen_of_row w1 (w.heap.size) 0 _ _ kh; have k1 := cell_of_row w1 (w.heap.size) 1 _ _ _ kh; simp at k1; have kf1 := frozen_of_row w1 (w.heap.size) 1 _ _ kh; have k2 := cell_of_row w1 (w.heap.size) 2 _ _ _ kh; simp at k2; have kf2 := frozen_of_row w1 (w.heap.size) 2 _ _ kh; have k3 := cell_of_row w1 (w.heap.size) 3 _ _ _ kh; simp at k3; have kf3 := frozen_of_row w1 (w.heap.size) 3 _ _ kh; have k4 := cell_of_row w1 (w.heap.size) 4 _ _ _ kh; simp at k4; have kf4 := frozen_of_row w1 (w.heap.size) 4 _ _ kh; clear kh
      have jh := ((hb.block (w.heap.size + 1) (by simp <;> omega)).trans (heap_alloc2_new w _ _)); have j0 := cell_of_row w1 (w.heap.size + 1) 0 _ _ _ jh; simp at j0; have jf0 := frozen_of_row w1 (w.heap.size + 1) 0 _ _ jh; have j1 := cell_of_row w1 (w.heap.size + 1) 1 _ _ _ jh; simp at j1; have jf1 := frozen_of_row w1 (w.heap.size + 1) 1 _ _ jh; clear jh
      have hs1 := hb.size
      simp at hs1
      have HBel := Lib.hid hb; clear hb
      go_wp2_with fail
      refine (HC.out _).mono ?_
      rintro e w2 ⟨rfl, hb⟩
      rw [H.out]
      have HB2 := Lib.hid hb; clear hb
      go_wp2
      go_ret2
      exact ⟨by simp [tfV, HZ.out], (Below.trans (by go_grown) (HBel.out.mono (by simp <;> omega))).trans (HB2.out.mono (by omega))⟩
    · by_cases hsb : x.s ≤ k.b
      · rw [ldB_iff] at hx
        obtain ⟨⟨t1, t2⟩, z1, z2⟩ := hx
        obtain ⟨⟨l1, l2⟩, s1, s2⟩ := lvl_wf h (s := x.s) (by omega) z2
        have hx : ldB x = true := ldB_iff.2 ⟨⟨t1, t2⟩, z1, z2⟩
        have h' := h
        simp only [canFill, Bool.and_eq_true, bkB_iff, inR_true] at h'
        obtain ⟨⟨⟨a1, a2⟩, _, _, _, _⟩, _, _⟩ := h'
        have hw0 : 0 ≤ k.waitT x ∧ k.waitT x ≤ 101000 := by
          have e1 := ceil_nonneg (max 0 (x.s * k.d - (k.fill x.t).l)) k.n a1 (by omega)
          have e2 := ceil_le (max 0 (x.s * k.d - (k.fill x.t).l)) k.n a1 (by omega)
          exact ⟨e1, by show (max 0 (x.s * k.d - (k.fill x.t).l) + k.n - 1) / k.n ≤ _; omega⟩
        obtain ⟨w1', w2'⟩ := hw0
        have hwv : (max 0 (x.s * k.d - (k.fill x.t).l) + k.n - 1) / k.n = k.waitT x := rfl
        have HWV := Lib.hid hwv; clear hwv
        have HF := Lib.hid (fun w => l19Fill_ex k x.t w h)
        have hz : tfB k x = inR (x.t + k.waitT x) 0 10000 := by
          rw [tfB, askB, h, hx, Bk.waitB, decide_eq_true hsb]
          simp only [Bool.true_and, inR]
          rw [decide_eq_true (show 0 ≤ x.t + k.waitT x by omega), Bool.true_and]
        have HZ := Lib.hid hz; clear hz
        have H := Lib.hid h; clear h
        have HX := Lib.hid hx; clear hx
        obtain ⟨n, d, b, l, t⟩ := k
        obtain ⟨xt, xs⟩ := x
        simp only at l1 l2 t1 t2 z1 z2 s1 s2 a1 a2 hsb
        have hfd := field_level
        cases hT : inR (xt + Bk.waitT ⟨n, d, b, l, t⟩ ⟨xt, xs⟩) 0 10000
        all_goals
          have HT := Lib.hid hT; clear hT
          go_enter Try.func63, Try.ntmps63
          go_wp2_with fail
          refine (HL.out _).mono ?_
          rintro e w1 ⟨rfl, hb⟩
          rw [HX.out]
          have K1 := Lib.hid ((hb.block w.heap.size (by simp <;> omega)).trans (heap_alloc2_old w _ _))
          have J1 := Lib.hid ((hb.block (w.heap.size + 1) (by simp <;> omega)).trans (heap_alloc2_new w _ _))
          have jh := J1.out; have j0 := cell_of_row w1 (w.heap.size + 1) 0 _ _ _ jh; simp at j0; have jf0 := frozen_of_row w1 (w.heap.size + 1) 0 _ _ jh; have j1 := cell_of_row w1 (w.heap.size + 1) 1 _ _ _ jh; simp at j1; have jf1 := frozen_of_row w1 (w.heap.size + 1) 1 _ _ jh; clear jh
          have kh := K1.out; have k0 := cell_of_row w1 (w.heap.size) 0 _ _ _ kh; simp at k0; have kf0 := frozen_of_row w1 (w.heap.size) 0 _ _ kh; have k1 := cell_of_row w1 (w.heap.size) 1 _ _ _ kh; simp at k1; have kf1 := frozen_of_row w1 (w.heap.size) 1 _ _ kh; have k2 := cell_of_row w1 (w.heap.size) 2 _ _ _ kh; simp at k2; have kf2 := frozen_of_row w1 (w.heap.size) 2 _ _ kh; have k3 := cell_of_row w1 (w.heap.size) 3 _ _ _ kh; simp at k3; have kf3 := frozen_of_row w1 (w.heap.size) 3 _ _ kh; have k4 := cell_of_row w1 (w.heap.size) 4 _ _ _ kh; simp at k4; have kf4 := frozen_of_row w1 (w.heap.size) 4 _ _ kh; clear kh
          have hs1 := hb.size
          simp at hs1
          have HBel := Lib.hid hb; clear hb
          go_wp2_with fail
          refine (HC.out _).mono ?_
          rintro e w2 ⟨rfl, hb⟩
          rw [H.out]
          clear j0 j1 jf0 jf1 k0 k1 k2 k3 k4 kf0 kf1 kf2 kf3 kf4
          have kh := ((hb.block w.heap.size (by omega)).trans K1.out); have k0 := cell_of_row w2 (w.heap.size) 0 _ _ _ kh; simp at k0; have kf0 := frozen_of_row w2 (w.heap.size) 0 _ _ kh; have k1 := cell_of_row w2 (w.heap.size) 1 _ _ _ kh; simp at k1; have kf1 := frozen_of_row w2 (w.heap.size) 1 _ _ kh; have k2 := cell_of_row w2 (w.heap.size) 2 _ _ _ kh; simp at k2; have kf2 := frozen_of_row w2 (w.heap.size) 2 _ _ kh; have k3 := cell_of_row w2 (w.heap.size) 3 _ _ _ kh; simp at k3; have kf3 := frozen_of_row w2 (w.heap.size) 3 _ _ kh; have k4 := cell_of_row w2 (w.heap.size) 4 _ _ _ kh; simp at k4; have kf4 := frozen_of_row w2 (w.heap.size) 4 _ _ kh; clear kh
          have ih := ((hb.block (w.heap.size + 1) (by omega)).trans J1.out); have i0 := cell_of_row w2 (w.heap.size + 1) 0 _ _ _ ih; simp at i0; have if0 := frozen_of_row w2 (w.heap.size + 1) 0 _ _ ih; have i1 := cell_of_row w2 (w.heap.size + 1) 1 _ _ _ ih; simp at i1; have if1 := frozen_of_row w2 (w.heap.size + 1) 1 _ _ ih; clear ih
          have hs2 := hb.size
          have HB2 := Lib.hid hb; clear hb
          clear kf0 kf1 kf2 kf3 kf4 if0 if1
          have r1 : IntKind.i64.wrap (xs * d) = xs * d := IntWalk.i64_in _ (by omega)
          have r2 : IntKind.i64.wrap (xs * d - (Bk.fill ⟨n, d, b, l, t⟩ xt).l) = xs * d - (Bk.fill ⟨n, d, b, l, t⟩ xt).l := IntWalk.i64_in _ (by omega)
          go_wp2_with fail
          go_region_held3 (fun w' => w'.cell? ⟨w.heap.size, 0, none⟩ = some (.int .i64 n) ∧ w'.cell? ⟨w.heap.size, 1, none⟩ = some (.int .i64 d) ∧ w'.cell? ⟨w.heap.size, 2, none⟩ = some (.int .i64 b) ∧ w'.cell? ⟨w.heap.size, 3, none⟩ = some (.int .i64 l) ∧ w'.cell? ⟨w.heap.size, 4, none⟩ = some (.int .i64 t) ∧
              w'.cell? ⟨w.heap.size + 1, 0, none⟩ = some (.int .i64 xt) ∧ w'.cell? ⟨w.heap.size + 1, 1, none⟩ = some (.int .i64 xs)) (go_keep)
            (first | (go_at_call 83; refine (HF.out _).mono ?_; rintro e w' ⟨rfl, rfl⟩) | (go_at_call 62; refine (l1Most_any _ _ _).mono ?_; rintro e w' ⟨rfl, rfl⟩))
          clear r1 r2
          have hwv := HWV.out
          go_wp2_with fail
          refine (l8Tick_any _ _).mono ?_
          rintro e w3 ⟨rfl, rfl⟩
          rw [HT.out]
          have HWV2 := Lib.hid hwv; clear hwv
          go_wp2
          go_ret2
          have hB : Below w.heap.size w w2 := (Below.trans (by go_grown) (HBel.out.mono (by simp <;> omega))).trans (HB2.out.mono (by omega))
          exact ⟨by first | (simp [tfV, HZ.out, HT.out]; done) | (simp [tfV, HZ.out, HT.out]; exact HWV.out), by go_grown⟩
      · have hz : tfB k x = false := by
          have : k.waitB x = false := by simp [Bk.waitB]; omega
          simp [tfB, this]
        have HZ := Lib.hid hz; clear hz
        have H := Lib.hid h; clear h
        have HX := Lib.hid hx; clear hx
        obtain ⟨n, d, b, l, t⟩ := k
        obtain ⟨xt, xs⟩ := x
        simp only at hsb
        go_enter Try.func63, Try.ntmps63
        go_wp2_with fail
        refine (HL.out _).mono ?_
        rintro e w1 ⟨rfl, hb⟩
        rw [HX.out]
        have K1 := Lib.hid ((hb.block w.heap.size (by simp <;> omega)).trans (heap_alloc2_old w _ _))
        have J1 := Lib.hid ((hb.block (w.heap.size + 1) (by simp <;> omega)).trans (heap_alloc2_new w _ _))
        have jh := J1.out; have j0 := cell_of_row w1 (w.heap.size + 1) 0 _ _ _ jh; simp at j0; have jf0 := frozen_of_row w1 (w.heap.size + 1) 0 _ _ jh; have j1 := cell_of_row w1 (w.heap.size + 1) 1 _ _ _ jh; simp at j1; have jf1 := frozen_of_row w1 (w.heap.size + 1) 1 _ _ jh; clear jh
        have kh := K1.out; have k0 := cell_of_row w1 (w.heap.size) 0 _ _ _ kh; simp at k0; have kf0 := frozen_of_row w1 (w.heap.size) 0 _ _ kh; have k1 := cell_of_row w1 (w.heap.size) 1 _ _ _ kh; simp at k1; have kf1 := frozen_of_row w1 (w.heap.size) 1 _ _ kh; have k2 := cell_of_row w1 (w.heap.size) 2 _ _ _ kh; simp at k2; have kf2 := frozen_of_row w1 (w.heap.size) 2 _ _ kh; have k3 := cell_of_row w1 (w.heap.size) 3 _ _ _ kh; simp at k3; have kf3 := frozen_of_row w1 (w.heap.size) 3 _ _ kh; have k4 := cell_of_row w1 (w.heap.size) 4 _ _ _ kh; simp at k4; have kf4 := frozen_of_row w1 (w.heap.size) 4 _ _ kh; clear kh
        have hs1 := hb.size
        simp at hs1
        have HBel := Lib.hid hb; clear hb
        go_wp2_with fail
        refine (HC.out _).mono ?_
        rintro e w2 ⟨rfl, hb⟩
        rw [H.out]
        clear j0 j1 jf0 jf1 k0 k1 k2 k3 k4 kf0 kf1 kf2 kf3 kf4
        have kh := ((hb.block w.heap.size (by omega)).trans K1.out); have k0 := cell_of_row w2 (w.heap.size) 0 _ _ _ kh; simp at k0; have kf0 := frozen_of_row w2 (w.heap.size) 0 _ _ kh; have k1 := cell_of_row w2 (w.heap.size) 1 _ _ _ kh; simp at k1; have kf1 := frozen_of_row w2 (w.heap.size) 1 _ _ kh; have k2 := cell_of_row w2 (w.heap.size) 2 _ _ _ kh; simp at k2; have kf2 := frozen_of_row w2 (w.heap.size) 2 _ _ kh; have k3 := cell_of_row w2 (w.heap.size) 3 _ _ _ kh; simp at k3; have kf3 := frozen_of_row w2 (w.heap.size) 3 _ _ kh; have k4 := cell_of_row w2 (w.heap.size) 4 _ _ _ kh; simp at k4; have kf4 := frozen_of_row w2 (w.heap.size) 4 _ _ kh; clear kh
        have ih := ((hb.block (w.heap.size + 1) (by omega)).trans J1.out); have i0 := cell_of_row w2 (w.heap.size + 1) 0 _ _ _ ih; simp at i0; have if0 := frozen_of_row w2 (w.heap.size + 1) 0 _ _ ih; have i1 := cell_of_row w2 (w.heap.size + 1) 1 _ _ _ ih; simp at i1; have if1 := frozen_of_row w2 (w.heap.size + 1) 1 _ _ ih; clear ih
        have hs2 := hb.size
        have HB2 := Lib.hid hb; clear hb
        go_wp2
        go_ret2
        exact ⟨by simp [tfV, HZ.out], (Below.trans (by go_grown) (HBel.out.mono (by simp <;> omega))).trans (HB2.out.mono (by omega))⟩

end Go.Proofs.Ytgmccafmopgjaaa
