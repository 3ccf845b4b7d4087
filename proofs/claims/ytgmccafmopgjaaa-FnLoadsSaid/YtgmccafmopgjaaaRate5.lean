/- Contracts of the reference's TakeTokens and of TokensAt, program and reference alike: for all arguments. -/
import Derived.Test.YtgmccafmopgjaaaRate4
namespace Go.Proofs.Ytgmccafmopgjaaa
open Go.RowKit

theorem l19FillA_any (k : Bk) (now : Int) (w : World) (h : canFill k now = true) :
    Calls Try.prog 83 #[k.v, .int .i64 now] w fun e w' => e = .returned (.agg #[.int .i64 k.n, .int .i64 k.d, .int .i64 k.b, .int .i64 (k.fill now).l, .int .i64 now]) ∧ Below w.heap.size w w' :=
  (l19Fill_ex k now w h).mono fun _ _ ⟨he, hw⟩ => ⟨he, by subst hw; go_grown⟩

set_option maxHeartbeats 8000000 in
theorem specTake_any (k : Bk) (x : Ld) (w : World) :
    Calls Try.prog 64 #[k.v, x.v] w fun e w' => e = .returned (.tuple #[(ttK k x).v, .bool (ttB k x)]) ∧ Below w.heap.size w w' := by
  have HC := Lib.hid (l19Asked_any k x.t)
  have HL := Lib.hid (l19Load_any x)
  cases hx : ldB x
  · have hz : ttB k x = false := by simp [ttB, askB, hx]
    have hzk : ttK k x = Bk.zero := by simp [ttK, hz]
    have HZ := Lib.hid hz; clear hz
    have HK := Lib.hid hzk; clear hzk
    have HX := Lib.hid hx; clear hx
    obtain ⟨n, d, b, l, t⟩ := k
    obtain ⟨xt, xs⟩ := x
    go_enter Try.func64, Try.ntmps64
    go_wp2_with fail
    refine (HL.out _).mono ?_
    rintro e w1 ⟨rfl, hb⟩
    rw [HX.out]
    have ih := ((hb.block (w.heap.size + 1 + 1) (by simp <;> omega)).trans (a32 w _ _ _)); have i0 := cell_of_row w1 (w.heap.size + 1 + 1) 0 _ _ _ ih; simp at i0; have if0 := frozen_of_row w1 (w.heap.size + 1 + 1) 0 _ _ ih; have i1 := cell_of_row w1 (w.heap.size + 1 + 1) 1 _ _ _ ih; simp at i1; have if1 := frozen_of_row w1 (w.heap.size + 1 + 1) 1 _ _ ih; have i2 := cell_of_row w1 (w.heap.size + 1 + 1) 2 _ _ _ ih; simp at i2; have if2 := frozen_of_row w1 (w.heap.size + 1 + 1) 2 _ _ ih; have i3 := cell_of_row w1 (w.heap.size + 1 + 1) 3 _ _ _ ih; simp at i3; have if3 := frozen_of_row w1 (w.heap.size + 1 + 1) 3 _ _ ih; have i4 := cell_of_row w1 (w.heap.size + 1 + 1) 4 _ _ _ ih; simp at i4; have if4 := frozen_of_row w1 (w.heap.size + 1 + 1) 4 _ _ ih; clear ih
    have hs1 := hb.size
    simp at hs1
    have HBel := Lib.hid hb; clear hb
    go_wp2
    refine bodyPost_ret (v := (.tuple #[.agg #[.int .i64 0, .int .i64 0, .int .i64 0, .int .i64 0, .int .i64 0], .bool false])) (by simp [results, Try.results64, go_sem, *]) rfl ?_
    have hB : Below w.heap.size w w1 := Below.trans (by go_grown) (HBel.out.mono (by simp <;> omega))
    exact ⟨by rw [HK.out, HZ.out]; rfl, by go_grown⟩
  · cases h : canFill k x.t
    · have hz : ttB k x = false := by simp [ttB, askB, h]
      have hzk : ttK k x = Bk.zero := by simp [ttK, hz]
      have HZ := Lib.hid hz; clear hz
      have HK := Lib.hid hzk; clear hzk
      have H := Lib.hid h; clear h
      have HX := Lib.hid hx; clear hx
      obtain ⟨n, d, b, l, t⟩ := k
      obtain ⟨xt, xs⟩ := x
      go_enter Try.func64, Try.ntmps64
      go_wp2_with fail
      refine (HL.out _).mono ?_
      rintro e w1 ⟨rfl, hb⟩
      rw [HX.out]
      have kh := ((hb.block w.heap.size (by simp <;> omega)).trans (a30 w _ _ _)); have k0 := cell_of_row w1 (w.heap.size) 0 _ _ _ kh; simp at k0; have kf0 := frozen_of_row w1 (w.heap.size) 0 _ _ kh; have k1 := cell_of_row w1 (w.heap.size) 1 _ _ _ kh; simp at k1; have kf1 := frozen_of_row w1 (w.heap.size) 1 _ _ kh; have k2 := cell_of_row w1 (w.heap.size) 2 _ _ _ kh; simp at k2; have kf2 := frozen_of_row w1 (w.heap.size) 2 _ _ kh; have k3 := cell_of_row w1 (w.heap.size) 3 _ _ _ kh; simp at k3; have kf3 := frozen_of_row w1 (w.heap.size) 3 _ _ kh; have k4 := cell_of_row w1 (w.heap.size) 4 _ _ _ kh; simp at k4; have kf4 := frozen_of_row w1 (w.heap.size) 4 _ _ kh; clear kh
      have jh := ((hb.block (w.heap.size + 1) (by simp <;> omega)).trans (a31 w _ _ _)); have j0 := cell_of_row w1 (w.heap.size + 1) 0 _ _ _ jh; simp at j0; have jf0 := frozen_of_row w1 (w.heap.size + 1) 0 _ _ jh; have j1 := cell_of_row w1 (w.heap.size + 1) 1 _ _ _ jh; simp at j1; have jf1 := frozen_of_row w1 (w.heap.size + 1) 1 _ _ jh; clear jh
      have I1 := Lib.hid ((hb.block (w.heap.size + 1 + 1) (by simp <;> omega)).trans (a32 w _ _ _))
      have hs1 := hb.size
      simp at hs1
      have HBel := Lib.hid hb; clear hb
      go_wp2_with fail
      refine (HC.out _).mono ?_
      rintro e w2 ⟨rfl, hb⟩
      rw [H.out]
      clear j0 j1 jf0 jf1 k0 k1 k2 k3 k4 kf0 kf1 kf2 kf3 kf4
      have ih := ((hb.block (w.heap.size + 1 + 1) (by omega)).trans I1.out); have i0 := cell_of_row w2 (w.heap.size + 1 + 1) 0 _ _ _ ih; simp at i0; have if0 := frozen_of_row w2 (w.heap.size + 1 + 1) 0 _ _ ih; have i1 := cell_of_row w2 (w.heap.size + 1 + 1) 1 _ _ _ ih; simp at i1; have if1 := frozen_of_row w2 (w.heap.size + 1 + 1) 1 _ _ ih; have i2 := cell_of_row w2 (w.heap.size + 1 + 1) 2 _ _ _ ih; simp at i2; have if2 := frozen_of_row w2 (w.heap.size + 1 + 1) 2 _ _ ih; have i3 := cell_of_row w2 (w.heap.size + 1 + 1) 3 _ _ _ ih; simp at i3; have if3 := frozen_of_row w2 (w.heap.size + 1 + 1) 3 _ _ ih; have i4 := cell_of_row w2 (w.heap.size + 1 + 1) 4 _ _ _ ih; simp at i4; have if4 := frozen_of_row w2 (w.heap.size + 1 + 1) 4 _ _ ih; clear ih
      have hs2 := hb.size
      have HB2 := Lib.hid hb; clear hb
      go_wp2
      refine bodyPost_ret (v := (.tuple #[.agg #[.int .i64 0, .int .i64 0, .int .i64 0, .int .i64 0, .int .i64 0], .bool false])) (by simp [results, Try.results64, go_sem, *]) rfl ?_
      have hB : Below w.heap.size w w2 := (Below.trans (by go_grown) (HBel.out.mono (by simp <;> omega))).trans (HB2.out.mono (by omega))
      exact ⟨by rw [HK.out, HZ.out]; rfl, by go_grown⟩
    · have hx' := ldB_iff.1 hx
      obtain ⟨⟨l1, l2⟩, s1, s2⟩ := lvl_wf h (s := x.s) (by omega) (by omega)
      have HF := Lib.hid (fun w => l19FillA_any k x.t w h)
      have hz : ttB k x = k.fits x.t x.s := by simp [ttB, askB, h, hx]
      have HZ := Lib.hid hz; clear hz
      have hzk : ttK k x = if k.fits x.t x.s = true then k.take x.t x.s else Bk.zero := by simp [ttK, ttB, askB, h, hx]
      have HK := Lib.hid hzk; clear hzk
      have H := Lib.hid h; clear h
      have HX := Lib.hid hx; clear hx hx'
      have hfd : k.fits x.t x.s = decide (x.s * k.d ≤ (k.fill x.t).l) := rfl
      by_cases hff : x.s * k.d ≤ (k.fill x.t).l
      · have hfits : k.fits x.t x.s = true := by rw [hfd]; exact decide_eq_true hff
        clear hfd
        have HFF := Lib.hid hfits; clear hfits
        obtain ⟨n, d, b, l, t⟩ := k
        obtain ⟨xt, xs⟩ := x
        simp only at l1 l2 s1 s2 hff
        go_enter Try.func64, Try.ntmps64
        go_wp2_with fail
        refine (HL.out _).mono ?_
        rintro e w1 ⟨rfl, hb⟩
        rw [HX.out]
        have K1 := Lib.hid ((hb.block w.heap.size (by simp <;> omega)).trans (a30 w _ _ _))
        have J1 := Lib.hid ((hb.block (w.heap.size + 1) (by simp <;> omega)).trans (a31 w _ _ _))
        have I1 := Lib.hid ((hb.block (w.heap.size + 1 + 1) (by simp <;> omega)).trans (a32 w _ _ _))
        have kh := K1.out; have k0 := cell_of_row w1 (w.heap.size) 0 _ _ _ kh; simp at k0; have kf0 := frozen_of_row w1 (w.heap.size) 0 _ _ kh; have k1 := cell_of_row w1 (w.heap.size) 1 _ _ _ kh; simp at k1; have kf1 := frozen_of_row w1 (w.heap.size) 1 _ _ kh; have k2 := cell_of_row w1 (w.heap.size) 2 _ _ _ kh; simp at k2; have kf2 := frozen_of_row w1 (w.heap.size) 2 _ _ kh; have k3 := cell_of_row w1 (w.heap.size) 3 _ _ _ kh; simp at k3; have kf3 := frozen_of_row w1 (w.heap.size) 3 _ _ kh; have k4 := cell_of_row w1 (w.heap.size) 4 _ _ _ kh; simp at k4; have kf4 := frozen_of_row w1 (w.heap.size) 4 _ _ kh; clear kh
        have jh := J1.out; have j0 := cell_of_row w1 (w.heap.size + 1) 0 _ _ _ jh; simp at j0; have jf0 := frozen_of_row w1 (w.heap.size + 1) 0 _ _ jh; have j1 := cell_of_row w1 (w.heap.size + 1) 1 _ _ _ jh; simp at j1; have jf1 := frozen_of_row w1 (w.heap.size + 1) 1 _ _ jh; clear jh
        have hs1 := hb.size
        simp at hs1
        have HBel := Lib.hid hb; clear hb
        go_wp2_with fail
        refine (HC.out _).mono ?_
        rintro e w2 ⟨rfl, hb⟩
        rw [H.out]
        clear j0 j1 jf0 jf1 k0 k1 k2 k3 k4 kf0 kf1 kf2 kf3 kf4
        have K2 := Lib.hid ((hb.block w.heap.size (by omega)).trans K1.out)
        have J2 := Lib.hid ((hb.block (w.heap.size + 1) (by omega)).trans J1.out)
        have I2 := Lib.hid ((hb.block (w.heap.size + 1 + 1) (by omega)).trans I1.out)
        have kh := K2.out; have k0 := cell_of_row w2 (w.heap.size) 0 _ _ _ kh; simp at k0; have kf0 := frozen_of_row w2 (w.heap.size) 0 _ _ kh; have k1 := cell_of_row w2 (w.heap.size) 1 _ _ _ kh; simp at k1; have kf1 := frozen_of_row w2 (w.heap.size) 1 _ _ kh; have k2 := cell_of_row w2 (w.heap.size) 2 _ _ _ kh; simp at k2; have kf2 := frozen_of_row w2 (w.heap.size) 2 _ _ kh; have k3 := cell_of_row w2 (w.heap.size) 3 _ _ _ kh; simp at k3; have kf3 := frozen_of_row w2 (w.heap.size) 3 _ _ kh; have k4 := cell_of_row w2 (w.heap.size) 4 _ _ _ kh; simp at k4; have kf4 := frozen_of_row w2 (w.heap.size) 4 _ _ kh; clear kh
        have jh := J2.out; have j0 := cell_of_row w2 (w.heap.size + 1) 0 _ _ _ jh; simp at j0; have jf0 := frozen_of_row w2 (w.heap.size + 1) 0 _ _ jh; have j1 := cell_of_row w2 (w.heap.size + 1) 1 _ _ _ jh; simp at j1; have jf1 := frozen_of_row w2 (w.heap.size + 1) 1 _ _ jh; clear jh
        have hs2 := hb.size
        have HB2 := Lib.hid hb; clear hb
        go_wp2_with fail
        refine (HF.out _).mono ?_
        rintro e w3 ⟨rfl, hb⟩
        clear j0 j1 jf0 jf1 k0 k1 k2 k3 k4 kf0 kf1 kf2 kf3 kf4
        have kh := ((hb.block w.heap.size (by omega)).trans K2.out); have k0 := cell_of_row w3 (w.heap.size) 0 _ _ _ kh; simp at k0; have kf0 := frozen_of_row w3 (w.heap.size) 0 _ _ kh; have k1 := cell_of_row w3 (w.heap.size) 1 _ _ _ kh; simp at k1; have kf1 := frozen_of_row w3 (w.heap.size) 1 _ _ kh; have k2 := cell_of_row w3 (w.heap.size) 2 _ _ _ kh; simp at k2; have kf2 := frozen_of_row w3 (w.heap.size) 2 _ _ kh; have k3 := cell_of_row w3 (w.heap.size) 3 _ _ _ kh; simp at k3; have kf3 := frozen_of_row w3 (w.heap.size) 3 _ _ kh; have k4 := cell_of_row w3 (w.heap.size) 4 _ _ _ kh; simp at k4; have kf4 := frozen_of_row w3 (w.heap.size) 4 _ _ kh; clear kh
        have jh := ((hb.block (w.heap.size + 1) (by omega)).trans J2.out); have j0 := cell_of_row w3 (w.heap.size + 1) 0 _ _ _ jh; simp at j0; have jf0 := frozen_of_row w3 (w.heap.size + 1) 0 _ _ jh; have j1 := cell_of_row w3 (w.heap.size + 1) 1 _ _ _ jh; simp at j1; have jf1 := frozen_of_row w3 (w.heap.size + 1) 1 _ _ jh; clear jh
        have ih := ((hb.block (w.heap.size + 1 + 1) (by omega)).trans I2.out); have i0 := cell_of_row w3 (w.heap.size + 1 + 1) 0 _ _ _ ih; simp at i0; have if0 := frozen_of_row w3 (w.heap.size + 1 + 1) 0 _ _ ih; have i1 := cell_of_row w3 (w.heap.size + 1 + 1) 1 _ _ _ ih; simp at i1; have if1 := frozen_of_row w3 (w.heap.size + 1 + 1) 1 _ _ ih; have i2 := cell_of_row w3 (w.heap.size + 1 + 1) 2 _ _ _ ih; simp at i2; have if2 := frozen_of_row w3 (w.heap.size + 1 + 1) 2 _ _ ih; have i3 := cell_of_row w3 (w.heap.size + 1 + 1) 3 _ _ _ ih; simp at i3; have if3 := frozen_of_row w3 (w.heap.size + 1 + 1) 3 _ _ ih; have i4 := cell_of_row w3 (w.heap.size + 1 + 1) 4 _ _ _ ih; simp at i4; have if4 := frozen_of_row w3 (w.heap.size + 1 + 1) 4 _ _ ih; clear ih
        have hs3 := hb.size
        have HB3 := Lib.hid hb; clear hb
        have hlt3 : w.heap.size + 1 + 1 < w3.heap.size := by omega
        have hne3 : w.heap.size + 1 + 1 ≠ w3.heap.size := by omega
        have hlt4 : w.heap.size + 1 < w3.heap.size := by omega
        have hne4 : w.heap.size + 1 ≠ w3.heap.size := by omega
        have hlt5 : w.heap.size < w3.heap.size := by omega
        have hne5 : w.heap.size ≠ w3.heap.size := by omega
        go_wp2
        have hB : Below w.heap.size w w3 := ((Below.trans (by go_grown) (HBel.out.mono (by simp <;> omega))).trans (HB2.out.mono (by omega))).trans (HB3.out.mono (by omega))
        refine bodyPost_ret (v := (.tuple #[.agg #[.int .i64 n, .int .i64 d, .int .i64 b, .int .i64 ((Bk.fill ⟨n, d, b, l, t⟩ xt).l - xs * d), .int .i64 xt], .bool true])) (by simp [results, Try.results64, go_sem, *]) rfl ?_
        exact ⟨by rw [HK.out, HZ.out, HFF.out]; rfl, by go_grown⟩
      · have hfits : k.fits x.t x.s = false := by rw [hfd]; exact decide_eq_false hff
        clear hfd
        have HFF := Lib.hid hfits; clear hfits
        obtain ⟨n, d, b, l, t⟩ := k
        obtain ⟨xt, xs⟩ := x
        simp only at l1 l2 s1 s2 hff
        go_enter Try.func64, Try.ntmps64
        go_wp2_with fail
        refine (HL.out _).mono ?_
        rintro e w1 ⟨rfl, hb⟩
        rw [HX.out]
        have K1 := Lib.hid ((hb.block w.heap.size (by simp <;> omega)).trans (a30 w _ _ _))
        have J1 := Lib.hid ((hb.block (w.heap.size + 1) (by simp <;> omega)).trans (a31 w _ _ _))
        have I1 := Lib.hid ((hb.block (w.heap.size + 1 + 1) (by simp <;> omega)).trans (a32 w _ _ _))
        have kh := K1.out; have k0 := cell_of_row w1 (w.heap.size) 0 _ _ _ kh; simp at k0; have kf0 := frozen_of_row w1 (w.heap.size) 0 _ _ kh; have k1 := cell_of_row w1 (w.heap.size) 1 _ _ _ kh; simp at k1; have kf1 := frozen_of_row w1 (w.heap.size) 1 _ _ kh; have k2 := cell_of_row w1 (w.heap.size) 2 _ _ _ kh; simp at k2; have kf2 := frozen_of_row w1 (w.heap.size) 2 _ _ kh; have k3 := cell_of_row w1 (w.heap.size) 3 _ _ _ kh; simp at k3; have kf3 := frozen_of_row w1 (w.heap.size) 3 _ _ kh; have k4 := cell_of_row w1 (w.heap.size) 4 _ _ _ kh; simp at k4; have kf4 := frozen_of_row w1 (w.heap.size) 4 _ _ kh; clear kh
        have jh := J1.out; have j0 := cell_of_row w1 (w.heap.size + 1) 0 _ _ _ jh; simp at j0; have jf0 := frozen_of_row w1 (w.heap.size + 1) 0 _ _ jh; have j1 := cell_of_row w1 (w.heap.size + 1) 1 _ _ _ jh; simp at j1; have jf1 := frozen_of_row w1 (w.heap.size + 1) 1 _ _ jh; clear jh
        have hs1 := hb.size
        simp at hs1
        have HBel := Lib.hid hb; clear hb
        go_wp2_with fail
        refine (HC.out _).mono ?_
        rintro e w2 ⟨rfl, hb⟩
        rw [H.out]
        clear j0 j1 jf0 jf1 k0 k1 k2 k3 k4 kf0 kf1 kf2 kf3 kf4
        have K2 := Lib.hid ((hb.block w.heap.size (by omega)).trans K1.out)
        have J2 := Lib.hid ((hb.block (w.heap.size + 1) (by omega)).trans J1.out)
        have I2 := Lib.hid ((hb.block (w.heap.size + 1 + 1) (by omega)).trans I1.out)
        have kh := K2.out; have k0 := cell_of_row w2 (w.heap.size) 0 _ _ _ kh; simp at k0; have kf0 := frozen_of_row w2 (w.heap.size) 0 _ _ kh; have k1 := cell_of_row w2 (w.heap.size) 1 _ _ _ kh; simp at k1; have kf1 := frozen_of_row w2 (w.heap.size) 1 _ _ kh; have k2 := cell_of_row w2 (w.heap.size) 2 _ _ _ kh; simp at k2; have kf2 := frozen_of_row w2 (w.heap.size) 2 _ _ kh; have k3 := cell_of_row w2 (w.heap.size) 3 _ _ _ kh; simp at k3; have kf3 := frozen_of_row w2 (w.heap.size) 3 _ _ kh; have k4 := cell_of_row w2 (w.heap.size) 4 _ _ _ kh; simp at k4; have kf4 := frozen_of_row w2 (w.heap.size) 4 _ _ kh; clear kh
        have jh := J2.out; have j0 := cell_of_row w2 (w.heap.size + 1) 0 _ _ _ jh; simp at j0; have jf0 := frozen_of_row w2 (w.heap.size + 1) 0 _ _ jh; have j1 := cell_of_row w2 (w.heap.size + 1) 1 _ _ _ jh; simp at j1; have jf1 := frozen_of_row w2 (w.heap.size + 1) 1 _ _ jh; clear jh
        have hs2 := hb.size
        have HB2 := Lib.hid hb; clear hb
        go_wp2_with fail
        refine (HF.out _).mono ?_
        rintro e w3 ⟨rfl, hb⟩
        clear j0 j1 jf0 jf1 k0 k1 k2 k3 k4 kf0 kf1 kf2 kf3 kf4
        have kh := ((hb.block w.heap.size (by omega)).trans K2.out); have k0 := cell_of_row w3 (w.heap.size) 0 _ _ _ kh; simp at k0; have kf0 := frozen_of_row w3 (w.heap.size) 0 _ _ kh; have k1 := cell_of_row w3 (w.heap.size) 1 _ _ _ kh; simp at k1; have kf1 := frozen_of_row w3 (w.heap.size) 1 _ _ kh; have k2 := cell_of_row w3 (w.heap.size) 2 _ _ _ kh; simp at k2; have kf2 := frozen_of_row w3 (w.heap.size) 2 _ _ kh; have k3 := cell_of_row w3 (w.heap.size) 3 _ _ _ kh; simp at k3; have kf3 := frozen_of_row w3 (w.heap.size) 3 _ _ kh; have k4 := cell_of_row w3 (w.heap.size) 4 _ _ _ kh; simp at k4; have kf4 := frozen_of_row w3 (w.heap.size) 4 _ _ kh; clear kh
        have jh := ((hb.block (w.heap.size + 1) (by omega)).trans J2.out); have j0 := cell_of_row w3 (w.heap.size + 1) 0 _ _ _ jh; simp at j0; have jf0 := frozen_of_row w3 (w.heap.size + 1) 0 _ _ jh; have j1 := cell_of_row w3 (w.heap.size + 1) 1 _ _ _ jh; simp at j1; have jf1 := frozen_of_row w3 (w.heap.size + 1) 1 _ _ jh; clear jh
        have ih := ((hb.block (w.heap.size + 1 + 1) (by omega)).trans I2.out); have i0 := cell_of_row w3 (w.heap.size + 1 + 1) 0 _ _ _ ih; simp at i0; have if0 := frozen_of_row w3 (w.heap.size + 1 + 1) 0 _ _ ih; have i1 := cell_of_row w3 (w.heap.size + 1 + 1) 1 _ _ _ ih; simp at i1; have if1 := frozen_of_row w3 (w.heap.size + 1 + 1) 1 _ _ ih; have i2 := cell_of_row w3 (w.heap.size + 1 + 1) 2 _ _ _ ih; simp at i2; have if2 := frozen_of_row w3 (w.heap.size + 1 + 1) 2 _ _ ih; have i3 := cell_of_row w3 (w.heap.size + 1 + 1) 3 _ _ _ ih; simp at i3; have if3 := frozen_of_row w3 (w.heap.size + 1 + 1) 3 _ _ ih; have i4 := cell_of_row w3 (w.heap.size + 1 + 1) 4 _ _ _ ih; simp at i4; have if4 := frozen_of_row w3 (w.heap.size + 1 + 1) 4 _ _ ih; clear ih
        have hs3 := hb.size
        have HB3 := Lib.hid hb; clear hb
        have hlt3 : w.heap.size + 1 + 1 < w3.heap.size := by omega
        have hne3 : w.heap.size + 1 + 1 ≠ w3.heap.size := by omega
        have hlt4 : w.heap.size + 1 < w3.heap.size := by omega
        have hne4 : w.heap.size + 1 ≠ w3.heap.size := by omega
        have hlt5 : w.heap.size < w3.heap.size := by omega
        have hne5 : w.heap.size ≠ w3.heap.size := by omega
        go_wp2
        have hB : Below w.heap.size w w3 := ((Below.trans (by go_grown) (HBel.out.mono (by simp <;> omega))).trans (HB2.out.mono (by omega))).trans (HB3.out.mono (by omega))
        refine bodyPost_ret (v := (.tuple #[.agg #[.int .i64 0, .int .i64 0, .int .i64 0, .int .i64 0, .int .i64 0], .bool false])) (by simp [results, Try.results64, go_sem, *]) rfl ?_
        exact ⟨by rw [HK.out, HZ.out, HFF.out]; rfl, by go_grown⟩
end Go.Proofs.Ytgmccafmopgjaaa
