/- A counter bumped: the program's bumped, the reference's l18Bump, on lists whose names rise. Condition: at most 900 counters, names of at most 2^20 bytes, values of at most 10^9. -/
import Derived.Test.YtmochhgmhhopoaaGreatDoorIns
import Derived.Test.YtmochhgmhhopoaaGreatDoorBumpMath
namespace Go.Proofs.YtmochhgmhhopoaaGreatDoor
open Go.RowKit

theorem ins_any (v : Value) (xs : List Ct) (i : Nat) (x : Ct) (vb B : Nat) (w : World) (hO : w.ownsRow B 55 2 v xs.length (xs.flatMap Ct.cells)) (hi : i ≤ xs.length) (hlen : xs.length ≤ 1000) (hv : w.heap[vb]? = some x.o) (hBw : B ≤ w.heap.size) (hvb : ∀ k, v.ownBlock = some k → vb ≠ k) :
    Calls Tryz.prog 57 #[v, .int .i64 i, .slice (some ⟨vb, 0, none⟩) 1 1] w fun e w' => InsQ B xs.length xs i x e w w' := by
  rcases Nat.lt_or_ge i xs.length with h | h
  · obtain ⟨q, cap, g, rfl, hcap, _⟩ := own_shape hO
    rcases Nat.lt_or_ge xs.length cap with h2 | h2
    · exact insRoom_any q cap xs i x vb B w hO h hlen hv hBw hvb h2
    · exact insNew_any _ xs i x vb B w hO h hlen hv hBw (fun q' cap' e => by
        simp only [Value.slice.injEq, true_and] at e
        omega)
  · obtain rfl : i = xs.length := by omega
    exact insEnd_any v xs x vb B w hO hlen hv hBw
theorem flatCt_setv (ys : List Ct) (k : Nat) (z : Int) (h : k < ys.length) : (ys.flatMap Ct.cells).set (k * 2 + 1) (.int .i64 z) = (ys.set k ⟨ys[k].nm, z⟩).flatMap Ct.cells := by
  induction ys generalizing k with
  | nil => simp at h
  | cons y ys ih =>
    cases k with
    | zero => simp
    | succ k =>
      rw [List.flatMap_cons, List.set_append, if_neg (by simp; omega), List.set_cons_succ, List.flatMap_cons]
      have := ih k (by simpa using h)
      rw [show (k + 1) * 2 + 1 - y.cells.length = k * 2 + 1 from by simp; omega, this]
      rfl
/-- the counter at place k has another value -/
theorem own_value {w : World} {B n cap g : Nat} {ys : List Ct} (h : w.ownsRow B 55 2 (.slice (some ⟨g, 0, none⟩) n cap) n (ys.flatMap Ct.cells)) (hn : ys.length = n) (k : Nat) (hk : k < ys.length) :
    w.cell? ⟨g, k * 2 + 1, none⟩ = some (.int .i64 ys[k].vl) ∧ w.frozen? ⟨g, k * 2 + 1, none⟩ = false ∧ B ≤ g ∧ ∀ z, (w.setCell ⟨g, k * 2 + 1, none⟩ (.int .i64 z)).ownsRow B 55 2 (.slice (some ⟨g, 0, none⟩) n cap) n ((ys.set k ⟨ys[k].nm, z⟩).flatMap Ct.cells) ∧ w.grownBy (w.setCell ⟨g, k * 2 + 1, none⟩ (.int .i64 z)) (some g) := by
  refine ⟨?_, h.frozenAt (k * 2 + 1), (h.lt g rfl).1, fun z => ?_⟩
  · rw [h.cellAt (k * 2 + 1) (by omega)]
    exact flat_get Ct.cells 2 Ct.cells_length ys k 1 hk (by omega)
  · have hs := h.stored (k * 2 + 1) (.int .i64 z)
    rw [flatCt_setv ys k z hk] at hs
    exact hs
/-- the values are small, and not below 0 -/
def Vls (M : Int) (xs : List Ct) : Prop := ∀ x ∈ xs, 0 ≤ x.vl ∧ x.vl ≤ M
set_option maxRecDepth 100000 in
set_option maxHeartbeats 4000000 in
theorem bumped_any (v : Value) (xs : List Ct) (s : ByteArray) (n : Int) (B : Nat) (w : World) (hO : w.ownsRow B 55 2 v xs.length (xs.flatMap Ct.cells)) (hok : ∀ x ∈ xs, x.ok) (hlen : xs.length ≤ 900) (hu : Ups xs) (hV : Vls 1000000000 xs) (hn0 : 0 ≤ n) (hn1 : n ≤ 1000000) (hBw : B ≤ w.heap.size) :
    Calls Tryz.prog 28 #[v, .string s, .int .i64 n] w fun e w' => ∃ v', e = .returned v' ∧ w'.ownsRow B 55 2 v' (bumpL xs s n).length ((bumpL xs s n).flatMap Ct.cells) ∧ Below B w w' := by
  have HF := Lib.hid (find_any v xs s w ⟨rd_of_own hO, by omega, hok⟩ hu (by omega))
  have hpl := posN_le xs s.toList
  obtain ⟨q, cap, g, rfl, hcap, hq⟩ := own_shape hO
  have HO := Lib.hid hO; clear hO
  cases hb : hitB xs s.toList
  · have HE := Lib.hid (bumpL_miss n hb)
    rw [hb] at HF
    clear hb
    generalize posN xs s.toList = i at *
    have HLen : Hid ((xs.take i ++ (⟨s, 0⟩ : Ct) :: xs.drop i).length = xs.length + 1) := Lib.hid (by simp; omega)
    have hget : (xs.take i ++ (⟨s, 0⟩ : Ct) :: xs.drop i)[i]? = some ⟨s, 0⟩ := by
      rw [List.getElem?_append_right (by simp; omega)]
      simp [Nat.min_eq_left hpl]
    have HSet : Hid ((xs.take i ++ (⟨s, 0⟩ : Ct) :: xs.drop i).set i ⟨s, n⟩ = xs.take i ++ (⟨s, n⟩ : Ct) :: xs.drop i) := Lib.hid (by
      rw [List.set_append, if_neg (by simp; omega)]
      simp [Nat.min_eq_left hpl])
    go_enter Tryz.func28, Tryz.ntmps28
    go_wp2_with fail
    refine HF.out.mono ?_
    rintro e w1 ⟨rfl, hb1⟩
    have hz1 := hb1.size
    have HI := Lib.hid (ins_any (.slice q xs.length cap) xs i ⟨s, 0⟩ w1.heap.size B (w1.alloc (.cells #[.string s, .int .i64 0] 55)) ((own_below HO.out hb1).alloc _) hpl (by omega) (heap_alloc_new w1 _) (by simp; omega) (fun k hk e => by have := (HO.out.lt k hk).2; omega))
    have HB1 : Hid (Below B w (w1.alloc (.cells #[.string s, .int .i64 0] 55))) := Lib.hid ((hb1.mono hBw).trans ((below_alloc1 _ _).mono (by omega)))
    clear hb1
    go_wp2_with fail
    refine HI.out.mono ?_
    rintro e w2 ⟨v', rfl, ho2, hb2⟩
    have HB2 := Lib.hid (HB1.out.trans hb2); clear hb2
    rw [← HLen.out] at ho2
    obtain ⟨q2, cap2, g2, rfl, hcap2, hq2⟩ := own_shape ho2
    obtain ⟨rfl, hge2⟩ := hq2 (by have := HLen.out; omega)
    have hget' := hget
    have hlt : i < (xs.take i ++ (⟨s, 0⟩ : Ct) :: xs.drop i).length := by have := HLen.out; omega
    rw [List.getElem?_eq_getElem hlt] at hget'
    have hgv := Option.some.inj hget'
    obtain ⟨o1, o2, o3, o4⟩ := own_value ho2 rfl i hlt
    rw [hgv] at o1
    have o5 := o4 n
    rw [hgv, HSet.out] at o5
    have HO5 := Lib.hid o5
    have hl5 := HLen.out
    clear o4 o5 hget hget' hgv ho2 HSet
    generalize xs.take i ++ (⟨s, 0⟩ : Ct) :: xs.drop i = ys at *
    have hwr : IntKind.i64.wrap (0 + n) = n := by rw [IntKind.wrap_i64]; omega
    have hz : (0 : Int) + n = n := by omega
    go_wp2
    go_ret
    refine ⟨.slice (some ⟨g2, 0, none⟩) (xs.length + 1) cap2, rfl, ?_, HB2.out.grown HO5.out.2 (by have := HB2.out.size; omega) (fun k hk => by have := Option.some.inj hk; omega)⟩
    rw [HE.out]
    have e1 := HO5.out.1
    have e2 : (xs.take i ++ (⟨s, n⟩ : Ct) :: xs.drop i).length = xs.length + 1 := by simp; omega
    rw [e2]
    rw [hl5] at e1
    exact e1
  · obtain ⟨hk, he⟩ := bumpL_set n hb
    have HE := Lib.hid he
    rw [hb] at HF
    clear hb he
    generalize posN xs s.toList = i at *
    have hvl := hV xs[i] (List.getElem_mem hk)
    obtain ⟨rfl, hge⟩ := hq (by omega)
    go_enter Tryz.func28, Tryz.ntmps28
    go_wp2_with fail
    refine HF.out.mono ?_
    rintro e w1 ⟨rfl, hb1⟩
    have hz1 := hb1.size
    obtain ⟨o1, o2, o3, o4⟩ := own_value (own_below HO.out hb1) rfl i hk
    have HO5 := Lib.hid (o4 (xs[i].vl + n))
    have HB1 := Lib.hid (hb1.mono hBw)
    clear o4 hb1
    have hwr : IntKind.i64.wrap (xs[i].vl + n) = xs[i].vl + n := by rw [IntKind.wrap_i64]; omega
    go_wp2
    go_ret
    refine ⟨_, rfl, ?_, HB1.out.grown HO5.out.2 (by omega) (fun k hk => by have := Option.some.inj hk; omega)⟩
    rw [HE.out, List.length_set]
    exact HO5.out.1
end Go.Proofs.YtmochhgmhhopoaaGreatDoor
