/- Ticks spread: the program's and the reference's SpreadTicks, for all arguments. -/
import Derived.Test.YtbkkggbpekhenaaDraw4
import Derived.Test.YtbkkggbpekhenaaSpMath
import Derived.Test.YtbkkggbpekhenaaKeep
import Derived.Test.YtbkkggbpekhenaaShelf
import Derived.Shelf.Sort.Plain
import Derived.Shelf.Slices.In.SortNone
import Derived.Sort.OwnSortedInts
import Derived.BigQuiet
import Derived.Handy
namespace Go.Proofs.Ytbkkggbpekhenaa
open Go.RowKit

def spB (s f c n : Int) : Bool := inR f 0 1000000 && (inR n 1 1000 && rbB s n c)
def spS (s f c n : Int) : Int := if spB s f c n = true then stN s c.toNat else 0
/-- the draws, moved -/
def mvL (s f n : Int) (k : Nat) : List Int := (rollsL s n k).map (fun x => f + x)
def spT (s f c n : Int) : List Int := if spB s f c n = true then putN (mvL s f n c.toNat) c.toNat else []
theorem mvL_length (s f n : Int) (k : Nat) : (mvL s f n k).length = k := by rw [mvL, List.length_map, rollsL_length]
theorem spNo {s f c n : Int} (h : spB s f c n = false) : Hid (spS s f c n = 0 ∧ spT s f c n = [] ∧ spB s f c n = false) := Lib.hid ⟨by rw [spS, h]; rfl, by rw [spT, h]; rfl, h⟩
/-- the first k moved, the others not yet -/
def halfL (rs : List Int) (f : Int) (k : Nat) : List Int := (rs.take k).map (fun x => x + f) ++ rs.drop k
theorem halfL_length (rs : List Int) (f : Int) (k : Nat) : (halfL rs f k).length = rs.length := by
  rw [halfL, List.length_append, List.length_map, List.length_take, List.length_drop]; omega
theorem halfL_get (rs : List Int) (f : Int) (k : Nat) (h : k < rs.length) : (halfL rs f k)[k]? = some rs[k] := by
  rw [halfL, List.getElem?_append_right (by simp; omega), List.getElem?_drop]
  simp only [List.length_map, List.length_take]
  rw [show k + (k - min k rs.length) = k from by omega, List.getElem?_eq_getElem h]
theorem halfL_set (rs : List Int) (f : Int) (k : Nat) (h : k < rs.length) : (halfL rs f k).set k (rs[k] + f) = halfL rs f (k + 1) := by
  have hl : ((rs.take k).map (fun x => x + f)).length = k := by rw [List.length_map, List.length_take]; omega
  rw [halfL, halfL, List.set_append, if_neg (by omega), hl, Nat.sub_self, List.drop_eq_getElem_cons h, List.take_succ_eq_append_getElem h, List.map_append, List.set_cons_zero, List.append_assoc]
  rfl
theorem halfL_zero (rs : List Int) (f : Int) : halfL rs f 0 = rs := by simp [halfL]
theorem halfL_end (rs : List Int) (f : Int) : halfL rs f rs.length = rs.map (fun x => x + f) := by simp [halfL]
theorem sortI_any (v : Value) (xs : List Int) (B : Nat) (w : World) (ho : w.ownsRow B 3 1 v xs.length (xs.map (Value.int .i64))) (hB : B ≤ w.heap.size) (hlen : xs.length ≤ 1000) :
    Calls Try.prog 30 #[v] w fun e w' => e = .returned (.tuple #[]) ∧ w'.ownsRow B 3 1 v xs.length ((xs.mergeSort fun x y => decide (x ≤ y)).map (Value.int .i64)) ∧ Below B w w' := by
  have ho0 := ho
  obtain ⟨hl, h⟩ := ho
  rcases h with ⟨rfl, h0⟩ | ⟨g, cap, cur, rfl, hg, hh, h1, h2, h3, h4⟩
  · have hx : xs = [] := List.length_eq_zero_iff.1 h0
    subst hx
    refine (Any.slices_Sort_int_none Try.lays189 none 0 w).mono ?_
    rintro e w' ⟨rfl, rfl⟩
    exact ⟨rfl, by simpa using ho0, Below.refl _ _⟩
  · have hH := holds_of_blockI hh (by simpa using h4)
    refine (Any.slices_Sort_int Try.lays189 g 0 cap xs w hH (Array.getElem?_eq_some_iff.1 hh).1 (by omega)).mono ?_
    rintro e w' ⟨rfl, q, os, rfl⟩
    exact ⟨rfl, ownsRow_sortedI (by simp) hg hh h1 h2 h3, (Below.refl B w).grown (grownBy_sortedI _) hB (fun j hj => by cases hj; exact hg)⟩
set_option maxRecDepth 100000 in
set_option maxHeartbeats 4000000 in
theorem implSpread_any (s f c n : Int) (w : World) :
    Calls Try.prog 6 #[.int .i64 s, .int .i64 f, .int .i64 c, .int .i64 n] w fun e w' => ∃ v, e = .returned (.tuple #[.int .i64 (spS s f c n), v, .bool (spB s f c n)]) ∧ OwI w.heap.size w' v (spT s f c n) ∧ Below w.heap.size w w' := by
  cases h1 : inR f 0 1000000
  · have HX := spNo (s := s) (f := f) (c := c) (n := n) (by rw [spB, h1]; rfl)
    go_enter Try.func6, Try.ntmps6
    go_wp2_with ((go_at_call 29; refine (within_any _ _ _ _).mono ?_; rintro e w' ⟨rfl, rfl⟩))
    refine bodyPost_ret (v := (.tuple #[.int .i64 0, .slice none 0 0, .bool false])) (by simp [results, Try.results6, go_sem, *]) rfl ?_
    exact ⟨_, by rw [HX.out.1, HX.out.2.2], by rw [HX.out.2.1]; exact owI_nil _ _, Below.refl _ _⟩
  · cases h2 : inR n 1 1000
    · have HX := spNo (s := s) (f := f) (c := c) (n := n) (by rw [spB, h1, h2]; rfl)
      go_enter Try.func6, Try.ntmps6
      go_wp2_with ((go_at_call 29; refine (within_any _ _ _ _).mono ?_; rintro e w' ⟨rfl, rfl⟩))
      refine bodyPost_ret (v := (.tuple #[.int .i64 0, .slice none 0 0, .bool false])) (by simp [results, Try.results6, go_sem, *]) rfl ?_
      exact ⟨_, by rw [HX.out.1, HX.out.2.2], by rw [HX.out.2.1]; exact owI_nil _ _, Below.refl _ _⟩
    · have HR := Lib.hid (fun w => implRolls_any s n c w)
      have HE : Hid (spB s f c n = rbB s n c) := Lib.hid (by rw [spB, h1, h2]; rfl)
      cases h3 : rbB s n c
      · have HX := spNo (s := s) (f := f) (c := c) (n := n) (by rw [HE.out, h3])
        rw [h3] at HR
        go_enter Try.func6, Try.ntmps6
        go_wp2_with (first | (go_at_call 29; refine (within_any _ _ _ _).mono ?_; rintro e w' ⟨rfl, rfl⟩) | fail)
        refine (HR.out _).mono ?_
        rintro e w1 ⟨v, rfl, ho, hb⟩
        have HB := Lib.hid hb; clear hb
        go_wp2
        refine bodyPost_ret (v := (.tuple #[.int .i64 0, .slice none 0 0, .bool false])) (by simp [results, Try.results6, go_sem, *]) rfl ?_
        exact ⟨_, by rw [HX.out.1, HX.out.2.2], by rw [HX.out.2.1]; exact owI_nil _ _, HB.out⟩
      · have h4 := h3
        rw [rbB, Bool.and_eq_true, Bool.and_eq_true, inR_true, inR_true, inR_true] at h4
        have hf := inR_true.1 h1
        have hn := inR_true.1 h2
        have HL : Hid (rbL s n c = rollsL s n c.toNat) := Lib.hid (by rw [rbL, if_pos h3])
        have HV : Hid (spB s f c n = true ∧ spS s f c n = rbS s n c ∧ spT s f c n = ((rollsL s n c.toNat).map (fun x => x + f)).mergeSort (fun x y => decide (x ≤ y))) := Lib.hid ⟨by rw [HE.out, h3], by rw [spS, HE.out, if_pos h3, rbS, if_pos h3], by
          have hm := put_merge (mvL s f n c.toNat)
          rw [mvL_length] at hm
          rw [spT, HE.out, if_pos h3, hm, mvL, show (fun x : Int => f + x) = (fun x => x + f) from funext fun x => Int.add_comm f x]⟩
        have hrl := rollsL_length s n c.toNat
        have hrr : ∀ k (h : k < (rollsL s n c.toNat).length), 0 ≤ (rollsL s n c.toNat)[k] ∧ (rollsL s n c.toNat)[k] ≤ 1000 := fun k h => by
          rw [rollsL_get s n c.toNat k (by omega)]
          have := drawV_range (stN s k) n (by omega) (by omega)
          omega
        rw [h3] at HR
        generalize rbS s n c = z at *
        have HRR := Lib.hid hrr; clear hrr
        rw [show rbL s n c = rollsL s n c.toNat from HL.out] at HR
        generalize rollsL s n c.toNat = rs at *
        have hc50 : rs.length ≤ 50 := by omega
        clear hrl
        go_enter Try.func6, Try.ntmps6
        go_wp2_with (first | (go_at_call 29; refine (within_any _ _ _ _).mono ?_; rintro e w' ⟨rfl, rfl⟩) | fail)
        refine (HR.out _).mono ?_
        rintro e w1 ⟨v, rfl, ho, hb⟩
        have HB := Lib.hid hb; clear hb
        have hlen := ho.2
        obtain ⟨p, cap, g, rfl, hcap, hp⟩ := own_shape ho.1
        have HP := Lib.hid hp; clear hp
        have HO := Lib.hid ho.1; clear ho
        go_wp2
        go_loopw [14, 35] (fun _ i wr => ∃ k : Nat, k ≤ rs.length ∧ i = .int .i64 k ∧ Hid (wr.ownsRow w.heap.size 3 1 (.slice p rs.length cap) rs.length ((halfL rs f k).map (Value.int .i64))) ∧ Hid (Below w.heap.size w wr)) (fun _ i _ => rs.length - (intOf i).toNat)
        case atStart => exact ⟨0, Nat.zero_le _, rfl, Lib.hid (by rw [halfL_zero]; exact HO.out), HB⟩
        case round =>
          clear HO HB
          obtain ⟨k, hk, rfl, HO, HB⟩ := hrel
          by_cases hlt : k < rs.length
          · obtain ⟨rfl, hge⟩ := HP.out (by omega)
            obtain ⟨r1, r2⟩ := HRR.out k hlt
            have c1 : wr.cell? ⟨g, k, none⟩ = some (.int .i64 rs[k]) := by rw [HO.out.cellAt k (by omega), List.getElem?_map, halfL_get rs f k hlt]; rfl
            have f1 := HO.out.frozenAt k
            have hst := HO.out.stored k (.int .i64 (rs[k] + f))
            have HST := Lib.hid hst; clear hst
            have HSE : Hid (((halfL rs f k).map (Value.int .i64)).set k (.int .i64 (rs[k] + f)) = (halfL rs f (k + 1)).map (Value.int .i64)) := Lib.hid (by rw [← halfL_set rs f k hlt, List.map_set])
            have hlw := (HO.out.lt g rfl).2
            go_wp2
            go_roundw
            case rel => exact ⟨k + 1, by omega, by go_num, Lib.hid (by rw [← HSE.out]; exact HST.out.1), Lib.hid (HB.out.grown HST.out.2 HB.out.size (fun j hj => by cases hj; exact hge))⟩
            case measure => simp [intOf]; omega
          · obtain rfl : k = rs.length := by omega
            rw [halfL_end] at HO
            have hy : (rs.map (fun x => x + f)).length = rs.length := List.length_map ..
            have HSo := Lib.hid (sortI_any (.slice p rs.length cap) (rs.map fun x => x + f) w.heap.size wr (by rw [hy]; exact HO.out) HB.out.size (by omega))
            have hts : ((rs.map fun x => x + f).mergeSort (fun x y => decide (x ≤ y))).length = rs.length := by rw [List.length_mergeSort, hy]
            rw [hy] at HSo
            clear hy
            generalize (rs.map fun x => x + f).mergeSort (fun x y => decide (x ≤ y)) = ts at *
            have HTS := Lib.hid hts; clear hts
            go_wp2_with fail
            refine HSo.out.mono ?_
            rintro e w2 ⟨rfl, ho2, hb2⟩
            have HO2 := Lib.hid ho2; clear ho2
            have HB2 := Lib.hid (HB.out.trans hb2); clear hb2
            go_wp2
            refine bodyPost_ret (v := (.tuple #[.int .i64 z, .slice p rs.length cap, .bool true])) (by simp [results, Try.results6, go_sem, *]) rfl ?_
            exact ⟨_, by rw [HV.out.1, HV.out.2.1], by rw [HV.out.2.2]; exact ⟨by rw [HTS.out]; exact HO2.out, by rw [HTS.out]; omega⟩, HB2.out⟩
end Go.Proofs.Ytbkkggbpekhenaa
