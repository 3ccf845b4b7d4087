/- The library's strings.Lines and its iterator, for every text of at most 2^20 bytes. -/
import Derived.Test.YtgmccafmopgjaaaGreatDoorRfCell
import Derived.Test.YtgmccafmopgjaaaGreatDoorShelf
import Derived.Shelf.Abstract
import Derived.WalkKit
import Derived.OwnWalkIn
import Derived.TacticsInMore
import Derived.LoopNIn
import Derived.LoopIn
import Derived.RegionIn
import Derived.Shelf.RegionOpen
import Derived.Shelf.Small.Strs
namespace Go.Proofs.YtgmccafmopgjaaaGreatDoor
open Go Go.RowKit Go.Shelf

attribute [local go_sem] Oper.semAt_some

theorem idxB_hit {c : UInt8} {a : List UInt8} (b : List UInt8) (h : c ∉ a) : Lib.indexByte (a ++ c :: b) c = a.length := by
  induction a with
  | nil => simp [Lib.indexByte]
  | cons x a ih =>
    rw [List.mem_cons, not_or] at h
    have hx : (x == c) = false := by rw [beq_eq_false_iff_ne]; exact fun e => h.1 e.symm
    rw [List.cons_append, Lib.indexByte, ih h.2, hx]
    have : ((a.length : Int) == -1) = false := by rw [beq_eq_false_iff_ne]; omega
    rw [this]; simp
theorem idxB_miss {c : UInt8} {l : List UInt8} (h : c ∉ l) : Lib.indexByte l c = -1 := by
  induction l with
  | nil => rfl
  | cons x l ih =>
    rw [List.mem_cons, not_or] at h
    have hx : (x == c) = false := by rw [beq_eq_false_iff_ne]; exact fun e => h.1 e.symm
    rw [Lib.indexByte, ih h.2, hx]; rfl
theorem ba_list {r : ByteArray} : r.data.toList.length = r.size := Array.length_toList
theorem ext_list (s : ByteArray) (a b : Nat) : (s.extract a b).data.toList = (s.data.toList.drop a).take (b - a) := by
  rw [ByteArray.data_extract, Array.toList_extract, List.extract_eq_take_drop]
/-- the bytes that a box holds -/
def szAt (b : Nat) (w : World) : Nat := match w.cell? ⟨b, 0, none⟩ with
  | some (.string r) => r.size
  | _ => 0
theorem szAt_of {b : Nat} {t : TypeId} {w : World} {r : ByteArray} (h : Boxed w b t (.string r)) : szAt b w = r.size := by rw [szAt, h.cell]
theorem LnAt.next {s : ByteArray} {pre : List ByteArray} {x : ByteArray} {more : List (List UInt8)} (h : LnAt s pre (x.data.toList :: more)) : LnAt s (pre ++ [x]) more := by
  rw [LnAt] at h ⊢
  rw [← h]; simp
set_option maxRecDepth 100000 in
set_option maxHeartbeats 4000000 in
theorem lines_seq (n : Nat) (hn : 1 ≤ n) (b : Nat) (s : ByteArray) (hs : s.size ≤ 1048576) : CellSeq Fence.wide n Tryz.prog 61 b 9 s := by
  intro l J Jx W hJ hY hb h0
  have HJ := Lib.hid hJ; clear hJ
  have HY := Lib.hid hY; clear hY
  refine callsIn_of_wp Tryz.func61 rfl trivial ?_ rfl
  simp only [Tryz.ntmps61, List.size_toArray, List.length_cons, List.length_nil, Nat.reduceAdd, Nat.reduceSub, Array.replicate_succ, Array.replicate_zero, List.push_toArray, List.append_toArray, List.nil_append, List.cons_append]
  gi_wp2
  gi_loopw [3, 4] (fun _ _ wr => ∃ pre r, Boxed wr b 9 (.string r) ∧ Hid (LnAt s pre (lns r.data.toList)) ∧ r.size ≤ s.size ∧ Hid (J pre wr)) (fun _ _ wr => szAt b wr)
  case atStart => exact ⟨[], s, hb, Lib.hid rfl, Nat.le_refl _, Lib.hid h0⟩
  case round =>
    obtain ⟨pre, r, hbx, hln, hrs, hj⟩ := hrel
    have hc := hbx.cell
    have hf := hbx.frozen
    have hg : ∀ v, wr.grownBy (wr.setCell ⟨b, 0, none⟩ v) (some b) := fun v => grownBy_setCell' wr b v
    by_cases hr0 : r.size = 0
    · gi_wp2
      go_end0
      refine ⟨⟨_, rfl⟩, .inl ⟨pre, ?_, hj.out⟩⟩
      have : r.data.toList = [] := List.length_eq_zero_iff.1 (ba_list.trans hr0)
      have h := hln.out
      rw [this] at h
      exact h
    · by_cases hm : (10 : UInt8) ∈ r.data.toList
      · obtain ⟨a, rest, hab, hna⟩ := idx_mem hm
        have hi : Lib.indexByte r.data.toList 10 = (a.length : Int) := by rw [hab]; exact idxB_hit rest hna
        have hsz : a.length + 1 + rest.length = r.size := by
          rw [← ba_list, hab]; simp; omega
        have h1 : IntKind.i64.wrap ((a.length : Int) + 1) = ((a.length + 1 : Nat) : Int) := by rw [IntKind.wrap_i64]; omega
        have h2 : (((a.length + 1 : Nat) : Int)).toNat = a.length + 1 := by omega
        have ea : (r.extract 0 (a.length + 1)).data.toList = a ++ [10] := by
          rw [ext_list, List.drop_zero, Nat.sub_zero, hab, List.take_append, List.take_of_length_le (by omega), show a.length + 1 - a.length = 1 from by omega]; rfl
        have eb : (r.extract (a.length + 1) r.size).data.toList = rest := by
          rw [ext_list, hab, List.drop_append, List.drop_of_length_le (by omega), show a.length + 1 - a.length = 1 from by omega, List.take_of_length_le (by simp; omega)]; rfl
        clear hm
        have HL : Hid (LnAt s pre ((r.extract 0 (a.length + 1)).data.toList :: lns (r.extract (a.length + 1) r.size).data.toList)) := Lib.hid (by
          have h := hln.out
          rw [hab, lns_hit rest hna] at h
          rw [ea, eb]; exact h)
        have hx2 : (r.extract (a.length + 1) r.size).size = r.size - (a.length + 1) := by simp
        clear ea eb hab hna
        generalize hx : r.extract 0 (a.length + 1) = x at *
        generalize hy : r.extract (a.length + 1) r.size = y at *
        gi_wp2_with (refine ⟨trivial, ?_⟩; gi_at_call 62; refine (callsIn_wide.2 (Any.strings_IndexByte Tryz.lays137 r 10 _)).mono ?_; rintro e w' ⟨rfl, rfl⟩)
        gi_region
        have hbA : Boxed (w'.setCell ⟨b, 0, none⟩ (.string y)).drew b 9 (.string y) := hbx.set (.string y)
        have hgA : w'.grownBy (w'.setCell ⟨b, 0, none⟩ (.string y)).drew (some b) := grown_trans (hg (.string y)) (grown_of_below (below_eq ⟨1, rfl⟩))
        obtain ⟨fn, tmps, assign, body, hq, hR⟩ := HY.out pre x _ _ _ HL.out (HJ.out _ _ _ hj.out hgA) hbA
        clear hgA
        gi_wp2
        refine hR.mono ?_
        rintro e W3 (⟨rfl, hJ3, hb3⟩ | ⟨rfl, hJx3⟩)
        · have hm2 := szAt_of hb3
          have hm1 := szAt_of hbx
          gi_wp2
          go_roundw
          case rel => exact ⟨_, _, hb3, Lib.hid (LnAt.next HL.out), by omega, Lib.hid hJ3⟩
          case measure => rw [hm1, hm2]; omega
        · gi_wp2
          refine bodyPost_ret (results_none rfl _ _ _) rfl ?_
          exact ⟨⟨_, rfl⟩, .inr hJx3⟩
      · have hi : Lib.indexByte r.data.toList 10 = -1 := idxB_miss hm
        have hne : r.data.toList ≠ [] := by
          intro h
          rw [← ba_list, h] at hr0
          exact hr0 rfl
        have hx : LnAt s pre (r.data.toList :: lns (⟨#[]⟩ : ByteArray).data.toList) := by
          have h := hln.out
          rw [lns_miss hm hne] at h
          exact h
        have hbA := hbx.set (.string ⟨#[]⟩)
        obtain ⟨fn, tmps, assign, body, hy, hR⟩ := HY.out pre r _ _ _ hx (HJ.out _ _ _ hj.out (hg (.string ⟨#[]⟩))) hbA
        have hc2 := hbA.cell
        clear hm hne
        gi_wp2_with (refine ⟨trivial, ?_⟩; gi_at_call 62; refine (callsIn_wide.2 (Any.strings_IndexByte Tryz.lays137 r 10 _)).mono ?_; rintro e w' ⟨rfl, rfl⟩)
        refine hR.mono ?_
        rintro e W3 (⟨rfl, hJ3, hb3⟩ | ⟨rfl, hJx3⟩)
        · have hm2 := szAt_of hb3
          have hm1 := szAt_of hbx
          gi_wp2
          go_roundw
          case rel => exact ⟨_, _, hb3, Lib.hid (LnAt.next hx), Nat.zero_le _, Lib.hid hJ3⟩
          case measure => rw [hm1, hm2]; show 0 < r.size; omega
        · gi_wp2
          refine bodyPost_ret (results_none rfl _ _ _) rfl ?_
          exact ⟨⟨_, rfl⟩, .inr hJx3⟩
set_option maxHeartbeats 1000000 in
theorem lines_any (n : Nat) (s : ByteArray) (w : World) :
    CallsIn Fence.wide n Tryz.prog 41 #[.string s] w fun e w' => e = .returned (.func (.func 61) #[] #[.pointer (some ⟨w.heap.size, 0, none⟩)]) ∧ w' = w.alloc (.cells #[.string s] 9) := by
  refine callsIn_of_wp Tryz.func41 rfl trivial ?_ rfl
  simp only [Tryz.ntmps41, List.size_toArray, List.length_cons, List.length_nil, Nat.reduceAdd, Nat.reduceSub, Array.replicate_succ, Array.replicate_zero, List.push_toArray, List.append_toArray, List.nil_append, List.cons_append]
  gi_wp2
  go_ret
  exact ⟨rfl, rfl⟩
end Go.Proofs.YtgmccafmopgjaaaGreatDoor
