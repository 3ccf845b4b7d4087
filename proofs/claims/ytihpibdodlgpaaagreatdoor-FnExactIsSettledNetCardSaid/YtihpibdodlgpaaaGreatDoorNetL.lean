/- Children and leaves of trees, packets in queues: contracts on the reference's l6Children and l15Leaf, the program's leaves and queued. -/
import Derived.Test.YtihpibdodlgpaaaGreatDoorNetX0
namespace Go.Proofs.YtihpibdodlgpaaaGreatDoor
open Go.RowKit

/-- the nodes below k, but for the first, whose parent is n -/
def chL (pa : List Int) (n : Int) : Nat → List Int
  | 0 => []
  | k + 1 => chL pa n k ++ (if k ≠ 0 ∧ pa[k]? = some n then [(k : Int)] else [])
theorem chL_len (pa : List Int) (n : Int) (k : Nat) : (chL pa n k).length ≤ k := by
  induction k with
  | zero => simp [chL]
  | succ k ih =>
    rw [chL, List.length_append]
    split <;> simp <;> omega
theorem chL_one (pa : List Int) (n : Int) : chL pa n 1 = [] := by simp [chL]
theorem chL_yes {pa : List Int} {n : Int} {k : Nat} (h0 : k ≠ 0) (h : k < pa.length) (he : pa[k] = n) : chL pa n (k + 1) = chL pa n k ++ [(k : Int)] := by
  rw [chL, if_pos ⟨h0, by rw [List.getElem?_eq_getElem h, he]⟩]
theorem chL_no {pa : List Int} {n : Int} {k : Nat} (h : k < pa.length) (he : pa[k] ≠ n) : chL pa n (k + 1) = chL pa n k := by
  rw [chL, if_neg (by rw [List.getElem?_eq_getElem h]; intro hh; exact he (Option.some.inj hh.2)), List.append_nil]
theorem chL_nil {pa : List Int} {n : Int} : ∀ {k : Nat}, chL pa n k = [] ↔ ∀ j, j < k → j ≠ 0 → pa[j]? ≠ some n
  | 0 => by simp [chL]
  | k + 1 => by
    have ih := chL_nil (pa := pa) (n := n) (k := k)
    rw [chL, List.append_eq_nil_iff, ih]
    constructor
    · rintro ⟨h1, h2⟩ j hj h0 he
      by_cases hk : j = k
      · subst hk
        rw [if_pos ⟨h0, he⟩] at h2; cases h2
      · exact h1 j (by omega) h0 he
    · intro h
      refine ⟨fun j hj h0 => h j (by omega) h0, if_neg fun hh => h k (by omega) hh.1 hh.2⟩
theorem chL_leaf (pa : List Int) (n : Int) : decide (((chL pa n pa.length).length : Int) = 0) = lfB pa n := by
  have h1 : (((chL pa n pa.length).length : Int) = 0) ↔ chL pa n pa.length = [] := by
    rw [← List.length_eq_zero_iff]; omega
  rw [decide_eq_decide.2 (h1.trans chL_nil), lfB]
  cases hb : (pa.drop 1).any fun x => decide (x = n) with
  | false =>
    refine decide_eq_true fun j hj h0 he => ?_
    have := List.any_eq_false.1 hb n (List.mem_of_getElem? (i := j - 1) (by rw [List.getElem?_drop, show 1 + (j - 1) = j from by omega]; exact he))
    simp at this
  | true =>
    refine decide_eq_false fun h => ?_
    obtain ⟨x, hx, he⟩ := List.any_eq_true.1 hb
    obtain ⟨i, hi⟩ := List.getElem?_of_mem hx
    rw [List.getElem?_drop] at hi
    have hl := (List.getElem?_eq_some_iff.1 hi).1
    exact h (1 + i) hl (by omega) (by rw [hi, of_decide_eq_true he])
/-- the leaves below k -/
def lvL (pa : List Int) : Nat → List Int
  | 0 => []
  | k + 1 => lvL pa k ++ (if hasB pa (k : Int) = true then [] else [(k : Int)])
theorem lvL_len (pa : List Int) (k : Nat) : (lvL pa k).length ≤ k := by
  induction k with
  | zero => simp [lvL]
  | succ k ih =>
    rw [lvL, List.length_append]
    split <;> simp <;> omega
theorem lvL_mem {pa : List Int} {x : Int} : ∀ {k : Nat}, x ∈ lvL pa k ↔ ∃ j : Nat, j < k ∧ x = (j : Int) ∧ hasB pa (j : Int) = false
  | 0 => by simp [lvL]
  | k + 1 => by
    have ih := lvL_mem (pa := pa) (x := x) (k := k)
    rw [lvL, List.mem_append, ih]
    constructor
    · rintro (⟨j, h1, h2, h3⟩ | h)
      · exact ⟨j, by omega, h2, h3⟩
      · cases hh : hasB pa (k : Int) with
        | true => rw [if_pos hh] at h; cases h
        | false =>
          rw [if_neg (by rw [hh]; simp)] at h
          exact ⟨k, by omega, List.mem_singleton.1 h, hh⟩
    · rintro ⟨j, h1, h2, h3⟩
      by_cases hk : j = k
      · subst hk
        right
        rw [if_neg (by rw [h3]; simp)]
        exact List.mem_singleton.2 h2
      · exact .inl ⟨j, by omega, h2, h3⟩
/-- how many packets there are in queues -/
def tqN (xs : List (List NPk)) : Nat := (xs.map List.length).sum
theorem tqN_succ {xs : List (List NPk)} {k : Nat} (h : k < xs.length) : tqN (xs.take (k + 1)) = tqN (xs.take k) + xs[k].length := by
  rw [List.take_succ_eq_append_getElem h, tqN, List.map_append, List.sum_append, tqN]; simp

set_option maxRecDepth 100000 in
set_option maxHeartbeats 4000000 in
theorem sChildren_any (pa : List Int) (n : Int) (v : Value) (w : World) (h : kI.At 0 w v pa) (hn : pa.length ≤ 1048576) (h1 : 1 ≤ pa.length) :
    Calls Tryz.prog 59 #[.agg #[v], .int .i64 n] w fun e w' => ∃ v', e = .returned v' ∧ OwI w.heap.size w' v' (chL pa n pa.length) ∧ Below w.heap.size w w' := by
  have hR := rdI_of h hn
  obtain ⟨p, cap, b, off, rfl, hcap, hp, hcell⟩ := hR.parts
  clear h hR
  obtain rfl := hp (by omega)
  obtain ⟨i0, hi, hz0, hz1, hz2⟩ := info_parts infoInt
  have HC := Lib.hid (fun k (hk : k < pa.length) => cell_on (below_alloc1 w (.cells #[.slice (some ⟨b, off, none⟩) pa.length cap] 39)) (hcell k hk)); clear hcell hp
  have HB0 : Hid (Below w.heap.size w (w.alloc (.cells #[.slice (some ⟨b, off, none⟩) pa.length cap] 39))) := Lib.hid (below_alloc1 _ _)
  have HX0 : Hid ((w.alloc (.cells #[.slice (some ⟨b, off, none⟩) pa.length cap] 39)).cell? ⟨w.heap.size, 0, none⟩ = some (.slice (some ⟨b, off, none⟩) pa.length cap)) := Lib.hid (by simp)
  have hsz0 : (w.alloc (.cells #[.slice (some ⟨b, off, none⟩) pa.length cap] 39)).heap.size = w.heap.size + 1 := by simp
  go_enter Tryz.func59, Tryz.ntmps59
  go_wp2
  go_loopw [5, 6] (fun v i wr => ∃ k : Nat, 1 ≤ k ∧ k ≤ pa.length ∧ i = .int .i64 k ∧ OwI (w.alloc (.cells #[.slice (some ⟨b, off, none⟩) pa.length cap] 39)).heap.size wr v (chL pa n k) ∧ Hid (Below (w.alloc (.cells #[.slice (some ⟨b, off, none⟩) pa.length cap] 39)).heap.size (w.alloc (.cells #[.slice (some ⟨b, off, none⟩) pa.length cap] 39)) wr)) (fun _ i _ => pa.length - (intOf i).toNat)
  case atStart => exact ⟨1, Nat.le_refl _, h1, rfl, by rw [chL_one]; refine ⟨?_, by simp⟩; have h := World.ownsRow_lit (e := 3) (size := 1) (w.alloc (.cells #[.slice (some ⟨b, off, none⟩) pa.length cap] 39)) #[] 0 (Nat.le_refl _) (Nat.zero_le _) rfl; simpa using h, Lib.hid (below_alloc1 _ _)⟩
  case round =>
    obtain ⟨k, hk1, hk, rfl, hown, HB⟩ := hrel
    have c0 := cell_on HB.out HX0.out
    have hsz := HB.out.size
    by_cases hlt : k < pa.length
    · have c1 := cell_on HB.out (HC.out k hlt)
      by_cases hx : pa[k] = n
      · have HS : Hid (chL pa n (k + 1) = chL pa n k ++ [(k : Int)]) := Lib.hid (chL_yes (by omega) hlt hx)
        have hlen := chL_len pa n k
        obtain ⟨L, hL⟩ : ∃ L, chL pa n k = L := ⟨_, rfl⟩
        rw [hL] at HS hown hlen
        clear hL
        have hO := hown.1
        generalize pa[k] = x at *
        subst hx
        go_wp2_with (at_builtin; refine wpList_append_own _ rfl _ _ 22 rfl (w.alloc (.cells #[.slice (some ⟨b, off, none⟩) pa.length cap] 39)).heap.size 3 i0 (.int .i64 0) 1 8 Tryz.underlying22 hi hz0 hz1 hz2 rfl (by decide) _ _ _ rfl (hO.alloc _) ⟨wr.heap.size, 0, none⟩ 1 1 [.int .i64 (k : Int)] rfl rfl ?c1 ?c2 ?c3 ?c4 ?c5 ?_)
        case c1 => exact cells_new _ #[_] _
        case c2 => intro u hu; simp at hu; subst hu; rfl
        case c3 => unfold maxLen; omega
        case c4 => omega
        case c5 => simp; omega
        intro v' w1 hown' hgrow _
        go_wp2
        go_roundw
        case rel => exact ⟨k + 1, by omega, by omega, by go_num, by rw [HS.out]; exact ⟨by simpa using hown', by simp; omega⟩, Lib.hid ((HB.out.alloc hsz _).grown hgrow (by simp; omega) (fun j hj => (hO.lt j hj).1))⟩
        case measure => simp [intOf]; omega
      · have HS : Hid (chL pa n (k + 1) = chL pa n k) := Lib.hid (chL_no hlt hx)
        generalize pa[k] = x at *
        obtain ⟨L, hL⟩ : ∃ L, chL pa n k = L := ⟨_, rfl⟩
        rw [hL] at HS hown
        clear hL
        go_wp2
        go_roundw
        case rel => exact ⟨k + 1, by omega, by omega, by go_num, by rw [HS.out]; exact hown, HB⟩
        case measure => simp [intOf]; omega
    · obtain rfl : k = pa.length := by omega
      have hown2 := hown.base (B' := w.heap.size) (by omega)
      have HF := Lib.hid (HB0.out.trans (HB.out.mono HB0.out.size))
      go_wp2
      go_ret
      exact ⟨_, rfl, hown2, HF.out⟩

set_option maxRecDepth 100000 in
set_option maxHeartbeats 4000000 in
theorem sLeaf_any (pa : List Int) (n : Int) (v : Value) (w : World) (h : kI.At 0 w v pa) (hn : pa.length ≤ 1048576) (h1 : 1 ≤ pa.length) (h0 : 0 < n) :
    Calls Tryz.prog 30 #[.agg #[v], .int .i64 n] w fun e w' => e = .returned (.bool (lfB pa n)) ∧ Below w.heap.size w w' := by
  have HL := Lib.hid (chL_leaf pa n)
  have H := Lib.hid (fun w h => sChildren_any pa n v w h hn h1)
  have HA := Lib.hid h
  obtain ⟨p, cap, _, _, rfl, _, _, _⟩ := h.parts
  have hlen := chL_len pa n pa.length
  obtain ⟨L, hL⟩ : ∃ L, chL pa n pa.length = L := ⟨_, rfl⟩
  rw [hL] at HL H hlen
  clear hL h
  go_enter Tryz.func30, Tryz.ntmps30
  go_wp2_with fail
  refine (H.out _ (HA.out.below (by go_grown))).mono ?_
  rintro e w1 ⟨v', rfl, hown, hb⟩
  obtain ⟨p', cap', _, _, rfl, _, _, _⟩ := hown.rd.parts
  have HB : Hid (Below w.heap.size w w1) := Lib.hid (Below.trans (by go_grown) (hb.mono (by simp <;> omega)))
  clear hown hb
  go_wp2
  go_ret
  exact ⟨ret_bool (by rw [← HL.out]; rfl), HB.out⟩

set_option maxRecDepth 100000 in
set_option maxHeartbeats 4000000 in
theorem nLeaves_any (pa : List Int) (v : Value) (w : World) (h : kI.At 0 w v pa) (hn : pa.length ≤ 1048576) :
    Calls Tryz.prog 32 #[.agg #[v]] w fun e w' => ∃ v', e = .returned v' ∧ OwI w.heap.size w' v' (lvL pa pa.length) ∧ Below w.heap.size w w' := by
  have HA := Lib.hid h
  obtain ⟨p, cap, _, _, rfl, hcap, _, _⟩ := h.parts
  clear h
  obtain ⟨i0, hi, hz0, hz1, hz2⟩ := info_parts infoInt
  have HB0 : Hid (Below w.heap.size w (w.alloc (.cells #[.slice p pa.length cap] 39))) := Lib.hid (below_alloc1 _ _)
  have HX0 : Hid ((w.alloc (.cells #[.slice p pa.length cap] 39)).cell? ⟨w.heap.size, 0, none⟩ = some (.slice p pa.length cap)) := Lib.hid (by simp)
  have hsz0 : (w.alloc (.cells #[.slice p pa.length cap] 39)).heap.size = w.heap.size + 1 := by simp
  go_enter Tryz.func32, Tryz.ntmps32
  go_wp2
  go_loopw [3, 4, 8] (fun v _ i wr => ∃ k : Nat, k ≤ pa.length ∧ i = .int .i64 k ∧ OwI (w.alloc (.cells #[.slice p pa.length cap] 39)).heap.size wr v (lvL pa k) ∧ Hid (Below (w.alloc (.cells #[.slice p pa.length cap] 39)).heap.size (w.alloc (.cells #[.slice p pa.length cap] 39)) wr)) (fun _ _ i _ => pa.length - (intOf i).toNat)
  case atStart => exact ⟨0, Nat.zero_le _, rfl, ⟨World.ownsRow_nil _ _ _ _, by simp [lvL]⟩, Lib.hid (Below.refl _ _)⟩
  case round =>
    obtain ⟨k, hk, rfl, hown, HB⟩ := hrel
    have c0 := cell_on HB.out HX0.out
    have hsz := HB.out.size
    by_cases hlt : k < pa.length
    · have hlen := lvL_len pa k
      obtain ⟨L, hL⟩ : ∃ L, lvL pa k = L := ⟨_, rfl⟩
      have HLf := Lib.hid (nLeaf_any pa (k : Int) (.slice p pa.length cap) wr (HA.out.below (HB0.out.trans (HB.out.mono HB0.out.size))) hn)
      have HS : Hid (lvL pa (k + 1) = L ++ (if hasB pa (k : Int) = true then [] else [(k : Int)])) := Lib.hid (by rw [← hL]; rfl)
      rw [hL] at hown hlen
      clear hL
      cases hh : hasB pa (k : Int)
      · rw [hh] at HLf HS
        have HS2 : Hid (lvL pa (k + 1) = L ++ [(k : Int)]) := Lib.hid HS.out
        clear hh HS
        go_wp2_with (first | (go_at_call 61; refine HLf.out.mono ?_; rintro e w1 ⟨rfl, hbel⟩; have hO := hown.1; have hO1 := own_below hO hbel; have HB1 := Lib.hid (HB.out.trans (hbel.mono hsz)); have hsz1 := HB1.out.size) | (at_builtin; refine wpList_append_own _ rfl _ _ 22 rfl (w.alloc (.cells #[.slice p pa.length cap] 39)).heap.size 3 i0 (.int .i64 0) 1 8 Tryz.underlying22 hi hz0 hz1 hz2 rfl (by decide) _ _ _ rfl (hO1.alloc _) ⟨w1.heap.size, 0, none⟩ 1 1 [.int .i64 (k : Int)] rfl rfl ?c1 ?c2 ?c3 ?c4 ?c5 ?_))
        case c1 => exact cells_new _ #[_] _
        case c2 => intro u hu; simp at hu; subst hu; rfl
        case c3 => unfold maxLen; omega
        case c4 => omega
        case c5 => simp; omega
        intro v' w2 hown' hgrow _
        go_wp2
        go_roundw
        case rel => exact ⟨k + 1, by omega, by go_num, by rw [HS2.out]; exact ⟨by simpa using hown', by simp; omega⟩, Lib.hid ((HB1.out.alloc hsz1 _).grown hgrow (by simp; omega) (fun j hj => (hO1.lt j hj).1))⟩
        case measure => simp [intOf]; omega
      · rw [hh] at HLf HS
        have HS2 : Hid (lvL pa (k + 1) = L) := Lib.hid (by rw [HS.out]; simp)
        clear hh HS
        go_wp2_with (go_at_call 61; refine HLf.out.mono ?_; rintro e w1 ⟨rfl, hbel⟩; have hown := hown.below hbel; have HB1 := Lib.hid (HB.out.trans (hbel.mono hsz)))
        go_roundw
        case rel => exact ⟨k + 1, by omega, by go_num, by rw [HS2.out]; exact hown, HB1⟩
        case measure => simp [intOf]; omega
    · obtain rfl : k = pa.length := by omega
      have hown2 := hown.base (B' := w.heap.size) (by omega)
      have HF := Lib.hid (HB0.out.trans (HB.out.mono HB0.out.size))
      go_wp2
      go_ret
      exact ⟨_, rfl, hown2, HF.out⟩

set_option maxRecDepth 100000 in
set_option maxHeartbeats 4000000 in
theorem nQueued_any (v : Value) (xs : List (List NPk)) (w : World) (h : kPq.At 0 w v xs) (hf : fitL fitPq 1048576 xs) :
    Calls Tryz.prog 24 #[v] w fun e w' => e = .returned (.int .i64 (tqN xs : Nat)) ∧ w = w' := by
  obtain ⟨p, cap, b, off, rfl, hcap, hp, hcell⟩ := h.parts
  have hlen := hf.1
  have HF := Lib.hid hf.2
  have HCe := Lib.hid hcell
  have HPt := Lib.hid hp
  clear h hf hcell hp
  go_enter Tryz.func24, Tryz.ntmps24
  go_wp2
  go_loopw [3, 5, 8] (fun c _ i wr => ∃ (k s : Nat), k ≤ xs.length ∧ i = .int .i64 k ∧ c = .int .i64 (s : Int) ∧ s ≤ k * 1048576 ∧ Hid (tqN (xs.take k) = s) ∧ w = wr) (fun _ _ i _ => xs.length - (intOf i).toNat)
  case atStart => exact ⟨0, 0, Nat.zero_le _, rfl, rfl, Nat.zero_le _, Lib.hid (by simp [tqN]), rfl⟩
  case round =>
    obtain ⟨k, s, hk, rfl, rfl, hs, HS, rfl⟩ := hrel
    by_cases hlt : k < xs.length
    · obtain rfl := HPt.out (by omega)
      obtain ⟨c, hC, hcl⟩ := HCe.out k hlt
      have hx : xs[k].length ≤ 1048576 := (HF.out xs[k] (List.getElem_mem hlt)).1
      have HT := Lib.hid (tqN_succ hlt)
      generalize xs[k] = x at *
      obtain ⟨vx, rfl, ax⟩ := hC
      obtain ⟨px, cx, _, _, rfl, hcx, _, _⟩ := ax.parts
      have d0 : w.cell? ⟨b, off + k, none⟩ = some (Value.slice px x.length cx) := by
        have := hcl 0 _ rfl
        rwa [show off + k * kPq.sz + 0 = off + k from by show off + k * 1 + 0 = off + k; omega] at this
      clear hcl ax
      go_wp2
      go_roundw
      case rel => exact ⟨k + 1, s + x.length, by omega, by go_num, by first | rfl | go_num, by omega, Lib.hid (by rw [HT.out, HS.out]), by first | rfl | trivial⟩
      case measure => simp [intOf]; omega
    · obtain rfl : k = xs.length := by omega
      have HG : Hid (tqN xs = s) := Lib.hid (by have := HS.out; rwa [List.take_length] at this)
      go_wp2
      go_ret
      exact ⟨by rw [HG.out]; rfl, rfl⟩
end Go.Proofs.YtihpibdodlgpaaaGreatDoor
