/- An event read from its text: what both readers look for, in plain Lean. No program's text is walked here. -/
import Derived.Test.YtohbkohidpgjpaaGreatDoorEvTx
import Derived.Test.YtohbkohidpgjpaaGreatDoorSpl
import Derived.Lib.Strings
namespace Go.Proofs.YtohbkohidpgjpaaGreatDoor
open Go.RowKit

abbrev ltl (s : ByteArray) : List UInt8 := s.data.toList
theorem ltl_app (a b : ByteArray) : ltl (a ++ b) = ltl a ++ ltl b := by rw [ltl, ByteArray.data_append, Array.toList_append]
theorem ltl_inj {a b : ByteArray} (h : ltl a = ltl b) : a = b := ByteArray.ext (Array.toList_inj.1 h)
theorem spl_evT (x : Ev) : spl 32 (ltl (evT x)) = [ltl (numT x.t.toNat ++ ⟨#[58]⟩), [110, 111, 100, 101], ltl (numT x.n.toNat), ltl (trW x.k.toNat), ltl (numT x.m.toNat)] := by
  have e : ltl (evT x) = (ltl (numT x.t.toNat) ++ [58]) ++ 32 :: ([110, 111, 100, 101] ++ 32 :: (ltl (numT x.n.toNat) ++ 32 :: (ltl (trW x.k.toNat) ++ 32 :: ltl (numT x.m.toNat)))) := by
    simp only [evT, ltl_app]
    simp only [List.append_assoc, List.cons_append, List.nil_append]
    rfl
  have h1 : (32 : UInt8) ∉ ltl (numT x.t.toNat) ++ [58] := by
    rw [List.mem_append, not_or]
    exact ⟨num_no32 _, by decide⟩
  rw [e, spl_hit _ h1, spl_hit _ (by decide), spl_hit _ (num_no32 _), spl_hit _ (trW_no _), spl_miss (num_no32 _), ltl_app]
theorem readO_nat {v : Int} (h0 : 0 ≤ v) (h1 : v ≤ 999999) : readO (numT v.toNat) = some v := by
  have := readO_num v.toNat (by omega)
  rwa [show ((v.toNat : Nat) : Int) = v from by omega] at this
/-- the five words of a text that an event has -/
theorem evIs_words {s : ByteArray} {x : Ev} {ws : List ByteArray} (h : EvIs s x) (hw : ws.map (·.data.toList) = spl 32 s.data.toList) :
    ∃ a b, ws = [numT x.t.toNat ++ ⟨#[58]⟩, a, numT x.n.toNat, b, numT x.m.toNat] ∧ b = trW x.k.toNat ∧ s.size ≤ 50 := by
  obtain ⟨hb, rfl⟩ := h
  have hv := evB_iff.1 hb
  have e := hw.trans (spl_evT x)
  have hl : ws.length = 5 := by have := congrArg List.length e; simpa using this
  obtain ⟨p, a, q, b, r, rfl⟩ : ∃ p a q b r, ws = [p, a, q, b, r] := by
    match ws, hl with
    | [p, a, q, b, r], _ => exact ⟨p, a, q, b, r, rfl⟩
  simp only [List.map_cons, List.map_nil, List.cons.injEq, and_true] at e
  obtain ⟨e1, _, e3, e4, e5⟩ := e
  obtain rfl := ltl_inj e1
  obtain rfl := ltl_inj e3
  obtain rfl := ltl_inj e4
  obtain rfl := ltl_inj e5
  refine ⟨a, _, rfl, rfl, ?_⟩
  have s1 := numT_small (n := x.t.toNat) (by omega)
  have s2 := numT_small (n := x.n.toNat) (by omega)
  have s3 := numT_small (n := x.m.toNat) (by omega)
  have s4 := trW_size x.k.toNat
  have z1 : (⟨#[58, 32, 110, 111, 100, 101, 32]⟩ : ByteArray).size = 7 := rfl
  have z2 : (⟨#[32]⟩ : ByteArray).size = 1 := rfl
  simp only [evT, ByteArray.size_append, z1, z2]
  omega
/-- the kind that the reference's loop finds for a word -/
def kindS (b : ByteArray) : Int := if b.toList = (trW 4).toList then 4 else if b.toList = (trW 3).toList then 3 else if b.toList = (trW 2).toList then 2 else if b.toList = (trW 1).toList then 1 else 0
theorem trW_inj : ∀ {i j : Nat}, i < 5 → j < 5 → (trW i).toList = (trW j).toList → i = j := by
  intro i j hi hj h
  have h1 : i = 0 ∨ i = 1 ∨ i = 2 ∨ i = 3 ∨ i = 4 := by omega
  have h2 : j = 0 ∨ j = 1 ∨ j = 2 ∨ j = 3 ∨ j = 4 := by omega
  simp only [ByteArray.toList_eq] at h
  rcases h1 with rfl | rfl | rfl | rfl | rfl <;> rcases h2 with rfl | rfl | rfl | rfl | rfl <;> first | rfl | (revert h; decide)
theorem kindS_is {k : Nat} (h0 : 1 ≤ k) (h1 : k ≤ 4) : kindS (trW k) = k := by
  unfold kindS
  have hk : k = 1 ∨ k = 2 ∨ k = 3 ∨ k = 4 := by omega
  have n : ∀ i j, i < 5 → j < 5 → i ≠ j → (trW i).toList ≠ (trW j).toList := fun i j hi hj hne h => hne (trW_inj hi hj h)
  rcases hk with rfl | rfl | rfl | rfl
  · rw [if_neg (n 1 4 (by omega) (by omega) (by omega)), if_neg (n 1 3 (by omega) (by omega) (by omega)), if_neg (n 1 2 (by omega) (by omega) (by omega)), if_pos rfl]; rfl
  · rw [if_neg (n 2 4 (by omega) (by omega) (by omega)), if_neg (n 2 3 (by omega) (by omega) (by omega)), if_pos rfl]; rfl
  · rw [if_neg (n 3 4 (by omega) (by omega) (by omega)), if_pos rfl]; rfl
  · rw [if_pos rfl]; rfl
/-- a text without its last byte, and without a colon at its end -/
def trimC (p : ByteArray) : ByteArray := ⟨(Lib.trimSuffix p.data.toList [58]).toArray⟩
theorem trimC_app (a : ByteArray) : trimC (a ++ ⟨#[58]⟩) = a := by
  have h : Lib.hasSuffix (a ++ (⟨#[58]⟩ : ByteArray)).data.toList [58] = true := by
    rw [Lib.hasSuffix, List.isSuffixOf_iff_suffix, ByteArray.data_append, Array.toList_append]
    exact List.suffix_append _ _
  rw [trimC, Lib.trimSuffix, if_pos h, ByteArray.data_append, Array.toList_append]
  have : (a.data.toList ++ (⟨#[58]⟩ : ByteArray).data.toList).take ((a.data.toList ++ (⟨#[58]⟩ : ByteArray).data.toList).length - 1) = a.data.toList := by
    rw [List.length_append, show (⟨#[58]⟩ : ByteArray).data.toList.length = 1 from rfl, Nat.add_sub_cancel, List.take_left]
  rw [show ([58] : List UInt8).length = 1 from rfl, this, Array.toArray_toList]
theorem cutC_app (a : ByteArray) : (a ++ ⟨#[58]⟩).extract 0 ((a ++ ⟨#[58]⟩).size - 1) = a := by
  apply ltl_inj
  have z : (⟨#[58]⟩ : ByteArray).size = 1 := rfl
  have hl : a.data.toList.length = a.size := Array.length_toList
  rw [ltl, ByteArray.data_extract, Array.toList_extract, List.extract_eq_take_drop, ByteArray.size_append, z, ByteArray.data_append, Array.toList_append, List.drop_zero, Nat.add_sub_cancel, Nat.sub_zero, ← hl, List.take_left]
/-- the event that is built of five words -/
def evOf (a b c : Option Int) (k : Int) : Ev := ⟨a.getD 0, b.getD 0, k, c.getD 0⟩
theorem PeIs.uniq {s : ByteArray} {o o' : Option Ev} (h : PeIs s o) (h' : PeIs s o') : o = o' := by
  have key : ∀ x y, EvIs s x → EvIs s y → x = y := by
    intro x y hx hy
    have e := (spl_evT x).symm.trans ((congrArg (fun z => spl 32 (ltl z)) (hx.2.trans hy.2.symm)).trans (spl_evT y))
    simp only [List.cons.injEq, and_true, true_and] at e
    obtain ⟨e1, e3, e4, e5⟩ := e
    have hvx := evB_iff.1 hx.1
    have hvy := evB_iff.1 hy.1
    have t1 : numT x.t.toNat ++ ⟨#[58]⟩ = numT y.t.toNat ++ (⟨#[58]⟩ : ByteArray) := ltl_inj e1
    have t2 : numT x.t.toNat = numT y.t.toNat := by rw [← trimC_app (numT x.t.toNat), t1, trimC_app]
    have f1 := readO_nat hvx.1.1 (by omega)
    have f1' := readO_nat hvy.1.1 (by omega)
    have f2 := readO_nat hvx.2.1.1 (by omega)
    have f2' := readO_nat hvy.2.1.1 (by omega)
    have f3 := readO_nat hvx.2.2.2.1 (by omega)
    have f3' := readO_nat hvy.2.2.2.1 (by omega)
    rw [t2, f1'] at f1
    rw [ltl_inj e3, f2'] at f2
    rw [ltl_inj e5, f3'] at f3
    have f4 := kindS_is (k := x.k.toNat) (by omega) (by omega)
    have f4' := kindS_is (k := y.k.toNat) (by omega) (by omega)
    rw [ltl_inj e4, f4'] at f4
    obtain ⟨xt, xn, xk, xm⟩ := x
    obtain ⟨yt, yn, yk, ym⟩ := y
    simp only at *
    have q1 := Option.some.inj f1
    have q2 := Option.some.inj f2
    have q3 := Option.some.inj f3
    subst q1 q2 q3
    rw [show xk = yk from by omega]
  match o, o', h, h' with
  | none, none, _, _ => rfl
  | none, some y, h, h' => exact absurd h' (h y)
  | some x, none, h, h' => exact absurd h (h' x)
  | some x, some y, h, h' => rw [key x y h h']
/-- a candidate that every event with the text must be: it is the answer, or there is none -/
theorem peIs_of {s : ByteArray} {c : Ev} (h : ∀ x, EvIs s x → x = c) : PeIs s (if evB c = true ∧ evT c = s then some c else none) := by
  split
  · rename_i hc; exact hc
  · rename_i hc
    intro x hx
    obtain rfl := h x hx
    exact hc hx
end Go.Proofs.YtohbkohidpgjpaaGreatDoor
