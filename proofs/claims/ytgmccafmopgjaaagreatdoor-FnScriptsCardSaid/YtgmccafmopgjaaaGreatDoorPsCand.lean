/- A step read from its text: what each reader tries at a kind, in plain Lean. No program's text is walked here. -/
import Derived.Test.YtgmccafmopgjaaaGreatDoorPsMath
namespace Go.Proofs.YtgmccafmopgjaaaGreatDoor
open Go.RowKit

/-- a text without what it begins with -/
def trimP (s p : ByteArray) : ByteArray := ⟨(Lib.trimPrefix s.data.toList p.data.toList).toArray⟩
theorem hasP_app (a b : ByteArray) : Lib.hasPrefix (a ++ b).data.toList a.data.toList = true := by
  rw [ByteArray.data_append, Array.toList_append, Lib.hasPrefix, List.isPrefixOf_iff_prefix]
  exact List.prefix_append _ _
theorem trimP_app (a b : ByteArray) : trimP (a ++ b) a = b := by
  have h := hasP_app a b
  rw [trimP, Lib.trimPrefix, if_pos h, ByteArray.data_append, Array.toList_append, List.drop_left, Array.toArray_toList]
theorem trimP_size (s p : ByteArray) : (trimP s p).size ≤ s.size := by
  have h1 : s.data.toList.length = s.size := Array.length_toList
  have h2 : (trimP s p).size = (Lib.trimPrefix s.data.toList p.data.toList).length := List.size_toArray
  rw [h2, Lib.trimPrefix]
  split
  · rw [List.length_drop]; omega
  · omega
/-- what the program tries at a kind -/
def candI (k : Nat) (s : ByteArray) : St := if k = 1 then ⟨1, 0, trimP (trimP s (stW 1)) ⟨#[32]⟩⟩ else ⟨k, (readO (trimP (trimP s (stW k)) ⟨#[32]⟩)).getD 0, ⟨#[]⟩⟩
theorem readO_dig {n : Int} (h1 : 1 ≤ n) (h2 : n ≤ 7) : readO (dig1 n) = some n := by
  rw [readO_iff]
  refine ⟨by omega, ?_⟩
  rw [numI, if_neg (by omega), numT_lt (by omega)]
  rfl
theorem readO_nil : readO ⟨#[]⟩ = none := rfl
theorem trimP_self (a : ByteArray) : trimP a a = ⟨#[]⟩ := by
  have h := trimP_app a ⟨#[]⟩
  rwa [show a ++ (⟨#[]⟩ : ByteArray) = a from ByteArray.ext (by simp)] at h
theorem trimP_nil (p : ByteArray) : trimP ⟨#[]⟩ p = ⟨#[]⟩ := by
  rw [trimP, Lib.trimPrefix]
  split <;> simp
theorem candI_is {k : Nat} {s : ByteArray} {y : St} (h : StIs k s y) : Lib.hasPrefix s.data.toList (stW k).data.toList = true ∧ candI k s = y := by
  rcases stIs_cases h with ⟨hk, rfl, rfl⟩ | ⟨hk, d, _, hp, _, rfl, rfl⟩ | ⟨hk, rfl, rfl⟩ | ⟨hk, n, h1, h2, rfl, rfl⟩
  · obtain rfl : k = 1 := by omega
    exact ⟨by decide, by rw [candI, if_pos rfl, trimP_self, trimP_nil]⟩
  · obtain rfl : k = 1 := by omega
    exact ⟨hasP_app _ _, by rw [candI, if_pos rfl, trimP_app, trimP_app]⟩
  · obtain rfl : k = 4 := by omega
    exact ⟨by decide, by rw [candI, if_neg (by decide), trimP_self, trimP_nil, readO_nil]; rfl⟩
  · have hk1 : k ≠ 1 := by omega
    rw [show ((k : Int)).toNat = k from by omega]
    exact ⟨hasP_app _ _, by rw [candI, if_neg hk1, trimP_app, trimP_app, readO_dig h1 h2]; rfl⟩
/-- what the reference tries at a kind -/
def candS (k : Nat) (ws : List ByteArray) (l : ByteArray) : St :=
  if k = 1 then ⟨1, 0, if ws.length = 2 then l else ⟨#[]⟩⟩ else if k = 4 then ⟨4, 0, ⟨#[]⟩⟩ else ⟨k, (readO l).getD 0, ⟨#[]⟩⟩
theorem spl_snoc1 (c : UInt8) (a b : List UInt8) : spl c (a ++ c :: b) = spl c a ++ spl c b := by
  induction a with
  | nil => exact if_pos rfl
  | cons x a ih =>
    rw [List.cons_append, spl, spl, ih]
    obtain ⟨p, ps, hp⟩ := spl_ne c a
    split
    · rw [List.cons_append]
    · rw [hp]; rfl
theorem dig1_no {n : Int} (h1 : 1 ≤ n) (h2 : n ≤ 7) : (32 : UInt8) ∉ (dig1 n).data.toList := by
  rcases dig1_eq h1 h2 with rfl | rfl | rfl | rfl | rfl | rfl | rfl <;> decide
theorem let_no {d : ByteArray} (h : letB d = true) : (32 : UInt8) ∉ d.data.toList := by
  intro hm
  have := List.all_eq_true.1 h _ hm
  exact absurd this (by decide)
theorem last_of {ws : List ByteArray} {L : List (List UInt8)} {p : List UInt8} (h : ws.map (·.data.toList) = L ++ [p]) (h0 : 0 < ws.length) : (ws[ws.length - 1]'(by omega)).data.toList = p := by
  have hl : ws.length = L.length + 1 := by have := congrArg List.length h; simpa using this
  have h1 : (ws.map (·.data.toList))[ws.length - 1]? = some p := by
    rw [h, List.getElem?_append_right (by omega), show ws.length - 1 - L.length = 0 from by omega]; rfl
  rw [List.getElem?_map, List.getElem?_eq_getElem (by omega)] at h1
  exact Option.some.inj h1
theorem candS_is {k : Nat} {s : ByteArray} {y : St} {ws : List ByteArray} (h : StIs k s y) (hw : ws.map (·.data.toList) = spl 32 s.data.toList) (h0 : 0 < ws.length) : candS k ws (ws[ws.length - 1]'(by omega)) = y := by
  have hlen : ws.length = (spl 32 s.data.toList).length := by rw [← hw, List.length_map]
  rcases stIs_cases h with ⟨hk, rfl, rfl⟩ | ⟨hk, d, _, hp, hd, rfl, rfl⟩ | ⟨hk, rfl, rfl⟩ | ⟨hk, n, h1, h2, rfl, rfl⟩
  · obtain rfl : k = 1 := by omega
    have h1 : (spl 32 (stW 1).data.toList).length = 1 := by decide
    rw [candS, if_pos rfl, if_neg (by omega)]
  · obtain rfl : k = 1 := by omega
    have e : (stW 1 ++ ((⟨#[32]⟩ : ByteArray) ++ d)).data.toList = (stW 1).data.toList ++ 32 :: d.data.toList := by
      rw [ByteArray.data_append, Array.toList_append, ByteArray.data_append, Array.toList_append]; rfl
    have e2 : spl 32 (stW 1 ++ ((⟨#[32]⟩ : ByteArray) ++ d)).data.toList = [(stW 1).data.toList] ++ [d.data.toList] := by
      rw [e, spl_hit _ (by decide), spl_miss (let_no hd)]; rfl
    have hl := last_of (hw.trans e2) h0
    have h2 : ws.length = 2 := by rw [hlen, e2]; rfl
    rw [candS, if_pos rfl, if_pos h2]
    have e3 : ws[ws.length - 1]'(by omega) = d := ByteArray.ext (Array.toList_inj.1 hl)
    rw [e3]
  · obtain rfl : k = 4 := by omega
    rw [candS, if_neg (by decide), if_pos rfl]
  · have hk1 : k ≠ 1 := by omega
    have hk4 : k ≠ 4 := by omega
    have e : (stW ((k : Int)).toNat ++ ((⟨#[32]⟩ : ByteArray) ++ dig1 n)).data.toList = (stW k).data.toList ++ 32 :: (dig1 n).data.toList := by
      rw [ByteArray.data_append, Array.toList_append, ByteArray.data_append, Array.toList_append, show ((k : Int)).toNat = k from by omega]; rfl
    have e2 : spl 32 (stW ((k : Int)).toNat ++ ((⟨#[32]⟩ : ByteArray) ++ dig1 n)).data.toList = spl 32 (stW k).data.toList ++ [(dig1 n).data.toList] := by
      rw [e, spl_snoc1, spl_miss (dig1_no h1 h2)]
    have hl := last_of (hw.trans e2) h0
    have e3 : ws[ws.length - 1]'(by omega) = dig1 n := ByteArray.ext (Array.toList_inj.1 hl)
    rw [candS, if_neg hk1, if_neg hk4, e3, readO_dig h1 h2]; rfl
end Go.Proofs.YtgmccafmopgjaaaGreatDoor
