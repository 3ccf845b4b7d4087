/- The library's strings.Cut at a separator of one byte, for every text of at most 2^20 bytes. -/
import Derived.Test.YtmochhgmhhopoaaGreatDoorCnt0
namespace Go.Proofs.YtmochhgmhhopoaaGreatDoor
open Go.RowKit

/-- a and b are what lies before and behind the first c of s -/
def CutP (c : UInt8) (s a b : ByteArray) : Prop := (a = s ∧ b = ⟨#[]⟩ ∧ c ∉ s.data.toList) ∨ (s.data.toList = a.data.toList ++ c :: b.data.toList ∧ c ∉ a.data.toList)
set_option maxRecDepth 100000 in
theorem liteCut_any (s : ByteArray) (c : UInt8) (w : World) (hs : s.size ≤ 1048576) :
    Calls Tryz.prog 68 #[.string s, .string ⟨#[c]⟩] w fun e w' => ∃ (a b : ByteArray) (f : Bool), e = .returned (.tuple #[.string a, .string b, .bool f]) ∧ CutP c s a b ∧ Below w.heap.size w w' := by
  have HI := Lib.hid (Any.stringslite_Index_one { Tryz.lays221 with } s c w)
  rw [← index1_eq] at HI
  by_cases hc : c ∈ s.data.toList
  · obtain ⟨a, b, hab, hna⟩ := idx_mem hc
    have hi : Lib.indexB s ⟨#[c]⟩ = (a.length : Int) := by
      show Lib.index s.data.toList [c] = _
      rw [hab]; exact index1_hit b hna
    rw [hi] at HI
    have hlen : a.length + 1 + b.length = s.size := by
      have h : s.data.toList.length = s.size := Array.length_toList
      rw [hab, List.length_append, List.length_cons] at h
      omega
    have h1 : (0 : Int) ≤ (a.length : Int) + 1 := by omega
    have h2 : ((a.length : Int) + 1).toNat = a.length + 1 := by omega
    have h3 : (a.length : Int) + 1 ≤ (s.size : Int) := by omega
    have h4 : (a.length : Int) ≤ (s.size : Int) := by omega
    have h5 : IntKind.i64.wrap ((a.length : Int) + 1) = (a.length : Int) + 1 := by rw [IntKind.wrap_i64]; omega
    have HF : Hid (CutP c s (s.extract 0 a.length) (s.extract (a.length + 1) s.size)) := Lib.hid (by
      have ea : (s.extract 0 a.length).data.toList = a := by
        rw [extract_list, hab]; simp
      have eb : (s.extract (a.length + 1) s.size).data.toList = b := by
        rw [extract_list, hab, show a.length + 1 = a.length + 1 from rfl, List.drop_append, List.take_of_length_le (by simp; omega)]
        simp
      exact .inr ⟨by rw [ea, eb]; exact hab, by rw [ea]; exact hna⟩)
    clear hab hi
    go_enter Tryz.func68, Tryz.ntmps68
    go_wp2_with fail
    refine HI.out.mono ?_
    rintro e w1 ⟨rfl, rfl⟩
    go_wp2_with fail
    go_quiet (fail)
    go_wp2
    refine bodyPost_ret (v := (.tuple #[.string (s.extract 0 a.length), .string (s.extract (a.length + 1) s.size), .bool true])) (by simp [results, Tryz.results68, go_sem, *]) rfl ?_
    exact ⟨_, _, _, rfl, HF.out, below_drewN (Below.refl _ _) _⟩
  · have hi : Lib.indexB s ⟨#[c]⟩ = -1 := index1_miss hc
    rw [hi] at HI
    go_enter Tryz.func68, Tryz.ntmps68
    go_wp2_with fail
    refine HI.out.mono ?_
    rintro e w1 ⟨rfl, rfl⟩
    go_wp2
    refine bodyPost_ret (v := (.tuple #[.string s, .string ⟨#[]⟩, .bool false])) (by simp [results, Tryz.results68, go_sem, *]) rfl ?_
    exact ⟨_, _, _, rfl, .inl ⟨rfl, rfl, hc⟩, Below.refl _ _⟩
theorem cut1_any (s : ByteArray) (c : UInt8) (w : World) (hs : s.size ≤ 1048576) :
    Calls Tryz.prog 46 #[.string s, .string ⟨#[c]⟩] w fun e w' => ∃ (a b : ByteArray) (f : Bool), e = .returned (.tuple #[.string a, .string b, .bool f]) ∧ CutP c s a b ∧ Below w.heap.size w w' := by
  have HI := Lib.hid (liteCut_any s c w hs)
  go_enter Tryz.func46, Tryz.ntmps46
  go_wp2_with fail
  refine HI.out.mono ?_
  rintro e w1 ⟨a, b, f, rfl, hC, hb⟩
  have HB := Lib.hid hb; clear hb
  have HC := Lib.hid hC; clear hC
  go_wp2
  refine bodyPost_ret (v := (.tuple #[.string a, .string b, .bool f])) (by simp [results, Tryz.results46, go_sem, *]) rfl ?_
  exact ⟨_, _, _, rfl, HC.out, HB.out⟩
end Go.Proofs.YtmochhgmhhopoaaGreatDoor
