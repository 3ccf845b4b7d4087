/- A slice of bytes that came in as an argument, opened. -/
import Derived.Test.YtgmccafmopgjaaaCur
namespace Go.Proofs.Ytgmccafmopgjaaa
open Go.ChangeShapes Go.WideShapes Go.ChangeAt Go.RowKit

def AsY (w : World) (v : Value) (xs : List Int) : Prop :=
  (xs.length ≤ 1073741824 → RdY w v xs) ∧ xs.length ≤ 9223372036854775807 ∧ ∃ (p : Option Addr) (cap : Nat), v = .slice p xs.length cap
def ArgY (w : World) (v : Value) : Prop := ∃ xs : List Int, AsY w v xs

set_option maxRecDepth 100000 in
theorem open_argY {H : Type} {enc : TypeId × Value → H} {W : World} {base : Nat} {v : Value} {d : DataW H} {p : List MemPlace}
    (hok : Value.okWide Try.prog W .any base 22 v) (h : DataW.Trod enc Try.prog W 0 (fun _ => true) true 22 v d p) : ArgY W v := by
  obtain ⟨a0, len, cap, rfl⟩ := okWide_slice Try.underlying22 hok
  obtain ⟨fuel, hf⟩ := h
  rcases open_ints Try.underlying22 Try.underlying5 (by kernel_rfl) hf with ⟨hcs, _⟩ | ⟨a, len', cap', zs, hcs, _, hl, hm, hz, _, hcell, hwf⟩
  · simp [Value.cells] at hcs
    obtain ⟨rfl, rfl, rfl⟩ := hcs
    exact ⟨[], fun _ => ⟨⟨rfl, none, 0, 0, 0, rfl, Nat.le_refl _, fun _ => rfl, fun h => by cases h⟩, by simp, by simp⟩, by simp, none, 0, rfl⟩
  · simp [Value.cells] at hcs
    obtain ⟨rfl, rfl, rfl⟩ := hcs
    have hz' : zs.length = cap := by simpa using hz
    have hlen : (zs.take len).length = len := by rw [List.length_take]; omega
    have hb : ∀ b ∈ zs.take len, 0 ≤ b ∧ b ≤ 255 := fun b hb => bounds_u8 (hwf b (List.mem_of_mem_take hb))
    refine ⟨zs.take len, fun hs => ⟨?_, hs, hb⟩, by rw [hlen]; unfold maxLen at hm; omega, some a, cap, by rw [hlen]⟩
    rw [hlen]
    by_cases h0 : 0 < len
    · obtain ⟨b, off, rfl, hc⟩ := ints_at hcell (by omega)
      refine ⟨by simp; omega, some ⟨b, off, none⟩, cap, b, off, rfl, hl, (by intro h; cases h), fun _ => ⟨rfl, fun k hk => ?_⟩⟩
      have h1 := hc k (by omega)
      have hk1 : k < zs.length := by omega
      have hk2 : k < len := by omega
      rw [h1]
      simp [hk1, hk2]
    · have h00 : len = 0 := by omega
      subst h00
      exact ⟨by simp, some a, cap, 0, 0, rfl, hl, (by intro h; cases h), fun h => by omega⟩

/-- 'too many bytes' -/
theorem rBig_any (v : Value) (xs : List Int) (w : World) (h : AsY w v xs) :
    Calls Try.prog 5 #[v] w fun e w' => e = .returned (.bool (decide (65536 < xs.length))) ∧ w = w' := by
  obtain ⟨_, _, p, cap, rfl⟩ := h
  go_enter Try.func5, Try.ntmps5
  go_wp2
  go_ret
  exact ⟨ret_bool (by simp; omega), rfl⟩
end Go.Proofs.Ytgmccafmopgjaaa
