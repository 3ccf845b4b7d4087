/- What the harness's count of letters says of each name. Plain laws. -/
import Derived.Test.YtmochhgmhhopoaaDoorCtS
namespace Go.Proofs.YtmochhgmhhopoaaDoor

theorem szCtL_all : ∀ (xs : List Ct) (left : Int), ¬ szCtL xs left < 0 → ∀ x ∈ xs, (x.nm.size : Int) ≤ left
  | [], _, _, _, hx => by cases hx
  | y :: xs, left, h, x, hx => by
    unfold szCtL at h
    have h1 := szCt1_le y left
    by_cases hn : szCt1 y left < 0
    · rw [if_pos hn] at h; omega
    · rw [if_neg hn] at h
      rcases List.mem_cons.1 hx with rfl | hx
      · unfold szCt1 at hn; split at hn <;> omega
      · have := szCtL_all xs _ h x hx; omega
theorem szCt_all {xs : List Ct} (h : ¬ szCt xs 1048576 < 0) : ∀ x ∈ xs, x.nm.size ≤ 1048576 := by
  intro x hx
  unfold szCt at h
  split at h
  · omega
  · have := szCtL_all xs _ h x hx; omega
theorem szCt_all2 {xs : List Ct} {left : Int} (hl : left ≤ 1048576) (h : ¬ szCt xs left < 0) : ∀ x ∈ xs, x.nm.size ≤ 1048576 := by
  intro x hx
  unfold szCt at h
  split at h
  · omega
  · have := szCtL_all xs _ h x hx; omega
end Go.Proofs.YtmochhgmhhopoaaDoor
