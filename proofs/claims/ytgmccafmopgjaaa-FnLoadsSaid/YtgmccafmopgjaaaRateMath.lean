/- Plain laws on buckets: filling, taking, waiting. No program in sight. -/
import Derived.Test.YtgmccafmopgjaaaNum
namespace Go.Proofs.Ytgmccafmopgjaaa

/-- a bucket: tokens a tick n/d, burst b, level l (in parts of d), last tick t -/
structure Bk where
  n : Int
  d : Int
  b : Int
  l : Int
  t : Int
def Bk.zero : Bk := ⟨0, 0, 0, 0, 0⟩
/-- a load: tick, size -/
structure Ld where
  t : Int
  s : Int
def bkB (k : Bk) : Bool := inR k.n 1 1000 && inR k.d 1 100 && inR k.b 1 1000 && inR k.l 0 (k.b * k.d) && inR k.t 0 10000
theorem bkB_iff {k : Bk} : bkB k = true ↔ (1 ≤ k.n ∧ k.n ≤ 1000) ∧ (1 ≤ k.d ∧ k.d ≤ 100) ∧ (1 ≤ k.b ∧ k.b ≤ 1000) ∧ (0 ≤ k.l ∧ k.l ≤ k.b * k.d) ∧ 0 ≤ k.t ∧ k.t ≤ 10000 := by
  simp only [bkB, Bool.and_eq_true, inR_true, and_assoc]
theorem prod_bound (a b A B : Int) (h0 : 0 ≤ a) (h1 : a ≤ A) (h2 : 0 ≤ b) (h3 : b ≤ B) : 0 ≤ a * b ∧ a * b ≤ A * B :=
  ⟨Int.mul_nonneg h0 h2, Int.mul_le_mul h1 h3 h2 (by omega)⟩
def ldB (x : Ld) : Bool := inR x.t 0 10000 && inR x.s 1 1000
theorem ldB_iff {x : Ld} : ldB x = true ↔ (0 ≤ x.t ∧ x.t ≤ 10000) ∧ 1 ≤ x.s ∧ x.s ≤ 1000 := by
  simp only [ldB, Bool.and_eq_true, inR_true]
def canFill (k : Bk) (now : Int) : Bool := bkB k && inR now k.t 10000
def Bk.fill (k : Bk) (now : Int) : Bk := ⟨k.n, k.d, k.b, min (k.l + (now - k.t) * k.n) (k.b * k.d), now⟩
def Bk.take (k : Bk) (now s : Int) : Bk := ⟨k.n, k.d, k.b, (k.fill now).l - s * k.d, now⟩
def Bk.fits (k : Bk) (now s : Int) : Bool := decide (s * k.d ≤ (k.fill now).l)
theorem fill_bound {k : Bk} {now : Int} (h : canFill k now = true) : 0 ≤ (k.fill now).l ∧ (k.fill now).l ≤ k.b * k.d ∧ k.b * k.d ≤ 100000 ∧ 0 ≤ (now - k.t) * k.n ∧ (now - k.t) * k.n ≤ 10000000 := by
  simp only [canFill, Bool.and_eq_true, bkB_iff, inR_true] at h
  obtain ⟨⟨⟨a1, a2⟩, ⟨b1, b2⟩, ⟨c1, c2⟩, ⟨d1, d2⟩, e1, e2⟩, f1, f2⟩ := h
  have p := prod_bound k.b k.d 1000 100 (by omega) c2 (by omega) b2
  have q := prod_bound (now - k.t) k.n 10000 1000 (by omega) (by omega) (by omega) a2
  simp only [Bk.fill]
  omega
theorem fill_valid {k : Bk} {now : Int} (h : canFill k now = true) : bkB (k.fill now) = true := by
  have hb := fill_bound h
  simp only [canFill, Bool.and_eq_true, bkB_iff, inR_true] at h
  rw [bkB_iff]
  simp only [Bk.fill] at hb ⊢
  omega
theorem take_valid {k : Bk} {now s : Int} (h : canFill k now = true) (hs : 1 ≤ s) (hf : k.fits now s = true) : bkB (k.take now s) = true := by
  have hb := fill_bound h
  simp only [canFill, Bool.and_eq_true, bkB_iff, inR_true] at h
  simp only [Bk.fits, decide_eq_true_eq] at hf
  obtain ⟨⟨_, ⟨b1, _⟩, _, _, _, _⟩, _, _⟩ := h
  have := Int.mul_nonneg (show 0 ≤ s by omega) (show 0 ≤ k.d by omega)
  rw [bkB_iff]
  simp only [Bk.take, Bk.fill] at hb hf ⊢
  omega
/-- by how many ticks a load waits -/
def Bk.waitT (k : Bk) (x : Ld) : Int := (max 0 (x.s * k.d - (k.fill x.t).l) + k.n - 1) / k.n
def Bk.waitB (k : Bk) (x : Ld) : Bool := decide (x.s ≤ k.b) && decide (x.t + k.waitT x ≤ 10000)
theorem ceil_ge (a n : Int) (hn : 1 ≤ n) : a ≤ (a + n - 1) / n * n := by
  have h := Int.mul_ediv_add_emod (a + n - 1) n
  have h2 := Int.emod_lt_of_pos (a + n - 1) (show 0 < n by omega)
  rw [Int.mul_comm] at h
  omega
theorem ceil_lt (a n : Int) (hn : 1 ≤ n) : ((a + n - 1) / n - 1) * n < a ∨ a = 0 := by
  have h := Int.mul_ediv_add_emod (a + n - 1) n
  have h2 := Int.emod_nonneg (a + n - 1) (show n ≠ 0 by omega)
  rw [Int.mul_comm] at h
  rw [Int.sub_mul]
  omega
theorem ceil_nonneg (a n : Int) (hn : 1 ≤ n) (ha : 0 ≤ a) : 0 ≤ (a + n - 1) / n := Int.ediv_nonneg (by omega) (by omega)
theorem ceil_le (a n : Int) (hn : 1 ≤ n) (ha : 0 ≤ a) : (a + n - 1) / n ≤ a + n - 1 := Int.ediv_le_self _ (by omega)
/-- The program's way to say it: a quotient that may be of a negative number, cut off at 0. -/
theorem wait_trunc (a n : Int) (hn : 1 ≤ n) : max 0 ((a + n - 1).tdiv n) = (max 0 a + n - 1) / n := by
  by_cases h : 0 ≤ a
  · rw [Int.max_eq_right h, Int.tdiv_eq_ediv_of_nonneg (by omega), Int.max_eq_right (ceil_nonneg a n hn h)]
  · rw [Int.max_eq_left (show a ≤ 0 by omega)]
    have e : (0 + n - 1) / n = 0 := Int.ediv_eq_zero_of_lt (by omega) (by omega)
    rw [e]
    by_cases h2 : 0 ≤ a + n - 1
    · rw [Int.tdiv_eq_ediv_of_nonneg h2, Int.ediv_eq_zero_of_lt h2 (by omega)]; rfl
    · have : (a + n - 1).tdiv n ≤ 0 := by
        rw [show a + n - 1 = -(-(a + n - 1)) from by omega, Int.neg_tdiv]
        have := Int.tdiv_nonneg (show 0 ≤ -(a + n - 1) by omega) (show 0 ≤ n by omega)
        omega
      omega
/-- A load that is delayed as told fits. -/
theorem wait_fits {k : Bk} {x : Ld} (h : canFill k x.t = true) (_hx : ldB x = true) (hw : k.waitB x = true) : canFill k (x.t + k.waitT x) = true ∧ k.fits (x.t + k.waitT x) x.s = true := by
  have hb := fill_bound h
  have h' := h
  simp only [canFill, Bool.and_eq_true, bkB_iff, inR_true] at h
  simp only [Bk.waitB, Bool.and_eq_true, decide_eq_true_eq] at hw
  obtain ⟨⟨⟨a1, a2⟩, ⟨b1, b2⟩, ⟨c1, c2⟩, ⟨d1, d2⟩, e1, e2⟩, f1, f2⟩ := h
  have hw0 : 0 ≤ k.waitT x := ceil_nonneg _ _ a1 (by omega)
  have hc := ceil_ge (max 0 (x.s * k.d - (k.fill x.t).l)) k.n a1
  refine ⟨?_, ?_⟩
  · simp only [canFill, Bool.and_eq_true, bkB_iff, inR_true]; omega
  · have hsd : x.s * k.d ≤ k.b * k.d := Int.mul_le_mul_of_nonneg_right hw.1 (by omega)
    have hd : (x.t + k.waitT x - k.t) * k.n = (x.t - k.t) * k.n + k.waitT x * k.n := by rw [← Int.add_mul]; congr 1; omega
    have hc' : max 0 (x.s * k.d - min (k.l + (x.t - k.t) * k.n) (k.b * k.d)) ≤ k.waitT x * k.n := hc
    unfold Bk.fits
    apply decide_eq_true
    show x.s * k.d ≤ min (k.l + (x.t + k.waitT x - k.t) * k.n) (k.b * k.d)
    rw [hd]
    omega
end Go.Proofs.Ytgmccafmopgjaaa
