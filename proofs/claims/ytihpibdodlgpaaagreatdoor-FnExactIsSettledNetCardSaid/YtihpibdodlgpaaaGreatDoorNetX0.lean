/- Elements and sources: what it is for them to be valid, in plain words; a part of a slice. No program's text is walked here. -/
import Derived.Test.YtihpibdodlgpaaaGreatDoorNetZ
import Derived.Test.YtihpibdodlgpaaaGreatDoorNetT
namespace Go.Proofs.YtihpibdodlgpaaaGreatDoor
open Go.RowKit

theorem rng_bad {P : Nat → Bool} {n k : Nat} (h : k < n) (hb : P k = false) : (List.range n).all P = false := by
  cases hr : (List.range n).all P with
  | false => rfl
  | true =>
    have := List.all_eq_true.1 hr k (List.mem_range.2 h)
    rw [hb] at this; cases this
theorem rng_good {P : Nat → Bool} {n : Nat} (h : ∀ k, k < n → P k = true) : (List.range n).all P = true :=
  List.all_eq_true.2 fun k hk => h k (List.mem_range.1 hk)
theorem rng_at {P : Nat → Bool} {n k : Nat} (h : (List.range n).all P = true) (hk : k < n) : P k = true := List.all_eq_true.1 h k (List.mem_range.2 hk)
/-- an entry, by itself -/
def entB (ck : Int) (x : NEn) : Bool := inR x.n 0 65535 && !((x.fs.length : Int) == 0) && riB x.fs && inR x.u (IntKind.i64.wrap (ck + 1)) (IntKind.i64.wrap (ck + 6))
/-- entry k is right, and none before it has its number -/
def ekB (ck : Int) (xs : List NEn) (k : Nat) : Bool := match xs[k]? with
  | none => true
  | some x => entB ck x && !((xs.take k).any fun o => o.n == x.n)
/-- a valid element -/
def elB (x : NEl) : Bool := inR x.ck 0 9999 && decide ((x.en.length : Int) ≤ 5) && (List.range x.en.length).all (ekB x.ck x.en)
theorem ekB_bad1 {ck : Int} {xs : List NEn} {k : Nat} (h : k < xs.length) (hq : entB ck xs[k] = false) : ekB ck xs k = false := by
  simp only [ekB, List.getElem?_eq_getElem h, hq, Bool.false_and]
theorem ekB_of {ck : Int} {xs : List NEn} {k : Nat} (h : k < xs.length) (hq : entB ck xs[k] = true) : ekB ck xs k = !((xs.take k).any fun o => o.n == xs[k].n) := by
  simp only [ekB, List.getElem?_eq_getElem h, hq, Bool.true_and]
theorem elB_bad {ck : Int} {xs : List NEn} (k : Nat) (h : k < xs.length) (hb : ekB ck xs k = false) : elB ⟨ck, xs⟩ = false := by
  rw [elB, rng_bad h hb, Bool.and_false]
theorem elB_good {ck : Int} {xs : List NEn} (h : ∀ k, k < xs.length → ekB ck xs k = true) : elB ⟨ck, xs⟩ = (inR ck 0 9999 && decide ((xs.length : Int) ≤ 5)) := by
  rw [elB, rng_good h, Bool.and_true]
/-- a hold, by itself -/
def hdB (tr : Int) (len : Nat) (ck : Int) (x : NHd) : Bool := inR x.n 0 65535 && decide (gp tr x.n < (len : Int)) && inR x.u (ck + 1) (ck + 3)
/-- hold k is right, and behind the one before it -/
def hkB (tr : Int) (len : Nat) (ck : Int) (xs : List NHd) (k : Nat) : Bool := match xs[k]? with
  | none => true
  | some x => hdB tr len ck x && (match k with
    | 0 => true
    | m + 1 => match xs[m]? with
      | none => true
      | some y => decide (gp tr y.n < gp tr x.n))
/-- a valid source -/
def soB (x : NSr) : Bool := swB x.sw && inR x.ck 0 9999 && inR x.qt 0 3 && (List.range x.hs.length).all (hkB x.sw.tr x.sw.it.length x.ck x.hs)
theorem hkB_zero {tr : Int} {len : Nat} {ck : Int} {xs : List NHd} (h : 0 < xs.length) : hkB tr len ck xs 0 = hdB tr len ck xs[0] := by
  simp only [hkB, List.getElem?_eq_getElem h, Bool.and_true]
theorem hkB_succ {tr : Int} {len : Nat} {ck : Int} {xs : List NHd} {m : Nat} (h : m + 1 < xs.length) : hkB tr len ck xs (m + 1) = (hdB tr len ck xs[m + 1] && decide (gp tr xs[m].n < gp tr xs[m + 1].n)) := by
  simp only [hkB, List.getElem?_eq_getElem h, List.getElem?_eq_getElem (show m < xs.length by omega)]
theorem hkB_bad1 {tr : Int} {len : Nat} {ck : Int} {xs : List NHd} {k : Nat} (h : k < xs.length) (hq : hdB tr len ck xs[k] = false) : hkB tr len ck xs k = false := by
  simp only [hkB, List.getElem?_eq_getElem h, hq, Bool.false_and]
theorem hdB_serial {tr : Int} {len : Nat} {ck : Int} {x : NHd} (h : hdB tr len ck x = true) : inR x.n 0 65535 = true := by
  simp only [hdB, Bool.and_eq_true] at h; exact h.1.1
theorem hkB_serial {tr : Int} {len : Nat} {ck : Int} {xs : List NHd} {k : Nat} (h : k < xs.length) (hq : hkB tr len ck xs k = true) : inR xs[k].n 0 65535 = true := by
  simp only [hkB, List.getElem?_eq_getElem h, Bool.and_eq_true] at hq; exact hdB_serial hq.1
theorem soB_bad {sw : NSw} {ck qt : Int} {xs : List NHd} (k : Nat) (h : k < xs.length) (hb : hkB sw.tr sw.it.length ck xs k = false) : soB ⟨sw, ck, qt, xs⟩ = false := by
  simp only [soB]; rw [rng_bad h hb, Bool.and_false]
theorem soB_good {sw : NSw} {ck qt : Int} {xs : List NHd} (h0 : swB sw = true) (h1 : inR ck 0 9999 = true) (h2 : inR qt 0 3 = true) (h : ∀ k, k < xs.length → hkB sw.tr sw.it.length ck xs k = true) : soB ⟨sw, ck, qt, xs⟩ = true := by
  simp only [soB]; rw [rng_good h, h0, h1, h2]; rfl
theorem swB_serial {x : NSw} (h : swB x = true) : inR x.tr 0 65535 = true := by
  simp only [swB, Bool.and_eq_true] at h; exact h.1.1.1
/-- no node behind the first has the parent k -/
def lfB (pa : List Int) (k : Int) : Bool := !((pa.drop 1).any fun x => decide (x = k))
theorem lfB_has {pa : List Int} {k : Int} (h : trB pa = true) (hk : 0 ≤ k) : lfB pa k = !hasB pa k := by
  simp only [trB, Bool.and_eq_true] at h
  obtain ⟨h1, h2⟩ := h
  cases pa with
  | nil => simp [inR] at h1
  | cons x xs =>
    have h3 := rng_at (k := 0) h2 (by simp)
    rw [tkB_zero (by simp)] at h3
    have h4 : x = -1 := by simpa using h3
    subst h4
    have h5 : decide ((-1 : Int) = k) = false := decide_eq_false (by omega)
    simp [lfB, hasB, h5]
theorem Kd.At.take {α : Type} {K : Kd α} {B : Nat} {w : World} {p : Option Addr} {n cap : Nat} {xs : List α} (h : K.At B w (.slice p n cap) xs) (k : Nat) (hk : k ≤ xs.length) : K.At B w (.slice p k cap) (xs.take k) := by
  obtain ⟨cs, ⟨hl, p', cap', b, off, hv, hcap, hnil, hc⟩, h2, h3, h5⟩ := h
  have hls := Kd.lens h3 h5
  obtain ⟨rfl, rfl, rfl⟩ : p = p' ∧ n = xs.length ∧ cap = cap' := by
    injection hv with e1 e2 e3
    exact ⟨e1, e2, e3⟩
  have e : (xs.take k).length = k := by rw [List.length_take]; omega
  have e2 : (cs.take k).length = k := by rw [List.length_take]; omega
  have e3 : (cs.take k).flatten.length = k * K.sz := by
    rw [flatten_len (fun c hc => hls c (List.mem_of_mem_take hc)), e2]
  refine ⟨cs.take k, ⟨by rw [e3, e], p, cap, b, off, by rw [e], by rw [e]; omega, hnil, fun h0 => ?_⟩, fun kk hh => h2 kk (by cases p <;> exact hh), by rw [e, e2], fun j c x hcj hxj => ?_⟩
  · rw [e] at h0
    refine ⟨(hc (by omega)).1, fun j hj => ?_⟩
    rw [e] at hj
    have hj2 : j < xs.length * K.sz := Nat.lt_of_lt_of_le hj (Nat.mul_le_mul_right _ hk)
    rw [(hc (by omega)).2 j hj2, ← List.take_append_drop k cs, List.flatten_append, List.getElem?_append_left (by rw [e3]; exact hj), List.take_append_drop]
  · have hjk : j < k := by
      have := (List.getElem?_eq_some_iff.1 hcj).1
      rw [e2] at this; exact this
    rw [List.getElem?_take_of_lt hjk] at hcj hxj
    exact h5 j c x hcj hxj
end Go.Proofs.YtihpibdodlgpaaaGreatDoor
