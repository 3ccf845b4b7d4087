/- The data of networks: packets, entries, elements, receivers, sources, trees; how they lie in memory; what bounds them. No program's text is walked here. -/
import Derived.Test.YtihpibdodlgpaaaGreatDoorNetK
namespace Go.Proofs.YtihpibdodlgpaaaGreatDoor
open Go.RowKit

structure NPk where
  kd : Int
  nm : Int
  tr : Int
  ld : Int
  dt : ByteArray
structure NHd where
  n : Int
  u : Int
structure NRq where
  n : Int
  s : Int
  u : Int
  t : Int
structure NSl where
  hv : Bool
  it : ByteArray
structure NEn where
  n : Int
  fs : (List Int)
  u : Int
structure NEl where
  ck : Int
  en : (List NEn)
structure NRw where
  nx : Int
  sl : (List NSl)
structure NRc where
  st : Bool
  ck : Int
  rw : NRw
  rq : (List NRq)
structure NSw where
  tr : Int
  sz : Int
  it : (List ByteArray)
structure NSr where
  sw : NSw
  ck : Int
  qt : Int
  hs : (List NHd)
structure NTr where
  pa : (List Int)
structure NNet where
  tr : NTr
  sr : NSr
  el : (List NEl)
  rc : (List NRc)
  dn : (List (List NPk))
  up : (List (List NPk))
def kI : Kd Int := Kd.flat 1 (fun n => [.int .i64 n]) (fun _ => rfl)
def kS : Kd ByteArray := Kd.flat 1 (fun s => [.string s]) (fun _ => rfl)
def kPk : Kd NPk := Kd.flat 5 (fun x => [.int .i64 x.kd, .int .i64 x.nm, .int .i64 x.tr, .int .i64 x.ld, .string x.dt]) (fun _ => rfl)
def kPq : Kd (List NPk) where
  sz := 1
  C := fun B w c x => ∃ v0, c = [v0] ∧ kPk.At B w v0 x
  len := fun ⟨v0, h, a0⟩ => by rw [h]; rfl
  below := fun ⟨v0, h, a0⟩ hb => ⟨_, h, a0.below hb⟩
  grown := fun ⟨v0, h, a0⟩ hg hl => ⟨_, h, a0.grown hg hl⟩
  base := fun ⟨v0, h, a0⟩ hb => ⟨_, h, a0.base hb⟩
def kHd : Kd NHd := Kd.flat 2 (fun x => [.int .i64 x.n, .int .i64 x.u]) (fun _ => rfl)
def kRq : Kd NRq := Kd.flat 4 (fun x => [.int .i64 x.n, .int .i64 x.s, .int .i64 x.u, .int .i64 x.t]) (fun _ => rfl)
def kSl : Kd NSl := Kd.flat 2 (fun x => [.bool x.hv, .string x.it]) (fun _ => rfl)
def kEn : Kd NEn where
  sz := 3
  C := fun B w c x => ∃ v0, c = [.int .i64 x.n, v0, .int .i64 x.u] ∧ kI.At B w v0 x.fs
  len := fun ⟨v0, h, a0⟩ => by rw [h]; rfl
  below := fun ⟨v0, h, a0⟩ hb => ⟨_, h, a0.below hb⟩
  grown := fun ⟨v0, h, a0⟩ hg hl => ⟨_, h, a0.grown hg hl⟩
  base := fun ⟨v0, h, a0⟩ hb => ⟨_, h, a0.base hb⟩
def kEl : Kd NEl where
  sz := 2
  C := fun B w c x => ∃ v0, c = [.int .i64 x.ck, v0] ∧ kEn.At B w v0 x.en
  len := fun ⟨v0, h, a0⟩ => by rw [h]; rfl
  below := fun ⟨v0, h, a0⟩ hb => ⟨_, h, a0.below hb⟩
  grown := fun ⟨v0, h, a0⟩ hg hl => ⟨_, h, a0.grown hg hl⟩
  base := fun ⟨v0, h, a0⟩ hb => ⟨_, h, a0.base hb⟩
def kRw : Kd NRw where
  sz := 2
  C := fun B w c x => ∃ v0, c = [.int .i64 x.nx, v0] ∧ kSl.At B w v0 x.sl
  len := fun ⟨v0, h, a0⟩ => by rw [h]; rfl
  below := fun ⟨v0, h, a0⟩ hb => ⟨_, h, a0.below hb⟩
  grown := fun ⟨v0, h, a0⟩ hg hl => ⟨_, h, a0.grown hg hl⟩
  base := fun ⟨v0, h, a0⟩ hb => ⟨_, h, a0.base hb⟩
def kRc : Kd NRc where
  sz := 5
  C := fun B w c x => ∃ v0 v1, c = [.bool x.st, .int .i64 x.ck, .int .i64 x.rw.nx, v0, v1] ∧ kSl.At B w v0 x.rw.sl ∧ kRq.At B w v1 x.rq
  len := fun ⟨v0, v1, h, a0, a1⟩ => by rw [h]; rfl
  below := fun ⟨v0, v1, h, a0, a1⟩ hb => ⟨_, _, h, a0.below hb, a1.below hb⟩
  grown := fun ⟨v0, v1, h, a0, a1⟩ hg hl => ⟨_, _, h, a0.grown hg hl, a1.grown hg hl⟩
  base := fun ⟨v0, v1, h, a0, a1⟩ hb => ⟨_, _, h, a0.base hb, a1.base hb⟩
def kSw : Kd NSw where
  sz := 3
  C := fun B w c x => ∃ v0, c = [.int .i64 x.tr, .int .i64 x.sz, v0] ∧ kS.At B w v0 x.it
  len := fun ⟨v0, h, a0⟩ => by rw [h]; rfl
  below := fun ⟨v0, h, a0⟩ hb => ⟨_, h, a0.below hb⟩
  grown := fun ⟨v0, h, a0⟩ hg hl => ⟨_, h, a0.grown hg hl⟩
  base := fun ⟨v0, h, a0⟩ hb => ⟨_, h, a0.base hb⟩
def kSr : Kd NSr where
  sz := 6
  C := fun B w c x => ∃ v0 v1, c = [.int .i64 x.sw.tr, .int .i64 x.sw.sz, v0, .int .i64 x.ck, .int .i64 x.qt, v1] ∧ kS.At B w v0 x.sw.it ∧ kHd.At B w v1 x.hs
  len := fun ⟨v0, v1, h, a0, a1⟩ => by rw [h]; rfl
  below := fun ⟨v0, v1, h, a0, a1⟩ hb => ⟨_, _, h, a0.below hb, a1.below hb⟩
  grown := fun ⟨v0, v1, h, a0, a1⟩ hg hl => ⟨_, _, h, a0.grown hg hl, a1.grown hg hl⟩
  base := fun ⟨v0, v1, h, a0, a1⟩ hb => ⟨_, _, h, a0.base hb, a1.base hb⟩
def kTr : Kd NTr where
  sz := 1
  C := fun B w c x => ∃ v0, c = [v0] ∧ kI.At B w v0 x.pa
  len := fun ⟨v0, h, a0⟩ => by rw [h]; rfl
  below := fun ⟨v0, h, a0⟩ hb => ⟨_, h, a0.below hb⟩
  grown := fun ⟨v0, h, a0⟩ hg hl => ⟨_, h, a0.grown hg hl⟩
  base := fun ⟨v0, h, a0⟩ hb => ⟨_, h, a0.base hb⟩
def kNt : Kd NNet where
  sz := 11
  C := fun B w c x => ∃ v0 v1 v2 v3 v4 v5 v6, c = [v0, .int .i64 x.sr.sw.tr, .int .i64 x.sr.sw.sz, v1, .int .i64 x.sr.ck, .int .i64 x.sr.qt, v2, v3, v4, v5, v6] ∧ kI.At B w v0 x.tr.pa ∧ kS.At B w v1 x.sr.sw.it ∧ kHd.At B w v2 x.sr.hs ∧ kEl.At B w v3 x.el ∧ kRc.At B w v4 x.rc ∧ kPq.At B w v5 x.dn ∧ kPq.At B w v6 x.up
  len := fun ⟨v0, v1, v2, v3, v4, v5, v6, h, a0, a1, a2, a3, a4, a5, a6⟩ => by rw [h]; rfl
  below := fun ⟨v0, v1, v2, v3, v4, v5, v6, h, a0, a1, a2, a3, a4, a5, a6⟩ hb => ⟨_, _, _, _, _, _, _, h, a0.below hb, a1.below hb, a2.below hb, a3.below hb, a4.below hb, a5.below hb, a6.below hb⟩
  grown := fun ⟨v0, v1, v2, v3, v4, v5, v6, h, a0, a1, a2, a3, a4, a5, a6⟩ hg hl => ⟨_, _, _, _, _, _, _, h, a0.grown hg hl, a1.grown hg hl, a2.grown hg hl, a3.grown hg hl, a4.grown hg hl, a5.grown hg hl, a6.grown hg hl⟩
  base := fun ⟨v0, v1, v2, v3, v4, v5, v6, h, a0, a1, a2, a3, a4, a5, a6⟩ hb => ⟨_, _, _, _, _, _, _, h, a0.base hb, a1.base hb, a2.base hb, a3.base hb, a4.base hb, a5.base hb, a6.base hb⟩
def fitL {α : Type} (P : Nat → α → Prop) (L : Nat) (xs : List α) : Prop := xs.length ≤ L ∧ ∀ x ∈ xs, P L x
def fitS (L : Nat) (s : ByteArray) : Prop := s.size ≤ L
def fitPk (L : Nat) (x : NPk) : Prop := x.dt.size ≤ L
def fitPq (L : Nat) (x : List NPk) : Prop := fitL fitPk L x
def fitSl (L : Nat) (x : NSl) : Prop := x.it.size ≤ L
def fitEn (L : Nat) (x : NEn) : Prop := x.fs.length ≤ L
def fitEl (L : Nat) (x : NEl) : Prop := fitL fitEn L x.en
def fitRw (L : Nat) (x : NRw) : Prop := fitL fitSl L x.sl
def fitRc (L : Nat) (x : NRc) : Prop := fitRw L x.rw ∧ x.rq.length ≤ L
def fitSw (L : Nat) (x : NSw) : Prop := fitL fitS L x.it
def fitSr (L : Nat) (x : NSr) : Prop := fitSw L x.sw ∧ x.hs.length ≤ L
def fitTr (L : Nat) (x : NTr) : Prop := x.pa.length ≤ L
def fitNt (L : Nat) (x : NNet) : Prop := fitTr L x.tr ∧ fitSr L x.sr ∧ fitL fitEl L x.el ∧ fitL fitRc L x.rc ∧ fitL fitPq L x.dn ∧ fitL fitPq L x.up
end Go.Proofs.YtihpibdodlgpaaaGreatDoor
