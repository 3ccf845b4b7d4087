/- Buckets and loads that came in as arguments, opened. -/
import Derived.Test.YtgiigcpodinpoaaRate1
import Derived.Test.YtgiigcpodinpoaaOpenSl
namespace Go.Proofs.Ytgiigcpodinpoaa
open Go.ChangeShapes Go.WideShapes Go.ChangeAt Go.RowKit Go.Deep

theorem trod_bk {H : Type} {enc : TypeId × Value → H} {W : World} {n : Nat} {cs : List Value} {y : DataW H × List MemPlace} (h : DataW.trod enc Try.prog W 0 (fun _ => true) true n 23 cs = some y) :
    ∃ k : Bk, cs = [.int .i64 k.n, .int .i64 k.d, .int .i64 k.b, .int .i64 k.l, .int .i64 k.t] := by
  obtain ⟨hl, hf⟩ := trod_fields Try.underlying23 (by kernel_rfl) (by kernel_rfl) h
  match cs, hl with
  | [c0, c1, c2, c3, c4], _ =>
    obtain ⟨_, _, h0⟩ := hf 0 _ c0 rfl rfl
    obtain ⟨_, _, h1⟩ := hf 1 _ c1 rfl rfl
    obtain ⟨_, _, h2⟩ := hf 2 _ c2 rfl rfl
    obtain ⟨_, _, h3⟩ := hf 3 _ c3 rfl rfl
    obtain ⟨_, _, h4⟩ := hf 4 _ c4 rfl rfl
    obtain ⟨a0, e0, _⟩ := DataW.trod_int Try.underlying3 h0
    obtain ⟨a1, e1, _⟩ := DataW.trod_int Try.underlying3 h1
    obtain ⟨a2, e2, _⟩ := DataW.trod_int Try.underlying3 h2
    obtain ⟨a3, e3, _⟩ := DataW.trod_int Try.underlying3 h3
    obtain ⟨a4, e4, _⟩ := DataW.trod_int Try.underlying3 h4
    simp at e0 e1 e2 e3 e4
    exact ⟨⟨a0, a1, a2, a3, a4⟩, by simp [e0, e1, e2, e3, e4]⟩
theorem trod_ld {H : Type} {enc : TypeId × Value → H} {W : World} {n : Nat} {cs : List Value} {y : DataW H × List MemPlace} (h : DataW.trod enc Try.prog W 0 (fun _ => true) true n 37 cs = some y) :
    ∃ x : Ld, cs = [.int .i64 x.t, .int .i64 x.s] := by
  obtain ⟨hl, hf⟩ := trod_fields Try.underlying37 (by kernel_rfl) (by kernel_rfl) h
  match cs, hl with
  | [c0, c1], _ =>
    obtain ⟨_, _, h0⟩ := hf 0 _ c0 rfl rfl
    obtain ⟨_, _, h1⟩ := hf 1 _ c1 rfl rfl
    obtain ⟨a0, e0, _⟩ := DataW.trod_int Try.underlying3 h0
    obtain ⟨a1, e1, _⟩ := DataW.trod_int Try.underlying3 h1
    simp at e0 e1
    exact ⟨⟨a0, a1⟩, by simp [e0, e1]⟩
def ArgBk (_w : World) (v : Value) : Prop := ∃ k : Bk, v = k.v
def ArgLd (_w : World) (v : Value) : Prop := ∃ x : Ld, v = x.v
theorem open_argBk {H : Type} {enc : TypeId × Value → H} {W : World} {base : Nat} {v : Value} {d : DataW H} {p : List MemPlace}
    (hok : Value.okWide Try.prog W .any base 23 v) (h : DataW.Trod enc Try.prog W 0 (fun _ => true) true 23 v d p) : ArgBk W v := by
  obtain ⟨cs, rfl, _⟩ := okWide_struct Try.underlying23 hok
  obtain ⟨fuel, hf⟩ := h
  obtain ⟨k, hk⟩ := trod_bk hf
  obtain ⟨l⟩ := cs
  have hl : l = [.int .i64 k.n, .int .i64 k.d, .int .i64 k.b, .int .i64 k.l, .int .i64 k.t] := by simpa [Value.cells] using hk
  exact ⟨k, by rw [hl]⟩
theorem open_argLd {H : Type} {enc : TypeId × Value → H} {W : World} {base : Nat} {v : Value} {d : DataW H} {p : List MemPlace}
    (hok : Value.okWide Try.prog W .any base 37 v) (h : DataW.Trod enc Try.prog W 0 (fun _ => true) true 37 v d p) : ArgLd W v := by
  obtain ⟨cs, rfl, _⟩ := okWide_struct Try.underlying37 hok
  obtain ⟨fuel, hf⟩ := h
  obtain ⟨k, hk⟩ := trod_ld hf
  obtain ⟨l⟩ := cs
  have hl : l = [.int .i64 k.t, .int .i64 k.s] := by simpa [Value.cells] using hk
  exact ⟨k, by rw [hl]⟩
end Go.Proofs.Ytgiigcpodinpoaa
