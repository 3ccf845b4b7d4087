/- A network that came in as an argument, opened: what its cells hold, and what bounds it. -/
import Derived.Test.YtihpibdodlgpaaaGreatDoorNetO
namespace Go.Proofs.YtihpibdodlgpaaaGreatDoor
open Go.ChangeShapes Go.WideShapes Go.ChangeAt Go.RowKit Go.Deep

instance : Inhabited NPk := ⟨⟨0, 0, 0, 0, ⟨#[]⟩⟩⟩
instance : Inhabited NHd := ⟨⟨0, 0⟩⟩
instance : Inhabited NRq := ⟨⟨0, 0, 0, 0⟩⟩
instance : Inhabited NSl := ⟨⟨false, ⟨#[]⟩⟩⟩
instance : Inhabited NEn := ⟨⟨0, [], 0⟩⟩
instance : Inhabited NEl := ⟨⟨0, []⟩⟩
instance : Inhabited NRw := ⟨⟨0, []⟩⟩
instance : Inhabited NRc := ⟨⟨false, 0, ⟨0, []⟩, []⟩⟩
theorem trod_fieldsK {H : Type} {enc : TypeId × Value → H} {P : Program} {w : World} {base : Nat} {spare : Nat → Bool} {held : Bool} {t : TypeId} {fs : Array Field} {fuel : Nat} {cs : List Value} {x : DataW H × List MemPlace}
    (ht : P.underlying t = some (.struct fs)) (h : DataW.trod enc P w base spare held fuel t cs = some x) :
    cs.length = P.cellsOf t ∧ ∀ (i : Nat) (f : Field), fs[i]? = some f → ∃ (n : Nat) (y : DataW H × List MemPlace), DataW.trod enc P w base spare held n f.type ((cs.drop f.offset).take (P.cellsOf f.type)) = some y := by
  obtain ⟨ys, n, _, _, hlen, hyl, hf⟩ := DataW.trod_struct ht h
  refine ⟨hlen, fun i f hi => ?_⟩
  have h1 := hf i f hi
  have hil : i < fs.size := (Array.getElem?_eq_some_iff.1 hi).1
  rw [List.getElem?_eq_getElem (by omega)] at h1
  exact ⟨n, _, h1⟩
set_option maxRecDepth 100000 in
theorem trodPk {H : Type} {enc : TypeId × Value → H} {W : World} {n : Nat} {cs : List Value} {y : DataW H × List MemPlace} (h : DataW.trod enc Tryz.prog W 0 (fun _ => true) true n 126 cs = some y) :
    ∃ x : NPk, kPk.C 0 W cs x ∧ fitPk BIG x := by
  obtain ⟨hl, hf⟩ := trod_fieldsK Tryz.underlying126 h
  rw [show Tryz.prog.cellsOf 126 = 5 from by kernel_rfl] at hl
  match cs, hl with
  | [c0, c1, c2, c3, c4], _ =>
    obtain ⟨n0, y0, h0⟩ := hf 0 _ rfl
    have h0 : DataW.trod enc Tryz.prog W 0 (fun _ => true) true n0 3 (([c0, c1, c2, c3, c4].drop 0).take (Tryz.prog.cellsOf 3)) = some y0 := h0
    rw [show Tryz.prog.cellsOf 3 = 1 from by kernel_rfl] at h0
    have h0 : DataW.trod enc Tryz.prog W 0 (fun _ => true) true n0 3 [c0] = some y0 := h0
    obtain ⟨n1, y1, h1⟩ := hf 1 _ rfl
    have h1 : DataW.trod enc Tryz.prog W 0 (fun _ => true) true n1 3 (([c0, c1, c2, c3, c4].drop 1).take (Tryz.prog.cellsOf 3)) = some y1 := h1
    rw [show Tryz.prog.cellsOf 3 = 1 from by kernel_rfl] at h1
    have h1 : DataW.trod enc Tryz.prog W 0 (fun _ => true) true n1 3 [c1] = some y1 := h1
    obtain ⟨n2, y2, h2⟩ := hf 2 _ rfl
    have h2 : DataW.trod enc Tryz.prog W 0 (fun _ => true) true n2 3 (([c0, c1, c2, c3, c4].drop 2).take (Tryz.prog.cellsOf 3)) = some y2 := h2
    rw [show Tryz.prog.cellsOf 3 = 1 from by kernel_rfl] at h2
    have h2 : DataW.trod enc Tryz.prog W 0 (fun _ => true) true n2 3 [c2] = some y2 := h2
    obtain ⟨n3, y3, h3⟩ := hf 3 _ rfl
    have h3 : DataW.trod enc Tryz.prog W 0 (fun _ => true) true n3 3 (([c0, c1, c2, c3, c4].drop 3).take (Tryz.prog.cellsOf 3)) = some y3 := h3
    rw [show Tryz.prog.cellsOf 3 = 1 from by kernel_rfl] at h3
    have h3 : DataW.trod enc Tryz.prog W 0 (fun _ => true) true n3 3 [c3] = some y3 := h3
    obtain ⟨n4, y4, h4⟩ := hf 4 _ rfl
    have h4 : DataW.trod enc Tryz.prog W 0 (fun _ => true) true n4 9 (([c0, c1, c2, c3, c4].drop 4).take (Tryz.prog.cellsOf 9)) = some y4 := h4
    rw [show Tryz.prog.cellsOf 9 = 1 from by kernel_rfl] at h4
    have h4 : DataW.trod enc Tryz.prog W 0 (fun _ => true) true n4 9 [c4] = some y4 := h4
    obtain ⟨a0, e0, _⟩ := DataW.trod_int Tryz.underlying3 h0
    obtain rfl : c0 = .int .i64 a0 := by simpa using e0
    obtain ⟨a1, e1, _⟩ := DataW.trod_int Tryz.underlying3 h1
    obtain rfl : c1 = .int .i64 a1 := by simpa using e1
    obtain ⟨a2, e2, _⟩ := DataW.trod_int Tryz.underlying3 h2
    obtain rfl : c2 = .int .i64 a2 := by simpa using e2
    obtain ⟨a3, e3, _⟩ := DataW.trod_int Tryz.underlying3 h3
    obtain rfl : c3 = .int .i64 a3 := by simpa using e3
    obtain ⟨a4, e4, _, z4⟩ := DataW.trod_string Tryz.underlying9 h4
    obtain rfl : c4 = .string a4 := by simpa using e4
    exact ⟨⟨a0, a1, a2, a3, a4⟩, rfl, (by unfold maxLen at z4; exact z4)⟩
set_option maxRecDepth 100000 in
theorem trodPq {H : Type} {enc : TypeId × Value → H} {W : World} {n : Nat} {cs : List Value} {y : DataW H × List MemPlace} (h : DataW.trod enc Tryz.prog W 0 (fun _ => true) true n 98 cs = some y) :
    ∃ x : List NPk, kPq.C 0 W cs x ∧ fitPq BIG x := by
  obtain ⟨v, rfl⟩ : ∃ v, cs = [v] := by
    rcases open_slice Tryz.underlying98 h with ⟨hcs, _⟩ | ⟨a, len, cap, m', n, D, Pl, hcs, _⟩
    · exact ⟨_, hcs⟩
    · exact ⟨_, hcs⟩
  obtain ⟨a, at_a, l_a, g_a⟩ := open_cellK kPk (fun x => fitPk BIG x) (by decide) Tryz.underlying98 (by kernel_rfl) (fun n cs y h => trodPk h) h
  exact ⟨a, ⟨_, rfl, at_a⟩, l_a, g_a⟩
set_option maxRecDepth 100000 in
theorem trodHd {H : Type} {enc : TypeId × Value → H} {W : World} {n : Nat} {cs : List Value} {y : DataW H × List MemPlace} (h : DataW.trod enc Tryz.prog W 0 (fun _ => true) true n 137 cs = some y) :
    ∃ x : NHd, kHd.C 0 W cs x := by
  obtain ⟨hl, hf⟩ := trod_fieldsK Tryz.underlying137 h
  rw [show Tryz.prog.cellsOf 137 = 2 from by kernel_rfl] at hl
  match cs, hl with
  | [c0, c1], _ =>
    obtain ⟨n0, y0, h0⟩ := hf 0 _ rfl
    have h0 : DataW.trod enc Tryz.prog W 0 (fun _ => true) true n0 3 (([c0, c1].drop 0).take (Tryz.prog.cellsOf 3)) = some y0 := h0
    rw [show Tryz.prog.cellsOf 3 = 1 from by kernel_rfl] at h0
    have h0 : DataW.trod enc Tryz.prog W 0 (fun _ => true) true n0 3 [c0] = some y0 := h0
    obtain ⟨n1, y1, h1⟩ := hf 1 _ rfl
    have h1 : DataW.trod enc Tryz.prog W 0 (fun _ => true) true n1 3 (([c0, c1].drop 1).take (Tryz.prog.cellsOf 3)) = some y1 := h1
    rw [show Tryz.prog.cellsOf 3 = 1 from by kernel_rfl] at h1
    have h1 : DataW.trod enc Tryz.prog W 0 (fun _ => true) true n1 3 [c1] = some y1 := h1
    obtain ⟨a0, e0, _⟩ := DataW.trod_int Tryz.underlying3 h0
    obtain rfl : c0 = .int .i64 a0 := by simpa using e0
    obtain ⟨a1, e1, _⟩ := DataW.trod_int Tryz.underlying3 h1
    obtain rfl : c1 = .int .i64 a1 := by simpa using e1
    exact ⟨⟨a0, a1⟩, rfl⟩
set_option maxRecDepth 100000 in
theorem trodRq {H : Type} {enc : TypeId × Value → H} {W : World} {n : Nat} {cs : List Value} {y : DataW H × List MemPlace} (h : DataW.trod enc Tryz.prog W 0 (fun _ => true) true n 168 cs = some y) :
    ∃ x : NRq, kRq.C 0 W cs x := by
  obtain ⟨hl, hf⟩ := trod_fieldsK Tryz.underlying168 h
  rw [show Tryz.prog.cellsOf 168 = 4 from by kernel_rfl] at hl
  match cs, hl with
  | [c0, c1, c2, c3], _ =>
    obtain ⟨n0, y0, h0⟩ := hf 0 _ rfl
    have h0 : DataW.trod enc Tryz.prog W 0 (fun _ => true) true n0 3 (([c0, c1, c2, c3].drop 0).take (Tryz.prog.cellsOf 3)) = some y0 := h0
    rw [show Tryz.prog.cellsOf 3 = 1 from by kernel_rfl] at h0
    have h0 : DataW.trod enc Tryz.prog W 0 (fun _ => true) true n0 3 [c0] = some y0 := h0
    obtain ⟨n1, y1, h1⟩ := hf 1 _ rfl
    have h1 : DataW.trod enc Tryz.prog W 0 (fun _ => true) true n1 3 (([c0, c1, c2, c3].drop 1).take (Tryz.prog.cellsOf 3)) = some y1 := h1
    rw [show Tryz.prog.cellsOf 3 = 1 from by kernel_rfl] at h1
    have h1 : DataW.trod enc Tryz.prog W 0 (fun _ => true) true n1 3 [c1] = some y1 := h1
    obtain ⟨n2, y2, h2⟩ := hf 2 _ rfl
    have h2 : DataW.trod enc Tryz.prog W 0 (fun _ => true) true n2 3 (([c0, c1, c2, c3].drop 2).take (Tryz.prog.cellsOf 3)) = some y2 := h2
    rw [show Tryz.prog.cellsOf 3 = 1 from by kernel_rfl] at h2
    have h2 : DataW.trod enc Tryz.prog W 0 (fun _ => true) true n2 3 [c2] = some y2 := h2
    obtain ⟨n3, y3, h3⟩ := hf 3 _ rfl
    have h3 : DataW.trod enc Tryz.prog W 0 (fun _ => true) true n3 3 (([c0, c1, c2, c3].drop 3).take (Tryz.prog.cellsOf 3)) = some y3 := h3
    rw [show Tryz.prog.cellsOf 3 = 1 from by kernel_rfl] at h3
    have h3 : DataW.trod enc Tryz.prog W 0 (fun _ => true) true n3 3 [c3] = some y3 := h3
    obtain ⟨a0, e0, _⟩ := DataW.trod_int Tryz.underlying3 h0
    obtain rfl : c0 = .int .i64 a0 := by simpa using e0
    obtain ⟨a1, e1, _⟩ := DataW.trod_int Tryz.underlying3 h1
    obtain rfl : c1 = .int .i64 a1 := by simpa using e1
    obtain ⟨a2, e2, _⟩ := DataW.trod_int Tryz.underlying3 h2
    obtain rfl : c2 = .int .i64 a2 := by simpa using e2
    obtain ⟨a3, e3, _⟩ := DataW.trod_int Tryz.underlying3 h3
    obtain rfl : c3 = .int .i64 a3 := by simpa using e3
    exact ⟨⟨a0, a1, a2, a3⟩, rfl⟩
set_option maxRecDepth 100000 in
theorem trodSl {H : Type} {enc : TypeId × Value → H} {W : World} {n : Nat} {cs : List Value} {y : DataW H × List MemPlace} (h : DataW.trod enc Tryz.prog W 0 (fun _ => true) true n 180 cs = some y) :
    ∃ x : NSl, kSl.C 0 W cs x ∧ fitSl BIG x := by
  obtain ⟨hl, hf⟩ := trod_fieldsK Tryz.underlying180 h
  rw [show Tryz.prog.cellsOf 180 = 2 from by kernel_rfl] at hl
  match cs, hl with
  | [c0, c1], _ =>
    obtain ⟨n0, y0, h0⟩ := hf 0 _ rfl
    have h0 : DataW.trod enc Tryz.prog W 0 (fun _ => true) true n0 4 (([c0, c1].drop 0).take (Tryz.prog.cellsOf 4)) = some y0 := h0
    rw [show Tryz.prog.cellsOf 4 = 1 from by kernel_rfl] at h0
    have h0 : DataW.trod enc Tryz.prog W 0 (fun _ => true) true n0 4 [c0] = some y0 := h0
    obtain ⟨n1, y1, h1⟩ := hf 1 _ rfl
    have h1 : DataW.trod enc Tryz.prog W 0 (fun _ => true) true n1 9 (([c0, c1].drop 1).take (Tryz.prog.cellsOf 9)) = some y1 := h1
    rw [show Tryz.prog.cellsOf 9 = 1 from by kernel_rfl] at h1
    have h1 : DataW.trod enc Tryz.prog W 0 (fun _ => true) true n1 9 [c1] = some y1 := h1
    obtain ⟨a0, e0, _⟩ := DataW.trod_bool Tryz.underlying4 h0
    obtain rfl : c0 = .bool a0 := by simpa using e0
    obtain ⟨a1, e1, _, z1⟩ := DataW.trod_string Tryz.underlying9 h1
    obtain rfl : c1 = .string a1 := by simpa using e1
    exact ⟨⟨a0, a1⟩, rfl, (by unfold maxLen at z1; exact z1)⟩
set_option maxRecDepth 100000 in
theorem trodEn {H : Type} {enc : TypeId × Value → H} {W : World} {n : Nat} {cs : List Value} {y : DataW H × List MemPlace} (h : DataW.trod enc Tryz.prog W 0 (fun _ => true) true n 155 cs = some y) :
    ∃ x : NEn, kEn.C 0 W cs x ∧ fitEn BIG x := by
  obtain ⟨hl, hf⟩ := trod_fieldsK Tryz.underlying155 h
  rw [show Tryz.prog.cellsOf 155 = 3 from by kernel_rfl] at hl
  match cs, hl with
  | [c0, c1, c2], _ =>
    obtain ⟨n0, y0, h0⟩ := hf 0 _ rfl
    have h0 : DataW.trod enc Tryz.prog W 0 (fun _ => true) true n0 3 (([c0, c1, c2].drop 0).take (Tryz.prog.cellsOf 3)) = some y0 := h0
    rw [show Tryz.prog.cellsOf 3 = 1 from by kernel_rfl] at h0
    have h0 : DataW.trod enc Tryz.prog W 0 (fun _ => true) true n0 3 [c0] = some y0 := h0
    obtain ⟨n1, y1, h1⟩ := hf 1 _ rfl
    have h1 : DataW.trod enc Tryz.prog W 0 (fun _ => true) true n1 22 (([c0, c1, c2].drop 1).take (Tryz.prog.cellsOf 22)) = some y1 := h1
    rw [show Tryz.prog.cellsOf 22 = 1 from by kernel_rfl] at h1
    have h1 : DataW.trod enc Tryz.prog W 0 (fun _ => true) true n1 22 [c1] = some y1 := h1
    obtain ⟨n2, y2, h2⟩ := hf 2 _ rfl
    have h2 : DataW.trod enc Tryz.prog W 0 (fun _ => true) true n2 3 (([c0, c1, c2].drop 2).take (Tryz.prog.cellsOf 3)) = some y2 := h2
    rw [show Tryz.prog.cellsOf 3 = 1 from by kernel_rfl] at h2
    have h2 : DataW.trod enc Tryz.prog W 0 (fun _ => true) true n2 3 [c2] = some y2 := h2
    obtain ⟨a0, e0, _⟩ := DataW.trod_int Tryz.underlying3 h0
    obtain rfl : c0 = .int .i64 a0 := by simpa using e0
    obtain ⟨a1, at_a1, l_a1, g_a1⟩ := open_cellK kI (fun _ => True) (by decide) Tryz.underlying22 (by kernel_rfl) (fun n cs y h => by obtain ⟨a, e, _⟩ := DataW.trod_int Tryz.underlying3 h; exact ⟨a, e, trivial⟩) h1
    obtain ⟨a2, e2, _⟩ := DataW.trod_int Tryz.underlying3 h2
    obtain rfl : c2 = .int .i64 a2 := by simpa using e2
    exact ⟨⟨a0, a1, a2⟩, ⟨_, rfl, at_a1⟩, l_a1⟩
set_option maxRecDepth 100000 in
theorem trodEl {H : Type} {enc : TypeId × Value → H} {W : World} {n : Nat} {cs : List Value} {y : DataW H × List MemPlace} (h : DataW.trod enc Tryz.prog W 0 (fun _ => true) true n 89 cs = some y) :
    ∃ x : NEl, kEl.C 0 W cs x ∧ fitEl BIG x := by
  obtain ⟨hl, hf⟩ := trod_fieldsK Tryz.underlying89 h
  rw [show Tryz.prog.cellsOf 89 = 2 from by kernel_rfl] at hl
  match cs, hl with
  | [c0, c1], _ =>
    obtain ⟨n0, y0, h0⟩ := hf 0 _ rfl
    have h0 : DataW.trod enc Tryz.prog W 0 (fun _ => true) true n0 3 (([c0, c1].drop 0).take (Tryz.prog.cellsOf 3)) = some y0 := h0
    rw [show Tryz.prog.cellsOf 3 = 1 from by kernel_rfl] at h0
    have h0 : DataW.trod enc Tryz.prog W 0 (fun _ => true) true n0 3 [c0] = some y0 := h0
    obtain ⟨n1, y1, h1⟩ := hf 1 _ rfl
    have h1 : DataW.trod enc Tryz.prog W 0 (fun _ => true) true n1 87 (([c0, c1].drop 1).take (Tryz.prog.cellsOf 87)) = some y1 := h1
    rw [show Tryz.prog.cellsOf 87 = 1 from by kernel_rfl] at h1
    have h1 : DataW.trod enc Tryz.prog W 0 (fun _ => true) true n1 87 [c1] = some y1 := h1
    obtain ⟨a0, e0, _⟩ := DataW.trod_int Tryz.underlying3 h0
    obtain rfl : c0 = .int .i64 a0 := by simpa using e0
    obtain ⟨a1, at_a1, l_a1, g_a1⟩ := open_cellK kEn (fun x => fitEn BIG x) (by decide) Tryz.underlying87 (by kernel_rfl) (fun n cs y h => trodEn h) h1
    exact ⟨⟨a0, a1⟩, ⟨_, rfl, at_a1⟩, ⟨l_a1, g_a1⟩⟩
set_option maxRecDepth 100000 in
theorem trodRw {H : Type} {enc : TypeId × Value → H} {W : World} {n : Nat} {cs : List Value} {y : DataW H × List MemPlace} (h : DataW.trod enc Tryz.prog W 0 (fun _ => true) true n 93 cs = some y) :
    ∃ x : NRw, kRw.C 0 W cs x ∧ fitRw BIG x := by
  obtain ⟨hl, hf⟩ := trod_fieldsK Tryz.underlying93 h
  rw [show Tryz.prog.cellsOf 93 = 2 from by kernel_rfl] at hl
  match cs, hl with
  | [c0, c1], _ =>
    obtain ⟨n0, y0, h0⟩ := hf 0 _ rfl
    have h0 : DataW.trod enc Tryz.prog W 0 (fun _ => true) true n0 3 (([c0, c1].drop 0).take (Tryz.prog.cellsOf 3)) = some y0 := h0
    rw [show Tryz.prog.cellsOf 3 = 1 from by kernel_rfl] at h0
    have h0 : DataW.trod enc Tryz.prog W 0 (fun _ => true) true n0 3 [c0] = some y0 := h0
    obtain ⟨n1, y1, h1⟩ := hf 1 _ rfl
    have h1 : DataW.trod enc Tryz.prog W 0 (fun _ => true) true n1 91 (([c0, c1].drop 1).take (Tryz.prog.cellsOf 91)) = some y1 := h1
    rw [show Tryz.prog.cellsOf 91 = 1 from by kernel_rfl] at h1
    have h1 : DataW.trod enc Tryz.prog W 0 (fun _ => true) true n1 91 [c1] = some y1 := h1
    obtain ⟨a0, e0, _⟩ := DataW.trod_int Tryz.underlying3 h0
    obtain rfl : c0 = .int .i64 a0 := by simpa using e0
    obtain ⟨a1, at_a1, l_a1, g_a1⟩ := open_cellK kSl (fun x => fitSl BIG x) (by decide) Tryz.underlying91 (by kernel_rfl) (fun n cs y h => trodSl h) h1
    exact ⟨⟨a0, a1⟩, ⟨_, rfl, at_a1⟩, ⟨l_a1, g_a1⟩⟩
set_option maxRecDepth 100000 in
theorem trodRc {H : Type} {enc : TypeId × Value → H} {W : World} {n : Nat} {cs : List Value} {y : DataW H × List MemPlace} (h : DataW.trod enc Tryz.prog W 0 (fun _ => true) true n 96 cs = some y) :
    ∃ x : NRc, kRc.C 0 W cs x ∧ fitRc BIG x := by
  obtain ⟨hl, hf⟩ := trod_fieldsK Tryz.underlying96 h
  rw [show Tryz.prog.cellsOf 96 = 5 from by kernel_rfl] at hl
  match cs, hl with
  | [c0, c1, c2, c3, c4], _ =>
    obtain ⟨n0, y0, h0⟩ := hf 0 _ rfl
    have h0 : DataW.trod enc Tryz.prog W 0 (fun _ => true) true n0 4 (([c0, c1, c2, c3, c4].drop 0).take (Tryz.prog.cellsOf 4)) = some y0 := h0
    rw [show Tryz.prog.cellsOf 4 = 1 from by kernel_rfl] at h0
    have h0 : DataW.trod enc Tryz.prog W 0 (fun _ => true) true n0 4 [c0] = some y0 := h0
    obtain ⟨n1, y1, h1⟩ := hf 1 _ rfl
    have h1 : DataW.trod enc Tryz.prog W 0 (fun _ => true) true n1 3 (([c0, c1, c2, c3, c4].drop 1).take (Tryz.prog.cellsOf 3)) = some y1 := h1
    rw [show Tryz.prog.cellsOf 3 = 1 from by kernel_rfl] at h1
    have h1 : DataW.trod enc Tryz.prog W 0 (fun _ => true) true n1 3 [c1] = some y1 := h1
    obtain ⟨n2, y2, h2⟩ := hf 2 _ rfl
    have h2 : DataW.trod enc Tryz.prog W 0 (fun _ => true) true n2 93 (([c0, c1, c2, c3, c4].drop 2).take (Tryz.prog.cellsOf 93)) = some y2 := h2
    rw [show Tryz.prog.cellsOf 93 = 2 from by kernel_rfl] at h2
    have h2 : DataW.trod enc Tryz.prog W 0 (fun _ => true) true n2 93 [c2, c3] = some y2 := h2
    obtain ⟨n3, y3, h3⟩ := hf 3 _ rfl
    have h3 : DataW.trod enc Tryz.prog W 0 (fun _ => true) true n3 94 (([c0, c1, c2, c3, c4].drop 4).take (Tryz.prog.cellsOf 94)) = some y3 := h3
    rw [show Tryz.prog.cellsOf 94 = 1 from by kernel_rfl] at h3
    have h3 : DataW.trod enc Tryz.prog W 0 (fun _ => true) true n3 94 [c4] = some y3 := h3
    obtain ⟨a0, e0, _⟩ := DataW.trod_bool Tryz.underlying4 h0
    obtain rfl : c0 = .bool a0 := by simpa using e0
    obtain ⟨a1, e1, _⟩ := DataW.trod_int Tryz.underlying3 h1
    obtain rfl : c1 = .int .i64 a1 := by simpa using e1
    obtain ⟨a2, C2, g2⟩ := trodRw h2
    obtain ⟨v20, e2, bv20⟩ := C2
    have e2 : [c2, c3] = [.int .i64 a2.nx, v20] := e2
    simp only [List.cons.injEq, and_true] at e2
    obtain ⟨rfl, rfl⟩ := e2
    obtain ⟨a3, at_a3, l_a3, g_a3⟩ := open_cellK kRq (fun _ => True) (by decide) Tryz.underlying94 (by kernel_rfl) (fun n cs y h => by obtain ⟨x, hx⟩ := trodRq h; exact ⟨x, hx, trivial⟩) h3
    exact ⟨⟨a0, a1, a2, a3⟩, ⟨_, _, rfl, bv20, at_a3⟩, ⟨g2, l_a3⟩⟩
set_option maxRecDepth 100000 in
theorem trodSw {H : Type} {enc : TypeId × Value → H} {W : World} {n : Nat} {cs : List Value} {y : DataW H × List MemPlace} (h : DataW.trod enc Tryz.prog W 0 (fun _ => true) true n 27 cs = some y) :
    ∃ x : NSw, kSw.C 0 W cs x ∧ fitSw BIG x := by
  obtain ⟨hl, hf⟩ := trod_fieldsK Tryz.underlying27 h
  rw [show Tryz.prog.cellsOf 27 = 3 from by kernel_rfl] at hl
  match cs, hl with
  | [c0, c1, c2], _ =>
    obtain ⟨n0, y0, h0⟩ := hf 0 _ rfl
    have h0 : DataW.trod enc Tryz.prog W 0 (fun _ => true) true n0 3 (([c0, c1, c2].drop 0).take (Tryz.prog.cellsOf 3)) = some y0 := h0
    rw [show Tryz.prog.cellsOf 3 = 1 from by kernel_rfl] at h0
    have h0 : DataW.trod enc Tryz.prog W 0 (fun _ => true) true n0 3 [c0] = some y0 := h0
    obtain ⟨n1, y1, h1⟩ := hf 1 _ rfl
    have h1 : DataW.trod enc Tryz.prog W 0 (fun _ => true) true n1 3 (([c0, c1, c2].drop 1).take (Tryz.prog.cellsOf 3)) = some y1 := h1
    rw [show Tryz.prog.cellsOf 3 = 1 from by kernel_rfl] at h1
    have h1 : DataW.trod enc Tryz.prog W 0 (fun _ => true) true n1 3 [c1] = some y1 := h1
    obtain ⟨n2, y2, h2⟩ := hf 2 _ rfl
    have h2 : DataW.trod enc Tryz.prog W 0 (fun _ => true) true n2 25 (([c0, c1, c2].drop 2).take (Tryz.prog.cellsOf 25)) = some y2 := h2
    rw [show Tryz.prog.cellsOf 25 = 1 from by kernel_rfl] at h2
    have h2 : DataW.trod enc Tryz.prog W 0 (fun _ => true) true n2 25 [c2] = some y2 := h2
    obtain ⟨a0, e0, _⟩ := DataW.trod_int Tryz.underlying3 h0
    obtain rfl : c0 = .int .i64 a0 := by simpa using e0
    obtain ⟨a1, e1, _⟩ := DataW.trod_int Tryz.underlying3 h1
    obtain rfl : c1 = .int .i64 a1 := by simpa using e1
    obtain ⟨a2, at_a2, l_a2, g_a2⟩ := open_cellK kS (fun x => fitS BIG x) (by decide) Tryz.underlying25 (by kernel_rfl) (fun n cs y h => by obtain ⟨a, e, _, z⟩ := DataW.trod_string Tryz.underlying9 h; exact ⟨a, e, by unfold maxLen at z; exact z⟩) h2
    exact ⟨⟨a0, a1, a2⟩, ⟨_, rfl, at_a2⟩, ⟨l_a2, g_a2⟩⟩
set_option maxRecDepth 100000 in
theorem trodSr {H : Type} {enc : TypeId × Value → H} {W : World} {n : Nat} {cs : List Value} {y : DataW H × List MemPlace} (h : DataW.trod enc Tryz.prog W 0 (fun _ => true) true n 30 cs = some y) :
    ∃ x : NSr, kSr.C 0 W cs x ∧ fitSr BIG x := by
  obtain ⟨hl, hf⟩ := trod_fieldsK Tryz.underlying30 h
  rw [show Tryz.prog.cellsOf 30 = 6 from by kernel_rfl] at hl
  match cs, hl with
  | [c0, c1, c2, c3, c4, c5], _ =>
    obtain ⟨n0, y0, h0⟩ := hf 0 _ rfl
    have h0 : DataW.trod enc Tryz.prog W 0 (fun _ => true) true n0 27 (([c0, c1, c2, c3, c4, c5].drop 0).take (Tryz.prog.cellsOf 27)) = some y0 := h0
    rw [show Tryz.prog.cellsOf 27 = 3 from by kernel_rfl] at h0
    have h0 : DataW.trod enc Tryz.prog W 0 (fun _ => true) true n0 27 [c0, c1, c2] = some y0 := h0
    obtain ⟨n1, y1, h1⟩ := hf 1 _ rfl
    have h1 : DataW.trod enc Tryz.prog W 0 (fun _ => true) true n1 3 (([c0, c1, c2, c3, c4, c5].drop 3).take (Tryz.prog.cellsOf 3)) = some y1 := h1
    rw [show Tryz.prog.cellsOf 3 = 1 from by kernel_rfl] at h1
    have h1 : DataW.trod enc Tryz.prog W 0 (fun _ => true) true n1 3 [c3] = some y1 := h1
    obtain ⟨n2, y2, h2⟩ := hf 2 _ rfl
    have h2 : DataW.trod enc Tryz.prog W 0 (fun _ => true) true n2 3 (([c0, c1, c2, c3, c4, c5].drop 4).take (Tryz.prog.cellsOf 3)) = some y2 := h2
    rw [show Tryz.prog.cellsOf 3 = 1 from by kernel_rfl] at h2
    have h2 : DataW.trod enc Tryz.prog W 0 (fun _ => true) true n2 3 [c4] = some y2 := h2
    obtain ⟨n3, y3, h3⟩ := hf 3 _ rfl
    have h3 : DataW.trod enc Tryz.prog W 0 (fun _ => true) true n3 28 (([c0, c1, c2, c3, c4, c5].drop 5).take (Tryz.prog.cellsOf 28)) = some y3 := h3
    rw [show Tryz.prog.cellsOf 28 = 1 from by kernel_rfl] at h3
    have h3 : DataW.trod enc Tryz.prog W 0 (fun _ => true) true n3 28 [c5] = some y3 := h3
    obtain ⟨a0, C0, g0⟩ := trodSw h0
    obtain ⟨v00, e0, bv00⟩ := C0
    have e0 : [c0, c1, c2] = [.int .i64 a0.tr, .int .i64 a0.sz, v00] := e0
    simp only [List.cons.injEq, and_true] at e0
    obtain ⟨rfl, rfl, rfl⟩ := e0
    obtain ⟨a1, e1, _⟩ := DataW.trod_int Tryz.underlying3 h1
    obtain rfl : c3 = .int .i64 a1 := by simpa using e1
    obtain ⟨a2, e2, _⟩ := DataW.trod_int Tryz.underlying3 h2
    obtain rfl : c4 = .int .i64 a2 := by simpa using e2
    obtain ⟨a3, at_a3, l_a3, g_a3⟩ := open_cellK kHd (fun _ => True) (by decide) Tryz.underlying28 (by kernel_rfl) (fun n cs y h => by obtain ⟨x, hx⟩ := trodHd h; exact ⟨x, hx, trivial⟩) h3
    exact ⟨⟨a0, a1, a2, a3⟩, ⟨_, _, rfl, bv00, at_a3⟩, ⟨g0, l_a3⟩⟩
set_option maxRecDepth 100000 in
theorem trodTr {H : Type} {enc : TypeId × Value → H} {W : World} {n : Nat} {cs : List Value} {y : DataW H × List MemPlace} (h : DataW.trod enc Tryz.prog W 0 (fun _ => true) true n 24 cs = some y) :
    ∃ x : NTr, kTr.C 0 W cs x ∧ fitTr BIG x := by
  obtain ⟨hl, hf⟩ := trod_fieldsK Tryz.underlying24 h
  rw [show Tryz.prog.cellsOf 24 = 1 from by kernel_rfl] at hl
  match cs, hl with
  | [c0], _ =>
    obtain ⟨n0, y0, h0⟩ := hf 0 _ rfl
    have h0 : DataW.trod enc Tryz.prog W 0 (fun _ => true) true n0 22 (([c0].drop 0).take (Tryz.prog.cellsOf 22)) = some y0 := h0
    rw [show Tryz.prog.cellsOf 22 = 1 from by kernel_rfl] at h0
    have h0 : DataW.trod enc Tryz.prog W 0 (fun _ => true) true n0 22 [c0] = some y0 := h0
    obtain ⟨a0, at_a0, l_a0, g_a0⟩ := open_cellK kI (fun _ => True) (by decide) Tryz.underlying22 (by kernel_rfl) (fun n cs y h => by obtain ⟨a, e, _⟩ := DataW.trod_int Tryz.underlying3 h; exact ⟨a, e, trivial⟩) h0
    exact ⟨⟨a0⟩, ⟨_, rfl, at_a0⟩, l_a0⟩
set_option maxRecDepth 100000 in
theorem trodNt {H : Type} {enc : TypeId × Value → H} {W : World} {n : Nat} {cs : List Value} {y : DataW H × List MemPlace} (h : DataW.trod enc Tryz.prog W 0 (fun _ => true) true n 35 cs = some y) :
    ∃ x : NNet, kNt.C 0 W cs x ∧ fitNt BIG x := by
  obtain ⟨hl, hf⟩ := trod_fieldsK Tryz.underlying35 h
  rw [show Tryz.prog.cellsOf 35 = 11 from by kernel_rfl] at hl
  match cs, hl with
  | [c0, c1, c2, c3, c4, c5, c6, c7, c8, c9, c10], _ =>
    obtain ⟨n0, y0, h0⟩ := hf 0 _ rfl
    have h0 : DataW.trod enc Tryz.prog W 0 (fun _ => true) true n0 24 (([c0, c1, c2, c3, c4, c5, c6, c7, c8, c9, c10].drop 0).take (Tryz.prog.cellsOf 24)) = some y0 := h0
    rw [show Tryz.prog.cellsOf 24 = 1 from by kernel_rfl] at h0
    have h0 : DataW.trod enc Tryz.prog W 0 (fun _ => true) true n0 24 [c0] = some y0 := h0
    obtain ⟨n1, y1, h1⟩ := hf 1 _ rfl
    have h1 : DataW.trod enc Tryz.prog W 0 (fun _ => true) true n1 30 (([c0, c1, c2, c3, c4, c5, c6, c7, c8, c9, c10].drop 1).take (Tryz.prog.cellsOf 30)) = some y1 := h1
    rw [show Tryz.prog.cellsOf 30 = 6 from by kernel_rfl] at h1
    have h1 : DataW.trod enc Tryz.prog W 0 (fun _ => true) true n1 30 [c1, c2, c3, c4, c5, c6] = some y1 := h1
    obtain ⟨n2, y2, h2⟩ := hf 2 _ rfl
    have h2 : DataW.trod enc Tryz.prog W 0 (fun _ => true) true n2 31 (([c0, c1, c2, c3, c4, c5, c6, c7, c8, c9, c10].drop 7).take (Tryz.prog.cellsOf 31)) = some y2 := h2
    rw [show Tryz.prog.cellsOf 31 = 1 from by kernel_rfl] at h2
    have h2 : DataW.trod enc Tryz.prog W 0 (fun _ => true) true n2 31 [c7] = some y2 := h2
    obtain ⟨n3, y3, h3⟩ := hf 3 _ rfl
    have h3 : DataW.trod enc Tryz.prog W 0 (fun _ => true) true n3 32 (([c0, c1, c2, c3, c4, c5, c6, c7, c8, c9, c10].drop 8).take (Tryz.prog.cellsOf 32)) = some y3 := h3
    rw [show Tryz.prog.cellsOf 32 = 1 from by kernel_rfl] at h3
    have h3 : DataW.trod enc Tryz.prog W 0 (fun _ => true) true n3 32 [c8] = some y3 := h3
    obtain ⟨n4, y4, h4⟩ := hf 4 _ rfl
    have h4 : DataW.trod enc Tryz.prog W 0 (fun _ => true) true n4 33 (([c0, c1, c2, c3, c4, c5, c6, c7, c8, c9, c10].drop 9).take (Tryz.prog.cellsOf 33)) = some y4 := h4
    rw [show Tryz.prog.cellsOf 33 = 1 from by kernel_rfl] at h4
    have h4 : DataW.trod enc Tryz.prog W 0 (fun _ => true) true n4 33 [c9] = some y4 := h4
    obtain ⟨n5, y5, h5⟩ := hf 5 _ rfl
    have h5 : DataW.trod enc Tryz.prog W 0 (fun _ => true) true n5 33 (([c0, c1, c2, c3, c4, c5, c6, c7, c8, c9, c10].drop 10).take (Tryz.prog.cellsOf 33)) = some y5 := h5
    rw [show Tryz.prog.cellsOf 33 = 1 from by kernel_rfl] at h5
    have h5 : DataW.trod enc Tryz.prog W 0 (fun _ => true) true n5 33 [c10] = some y5 := h5
    obtain ⟨a0, C0, g0⟩ := trodTr h0
    obtain ⟨v00, e0, bv00⟩ := C0
    have e0 : [c0] = [v00] := e0
    simp only [List.cons.injEq, and_true] at e0
    obtain rfl := e0
    obtain ⟨a1, C1, g1⟩ := trodSr h1
    obtain ⟨v10, v11, e1, bv10, bv11⟩ := C1
    have e1 : [c1, c2, c3, c4, c5, c6] = [.int .i64 a1.sw.tr, .int .i64 a1.sw.sz, v10, .int .i64 a1.ck, .int .i64 a1.qt, v11] := e1
    simp only [List.cons.injEq, and_true] at e1
    obtain ⟨rfl, rfl, rfl, rfl, rfl, rfl⟩ := e1
    obtain ⟨a2, at_a2, l_a2, g_a2⟩ := open_cellK kEl (fun x => fitEl BIG x) (by decide) Tryz.underlying31 (by kernel_rfl) (fun n cs y h => trodEl h) h2
    obtain ⟨a3, at_a3, l_a3, g_a3⟩ := open_cellK kRc (fun x => fitRc BIG x) (by decide) Tryz.underlying32 (by kernel_rfl) (fun n cs y h => trodRc h) h3
    obtain ⟨a4, at_a4, l_a4, g_a4⟩ := open_cellK kPq (fun x => fitPq BIG x) (by decide) Tryz.underlying33 (by kernel_rfl) (fun n cs y h => trodPq h) h4
    obtain ⟨a5, at_a5, l_a5, g_a5⟩ := open_cellK kPq (fun x => fitPq BIG x) (by decide) Tryz.underlying33 (by kernel_rfl) (fun n cs y h => trodPq h) h5
    exact ⟨⟨a0, a1, a2, a3, a4, a5⟩, ⟨_, _, _, _, _, _, _, rfl, bv00, bv10, bv11, at_a2, at_a3, at_a4, at_a5⟩, ⟨g0, g1, ⟨l_a2, g_a2⟩, ⟨l_a3, g_a3⟩, ⟨l_a4, g_a4⟩, ⟨l_a5, g_a5⟩⟩⟩
def ArgNt (w : World) (v : Value) : Prop := ∃ (x : NNet) (cs : List Value), v = .agg cs.toArray ∧ kNt.C 0 w cs x ∧ fitNt BIG x
set_option maxRecDepth 100000 in
theorem open_argNt {H : Type} {enc : TypeId × Value → H} {W : World} {base : Nat} {v : Value} {d : DataW H} {p : List MemPlace}
    (hok : Value.okWide Tryz.prog W .any base 35 v) (h : DataW.Trod enc Tryz.prog W 0 (fun _ => true) true 35 v d p) : ArgNt W v := by
  obtain ⟨cs, rfl, _⟩ := okWide_struct Tryz.underlying35 hok
  obtain ⟨fuel, hf⟩ := h
  obtain ⟨x, hx, hg⟩ := trodNt hf
  obtain ⟨l⟩ := cs
  exact ⟨x, l, rfl, by simpa [Value.cells] using hx, hg⟩
end Go.Proofs.YtihpibdodlgpaaaGreatDoor
