/- clear(s) at elements of k cells each, s in a block known whole: as a law for the walk. No program's text is walked here. -/
import Derived.Test.YtmochhgmhhopoaaGreatDoorCopyK
namespace Go.Proofs.YtmochhgmhhopoaaGreatDoor
open Go.RowKit

theorem run_clearK {P : Program} (w : World) (t elem ty : TypeId) (z : Value) (n c : Nat) (dp : Option Addr) (g o : Nat) (cur : List Value) (tt : TypeId) (zs : List Value)
    (hu : P.underlying t = some (.slice elem)) (hv : ∀ w, (zeroValue elem).run P w = .ok z w) (hzs : zs = (Builtin.zeroCells z.cells n).toList)
    (hg : w.heap[g]? = some (.cells cur.toArray tt (0, 0))) (hpos : 0 < n → dp = some ⟨g, o, none⟩) (h0 : n = 0 → zs = []) (hfit : o + zs.length ≤ cur.length) (h1 : ∀ v ∈ zs, v.oneCell' = true) :
    ∃ w', (Builtin.clear_ #[t] ty #[.slice dp n c]).run P w = .ok (.tuple #[]) w' ∧ w'.heap[g]? = some (.cells (splice cur o zs).toArray tt (0, 0)) ∧ ∀ B w0, Below B w0 w → B ≤ g → Below B w0 w' := by
  by_cases hn : n = 0
  · subst hn
    refine ⟨w, ?_, by rw [h0 rfl]; simpa [splice] using hg, fun B w0 hb _ => hb⟩
    cases dp <;> simp [Builtin.clear_, run_underlying hu]
  · obtain rfl := hpos (by omega)
    have hst := run_storeCells_at P g o tt zs 0 cur.toArray w hg (by simpa using hfit) h1
    have hst' : (storeCells ⟨g, o, none⟩ zs).run P w = .ok () (w.setRow g (splice cur o zs).toArray) := by
      rw [hst]; congr 2; simp [splice]
    refine ⟨w.setRow g (splice cur o zs).toArray, ?_, setRow_heap w g cur.toArray _ tt (0, 0) hg, fun B w0 hb hB => below_setRow hb hB _⟩
    obtain ⟨m, rfl⟩ : ∃ m, n = m + 1 := ⟨n - 1, by omega⟩
    rw [hzs] at hst' ⊢
    simp [Builtin.clear_, run_underlying hu, hv, hst']
theorem wpList_clearK {P : Program} {w : World} {ops : Array Oper} {rest : List Oper} {o : Oper} {a : Act} {Q : Exit → Act → World → Prop} (hgd : o.guard = none) (d : Operand) (t : TypeId)
    (ho : o.op = .call { callee := .builtin .clear, args := #[d], argTypes := #[t] }) (elem : TypeId) (z : Value) (n : Nat) (hu : P.underlying t = some (.slice elem)) (hv : ∀ w, (zeroValue elem).run P w = .ok z w)
    (dp : Option Addr) (c : Nat) (hd : a.eval d = .slice dp n c)
    (g off : Nat) (cur : List Value) (tt : TypeId) (hg : w.heap[g]? = some (.cells cur.toArray tt (0, 0))) (zs : List Value) (hzs : zs = (Builtin.zeroCells z.cells n).toList)
    (hpos : 0 < n → dp = some ⟨g, off, none⟩) (h0 : n = 0 → zs = []) (hfit : off + zs.length ≤ cur.length) (h1 : ∀ v ∈ zs, v.oneCell' = true) (B : Nat) (w0 : World) (hb : Below B w0 w) (hBg : B ≤ g)
    (h : ∀ w', Hid (w'.heap[g]? = some (.cells (splice cur off zs).toArray tt (0, 0))) → Below B w0 w' → wpList P ops Q rest (a.put o.dst (.tuple #[])) w') :
    wpList P ops Q (o :: rest) a w := by
  obtain ⟨w', hrun, hg', hb'⟩ := run_clearK (P := P) w t elem o.type z n c dp g off cur tt zs hu hv hzs hg hpos h0 hfit h1
  refine wpList_plain hgd fun K hK => ?_
  unfold Oper.wp
  simp [execOp, ho, resolve, invoke, builtin, hd, hrun, Result.andThen]
  exact hK _ _ (h _ (Lib.hid hg') (hb' _ _ hb hBg))
theorem zero_length (z : Value) (n : Nat) : (Builtin.zeroCells z.cells n).toList.length = n * z.cells.size := by simp [Builtin.zeroCells]
theorem zero_one (z : Value) (n : Nat) (h : ∀ v ∈ z.cells.toList, v.oneCell' = true) : ∀ v ∈ (Builtin.zeroCells z.cells n).toList, v.oneCell' = true := by
  intro v hv
  simp only [Builtin.zeroCells, Array.toList_map, Array.toList_range, List.mem_map, List.mem_range] at hv
  obtain ⟨i, hi, rfl⟩ := hv
  have hs : i % z.cells.size < z.cells.size := Nat.mod_lt _ (by
    rcases Nat.eq_zero_or_pos z.cells.size with h0 | h0
    · rw [h0] at hi; omega
    · exact h0)
  rw [getElem!_pos z.cells _ hs]
  exact h _ (by simp)
end Go.Proofs.YtmochhgmhhopoaaGreatDoor
