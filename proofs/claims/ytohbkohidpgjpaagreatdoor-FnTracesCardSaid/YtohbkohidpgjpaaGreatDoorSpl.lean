/- Splitting a text at a byte, and the names of counters and groups: plain laws. -/
import Derived.Test.YtohbkohidpgjpaaGreatDoorLet
import Derived.Lib.SplitLaws
import Derived.Lib.IndexLaws
import Derived.Lib.Split
namespace Go.Proofs.YtohbkohidpgjpaaGreatDoor
open Go.RowKit

/-- the parts of a text between the bytes c -/
def spl (c : UInt8) : List UInt8 → List (List UInt8)
  | [] => [[]]
  | b :: l => if b = c then [] :: spl c l else (b :: (spl c l).headD []) :: (spl c l).tail
theorem spl_ne (c : UInt8) (l : List UInt8) : ∃ p ps, spl c l = p :: ps := by
  cases l with
  | nil => exact ⟨_, _, rfl⟩
  | cons b l =>
    unfold spl
    split
    · exact ⟨_, _, rfl⟩
    · exact ⟨_, _, rfl⟩
theorem spl_miss {c : UInt8} {l : List UInt8} (h : c ∉ l) : spl c l = [l] := by
  induction l with
  | nil => rfl
  | cons b l ih =>
    rw [List.mem_cons, not_or] at h
    rw [spl, if_neg (fun e => h.1 e.symm), ih h.2]
    rfl
theorem spl_hit {c : UInt8} {a : List UInt8} (b : List UInt8) (h : c ∉ a) : spl c (a ++ c :: b) = a :: spl c b := by
  induction a with
  | nil => rw [List.nil_append, spl, if_pos rfl]
  | cons x a ih =>
    rw [List.mem_cons, not_or] at h
    rw [List.cons_append, spl, if_neg (fun e => h.1 e.symm), ih h.2]
    rfl
theorem spl_length (c : UInt8) (l : List UInt8) : (spl c l).length = l.count c + 1 := by
  induction l with
  | nil => rfl
  | cons b l ih =>
    rw [spl, List.count_cons]
    by_cases h : b = c
    · subst h; simp [ih]
    · rw [if_neg h]
      obtain ⟨p, ps, hp⟩ := spl_ne c l
      rw [hp] at ih ⊢
      have hb : (b == c) = false := by simpa using h
      simp only [List.tail_cons, List.length_cons] at ih ⊢
      simp [hb]; omega
theorem idx_mem {c : UInt8} {l : List UInt8} (h : c ∈ l) : ∃ a b, l = a ++ c :: b ∧ c ∉ a := by
  induction l with
  | nil => cases h
  | cons x l ih =>
    by_cases he : x = c
    · subst he; exact ⟨[], l, rfl, by simp⟩
    · have hm : c ∈ l := (List.mem_cons.1 h).resolve_left (fun e => he e.symm)
      obtain ⟨a, b, rfl, hb⟩ := ih hm
      exact ⟨x :: a, b, rfl, by rw [List.mem_cons, not_or]; exact ⟨fun e => he e.symm, hb⟩⟩
theorem index1_hit {c : UInt8} {a : List UInt8} (b : List UInt8) (h : c ∉ a) : Lib.index (a ++ c :: b) [c] = a.length := by
  induction a with
  | nil => simp [Lib.index]
  | cons x a ih =>
    rw [List.mem_cons, not_or] at h
    have hp : ([c] : List UInt8).isPrefixOf (x :: (a ++ c :: b)) = false := by simp [List.isPrefixOf]; exact h.1
    rw [List.cons_append, Lib.index, hp, ih h.2]
    rw [if_neg (by simp), if_neg (by rw [beq_iff_eq]; omega)]
    simp
theorem index1_miss {c : UInt8} {l : List UInt8} (h : c ∉ l) : Lib.index l [c] = -1 := by
  induction l with
  | nil => simp [Lib.index]
  | cons x l ih =>
    rw [List.mem_cons, not_or] at h
    have hp : ([c] : List UInt8).isPrefixOf (x :: l) = false := by simp [List.isPrefixOf]; exact h.1
    rw [Lib.index, hp, ih h.2]; rfl
theorem splitK_spl (c : UInt8) : ∀ (k : Nat) (l : List UInt8), l.count c = k → Lib.splitK [c] 0 k l = spl c l := by
  intro k
  induction k with
  | zero =>
    intro l h
    rw [spl_miss (fun hm => by have := List.count_pos_iff.2 hm; omega)]
    rfl
  | succ k ih =>
    intro l h
    obtain ⟨a, b, rfl, hn⟩ := idx_mem (List.count_pos_iff.1 (show 0 < l.count c by omega))
    have hi := index1_hit b hn
    rw [Lib.splitK, hi, if_neg (by rw [beq_iff_eq]; omega), spl_hit b hn]
    have ha : a.count c = 0 := List.count_eq_zero.2 hn
    rw [List.count_append, List.count_cons, ha] at h
    have e1 : (a ++ c :: b).take (((a.length : Int)).toNat + 0) = a := by simp
    have e2 : (a ++ c :: b).drop (((a.length : Int)).toNat + ([c] : List UInt8).length) = b := by
      rw [show ((a.length : Int)).toNat + ([c] : List UInt8).length = a.length + 1 from by simp, List.drop_append]
      simp
    rw [e1, e2, ih b (by simpa using h)]
/-- a part of a name -/
def partL (p : List UInt8) : Bool := !p.isEmpty && p.all letter
/-- the name of a counter -/
def nameB (s : ByteArray) : Bool := decide (s.size ≤ 20) && (spl 46 s.data.toList).all partL
def partB (s : ByteArray) : Bool := !s.toList.isEmpty && letB s
theorem partB_eq (s : ByteArray) : partB s = partL s.data.toList := by rw [partB, partL, ByteArray.toList_eq]; rfl
theorem nameB_parts {s : ByteArray} {xs : List ByteArray} (h : xs.map (·.data.toList) = spl 46 s.data.toList) : nameB s = (decide (s.size ≤ 20) && xs.all partB) := by
  rw [nameB, ← h, List.all_map]
  congr 1
  exact congrArg (fun p => xs.all p) (funext fun x => (partB_eq x).symm)
end Go.Proofs.YtohbkohidpgjpaaGreatDoor
