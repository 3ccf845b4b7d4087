/- A script read from its text by the program's ParseScript, for every text of at most 2^20 bytes. Conditions: the table of words, the library's table of powers and its two errors lie where they are laid. -/
import Derived.Test.YtgmccafmopgjaaaGreatDoorLinesT
import Derived.Test.YtgmccafmopgjaaaGreatDoorScr10
import Derived.Shelf.Small.Wraps
import Derived.Maps.AppendAt
namespace Go.Proofs.YtgmccafmopgjaaaGreatDoor
open Go Go.RowKit Go.Shelf

attribute [local go_sem] Oper.semAt_some

def cutT (s : ByteArray) : ByteArray := ⟨(Lib.trimSuffix s.data.toList [10]).toArray⟩
def endB (s : ByteArray) : Bool := Lib.hasSuffix s.data.toList [10]
theorem cutS_any (s : ByteArray) (w : World) (hs : s.size ≤ 1048576) : Calls Tryz.prog 42 #[.string s, .string ⟨#[10]⟩] w fun e w' => e = .returned (.tuple #[.string (cutT s), .bool (endB s)]) ∧ w' = w :=
  Any.strings_CutSuffix Tryz.lays104 s ⟨#[10]⟩ w (by omega)
theorem cutT_end {s : ByteArray} (h : endB s = true) : s.data.toList = (cutT s).data.toList ++ [10] := by
  obtain ⟨a, ha⟩ := List.isSuffixOf_iff_suffix.1 h
  have hp : Lib.hasSuffix s.data.toList [10] = true := h
  rw [cutT, Lib.trimSuffix, if_pos hp, ← ha]
  simp
theorem cutT_app {s : ByteArray} {a : List UInt8} (h : s.data.toList = a ++ [10]) : endB s = true ∧ (cutT s).data.toList = a := by
  have he : endB s = true := by rw [endB, Lib.hasSuffix, h, List.isSuffixOf_iff_suffix]; exact List.suffix_append _ _
  exact ⟨he, List.append_cancel_right ((cutT_end he).symm.trans h)⟩
theorem cutT_size (s : ByteArray) : (cutT s).size ≤ s.size := by
  have h2 : (cutT s).size = (Lib.trimSuffix s.data.toList [10]).length := List.size_toArray
  rw [h2, Lib.trimSuffix, ← ba_list]
  split
  · rw [List.length_take]; omega
  · omega
theorem lns_length (l : List UInt8) : (lns l).length ≤ l.length := by
  induction l with
  | nil => exact Nat.le_refl _
  | cons b l ih =>
    rw [lns]
    split
    · rw [List.length_cons, List.length_cons]; omega
    · cases hl : lns l with
      | nil => simp
      | cons p ps => rw [hl] at ih; simp only [List.length_cons] at *; omega
theorem LnAt.size {s : ByteArray} {pre : List ByteArray} {x : ByteArray} {more : List (List UInt8)} (h : LnAt s pre (x.data.toList :: more)) : x.size ≤ s.size ∧ pre.length + 1 ≤ s.size := by
  have hf := congrArg List.length (lns_flat s.data.toList)
  have hl := lns_length s.data.toList
  rw [← h, ba_list] at hf hl
  rw [List.flatten_append, List.flatten_cons, List.length_append, List.length_append, ba_list] at hf
  rw [List.length_append, List.length_cons, List.length_map] at hl
  omega
/-- a line that is no step's -/
theorem line_bad {s : ByteArray} {pre : List ByteArray} {x : ByteArray} {more : List (List UInt8)} (h : LnAt s pre (x.data.toList :: more)) {o : Option St} (ho : PsIs (cutT x) o) (hb : (endB x && o.isSome) = false) : ScIs s none := by
  refine lines_bad h.symm fun z hz e => ?_
  obtain ⟨he, ht⟩ := cutT_app e
  have e2 : cutT x = stT z := ByteArray.ext (Array.toList_inj.1 ht)
  rw [e2] at ho
  rw [he, ho.uniq (psIs_text hz)] at hb
  cases hb
theorem row_off {W : World} {base B : Nat} {e : TypeId} {sz : Nat} {v : Value} {k : Nat} {xs : List Value} (h : W.ownsRow base e sz v k xs) (hB : B < base) : some B ≠ v.ownBlock := by
  intro e'
  have := (h.lt B e'.symm).1
  omega
theorem keeps_below {B : Nat} {W W' : World} (h : Below W.heap.size W W') : KeepsFrom B W W' :=
  ⟨h.size, fun k _ _ hk _ => (h.block k (Array.getElem?_eq_some_iff.1 hk).1).trans hk⟩
/-- between two rounds -/
def PiI (w : World) (pre : List ByteArray) (W : World) : Prop := ∃ v ys, Boxed W (w.heap.size + 2) 33 v ∧ OwSt (w.heap.size + 4) W v ys ∧ pre.map (fun p => p.data.toList) = (ys.map stL).map (· ++ [10]) ∧ OkL ys ∧
  Boxed W w.heap.size 33 (.slice none 0 0) ∧ Boxed W (w.heap.size + 1) 4 (.bool false) ∧ Below w.heap.size w W
/-- a round has returned -/
def PiX (s : ByteArray) (w W : World) : Prop := ScIs s none ∧ Boxed W w.heap.size 33 (.slice none 0 0) ∧ Boxed W (w.heap.size + 1) 4 (.bool false) ∧ Below w.heap.size w W
theorem piI_cell (w : World) : ∀ pre A A', PiI w pre A → A.grownBy A' (some (w.heap.size + 3)) → PiI w pre A' := by
  rintro pre A A' ⟨v, ys, h1, h2, h3, h4, h5, h6, h7⟩ hg
  exact ⟨v, ys, h1.kept hg (by simp), h2.grown hg (.inr (row_off h2.1 (by omega)).symm), h3, h4, h5.kept hg (by simp), h6.kept hg (by simp), Below.grown h7 hg h7.size (fun k e => by cases e; omega)⟩
theorem box_not {A : World} {b : Nat} {t : TypeId} {v : Value} {row : Option Nat} (h : Boxed A b t v) (hr : ∀ r, row = some r → ∃ o : Obj, A.heap[r]? = some o ∧ o.isCells = false) : some b ≠ row := by
  intro e
  obtain ⟨_, ho, hc⟩ := hr b e.symm
  rw [show A.heap[b]? = _ from h] at ho; cases ho; cases hc
theorem piI_from (w : World) (B : Nat) (hB : w.heap.size ≤ B) : OwnFrom B (PiI w) := by
  rintro pre A A' row ⟨v, ys, h1, h2, h3, h4, h5, h6, h7⟩ hg hr
  have hr' : ∀ r, row = some r → ∃ o : Obj, A.heap[r]? = some o ∧ o.isCells = false := fun r e => (hr r e).2
  refine ⟨v, ys, h1.kept hg (box_not h1 hr'), h2.grown hg ?_, h3, h4, h5.kept hg (box_not h5 hr'), h6.kept hg (box_not h6 hr'), h7.grown hg h7.size (fun k e => Nat.le_trans hB (hr k e).1)⟩
  rcases h2.1.2 with ⟨rfl, _⟩ | ⟨g, cap, cur, rfl, _, hgb, _⟩
  · exact .inl rfl
  · refine .inr fun e' => ?_
    obtain ⟨o, ho, hc⟩ := hr' g (by simpa [Value.ownBlock] using e'.symm)
    rw [hgb] at ho; cases ho; cases hc
theorem piX_from (s : ByteArray) (w : World) (B : Nat) (hB : w.heap.size ≤ B) : OwnFrom B (fun (_ : Unit) => PiX s w) := by
  rintro _ A A' row ⟨h0, h5, h6, h7⟩ hg hr
  have hr' : ∀ r, row = some r → ∃ o : Obj, A.heap[r]? = some o ∧ o.isCells = false := fun r e => (hr r e).2
  exact ⟨h0, h5.kept hg (box_not h5 hr'), h6.kept hg (box_not h6 hr'), h7.grown hg h7.size (fun k e => Nat.le_trans hB (hr k e).1)⟩
theorem box_below {A A' : World} {b : Nat} {t : TypeId} {v : Value} (h : Boxed A b t v) (hb : Below A.heap.size A A') : Boxed A' b t v := (hb.block b h.lt).trans h
theorem box_other {A : World} {b c : Nat} {t : TypeId} {v u : Value} (h : Boxed A b t v) (hne : b ≠ c) : Boxed (A.setCell ⟨c, 0, none⟩ u) b t v := (Below.heap_setCell _ _ _ b hne).trans h
theorem pi_stop {s : ByteArray} {w W WB : World} {B : Nat} (o : Obj) (hX : ScIs s none) (hB : Below W.heap.size W WB) (h5 : Boxed W w.heap.size 33 (.slice none 0 0)) (h6 : Boxed W (w.heap.size + 1) 4 (.bool false)) (h7 : Below w.heap.size w W) :
    KeepsFrom B W (((WB.setCell ⟨w.heap.size, 0, none⟩ (.slice none 0 0)).setCell ⟨w.heap.size + 1, 0, none⟩ (.bool false)).alloc o) ∧ PiX s w (((WB.setCell ⟨w.heap.size, 0, none⟩ (.slice none 0 0)).setCell ⟨w.heap.size + 1, 0, none⟩ (.bool false)).alloc o) := by
  have hW := h7.trans (hB.mono h7.size)
  have hW2 := (hW.setCell (p := ⟨w.heap.size, 0, none⟩) (Nat.le_refl _) (.slice none 0 0)).setCell (p := ⟨w.heap.size + 1, 0, none⟩) (Nat.le_succ _) (.bool false)
  exact ⟨(((keeps_below hB).trans ((KeepsOthers.setCell _ _ _).from _)).trans ((KeepsOthers.setCell _ _ _).from _)).trans ((KeepsOthers.alloc _ o).from _), hX, (box_other ((box_below h5 hB).set _) (by omega)).alloc o, ((box_other (box_below h6 hB) (by omega)).set _).alloc o, hW2.alloc hW2.size o⟩
theorem pi_next {w W WB w2 : World} {pre : List ByteArray} {x : ByteArray} {ys : List St} {y : St} {v v' : Value} {tmp : Obj} (hB : Below W.heap.size W WB) (hv : Boxed W (w.heap.size + 2) 33 v) (ho : OwSt (w.heap.size + 4) W v ys)
    (h3 : pre.map (fun p => p.data.toList) = (ys.map stL).map (· ++ [10])) (h4 : OkL ys) (h5 : Boxed W w.heap.size 33 (.slice none 0 0)) (h6 : Boxed W (w.heap.size + 1) 4 (.bool false)) (h7 : Below w.heap.size w W) (hb3 : w.heap.size + 3 < W.heap.size)
    (hx : x.data.toList = stL y ++ [10]) (hy : stB y = true) (hl : ys.length + 1 ≤ 1073741824) (hok : y.ok)
    (hown' : w2.ownsRow (w.heap.size + 4) 25 3 v' (ys.length + 1) (ys.flatMap St.cells ++ y.cells)) (hgrow : (WB.alloc tmp).grownBy w2 v.ownBlock) :
    Boxed w2 (w.heap.size + 2) 33 v ∧ (∀ B, KeepsFrom B W (w2.setCell ⟨w.heap.size + 2, 0, none⟩ v')) ∧ (w2.setCell ⟨w.heap.size + 2, 0, none⟩ v').heap[w.heap.size + 3]? = W.heap[w.heap.size + 3]? ∧ PiI w (pre ++ [x]) (w2.setCell ⟨w.heap.size + 2, 0, none⟩ v') := by
  have hoB := ho.below hB
  have hv1 := ((box_below hv hB).alloc tmp).kept hgrow (row_off hoB.1 (by omega))
  have h51 := ((box_below h5 hB).alloc tmp).kept hgrow (row_off hoB.1 (by omega))
  have h61 := ((box_below h6 hB).alloc tmp).kept hgrow (row_off hoB.1 (by omega))
  have hlt : w.heap.size + 3 < (WB.alloc tmp).heap.size := by have := hB.size; simp; omega
  have hr3 : w2.heap[w.heap.size + 3]? = W.heap[w.heap.size + 3]? := by
    rw [hgrow.block _ hlt (row_off hoB.1 (by omega)), Below.heap_alloc _ _ _ (by have := hB.size; omega), hB.block _ hb3]
  refine ⟨hv1, fun B => ?_, (Below.heap_setCell _ _ _ _ (by simp)).trans hr3, v', ys ++ [y], hv1.set _, ⟨?_, by simpa using hl, ?_⟩, ?_, ?_, box_other h51 (by omega), box_other h61 (by omega), ?_⟩
  · refine (((keeps_below hB).trans ((KeepsOthers.alloc _ tmp).from _)).trans ((KeepsOthers.of_grownBy hgrow fun j o ej hj => ?_).from _)).trans ((KeepsOthers.setCell _ _ _).from _)
    rcases (hoB.1.alloc tmp).2 with ⟨rfl, _⟩ | ⟨g, cap, cur, rfl, _, hgb, _⟩
    · simp [Value.ownBlock] at ej
    · obtain rfl : g = j := by simpa [Value.ownBlock] using ej
      rw [hgb] at hj; cases hj; rfl
  · have := hown'.kept (grownBy_setCell' w2 (w.heap.size + 2) v') (.inr (row_off hown' (by omega)).symm)
    rw [List.flatMap_append, List.length_append]
    simpa using this
  · intro z hz
    rcases List.mem_append.1 hz with hz | hz
    · exact ho.2.2 z hz
    · rw [List.mem_singleton.1 hz]; exact hok
  · rw [List.map_append, h3, List.map_append, List.map_append]
    simp [hx]
  · intro z hz
    rcases List.mem_append.1 hz with hz | hz
    · exact h4 z hz
    · rw [List.mem_singleton.1 hz]; exact hy
  · have hW := h7.trans (hB.mono h7.size)
    exact (Below.grown (hW.alloc hW.size tmp) hgrow (by have := hW.size; simp; omega) (fun j e => Nat.le_trans (by omega) (hoB.1.lt j e).1)).setCell (p := ⟨w.heap.size + 2, 0, none⟩) (by simp) _
set_option maxRecDepth 100000 in
set_option maxHeartbeats 8000000 in
theorem implParseScript_any (s : ByteArray) (w : World) (hs : s.size ≤ 1048576) (hW : WordsAt w) (hP : PowAt w) (hE : ErrAt w) :
    Calls Tryz.prog 16 #[.string s] w fun e w' => ∃ u o, e = .returned (.tuple #[u, .bool o.isSome]) ∧ ScIs s o ∧ OwSt w.heap.size w' u (o.getD []) ∧ Below w.heap.size w w' := by
  have HWo := Lib.hid hW; have HPw := Lib.hid hP; have HEr := Lib.hid hE
  clear hW hP hE
  obtain ⟨i0, hi, hz0, hz1, hz2⟩ := info_parts infoSt
  refine (callsIn_wide (n := 3)).1 ?_
  refine callsIn_of_wp_marks Tryz.func16 rfl trivial ?_ rfl
  simp only [Tryz.ntmps16, List.size_toArray, List.length_cons, List.length_nil, Nat.reduceAdd, Nat.reduceSub, Array.replicate_succ, Array.replicate_zero, List.push_toArray, List.append_toArray, List.nil_append, List.cons_append]
  gi_wp2_with (refine ⟨trivial, ?_⟩; gi_at_call 41; refine (lines_any _ s _).mono ?_; rintro e w' ⟨rfl, rfl⟩)
  have bS : Boxed ((((w.alloc (.cells #[.slice none 0 0] 33)).alloc (.cells #[.bool false] 4)).alloc (.cells #[.slice none 0 0] 33)).alloc (.cells #[.string s] 9)) (w.heap.size + 3) 9 (.string s) := by
    have := Boxed.new (((w.alloc (.cells #[.slice none 0 0] 33)).alloc (.cells #[.bool false] 4)).alloc (.cells #[.slice none 0 0] 33)) 9 (.string s)
    simpa using this
  have hI0 : PiI w [] ((((w.alloc (.cells #[.slice none 0 0] 33)).alloc (.cells #[.bool false] 4)).alloc (.cells #[.slice none 0 0] 33)).alloc (.cells #[.string s] 9)) := by
    refine ⟨.slice none 0 0, [], ?_, ⟨World.ownsRow_nil _ _ _ _, by simp, by simp⟩, rfl, (by intro x hx; cases hx), (((Boxed.new w _ _).alloc _).alloc _).alloc _, ?_, ((((Below.refl _ w).alloc (Nat.le_refl _) _).alloc (by simp) _).alloc (by simp; omega) _).alloc (by simp; omega) _⟩
    · have := (Boxed.new ((w.alloc (.cells #[.slice none 0 0] 33)).alloc (.cells #[.bool false] 4)) 33 (.slice none 0 0)).alloc (.cells #[.string s] 9)
      simpa using this
    · have := ((Boxed.new (w.alloc (.cells #[.slice none 0 0] 33)) 4 (.bool false)).alloc (.cells #[.slice none 0 0] 33)).alloc (.cells #[.string s] 9)
      simpa using this
  refine wpIn_rangeFunc_cell rfl (by omega) (gf := 61) (b := w.heap.size + 3) (t := 9) (s := s) rfl trivial (enters_of Tryz.func61 (by kernel_rfl) rfl) (lines_seq _ (by omega) _ s hs) bS rfl (PiI w) (PiX s w) (piI_cell w)
    (piI_from w _ (by simp; omega)) (piX_from s w _ (by simp; omega)) hI0 (fun x => { tmps := #[.string s, undef, .pointer (some ⟨w.heap.size, 0, none⟩), .pointer (some ⟨w.heap.size + 1, 0, none⟩), .pointer (some ⟨w.heap.size + 1 + 1, 0, none⟩), .string x, undef, undef, undef, undef, .string s, .func (.func 61) #[] #[.pointer (some ⟨w.heap.size + 1 + 1 + 1, 0, none⟩)], .string x, undef, undef, undef, undef, undef, undef, undef, undef, undef, undef, undef, undef, undef, undef, undef, undef, undef, undef, undef, undef, undef, undef, undef, undef], defers := [] }) ?assign ?body ?done ?stop
  case assign =>
    intro l x W K hK
    gi_wp2
    exact hK
  case body =>
    clear bS hI0
    rintro l pre x more W hln hI hbW
    have HI := Lib.hid hI; clear hI
    have hsz := hln.size
    have HLn := Lib.hid hln; clear hln
    have hcz := cutT_size x
    have HB0 : Hid (Below w.heap.size w W) := Lib.hid (HI.out.elim fun _ h => h.elim fun _ h => h.2.2.2.2.2.2)
    gi_wp2_with (refine ⟨trivial, ?_⟩; gi_at_call 42; refine (CallsIn.inRound l (callsIn_wide.2 (cutS_any x _ (by omega)))).mono ?_; rintro e w' ⟨rfl, rfl⟩)
    refine ⟨trivial, ?_⟩
    refine (CallsIn.inRound l (callsIn_wide.2 (implParseStep_any (cutT x) _ (by omega) (HWo.out.below HB0.out) (HPw.out.below HB0.out) (HEr.out.below HB0.out)))).mono ?_
    rintro e W1 ⟨o, rfl, ho, hb1⟩
    have HBd := Lib.hid (fun h => line_bad HLn.out ho h)
    obtain ⟨v, ys, h1, h2, h3, h4, h5, h6, h7⟩ := HI.out
    have HB1 := Lib.hid hb1
    have HO := Lib.hid ho
    clear ho
    have hb5 := box_below h5 hb1
    have hb6 := box_below h6 hb1
    have c5 := hb5.cell
    have f5 := hb5.frozen
    have c6 := hb6.cell
    have f6 := hb6.frozen
    have l5 := hb5.lt
    have l6 := hb6.lt
    have hb4 := box_below h1 hb1
    have c4 : W1.cell? ⟨w.heap.size + 1 + 1, 0, none⟩ = some v := hb4.cell
    have f4 : W1.frozen? ⟨w.heap.size + 1 + 1, 0, none⟩ = false := hb4.frozen
    have l4 : w.heap.size + 1 + 1 < W1.heap.size := hb4.lt
    have G : ∀ a n d, Hid (Below w'.heap.size w' (W1.alloc (.cells #[.int .i64 a, .int .i64 n, .string d] 25))) := fun a n d => Lib.hid (HB1.out.alloc HB1.out.size _)
    cases o with
    | none =>
      have HX := HBd.out (by simp)
      have HG := G 0 0 ⟨#[]⟩
      rw [show psEnd none = .returned (.tuple #[.agg #[.int .i64 0, .int .i64 0, .string ⟨#[]⟩], .bool false]) from rfl]
      cases hE : endB x
      · gi_wp2
        exact pi_stop _ HX HB1.out h5 h6 h7
      · gi_wp2
        exact pi_stop _ HX HB1.out h5 h6 h7
    | some y =>
      have hps := psIs_size HO.out
      obtain ⟨a, n, d⟩ := y
      have HG := G a n d
      rw [show psEnd (some ⟨a, n, d⟩) = .returned (.tuple #[.agg #[.int .i64 a, .int .i64 n, .string d], .bool true]) from rfl]
      cases hE : endB x
      · have HX := HBd.out (by rw [hE]; rfl)
        gi_wp2
        exact pi_stop _ HX HB1.out h5 h6 h7
      · have hxe : x.data.toList = stL ⟨a, n, d⟩ ++ [10] := by rw [cutT_end hE, ← hps.2]
        have hlen : ys.length = pre.length := by have := congrArg List.length h3; simpa using this.symm
        have hA : ys.length + 1 ≤ maxLen := by unfold maxLen; omega
        have hC : (ys.length + 1) * 32 ≤ 140737488355328 := by omega
        have hE2 : ys.length + 1 ≤ 1073741824 := by omega
        clear hlen
        have hD : w.heap.size + 4 ≤ ((W1.alloc (.cells #[.int .i64 a, .int .i64 n, .string d] 25)).alloc (.cells #[.int .i64 a, .int .i64 n, .string d] 25)).heap.size := by
          have := HB1.out.size; simp; omega
        have hoB := (h2.below HG.out).1
        have hok : (⟨a, n, d⟩ : St).ok := by
          unfold St.ok
          rcases stIs_cases (⟨hps.1, rfl, rfl⟩ : StIs a _ ⟨a, n, d⟩) with ⟨_, e, _⟩ | ⟨_, d', h8, _, _, e, _⟩ | ⟨_, e, _⟩ | ⟨_, n', _, _, e, _⟩ <;> cases e
          · exact Nat.zero_le _
          · exact Nat.le_trans h8 (by decide)
          · exact Nat.zero_le _
          · exact Nat.zero_le _
        gi_wp2_with (gi_at_builtin; refine wpListIn_append_own _ rfl _ _ 33 rfl (w.heap.size + 4) 25 i0 (.agg #[.int .i64 0, .int .i64 0, .string ⟨#[]⟩]) 3 32 Tryz.underlying33 hi hz0 hz1 hz2 rfl (by decide) _ _ _ rfl (hoB.alloc _) ⟨W1.heap.size + 1, 0, none⟩ 1 1 [.int .i64 a, .int .i64 n, .string d] rfl rfl (cells_at _ #[.int .i64 a, .int .i64 n, .string d] _ (by simp)) (by intro u hu; simp at hu; rcases hu with rfl | rfl | rfl <;> rfl) hA hC hD ?_; intro v' w2 hown' hgrow _; obtain ⟨g', cap', rfl⟩ := ownsRow_succ hown'; obtain ⟨q1, q2⟩ := pi_next HG.out h1 h2 h3 h4 h5 h6 h7 hbW hxe hps.1 hE2 hok hown' hgrow; have c9 : w2.cell? ⟨w.heap.size + 1 + 1, 0, none⟩ = some v := q1.cell; have f9 : w2.frozen? ⟨w.heap.size + 1 + 1, 0, none⟩ = false := q1.frozen)
        exact ⟨q2.1 _, q2.2⟩
  case done =>
    clear bS hI0
    rintro D pre W hD hln ⟨v, ys, h1, h2, h3, h4, h5, h6, h7⟩ hK
    have c4 : W.cell? ⟨w.heap.size + 1 + 1, 0, none⟩ = some v := h1.cell
    have HLs : Hid (lns s.data.toList = (ys.map stL).map (· ++ [10])) := Lib.hid (by rw [← h3, ← hln]; simp)
    have HEnd := Lib.hid (lines_end HLs.out h4)
    obtain ⟨p, cap, b, off, rfl, _, _, _⟩ := h2.rd.parts
    gi_wp2_with fail
    refine ⟨trivial, ?_⟩
    refine (callsIn_wide.2 (implIsScript_any _ ys _ h2.rd)).mono ?_
    rintro e W1 ⟨rfl, hb⟩
    have hD' : w.heap.size ≤ D := by simp at hD; omega
    have hK1 := (hb.block D (Array.getElem?_eq_some_iff.1 hK).1).trans hK
    have hb5 := box_below h5 hb
    have hb6 := box_below h6 hb
    have hb4 := box_below h1 hb
    have c5 := hb5.cell
    have f5 := hb5.frozen
    have c6 := hb6.cell
    have f6 := hb6.frozen
    have c4' : W1.cell? ⟨w.heap.size + 1 + 1, 0, none⟩ = some _ := hb4.cell
    have hW1 := h7.trans (hb.mono h7.size)
    have l5 := hb5.lt
    have l6 := hb6.lt
    cases hB : scB ys
    · have HX := HEnd.out
      rw [hB] at HX
      gi_wp2
      have hK2 := (KeepsOthers.setCell _ ⟨w.heap.size + 1, 0, none⟩ (.bool false)).same D _ ((KeepsOthers.setCell W1 ⟨w.heap.size, 0, none⟩ (.slice none 0 0)).same D _ hK1 rfl) rfl
      refine ⟨by simp, .inl ⟨_, _, rfl, run_takeDeferred hK2, ?_⟩⟩
      have h55 := (box_other (hb5.set (.slice none 0 0)) (show w.heap.size ≠ w.heap.size + 1 by omega) (u := .bool false)).cell
      have h66 := ((box_other hb6 (show w.heap.size + 1 ≠ w.heap.size by omega) (u := .slice none 0 0)).set (.bool false)).cell
      have d5 := cell_kept h55 (grownBy_putObj' _ D (.deferred none)) (fun r e => by cases e; exact ⟨_, hK2, rfl⟩)
      have d6 := cell_kept h66 (grownBy_putObj' _ D (.deferred none)) (fun r e => by cases e; exact ⟨_, hK2, rfl⟩)
      refine ⟨.tuple #[.slice none 0 0, .bool false], by simp [results, Tryz.results16, go_sem, d5, d6], _, none, rfl, HX, ⟨World.ownsRow_nil _ _ _ _, by simp, by simp⟩, ?_⟩
      have hW2 := (hW1.setCell (p := ⟨w.heap.size, 0, none⟩) (Nat.le_refl _) (.slice none 0 0)).setCell (p := ⟨w.heap.size + 1, 0, none⟩) (Nat.le_succ _) (.bool false)
      exact hW2.trans (belowK_b (w := w) (Nat.le_refl _) _ D _ _ hD' hK2 rfl rfl)
    · have HX := HEnd.out
      rw [hB] at HX
      gi_wp2
      have hK2 := (KeepsOthers.setCell _ ⟨w.heap.size + 1, 0, none⟩ (.bool true)).same D _ ((KeepsOthers.setCell W1 ⟨w.heap.size, 0, none⟩ (.slice p ys.length cap)).same D _ hK1 rfl) rfl
      refine ⟨by simp, .inl ⟨_, _, rfl, run_takeDeferred hK2, ?_⟩⟩
      have h55 := (box_other (hb5.set (.slice p ys.length cap)) (show w.heap.size ≠ w.heap.size + 1 by omega) (u := .bool true)).cell
      have h66 := ((box_other hb6 (show w.heap.size + 1 ≠ w.heap.size by omega) (u := .slice p ys.length cap)).set (.bool true)).cell
      have d5 := cell_kept h55 (grownBy_putObj' _ D (.deferred none)) (fun r e => by cases e; exact ⟨_, hK2, rfl⟩)
      have d6 := cell_kept h66 (grownBy_putObj' _ D (.deferred none)) (fun r e => by cases e; exact ⟨_, hK2, rfl⟩)
      have ho := h2.below hb
      have ho1 := ho.grown (grownBy_setCell' W1 w.heap.size (.slice p ys.length cap)) (.inr (row_off ho.1 (by omega)).symm)
      have ho2 := ho1.grown (grownBy_setCell' _ (w.heap.size + 1) (.bool true)) (.inr (row_off ho1.1 (by omega)).symm)
      refine ⟨.tuple #[.slice p ys.length cap, .bool true], by simp [results, Tryz.results16, go_sem, d5, d6], _, some ys, rfl, HX, ⟨ownsRow_putObj (own_base ho2.1 (by omega)) _ hK2 rfl, ho2.2⟩, ?_⟩
      have hW2 := (hW1.setCell (p := ⟨w.heap.size, 0, none⟩) (Nat.le_refl _) (.slice p ys.length cap)).setCell (p := ⟨w.heap.size + 1, 0, none⟩) (Nat.le_succ _) (.bool true)
      exact hW2.trans (belowK_b (w := w) (Nat.le_refl _) _ D _ _ hD' hK2 rfl rfl)
  case stop =>
    clear bS hI0
    rintro D W hD ⟨hX, h5, h6, h7⟩ hK
    have hD' : w.heap.size ≤ D := by simp at hD; omega
    have d5 := cell_kept h5.cell (grownBy_putObj' _ D (.deferred none)) (fun r e => by cases e; exact ⟨_, hK, rfl⟩)
    have d6 := cell_kept h6.cell (grownBy_putObj' _ D (.deferred none)) (fun r e => by cases e; exact ⟨_, hK, rfl⟩)
    gi_wp2
    refine ⟨by simp, .inl ⟨_, _, rfl, run_takeDeferred hK, ?_⟩⟩
    exact ⟨.tuple #[.slice none 0 0, .bool false], by simp [results, Tryz.results16, go_sem, d5, d6], _, none, rfl, hX, ⟨World.ownsRow_nil _ _ _ _, by simp, by simp⟩, h7.trans (belowK_b (w := w) (Nat.le_refl _) _ D _ _ hD' hK rfl rfl)⟩
end Go.Proofs.YtgmccafmopgjaaaGreatDoor
