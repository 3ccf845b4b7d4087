/- A script read from its text: lines and parts of a text, in plain Lean. No program's text is walked here. -/
import Derived.Test.YtgmccafmopgjaaaGreatDoorPsCand
namespace Go.Proofs.YtgmccafmopgjaaaGreatDoor
open Go.RowKit

/-- the lines of a text, each with the byte 10 that ends it (the last may lack it) -/
def lns : List UInt8 → List (List UInt8)
  | [] => []
  | b :: l => if b = 10 then [10] :: lns l else match lns l with
    | [] => [[b]]
    | p :: ps => (b :: p) :: ps
theorem lns_hit {a : List UInt8} (b : List UInt8) (h : (10 : UInt8) ∉ a) : lns (a ++ 10 :: b) = (a ++ [10]) :: lns b := by
  induction a with
  | nil => rw [List.nil_append, lns, if_pos rfl]; rfl
  | cons x a ih =>
    rw [List.mem_cons, not_or] at h
    rw [List.cons_append, lns, if_neg (fun e => h.1 e.symm), ih h.2]
    rfl
theorem lns_miss {l : List UInt8} (h : (10 : UInt8) ∉ l) (h0 : l ≠ []) : lns l = [l] := by
  induction l with
  | nil => exact absurd rfl h0
  | cons x l ih =>
    rw [List.mem_cons, not_or] at h
    rw [lns, if_neg (fun e => h.1 e.symm)]
    cases l with
    | nil => rfl
    | cons y l => rw [ih h.2 (by simp)]
theorem lns_flat (l : List UInt8) : (lns l).flatten = l := by
  induction l with
  | nil => rfl
  | cons b l ih =>
    rw [lns]
    split
    · rename_i hb; subst hb; rw [List.flatten_cons, ih]; rfl
    · cases hl : lns l with
      | nil => rw [hl] at ih; rw [← ih]; rfl
      | cons p ps => rw [hl] at ih; rw [← ih]; rfl
def nlL (ps : List (List UInt8)) : List UInt8 := (ps.map (· ++ [10])).flatten
theorem nlL_cons (p : List UInt8) (ps : List (List UInt8)) : nlL (p :: ps) = p ++ 10 :: nlL ps := by simp [nlL]
theorem lns_nl : ∀ {ps : List (List UInt8)}, (∀ p ∈ ps, (10 : UInt8) ∉ p) → lns (nlL ps) = ps.map (· ++ [10])
  | [], _ => rfl
  | p :: ps, h => by
    rw [nlL_cons, lns_hit _ (h p (List.mem_cons_self ..)), lns_nl (fun q hq => h q (List.mem_cons_of_mem _ hq)), List.map_cons]
theorem spl_nl : ∀ {ps : List (List UInt8)}, (∀ p ∈ ps, (10 : UInt8) ∉ p) → spl 10 (nlL ps) = ps ++ [[]]
  | [], _ => rfl
  | p :: ps, h => by
    rw [nlL_cons, spl_hit _ (h p (List.mem_cons_self ..)), spl_nl (fun q hq => h q (List.mem_cons_of_mem _ hq)), List.cons_append]
theorem spl_nl_back : ∀ (l : List UInt8) (ps : List (List UInt8)), spl 10 l = ps ++ [[]] → l = nlL ps
  | [], ps, h => by
    cases ps with
    | nil => rfl
    | cons p ps => have := congrArg List.length h; simp [spl] at this
  | b :: l, ps, h => by
    rw [spl] at h
    split at h
    · rename_i hb; subst hb
      cases ps with
      | nil =>
        obtain ⟨p, qs, hp⟩ := spl_ne 10 l
        rw [hp] at h; cases h
      | cons p ps =>
        rw [List.cons_append, List.cons.injEq] at h
        rw [nlL_cons, ← h.1, ← spl_nl_back l ps h.2]; rfl
    · obtain ⟨p, qs, hp⟩ := spl_ne 10 l
      rw [hp] at h
      simp only [List.headD_cons, List.tail_cons] at h
      cases ps with
      | nil => rw [List.nil_append, List.cons.injEq] at h; cases h.1
      | cons q ps =>
        rw [List.cons_append, List.cons.injEq] at h
        obtain ⟨rfl, h2⟩ := h
        have := spl_nl_back l (p :: ps) (by rw [hp, h2, List.cons_append])
        rw [nlL_cons] at this ⊢
        rw [List.cons_append, ← this]
/-- a step's text -/
abbrev stL (x : St) : List UInt8 := (stT x).data.toList
theorem stW_no : ∀ {k : Nat}, k ≤ 6 → (10 : UInt8) ∉ (stW k).data.toList := by
  intro k h
  have : k = 0 ∨ k = 1 ∨ k = 2 ∨ k = 3 ∨ k = 4 ∨ k = 5 ∨ k = 6 := by omega
  rcases this with rfl | rfl | rfl | rfl | rfl | rfl | rfl <;> decide
theorem app_list (a b : ByteArray) : (a ++ b).data.toList = a.data.toList ++ b.data.toList := by rw [ByteArray.data_append, Array.toList_append]
theorem stL_no {x : St} (h : stB x = true) : (10 : UInt8) ∉ stL x := by
  have hx : StIs x.kd (stT x) x := ⟨h, rfl, rfl⟩
  rcases stIs_cases hx with ⟨_, _, e⟩ | ⟨_, d, _, _, hd, _, e⟩ | ⟨_, _, e⟩ | ⟨hk, n, h1, h2, _, e⟩
  · rw [stL, e]; exact stW_no (by omega)
  · rw [stL, e, app_list, app_list]
    intro hm
    rcases List.mem_append.1 hm with hm | hm
    · exact stW_no (by omega) hm
    · rcases List.mem_append.1 hm with hm | hm
      · exact absurd hm (by decide)
      · exact absurd (List.all_eq_true.1 hd _ hm) (by decide)
  · rw [stL, e]; exact stW_no (by omega)
  · rw [stL, e, app_list, app_list]
    intro hm
    rcases List.mem_append.1 hm with hm | hm
    · exact stW_no (by omega) hm
    · rcases List.mem_append.1 hm with hm | hm
      · exact absurd hm (by decide)
      · rcases dig1_eq h1 h2 with rfl | rfl | rfl | rfl | rfl | rfl | rfl <;> exact absurd hm (by decide)
theorem stT_short {x : St} (h : stB x = true) : (stT x).size ≤ 13 := by
  have hx : StIs x.kd (stT x) x := ⟨h, rfl, rfl⟩
  have z1 : (⟨#[32]⟩ : ByteArray).size = 1 := rfl
  have w1 : (stW 1).size = 4 := rfl
  have w4 : (stW 4).size = 4 := rfl
  rcases stIs_cases hx with ⟨_, _, e⟩ | ⟨_, d, h8, _, hd, _, e⟩ | ⟨_, _, e⟩ | ⟨hk, n, h1, h2, _, e⟩
  · rw [e, w1]; omega
  · rw [e, ByteArray.size_append, ByteArray.size_append, w1, z1]; omega
  · rw [e, w4]; omega
  · rw [e, ByteArray.size_append, ByteArray.size_append, z1, dig1_size]
    have : (stW x.kd.toNat).size ≤ 7 := by
      rcases hk with hk | hk | hk | hk <;> rw [hk] <;> decide
    omega
theorem scT_list (xs : List St) : ∀ n, n ≤ xs.length → (scT xs n).data.toList = nlL ((xs.take n).map stL)
  | 0, _ => rfl
  | n + 1, h => by
    rw [scT_succ xs n (by omega), app_list, app_list, scT_list xs n (by omega), List.take_succ_eq_append_getElem (by omega), List.map_append, nlL, nlL, List.map_append, List.flatten_append]
    simp
theorem scT_all (xs : List St) : (scT xs xs.length).data.toList = nlL (xs.map stL) := by rw [scT_list xs _ (Nat.le_refl _), List.take_length]
def OkL (xs : List St) : Prop := ∀ x ∈ xs, stB x = true
theorem scB_okL {xs : List St} : scB xs = true ↔ xs.length ≤ 30 ∧ OkL xs := by
  rw [scB, Bool.and_eq_true, decide_eq_true_eq, List.all_eq_true]; rfl
theorem OkL.no {xs : List St} (h : OkL xs) : ∀ p ∈ xs.map stL, (10 : UInt8) ∉ p := by
  intro p hp
  obtain ⟨x, hx, rfl⟩ := List.mem_map.1 hp
  exact stL_no (h x hx)
theorem st_inj {x y : St} (hx : stB x = true) (hy : stB y = true) (h : stL x = stL y) : x = y := by
  have e : stT x = stT y := ByteArray.ext (Array.toList_inj.1 h)
  have h1 := psIs_text hx
  rw [e] at h1
  exact Option.some.inj (h1.uniq (psIs_text hy))
theorem OkL.inj : ∀ {xs ys : List St}, OkL xs → OkL ys → xs.map stL = ys.map stL → xs = ys
  | [], [], _, _, _ => rfl
  | [], _ :: _, _, _, h => by cases h
  | _ :: _, [], _, _, h => by cases h
  | x :: xs, y :: ys, hx, hy, h => by
    rw [List.map_cons, List.map_cons, List.cons.injEq] at h
    rw [st_inj (hx x (List.mem_cons_self ..)) (hy y (List.mem_cons_self ..)) h.1, OkL.inj (fun z hz => hx z (List.mem_cons_of_mem _ hz)) (fun z hz => hy z (List.mem_cons_of_mem _ hz)) h.2]
/-- o is the script with the text s, if there is one -/
def ScIs (s : ByteArray) : Option (List St) → Prop
  | some xs => scB xs = true ∧ scT xs xs.length = s
  | none => ∀ xs, scB xs = true → scT xs xs.length ≠ s
theorem text_spl {s : ByteArray} {xs : List St} (hB : scB xs = true) (h : scT xs xs.length = s) : spl 10 s.data.toList = xs.map stL ++ [[]] := by
  rw [← h, scT_all, spl_nl (scB_okL.1 hB).2.no]
theorem text_lns {s : ByteArray} {xs : List St} (hB : scB xs = true) (h : scT xs xs.length = s) : lns s.data.toList = (xs.map stL).map (· ++ [10]) := by
  rw [← h, scT_all, lns_nl (scB_okL.1 hB).2.no]
theorem text_size {xs : List St} (hB : scB xs = true) : (scT xs xs.length).size ≤ 420 := by
  have ⟨h1, h2⟩ := scB_okL.1 hB
  have key : ∀ n, n ≤ xs.length → (scT xs n).size ≤ 14 * n := by
    intro n hn
    induction n with
    | zero => exact Nat.le_refl _
    | succ n ih =>
      have := stT_short (h2 xs[n] (List.getElem_mem _))
      have z1 : (⟨#[10]⟩ : ByteArray).size = 1 := rfl
      rw [scT_succ xs n (by omega), ByteArray.size_append, ByteArray.size_append, z1]
      have := ih (by omega)
      omega
  have := key _ (Nat.le_refl _)
  omega
theorem ScIs.uniq {s : ByteArray} {o o' : Option (List St)} (h : ScIs s o) (h' : ScIs s o') : o = o' := by
  match o, o', h, h' with
  | none, none, _, _ => rfl
  | none, some y, h, h' => exact absurd h'.2 (h y h'.1)
  | some x, none, h, h' => exact absurd h.2 (h' x h.1)
  | some x, some y, h, h' =>
    have e := (text_spl h.1 h.2).symm.trans (text_spl h'.1 h'.2)
    rw [(scB_okL.1 h.1).2.inj (scB_okL.1 h'.1).2 (List.append_cancel_right e)]
/-- the program's reader: a line that is no step's -/
theorem lines_bad {s : ByteArray} {pre : List (List UInt8)} {x : List UInt8} {more : List (List UInt8)} (h : lns s.data.toList = pre ++ x :: more) (hb : ∀ z, stB z = true → x ≠ stL z ++ [10]) : ScIs s none := by
  intro xs hB e
  have h1 := h.symm.trans (text_lns hB e)
  have hm : x ∈ (xs.map stL).map (· ++ [10]) := by rw [← h1]; simp
  obtain ⟨p, hp, rfl⟩ := List.mem_map.1 hm
  obtain ⟨z, hz, rfl⟩ := List.mem_map.1 hp
  exact hb z ((scB_okL.1 hB).2 z hz) rfl
/-- the program's reader at its end -/
theorem lines_end {s : ByteArray} {ys : List St} (h : lns s.data.toList = (ys.map stL).map (· ++ [10])) (hy : OkL ys) : ScIs s (if scB ys = true then some ys else none) := by
  split
  · rename_i hB
    refine ⟨hB, ByteArray.ext (Array.toList_inj.1 ?_)⟩
    rw [scT_all, ← lns_flat s.data.toList, h]; rfl
  · rename_i hB
    intro xs hx e
    have h1 := h.symm.trans (text_lns hx e)
    have h2 : ys.map stL = xs.map stL := by
      have hinj : ∀ {a b : List (List UInt8)}, a.map (· ++ [(10 : UInt8)]) = b.map (· ++ [10]) → a = b := by
        intro a
        induction a with
        | nil => intro b hb; cases b with
          | nil => rfl
          | cons q b => cases hb
        | cons p a ih =>
          intro b hb
          cases b with
          | nil => cases hb
          | cons q b =>
            rw [List.map_cons, List.map_cons, List.cons.injEq] at hb
            rw [List.append_cancel_right hb.1, ih hb.2]
      exact hinj h1
    have h3 := hy.inj (scB_okL.1 hx).2 h2
    subst h3
    exact hB hx
/-- the reference's reader: a part that is no step's -/
theorem parts_bad {s : ByteArray} {i : Nat} {p : List UInt8} (hi : i + 1 < (spl 10 s.data.toList).length) (h : (spl 10 s.data.toList)[i]? = some p) (hb : ∀ z, stB z = true → p ≠ stL z) : ScIs s none := by
  intro xs hB e
  rw [text_spl hB e] at h hi
  simp at hi
  rw [List.getElem?_append_left (by simpa using hi), List.getElem?_map, List.getElem?_eq_getElem hi] at h
  have h1 := Option.some.inj h
  exact hb _ ((scB_okL.1 hB).2 _ (List.getElem_mem hi)) h1.symm
theorem parts_end {s : ByteArray} {ys : List St} (h : spl 10 s.data.toList = ys.map stL ++ [[]]) (hy : OkL ys) : ScIs s (if scB ys = true then some ys else none) := by
  split
  · rename_i hB
    refine ⟨hB, ByteArray.ext (Array.toList_inj.1 ?_)⟩
    rw [scT_all, spl_nl_back _ _ h]
  · rename_i hB
    intro xs hx e
    have h1 := h.symm.trans (text_spl hx e)
    have h3 := hy.inj (scB_okL.1 hx).2 (List.append_cancel_right h1)
    subst h3
    exact hB hx
theorem parts_long {s : ByteArray} (h : 450 < s.size) : ScIs s none := by
  intro xs hB e
  have := text_size hB
  rw [e] at this
  omega
theorem parts_last {s : ByteArray} {L : List (List UInt8)} {p : List UInt8} (h : spl 10 s.data.toList = L ++ [p]) (hp : p ≠ []) : ScIs s none := by
  intro xs hB e
  have h1 := h.symm.trans (text_spl hB e)
  exact hp (by simpa using (List.append_inj' h1 rfl).2)
end Go.Proofs.YtgmccafmopgjaaaGreatDoor
