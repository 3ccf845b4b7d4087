/- Lists of groups that came in as arguments: opened, and their sizes. -/
import Derived.Test.YtpgonlfaeejakaaDoorGr4
namespace Go.Proofs.YtpgonlfaeejakaaDoor
open Go.ChangeShapes Go.WideShapes Go.ChangeAt Go.RowKit Go.Deep

theorem AsI.below {w w' : World} {v : Value} {xs : List Int} (h : AsI w v xs) (hb : Below w.heap.size w w') : AsI w' v xs := ⟨fun hl => (h.1 hl).below hb, h.2⟩
def GrGood (w : World) (p : Gr × Value) : Prop := p.1.nm.size ≤ 9223372036854775807 ∧ AsI w p.2 p.1.ms
def AsGr (w : World) (v : Value) (ps : List (Gr × Value)) : Prop := Rd w v 2 ps.length (ps.flatMap GrC) ∧ ps.length ≤ 9223372036854775807 ∧ ∀ p ∈ ps, GrGood w p
theorem AsGr.below {w w' : World} {v : Value} {ps : List (Gr × Value)} (h : AsGr w v ps) (hb : Below w.heap.size w w') : AsGr w' v ps := ⟨h.1.below hb, h.2.1, fun p hp => ⟨(h.2.2 p hp).1, (h.2.2 p hp).2.below hb⟩⟩
def GrSmall (ps : List (Gr × Value)) : Prop := ps.length ≤ 1048576 ∧ ∀ p ∈ ps, p.1.nm.size ≤ 1048576 ∧ p.1.ms.length ≤ 1048576
theorem AsGr.at {w : World} {v : Value} {ps : List (Gr × Value)} (h : AsGr w v ps) (hs : GrSmall ps) : GrAt w v ps :=
  ⟨h.1, by have := hs.1; omega, fun p hp => ⟨(hs.2 p hp).1, (h.2.2 p hp).2.rd (by have := (hs.2 p hp).2; omega)⟩⟩
theorem AsGr.parts {w : World} {v : Value} {ps : List (Gr × Value)} (h : AsGr w v ps) : ∃ (p : Option Addr) (cap b off : Nat), v = .slice p ps.length cap ∧ ps.length ≤ cap ∧ (0 < ps.length → p = some ⟨b, off, none⟩) ∧
    (∀ k (hk : k < ps.length), w.cell? ⟨b, off + k * 2, none⟩ = some (.string ps[k].1.nm) ∧ w.cell? ⟨b, off + k * 2 + 1, none⟩ = some ps[k].2) := by
  obtain ⟨⟨hl, p, cap, b, off, hv, hcap, _, hc⟩, _⟩ := h
  refine ⟨p, cap, b, off, hv, hcap, fun h => (hc h).1, fun k hk => ⟨?_, ?_⟩⟩
  · rw [(hc (by omega)).2 (k * 2) (by omega)]
    exact flat_get GrC 2 (fun _ => rfl) ps k 0 hk (by omega)
  · rw [show off + k * 2 + 1 = off + (k * 2 + 1) from by omega, (hc (by omega)).2 (k * 2 + 1) (by omega)]
    exact flat_get GrC 2 (fun _ => rfl) ps k 1 hk (by omega)
set_option maxRecDepth 100000 in
theorem open_cellI {H : Type} {enc : TypeId × Value → H} {W : World} {n : Nat} {v : Value} {y : DataW H × List MemPlace}
    (hf : DataW.trod enc Tryd.prog W 0 (fun _ => true) true n 37 [v] = some y) : ∃ xs, AsI W v xs := by
  rcases open_ints Tryd.underlying37 Tryd.underlying3 (by kernel_rfl) hf with ⟨hcs, _⟩ | ⟨a, len, cap, zs, hcs, _, hl, hm, hz, _, hcell, _⟩
  · obtain rfl : v = .slice none 0 0 := by simpa using hcs
    exact ⟨[], fun _ => ⟨⟨rfl, none, 0, 0, 0, rfl, Nat.le_refl _, fun _ => rfl, fun h => by cases h⟩, by simp⟩, by simp, none, 0, rfl⟩
  · obtain rfl : v = .slice (some a) len cap := by simpa using hcs
    have hz' : zs.length = cap := by simpa using hz
    have hlen : (zs.take len).length = len := by rw [List.length_take]; omega
    refine ⟨zs.take len, fun hs => ⟨?_, hs⟩, by rw [hlen]; unfold maxLen at hm; omega, some a, cap, by rw [hlen]⟩
    rw [hlen]
    by_cases h0 : 0 < len
    · obtain ⟨b, off, rfl, hc⟩ := ints_at hcell (by omega)
      refine ⟨by simp; omega, some ⟨b, off, none⟩, cap, b, off, rfl, hl, (by intro h; cases h), fun _ => ⟨rfl, fun k hk => ?_⟩⟩
      have h1 := hc k (by omega)
      have hk1 : k < zs.length := by omega
      have hk2 : k < len := by omega
      rw [h1]
      simp [hk1, hk2]
    · have h00 : len = 0 := by omega
      subst h00
      exact ⟨by simp, some a, cap, 0, 0, rfl, hl, (by intro h; cases h), fun h => by omega⟩
set_option maxRecDepth 100000 in
theorem trodGr {H : Type} {enc : TypeId × Value → H} {W : World} {n : Nat} {cs : List Value} {y : DataW H × List MemPlace} (h : DataW.trod enc Tryd.prog W 0 (fun _ => true) true n 39 cs = some y) :
    ∃ x : Gr × Value, cs = GrC x ∧ GrGood W x := by
  obtain ⟨hl, hf⟩ := trod_fields Tryd.underlying39 (by kernel_rfl) (by kernel_rfl) h
  match cs, hl with
  | [c0, c1], _ =>
    obtain ⟨_, _, h0⟩ := hf 0 _ c0 rfl rfl
    obtain ⟨_, _, h1⟩ := hf 1 _ c1 rfl rfl
    obtain ⟨a0, e0, _, z0⟩ := DataW.trod_string Tryd.underlying9 h0
    obtain ⟨xs, hx⟩ := open_cellI h1
    simp at e0
    exact ⟨(⟨a0, xs⟩, c1), by simp [e0], z0, hx⟩
instance : Inhabited (Gr × Value) := ⟨(⟨⟨#[]⟩, []⟩, .slice none 0 0)⟩
def ArgGr (w : World) (v : Value) : Prop := ∃ ps, AsGr w v ps
theorem open_argGr {H : Type} {enc : TypeId × Value → H} {W : World} {base : Nat} {v : Value} {d : DataW H} {p : List MemPlace}
    (hok : Value.okWide Tryd.prog W .any base 22 v) (h : DataW.Trod enc Tryd.prog W 0 (fun _ => true) true 22 v d p) : ArgGr W v := by
  obtain ⟨xs, h1, h2, h3, _⟩ := open_sl GrC 2 (GrGood W) (by omega) (fun _ => rfl) Tryd.underlying22 (by kernel_rfl) (fun n cs y h => trodGr h) hok h
  exact ⟨xs, h1, h2, h3⟩
def szI (n : Nat) (left : Int) : Int := if left - n < 0 then -1 else left - n
theorem szI_any (p : Option Addr) (n cap : Nat) (left : Int) (w : World) (hn : n ≤ 9223372036854775807) (h0 : 0 ≤ left) (h1 : left ≤ 1048576) :
    Calls Tryd.prog 27 #[.slice p n cap, .int .i64 left] w fun e w' => e = .returned (.int .i64 (szI n left)) ∧ w = w' := by
  by_cases hlt : left - n < 0
  · go_enter Tryd.func27, Tryd.ntmps27
    go_wp2
    go_ret
    exact ⟨by simp [szI, hlt], rfl⟩
  · go_enter Tryd.func27, Tryd.ntmps27
    go_wp2
    go_ret
    exact ⟨ret_int (by rw [szI, if_neg (by simpa using hlt)]), rfl⟩
set_option maxHeartbeats 1000000 in
theorem szGroup_any (nm : ByteArray) (p : Option Addr) (n cap : Nat) (left : Int) (w : World) (hs : nm.size ≤ 9223372036854775807) (hn : n ≤ 9223372036854775807) (h0 : 0 ≤ left) (h1 : left ≤ 1048576) :
    Calls Tryd.prog 16 #[.agg #[.string nm, .slice p n cap], .int .i64 left] w fun e w' => ∃ r : Int, e = .returned (.int .i64 r) ∧ (r < 0 ∨ (0 ≤ r ∧ r ≤ left ∧ nm.size ≤ 1048576 ∧ n ≤ 1048576)) ∧ Below w.heap.size w w' := by
  by_cases hlt : left - nm.size < 0
  · go_enter Tryd.func16, Tryd.ntmps16
    go_wp2
    go_ret
    exact ⟨_, rfl, .inl (by omega), by go_grown⟩
  · have HS := Lib.hid (fun w => szI_any p n cap (left - nm.size) w hn (by omega) (by omega))
    have hv : szI n (left - nm.size) = if left - nm.size - n < 0 then -1 else left - nm.size - n := rfl
    by_cases hl2 : left - nm.size - n < 0
    · rw [hv, if_pos hl2] at HS
      clear hv
      go_enter Tryd.func16, Tryd.ntmps16
      go_wp2_with fail
      refine (HS.out _).mono ?_
      rintro e w1 ⟨rfl, rfl⟩
      go_wp2
      go_ret
      exact ⟨_, rfl, .inl (by omega), by go_grown⟩
    · rw [hv, if_neg hl2] at HS
      clear hv
      have hge : (0 : Int) ≤ left - nm.size - n := by omega
      generalize hr : left - nm.size - n = r at *
      go_enter Tryd.func16, Tryd.ntmps16
      go_wp2_with fail
      refine (HS.out _).mono ?_
      rintro e w1 ⟨rfl, rfl⟩
      go_wp2
      go_ret
      exact ⟨_, rfl, .inr ⟨by omega, by omega, by omega, by omega⟩, by go_grown⟩
set_option maxRecDepth 100000 in
set_option maxHeartbeats 2000000 in
theorem szGroupS_any (v : Value) (ps : List (Gr × Value)) (left : Int) (w : World) (h : AsGr w v ps) (h0 : 0 ≤ left) (h1 : left ≤ 1048576) :
    Calls Tryd.prog 5 #[v, .int .i64 left] w fun e w' => ∃ r : Int, e = .returned (.int .i64 r) ∧ (r < 0 ∨ (0 ≤ r ∧ GrSmall ps)) ∧ Below w.heap.size w w' := by
  have hn := h.2.1
  have HK := Lib.hid h.2.2
  obtain ⟨p, cap, b, off, rfl, hcap, hp, hcell⟩ := h.parts
  have HC := Lib.hid hcell; clear hcell
  have HP := Lib.hid hp; clear hp h
  by_cases hlt : left - ps.length < 0
  · go_enter Tryd.func5, Tryd.ntmps5
    go_wp2
    go_ret
    exact ⟨_, rfl, .inl (by omega), Below.refl _ _⟩
  · go_enter Tryd.func5, Tryd.ntmps5
    go_wp2
    go_loopw [1, 5] (fun l i wr => ∃ (k : Nat) (q : Int), k ≤ ps.length ∧ i = .int .i64 k ∧ l = .int .i64 q ∧ 0 ≤ q ∧ q ≤ 1048576 ∧ Hid (∀ j (h : j < ps.length), j < k → ps[j].1.nm.size ≤ 1048576 ∧ ps[j].1.ms.length ≤ 1048576) ∧ Below w.heap.size w wr)
      (fun _ i _ => ps.length - (intOf i).toNat)
    case atStart => exact ⟨0, left - ps.length, Nat.zero_le _, rfl, by go_num, by omega, by omega, Lib.hid (fun j _ h => absurd h (by omega)), Below.refl _ _⟩
    case round =>
      obtain ⟨k, q, hk, rfl, rfl, hq0, hq1, HL, hb⟩ := hrel
      by_cases hlt2 : k < ps.length
      · obtain rfl := HP.out (by omega)
        obtain ⟨c0, c1⟩ := HC.out k hlt2
        have c0 := (hb.cell (World.block_lt_of_cell? w _ c0)).trans c0
        have c1 := (hb.cell (World.block_lt_of_cell? w _ c1)).trans c1
        have hg := HK.out ps[k] (List.getElem_mem hlt2)
        obtain ⟨pm, cm, hm⟩ := hg.2.shape
        rw [hm] at c1
        have HT := Lib.hid (fun w => szGroup_any ps[k].1.nm pm ps[k].1.ms.length cm q w hg.1 hg.2.2.1 hq0 hq1)
        have HN : Hid (ps[k].1.nm.size ≤ 1048576 ∧ ps[k].1.ms.length ≤ 1048576 → ∀ j (h : j < ps.length), j < k + 1 → ps[j].1.nm.size ≤ 1048576 ∧ ps[j].1.ms.length ≤ 1048576) := Lib.hid (fun hs j h hj => by
          by_cases he : j = k
          · subst he; exact hs
          · exact HL.out j h (by omega))
        clear hg hm
        go_wp2_with fail
        refine (HT.out _).mono ?_
        rintro e w1 ⟨r, rfl, hr, hb1⟩
        by_cases hr0 : r < 0
        · go_wp2
          go_ret
          exact ⟨_, rfl, .inl (by omega), hb.trans (hb1.mono hb.size)⟩
        · obtain ⟨hr1, hr2, hr3⟩ := hr.resolve_left hr0
          have HNx := Lib.hid (HN.out hr3)
          clear hr hr3
          go_wp2
          go_roundw
          case rel => exact ⟨k + 1, r, by omega, by go_num, rfl, by omega, by omega, HNx, hb.trans (hb1.mono hb.size)⟩
          case measure => simp [intOf]; omega
      · go_wp2
        go_ret
        refine ⟨_, rfl, .inr ⟨hq0, by omega, fun p hp => ?_⟩, hb⟩
        obtain ⟨j, hj, rfl⟩ := List.getElem_of_mem hp
        exact HL.out j hj (by omega)
end Go.Proofs.YtpgonlfaeejakaaDoor
