/- Numbers read from a list of texts: the program's parseInts, for every list of at most 1000 texts of at most 2^20 bytes. Conditions: the library's table of powers and its two errors lie where they are laid. -/
import Derived.Test.YtohbkohidpgjpaaGreatDoorPInt
import Derived.Test.YtohbkohidpgjpaaGreatDoorStrS
import Derived.Test.YtohbkohidpgjpaaGreatDoorIntS
namespace Go.Proofs.YtohbkohidpgjpaaGreatDoor
open Go.RowKit

def riB (ws : List ByteArray) : Bool := ws.all fun s => (readO s).isSome
def riM (ws : List ByteArray) : List Int := ws.map fun s => (readO s).getD 0
def riL (ws : List ByteArray) : List Int := if riB ws = true then riM ws else []
theorem riB_take (ws : List ByteArray) (k : Nat) (h : k < ws.length) (hb : riB (ws.take k) = true) (hk : (readO ws[k]).isSome = true) : riB (ws.take (k + 1)) = true := by
  rw [List.take_succ_eq_append_getElem h, riB, List.all_append, Bool.and_eq_true]
  exact ⟨hb, by simp [hk]⟩
theorem riB_no (ws : List ByteArray) (k : Nat) (h : k < ws.length) (hk : (readO ws[k]).isSome = false) : riB ws = false := by
  cases hb : riB ws with
  | false => rfl
  | true => have := List.all_eq_true.1 hb _ (List.getElem_mem h); rw [hk] at this; cases this
set_option maxRecDepth 100000 in
set_option maxHeartbeats 2000000 in
theorem parseInts_any (v : Value) (ws : List ByteArray) (w : World) (h : RdS w v ws) (hs : ∀ x ∈ ws, x.size ≤ 1048576) (hl : ws.length ≤ 1000) (hP : PowAt w) (hE : ErrAt w) :
    Calls Tryz.prog 30 #[v] w fun e w' => ∃ v', e = .returned (.tuple #[v', .bool (riB ws)]) ∧ OwI w.heap.size w' v' (riL ws) ∧ Below w.heap.size w w' := by
  have HPw := Lib.hid hP; have HEr := Lib.hid hE; clear hP hE
  have HSz := Lib.hid hs; clear hs
  obtain ⟨i0, hi, hz0, hz1, hz2⟩ := info_parts infoInt
  obtain ⟨p, cap, b, off, rfl, hcap, hp, hcell⟩ := h.parts
  have HC := Lib.hid hcell; clear hcell
  have HP := Lib.hid hp; clear hp h
  go_enter Tryz.func30, Tryz.ntmps30
  go_wp2
  go_loopw [4, 11] (fun v i wr => ∃ k : Nat, k ≤ ws.length ∧ i = .int .i64 k ∧ Hid (riB (ws.take k) = true) ∧ Hid (OwI w.heap.size wr v (riM (ws.take k))) ∧ Hid (Below w.heap.size w wr)) (fun _ i _ => ws.length - (intOf i).toNat)
  case atStart => exact ⟨0, Nat.zero_le _, rfl, Lib.hid rfl, Lib.hid ⟨World.ownsRow_nil _ _ _ _, Nat.zero_le _⟩, Lib.hid (Below.refl _ _)⟩
  case round =>
    obtain ⟨k, hk, rfl, HK, HO, HB⟩ := hrel
    by_cases hlt : k < ws.length
    · obtain rfl := HP.out (by omega)
      have c1 := cell_on HB.out (HC.out k hlt)
      have HR := Lib.hid (fun w a b => parseInt_any ws[k] w (HSz.out _ (List.getElem_mem hlt)) a b)
      unfold rdEnd at HR
      have HYes := Lib.hid (fun h => riB_take ws k hlt HK.out h)
      have HNo := Lib.hid (fun h => riB_no ws k hlt h)
      have HM : Hid (riM (ws.take (k + 1)) = riM (ws.take k) ++ [(readO ws[k]).getD 0]) := Lib.hid (by rw [List.take_succ_eq_append_getElem hlt, riM, List.map_append]; rfl)
      generalize ws[k] = s at *
      generalize (readO s).getD 0 = n at *
      cases hf : (readO s).isSome
      · rw [hf] at HR
        have hno := HNo.out hf
        have HN := Lib.hid hno; clear hno hf HYes HNo
        go_wp2_with fail
        refine (HR.out _ (HPw.out.below HB.out) (HEr.out.below HB.out)).mono ?_
        rintro e w1 ⟨rfl, hb1⟩
        have HB1 := Lib.hid (HB.out.trans (hb1.mono HB.out.size)); clear hb1
        go_wp2
        refine bodyPost_ret (v := (.tuple #[.slice none 0 0, .bool false])) (by simp [results, Tryz.results30, go_sem, *]) rfl ?_
        exact ⟨_, by rw [HN.out], by rw [riL, HN.out]; exact ⟨World.ownsRow_nil _ _ _ _, Nat.zero_le _⟩, HB1.out⟩
      · rw [hf] at HR
        have HY := Lib.hid (HYes.out hf); clear hf HYes HNo
        go_wp2_with fail
        refine (HR.out _ (HPw.out.below HB.out) (HEr.out.below HB.out)).mono ?_
        rintro e w1 ⟨rfl, hb1⟩
        have HO1 := Lib.hid (HO.out.below hb1)
        have HB1 := Lib.hid (HB.out.trans (hb1.mono HB.out.size)); clear hb1 HO
        have z1 := HB1.out.size
        have hkl : (riM (ws.take k)).length ≤ 1000 := by rw [riM, List.length_map, List.length_take]; omega
        have hO := HO1.out.1
        generalize riM (ws.take k) = L at *
        go_wp2_with (first | (at_builtin; go_loud (refine wpList_append_own _ rfl _ _ 44 rfl (w.heap.size) 3 i0 (.int .i64 0) 1 8 Tryz.underlying44 hi hz0 hz1 hz2 rfl (by decide) _ _ _ rfl (HO1.out.1.alloc _) ⟨w1.heap.size, 0, none⟩ 1 1 [.int .i64 n] rfl rfl ?c1A ?c2A ?c3A ?c4A ?c5A ?_)))
        try (case c1A => first | exact cells_new _ #[.int .i64 n] _ | exact cells_at _ #[.int .i64 n] _ (by simp) | rfl)
        try (case c2A => first | rfl | exact ⟨rfl, rfl, rfl⟩ | exact ⟨rfl, rfl⟩ | (intro u hu; simp at hu; rcases hu with rfl | rfl | rfl | rfl <;> rfl) | (intro u hu; simp at hu; rcases hu with rfl | rfl | rfl <;> rfl) | (intro u hu; simp at hu; rcases hu with rfl | rfl <;> rfl) | (intro u hu; simp at hu; subst hu; rfl))
        try (case c3A => first | omega | (unfold maxLen; omega))
        try (case c4A => first | omega | ((try simp only [World.heap_size_alloc]); omega))
        try (case c5A => first | omega | (simp; omega))
        intro v' w2 hown' hgrow
        try intro _
        have HB2 := Lib.hid ((HB1.out.trans (Below.mono (by go_grown) HB1.out.size)).grown hgrow (Nat.le_trans HB1.out.size (by simp)) (fun j hj => (hO.lt j hj).1))
        have HO2 : Hid (OwI w.heap.size w2 v' (L ++ [n])) := Lib.hid ⟨by rw [List.map_append, List.length_append]; exact hown', by simp; omega⟩
        clear hown' hgrow HO1 HB1 hO
        go_wp2
        go_roundw
        case rel => exact ⟨k + 1, by omega, by go_num, HY, Lib.hid (by rw [HM.out]; exact HO2.out), HB2⟩
        case measure => (simp [intOf]; try omega)
    · obtain rfl : k = ws.length := by omega
      have hb := HK.out
      have ho := HO.out
      rw [List.take_length] at hb ho
      have HOo := Lib.hid ho
      clear HO HK ho
      have HBb := Lib.hid hb; clear hb
      go_wp2
      refine bodyPost_ret (v := (.tuple #[u4, .bool true])) (by simp [results, Tryz.results30, go_sem, *]) rfl ?_
      exact ⟨_, by rw [HBb.out], by rw [riL, if_pos HBb.out]; exact HOo.out, HB.out⟩
end Go.Proofs.YtohbkohidpgjpaaGreatDoor
