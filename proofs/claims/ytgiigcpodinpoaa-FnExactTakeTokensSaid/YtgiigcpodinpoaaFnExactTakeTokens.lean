/- The law FnExactTakeTokens: the program's TakeTokens is the reference's, for all arguments. No condition. -/
import Derived.Test.YtgiigcpodinpoaaTwo
import Derived.Test.YtgiigcpodinpoaaLawKit
import Derived.Test.YtgiigcpodinpoaaRate5
import Derived.Test.YtgiigcpodinpoaaBoxK
import Derived.Test.YtgiigcpodinpoaaKeep
import Derived.Deep.DeepCutAuto
namespace Go.Proofs.Ytgiigcpodinpoaa.FnExactTakeTokens
open Go.ChangeShapes Go.WideShapes Go.ChangeAt Go.RowKit

/-- In w', which has come of B by growth, the boxes of a bucket and of a load stand at p and q. -/
def SG (B : World) (p q : Nat) (k : Bk) (x : Ld) (w' : World) : Prop :=
  Below B.heap.size B w' ∧ p < B.heap.size ∧ q < B.heap.size ∧ w'.heap[p]? = some (.cells #[.int .i64 k.n, .int .i64 k.d, .int .i64 k.b, .int .i64 k.l, .int .i64 k.t] 23 (0, 0)) ∧
    w'.heap[q]? = some (.cells #[.int .i64 x.t, .int .i64 x.s] 37 (0, 0))
theorem SG.sx {B w' : World} {p q : Nat} {k : Bk} {x : Ld} (h : SG B p q k x w') : Hid (SG B p q k x w') ∧
      w'.cell? ⟨p, 0, none⟩ = some (.int .i64 k.n) ∧ w'.cell? ⟨p, 1, none⟩ = some (.int .i64 k.d) ∧ w'.cell? ⟨p, 2, none⟩ = some (.int .i64 k.b) ∧ w'.cell? ⟨p, 3, none⟩ = some (.int .i64 k.l) ∧ w'.cell? ⟨p, 4, none⟩ = some (.int .i64 k.t) ∧ w'.cell? ⟨q, 0, none⟩ = some (.int .i64 x.t) ∧ w'.cell? ⟨q, 1, none⟩ = some (.int .i64 x.s) := by
  obtain ⟨_, _, _, h1, h2⟩ := id h
  refine ⟨Lib.hid h, ?_, ?_, ?_, ?_, ?_, ?_, ?_⟩
  all_goals first | (rw [cell_of_row _ _ _ _ _ _ h1]; rfl) | (rw [cell_of_row _ _ _ _ _ _ h2]; rfl)
theorem SG.start (w : World) (k : Bk) (x : Ld) : SG ((w.alloc (.cells #[.int .i64 k.n, .int .i64 k.d, .int .i64 k.b, .int .i64 k.l, .int .i64 k.t] 23)).alloc (.cells #[.int .i64 x.t, .int .i64 x.s] 37)) w.heap.size (w.heap.size + 1) k x ((w.alloc (.cells #[.int .i64 k.n, .int .i64 k.d, .int .i64 k.b, .int .i64 k.l, .int .i64 k.t] 23)).alloc (.cells #[.int .i64 x.t, .int .i64 x.s] 37)) :=
  ⟨Below.refl _ _, by simp; omega, by simp, heap_alloc2_old w _ _, heap_alloc2_new w _ _⟩
theorem SG.drew {B W : World} {p q : Nat} {k : Bk} {x : Ld} (h : SG B p q k x W) : SG B p q k x W.drew := ⟨h.1.drew, h.2⟩
theorem SG.at {B W : World} {p q : Nat} {k : Bk} {x : Ld} (h : SG B p q k x W) : SG W p q k x W := ⟨Below.refl _ _, Nat.lt_of_lt_of_le h.2.1 h.1.size, Nat.lt_of_lt_of_le h.2.2.1 h.1.size, h.2.2.2⟩
theorem SG.below {B W w' : World} {p q : Nat} {k : Bk} {x : Ld} (h : SG B p q k x W) (hb : Below W.heap.size W w') : SG B p q k x w' :=
  ⟨h.1.trans (hb.mono h.1.size), h.2.1, h.2.2.1, (hb.block _ (Array.getElem?_eq_some_iff.1 h.2.2.2.1).1).trans h.2.2.2.1, (hb.block _ (Array.getElem?_eq_some_iff.1 h.2.2.2.2).1).trans h.2.2.2.2⟩
theorem SG.alloc {B W : World} {p q : Nat} {k : Bk} {x : Ld} (h : SG B p q k x W) (o : Obj) : SG B p q k x (W.alloc o) := h.below ((Below.refl _ _).alloc (Nat.le_refl _) _)
theorem SG.set {B W : World} {p q : Nat} {k : Bk} {x : Ld} (h : SG B p q k x W) {g : Nat} (hg : B.heap.size ≤ g) (j : Nat) (u : Value) : SG B p q k x (W.setCell ⟨g, j, none⟩ u) :=
  ⟨h.1.setCell hg _, h.2.1, h.2.2.1, (set_other _ _ _ _ (by have := h.2.1; show p ≠ g; omega)).trans h.2.2.2.1, (set_other _ _ _ _ (by have := h.2.2.1; show q ≠ g; omega)).trans h.2.2.2.2⟩
theorem carry {W w' : World} {g : Nat} {o : Obj} (hb : Below W.heap.size W w') (h : W.heap[g]? = some o) : w'.heap[g]? = some o := (hb.block g (Array.getElem?_eq_some_iff.1 h).1).trans h
/-- A block that was laid right ahead of a call stands behind it, beyond B. -/
theorem fresh {B W w' : World} {p q : Nat} {k : Bk} {x : Ld} {cs : Array Value} {t : TypeId} {C : Prop} (hb : Below (W.alloc (.cells cs t)).heap.size (W.alloc (.cells cs t)) w') (h : Hid (SG B p q k x W) ∧ C) : w'.heap[W.heap.size]? = some (.cells cs t (0, 0)) ∧ B.heap.size ≤ W.heap.size :=
  ⟨carry hb (heap_alloc_new W _), h.1.out.1.size⟩
theorem freshD {B W w' : World} {p q : Nat} {k : Bk} {x : Ld} {cs : Array Value} {t : TypeId} (hb : Below (W.alloc (.cells cs t)).drew.heap.size (W.alloc (.cells cs t)).drew w') (h : Hid (SG B p q k x W)) : w'.heap[W.heap.size]? = some (.cells cs t (0, 0)) ∧ B.heap.size ≤ W.heap.size :=
  ⟨carry hb (heap_alloc_new W _), h.out.1.size⟩
/-- A block that was laid last. -/
theorem ends {B W : World} {p q : Nat} {k : Bk} {x : Ld} {a b c d e : Int} {f : Bool} {C : Prop} (h : Hid (SG B p q k x W) ∧ C) (h' : Hid (SG B p q k x (W.alloc (.cells #[.int .i64 a, .int .i64 b, .int .i64 c, .int .i64 d, .int .i64 e] 25)))) :
    ∃ g : Nat, Value.pointer (some ⟨W.heap.size, 0, none⟩) = .pointer (some ⟨g, 0, none⟩) ∧ Value.bool f = .bool f ∧ Hid (SG B p q k x (W.alloc (.cells #[.int .i64 a, .int .i64 b, .int .i64 c, .int .i64 d, .int .i64 e] 25))) ∧ B.heap.size ≤ g ∧ BoxBk (W.alloc (.cells #[.int .i64 a, .int .i64 b, .int .i64 c, .int .i64 d, .int .i64 e] 25)) g ⟨a, b, c, d, e⟩ :=
  ⟨_, rfl, rfl, h', h.1.out.1.size, heap_alloc_new _ _⟩
/-- A block of five ints that was laid ahead of a call stands behind it. -/
theorem five {w' : World} {g : Nat} {a b c d e : Int} {t : TypeId} (h : w'.heap[g]? = some (.cells #[.int .i64 a, .int .i64 b, .int .i64 c, .int .i64 d, .int .i64 e] t (0, 0))) :
    g < w'.heap.size ∧ (w'.cell? ⟨g, 0, none⟩ = some (.int .i64 a) ∧ w'.cell? ⟨g, 1, none⟩ = some (.int .i64 b) ∧ w'.cell? ⟨g, 2, none⟩ = some (.int .i64 c) ∧ w'.cell? ⟨g, 3, none⟩ = some (.int .i64 d) ∧ w'.cell? ⟨g, 4, none⟩ = some (.int .i64 e)) ∧
    w'.frozen? ⟨g, 0, none⟩ = false ∧ w'.frozen? ⟨g, 1, none⟩ = false ∧ w'.frozen? ⟨g, 2, none⟩ = false ∧ w'.frozen? ⟨g, 3, none⟩ = false ∧ w'.frozen? ⟨g, 4, none⟩ = false := by
  refine ⟨(Array.getElem?_eq_some_iff.1 h).1, ⟨?_, ?_, ?_, ?_, ?_⟩, ?_, ?_, ?_, ?_, ?_⟩
  all_goals simp [World.cell?, World.frozen?, h]

set_option maxRecDepth 100000 in
set_option maxHeartbeats 16000000 in
theorem walk (v0 : Value) (v1 : Value) (w : World) (x0 : ArgBk w v0) (x1 : ArgLd w v1) :
    Calls Try.prog 8 #[v0, v1] w fun e w' => e = .returned (.bool true) ∧ Below w.heap.size w w' := by
  obtain ⟨k, rfl⟩ := x0
  obtain ⟨x, rfl⟩ := x1
  have HK := Lib.hid (toBk_any k)
  have HL := Lib.hid (toLd_any x)
  have hS := specTake_any k x
  have hI := implTake_any k x
  generalize ttK k x = r at hS hI
  generalize ttB k x = b at hS hI
  have HE := Lib.hid (eqBucket_same r)
  obtain ⟨r1, r2, r3, r4, r5⟩ := r
  have HS := Lib.hid hS; clear hS
  have HI := Lib.hid hI; clear hI
  have HW := Lib.hid (SG.start w k x)
  have HB0 := Lib.hid (by go_grown : Below w.heap.size w ((w.alloc (.cells #[.int .i64 k.n, .int .i64 k.d, .int .i64 k.b, .int .i64 k.l, .int .i64 k.t] 23)).alloc (.cells #[.int .i64 x.t, .int .i64 x.s] 37)))
  go_enter Try.func8, Try.ntmps8
  go_upto_region 1 with fail
  generalize ((w.alloc (.cells #[.int .i64 k.n, .int .i64 k.d, .int .i64 k.b, .int .i64 k.l, .int .i64 k.t] 23)).alloc (.cells #[.int .i64 x.t, .int .i64 x.s] 37)) = W0 at HW HB0 ⊢
  go_cut [5, 6] (fun s5 s6 wx => ∃ g : Nat, s5 = .pointer (some ⟨g, 0, none⟩) ∧ s6 = .bool b ∧ Hid (SG W0 w.heap.size (w.heap.size + 1) k x wx) ∧ W0.heap.size ≤ g ∧ BoxBk wx g ⟨r1, r2, r3, r4, r5⟩)
  case first =>
    refine wp_region_held_drew (S := (fun w' => Hid (SG W0 w.heap.size (w.heap.size + 1) k x w') ∧ w'.cell? ⟨w.heap.size, 0, none⟩ = some (.int .i64 k.n) ∧ w'.cell? ⟨w.heap.size, 1, none⟩ = some (.int .i64 k.d) ∧ w'.cell? ⟨w.heap.size, 2, none⟩ = some (.int .i64 k.b) ∧ w'.cell? ⟨w.heap.size, 3, none⟩ = some (.int .i64 k.l) ∧ w'.cell? ⟨w.heap.size, 4, none⟩ = some (.int .i64 k.t) ∧ w'.cell? ⟨w.heap.size + 1, 0, none⟩ = some (.int .i64 x.t) ∧ w'.cell? ⟨w.heap.size + 1, 1, none⟩ = some (.int .i64 x.s))) (by kernel_rfl) ?rx1s (fun hHeld => ?rx10)
    case rx1s => ((try dsimp only); exact (HW.out : SG W0 w.heap.size (w.heap.size + 1) k x _).drew.sx)
    try simp only [Act.put, List.setIfInBounds_toArray, List.set_cons_zero, List.set_cons_succ]
    refine take_at 0 (some 10) (v := ?vx1_1) rfl rfl (by kernel_rfl) (by kernel_rfl) (by kernel_rfl) (fun _ _ _ h => h) (Or.inl ⟨by kernel_rfl, ?yx1_1⟩) hHeld ?zx1_1
    case yx1_1 => (intro wS hSw; (try dsimp only at hSw); go_simp; (try with_reducible rfl))
    try simp only [Act.put, List.setIfInBounds_toArray, List.set_cons_zero, List.set_cons_succ]
    refine take_at 2 (some 12) (v := ?vx1_2) rfl rfl (by kernel_rfl) (by kernel_rfl) (by kernel_rfl) (fun _ _ _ h => h) (Or.inl ⟨by kernel_rfl, ?yx1_2⟩) hHeld ?zx1_2
    case yx1_2 => (intro wS hSw; (try dsimp only at hSw); go_simp; (try with_reducible rfl))
    try simp only [Act.put, List.setIfInBounds_toArray, List.set_cons_zero, List.set_cons_succ]
    refine wpAnyH_ready (rs := [1, 8]) (by kernel_rfl) (by simp) ?_
    refine cons_at (some 11) rfl rfl (by kernel_rfl) (fun K hK => ?kx1_4) ?mx1_4
    case kx1_4 =>
      go_simp
      (go_at_call 15; refine (HK.out _).mono ?_; rintro e w' ⟨rfl, hbel⟩; (first | (have hA := Lib.hid (carry hbel hA.out); obtain ⟨hl, ⟨c0, c1, c2, c3, c4⟩, f0, f1, f2, f3, f4⟩ := five hA.out) | ((first | with_reducible (have hAg := fresh (B := W0) (p := w.heap.size) (q := w.heap.size + 1) (k := k) (x := x) hbel (by assumption)) | with_reducible (have hAg := freshD (B := W0) (p := w.heap.size) (q := w.heap.size + 1) (k := k) (x := x) hbel (by assumption))); (try simp only [World.size_drew, World.size_alloc] at hAg); obtain ⟨hA0, hgA⟩ := hAg; have hA := Lib.hid hA0; clear hA0; obtain ⟨hl, ⟨c0, c1, c2, c3, c4⟩, f0, f1, f2, f3, f4⟩ := five hA.out) | skip))
      try go_wp2_with fail
      refine hK.out _ _ ?sx1_4 (fun hHeld => ?_)
      case sx1_4 => ((try dsimp only); first | exact (SG.below hHeld.1.out hbel).sx | exact (SG.alloc hHeld.1.out _).sx | exact (SG.alloc (B := W0) (p := w.heap.size) (q := w.heap.size + 1) (k := k) (x := x) (Hid.out (And.left (by assumption))) _).sx | exact ((((((hHeld.1.out : SG W0 w.heap.size (w.heap.size + 1) k x _).set hgA _ _).set hgA _ _).set hgA _ _).set hgA _ _).set hgA _ _).sx)
      clear hK K
      try simp only [Act.put, List.setIfInBounds_toArray, List.set_cons_zero, List.set_cons_succ]
      refine wpAnyH_ready (rs := [3, 8]) (by kernel_rfl) (by simp) ?_
      refine cons_at (some 13) rfl rfl (by kernel_rfl) (fun K hK => ?kx1_6) ?mx1_6
      case kx1_6 =>
        go_simp
        (go_at_call 25; refine (HL.out _).mono ?_; rintro e w' ⟨rfl, hbel⟩; (first | (have hA := Lib.hid (carry hbel hA.out); obtain ⟨hl, ⟨c0, c1, c2, c3, c4⟩, f0, f1, f2, f3, f4⟩ := five hA.out) | ((first | with_reducible (have hAg := fresh (B := W0) (p := w.heap.size) (q := w.heap.size + 1) (k := k) (x := x) hbel (by assumption)) | with_reducible (have hAg := freshD (B := W0) (p := w.heap.size) (q := w.heap.size + 1) (k := k) (x := x) hbel (by assumption))); (try simp only [World.size_drew, World.size_alloc] at hAg); obtain ⟨hA0, hgA⟩ := hAg; have hA := Lib.hid hA0; clear hA0; obtain ⟨hl, ⟨c0, c1, c2, c3, c4⟩, f0, f1, f2, f3, f4⟩ := five hA.out) | skip))
        try go_wp2_with fail
        refine hK.out _ _ ?sx1_6 (fun hHeld => ?_)
        case sx1_6 => ((try dsimp only); first | exact (SG.below hHeld.1.out hbel).sx | exact (SG.alloc hHeld.1.out _).sx | exact (SG.alloc (B := W0) (p := w.heap.size) (q := w.heap.size + 1) (k := k) (x := x) (Hid.out (And.left (by assumption))) _).sx | exact ((((((hHeld.1.out : SG W0 w.heap.size (w.heap.size + 1) k x _).set hgA _ _).set hgA _ _).set hgA _ _).set hgA _ _).set hgA _ _).sx)
        clear hK K
        try simp only [Act.put, List.setIfInBounds_toArray, List.set_cons_zero, List.set_cons_succ]
        refine wpAnyH_ready (rs := [4, 8]) (by kernel_rfl) (by simp) ?_
        refine cons_at (some 14) rfl rfl (by kernel_rfl) (fun K hK => ?kx1_8) ?mx1_8
        case kx1_8 =>
          go_simp
          (go_at_call 27; refine (HS.out _).mono ?_; rintro e w' ⟨rfl, hbel⟩; (first | (have hA := Lib.hid (carry hbel hA.out); obtain ⟨hl, ⟨c0, c1, c2, c3, c4⟩, f0, f1, f2, f3, f4⟩ := five hA.out) | ((first | with_reducible (have hAg := fresh (B := W0) (p := w.heap.size) (q := w.heap.size + 1) (k := k) (x := x) hbel (by assumption)) | with_reducible (have hAg := freshD (B := W0) (p := w.heap.size) (q := w.heap.size + 1) (k := k) (x := x) hbel (by assumption))); (try simp only [World.size_drew, World.size_alloc] at hAg); obtain ⟨hA0, hgA⟩ := hAg; have hA := Lib.hid hA0; clear hA0; obtain ⟨hl, ⟨c0, c1, c2, c3, c4⟩, f0, f1, f2, f3, f4⟩ := five hA.out) | skip))
          try go_wp2_with fail
          refine hK.out _ _ ?sx1_8 (fun hHeld => ?_)
          case sx1_8 => ((try dsimp only); first | exact (SG.below hHeld.1.out hbel).sx | exact (SG.alloc hHeld.1.out _).sx | exact (SG.alloc (B := W0) (p := w.heap.size) (q := w.heap.size + 1) (k := k) (x := x) (Hid.out (And.left (by assumption))) _).sx | exact ((((((hHeld.1.out : SG W0 w.heap.size (w.heap.size + 1) k x _).set hgA _ _).set hgA _ _).set hgA _ _).set hgA _ _).set hgA _ _).sx)
          clear hK K
          try simp only [Act.put, List.setIfInBounds_toArray, List.set_cons_zero, List.set_cons_succ]
          refine take_at 5 (some 9) (v := ?vx1_9) rfl rfl (by kernel_rfl) (by kernel_rfl) (by kernel_rfl) (fun _ _ _ h => h) (Or.inl ⟨by kernel_rfl, ?yx1_9⟩) hHeld ?zx1_9
          case yx1_9 => (intro wS hSw; (try dsimp only at hSw); go_simp; (try with_reducible rfl))
          try simp only [Act.put, List.setIfInBounds_toArray, List.set_cons_zero, List.set_cons_succ]
          refine take_at 6 (some 15) (v := ?vx1_10) rfl rfl (by kernel_rfl) (by kernel_rfl) (by kernel_rfl) (fun _ _ _ h => h) (Or.inl ⟨by kernel_rfl, ?yx1_10⟩) hHeld ?zx1_10
          case yx1_10 => (intro wS hSw; (try dsimp only at hSw); go_simp; (try with_reducible rfl))
          try simp only [Act.put, List.setIfInBounds_toArray, List.set_cons_zero, List.set_cons_succ]
          refine take_at 7 (some 16) (v := ?vx1_11) rfl rfl (by kernel_rfl) (by kernel_rfl) (by kernel_rfl) (fun _ _ _ h => h) (Or.inl ⟨by kernel_rfl, ?yx1_11⟩) hHeld ?zx1_11
          case yx1_11 => (intro wS hSw; (try dsimp only at hSw); go_simp; (try with_reducible rfl))
          try simp only [Act.put, List.setIfInBounds_toArray, List.set_cons_zero, List.set_cons_succ]
          refine wpAnyH_ready (rs := [8]) (by kernel_rfl) (by simp) ?_
          refine cons_at (some 5) rfl rfl (by kernel_rfl) (fun K hK => ?kx1_13) AllReadyH.nil
          go_simp
          refine hK.out _ _ ?sx1_13 (fun hHeld => ?_)
          case sx1_13 => ((try dsimp only); first | exact (SG.below hHeld.1.out hbel).sx | exact (SG.alloc hHeld.1.out _).sx | exact (SG.alloc (B := W0) (p := w.heap.size) (q := w.heap.size + 1) (k := k) (x := x) (Hid.out (And.left (by assumption))) _).sx | exact ((((((hHeld.1.out : SG W0 w.heap.size (w.heap.size + 1) k x _).set hgA _ _).set hgA _ _).set hgA _ _).set hgA _ _).set hgA _ _).sx)
          clear hK K
          try simp only [Act.put, List.setIfInBounds_toArray, List.set_cons_zero, List.set_cons_succ]
          refine wpAnyH_ready (rs := [9]) (by kernel_rfl) (by simp) ?_
          refine cons_at (none) rfl rfl (by kernel_rfl) (fun K hK => ?kx1_15) AllReadyH.nil
          go_simp
          refine hK.out _ _ ?sx1_15 (fun hHeld => ?_)
          case sx1_15 => ((try dsimp only); first | exact (SG.below hHeld.1.out hbel).sx | exact (SG.alloc hHeld.1.out _).sx | exact (SG.alloc (B := W0) (p := w.heap.size) (q := w.heap.size + 1) (k := k) (x := x) (Hid.out (And.left (by assumption))) _).sx | exact ((((((hHeld.1.out : SG W0 w.heap.size (w.heap.size + 1) k x _).set hgA _ _).set hgA _ _).set hgA _ _).set hgA _ _).set hgA _ _).sx)
          clear hK K
          try simp only [Act.put, List.setIfInBounds_toArray, List.set_cons_zero, List.set_cons_succ]
          refine take_at 10 (some 6) (v := ?vx1_16) rfl rfl (by kernel_rfl) (by kernel_rfl) (by kernel_rfl) (fun _ _ _ h => h) (Or.inl ⟨by kernel_rfl, ?yx1_16⟩) hHeld ?zx1_16
          case yx1_16 => (intro wS hSw; (try dsimp only at hSw); go_simp; (try with_reducible rfl))
          try simp only [Act.put, List.setIfInBounds_toArray, List.set_cons_zero, List.set_cons_succ]
          refine wpAnyH_done (by kernel_rfl) ?_ _
          (go_wp2_with fail; go_meet; first | exact ⟨_, rfl, rfl, hHeld.1, hgA, set5_at hA.out _ _ _ _ _⟩ | exact ends (B := W0) (p := w.heap.size) (q := w.heap.size + 1) (k := k) (x := x) (by assumption) hHeld.1 | (trace_state; sorry))
        refine cons_at (some 5) rfl rfl (by kernel_rfl) (fun K hK => ?kx1_17) AllReadyH.nil
        go_simp
        refine hK.out _ _ ?sx1_17 (fun hHeld => ?_)
        case sx1_17 => ((try dsimp only); first | exact (SG.below hHeld.1.out hbel).sx | exact (SG.alloc hHeld.1.out _).sx | exact (SG.alloc (B := W0) (p := w.heap.size) (q := w.heap.size + 1) (k := k) (x := x) (Hid.out (And.left (by assumption))) _).sx | exact ((((((hHeld.1.out : SG W0 w.heap.size (w.heap.size + 1) k x _).set hgA _ _).set hgA _ _).set hgA _ _).set hgA _ _).set hgA _ _).sx)
        clear hK K
        try simp only [Act.put, List.setIfInBounds_toArray, List.set_cons_zero, List.set_cons_succ]
        refine wpAnyH_ready (rs := [4]) (by kernel_rfl) (by simp) ?_
        refine cons_at (some 14) rfl rfl (by kernel_rfl) (fun K hK => ?kx1_19) AllReadyH.nil
        go_simp
        (go_at_call 27; refine (HS.out _).mono ?_; rintro e w' ⟨rfl, hbel⟩; (first | (have hA := Lib.hid (carry hbel hA.out); obtain ⟨hl, ⟨c0, c1, c2, c3, c4⟩, f0, f1, f2, f3, f4⟩ := five hA.out) | ((first | with_reducible (have hAg := fresh (B := W0) (p := w.heap.size) (q := w.heap.size + 1) (k := k) (x := x) hbel (by assumption)) | with_reducible (have hAg := freshD (B := W0) (p := w.heap.size) (q := w.heap.size + 1) (k := k) (x := x) hbel (by assumption))); (try simp only [World.size_drew, World.size_alloc] at hAg); obtain ⟨hA0, hgA⟩ := hAg; have hA := Lib.hid hA0; clear hA0; obtain ⟨hl, ⟨c0, c1, c2, c3, c4⟩, f0, f1, f2, f3, f4⟩ := five hA.out) | skip))
        try go_wp2_with fail
        refine hK.out _ _ ?sx1_19 (fun hHeld => ?_)
        case sx1_19 => ((try dsimp only); first | exact (SG.below hHeld.1.out hbel).sx | exact (SG.alloc hHeld.1.out _).sx | exact (SG.alloc (B := W0) (p := w.heap.size) (q := w.heap.size + 1) (k := k) (x := x) (Hid.out (And.left (by assumption))) _).sx | exact ((((((hHeld.1.out : SG W0 w.heap.size (w.heap.size + 1) k x _).set hgA _ _).set hgA _ _).set hgA _ _).set hgA _ _).set hgA _ _).sx)
        clear hK K
        try simp only [Act.put, List.setIfInBounds_toArray, List.set_cons_zero, List.set_cons_succ]
        refine take_at 5 (some 9) (v := ?vx1_20) rfl rfl (by kernel_rfl) (by kernel_rfl) (by kernel_rfl) (fun _ _ _ h => h) (Or.inl ⟨by kernel_rfl, ?yx1_20⟩) hHeld ?zx1_20
        case yx1_20 => (intro wS hSw; (try dsimp only at hSw); go_simp; (try with_reducible rfl))
        try simp only [Act.put, List.setIfInBounds_toArray, List.set_cons_zero, List.set_cons_succ]
        refine take_at 6 (some 15) (v := ?vx1_21) rfl rfl (by kernel_rfl) (by kernel_rfl) (by kernel_rfl) (fun _ _ _ h => h) (Or.inl ⟨by kernel_rfl, ?yx1_21⟩) hHeld ?zx1_21
        case yx1_21 => (intro wS hSw; (try dsimp only at hSw); go_simp; (try with_reducible rfl))
        try simp only [Act.put, List.setIfInBounds_toArray, List.set_cons_zero, List.set_cons_succ]
        refine take_at 7 (some 16) (v := ?vx1_22) rfl rfl (by kernel_rfl) (by kernel_rfl) (by kernel_rfl) (fun _ _ _ h => h) (Or.inl ⟨by kernel_rfl, ?yx1_22⟩) hHeld ?zx1_22
        case yx1_22 => (intro wS hSw; (try dsimp only at hSw); go_simp; (try with_reducible rfl))
        try simp only [Act.put, List.setIfInBounds_toArray, List.set_cons_zero, List.set_cons_succ]
        refine wpAnyH_ready (rs := [9]) (by kernel_rfl) (by simp) ?_
        refine cons_at (none) rfl rfl (by kernel_rfl) (fun K hK => ?kx1_24) AllReadyH.nil
        go_simp
        refine hK.out _ _ ?sx1_24 (fun hHeld => ?_)
        case sx1_24 => ((try dsimp only); first | exact (SG.below hHeld.1.out hbel).sx | exact (SG.alloc hHeld.1.out _).sx | exact (SG.alloc (B := W0) (p := w.heap.size) (q := w.heap.size + 1) (k := k) (x := x) (Hid.out (And.left (by assumption))) _).sx | exact ((((((hHeld.1.out : SG W0 w.heap.size (w.heap.size + 1) k x _).set hgA _ _).set hgA _ _).set hgA _ _).set hgA _ _).set hgA _ _).sx)
        clear hK K
        try simp only [Act.put, List.setIfInBounds_toArray, List.set_cons_zero, List.set_cons_succ]
        refine take_at 10 (some 6) (v := ?vx1_25) rfl rfl (by kernel_rfl) (by kernel_rfl) (by kernel_rfl) (fun _ _ _ h => h) (Or.inl ⟨by kernel_rfl, ?yx1_25⟩) hHeld ?zx1_25
        case yx1_25 => (intro wS hSw; (try dsimp only at hSw); go_simp; (try with_reducible rfl))
        try simp only [Act.put, List.setIfInBounds_toArray, List.set_cons_zero, List.set_cons_succ]
        refine wpAnyH_done (by kernel_rfl) ?_ _
        (go_wp2_with fail; go_meet; first | exact ⟨_, rfl, rfl, hHeld.1, hgA, set5_at hA.out _ _ _ _ _⟩ | exact ends (B := W0) (p := w.heap.size) (q := w.heap.size + 1) (k := k) (x := x) (by assumption) hHeld.1 | (trace_state; sorry))
      refine cons_at (some 5) rfl rfl (by kernel_rfl) (fun K hK => ?kx1_26) AllReadyH.nil
      go_simp
      refine hK.out _ _ ?sx1_26 (fun hHeld => ?_)
      case sx1_26 => ((try dsimp only); first | exact (SG.below hHeld.1.out hbel).sx | exact (SG.alloc hHeld.1.out _).sx | exact (SG.alloc (B := W0) (p := w.heap.size) (q := w.heap.size + 1) (k := k) (x := x) (Hid.out (And.left (by assumption))) _).sx | exact ((((((hHeld.1.out : SG W0 w.heap.size (w.heap.size + 1) k x _).set hgA _ _).set hgA _ _).set hgA _ _).set hgA _ _).set hgA _ _).sx)
      clear hK K
      try simp only [Act.put, List.setIfInBounds_toArray, List.set_cons_zero, List.set_cons_succ]
      refine wpAnyH_ready (rs := [3]) (by kernel_rfl) (by simp) ?_
      refine cons_at (some 13) rfl rfl (by kernel_rfl) (fun K hK => ?kx1_28) AllReadyH.nil
      go_simp
      (go_at_call 25; refine (HL.out _).mono ?_; rintro e w' ⟨rfl, hbel⟩; (first | (have hA := Lib.hid (carry hbel hA.out); obtain ⟨hl, ⟨c0, c1, c2, c3, c4⟩, f0, f1, f2, f3, f4⟩ := five hA.out) | ((first | with_reducible (have hAg := fresh (B := W0) (p := w.heap.size) (q := w.heap.size + 1) (k := k) (x := x) hbel (by assumption)) | with_reducible (have hAg := freshD (B := W0) (p := w.heap.size) (q := w.heap.size + 1) (k := k) (x := x) hbel (by assumption))); (try simp only [World.size_drew, World.size_alloc] at hAg); obtain ⟨hA0, hgA⟩ := hAg; have hA := Lib.hid hA0; clear hA0; obtain ⟨hl, ⟨c0, c1, c2, c3, c4⟩, f0, f1, f2, f3, f4⟩ := five hA.out) | skip))
      try go_wp2_with fail
      refine hK.out _ _ ?sx1_28 (fun hHeld => ?_)
      case sx1_28 => ((try dsimp only); first | exact (SG.below hHeld.1.out hbel).sx | exact (SG.alloc hHeld.1.out _).sx | exact (SG.alloc (B := W0) (p := w.heap.size) (q := w.heap.size + 1) (k := k) (x := x) (Hid.out (And.left (by assumption))) _).sx | exact ((((((hHeld.1.out : SG W0 w.heap.size (w.heap.size + 1) k x _).set hgA _ _).set hgA _ _).set hgA _ _).set hgA _ _).set hgA _ _).sx)
      clear hK K
      try simp only [Act.put, List.setIfInBounds_toArray, List.set_cons_zero, List.set_cons_succ]
      refine wpAnyH_ready (rs := [4]) (by kernel_rfl) (by simp) ?_
      refine cons_at (some 14) rfl rfl (by kernel_rfl) (fun K hK => ?kx1_30) AllReadyH.nil
      go_simp
      (go_at_call 27; refine (HS.out _).mono ?_; rintro e w' ⟨rfl, hbel⟩; (first | (have hA := Lib.hid (carry hbel hA.out); obtain ⟨hl, ⟨c0, c1, c2, c3, c4⟩, f0, f1, f2, f3, f4⟩ := five hA.out) | ((first | with_reducible (have hAg := fresh (B := W0) (p := w.heap.size) (q := w.heap.size + 1) (k := k) (x := x) hbel (by assumption)) | with_reducible (have hAg := freshD (B := W0) (p := w.heap.size) (q := w.heap.size + 1) (k := k) (x := x) hbel (by assumption))); (try simp only [World.size_drew, World.size_alloc] at hAg); obtain ⟨hA0, hgA⟩ := hAg; have hA := Lib.hid hA0; clear hA0; obtain ⟨hl, ⟨c0, c1, c2, c3, c4⟩, f0, f1, f2, f3, f4⟩ := five hA.out) | skip))
      try go_wp2_with fail
      refine hK.out _ _ ?sx1_30 (fun hHeld => ?_)
      case sx1_30 => ((try dsimp only); first | exact (SG.below hHeld.1.out hbel).sx | exact (SG.alloc hHeld.1.out _).sx | exact (SG.alloc (B := W0) (p := w.heap.size) (q := w.heap.size + 1) (k := k) (x := x) (Hid.out (And.left (by assumption))) _).sx | exact ((((((hHeld.1.out : SG W0 w.heap.size (w.heap.size + 1) k x _).set hgA _ _).set hgA _ _).set hgA _ _).set hgA _ _).set hgA _ _).sx)
      clear hK K
      try simp only [Act.put, List.setIfInBounds_toArray, List.set_cons_zero, List.set_cons_succ]
      refine take_at 5 (some 9) (v := ?vx1_31) rfl rfl (by kernel_rfl) (by kernel_rfl) (by kernel_rfl) (fun _ _ _ h => h) (Or.inl ⟨by kernel_rfl, ?yx1_31⟩) hHeld ?zx1_31
      case yx1_31 => (intro wS hSw; (try dsimp only at hSw); go_simp; (try with_reducible rfl))
      try simp only [Act.put, List.setIfInBounds_toArray, List.set_cons_zero, List.set_cons_succ]
      refine take_at 6 (some 15) (v := ?vx1_32) rfl rfl (by kernel_rfl) (by kernel_rfl) (by kernel_rfl) (fun _ _ _ h => h) (Or.inl ⟨by kernel_rfl, ?yx1_32⟩) hHeld ?zx1_32
      case yx1_32 => (intro wS hSw; (try dsimp only at hSw); go_simp; (try with_reducible rfl))
      try simp only [Act.put, List.setIfInBounds_toArray, List.set_cons_zero, List.set_cons_succ]
      refine take_at 7 (some 16) (v := ?vx1_33) rfl rfl (by kernel_rfl) (by kernel_rfl) (by kernel_rfl) (fun _ _ _ h => h) (Or.inl ⟨by kernel_rfl, ?yx1_33⟩) hHeld ?zx1_33
      case yx1_33 => (intro wS hSw; (try dsimp only at hSw); go_simp; (try with_reducible rfl))
      try simp only [Act.put, List.setIfInBounds_toArray, List.set_cons_zero, List.set_cons_succ]
      refine wpAnyH_ready (rs := [9]) (by kernel_rfl) (by simp) ?_
      refine cons_at (none) rfl rfl (by kernel_rfl) (fun K hK => ?kx1_35) AllReadyH.nil
      go_simp
      refine hK.out _ _ ?sx1_35 (fun hHeld => ?_)
      case sx1_35 => ((try dsimp only); first | exact (SG.below hHeld.1.out hbel).sx | exact (SG.alloc hHeld.1.out _).sx | exact (SG.alloc (B := W0) (p := w.heap.size) (q := w.heap.size + 1) (k := k) (x := x) (Hid.out (And.left (by assumption))) _).sx | exact ((((((hHeld.1.out : SG W0 w.heap.size (w.heap.size + 1) k x _).set hgA _ _).set hgA _ _).set hgA _ _).set hgA _ _).set hgA _ _).sx)
      clear hK K
      try simp only [Act.put, List.setIfInBounds_toArray, List.set_cons_zero, List.set_cons_succ]
      refine take_at 10 (some 6) (v := ?vx1_36) rfl rfl (by kernel_rfl) (by kernel_rfl) (by kernel_rfl) (fun _ _ _ h => h) (Or.inl ⟨by kernel_rfl, ?yx1_36⟩) hHeld ?zx1_36
      case yx1_36 => (intro wS hSw; (try dsimp only at hSw); go_simp; (try with_reducible rfl))
      try simp only [Act.put, List.setIfInBounds_toArray, List.set_cons_zero, List.set_cons_succ]
      refine wpAnyH_done (by kernel_rfl) ?_ _
      (go_wp2_with fail; go_meet; first | exact ⟨_, rfl, rfl, hHeld.1, hgA, set5_at hA.out _ _ _ _ _⟩ | exact ends (B := W0) (p := w.heap.size) (q := w.heap.size + 1) (k := k) (x := x) (by assumption) hHeld.1 | (trace_state; sorry))
    refine cons_at (some 5) rfl rfl (by kernel_rfl) (fun K hK => ?kx1_37) AllReadyH.nil
    go_simp
    refine hK.out _ _ ?sx1_37 (fun hHeld => ?_)
    case sx1_37 => ((try dsimp only); first | exact (SG.below hHeld.1.out hbel).sx | exact (SG.alloc hHeld.1.out _).sx | exact (SG.alloc (B := W0) (p := w.heap.size) (q := w.heap.size + 1) (k := k) (x := x) (Hid.out (And.left (by assumption))) _).sx | exact ((((((hHeld.1.out : SG W0 w.heap.size (w.heap.size + 1) k x _).set hgA _ _).set hgA _ _).set hgA _ _).set hgA _ _).set hgA _ _).sx)
    clear hK K
    try simp only [Act.put, List.setIfInBounds_toArray, List.set_cons_zero, List.set_cons_succ]
    refine wpAnyH_ready (rs := [1]) (by kernel_rfl) (by simp) ?_
    refine cons_at (some 11) rfl rfl (by kernel_rfl) (fun K hK => ?kx1_39) AllReadyH.nil
    go_simp
    (go_at_call 15; refine (HK.out _).mono ?_; rintro e w' ⟨rfl, hbel⟩; (first | (have hA := Lib.hid (carry hbel hA.out); obtain ⟨hl, ⟨c0, c1, c2, c3, c4⟩, f0, f1, f2, f3, f4⟩ := five hA.out) | ((first | with_reducible (have hAg := fresh (B := W0) (p := w.heap.size) (q := w.heap.size + 1) (k := k) (x := x) hbel (by assumption)) | with_reducible (have hAg := freshD (B := W0) (p := w.heap.size) (q := w.heap.size + 1) (k := k) (x := x) hbel (by assumption))); (try simp only [World.size_drew, World.size_alloc] at hAg); obtain ⟨hA0, hgA⟩ := hAg; have hA := Lib.hid hA0; clear hA0; obtain ⟨hl, ⟨c0, c1, c2, c3, c4⟩, f0, f1, f2, f3, f4⟩ := five hA.out) | skip))
    try go_wp2_with fail
    refine hK.out _ _ ?sx1_39 (fun hHeld => ?_)
    case sx1_39 => ((try dsimp only); first | exact (SG.below hHeld.1.out hbel).sx | exact (SG.alloc hHeld.1.out _).sx | exact (SG.alloc (B := W0) (p := w.heap.size) (q := w.heap.size + 1) (k := k) (x := x) (Hid.out (And.left (by assumption))) _).sx | exact ((((((hHeld.1.out : SG W0 w.heap.size (w.heap.size + 1) k x _).set hgA _ _).set hgA _ _).set hgA _ _).set hgA _ _).set hgA _ _).sx)
    clear hK K
    try simp only [Act.put, List.setIfInBounds_toArray, List.set_cons_zero, List.set_cons_succ]
    refine wpAnyH_ready (rs := [3]) (by kernel_rfl) (by simp) ?_
    refine cons_at (some 13) rfl rfl (by kernel_rfl) (fun K hK => ?kx1_41) AllReadyH.nil
    go_simp
    (go_at_call 25; refine (HL.out _).mono ?_; rintro e w' ⟨rfl, hbel⟩; (first | (have hA := Lib.hid (carry hbel hA.out); obtain ⟨hl, ⟨c0, c1, c2, c3, c4⟩, f0, f1, f2, f3, f4⟩ := five hA.out) | ((first | with_reducible (have hAg := fresh (B := W0) (p := w.heap.size) (q := w.heap.size + 1) (k := k) (x := x) hbel (by assumption)) | with_reducible (have hAg := freshD (B := W0) (p := w.heap.size) (q := w.heap.size + 1) (k := k) (x := x) hbel (by assumption))); (try simp only [World.size_drew, World.size_alloc] at hAg); obtain ⟨hA0, hgA⟩ := hAg; have hA := Lib.hid hA0; clear hA0; obtain ⟨hl, ⟨c0, c1, c2, c3, c4⟩, f0, f1, f2, f3, f4⟩ := five hA.out) | skip))
    try go_wp2_with fail
    refine hK.out _ _ ?sx1_41 (fun hHeld => ?_)
    case sx1_41 => ((try dsimp only); first | exact (SG.below hHeld.1.out hbel).sx | exact (SG.alloc hHeld.1.out _).sx | exact (SG.alloc (B := W0) (p := w.heap.size) (q := w.heap.size + 1) (k := k) (x := x) (Hid.out (And.left (by assumption))) _).sx | exact ((((((hHeld.1.out : SG W0 w.heap.size (w.heap.size + 1) k x _).set hgA _ _).set hgA _ _).set hgA _ _).set hgA _ _).set hgA _ _).sx)
    clear hK K
    try simp only [Act.put, List.setIfInBounds_toArray, List.set_cons_zero, List.set_cons_succ]
    refine wpAnyH_ready (rs := [4]) (by kernel_rfl) (by simp) ?_
    refine cons_at (some 14) rfl rfl (by kernel_rfl) (fun K hK => ?kx1_43) AllReadyH.nil
    go_simp
    (go_at_call 27; refine (HS.out _).mono ?_; rintro e w' ⟨rfl, hbel⟩; (first | (have hA := Lib.hid (carry hbel hA.out); obtain ⟨hl, ⟨c0, c1, c2, c3, c4⟩, f0, f1, f2, f3, f4⟩ := five hA.out) | ((first | with_reducible (have hAg := fresh (B := W0) (p := w.heap.size) (q := w.heap.size + 1) (k := k) (x := x) hbel (by assumption)) | with_reducible (have hAg := freshD (B := W0) (p := w.heap.size) (q := w.heap.size + 1) (k := k) (x := x) hbel (by assumption))); (try simp only [World.size_drew, World.size_alloc] at hAg); obtain ⟨hA0, hgA⟩ := hAg; have hA := Lib.hid hA0; clear hA0; obtain ⟨hl, ⟨c0, c1, c2, c3, c4⟩, f0, f1, f2, f3, f4⟩ := five hA.out) | skip))
    try go_wp2_with fail
    refine hK.out _ _ ?sx1_43 (fun hHeld => ?_)
    case sx1_43 => ((try dsimp only); first | exact (SG.below hHeld.1.out hbel).sx | exact (SG.alloc hHeld.1.out _).sx | exact (SG.alloc (B := W0) (p := w.heap.size) (q := w.heap.size + 1) (k := k) (x := x) (Hid.out (And.left (by assumption))) _).sx | exact ((((((hHeld.1.out : SG W0 w.heap.size (w.heap.size + 1) k x _).set hgA _ _).set hgA _ _).set hgA _ _).set hgA _ _).set hgA _ _).sx)
    clear hK K
    try simp only [Act.put, List.setIfInBounds_toArray, List.set_cons_zero, List.set_cons_succ]
    refine take_at 5 (some 9) (v := ?vx1_44) rfl rfl (by kernel_rfl) (by kernel_rfl) (by kernel_rfl) (fun _ _ _ h => h) (Or.inl ⟨by kernel_rfl, ?yx1_44⟩) hHeld ?zx1_44
    case yx1_44 => (intro wS hSw; (try dsimp only at hSw); go_simp; (try with_reducible rfl))
    try simp only [Act.put, List.setIfInBounds_toArray, List.set_cons_zero, List.set_cons_succ]
    refine take_at 6 (some 15) (v := ?vx1_45) rfl rfl (by kernel_rfl) (by kernel_rfl) (by kernel_rfl) (fun _ _ _ h => h) (Or.inl ⟨by kernel_rfl, ?yx1_45⟩) hHeld ?zx1_45
    case yx1_45 => (intro wS hSw; (try dsimp only at hSw); go_simp; (try with_reducible rfl))
    try simp only [Act.put, List.setIfInBounds_toArray, List.set_cons_zero, List.set_cons_succ]
    refine take_at 7 (some 16) (v := ?vx1_46) rfl rfl (by kernel_rfl) (by kernel_rfl) (by kernel_rfl) (fun _ _ _ h => h) (Or.inl ⟨by kernel_rfl, ?yx1_46⟩) hHeld ?zx1_46
    case yx1_46 => (intro wS hSw; (try dsimp only at hSw); go_simp; (try with_reducible rfl))
    try simp only [Act.put, List.setIfInBounds_toArray, List.set_cons_zero, List.set_cons_succ]
    refine wpAnyH_ready (rs := [9]) (by kernel_rfl) (by simp) ?_
    refine cons_at (none) rfl rfl (by kernel_rfl) (fun K hK => ?kx1_48) AllReadyH.nil
    go_simp
    refine hK.out _ _ ?sx1_48 (fun hHeld => ?_)
    case sx1_48 => ((try dsimp only); first | exact (SG.below hHeld.1.out hbel).sx | exact (SG.alloc hHeld.1.out _).sx | exact (SG.alloc (B := W0) (p := w.heap.size) (q := w.heap.size + 1) (k := k) (x := x) (Hid.out (And.left (by assumption))) _).sx | exact ((((((hHeld.1.out : SG W0 w.heap.size (w.heap.size + 1) k x _).set hgA _ _).set hgA _ _).set hgA _ _).set hgA _ _).set hgA _ _).sx)
    clear hK K
    try simp only [Act.put, List.setIfInBounds_toArray, List.set_cons_zero, List.set_cons_succ]
    refine take_at 10 (some 6) (v := ?vx1_49) rfl rfl (by kernel_rfl) (by kernel_rfl) (by kernel_rfl) (fun _ _ _ h => h) (Or.inl ⟨by kernel_rfl, ?yx1_49⟩) hHeld ?zx1_49
    case yx1_49 => (intro wS hSw; (try dsimp only at hSw); go_simp; (try with_reducible rfl))
    try simp only [Act.put, List.setIfInBounds_toArray, List.set_cons_zero, List.set_cons_succ]
    refine wpAnyH_done (by kernel_rfl) ?_ _
    (go_wp2_with fail; go_meet; first | exact ⟨_, rfl, rfl, hHeld.1, hgA, set5_at hA.out _ _ _ _ _⟩ | exact ends (B := W0) (p := w.heap.size) (q := w.heap.size + 1) (k := k) (x := x) (by assumption) hHeld.1 | (trace_state; sorry))
  case rest =>
    obtain ⟨g, rfl, rfl, HW1, hg, hbx⟩ := hcut
    obtain ⟨W1, rfl⟩ : ∃ W, W = wc := ⟨_, rfl⟩
    have HX := Lib.hid hbx; clear hbx
    have HW := Lib.hid HW1.out.at
    have HB1 := Lib.hid (HB0.out.trans (HW1.out.1.mono HB0.out.size))
    have hgl := HX.out.lt
    clear HB0 HW1
    go_upto_region 2 with fail
    go_cut [7, 8] (fun s5 s6 wx => ∃ g : Nat, s5 = .pointer (some ⟨g, 0, none⟩) ∧ s6 = .bool b ∧ Hid (SG W1 w.heap.size (w.heap.size + 1) k x wx) ∧ W1.heap.size ≤ g ∧ BoxBk wx g ⟨r1, r2, r3, r4, r5⟩)
    case first =>
      refine wp_region_held_drew (S := (fun w' => Hid (SG W1 w.heap.size (w.heap.size + 1) k x w') ∧ w'.cell? ⟨w.heap.size, 0, none⟩ = some (.int .i64 k.n) ∧ w'.cell? ⟨w.heap.size, 1, none⟩ = some (.int .i64 k.d) ∧ w'.cell? ⟨w.heap.size, 2, none⟩ = some (.int .i64 k.b) ∧ w'.cell? ⟨w.heap.size, 3, none⟩ = some (.int .i64 k.l) ∧ w'.cell? ⟨w.heap.size, 4, none⟩ = some (.int .i64 k.t) ∧ w'.cell? ⟨w.heap.size + 1, 0, none⟩ = some (.int .i64 x.t) ∧ w'.cell? ⟨w.heap.size + 1, 1, none⟩ = some (.int .i64 x.s))) (by kernel_rfl) ?rx2s (fun hHeld => ?rx20)
      case rx2s => ((try dsimp only); exact (HW.out : SG W1 w.heap.size (w.heap.size + 1) k x _).drew.sx)
      try simp only [Act.put, List.setIfInBounds_toArray, List.set_cons_zero, List.set_cons_succ]
      refine take_at 0 (some 18) (v := ?vx2_1) rfl rfl (by kernel_rfl) (by kernel_rfl) (by kernel_rfl) (fun _ _ _ h => h) (Or.inl ⟨by kernel_rfl, ?yx2_1⟩) hHeld ?zx2_1
      case yx2_1 => (intro wS hSw; (try dsimp only at hSw); go_simp; (try with_reducible rfl))
      try simp only [Act.put, List.setIfInBounds_toArray, List.set_cons_zero, List.set_cons_succ]
      refine take_at 2 (some 20) (v := ?vx2_2) rfl rfl (by kernel_rfl) (by kernel_rfl) (by kernel_rfl) (fun _ _ _ h => h) (Or.inl ⟨by kernel_rfl, ?yx2_2⟩) hHeld ?zx2_2
      case yx2_2 => (intro wS hSw; (try dsimp only at hSw); go_simp; (try with_reducible rfl))
      try simp only [Act.put, List.setIfInBounds_toArray, List.set_cons_zero, List.set_cons_succ]
      refine wpAnyH_ready (rs := [1, 8]) (by kernel_rfl) (by simp) ?_
      refine cons_at (some 19) rfl rfl (by kernel_rfl) (fun K hK => ?kx2_4) ?mx2_4
      case kx2_4 =>
        go_simp
        (go_at_call 15; refine (HK.out _).mono ?_; rintro e w' ⟨rfl, hbel⟩; (first | (have hA := Lib.hid (carry hbel hA.out); obtain ⟨hl, ⟨c0, c1, c2, c3, c4⟩, f0, f1, f2, f3, f4⟩ := five hA.out) | ((first | with_reducible (have hAg := fresh (B := W1) (p := w.heap.size) (q := w.heap.size + 1) (k := k) (x := x) hbel (by assumption)) | with_reducible (have hAg := freshD (B := W1) (p := w.heap.size) (q := w.heap.size + 1) (k := k) (x := x) hbel (by assumption))); (try simp only [World.size_drew, World.size_alloc] at hAg); obtain ⟨hA0, hgA⟩ := hAg; have hA := Lib.hid hA0; clear hA0; obtain ⟨hl, ⟨c0, c1, c2, c3, c4⟩, f0, f1, f2, f3, f4⟩ := five hA.out) | skip))
        try go_wp2_with fail
        refine hK.out _ _ ?sx2_4 (fun hHeld => ?_)
        case sx2_4 => ((try dsimp only); first | exact (SG.below hHeld.1.out hbel).sx | exact (SG.alloc hHeld.1.out _).sx | exact (SG.alloc (B := W1) (p := w.heap.size) (q := w.heap.size + 1) (k := k) (x := x) (Hid.out (And.left (by assumption))) _).sx | exact ((((((hHeld.1.out : SG W1 w.heap.size (w.heap.size + 1) k x _).set hgA _ _).set hgA _ _).set hgA _ _).set hgA _ _).set hgA _ _).sx)
        clear hK K
        try simp only [Act.put, List.setIfInBounds_toArray, List.set_cons_zero, List.set_cons_succ]
        refine wpAnyH_ready (rs := [3, 8]) (by kernel_rfl) (by simp) ?_
        refine cons_at (some 21) rfl rfl (by kernel_rfl) (fun K hK => ?kx2_6) ?mx2_6
        case kx2_6 =>
          go_simp
          (go_at_call 25; refine (HL.out _).mono ?_; rintro e w' ⟨rfl, hbel⟩; (first | (have hA := Lib.hid (carry hbel hA.out); obtain ⟨hl, ⟨c0, c1, c2, c3, c4⟩, f0, f1, f2, f3, f4⟩ := five hA.out) | ((first | with_reducible (have hAg := fresh (B := W1) (p := w.heap.size) (q := w.heap.size + 1) (k := k) (x := x) hbel (by assumption)) | with_reducible (have hAg := freshD (B := W1) (p := w.heap.size) (q := w.heap.size + 1) (k := k) (x := x) hbel (by assumption))); (try simp only [World.size_drew, World.size_alloc] at hAg); obtain ⟨hA0, hgA⟩ := hAg; have hA := Lib.hid hA0; clear hA0; obtain ⟨hl, ⟨c0, c1, c2, c3, c4⟩, f0, f1, f2, f3, f4⟩ := five hA.out) | skip))
          try go_wp2_with fail
          refine hK.out _ _ ?sx2_6 (fun hHeld => ?_)
          case sx2_6 => ((try dsimp only); first | exact (SG.below hHeld.1.out hbel).sx | exact (SG.alloc hHeld.1.out _).sx | exact (SG.alloc (B := W1) (p := w.heap.size) (q := w.heap.size + 1) (k := k) (x := x) (Hid.out (And.left (by assumption))) _).sx | exact ((((((hHeld.1.out : SG W1 w.heap.size (w.heap.size + 1) k x _).set hgA _ _).set hgA _ _).set hgA _ _).set hgA _ _).set hgA _ _).sx)
          clear hK K
          try simp only [Act.put, List.setIfInBounds_toArray, List.set_cons_zero, List.set_cons_succ]
          refine wpAnyH_ready (rs := [4, 8]) (by kernel_rfl) (by simp) ?_
          refine cons_at (some 22) rfl rfl (by kernel_rfl) (fun K hK => ?kx2_8) ?mx2_8
          case kx2_8 =>
            go_simp
            (go_at_call 28; refine (HI.out _).mono ?_; rintro e w' ⟨rfl, hbel⟩; (first | (have hA := Lib.hid (carry hbel hA.out); obtain ⟨hl, ⟨c0, c1, c2, c3, c4⟩, f0, f1, f2, f3, f4⟩ := five hA.out) | ((first | with_reducible (have hAg := fresh (B := W1) (p := w.heap.size) (q := w.heap.size + 1) (k := k) (x := x) hbel (by assumption)) | with_reducible (have hAg := freshD (B := W1) (p := w.heap.size) (q := w.heap.size + 1) (k := k) (x := x) hbel (by assumption))); (try simp only [World.size_drew, World.size_alloc] at hAg); obtain ⟨hA0, hgA⟩ := hAg; have hA := Lib.hid hA0; clear hA0; obtain ⟨hl, ⟨c0, c1, c2, c3, c4⟩, f0, f1, f2, f3, f4⟩ := five hA.out) | skip))
            try go_wp2_with fail
            refine hK.out _ _ ?sx2_8 (fun hHeld => ?_)
            case sx2_8 => ((try dsimp only); first | exact (SG.below hHeld.1.out hbel).sx | exact (SG.alloc hHeld.1.out _).sx | exact (SG.alloc (B := W1) (p := w.heap.size) (q := w.heap.size + 1) (k := k) (x := x) (Hid.out (And.left (by assumption))) _).sx | exact ((((((hHeld.1.out : SG W1 w.heap.size (w.heap.size + 1) k x _).set hgA _ _).set hgA _ _).set hgA _ _).set hgA _ _).set hgA _ _).sx)
            clear hK K
            try simp only [Act.put, List.setIfInBounds_toArray, List.set_cons_zero, List.set_cons_succ]
            refine take_at 5 (some 17) (v := ?vx2_9) rfl rfl (by kernel_rfl) (by kernel_rfl) (by kernel_rfl) (fun _ _ _ h => h) (Or.inl ⟨by kernel_rfl, ?yx2_9⟩) hHeld ?zx2_9
            case yx2_9 => (intro wS hSw; (try dsimp only at hSw); go_simp; (try with_reducible rfl))
            try simp only [Act.put, List.setIfInBounds_toArray, List.set_cons_zero, List.set_cons_succ]
            refine take_at 6 (some 23) (v := ?vx2_10) rfl rfl (by kernel_rfl) (by kernel_rfl) (by kernel_rfl) (fun _ _ _ h => h) (Or.inl ⟨by kernel_rfl, ?yx2_10⟩) hHeld ?zx2_10
            case yx2_10 => (intro wS hSw; (try dsimp only at hSw); go_simp; (try with_reducible rfl))
            try simp only [Act.put, List.setIfInBounds_toArray, List.set_cons_zero, List.set_cons_succ]
            refine take_at 7 (some 24) (v := ?vx2_11) rfl rfl (by kernel_rfl) (by kernel_rfl) (by kernel_rfl) (fun _ _ _ h => h) (Or.inl ⟨by kernel_rfl, ?yx2_11⟩) hHeld ?zx2_11
            case yx2_11 => (intro wS hSw; (try dsimp only at hSw); go_simp; (try with_reducible rfl))
            try simp only [Act.put, List.setIfInBounds_toArray, List.set_cons_zero, List.set_cons_succ]
            refine wpAnyH_ready (rs := [8]) (by kernel_rfl) (by simp) ?_
            refine cons_at (some 7) rfl rfl (by kernel_rfl) (fun K hK => ?kx2_13) AllReadyH.nil
            go_simp
            refine hK.out _ _ ?sx2_13 (fun hHeld => ?_)
            case sx2_13 => ((try dsimp only); first | exact (SG.below hHeld.1.out hbel).sx | exact (SG.alloc hHeld.1.out _).sx | exact (SG.alloc (B := W1) (p := w.heap.size) (q := w.heap.size + 1) (k := k) (x := x) (Hid.out (And.left (by assumption))) _).sx | exact ((((((hHeld.1.out : SG W1 w.heap.size (w.heap.size + 1) k x _).set hgA _ _).set hgA _ _).set hgA _ _).set hgA _ _).set hgA _ _).sx)
            clear hK K
            try simp only [Act.put, List.setIfInBounds_toArray, List.set_cons_zero, List.set_cons_succ]
            refine wpAnyH_ready (rs := [9]) (by kernel_rfl) (by simp) ?_
            refine cons_at (none) rfl rfl (by kernel_rfl) (fun K hK => ?kx2_15) AllReadyH.nil
            go_simp
            refine hK.out _ _ ?sx2_15 (fun hHeld => ?_)
            case sx2_15 => ((try dsimp only); first | exact (SG.below hHeld.1.out hbel).sx | exact (SG.alloc hHeld.1.out _).sx | exact (SG.alloc (B := W1) (p := w.heap.size) (q := w.heap.size + 1) (k := k) (x := x) (Hid.out (And.left (by assumption))) _).sx | exact ((((((hHeld.1.out : SG W1 w.heap.size (w.heap.size + 1) k x _).set hgA _ _).set hgA _ _).set hgA _ _).set hgA _ _).set hgA _ _).sx)
            clear hK K
            try simp only [Act.put, List.setIfInBounds_toArray, List.set_cons_zero, List.set_cons_succ]
            refine take_at 10 (some 8) (v := ?vx2_16) rfl rfl (by kernel_rfl) (by kernel_rfl) (by kernel_rfl) (fun _ _ _ h => h) (Or.inl ⟨by kernel_rfl, ?yx2_16⟩) hHeld ?zx2_16
            case yx2_16 => (intro wS hSw; (try dsimp only at hSw); go_simp; (try with_reducible rfl))
            try simp only [Act.put, List.setIfInBounds_toArray, List.set_cons_zero, List.set_cons_succ]
            refine wpAnyH_done (by kernel_rfl) ?_ _
            (go_wp2_with fail; go_meet; first | exact ⟨_, rfl, rfl, hHeld.1, hgA, set5_at hA.out _ _ _ _ _⟩ | exact ends (B := W1) (p := w.heap.size) (q := w.heap.size + 1) (k := k) (x := x) (by assumption) hHeld.1 | (trace_state; sorry))
          refine cons_at (some 7) rfl rfl (by kernel_rfl) (fun K hK => ?kx2_17) AllReadyH.nil
          go_simp
          refine hK.out _ _ ?sx2_17 (fun hHeld => ?_)
          case sx2_17 => ((try dsimp only); first | exact (SG.below hHeld.1.out hbel).sx | exact (SG.alloc hHeld.1.out _).sx | exact (SG.alloc (B := W1) (p := w.heap.size) (q := w.heap.size + 1) (k := k) (x := x) (Hid.out (And.left (by assumption))) _).sx | exact ((((((hHeld.1.out : SG W1 w.heap.size (w.heap.size + 1) k x _).set hgA _ _).set hgA _ _).set hgA _ _).set hgA _ _).set hgA _ _).sx)
          clear hK K
          try simp only [Act.put, List.setIfInBounds_toArray, List.set_cons_zero, List.set_cons_succ]
          refine wpAnyH_ready (rs := [4]) (by kernel_rfl) (by simp) ?_
          refine cons_at (some 22) rfl rfl (by kernel_rfl) (fun K hK => ?kx2_19) AllReadyH.nil
          go_simp
          (go_at_call 28; refine (HI.out _).mono ?_; rintro e w' ⟨rfl, hbel⟩; (first | (have hA := Lib.hid (carry hbel hA.out); obtain ⟨hl, ⟨c0, c1, c2, c3, c4⟩, f0, f1, f2, f3, f4⟩ := five hA.out) | ((first | with_reducible (have hAg := fresh (B := W1) (p := w.heap.size) (q := w.heap.size + 1) (k := k) (x := x) hbel (by assumption)) | with_reducible (have hAg := freshD (B := W1) (p := w.heap.size) (q := w.heap.size + 1) (k := k) (x := x) hbel (by assumption))); (try simp only [World.size_drew, World.size_alloc] at hAg); obtain ⟨hA0, hgA⟩ := hAg; have hA := Lib.hid hA0; clear hA0; obtain ⟨hl, ⟨c0, c1, c2, c3, c4⟩, f0, f1, f2, f3, f4⟩ := five hA.out) | skip))
          try go_wp2_with fail
          refine hK.out _ _ ?sx2_19 (fun hHeld => ?_)
          case sx2_19 => ((try dsimp only); first | exact (SG.below hHeld.1.out hbel).sx | exact (SG.alloc hHeld.1.out _).sx | exact (SG.alloc (B := W1) (p := w.heap.size) (q := w.heap.size + 1) (k := k) (x := x) (Hid.out (And.left (by assumption))) _).sx | exact ((((((hHeld.1.out : SG W1 w.heap.size (w.heap.size + 1) k x _).set hgA _ _).set hgA _ _).set hgA _ _).set hgA _ _).set hgA _ _).sx)
          clear hK K
          try simp only [Act.put, List.setIfInBounds_toArray, List.set_cons_zero, List.set_cons_succ]
          refine take_at 5 (some 17) (v := ?vx2_20) rfl rfl (by kernel_rfl) (by kernel_rfl) (by kernel_rfl) (fun _ _ _ h => h) (Or.inl ⟨by kernel_rfl, ?yx2_20⟩) hHeld ?zx2_20
          case yx2_20 => (intro wS hSw; (try dsimp only at hSw); go_simp; (try with_reducible rfl))
          try simp only [Act.put, List.setIfInBounds_toArray, List.set_cons_zero, List.set_cons_succ]
          refine take_at 6 (some 23) (v := ?vx2_21) rfl rfl (by kernel_rfl) (by kernel_rfl) (by kernel_rfl) (fun _ _ _ h => h) (Or.inl ⟨by kernel_rfl, ?yx2_21⟩) hHeld ?zx2_21
          case yx2_21 => (intro wS hSw; (try dsimp only at hSw); go_simp; (try with_reducible rfl))
          try simp only [Act.put, List.setIfInBounds_toArray, List.set_cons_zero, List.set_cons_succ]
          refine take_at 7 (some 24) (v := ?vx2_22) rfl rfl (by kernel_rfl) (by kernel_rfl) (by kernel_rfl) (fun _ _ _ h => h) (Or.inl ⟨by kernel_rfl, ?yx2_22⟩) hHeld ?zx2_22
          case yx2_22 => (intro wS hSw; (try dsimp only at hSw); go_simp; (try with_reducible rfl))
          try simp only [Act.put, List.setIfInBounds_toArray, List.set_cons_zero, List.set_cons_succ]
          refine wpAnyH_ready (rs := [9]) (by kernel_rfl) (by simp) ?_
          refine cons_at (none) rfl rfl (by kernel_rfl) (fun K hK => ?kx2_24) AllReadyH.nil
          go_simp
          refine hK.out _ _ ?sx2_24 (fun hHeld => ?_)
          case sx2_24 => ((try dsimp only); first | exact (SG.below hHeld.1.out hbel).sx | exact (SG.alloc hHeld.1.out _).sx | exact (SG.alloc (B := W1) (p := w.heap.size) (q := w.heap.size + 1) (k := k) (x := x) (Hid.out (And.left (by assumption))) _).sx | exact ((((((hHeld.1.out : SG W1 w.heap.size (w.heap.size + 1) k x _).set hgA _ _).set hgA _ _).set hgA _ _).set hgA _ _).set hgA _ _).sx)
          clear hK K
          try simp only [Act.put, List.setIfInBounds_toArray, List.set_cons_zero, List.set_cons_succ]
          refine take_at 10 (some 8) (v := ?vx2_25) rfl rfl (by kernel_rfl) (by kernel_rfl) (by kernel_rfl) (fun _ _ _ h => h) (Or.inl ⟨by kernel_rfl, ?yx2_25⟩) hHeld ?zx2_25
          case yx2_25 => (intro wS hSw; (try dsimp only at hSw); go_simp; (try with_reducible rfl))
          try simp only [Act.put, List.setIfInBounds_toArray, List.set_cons_zero, List.set_cons_succ]
          refine wpAnyH_done (by kernel_rfl) ?_ _
          (go_wp2_with fail; go_meet; first | exact ⟨_, rfl, rfl, hHeld.1, hgA, set5_at hA.out _ _ _ _ _⟩ | exact ends (B := W1) (p := w.heap.size) (q := w.heap.size + 1) (k := k) (x := x) (by assumption) hHeld.1 | (trace_state; sorry))
        refine cons_at (some 7) rfl rfl (by kernel_rfl) (fun K hK => ?kx2_26) AllReadyH.nil
        go_simp
        refine hK.out _ _ ?sx2_26 (fun hHeld => ?_)
        case sx2_26 => ((try dsimp only); first | exact (SG.below hHeld.1.out hbel).sx | exact (SG.alloc hHeld.1.out _).sx | exact (SG.alloc (B := W1) (p := w.heap.size) (q := w.heap.size + 1) (k := k) (x := x) (Hid.out (And.left (by assumption))) _).sx | exact ((((((hHeld.1.out : SG W1 w.heap.size (w.heap.size + 1) k x _).set hgA _ _).set hgA _ _).set hgA _ _).set hgA _ _).set hgA _ _).sx)
        clear hK K
        try simp only [Act.put, List.setIfInBounds_toArray, List.set_cons_zero, List.set_cons_succ]
        refine wpAnyH_ready (rs := [3]) (by kernel_rfl) (by simp) ?_
        refine cons_at (some 21) rfl rfl (by kernel_rfl) (fun K hK => ?kx2_28) AllReadyH.nil
        go_simp
        (go_at_call 25; refine (HL.out _).mono ?_; rintro e w' ⟨rfl, hbel⟩; (first | (have hA := Lib.hid (carry hbel hA.out); obtain ⟨hl, ⟨c0, c1, c2, c3, c4⟩, f0, f1, f2, f3, f4⟩ := five hA.out) | ((first | with_reducible (have hAg := fresh (B := W1) (p := w.heap.size) (q := w.heap.size + 1) (k := k) (x := x) hbel (by assumption)) | with_reducible (have hAg := freshD (B := W1) (p := w.heap.size) (q := w.heap.size + 1) (k := k) (x := x) hbel (by assumption))); (try simp only [World.size_drew, World.size_alloc] at hAg); obtain ⟨hA0, hgA⟩ := hAg; have hA := Lib.hid hA0; clear hA0; obtain ⟨hl, ⟨c0, c1, c2, c3, c4⟩, f0, f1, f2, f3, f4⟩ := five hA.out) | skip))
        try go_wp2_with fail
        refine hK.out _ _ ?sx2_28 (fun hHeld => ?_)
        case sx2_28 => ((try dsimp only); first | exact (SG.below hHeld.1.out hbel).sx | exact (SG.alloc hHeld.1.out _).sx | exact (SG.alloc (B := W1) (p := w.heap.size) (q := w.heap.size + 1) (k := k) (x := x) (Hid.out (And.left (by assumption))) _).sx | exact ((((((hHeld.1.out : SG W1 w.heap.size (w.heap.size + 1) k x _).set hgA _ _).set hgA _ _).set hgA _ _).set hgA _ _).set hgA _ _).sx)
        clear hK K
        try simp only [Act.put, List.setIfInBounds_toArray, List.set_cons_zero, List.set_cons_succ]
        refine wpAnyH_ready (rs := [4]) (by kernel_rfl) (by simp) ?_
        refine cons_at (some 22) rfl rfl (by kernel_rfl) (fun K hK => ?kx2_30) AllReadyH.nil
        go_simp
        (go_at_call 28; refine (HI.out _).mono ?_; rintro e w' ⟨rfl, hbel⟩; (first | (have hA := Lib.hid (carry hbel hA.out); obtain ⟨hl, ⟨c0, c1, c2, c3, c4⟩, f0, f1, f2, f3, f4⟩ := five hA.out) | ((first | with_reducible (have hAg := fresh (B := W1) (p := w.heap.size) (q := w.heap.size + 1) (k := k) (x := x) hbel (by assumption)) | with_reducible (have hAg := freshD (B := W1) (p := w.heap.size) (q := w.heap.size + 1) (k := k) (x := x) hbel (by assumption))); (try simp only [World.size_drew, World.size_alloc] at hAg); obtain ⟨hA0, hgA⟩ := hAg; have hA := Lib.hid hA0; clear hA0; obtain ⟨hl, ⟨c0, c1, c2, c3, c4⟩, f0, f1, f2, f3, f4⟩ := five hA.out) | skip))
        try go_wp2_with fail
        refine hK.out _ _ ?sx2_30 (fun hHeld => ?_)
        case sx2_30 => ((try dsimp only); first | exact (SG.below hHeld.1.out hbel).sx | exact (SG.alloc hHeld.1.out _).sx | exact (SG.alloc (B := W1) (p := w.heap.size) (q := w.heap.size + 1) (k := k) (x := x) (Hid.out (And.left (by assumption))) _).sx | exact ((((((hHeld.1.out : SG W1 w.heap.size (w.heap.size + 1) k x _).set hgA _ _).set hgA _ _).set hgA _ _).set hgA _ _).set hgA _ _).sx)
        clear hK K
        try simp only [Act.put, List.setIfInBounds_toArray, List.set_cons_zero, List.set_cons_succ]
        refine take_at 5 (some 17) (v := ?vx2_31) rfl rfl (by kernel_rfl) (by kernel_rfl) (by kernel_rfl) (fun _ _ _ h => h) (Or.inl ⟨by kernel_rfl, ?yx2_31⟩) hHeld ?zx2_31
        case yx2_31 => (intro wS hSw; (try dsimp only at hSw); go_simp; (try with_reducible rfl))
        try simp only [Act.put, List.setIfInBounds_toArray, List.set_cons_zero, List.set_cons_succ]
        refine take_at 6 (some 23) (v := ?vx2_32) rfl rfl (by kernel_rfl) (by kernel_rfl) (by kernel_rfl) (fun _ _ _ h => h) (Or.inl ⟨by kernel_rfl, ?yx2_32⟩) hHeld ?zx2_32
        case yx2_32 => (intro wS hSw; (try dsimp only at hSw); go_simp; (try with_reducible rfl))
        try simp only [Act.put, List.setIfInBounds_toArray, List.set_cons_zero, List.set_cons_succ]
        refine take_at 7 (some 24) (v := ?vx2_33) rfl rfl (by kernel_rfl) (by kernel_rfl) (by kernel_rfl) (fun _ _ _ h => h) (Or.inl ⟨by kernel_rfl, ?yx2_33⟩) hHeld ?zx2_33
        case yx2_33 => (intro wS hSw; (try dsimp only at hSw); go_simp; (try with_reducible rfl))
        try simp only [Act.put, List.setIfInBounds_toArray, List.set_cons_zero, List.set_cons_succ]
        refine wpAnyH_ready (rs := [9]) (by kernel_rfl) (by simp) ?_
        refine cons_at (none) rfl rfl (by kernel_rfl) (fun K hK => ?kx2_35) AllReadyH.nil
        go_simp
        refine hK.out _ _ ?sx2_35 (fun hHeld => ?_)
        case sx2_35 => ((try dsimp only); first | exact (SG.below hHeld.1.out hbel).sx | exact (SG.alloc hHeld.1.out _).sx | exact (SG.alloc (B := W1) (p := w.heap.size) (q := w.heap.size + 1) (k := k) (x := x) (Hid.out (And.left (by assumption))) _).sx | exact ((((((hHeld.1.out : SG W1 w.heap.size (w.heap.size + 1) k x _).set hgA _ _).set hgA _ _).set hgA _ _).set hgA _ _).set hgA _ _).sx)
        clear hK K
        try simp only [Act.put, List.setIfInBounds_toArray, List.set_cons_zero, List.set_cons_succ]
        refine take_at 10 (some 8) (v := ?vx2_36) rfl rfl (by kernel_rfl) (by kernel_rfl) (by kernel_rfl) (fun _ _ _ h => h) (Or.inl ⟨by kernel_rfl, ?yx2_36⟩) hHeld ?zx2_36
        case yx2_36 => (intro wS hSw; (try dsimp only at hSw); go_simp; (try with_reducible rfl))
        try simp only [Act.put, List.setIfInBounds_toArray, List.set_cons_zero, List.set_cons_succ]
        refine wpAnyH_done (by kernel_rfl) ?_ _
        (go_wp2_with fail; go_meet; first | exact ⟨_, rfl, rfl, hHeld.1, hgA, set5_at hA.out _ _ _ _ _⟩ | exact ends (B := W1) (p := w.heap.size) (q := w.heap.size + 1) (k := k) (x := x) (by assumption) hHeld.1 | (trace_state; sorry))
      refine cons_at (some 7) rfl rfl (by kernel_rfl) (fun K hK => ?kx2_37) AllReadyH.nil
      go_simp
      refine hK.out _ _ ?sx2_37 (fun hHeld => ?_)
      case sx2_37 => ((try dsimp only); first | exact (SG.below hHeld.1.out hbel).sx | exact (SG.alloc hHeld.1.out _).sx | exact (SG.alloc (B := W1) (p := w.heap.size) (q := w.heap.size + 1) (k := k) (x := x) (Hid.out (And.left (by assumption))) _).sx | exact ((((((hHeld.1.out : SG W1 w.heap.size (w.heap.size + 1) k x _).set hgA _ _).set hgA _ _).set hgA _ _).set hgA _ _).set hgA _ _).sx)
      clear hK K
      try simp only [Act.put, List.setIfInBounds_toArray, List.set_cons_zero, List.set_cons_succ]
      refine wpAnyH_ready (rs := [1]) (by kernel_rfl) (by simp) ?_
      refine cons_at (some 19) rfl rfl (by kernel_rfl) (fun K hK => ?kx2_39) AllReadyH.nil
      go_simp
      (go_at_call 15; refine (HK.out _).mono ?_; rintro e w' ⟨rfl, hbel⟩; (first | (have hA := Lib.hid (carry hbel hA.out); obtain ⟨hl, ⟨c0, c1, c2, c3, c4⟩, f0, f1, f2, f3, f4⟩ := five hA.out) | ((first | with_reducible (have hAg := fresh (B := W1) (p := w.heap.size) (q := w.heap.size + 1) (k := k) (x := x) hbel (by assumption)) | with_reducible (have hAg := freshD (B := W1) (p := w.heap.size) (q := w.heap.size + 1) (k := k) (x := x) hbel (by assumption))); (try simp only [World.size_drew, World.size_alloc] at hAg); obtain ⟨hA0, hgA⟩ := hAg; have hA := Lib.hid hA0; clear hA0; obtain ⟨hl, ⟨c0, c1, c2, c3, c4⟩, f0, f1, f2, f3, f4⟩ := five hA.out) | skip))
      try go_wp2_with fail
      refine hK.out _ _ ?sx2_39 (fun hHeld => ?_)
      case sx2_39 => ((try dsimp only); first | exact (SG.below hHeld.1.out hbel).sx | exact (SG.alloc hHeld.1.out _).sx | exact (SG.alloc (B := W1) (p := w.heap.size) (q := w.heap.size + 1) (k := k) (x := x) (Hid.out (And.left (by assumption))) _).sx | exact ((((((hHeld.1.out : SG W1 w.heap.size (w.heap.size + 1) k x _).set hgA _ _).set hgA _ _).set hgA _ _).set hgA _ _).set hgA _ _).sx)
      clear hK K
      try simp only [Act.put, List.setIfInBounds_toArray, List.set_cons_zero, List.set_cons_succ]
      refine wpAnyH_ready (rs := [3]) (by kernel_rfl) (by simp) ?_
      refine cons_at (some 21) rfl rfl (by kernel_rfl) (fun K hK => ?kx2_41) AllReadyH.nil
      go_simp
      (go_at_call 25; refine (HL.out _).mono ?_; rintro e w' ⟨rfl, hbel⟩; (first | (have hA := Lib.hid (carry hbel hA.out); obtain ⟨hl, ⟨c0, c1, c2, c3, c4⟩, f0, f1, f2, f3, f4⟩ := five hA.out) | ((first | with_reducible (have hAg := fresh (B := W1) (p := w.heap.size) (q := w.heap.size + 1) (k := k) (x := x) hbel (by assumption)) | with_reducible (have hAg := freshD (B := W1) (p := w.heap.size) (q := w.heap.size + 1) (k := k) (x := x) hbel (by assumption))); (try simp only [World.size_drew, World.size_alloc] at hAg); obtain ⟨hA0, hgA⟩ := hAg; have hA := Lib.hid hA0; clear hA0; obtain ⟨hl, ⟨c0, c1, c2, c3, c4⟩, f0, f1, f2, f3, f4⟩ := five hA.out) | skip))
      try go_wp2_with fail
      refine hK.out _ _ ?sx2_41 (fun hHeld => ?_)
      case sx2_41 => ((try dsimp only); first | exact (SG.below hHeld.1.out hbel).sx | exact (SG.alloc hHeld.1.out _).sx | exact (SG.alloc (B := W1) (p := w.heap.size) (q := w.heap.size + 1) (k := k) (x := x) (Hid.out (And.left (by assumption))) _).sx | exact ((((((hHeld.1.out : SG W1 w.heap.size (w.heap.size + 1) k x _).set hgA _ _).set hgA _ _).set hgA _ _).set hgA _ _).set hgA _ _).sx)
      clear hK K
      try simp only [Act.put, List.setIfInBounds_toArray, List.set_cons_zero, List.set_cons_succ]
      refine wpAnyH_ready (rs := [4]) (by kernel_rfl) (by simp) ?_
      refine cons_at (some 22) rfl rfl (by kernel_rfl) (fun K hK => ?kx2_43) AllReadyH.nil
      go_simp
      (go_at_call 28; refine (HI.out _).mono ?_; rintro e w' ⟨rfl, hbel⟩; (first | (have hA := Lib.hid (carry hbel hA.out); obtain ⟨hl, ⟨c0, c1, c2, c3, c4⟩, f0, f1, f2, f3, f4⟩ := five hA.out) | ((first | with_reducible (have hAg := fresh (B := W1) (p := w.heap.size) (q := w.heap.size + 1) (k := k) (x := x) hbel (by assumption)) | with_reducible (have hAg := freshD (B := W1) (p := w.heap.size) (q := w.heap.size + 1) (k := k) (x := x) hbel (by assumption))); (try simp only [World.size_drew, World.size_alloc] at hAg); obtain ⟨hA0, hgA⟩ := hAg; have hA := Lib.hid hA0; clear hA0; obtain ⟨hl, ⟨c0, c1, c2, c3, c4⟩, f0, f1, f2, f3, f4⟩ := five hA.out) | skip))
      try go_wp2_with fail
      refine hK.out _ _ ?sx2_43 (fun hHeld => ?_)
      case sx2_43 => ((try dsimp only); first | exact (SG.below hHeld.1.out hbel).sx | exact (SG.alloc hHeld.1.out _).sx | exact (SG.alloc (B := W1) (p := w.heap.size) (q := w.heap.size + 1) (k := k) (x := x) (Hid.out (And.left (by assumption))) _).sx | exact ((((((hHeld.1.out : SG W1 w.heap.size (w.heap.size + 1) k x _).set hgA _ _).set hgA _ _).set hgA _ _).set hgA _ _).set hgA _ _).sx)
      clear hK K
      try simp only [Act.put, List.setIfInBounds_toArray, List.set_cons_zero, List.set_cons_succ]
      refine take_at 5 (some 17) (v := ?vx2_44) rfl rfl (by kernel_rfl) (by kernel_rfl) (by kernel_rfl) (fun _ _ _ h => h) (Or.inl ⟨by kernel_rfl, ?yx2_44⟩) hHeld ?zx2_44
      case yx2_44 => (intro wS hSw; (try dsimp only at hSw); go_simp; (try with_reducible rfl))
      try simp only [Act.put, List.setIfInBounds_toArray, List.set_cons_zero, List.set_cons_succ]
      refine take_at 6 (some 23) (v := ?vx2_45) rfl rfl (by kernel_rfl) (by kernel_rfl) (by kernel_rfl) (fun _ _ _ h => h) (Or.inl ⟨by kernel_rfl, ?yx2_45⟩) hHeld ?zx2_45
      case yx2_45 => (intro wS hSw; (try dsimp only at hSw); go_simp; (try with_reducible rfl))
      try simp only [Act.put, List.setIfInBounds_toArray, List.set_cons_zero, List.set_cons_succ]
      refine take_at 7 (some 24) (v := ?vx2_46) rfl rfl (by kernel_rfl) (by kernel_rfl) (by kernel_rfl) (fun _ _ _ h => h) (Or.inl ⟨by kernel_rfl, ?yx2_46⟩) hHeld ?zx2_46
      case yx2_46 => (intro wS hSw; (try dsimp only at hSw); go_simp; (try with_reducible rfl))
      try simp only [Act.put, List.setIfInBounds_toArray, List.set_cons_zero, List.set_cons_succ]
      refine wpAnyH_ready (rs := [9]) (by kernel_rfl) (by simp) ?_
      refine cons_at (none) rfl rfl (by kernel_rfl) (fun K hK => ?kx2_48) AllReadyH.nil
      go_simp
      refine hK.out _ _ ?sx2_48 (fun hHeld => ?_)
      case sx2_48 => ((try dsimp only); first | exact (SG.below hHeld.1.out hbel).sx | exact (SG.alloc hHeld.1.out _).sx | exact (SG.alloc (B := W1) (p := w.heap.size) (q := w.heap.size + 1) (k := k) (x := x) (Hid.out (And.left (by assumption))) _).sx | exact ((((((hHeld.1.out : SG W1 w.heap.size (w.heap.size + 1) k x _).set hgA _ _).set hgA _ _).set hgA _ _).set hgA _ _).set hgA _ _).sx)
      clear hK K
      try simp only [Act.put, List.setIfInBounds_toArray, List.set_cons_zero, List.set_cons_succ]
      refine take_at 10 (some 8) (v := ?vx2_49) rfl rfl (by kernel_rfl) (by kernel_rfl) (by kernel_rfl) (fun _ _ _ h => h) (Or.inl ⟨by kernel_rfl, ?yx2_49⟩) hHeld ?zx2_49
      case yx2_49 => (intro wS hSw; (try dsimp only at hSw); go_simp; (try with_reducible rfl))
      try simp only [Act.put, List.setIfInBounds_toArray, List.set_cons_zero, List.set_cons_succ]
      refine wpAnyH_done (by kernel_rfl) ?_ _
      (go_wp2_with fail; go_meet; first | exact ⟨_, rfl, rfl, hHeld.1, hgA, set5_at hA.out _ _ _ _ _⟩ | exact ends (B := W1) (p := w.heap.size) (q := w.heap.size + 1) (k := k) (x := x) (by assumption) hHeld.1 | (trace_state; sorry))
    case rest =>
      obtain ⟨g2, rfl, rfl, HW2, hg2, hbx2⟩ := hcut
      have hX := (HW2.out.1.block g (by omega)).trans HX.out
      have hgl2 := hbx2.lt
      have HB2 := Lib.hid (HB1.out.trans (HW2.out.1.mono HB1.out.size))
      have HX2 := Lib.hid hX; clear hX HX
      have HY2 := Lib.hid hbx2; clear hbx2
      have uh := HX2.out; have u0 := cell_of_row wc (g) 0 _ _ _ uh; simp at u0; have uf0 := frozen_of_row wc (g) 0 _ _ uh; have u1 := cell_of_row wc (g) 1 _ _ _ uh; simp at u1; have uf1 := frozen_of_row wc (g) 1 _ _ uh; have u2 := cell_of_row wc (g) 2 _ _ _ uh; simp at u2; have uf2 := frozen_of_row wc (g) 2 _ _ uh; have u3 := cell_of_row wc (g) 3 _ _ _ uh; simp at u3; have uf3 := frozen_of_row wc (g) 3 _ _ uh; have u4 := cell_of_row wc (g) 4 _ _ _ uh; simp at u4; have uf4 := frozen_of_row wc (g) 4 _ _ uh; clear uh
      have th := HY2.out; have t0 := cell_of_row wc (g2) 0 _ _ _ th; simp at t0; have tf0 := frozen_of_row wc (g2) 0 _ _ th; have t1 := cell_of_row wc (g2) 1 _ _ _ th; simp at t1; have tf1 := frozen_of_row wc (g2) 1 _ _ th; have t2 := cell_of_row wc (g2) 2 _ _ _ th; simp at t2; have tf2 := frozen_of_row wc (g2) 2 _ _ th; have t3 := cell_of_row wc (g2) 3 _ _ _ th; simp at t3; have tf3 := frozen_of_row wc (g2) 3 _ _ th; have t4 := cell_of_row wc (g2) 4 _ _ _ th; simp at t4; have tf4 := frozen_of_row wc (g2) 4 _ _ th; clear th
      have hne : g ≠ g2 := by omega
      clear HX2 HY2
      go_wp2_with fail
      refine (HE.out _).mono ?_
      rintro e w5 ⟨rfl, b5⟩
      have HB5 := Lib.hid (HB2.out.trans (b5.mono HB2.out.size)); clear b5
      go_wp2
      go_ret
      exact ⟨rfl, HB5.out⟩

set_option maxRecDepth 100000 in
theorem lifted (os : Os) (started : os.Started) (H : Type) (enc : TypeId × Value → H) :
    ReturnsInHanded {} Try.checked os 8 .any (Rows.fnExactTakeTokensSpec.pre6 enc Try.prog Try.f8 Rows.fnExactTakeTokensRow.domain false) (Rows.fnExactTakeTokensSpec.post enc Try.prog Try.f8 false true false false) := by
  refine returnsInHanded_of_change_sized (C := Try.checked) lk_own started (by kernel_rfl) Try.func8
    (ChangeSpec.witness6 (enc := enc) (C := Try.checked) false ⟨#[], #[.agg #[.int .i64 0, .int .i64 0, .int .i64 0, .int .i64 0, .int .i64 0], .agg #[.int .i64 0, .int .i64 0]], []⟩ 8 (by kernel_rfl) (by kernel_rfl) (by kernel_rfl) (by kernel_rfl)) ?_
  intro W base args ds gs before hval0 hW _ _ _
  have hval : ∀ (j : Nat) t v, Try.f8.params[j]? = some t → args[j]? = some v → Value.okWide Try.prog W .any base t v := hval0
  have hW' := hW
  obtain ⟨p, q, hA0, hV, rfl, _, _⟩ := hW
  have hA : DataW.TrodAll enc Try.prog W 0 (fun _ => true) true Try.f8.params.toList args.toList ds p := hA0
  rw [Try.params8] at hA hval
  obtain ⟨v0, vs0, d0, ds0, p0, q0, hargs, rfl, rfl, h0, r0⟩ := trodAll_cons hA
  obtain ⟨v1, vs1, d1, ds1, p1, q1, rfl, rfl, rfl, h1, r1⟩ := trodAll_cons r0
  obtain ⟨rfl, rfl, rfl⟩ := trodAll_nil r1
  obtain rfl : args = #[v0, v1] := by cases args; simp_all
  obtain ⟨rfl, rfl⟩ := trodVars_none hV
  clear hA0 hval0
  have x0 := open_argBk (hval 0 23 v0 rfl rfl) h0
  have x1 := open_argLd (hval 1 37 v1 rfl rfl) h1
  simp only [List.append_nil] at hW'
  refine (walk v0 v1 W x0 x1).mono fun e W' ⟨he, hb⟩ => ?_
  subst he
  exact ⟨_, rfl, post_law hW' rfl rfl (by kernel_rfl) rfl rfl rfl hb⟩

theorem over : Rows.fnExactTakeTokensRow.holds Try.pinned (OpenSpec.ofChange Rows.fnExactTakeTokensSpec) :=
  OpenClaim.holds_of_wide 8 Try.f8 rfl rfl rfl rfl rfl rfl rfl ⟨rfl, rfl, rfl, rfl, rfl⟩ rfl rfl rfl rfl rfl (by kernel_rfl) Try.func8 (by kernel_rfl)
    (of_decide_eq_true (by kernel_rfl)) (by unfold Func.isWrapper; first | (rw [if_pos (by decide +kernel)]; kernel_rfl) | (rw [if_neg (by decide +kernel)]; exact ⟨rfl, rfl⟩))
    (fun os started H enc _ => lifted os started H enc)

theorem proved : Rows.FnExactTakeTokensSaid := over
#print axioms proved
end Go.Proofs.Ytgiigcpodinpoaa.FnExactTakeTokens
