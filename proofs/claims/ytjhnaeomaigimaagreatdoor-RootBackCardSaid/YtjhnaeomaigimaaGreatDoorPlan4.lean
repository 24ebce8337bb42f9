/- Package plan: a plan in which a sector is set anew, or which is full. The document's ref05, function by function: which plans can be. -/
import Derived.Test.YtjhnaeomaigimaaGreatDoorPlan3
import Derived.Deep.RegionHeld3
import Derived.Deep.DeepCutAuto
set_option linter.unusedVariables false
namespace Go.Proofs.YtjhnaeomaigimaaGreatDoor
open Go.RowKit Go.Shelf
attribute [local go_sem] bs_mk bs_append bs_extract bs_size bs_toList bs_get
theorem set_held {w w1 W W' : World} {a b : Addr} {v1 v2 : Value} (h : (W.cell? a = some v1 ∧ W.cell? b = some v2) ∧ Below w.heap.size w W ∧ Below w1.heap.size w1 W) (hb : Below W.heap.size W W') :
    (W'.cell? a = some v1 ∧ W'.cell? b = some v2) ∧ Below w.heap.size w W' ∧ Below w1.heap.size w1 W' :=
  ⟨⟨cell_below hb h.1.1, cell_below hb h.1.2⟩, bt h.2.1 hb, bt h.2.2 hb⟩
theorem set_held2 {w w1 W : World} {v1 v2 u v : Value} {k g : Nat} (h : (W.cell? ⟨k, 0, none⟩ = some v1 ∧ W.cell? ⟨k, 1, none⟩ = some v2) ∧ Below w.heap.size w W ∧ Below w1.heap.size w1 W) (h1 : k ≠ g) (h2 : w.heap.size ≤ g) (h3 : w1.heap.size ≤ g) :
    ((((W.setCell ⟨g, 0, none⟩ u).setCell ⟨g, 1, none⟩ v).cell? ⟨k, 0, none⟩ = some v1 ∧ ((W.setCell ⟨g, 0, none⟩ u).setCell ⟨g, 1, none⟩ v).cell? ⟨k, 1, none⟩ = some v2)) ∧ Below w.heap.size w ((W.setCell ⟨g, 0, none⟩ u).setCell ⟨g, 1, none⟩ v) ∧ Below w1.heap.size w1 ((W.setCell ⟨g, 0, none⟩ u).setCell ⟨g, 1, none⟩ v) := by
  refine ⟨⟨?_, ?_⟩, (h.2.1.setCell (p := ⟨g, 0, none⟩) h2 _).setCell (p := ⟨g, 1, none⟩) h2 _, (h.2.2.setCell (p := ⟨g, 0, none⟩) h3 _).setCell (p := ⟨g, 1, none⟩) h3 _⟩
  · rw [World.cell?_setCell_other _ _ _ _ (by intro e; injection e with e; exact h1 e.symm), World.cell?_setCell_other _ _ _ _ (by intro e; injection e with e; exact h1 e.symm)]; exact h.1.1
  · rw [World.cell?_setCell_other _ _ _ _ (by intro e; injection e with e; exact h1 e.symm), World.cell?_setCell_other _ _ _ _ (by intro e; injection e with e; exact h1 e.symm)]; exact h.1.2
theorem own_below {w w' : World} {base : Nat} {e : TypeId} {size n : Nat} {v : Value} {xs : List Value} (h : w.ownsRow base e size v n xs) (hb : Below w.heap.size w w') : w'.ownsRow base e size v n xs := by
  refine ⟨h.1, ?_⟩
  rcases h.2 with h' | ⟨g, cap, cur, h1, h2, h3, h4⟩
  · exact .inl h'
  · exact .inr ⟨g, cap, cur, h1, h2, (hb.block g (Array.getElem?_eq_some_iff.1 h3).1).trans h3, h4⟩
theorem own_base {w : World} {base base' : Nat} {e : TypeId} {size n : Nat} {v : Value} {xs : List Value} (h : w.ownsRow base' e size v n xs) (hb : base ≤ base') : w.ownsRow base e size v n xs := by
  refine ⟨h.1, ?_⟩
  rcases h.2 with h' | ⟨g, cap, cur, h1, h2, h3⟩
  · exact .inl h'
  · exact .inr ⟨g, cap, cur, h1, by omega, h3⟩
/-- The plan's slices, copied, stand in a box of the call's own. -/
def SetMade (w1 W : World) (L : Pn) (v : Value) : Prop := ∃ g B1 e1 B2 e2, v = .pointer (some ⟨g, 0, none⟩) ∧ w1.heap.size ≤ g ∧ Blk W g 28 #[.slice B1 L.targets.length e1, .slice B2 L.data.length e2] ∧
  W.ownsRow w1.heap.size 3 1 (.slice B1 L.targets.length e1) L.targets.length (intCells L.targets) ∧ W.ownsRow w1.heap.size 9 1 (.slice B2 L.data.length e2) L.data.length (strCells L.data) ∧ Below w1.heap.size w1 W
set_option maxRecDepth 100000 in
set_option maxHeartbeats 4000000 in
theorem pl_set_old (L : Pn) (p q : Pl) (w : World) (hL : IsPn w L p q) (k : Int) (s : List UInt8) (h1 : sectorOk k = true) (h2 : s.length = 64) (ht : L.targets.length ≤ 1000000) (hd : L.data.length ≤ 1000000) (he : L.targets.length = L.data.length) (hcase : k ∈ L.targets ∨ 24 ≤ L.targets.length) :
    Calls Tryz.prog 44 #[pval L p q, .int .i64 k, .string (bs s)] w fun e w' => RetPn w.heap.size L p q (L.set k s) e w' ∧ Below w.heap.size w w' := by
  have ho := fun W => pl_outside k W
  rw [h1] at ho
  have n0 : ((s.length : Int) != 64) = false := by simp; omega
  have hc1 := fun (W : World) (hb : Below w.heap.size w W) => clone_ints p.a L.targets p.c W (hL.targets.below hb) (by omega) hL.pn
  have hc2 := fun (W : World) (hb : Below w.heap.size w W) => clone_strs q.a L.data q.c W (hL.data.below hb) (by omega) hL.qn
  obtain ⟨A1, c1⟩ := p
  obtain ⟨A2, c2⟩ := q
  simp only at hc1 hc2
  have x0 := (Blk.new w 28 #[.slice A1 L.targets.length c1, .slice A2 L.data.length c2]).alloc (.cells #[.slice none 0 0, .slice none 0 0] 28)
  have b0 := below_two w (.cells #[.slice A1 L.targets.length c1, .slice A2 L.data.length c2] 28) (.cells #[.slice none 0 0, .slice none 0 0] 28)
  have z0 := Blk.new (w.alloc (.cells #[.slice A1 L.targets.length c1, .slice A2 L.data.length c2] 28)) 28 #[.slice none 0 0, .slice none 0 0]
  simp only [World.size_alloc] at z0
  have He := hid he
  clear he
  have Hsz := hid (show ((w.alloc (.cells #[.slice A1 L.targets.length c1, .slice A2 L.data.length c2] 28)).alloc (.cells #[.slice none 0 0, .slice none 0 0] 28)).heap.size = w.heap.size + 2 by simp)
  go_enter Tryz.func44, Tryz.ntmps44
  go_wp2_with fail
  go_at_call 94
  refine (ho _).mono ?_
  rintro e w1 ⟨rfl, rfl⟩
  go_upto_region 5 with fail
  generalize (w.alloc (.cells #[.slice A1 L.targets.length c1, .slice A2 L.data.length c2] 28)).alloc (.cells #[.slice none 0 0, .slice none 0 0] 28) = w1 at *
  have y0 := blk2 x0
  have s0 : (w1.drew.cell? ⟨w.heap.size, 0, none⟩ = some (.slice A1 L.targets.length c1) ∧ w1.drew.cell? ⟨w.heap.size, 1, none⟩ = some (.slice A2 L.data.length c2)) ∧ Below w.heap.size w w1.drew ∧ Below w1.heap.size w1 w1.drew := ⟨y0, b0.drew, (Below.refl _ _).drew⟩
  go_cut [8] (fun s8 wx => SetMade w1 wx L s8)
  case first =>
    go_region_held3 (fun W => (W.cell? ⟨w.heap.size, 0, none⟩ = some (.slice A1 L.targets.length c1) ∧ W.cell? ⟨w.heap.size, 1, none⟩ = some (.slice A2 L.data.length c2)) ∧ Below w.heap.size w W ∧ Below w1.heap.size w1 W)
      (first | exact s0 | exact ⟨y0, b0, Below.refl _ _⟩ | exact set_held (s0) hbl1 | exact set_held (s0) hbl2 | exact set_held (s0) ((Below.refl _ _).alloc (Nat.le_refl _) _) | exact set_held (set_held (s0) hbl1) hbl2 | exact set_held (set_held (s0) hbl2) hbl1 | exact set_held (set_held (s0) hbl1) ((Below.refl _ _).alloc (Nat.le_refl _) _) | exact set_held (set_held (s0) ((Below.refl _ _).alloc (Nat.le_refl _) _)) hbl1 | exact set_held (set_held (s0) hbl2) ((Below.refl _ _).alloc (Nat.le_refl _) _) | exact set_held (set_held (s0) ((Below.refl _ _).alloc (Nat.le_refl _) _)) hbl2 | exact set_held (set_held (set_held (s0) hbl1) hbl2) ((Below.refl _ _).alloc (Nat.le_refl _) _) | exact set_held (set_held (set_held (s0) hbl1) ((Below.refl _ _).alloc (Nat.le_refl _) _)) hbl2 | exact set_held (set_held (set_held (s0) ((Below.refl _ _).alloc (Nat.le_refl _) _)) hbl1) hbl2 | exact set_held (set_held (set_held (s0) hbl2) hbl1) ((Below.refl _ _).alloc (Nat.le_refl _) _) | exact set_held (set_held (set_held (s0) hbl2) ((Below.refl _ _).alloc (Nat.le_refl _) _)) hbl1 | exact set_held (set_held (set_held (s0) ((Below.refl _ _).alloc (Nat.le_refl _) _)) hbl2) hbl1 | exact set_held2 (set_held (set_held (set_held (s0) hbl1) ((Below.refl _ _).alloc (Nat.le_refl _) _)) hbl2) (by first | (have z : w1.heap.size ≤ W1.heap.size := hbl1.size; have z0 := Hsz.out; omega) | (have z : w1.heap.size ≤ W2.heap.size := hbl2.size; have z0 := Hsz.out; omega) | (have z : w1.drew.heap.size = w1.heap.size := rfl; have z0 := Hsz.out; omega)) (by first | (have z : w1.heap.size ≤ W1.heap.size := hbl1.size; have z0 := Hsz.out; omega) | (have z : w1.heap.size ≤ W2.heap.size := hbl2.size; have z0 := Hsz.out; omega) | (have z : w1.drew.heap.size = w1.heap.size := rfl; have z0 := Hsz.out; omega)) (by first | (have z : w1.heap.size ≤ W1.heap.size := hbl1.size; have z0 := Hsz.out; omega) | (have z : w1.heap.size ≤ W2.heap.size := hbl2.size; have z0 := Hsz.out; omega) | (have z : w1.drew.heap.size = w1.heap.size := rfl; have z0 := Hsz.out; omega)) | exact set_held2 (set_held (set_held (set_held (s0) ((Below.refl _ _).alloc (Nat.le_refl _) _)) hbl1) hbl2) (by first | (have z : w1.heap.size ≤ W1.heap.size := hbl1.size; have z0 := Hsz.out; omega) | (have z : w1.heap.size ≤ W2.heap.size := hbl2.size; have z0 := Hsz.out; omega) | (have z : w1.drew.heap.size = w1.heap.size := rfl; have z0 := Hsz.out; omega)) (by first | (have z : w1.heap.size ≤ W1.heap.size := hbl1.size; have z0 := Hsz.out; omega) | (have z : w1.heap.size ≤ W2.heap.size := hbl2.size; have z0 := Hsz.out; omega) | (have z : w1.drew.heap.size = w1.heap.size := rfl; have z0 := Hsz.out; omega)) (by first | (have z : w1.heap.size ≤ W1.heap.size := hbl1.size; have z0 := Hsz.out; omega) | (have z : w1.heap.size ≤ W2.heap.size := hbl2.size; have z0 := Hsz.out; omega) | (have z : w1.drew.heap.size = w1.heap.size := rfl; have z0 := Hsz.out; omega)) | exact set_held2 (set_held (set_held (set_held (s0) hbl2) ((Below.refl _ _).alloc (Nat.le_refl _) _)) hbl1) (by first | (have z : w1.heap.size ≤ W1.heap.size := hbl1.size; have z0 := Hsz.out; omega) | (have z : w1.heap.size ≤ W2.heap.size := hbl2.size; have z0 := Hsz.out; omega) | (have z : w1.drew.heap.size = w1.heap.size := rfl; have z0 := Hsz.out; omega)) (by first | (have z : w1.heap.size ≤ W1.heap.size := hbl1.size; have z0 := Hsz.out; omega) | (have z : w1.heap.size ≤ W2.heap.size := hbl2.size; have z0 := Hsz.out; omega) | (have z : w1.drew.heap.size = w1.heap.size := rfl; have z0 := Hsz.out; omega)) (by first | (have z : w1.heap.size ≤ W1.heap.size := hbl1.size; have z0 := Hsz.out; omega) | (have z : w1.heap.size ≤ W2.heap.size := hbl2.size; have z0 := Hsz.out; omega) | (have z : w1.drew.heap.size = w1.heap.size := rfl; have z0 := Hsz.out; omega)) | exact set_held2 (set_held (set_held (set_held (s0) ((Below.refl _ _).alloc (Nat.le_refl _) _)) hbl2) hbl1) (by first | (have z : w1.heap.size ≤ W1.heap.size := hbl1.size; have z0 := Hsz.out; omega) | (have z : w1.heap.size ≤ W2.heap.size := hbl2.size; have z0 := Hsz.out; omega) | (have z : w1.drew.heap.size = w1.heap.size := rfl; have z0 := Hsz.out; omega)) (by first | (have z : w1.heap.size ≤ W1.heap.size := hbl1.size; have z0 := Hsz.out; omega) | (have z : w1.heap.size ≤ W2.heap.size := hbl2.size; have z0 := Hsz.out; omega) | (have z : w1.drew.heap.size = w1.heap.size := rfl; have z0 := Hsz.out; omega)) (by first | (have z : w1.heap.size ≤ W1.heap.size := hbl1.size; have z0 := Hsz.out; omega) | (have z : w1.heap.size ≤ W2.heap.size := hbl2.size; have z0 := Hsz.out; omega) | (have z : w1.drew.heap.size = w1.heap.size := rfl; have z0 := Hsz.out; omega)))
      (first | (go_at_call 95; refine (hc1 _ (by first | exact s0.2.1 | exact (set_held (s0) hbl2).2.1 | exact (set_held (s0) ((Below.refl _ _).alloc (Nat.le_refl _) _)).2.1 | exact (set_held (set_held (s0) hbl2) ((Below.refl _ _).alloc (Nat.le_refl _) _)).2.1 | exact (set_held (set_held (s0) ((Below.refl _ _).alloc (Nat.le_refl _) _)) hbl2).2.1)).mono ?_; rintro e W1 ⟨v1, rfl, hown1, hbl1⟩; obtain ⟨B1, e1, rfl, f1, g1, i1⟩ := own_slice hown1; first | (have qb1 : Blk W1 w1.heap.size 28 #[.slice none 0 0, .slice none 0 0] := (Blk.new w1.drew 28 #[.slice none 0 0, .slice none 0 0]).below hbl1 (Blk.new w1.drew 28 #[.slice none 0 0, .slice none 0 0]).lt; have qc1 := blk2 qb1; have qf1 := qb1.frozen) | (have qb1 := (Blk.new W2 28 #[.slice none 0 0, .slice none 0 0]).below hbl1 (Blk.new W2 28 #[.slice none 0 0, .slice none 0 0]).lt; have qc1 := blk2 qb1; have qf1 := qb1.frozen) | (have qb1 := qb2.below hbl1 qb2.lt; have qc1 := blk2 qb1; have qf1 := qb1.frozen) | skip) | (go_at_call 96; refine (hc2 _ (by first | exact s0.2.1 | exact (set_held (s0) hbl1).2.1 | exact (set_held (s0) ((Below.refl _ _).alloc (Nat.le_refl _) _)).2.1 | exact (set_held (set_held (s0) hbl1) ((Below.refl _ _).alloc (Nat.le_refl _) _)).2.1 | exact (set_held (set_held (s0) ((Below.refl _ _).alloc (Nat.le_refl _) _)) hbl1).2.1)).mono ?_; rintro e W2 ⟨v2, rfl, hown2, hbl2⟩; obtain ⟨B2, e2, rfl, f2, g2, i2⟩ := own_slice hown2; first | (have qb2 : Blk W2 w1.heap.size 28 #[.slice none 0 0, .slice none 0 0] := (Blk.new w1.drew 28 #[.slice none 0 0, .slice none 0 0]).below hbl2 (Blk.new w1.drew 28 #[.slice none 0 0, .slice none 0 0]).lt; have qc2 := blk2 qb2; have qf2 := qb2.frozen) | (have qb2 := (Blk.new W1 28 #[.slice none 0 0, .slice none 0 0]).below hbl2 (Blk.new W1 28 #[.slice none 0 0, .slice none 0 0]).lt; have qc2 := blk2 qb2; have qf2 := qb2.frozen) | (have qb2 := qb1.below hbl2 qb1.lt; have qc2 := blk2 qb2; have qf2 := qb2.frozen) | skip))

    · go_wp2_with fail
      go_meet
      have z1 : w1.heap.size ≤ W1.heap.size := hbl1.size
      have z2 : W1.heap.size ≤ W2.heap.size := hbl2.size
      exact ⟨W2.heap.size, B1, e1, B2, e2, rfl, by omega, Blk.new W2 _ _, own_below (own_below hown1 hbl2) ((Below.refl _ _).alloc (Nat.le_refl _) _), own_base (own_below hown2 ((Below.refl _ _).alloc (Nat.le_refl _) _)) z1, (set_held (set_held (s0) hbl1) hbl2).2.2.alloc (by omega) _⟩
    · go_wp2_with fail
      go_meet
      have z1 : w1.heap.size ≤ W1.heap.size := hbl1.size
      have qb : Blk ((W2.setCell ⟨W1.heap.size, 0, none⟩ (.slice B1 L.targets.length e1)).setCell ⟨W1.heap.size, 1, none⟩ (.slice B2 L.data.length e2)) W1.heap.size 28 #[.slice B1 L.targets.length e1, .slice B2 L.data.length e2] := by
        have := (qb2.set 0 (.slice B1 L.targets.length e1)).set 1 (.slice B2 L.data.length e2)
        simpa using this
      have r1 := own_below (own_below hown1 ((Below.refl _ _).alloc (Nat.le_refl _) (.cells #[.slice none 0 0, .slice none 0 0] 28))) hbl2
      have nb : Value.ownBlock (.slice B1 L.targets.length e1) ≠ some W1.heap.size := fun e => by have := (hown1.lt _ e).2; omega
      have r2 := own_base (base := w1.heap.size) (ownsRow_setCell_below (ownsRow_setCell_below hown2 (a := ⟨W1.heap.size, 0, none⟩) (by simp) (.slice B1 L.targets.length e1)) (a := ⟨W1.heap.size, 1, none⟩) (by simp) (.slice B2 L.data.length e2)) (by simp; omega)
      exact ⟨W1.heap.size, B1, e1, B2, e2, rfl, z1, qb, ownsRow_setCell_other (ownsRow_setCell_other r1 (a := ⟨W1.heap.size, 0, none⟩) nb (.slice B1 L.targets.length e1)) (a := ⟨W1.heap.size, 1, none⟩) nb (.slice B2 L.data.length e2), r2,
        ((set_held (set_held (set_held (s0) hbl1) ((Below.refl _ _).alloc (Nat.le_refl _) _)) hbl2).2.2.setCell (p := ⟨W1.heap.size, 0, none⟩) z1 _).setCell (p := ⟨W1.heap.size, 1, none⟩) z1 _⟩
    · go_wp2_with fail
      go_meet
      have z1 : w1.heap.size + 1 ≤ W1.heap.size := by have := hbl1.size; simpa using this
      have qb : Blk ((W2.setCell ⟨w1.heap.size, 0, none⟩ (.slice B1 L.targets.length e1)).setCell ⟨w1.heap.size, 1, none⟩ (.slice B2 L.data.length e2)) w1.heap.size 28 #[.slice B1 L.targets.length e1, .slice B2 L.data.length e2] := by
        have := (qb2.set 0 (.slice B1 L.targets.length e1)).set 1 (.slice B2 L.data.length e2)
        simpa using this
      have r1 := own_base (base := w1.heap.size) (ownsRow_setCell_below (ownsRow_setCell_below (own_below hown1 hbl2) (a := ⟨w1.heap.size, 0, none⟩) (by simp) (.slice B1 L.targets.length e1)) (a := ⟨w1.heap.size, 1, none⟩) (by simp) (.slice B2 L.data.length e2)) (by simp)
      have r2 := own_base (base := w1.heap.size) (ownsRow_setCell_below (ownsRow_setCell_below hown2 (a := ⟨w1.heap.size, 0, none⟩) (by simp; omega) (.slice B1 L.targets.length e1)) (a := ⟨w1.heap.size, 1, none⟩) (by simp; omega) (.slice B2 L.data.length e2)) (by omega)
      exact ⟨w1.heap.size, B1, e1, B2, e2, rfl, Nat.le_refl _, qb, r1, r2,
        ((set_held (set_held (set_held (s0) ((Below.refl _ _).alloc (Nat.le_refl _) _)) hbl1) hbl2).2.2.setCell (p := ⟨w1.heap.size, 0, none⟩) (Nat.le_refl _) _).setCell (p := ⟨w1.heap.size, 1, none⟩) (Nat.le_refl _) _⟩
  case rest =>
    clear hc1 hc2
    obtain ⟨g, B1, e1, B2, e2, rfl, hg, qb, r1, r2, hB⟩ := hcut
    have hz := Hsz.out
    have Hz := hid hz
    have x1 := x0.below hB (by omega)
    have z1 := z0.below hB (by omega)
    have b1 := b0.trans (hB.mono (by omega) : Below w.heap.size w1 wc)
    have ng1 : ¬ w.heap.size = g := by omega
    have ng2 : ¬ w.heap.size + 1 = g := by omega
    have ng3 : ¬ g = w.heap.size := by omega
    have ng4 : ¬ g = w.heap.size + 1 := by omega
    clear hz
    have hix := index_any A1 L.targets c1 k wc (hL.below b1).targets (by omega) L.data
    have k1 := blk2 x1
    have k2 := blk2 z1
    have k3 := blk2 qb
    have k4 := z1.frozen
    by_cases hm : k ∈ L.targets
    · obtain ⟨i, hi, f1, f2, f3⟩ := Pn.find_in hm
      have hid2 : i < L.data.length := by have := He.out; omega
      have Hw := hid (show L.set k s = (⟨L.targets, L.data.set i s⟩, 0) by rw [Pn.set, if_neg (by rw [h1]; simp), if_neg (by omega), if_pos hm, f3])
      rw [show (⟨L.targets, L.data⟩ : Pn).find k = i from f1] at hix
      clear f1 f2 f3 hm
      obtain ⟨g2, rfl⟩ : ∃ g2, B2 = some ⟨g2, 0, none⟩ := by
        rcases r2.2 with ⟨_, h⟩ | ⟨g2, cap, cur, h, _⟩
        · omega
        · injection h with h; exact ⟨g2, h⟩
      have hg2 := r2.lt g2 rfl
      have ngg : ¬ g = g2 := by
        rintro rfl
        rcases r2.2 with ⟨h, _⟩ | ⟨g3, cap, cur, h, _, h3, _⟩
        · injection h with h; cases h
        · injection h with h; injection h with h; injection h with h
          subst h
          rw [show wc.heap[g]? = _ from qb] at h3
          injection h3 with h3
          injection h3 with _ h3
          exact absurd h3 (by decide)
      have ngh : ¬ g2 = g := fun h => ngg h.symm
      have ng5 : ¬ w.heap.size + 1 = g2 := by have := Hz.out; omega
      have ng6 : ¬ g2 = w.heap.size + 1 := by have := Hz.out; omega
      have cst := r2.cellAt i (by omega)
      rw [show (strCells L.data)[i]? = some (.string (bs L.data[i])) by simp [strCells, hid2]] at cst
      have fst := r2.frozenAt i
      have st := (r2.stored i (.string (bs s))).1
      go_wp2_with fail
      go_at_call 97
      refine hix.mono ?_
      rintro e w3 ⟨rfl, rfl⟩
      go_wp2_with fail
      rw [Hw.out]
      have zz : Blk (((w3.setCell ⟨g2, i, none⟩ (.string (bs s))).setCell ⟨w.heap.size + 1, 0, none⟩ (.slice B1 L.targets.length e1)).setCell ⟨w.heap.size + 1, 1, none⟩ (.slice (some ⟨g2, 0, none⟩) L.data.length e2)) (w.heap.size + 1) 28 #[.slice B1 L.targets.length e1, .slice (some ⟨g2, 0, none⟩) L.data.length e2] := by
        have := ((z1.other (a := ⟨g2, i, none⟩) ng5 (.string (bs s))).set 0 (.slice B1 L.targets.length e1)).set 1 (.slice (some ⟨g2, 0, none⟩) L.data.length e2)
        simpa using this
      have yy := blk2 zz
      have hbf := ((b1.setCell (p := ⟨g2, i, none⟩) (by show w.heap.size ≤ g2; have := Hz.out; have := hg2.1; omega) (.string (bs s))).setCell (p := ⟨w.heap.size + 1, 0, none⟩) (by simp) (.slice B1 L.targets.length e1)).setCell (p := ⟨w.heap.size + 1, 1, none⟩) (by simp) (.slice (some ⟨g2, 0, none⟩) L.data.length e2)
      have lt1 : w.heap.size + 1 < w1.heap.size := by have := Hz.out; omega
      have nb : ∀ b off, B1 = some ⟨b, off, none⟩ → b ≠ g2 := by
        rintro b off rfl rfl
        rcases r1.2 with ⟨h, _⟩ | ⟨g3, cap, cur, h, _, h3, _⟩
        · injection h with h; cases h
        · injection h with h; injection h with h; injection h with h
          subst h
          rcases r2.2 with ⟨h, _⟩ | ⟨g4, cap', cur', h, _, h4, _⟩
          · injection h with h; cases h
          · injection h with h; injection h with h; injection h with h
            subst h
            rw [h3] at h4
            injection h4 with h4
            injection h4 with _ h4
            exact absurd h4 (by decide)
      obtain ⟨_, _, s1, u1, u2, u3⟩ := own_slice r1
      injection s1 with s1 _ s1'
      subst s1; subst s1'
      obtain ⟨_, _, s2, v1, v2, v3⟩ := own_slice r2
      injection s2 with s2 _ s2'
      subst s2; subst s2'
      have ct := (((Cells.of_own r1).setCell (p := ⟨g2, i, none⟩) nb (.string (bs s))).setCell (p := ⟨w.heap.size + 1, 0, none⟩) (own_beyond r1 lt1) (.slice B1 L.targets.length e1)).setCell (p := ⟨w.heap.size + 1, 1, none⟩) (own_beyond r1 lt1) (.slice (some ⟨g2, 0, none⟩) L.data.length e2)
      have cd := ((Cells.of_own st).setCell (p := ⟨w.heap.size + 1, 0, none⟩) (own_beyond st lt1) (.slice B1 L.targets.length e1)).setCell (p := ⟨w.heap.size + 1, 1, none⟩) (own_beyond st lt1) (.slice (some ⟨g2, 0, none⟩) L.data.length e2)
      rw [show (strCells L.data).set i (.string (bs s)) = strCells (L.data.set i s) by simp [strCells, List.map_set]] at cd
      refine bodyPost_ret (v := .tuple #[pval ⟨L.targets, L.data.set i s⟩ ⟨B1, e1⟩ ⟨some ⟨g2, 0, none⟩, e2⟩, .int .i64 0]) (by simp [results, Tryz.results44, go_sem, yy]) rfl ?_
      refine ⟨⟨_, _, rfl, ⟨ct, cd, u3, v3, u1, by simpa using v1, u2, v2, hL.ats, fun x hx => ?_⟩, fun g hg _ => ⟨off_own r1 (by omega), by rw [List.length_set]; exact off_own r2 (by omega)⟩⟩, hbf⟩
      rcases List.mem_or_eq_of_mem_set hx with h | h
      · exact hL.strs x h
      · subst h; omega
    · rw [show (⟨L.targets, L.data⟩ : Pn).find k = -1 from Pn.find_out hm] at hix
      by_cases hfull : 24 ≤ L.targets.length
      · have Hw := hid (show L.set k s = (L, 16) by rw [Pn.set, if_neg (by rw [h1]; simp), if_neg (by omega), if_neg hm, if_pos hfull])
        go_wp2_with fail
        go_at_call 97
        refine hix.mono ?_
        rintro e w3 ⟨rfl, rfl⟩
        go_wp2_with fail
        rw [Hw.out]
        have zz : Blk ((w3.setCell ⟨w.heap.size + 1, 0, none⟩ (.slice A1 L.targets.length c1)).setCell ⟨w.heap.size + 1, 1, none⟩ (.slice A2 L.data.length c2)) (w.heap.size + 1) 28 #[.slice A1 L.targets.length c1, .slice A2 L.data.length c2] := by
          have := (z1.set 0 (.slice A1 L.targets.length c1)).set 1 (.slice A2 L.data.length c2)
          simpa using this
        have yy := blk2 zz
        have hbf := (b1.setCell (p := ⟨w.heap.size + 1, 0, none⟩) (by simp) (.slice A1 L.targets.length c1)).setCell (p := ⟨w.heap.size + 1, 1, none⟩) (by simp) (.slice A2 L.data.length c2)
        refine bodyPost_ret (v := .tuple #[pval L ⟨A1, c1⟩ ⟨A2, c2⟩, .int .i64 16]) (by simp [results, Tryz.results44, go_sem, yy]) rfl ?_
        exact ⟨⟨_, _, rfl, hL.below hbf, fun _ _ h => h⟩, hbf⟩
      · exact absurd hcase (by simp [hm, hfull])
end Go.Proofs.YtjhnaeomaigimaaGreatDoor
set_option linter.unusedVariables false
namespace Go.Proofs.YtjhnaeomaigimaaGreatDoor
open Go.RowKit Go.Shelf
attribute [local go_sem] bs_mk bs_append bs_extract bs_size bs_toList bs_get

namespace Pn
theorem fit_len {L : Pn} (h : L.Fit) : L.targets.length = L.data.length ∧ L.targets.length ≤ 24 := ⟨h.1, h.2.1⟩
end Pn
set_option maxRecDepth 100000 in
theorem r5_fit_head (L : Pn) (p q : Pl) (w : World) (hL : IsPn w L p q) (ht : L.targets.length ≤ 9223372036854775807) (hd : L.data.length ≤ 9223372036854775807) (h : L.targets.length ≠ L.data.length ∨ 24 < L.targets.length) :
    Calls Tryz.prog 18 #[pval L p q] w fun e w' => e = .returned (.bool L.fit) ∧ Below w.heap.size w w' := by
  have Hf := hid (Pn.fit_no (L := L) (fun hf => by have := Pn.fit_len hf; omega))
  obtain ⟨A1, c1⟩ := p
  obtain ⟨A2, c2⟩ := q
  have b0 := (Below.refl w.heap.size w).alloc (Nat.le_refl _) (.cells #[.slice A1 L.targets.length c1, .slice A2 L.data.length c2] 28)
  by_cases h1 : L.targets.length = L.data.length
  · have n1 : ((L.targets.length : Int) != L.data.length) = false := by simp; omega
    have n2 : 24 < L.targets.length := by omega
    clear h h1
    go_enter Tryz.func18, Tryz.ntmps18
    go_wp2_with fail
    go_ret
    exact ⟨by rw [Hf.out]; rfl, b0⟩
  · have n1 : ((L.targets.length : Int) != L.data.length) = true := by simp; omega
    clear h h1
    go_enter Tryz.func18, Tryz.ntmps18
    go_wp2_with fail
    go_ret
    exact ⟨by rw [Hf.out]; rfl, b0⟩
set_option maxRecDepth 100000 in
set_option maxHeartbeats 1000000 in
theorem r5_fit_rest (L : Pn) (p q : Pl) (w : World) (hL : IsPn w L p q) (h1 : L.targets.length = L.data.length) (h2 : L.targets.length ≤ 24) :
    Calls Tryz.prog 18 #[pval L p q] w fun e w' => e = .returned (.bool L.fit) ∧ Below w.heap.size w w' := by
  have c1 := fun (W : World) (hb : Below w.heap.size w W) => hL.targets.below hb
  have c2 := fun (W : World) (hb : Below w.heap.size w W) => hL.data.below hb
  have hst := hL.strs
  have hfd := fun (W : World) (hb : Below w.heap.size w W) (k : Int) => r5_find L p q k W (hL.below hb) (by omega)
  clear hL
  obtain ⟨A1, a1⟩ := p
  obtain ⟨A2, a2⟩ := q
  simp only at c1 c2
  have b0 := (Below.refl w.heap.size w).alloc (Nat.le_refl _) (.cells #[.slice A1 L.targets.length a1, .slice A2 L.data.length a2] 28)
  have x0 := Blk.new w 28 #[.slice A1 L.targets.length a1, .slice A2 L.data.length a2]
  have n1 : ((L.targets.length : Int) != L.data.length) = false := by simp; omega
  have H1 := hid h1
  have H2 := hid h2
  clear h1
  go_enter Tryz.func18, Tryz.ntmps18
  go_wp2_with fail
  go_loopw [3] (fun x W => ∃ i : Nat, i ≤ L.targets.length ∧ x = .int .i64 i ∧ Hid (∀ j (hj : j < L.targets.length) (hj' : j < L.data.length), j < i → (sectorOk L.targets[j] = true ∧ L.find L.targets[j] = j) ∧ L.data[j].length = 64) ∧
    Blk W w.heap.size 28 #[.slice A1 L.targets.length a1, .slice A2 L.data.length a2] ∧ Below w.heap.size w W) (fun x _ => L.targets.length - (intOf x).toNat)
  case atStart => exact ⟨0, Nat.zero_le _, rfl, hid (fun j hj hj' h0 => by omega), x0, b0⟩
  case round =>
    clear x0 b0
    obtain ⟨i, hi, rfl, hok, hx, hb⟩ := hrel
    have k0 := blk2 hx
    have K0 := ext2 hx
    by_cases hlt : i < L.targets.length
    · have hlt' : i < L.data.length := by have := H1.out; omega
      obtain ⟨pb, po, hpa, hcell⟩ := (c1 _ hb).int hlt
      obtain ⟨pb', po', hpa', hcell'⟩ := (c2 _ hb).str hlt'
      subst hpa
      subst hpa'
      have y0 := hcell i hlt
      have y1 := hcell' i hlt'
      have Y0 := fun e : Ext wr => e.cell y0
      have Y1 := fun e : Ext wr => e.cell y1
      have hsl := hst _ (List.getElem_mem hlt')
      clear hcell hcell'
      have s1 := fun e : Ext wr => r5_sector L.targets[i] e.world
      have s2 := fun e : Ext wr => hfd e.world (bt hb e.below) L.targets[i]
      cases e1 : sectorOk L.targets[i] with
      | false =>
        have Hf := hid (Pn.fit_no (L := L) (fun hf => by have := (hf.2.2.1 i hlt).1; rw [e1] at this; cases this))
        rw [e1] at s1
        clear e1
        go_wp2_with fail
        refine wp_region_ext mixed (by kernel_rfl) ?_
        repeat (go_big_quiet_step ((first | (go_at_call 56; with_reducible exact ext_of (s1 _)) | (go_at_call 57; with_reducible exact ext_of (s2 _)))))
        refine wpQuiet_nil ?_
        rintro w2 ⟨pq_, hpq_⟩
        have hb2 := pq_.below
        rw [← hpq_] at hb2
        clear hpq_ pq_
        go_wp2_with fail
        go_ret
        exact ⟨by rw [Hf.out]; rfl, bt hb hb2⟩
      | true =>
        rw [e1] at s1
        have E1 := hid e1
        clear e1
        by_cases e2 : L.find L.targets[i] = i
        · have m2 : ((L.find L.targets[i] : Int) != i) = false := by simpa using e2
          have E2 := hid e2
          clear e2
          by_cases e3 : L.data[i].length = 64
          · have m3 : ((L.data[i].length : Int) != 64) = false := by simp; omega
            have E3 := hid e3
            clear e3
            generalize L.find L.targets[i] = f at s2 m2
            go_wp2_with fail
            refine wp_region_ext mixed (by kernel_rfl) ?_
            repeat (go_big_quiet_step ((first | (go_at_call 56; with_reducible exact ext_of (s1 _)) | (go_at_call 57; with_reducible exact ext_of (s2 _)))))
            refine wpQuiet_nil ?_
            rintro w2 ⟨pq_, hpq_⟩
            have hb2 := pq_.below
            rw [← hpq_] at hb2
            clear hpq_ pq_
            go_wp2_with fail
            go_roundw
            case rel => exact ⟨i + 1, by omega, by go_num, hid (fun j hj hj' hji => by
              rcases Nat.lt_or_ge j i with h' | h'
              · exact hok.out j hj hj' h'
              · obtain rfl : j = i := by omega
                exact ⟨⟨E1.out, E2.out⟩, E3.out⟩), hx.below hb2 hx.lt, bt hb hb2⟩
            case measure => simp [intOf]; omega
          · have Hf := hid (Pn.fit_no (L := L) (fun hf => e3 (hf.2.2.2 i hlt')))
            have m3 : ((L.data[i].length : Int) != 64) = true := by simp; omega
            clear e3
            go_wp2_with fail
            refine wp_region_ext mixed (by kernel_rfl) ?_
            repeat (go_big_quiet_step ((first | (go_at_call 56; with_reducible exact ext_of (s1 _)) | (go_at_call 57; with_reducible exact ext_of (s2 _)))))
            refine wpQuiet_nil ?_
            rintro w2 ⟨pq_, hpq_⟩
            have hb2 := pq_.below
            rw [← hpq_] at hb2
            clear hpq_ pq_
            go_wp2_with fail
            go_ret
            exact ⟨by rw [Hf.out]; rfl, bt hb hb2⟩
        · have Hf := hid (Pn.fit_no (L := L) (fun hf => e2 (hf.2.2.1 i hlt).2))
          have m2 : ((L.find L.targets[i] : Int) != i) = true := by simpa using e2
          clear e2
          go_wp2_with fail
          refine wp_region_ext mixed (by kernel_rfl) ?_
          repeat (go_big_quiet_step ((first | (go_at_call 56; with_reducible exact ext_of (s1 _)) | (go_at_call 57; with_reducible exact ext_of (s2 _)))))
          refine wpQuiet_nil ?_
          rintro w2 ⟨pq_, hpq_⟩
          have hb2 := pq_.below
          rw [← hpq_] at hb2
          clear hpq_ pq_
          go_wp2_with fail
          go_ret
          exact ⟨by rw [Hf.out]; rfl, bt hb hb2⟩
    · have Hf := hid (Pn.fit_iff.2 (show L.Fit from ⟨H1.out, H2.out, fun j hj => (hok.out j hj (by have := H1.out; omega) (by omega)).1, fun j hj => (hok.out j (by have := H1.out; omega) hj (by have := H1.out; omega)).2⟩))
      clear hok K0
      go_wp2_with fail
      go_ret
      exact ⟨by rw [Hf.out]; rfl, hb⟩
theorem r5_fit (L : Pn) (p q : Pl) (w : World) (hL : IsPn w L p q) :
    Calls Tryz.prog 18 #[pval L p q] w fun e w' => e = .returned (.bool L.fit) ∧ Below w.heap.size w w' := by
  by_cases h : L.targets.length ≠ L.data.length ∨ 24 < L.targets.length
  · exact r5_fit_head L p q w hL (Nat.le_trans hL.pc hL.pm) (Nat.le_trans hL.qc hL.qm) h
  · exact r5_fit_rest L p q w hL (by omega) (by omega)
end Go.Proofs.YtjhnaeomaigimaaGreatDoor
