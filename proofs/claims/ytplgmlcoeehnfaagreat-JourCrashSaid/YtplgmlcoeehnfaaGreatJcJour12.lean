/- Package cofferdamref07: the parts of a replay. -/
import Derived.Test.YtplgmlcoeehnfaaGreatJcJour10
import Derived.BigQuiet
import Derived.Test.YtplgmlcoeehnfaaGreatJcRegs
set_option linter.unusedVariables false
namespace Go.Proofs.YtplgmlcoeehnfaaGreat
open Go.RowKit Go.Shelf
/-! ### What is laid -/
def jrPlans (l : List (Nat × Tx)) : List Pn := match jrLast l with
  | .none => []
  | some y => ((jrBefore l y.2.seq).toList.map fun x => x.2.plan) ++ [y.2.plan]
theorem runAll_one (s : Stp) (D : Dk) : runAll [s] D = s.run D := by
  show (if (s.run D).2 ≠ 0 then s.run D else ((s.run D).1, 0)) = s.run D
  split
  · rfl
  · rename_i h
    exact Prod.ext rfl (show (s.run D).2 = 0 by simpa using h).symm
theorem jrSteps_run (D : Dk) (l : List (Nat × Tx)) : jrSteps D l = runAll ((jrPlans l).map (Stp.laid 0)) D := by
  unfold jrSteps jrPlans
  cases jrLast l with
  | none => rfl
  | some y =>
    simp only
    cases jrBefore l y.2.seq with
    | none => exact (runAll_one (Stp.laid 0 y.2.plan) D).symm
    | some x =>
      show _ = (if (Pn.lay D x.2.plan).2 ≠ 0 then Pn.lay D x.2.plan else runAll [Stp.laid 0 y.2.plan] (Pn.lay D x.2.plan).1)
      rw [runAll_one]
      rfl
theorem lay_fit {D : Dk} (h : D.fit = true) (L : Pn) : (Pn.lay D L).1.fit = true := Dk.layIn_fit h
/-- What a replay is, by its steps. -/
theorem jrReplay_err {D : Dk} {fs : List (Nat × Tx)} {e : Int} (h : jrScan D = (fs, e)) (he : e ≠ 0) : jrReplay D = (D, Jr.none, e) := by
  unfold jrReplay; rw [h, if_pos he]
theorem jrReplay_steps {D E : Dk} {fs : List (Nat × Tx)} {e : Int} (h : jrScan D = (fs, 0)) (hs : jrSteps D fs = (E, e)) (he : e ≠ 0) : jrReplay D = (E, Jr.none, e) := by
  unfold jrReplay
  rw [h, if_neg (by simp), hs, Dk.next_err (X := (E, e)) he, if_pos he]
theorem jrReplay_end {D E F : Dk} {fs : List (Nat × Tx)} {e : Int} (h : jrScan D = (fs, 0)) (hs : jrSteps D fs = (E, 0)) (hf : E.flush = (F, e)) : jrReplay D = if e ≠ 0 then (F, Jr.none, e) else (F, jrNext fs, 0) := by
  unfold jrReplay
  rw [h, if_neg (by simp), hs, Dk.next_mk, hf]
set_option maxRecDepth 100000 in
theorem jrScan_pos {D : Dk} {x : Nat × Tx} (h : x ∈ (jrScan D).1) : x.1 < 81 := by
  unfold jrScan at h
  split at h
  · cases h
  · exact (jrFound_ok h).1
/-! ### The boxes of a replay -/
structure RpSt (w W : World) (D : Dk) (p q : Pl) (E : Dk) (p1 q1 : Pl) (gj : Nat) (uj pj : Int) : Prop where
  x : Blk W w.heap.size 25 #[.string (bs E.data), .slice p1.a E.cache.length p1.c, .int .i64 E.fuse, .bool E.off, .slice q1.a E.bad.length q1.c]
  r : Blk W (w.heap.size + 1) 25 #[.string (bs []), .slice none 0 0, .int .i64 0, .bool false, .slice none 0 0]
  s : Blk W (w.heap.size + 1 + 1) 72 #[.int .u64 0, .int .i64 0]
  n : Blk W (w.heap.size + 1 + 1 + 1) 72 #[.int .u64 1, .int .i64 0]
  j : Blk W gj 72 #[.int .u64 uj, .int .i64 pj]
  hj : w.heap.size + 1 + 1 < gj
  is : IsDk W E p1 q1
  off : ∀ g, w.heap.size ≤ g → g ≤ gj → DkOff g E p1 q1
  old : ∀ g, g < w.heap.size → DkOff g D p q → DkOff g E p1 q1
  below : Below w.heap.size w W
section
variable {w W W' : World} {D E : Dk} {p q p1 q1 : Pl} {gj : Nat} {uj pj : Int}
theorem RpSt.later (h : RpSt w W D p q E p1 q1 gj uj pj) (hb : Below W.heap.size W W') : RpSt w W' D p q E p1 q1 gj uj pj :=
  ⟨h.x.below hb h.x.lt, h.r.below hb h.r.lt, h.s.below hb h.s.lt, h.n.below hb h.n.lt, h.j.below hb h.j.lt, h.hj, h.is.below hb, h.off, h.old, bt h.below hb⟩
theorem RpSt.put (h : RpSt w W D p q E p1 q1 gj uj pj) {X : Dk} {p2 q2 : Pl} (hi : IsDk W X p2 q2) (ho : ∀ g, g ≤ gj → DkOff g E p1 q1 → DkOff g X p2 q2) :
    RpSt w (((((W.setCell ⟨w.heap.size, 0, none⟩ (.string (bs X.data))).setCell ⟨w.heap.size, 1, none⟩ (.slice p2.a X.cache.length p2.c)).setCell ⟨w.heap.size, 2, none⟩ (.int .i64 X.fuse)).setCell ⟨w.heap.size, 3, none⟩ (.bool X.off)).setCell ⟨w.heap.size, 4, none⟩ (.slice q2.a X.bad.length q2.c)) D p q X p2 q2 gj uj pj := by
  have hj := h.hj
  exact ⟨blk_set5 h.x _ _ _ _ _, blk_off5 h.r (by omega) _ _ _ _ _, blk_off5 h.s (by omega) _ _ _ _ _, blk_off5 h.n (by omega) _ _ _ _ _, blk_off5 h.j (by omega) _ _ _ _ _, h.hj,
    hi.off5 (ho _ (by omega) (h.off _ (Nat.le_refl _) (by omega))) _ _ _ _ _, fun g h1 h2 => ho g h2 (h.off g h1 h2), fun g h1 h2 => ho g (by omega) (h.old g h1 h2), below_set5 h.below (Nat.le_refl _) _ _ _ _ _⟩
theorem RpSt.setj (h : RpSt w W D p q E p1 q1 gj uj pj) (hj' : w.heap.size + 1 + 1 + 1 < gj) (u i : Int) : RpSt w ((W.setCell ⟨gj, 0, none⟩ (.int .u64 u)).setCell ⟨gj, 1, none⟩ (.int .i64 i)) D p q E p1 q1 gj u i := by
  have hj := h.hj
  exact ⟨blk_off2 h.x (by omega) _ _, blk_off2 h.r (by omega) _ _, blk_off2 h.s (by omega) _ _, blk_off2 h.n (by omega) _ _, blk_set2 h.j _ _, h.hj, h.is.off2 (h.off _ (by omega) (Nat.le_refl _)) _ _, h.off, h.old, below_set2 h.below (by omega) _ _⟩
/-- What the call hands back. -/
theorem RpSt.fin (h : RpSt w W D p q E p1 q1 gj uj pj) (u i : Int) : ∃ Z, Z = (((((((W.setCell ⟨w.heap.size + 1, 0, none⟩ (.string (bs E.data))).setCell ⟨w.heap.size + 1, 1, none⟩ (.slice p1.a E.cache.length p1.c)).setCell ⟨w.heap.size + 1, 2, none⟩ (.int .i64 E.fuse)).setCell ⟨w.heap.size + 1, 3, none⟩ (.bool E.off)).setCell ⟨w.heap.size + 1, 4, none⟩ (.slice q1.a E.bad.length q1.c)).setCell ⟨w.heap.size + 1 + 1, 0, none⟩ (.int .u64 u)).setCell ⟨w.heap.size + 1 + 1, 1, none⟩ (.int .i64 i)).drew ∧
    Blk Z (w.heap.size + 1) 25 #[.string (bs E.data), .slice p1.a E.cache.length p1.c, .int .i64 E.fuse, .bool E.off, .slice q1.a E.bad.length q1.c] ∧ Blk Z (w.heap.size + 1 + 1) 72 #[.int .u64 u, .int .i64 i] ∧ IsDk Z E p1 q1 ∧ Below w.heap.size w Z := by
  have hj := h.hj
  refine ⟨_, rfl, ?_, ?_, ?_, ?_⟩
  · exact (blk_off2 (blk_set5 h.r _ _ _ _ _) (by omega) _ _).drew
  · exact (blk_set2 (blk_off5 h.s (by omega) _ _ _ _ _) _ _).drew
  · exact ((h.is.off5 (h.off _ (by omega) (by omega)) _ _ _ _ _).off2 (h.off _ (by omega) (by omega)) _ _).below (Below.refl _ _).drew
  · exact (below_set2 (below_set5 h.below (by omega) _ _ _ _ _) (by omega) _ _).drew
/-- What was found, as a row. -/
structure FdRow (W : World) (B fb c : Nat) (l : List Fd) : Prop where
  own : W.ownsRow B 94 4 (.slice (some ⟨fb, 0, none⟩) l.length c) l.length (fdCells l)
  ok : FdsOk W l
theorem FdRow.later {B fb c : Nat} {l : List Fd} (h : FdRow W B fb c l) (hb : Below W.heap.size W W') : FdRow W' B fb c l := ⟨own_later h.own hb, h.ok.below hb⟩
theorem FdRow.set {B fb c : Nat} {l : List Fd} (h : FdRow W B fb c l) {g : Nat} {t : TypeId} {cs : Array Value} (hb : Blk W g t cs) (h1 : t ≠ 3) (h2 : t ≠ 9) (h3 : t ≠ 94) (o : Nat) (v : Value) : FdRow (W.setCell ⟨g, o, none⟩ v) B fb c l :=
  ⟨ownsRow_setCell_other h.own (a := ⟨g, o, none⟩) (own_box h.own hb h3).symm v, h.ok.setBox hb h1 h2 o v⟩
theorem FdRow.set5 {B fb c : Nat} {l : List Fd} (h : FdRow W B fb c l) {g : Nat} {cs : Array Value} (hb : Blk W g 25 cs) (v0 v1 v2 v3 v4 : Value) :
    FdRow (((((W.setCell ⟨g, 0, none⟩ v0).setCell ⟨g, 1, none⟩ v1).setCell ⟨g, 2, none⟩ v2).setCell ⟨g, 3, none⟩ v3).setCell ⟨g, 4, none⟩ v4) B fb c l := by
  have b1 := hb.set 0 v0
  have b2 := b1.set 1 v1
  have b3 := b2.set 2 v2
  have b4 := b3.set 3 v3
  exact ((((h.set hb (by decide) (by decide) (by decide) 0 v0).set b1 (by decide) (by decide) (by decide) 1 v1).set b2 (by decide) (by decide) (by decide) 2 v2).set b3 (by decide) (by decide) (by decide) 3 v3).set b4 (by decide) (by decide) (by decide) 4 v4
theorem FdRow.cells {B fb c : Nat} {l : List Fd} (h : FdRow W B fb c l) (j : Nat) (hj : j < l.length) : W.cell? ⟨fb, j * 4, none⟩ = some (.int .i64 l[j].pos) ∧ W.cell? ⟨fb, j * 4 + 1, none⟩ = some (.int .u64 l[j].tx.seq) ∧
      W.cell? ⟨fb, j * 4 + 1 + 1, none⟩ = some (.slice l[j].p.a l[j].tx.plan.targets.length l[j].p.c) ∧ W.cell? ⟨fb, j * 4 + 1 + 1 + 1, none⟩ = some (.slice l[j].q.a l[j].tx.plan.data.length l[j].q.c) := by
  obtain ⟨b, off, e, hc⟩ := (Cells.of_own h.own).fd hj
  injection e with e
  injection e with e1 e2
  subst e1; subst e2
  have := hc j hj
  simp only [Nat.zero_add] at this
  exact this
end
end Go.Proofs.YtplgmlcoeehnfaaGreat
