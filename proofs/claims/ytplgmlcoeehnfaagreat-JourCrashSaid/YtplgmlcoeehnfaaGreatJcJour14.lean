/- Package jour: the parts of a replay. -/
import Derived.Test.YtplgmlcoeehnfaaGreatJcJour12
import Derived.Deep.DeepCutAuto
set_option linter.unusedVariables false
namespace Go.Proofs.YtplgmlcoeehnfaaGreat
open Go.RowKit Go.Shelf
/-- The boxes of a replay by a worker. -/
structure JpSt (w W : World) (D : Dk) (p q : Pl) (E : Dk) (p1 q1 : Pl) (gw gj : Nat) (er uj pj : Int) : Prop where
  r : Blk W (w.heap.size + 1) 25 #[.string (bs []), .slice none 0 0, .int .i64 0, .bool false, .slice none 0 0]
  s : Blk W (w.heap.size + 1 + 1) 72 #[.int .u64 0, .int .i64 0]
  n : Blk W (w.heap.size + 1 + 1 + 1) 72 #[.int .u64 1, .int .i64 0]
  k : Blk W gw 138 #[.string (bs E.data), .slice p1.a E.cache.length p1.c, .int .i64 E.fuse, .bool E.off, .slice q1.a E.bad.length q1.c, .int .i64 er]
  j : Blk W gj 72 #[.int .u64 uj, .int .i64 pj]
  hw : w.heap.size + 1 + 1 + 1 < gw
  hj : w.heap.size + 1 + 1 + 1 < gj
  hn : gw ≠ gj
  is : IsDk W E p1 q1
  off : ∀ g, w.heap.size ≤ g → (g ≤ gw ∨ g ≤ gj) → DkOff g E p1 q1
  old : ∀ g, g < w.heap.size → DkOff g D p q → DkOff g E p1 q1
  below : Below w.heap.size w W
section
variable {w W W' : World} {D E : Dk} {p q p1 q1 : Pl} {gw gj : Nat} {er uj pj : Int}
theorem JpSt.later (h : JpSt w W D p q E p1 q1 gw gj er uj pj) (hb : Below W.heap.size W W') : JpSt w W' D p q E p1 q1 gw gj er uj pj :=
  ⟨h.r.below hb h.r.lt, h.s.below hb h.s.lt, h.n.below hb h.n.lt, h.k.below hb h.k.lt, h.j.below hb h.j.lt, h.hw, h.hj, h.hn, h.is.below hb, h.off, h.old, bt h.below hb⟩
/-- Behind a step of the worker's. -/
theorem JpSt.did (h : JpSt w W D p q E p1 q1 gw gj 0 uj pj) {X : Dk} {e : Int} {p2 q2 : Pl} (hg : W.grownBy W' (some gw)) (hk : Blk W' gw 138 #[.string (bs X.data), .slice p2.a X.cache.length p2.c, .int .i64 X.fuse, .bool X.off, .slice q2.a X.bad.length q2.c, .int .i64 e])
    (hi : IsDk W' X p2 q2) (ho : ∀ b, b < W.heap.size → DkOff b E p1 q1 → DkOff b X p2 q2) : JpSt w W' D p q X p2 q2 gw gj e uj pj := by
  have hw := h.hw
  have hkl := h.k.lt
  have hjl := h.j.lt
  refine ⟨h.r.kept hg (by simp; omega), h.s.kept hg (by simp; omega), h.n.kept hg (by simp; omega), hk, h.j.kept hg (by simp; exact fun e => h.hn e.symm), h.hw, h.hj, h.hn, hi, fun g h1 h2 => ho g (by omega) (h.off g h1 h2), fun g h1 h2 => ho g (by have := h.below.size; omega) (h.old g h1 h2), below_grown h.below hg (by omega) h.below.size⟩
theorem JpSt.setj (h : JpSt w W D p q E p1 q1 gw gj er uj pj) (u i : Int) : JpSt w ((W.setCell ⟨gj, 0, none⟩ (.int .u64 u)).setCell ⟨gj, 1, none⟩ (.int .i64 i)) D p q E p1 q1 gw gj er u i := by
  have hw := h.hw
  have hj := h.hj
  exact ⟨blk_off2 h.r (by omega) _ _, blk_off2 h.s (by omega) _ _, blk_off2 h.n (by omega) _ _, blk_off2 h.k h.hn _ _, blk_set2 h.j _ _, h.hw, h.hj, h.hn, h.is.off2 (h.off gj (by omega) (.inr (Nat.le_refl _))) _ _, h.off, h.old, below_set2 h.below (by omega) _ _⟩
theorem JpSt.fin (h : JpSt w W D p q E p1 q1 gw gj er uj pj) (u i : Int) : ∃ Z, Z = (((((((W.setCell ⟨w.heap.size + 1, 0, none⟩ (.string (bs E.data))).setCell ⟨w.heap.size + 1, 1, none⟩ (.slice p1.a E.cache.length p1.c)).setCell ⟨w.heap.size + 1, 2, none⟩ (.int .i64 E.fuse)).setCell ⟨w.heap.size + 1, 3, none⟩ (.bool E.off)).setCell ⟨w.heap.size + 1, 4, none⟩ (.slice q1.a E.bad.length q1.c)).setCell ⟨w.heap.size + 1 + 1, 0, none⟩ (.int .u64 u)).setCell ⟨w.heap.size + 1 + 1, 1, none⟩ (.int .i64 i)).drew ∧
    Blk Z (w.heap.size + 1) 25 #[.string (bs E.data), .slice p1.a E.cache.length p1.c, .int .i64 E.fuse, .bool E.off, .slice q1.a E.bad.length q1.c] ∧ Blk Z (w.heap.size + 1 + 1) 72 #[.int .u64 u, .int .i64 i] ∧ IsDk Z E p1 q1 ∧ Below w.heap.size w Z := by
  have hw := h.hw
  refine ⟨_, rfl, ?_, ?_, ?_, ?_⟩
  · exact (blk_off2 (blk_set5 h.r _ _ _ _ _) (by omega) _ _).drew
  · exact (blk_set2 (blk_off5 h.s (by omega) _ _ _ _ _) _ _).drew
  · exact ((h.is.off5 (h.off _ (by omega) (.inl (by omega))) _ _ _ _ _).off2 (h.off _ (by omega) (.inl (by omega))) _ _).below (Below.refl _ _).drew
  · exact (below_set2 (below_set5 h.below (by omega) _ _ _ _ _) (by omega) _ _).drew
theorem FdAt.grown {x : Fd} (h : FdAt W x) {g : Nat} {t : TypeId} {cs : Array Value} (hb : Blk W g t cs) (h1 : t ≠ 3) (h2 : t ≠ 9) (hg : W.grownBy W' (some g)) : FdAt W' x := by
  have r1 := h.rows.1.kept hg (.inr (own_box h.rows.1 hb h1).symm)
  have r2 := h.rows.2.kept hg (.inr (own_box h.rows.2 hb h2).symm)
  exact ⟨{ h.pn with targets := Cells.of_own r1, data := Cells.of_own r2 }, r1, r2⟩
theorem FdRow.grown {B fb c : Nat} {l : List Fd} (h : FdRow W B fb c l) {g : Nat} {t : TypeId} {cs : Array Value} (hb : Blk W g t cs) (h1 : t ≠ 3) (h2 : t ≠ 9) (h3 : t ≠ 94) (hg : W.grownBy W' (some g)) : FdRow W' B fb c l :=
  ⟨h.own.kept hg (.inr (own_box h.own hb h3).symm), fun x hx => (h.ok x hx).grown hb h1 h2 hg⟩
end
/-- The worker and the journal's place, laid in one statement. -/
def TwoMade (U : World) (E : Dk) (p1 q1 : Pl) (v u : Value) (W : World) : Prop :=
  ∃ gj gw, v = .pointer (some ⟨gj, 0, none⟩) ∧ u = .pointer (some ⟨gw, 0, none⟩) ∧ gw ≠ gj ∧ U.heap.size ≤ gw ∧ U.heap.size ≤ gj ∧ gw ≤ U.heap.size + 1 ∧ gj ≤ U.heap.size + 1 ∧
    Blk W gw 138 #[.string (bs E.data), .slice p1.a E.cache.length p1.c, .int .i64 E.fuse, .bool E.off, .slice q1.a E.bad.length q1.c, .int .i64 0] ∧ Blk W gj 72 #[.int .u64 1, .int .i64 0] ∧ Below U.heap.size U W
end Go.Proofs.YtplgmlcoeehnfaaGreat
