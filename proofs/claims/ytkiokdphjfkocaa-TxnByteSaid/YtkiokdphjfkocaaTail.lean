/- What is stored into a box of the call's own: the box, all else. Nothing of the program stands here. Regions that draw their order: boxes that are loaded, calls that make memory of their own, a result that is stored. Nothing of the program stands here. -/
import Derived.Test.YtkiokdphjfkocaaPlanLaw
import Derived.Deep.RegionHeld3
set_option linter.unusedVariables false
namespace Go.Proofs.Ytkiokdphjfkocaa
open Go.RowKit Go.Shelf

theorem blk_set2 {w : World} {g : Nat} {t : TypeId} {a b : Value} (h : Blk w g t #[a, b]) (u v : Value) : Blk ((w.setCell ⟨g, 0, none⟩ u).setCell ⟨g, 1, none⟩ v) g t #[u, v] := by
  have := (h.set 0 u).set 1 v
  simpa using this
theorem blk_off2 {w : World} {g k : Nat} {t : TypeId} {cs : Array Value} (h : Blk w k t cs) (hk : k ≠ g) (u v : Value) : Blk ((w.setCell ⟨g, 0, none⟩ u).setCell ⟨g, 1, none⟩ v) k t cs :=
  (h.other (a := ⟨g, 0, none⟩) hk u).other (a := ⟨g, 1, none⟩) hk v
theorem below_set2 {B : Nat} {w0 w : World} {g : Nat} (h : Below B w0 w) (hg : B ≤ g) (u v : Value) : Below B w0 ((w.setCell ⟨g, 0, none⟩ u).setCell ⟨g, 1, none⟩ v) :=
  (h.setCell (p := ⟨g, 0, none⟩) hg u).setCell (p := ⟨g, 1, none⟩) hg v
theorem size_set2 (w : World) (g : Nat) (u v : Value) : ((w.setCell ⟨g, 0, none⟩ u).setCell ⟨g, 1, none⟩ v).heap.size = w.heap.size := by simp
theorem IsPn.off2 {w : World} {L : Pn} {p q : Pl} (h : IsPn w L p q) {g : Nat} (ho : PnOff g L p q) (u v : Value) : IsPn ((w.setCell ⟨g, 0, none⟩ u).setCell ⟨g, 1, none⟩ v) L p q :=
  (h.off (a := ⟨g, 0, none⟩) ho u).off (a := ⟨g, 1, none⟩) ho v
theorem IsPn.off5 {w : World} {L : Pn} {p q : Pl} (h : IsPn w L p q) {g : Nat} (ho : PnOff g L p q) (v0 v1 v2 v3 v4 : Value) :
    IsPn (((((w.setCell ⟨g, 0, none⟩ v0).setCell ⟨g, 1, none⟩ v1).setCell ⟨g, 2, none⟩ v2).setCell ⟨g, 3, none⟩ v3).setCell ⟨g, 4, none⟩ v4) L p q :=
  ((((h.off (a := ⟨g, 0, none⟩) ho v0).off (a := ⟨g, 1, none⟩) ho v1).off (a := ⟨g, 2, none⟩) ho v2).off (a := ⟨g, 3, none⟩) ho v3).off (a := ⟨g, 4, none⟩) ho v4
theorem IsDk.off2 {w : World} {D : Dk} {p q : Pl} (h : IsDk w D p q) {g : Nat} (ho : DkOff g D p q) (u v : Value) : IsDk ((w.setCell ⟨g, 0, none⟩ u).setCell ⟨g, 1, none⟩ v) D p q :=
  (h.off (a := ⟨g, 0, none⟩) ho u).off (a := ⟨g, 1, none⟩) ho v
theorem IsDk.off5 {w : World} {D : Dk} {p q : Pl} (h : IsDk w D p q) {g : Nat} (ho : DkOff g D p q) (v0 v1 v2 v3 v4 : Value) :
    IsDk (((((w.setCell ⟨g, 0, none⟩ v0).setCell ⟨g, 1, none⟩ v1).setCell ⟨g, 2, none⟩ v2).setCell ⟨g, 3, none⟩ v3).setCell ⟨g, 4, none⟩ v4) D p q :=
  ((((h.off (a := ⟨g, 0, none⟩) ho v0).off (a := ⟨g, 1, none⟩) ho v1).off (a := ⟨g, 2, none⟩) ho v2).off (a := ⟨g, 3, none⟩) ho v3).off (a := ⟨g, 4, none⟩) ho v4
theorem own_apart {w : World} {b b' : Nat} {e e' : TypeId} {s s' n n' : Nat} {v v' : Value} {xs xs' : List Value} (h : w.ownsRow b e s v n xs) (h' : w.ownsRow b' e' s' v' n' xs') (hne : e ≠ e') : v.ownBlock = none ∨ v.ownBlock ≠ v'.ownBlock := by
  rcases h.2 with ⟨rfl, _⟩ | ⟨g, cap, cur, rfl, _, h3, _⟩
  · exact .inl rfl
  · right
    intro hh
    rcases h'.2 with ⟨rfl, _⟩ | ⟨g', cap', cur', rfl, _, h4, _⟩
    · cases hh
    · injection hh with hh
      have hh : g = g' := hh
      subst hh
      rw [h3] at h4
      injection h4 with h4
      injection h4 with _ h4
      exact hne h4
theorem own_box {w : World} {b : Nat} {e t : TypeId} {s n g : Nat} {v : Value} {xs : List Value} {cs : Array Value} (h : w.ownsRow b e s v n xs) (hb : Blk w g t cs) (hne : t ≠ e) : some g ≠ v.ownBlock := by
  intro hh
  rcases h.2 with ⟨rfl, _⟩ | ⟨g', cap, cur, rfl, _, h3, _⟩
  · cases hh
  · injection hh with hh
    have hh : g = g' := hh
    subst hh
    rw [show w.heap[g]? = _ from hb] at h3
    injection h3 with h3
    injection h3 with _ h3
    exact hne h3
theorem blk_second (w : World) (o : Obj) (t : TypeId) (cs : Array Value) : Blk ((w.alloc o).alloc (.cells cs t)) (w.heap.size + 1) t cs := by
  have := Blk.new (w.alloc o) t cs
  rwa [World.size_alloc] at this
end Go.Proofs.Ytkiokdphjfkocaa
set_option linter.unusedVariables false
namespace Go.Proofs.Ytkiokdphjfkocaa
open Go.RowKit Go.Shelf
theorem i64w {x : Int} (h : -9223372036854775808 ≤ x ∧ x ≤ 9223372036854775807) : IntKind.i64.wrap x = x := by simp [IntKind.wrap, IntKind.bits, IntKind.signed]; omega
theorem u64w {x : Int} (h : 0 ≤ x ∧ x ≤ 18446744073709551615) : IntKind.u64.wrap x = x := by simp [IntKind.wrap, IntKind.bits, IntKind.signed]; omega
/-- A device and a plan in their boxes, and nothing below is touched. -/
theorem held7 {w W W' : World} {a0 a1 a2 a3 a4 a5 a6 : Addr} {v0 v1 v2 v3 v4 v5 v6 : Value}
    (h : (W.cell? a0 = some v0 ∧ W.cell? a1 = some v1 ∧ W.cell? a2 = some v2 ∧ W.cell? a3 = some v3 ∧ W.cell? a4 = some v4) ∧ (W.cell? a5 = some v5 ∧ W.cell? a6 = some v6) ∧ Below w.heap.size w W) (hb : Below W.heap.size W W') :
    (W'.cell? a0 = some v0 ∧ W'.cell? a1 = some v1 ∧ W'.cell? a2 = some v2 ∧ W'.cell? a3 = some v3 ∧ W'.cell? a4 = some v4) ∧ (W'.cell? a5 = some v5 ∧ W'.cell? a6 = some v6) ∧ Below w.heap.size w W' := by
  obtain ⟨⟨h0, h1, h2, h3, h4⟩, ⟨h5, h6⟩, hB⟩ := h
  exact ⟨⟨cell_below hb h0, cell_below hb h1, cell_below hb h2, cell_below hb h3, cell_below hb h4⟩, ⟨cell_below hb h5, cell_below hb h6⟩, bt hB hb⟩
theorem held7s {w W : World} {b0 b1 o0 o1 o2 o3 o4 o5 o6 : Nat} {v0 v1 v2 v3 v4 v5 v6 : Value}
    (h : (W.cell? ⟨b0, o0, none⟩ = some v0 ∧ W.cell? ⟨b0, o1, none⟩ = some v1 ∧ W.cell? ⟨b0, o2, none⟩ = some v2 ∧ W.cell? ⟨b0, o3, none⟩ = some v3 ∧ W.cell? ⟨b0, o4, none⟩ = some v4) ∧ (W.cell? ⟨b1, o5, none⟩ = some v5 ∧ W.cell? ⟨b1, o6, none⟩ = some v6) ∧ Below w.heap.size w W)
    {g : Nat} (g0 : b0 ≠ g) (g1 : b1 ≠ g) (hg : w.heap.size ≤ g) (u v : Value) :
    (((W.setCell ⟨g, 0, none⟩ u).setCell ⟨g, 1, none⟩ v).cell? ⟨b0, o0, none⟩ = some v0 ∧ ((W.setCell ⟨g, 0, none⟩ u).setCell ⟨g, 1, none⟩ v).cell? ⟨b0, o1, none⟩ = some v1 ∧ ((W.setCell ⟨g, 0, none⟩ u).setCell ⟨g, 1, none⟩ v).cell? ⟨b0, o2, none⟩ = some v2 ∧ ((W.setCell ⟨g, 0, none⟩ u).setCell ⟨g, 1, none⟩ v).cell? ⟨b0, o3, none⟩ = some v3 ∧ ((W.setCell ⟨g, 0, none⟩ u).setCell ⟨g, 1, none⟩ v).cell? ⟨b0, o4, none⟩ = some v4) ∧
    (((W.setCell ⟨g, 0, none⟩ u).setCell ⟨g, 1, none⟩ v).cell? ⟨b1, o5, none⟩ = some v5 ∧ ((W.setCell ⟨g, 0, none⟩ u).setCell ⟨g, 1, none⟩ v).cell? ⟨b1, o6, none⟩ = some v6) ∧ Below w.heap.size w ((W.setCell ⟨g, 0, none⟩ u).setCell ⟨g, 1, none⟩ v) := by
  obtain ⟨⟨h0, h1, h2, h3, h4⟩, ⟨h5, h6⟩, hB⟩ := h
  have k : ∀ (b o : Nat) (x : Value), b ≠ g → W.cell? ⟨b, o, none⟩ = some x → ((W.setCell ⟨g, 0, none⟩ u).setCell ⟨g, 1, none⟩ v).cell? ⟨b, o, none⟩ = some x := fun b o x hb h => by
    rw [World.cell?_setCell_other _ _ _ _ (by intro e; injection e with e; exact hb e.symm), World.cell?_setCell_other _ _ _ _ (by intro e; injection e with e; exact hb e.symm)]; exact h
  exact ⟨⟨k _ _ _ g0 h0, k _ _ _ g0 h1, k _ _ _ g0 h2, k _ _ _ g0 h3, k _ _ _ g0 h4⟩, ⟨k _ _ _ g1 h5, k _ _ _ g1 h6⟩, below_set2 hB hg u v⟩
end Go.Proofs.Ytkiokdphjfkocaa
