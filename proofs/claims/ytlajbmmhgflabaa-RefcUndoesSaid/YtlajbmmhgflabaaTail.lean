/- What is stored into a box of the call's own: the box, all else. Nothing of the program stands here. -/
import Derived.Test.YtlajbmmhgflabaaPlanLaw
set_option linter.unusedVariables false
namespace Go.Proofs.Ytlajbmmhgflabaa
open Go.RowKit Go.Shelf

theorem blk_set2 {w : World} {g : Nat} {t : TypeId} {a b : Value} (h : Blk w g t #[a, b]) (u v : Value) : Blk ((w.setCell ⟨g, 0, none⟩ u).setCell ⟨g, 1, none⟩ v) g t #[u, v] := by
  have := (h.set 0 u).set 1 v
  simpa using this
theorem blk_off2 {w : World} {g k : Nat} {t : TypeId} {cs : Array Value} (h : Blk w k t cs) (hk : k ≠ g) (u v : Value) : Blk ((w.setCell ⟨g, 0, none⟩ u).setCell ⟨g, 1, none⟩ v) k t cs :=
  (h.other (a := ⟨g, 0, none⟩) hk u).other (a := ⟨g, 1, none⟩) hk v
theorem below_set2 {B : Nat} {w0 w : World} {g : Nat} (h : Below B w0 w) (hg : B ≤ g) (u v : Value) : Below B w0 ((w.setCell ⟨g, 0, none⟩ u).setCell ⟨g, 1, none⟩ v) :=
  (h.setCell (p := ⟨g, 0, none⟩) hg u).setCell (p := ⟨g, 1, none⟩) hg v
theorem size_set2 (w : World) (g : Nat) (u v : Value) : ((w.setCell ⟨g, 0, none⟩ u).setCell ⟨g, 1, none⟩ v).heap.size = w.heap.size := by simp
theorem IsPn.off2 {w : World} {L : Pn} {p q : Pl} (h : IsPn w L p q) {g : Nat} (ho : PnOff g L p q) (u v : Value) : IsPn ((w.setCell ⟨g, 0, none⟩ u).setCell ⟨g, 1, none⟩ v) L p q :=
  (h.off (a := ⟨g, 0, none⟩) ho u).off (a := ⟨g, 1, none⟩) ho v
theorem IsPn.off5 {w : World} {L : Pn} {p q : Pl} (h : IsPn w L p q) {g : Nat} (ho : PnOff g L p q) (v0 v1 v2 v3 v4 : Value) :
    IsPn (((((w.setCell ⟨g, 0, none⟩ v0).setCell ⟨g, 1, none⟩ v1).setCell ⟨g, 2, none⟩ v2).setCell ⟨g, 3, none⟩ v3).setCell ⟨g, 4, none⟩ v4) L p q :=
  ((((h.off (a := ⟨g, 0, none⟩) ho v0).off (a := ⟨g, 1, none⟩) ho v1).off (a := ⟨g, 2, none⟩) ho v2).off (a := ⟨g, 3, none⟩) ho v3).off (a := ⟨g, 4, none⟩) ho v4
theorem IsDk.off2 {w : World} {D : Dk} {p q : Pl} (h : IsDk w D p q) {g : Nat} (ho : DkOff g D p q) (u v : Value) : IsDk ((w.setCell ⟨g, 0, none⟩ u).setCell ⟨g, 1, none⟩ v) D p q :=
  (h.off (a := ⟨g, 0, none⟩) ho u).off (a := ⟨g, 1, none⟩) ho v
theorem IsDk.off5 {w : World} {D : Dk} {p q : Pl} (h : IsDk w D p q) {g : Nat} (ho : DkOff g D p q) (v0 v1 v2 v3 v4 : Value) :
    IsDk (((((w.setCell ⟨g, 0, none⟩ v0).setCell ⟨g, 1, none⟩ v1).setCell ⟨g, 2, none⟩ v2).setCell ⟨g, 3, none⟩ v3).setCell ⟨g, 4, none⟩ v4) D p q :=
  ((((h.off (a := ⟨g, 0, none⟩) ho v0).off (a := ⟨g, 1, none⟩) ho v1).off (a := ⟨g, 2, none⟩) ho v2).off (a := ⟨g, 3, none⟩) ho v3).off (a := ⟨g, 4, none⟩) ho v4
theorem own_apart {w : World} {b b' : Nat} {e e' : TypeId} {s s' n n' : Nat} {v v' : Value} {xs xs' : List Value} (h : w.ownsRow b e s v n xs) (h' : w.ownsRow b' e' s' v' n' xs') (hne : e ≠ e') : v.ownBlock = none ∨ v.ownBlock ≠ v'.ownBlock := by
  rcases h.2 with ⟨rfl, _⟩ | ⟨g, cap, cur, rfl, _, h3, _⟩
  · exact .inl rfl
  · right
    intro hh
    rcases h'.2 with ⟨rfl, _⟩ | ⟨g', cap', cur', rfl, _, h4, _⟩
    · cases hh
    · injection hh with hh
      have hh : g = g' := hh
      subst hh
      rw [h3] at h4
      injection h4 with h4
      injection h4 with _ h4
      exact hne h4
theorem own_box {w : World} {b : Nat} {e t : TypeId} {s n g : Nat} {v : Value} {xs : List Value} {cs : Array Value} (h : w.ownsRow b e s v n xs) (hb : Blk w g t cs) (hne : t ≠ e) : some g ≠ v.ownBlock := by
  intro hh
  rcases h.2 with ⟨rfl, _⟩ | ⟨g', cap, cur, rfl, _, h3, _⟩
  · cases hh
  · injection hh with hh
    have hh : g = g' := hh
    subst hh
    rw [show w.heap[g]? = _ from hb] at h3
    injection h3 with h3
    injection h3 with _ h3
    exact hne h3
theorem blk_second (w : World) (o : Obj) (t : TypeId) (cs : Array Value) : Blk ((w.alloc o).alloc (.cells cs t)) (w.heap.size + 1) t cs := by
  have := Blk.new (w.alloc o) t cs
  rwa [World.size_alloc] at this
end Go.Proofs.Ytlajbmmhgflabaa
