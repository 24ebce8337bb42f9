/- Regions that draw their order: boxes that are loaded, calls that make memory of their own, a result that is stored. Nothing of the program stands here. -/
import Derived.Test.YtlajbmmhgflabaaTail
import Derived.Deep.RegionHeld3
set_option linter.unusedVariables false
namespace Go.Proofs.Ytlajbmmhgflabaa
open Go.RowKit Go.Shelf
theorem i64w {x : Int} (h : -9223372036854775808 ≤ x ∧ x ≤ 9223372036854775807) : IntKind.i64.wrap x = x := by simp [IntKind.wrap, IntKind.bits, IntKind.signed]; omega
theorem u64w {x : Int} (h : 0 ≤ x ∧ x ≤ 18446744073709551615) : IntKind.u64.wrap x = x := by simp [IntKind.wrap, IntKind.bits, IntKind.signed]; omega
/-- A device and a plan in their boxes, and nothing below is touched. -/
theorem held7 {w W W' : World} {a0 a1 a2 a3 a4 a5 a6 : Addr} {v0 v1 v2 v3 v4 v5 v6 : Value}
    (h : (W.cell? a0 = some v0 ∧ W.cell? a1 = some v1 ∧ W.cell? a2 = some v2 ∧ W.cell? a3 = some v3 ∧ W.cell? a4 = some v4) ∧ (W.cell? a5 = some v5 ∧ W.cell? a6 = some v6) ∧ Below w.heap.size w W) (hb : Below W.heap.size W W') :
    (W'.cell? a0 = some v0 ∧ W'.cell? a1 = some v1 ∧ W'.cell? a2 = some v2 ∧ W'.cell? a3 = some v3 ∧ W'.cell? a4 = some v4) ∧ (W'.cell? a5 = some v5 ∧ W'.cell? a6 = some v6) ∧ Below w.heap.size w W' := by
  obtain ⟨⟨h0, h1, h2, h3, h4⟩, ⟨h5, h6⟩, hB⟩ := h
  exact ⟨⟨cell_below hb h0, cell_below hb h1, cell_below hb h2, cell_below hb h3, cell_below hb h4⟩, ⟨cell_below hb h5, cell_below hb h6⟩, bt hB hb⟩
theorem held7s {w W : World} {b0 b1 o0 o1 o2 o3 o4 o5 o6 : Nat} {v0 v1 v2 v3 v4 v5 v6 : Value}
    (h : (W.cell? ⟨b0, o0, none⟩ = some v0 ∧ W.cell? ⟨b0, o1, none⟩ = some v1 ∧ W.cell? ⟨b0, o2, none⟩ = some v2 ∧ W.cell? ⟨b0, o3, none⟩ = some v3 ∧ W.cell? ⟨b0, o4, none⟩ = some v4) ∧ (W.cell? ⟨b1, o5, none⟩ = some v5 ∧ W.cell? ⟨b1, o6, none⟩ = some v6) ∧ Below w.heap.size w W)
    {g : Nat} (g0 : b0 ≠ g) (g1 : b1 ≠ g) (hg : w.heap.size ≤ g) (u v : Value) :
    (((W.setCell ⟨g, 0, none⟩ u).setCell ⟨g, 1, none⟩ v).cell? ⟨b0, o0, none⟩ = some v0 ∧ ((W.setCell ⟨g, 0, none⟩ u).setCell ⟨g, 1, none⟩ v).cell? ⟨b0, o1, none⟩ = some v1 ∧ ((W.setCell ⟨g, 0, none⟩ u).setCell ⟨g, 1, none⟩ v).cell? ⟨b0, o2, none⟩ = some v2 ∧ ((W.setCell ⟨g, 0, none⟩ u).setCell ⟨g, 1, none⟩ v).cell? ⟨b0, o3, none⟩ = some v3 ∧ ((W.setCell ⟨g, 0, none⟩ u).setCell ⟨g, 1, none⟩ v).cell? ⟨b0, o4, none⟩ = some v4) ∧
    (((W.setCell ⟨g, 0, none⟩ u).setCell ⟨g, 1, none⟩ v).cell? ⟨b1, o5, none⟩ = some v5 ∧ ((W.setCell ⟨g, 0, none⟩ u).setCell ⟨g, 1, none⟩ v).cell? ⟨b1, o6, none⟩ = some v6) ∧ Below w.heap.size w ((W.setCell ⟨g, 0, none⟩ u).setCell ⟨g, 1, none⟩ v) := by
  obtain ⟨⟨h0, h1, h2, h3, h4⟩, ⟨h5, h6⟩, hB⟩ := h
  have k : ∀ (b o : Nat) (x : Value), b ≠ g → W.cell? ⟨b, o, none⟩ = some x → ((W.setCell ⟨g, 0, none⟩ u).setCell ⟨g, 1, none⟩ v).cell? ⟨b, o, none⟩ = some x := fun b o x hb h => by
    rw [World.cell?_setCell_other _ _ _ _ (by intro e; injection e with e; exact hb e.symm), World.cell?_setCell_other _ _ _ _ (by intro e; injection e with e; exact hb e.symm)]; exact h
  exact ⟨⟨k _ _ _ g0 h0, k _ _ _ g0 h1, k _ _ _ g0 h2, k _ _ _ g0 h3, k _ _ _ g0 h4⟩, ⟨k _ _ _ g1 h5, k _ _ _ g1 h6⟩, below_set2 hB hg u v⟩
end Go.Proofs.Ytlajbmmhgflabaa
