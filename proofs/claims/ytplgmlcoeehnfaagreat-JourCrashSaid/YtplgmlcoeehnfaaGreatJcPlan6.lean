/- Package cofferdamlaw05: its guard; a plan by value opened. -/
import Derived.Test.YtplgmlcoeehnfaaGreatJcPlan4
import Derived.Test.YtplgmlcoeehnfaaGreatJcLaw01a
import Derived.Test.YtplgmlcoeehnfaaGreatJcOpens
set_option linter.unusedVariables false
namespace Go.Proofs.YtplgmlcoeehnfaaGreat
open Go.RowKit Go.Shelf Go.WideShapes Go.ChangeShapes Go.Deep Go.Joins
attribute [local go_sem] bs_mk bs_append bs_extract bs_size bs_toList bs_get

section
variable {H : Type} {enc : TypeId × Value → H} {P : Program} {w : World} {base : Nat} {spare : Nat → Bool} {held : Bool}
theorem open_plan {t ei es : TypeId} {f0 f1 : Field} {v : Value} {d : DataW H} {pp : List MemPlace} {r : Reach} {b0 : Nat}
    (hs : P.underlying t = some (.struct #[f0, f1])) (hone : oneCellFields P #[f0, f1] = true) (hC : P.cellsOf t = 2)
    (u0 : P.underlying f0.type = some (.slice ei)) (u1 : P.underlying f1.type = some (.slice es)) (k0 : P.underlying ei = some (.int .i64)) (c0 : P.cellsOf ei = 1) (k1 : P.underlying es = some .string) (c1 : P.cellsOf es = 1)
    (hv : Value.okWide P w r b0 t v) (h : DataW.Trod enc P w base spare held t v d pp) : ∃ L p q, v = pval L p q ∧ IsPn w L p q := by
  obtain ⟨v0, v1, y0, y1, n, rfl, _, _, t0, t1⟩ := open_agg2 hs hone hC hv h
  obtain ⟨A, c, l, rfl, hc, hn, hl, hm, hx⟩ := open_ints u0 k0 c0 t0
  obtain ⟨A', c', l', rfl, hc', hn', hl', hm', hx'⟩ := open_strs u1 k1 c1 t1
  exact ⟨⟨l, l'⟩, ⟨A, c⟩, ⟨A', c'⟩, rfl, hc, hc', hn, hn', hl, hl', hm, hm', hx, hx'⟩
end
end Go.Proofs.YtplgmlcoeehnfaaGreat
