/- Arguments opened: two numbers by value. Nothing of the program stands here. -/
import Derived.Test.YtlajbmmhgflabaaOpen
set_option linter.unusedVariables false
namespace Go.Proofs.Ytlajbmmhgflabaa
open Go.RowKit Go.Shelf Go.WideShapes Go.ChangeShapes Go.Deep Go.Joins
section
variable {H : Type} {enc : TypeId × Value → H} {P : Program} {w : World} {base : Nat} {spare : Nat → Bool} {held : Bool}
theorem open_pair {t : TypeId} {f0 f1 : Field} {v : Value} {d : DataW H} {pp : List MemPlace} {r : Reach} {b0 : Nat}
    (hs : P.underlying t = some (.struct #[f0, f1])) (hone : oneCellFields P #[f0, f1] = true) (hC : P.cellsOf t = 2)
    (u0 : P.underlying f0.type = some (.int .i64)) (u1 : P.underlying f1.type = some (.int .i64))
    (hv : Value.okWide P w r b0 t v) (h : DataW.Trod enc P w base spare held t v d pp) : ∃ a b, v = .agg #[.int .i64 a, .int .i64 b] ∧ okInt a ∧ okInt b := by
  obtain ⟨v0, v1, y0, y1, n, rfl, _, _, t0, t1⟩ := open_agg2 hs hone hC hv h
  obtain ⟨a, ha, _, hwa⟩ := DataW.trod_int u0 t0
  obtain ⟨b, hb, _, hwb⟩ := DataW.trod_int u1 t1
  injection ha with ha
  injection hb with hb
  subst ha; subst hb
  exact ⟨_, _, rfl, okInt_of hwa, okInt_of hwb⟩
end
end Go.Proofs.Ytlajbmmhgflabaa
