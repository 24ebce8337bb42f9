/- Arguments opened, with the form's own reach: what a slice may weigh. -/
import Derived.Test.YtlajbmmhgflabaaOpen
import Derived.SizedLaws
set_option linter.unusedVariables false
namespace Go.Proofs.Ytlajbmmhgflabaa
open Go.RowKit Go.WideShapes Go.ChangeShapes Go.Deep Go.Joins

section
variable {H : Type} {enc : TypeId × Value → H} {P : Program} {w : World} {base : Nat} {spare : Nat → Bool} {held : Bool}
theorem slice_weight {t e : TypeId} {fuel : Nat} {A : Option Addr} {n c : Nat} {x : DataW H × List MemPlace} (ht : P.underlying t = some (.slice e)) (h : DataW.trod enc P w base spare held fuel t [.slice A n c] = some x)
    (hw : (x.1.weights P t).all (· ≤ reachBytes) = true) : n * P.bytesOf e ≤ reachBytes := by
  rcases open_slice ht h with ⟨h0, _⟩ | ⟨a, len, cap, m, k, D, Pl, hcs, _, hl, hm, hmm, hx, _⟩
  · simp only [List.cons.injEq, Value.slice.injEq, and_true] at h0
    rw [h0.2.1]; simp
  · simp only [List.cons.injEq, Value.slice.injEq, and_true] at hcs
    rw [hx] at hw
    simp only [DataW.weights, ht, List.all_cons, Bool.and_eq_true, decide_eq_true_eq, List.length_map, List.length_range] at hw
    rw [hcs.2.1]
    exact Nat.le_trans (Nat.mul_le_mul_right _ (Nat.le_add_right _ _)) hw.1
theorem open_dk_sized {t tp ti : TypeId} {f0 f1 f2 f3 f4 g0 g1 : Field} {v : Value} {d : DataW H} {pp : List MemPlace} {r : Reach} {b0 : Nat}
    (hs : P.underlying t = some (.struct #[f0, f1, f2, f3, f4])) (hone : oneCellFields P #[f0, f1, f2, f3, f4] = true) (hC : P.cellsOf t = 5)
    (u0 : P.underlying f0.type = some .string) (u1 : P.underlying f1.type = some (.slice tp)) (u2 : P.underlying f2.type = some (.int .i64)) (u3 : P.underlying f3.type = some .bool) (u4 : P.underlying f4.type = some (.slice ti))
    (k1 : P.underlying tp = some (.struct #[g0, g1])) (hone' : oneCellFields P #[g0, g1] = true) (hC' : P.cellsOf tp = 2) (g0i : P.underlying g0.type = some (.int .i64)) (g1s : P.underlying g1.type = some .string)
    (k4 : P.underlying ti = some (.int .i64)) (hC4 : P.cellsOf ti = 1)
    (hv : Value.okWide P w r b0 t v) (h : DataW.Trod enc P w base spare held t v d pp) (hw : (d.weights P t).all (· ≤ reachBytes) = true) :
    ∃ D p q, v = dval D p q ∧ IsDk0 w D p q ∧ D.cache.length * P.bytesOf tp ≤ reachBytes ∧ D.bad.length * P.bytesOf ti ≤ reachBytes := by
  obtain ⟨v0, v1, v2, v3, v4, y0, y1, y2, y3, y4, n, rfl, hd, _, t0, t1, t2, t3, t4⟩ := open_agg5 hs hone hC hv h
  obtain ⟨s, hs0, _, hw0⟩ := DataW.trod_string u0 t0
  obtain ⟨A, c, l, rfl, hc, hn, hl, hm, hx⟩ := open_puts (fs := #[g0, g1]) u1 k1 hone' hC' rfl g0i g1s t1
  obtain ⟨k, hk, _, hw2⟩ := DataW.trod_int u2 t2
  obtain ⟨b, hb, _⟩ := DataW.trod_bool u3 t3
  obtain ⟨A', c', l', rfl, hc', hn', hl', hm', hx'⟩ := open_ints u4 k4 hC4 t4
  injection hs0 with hs0
  injection hk with hk
  injection hb with hb
  subst hs0; subst hk; subst hb
  obtain ⟨sl, rfl⟩ := bs_of s
  rw [bs_size] at hw0
  rw [hd] at hw
  simp only [DataW.weights, hs, List.map_cons, List.map_nil, DataW.weightsEach, List.all_append, Bool.and_eq_true] at hw
  refine ⟨⟨sl, l, k, b, l'⟩, ⟨A, c⟩, ⟨A', c'⟩, rfl, ⟨hc, hc', hn, hn', hl, hl', hm, hm', hw0, okInt_of hw2, fun x h => (hx x h).2, fun x h => (hx x h).1, hx'⟩, slice_weight u1 t1 hw.2.1, slice_weight u4 t4 hw.2.2.2.2.1⟩
theorem weights_each {ts : List TypeId} {ds : List (DataW H)} {j : Nat} {t : TypeId} {d : DataW H} (h : (DataW.weightsEach P ts ds).all (· ≤ reachBytes) = true) (ht : ts[j]? = some t) (hd : ds[j]? = some d) : (d.weights P t).all (· ≤ reachBytes) = true :=
  List.all_eq_true.2 fun n hn => List.all_eq_true.1 h n (DataW.weights_mem_each ht hd n hn)
end
end Go.Proofs.Ytlajbmmhgflabaa
