/- Arguments opened: a row of extents. -/
import Derived.Test.YtlapjkbefkmohaaSjRoot3
import Derived.Test.YtlapjkbefkmohaaSjSpan1
set_option linter.unusedVariables false
namespace Go.Proofs.Ytlapjkbefkmohaa
open Go.RowKit Go.WideShapes Go.ChangeShapes Go.Deep Go.Joins
section
variable {H : Type} {enc : TypeId × Value → H} {P : Program} {w : World} {base : Nat} {spare : Nat → Bool} {held : Bool}
theorem entCells_at (l : List (Int × Int)) (j : Nat) (u : Value) (h : (entCells l)[j]? = some u) : ∃ i, ∃ hi : i < l.length, (j = i * 2 ∧ u = .int .i64 l[i].1) ∨ (j = i * 2 + 1 ∧ u = .int .i64 l[i].2) := by
  have hj := (List.getElem?_eq_some_iff.1 h).1
  rw [entCells_length] at hj
  have hi : j / 2 < l.length := by omega
  refine ⟨j / 2, hi, ?_⟩
  obtain ⟨h1, h2⟩ := entCells_get l (j / 2) hi
  rcases Nat.mod_two_eq_zero_or_one j with h0 | h0
  · left
    have e : j = j / 2 * 2 := by omega
    rw [← e, h] at h1
    exact ⟨e, Option.some.inj h1⟩
  · right
    have e : j = j / 2 * 2 + 1 := by omega
    rw [← e, h] at h2
    exact ⟨e, Option.some.inj h2⟩
theorem open_xts {t e : TypeId} {fuel : Nat} {v : Value} {x : DataW H × List MemPlace} {fs : Array Field} (ht : P.underlying t = some (.slice e)) (he : P.underlying e = some (.struct fs))
    (hone : oneCellFields P fs = true) (hC : P.cellsOf e = 2) {f0 f1 : Field} (hfs : fs = #[f0, f1]) (h0 : P.underlying f0.type = some (.int .i64)) (h1 : P.underlying f1.type = some (.int .i64)) (h : DataW.trod enc P w base spare held fuel t [v] = some x) :
    ∃ (A : Option Addr) (c : Nat) (l : List (Int × Int)), v = .slice A l.length c ∧ Cells w A (entCells l) ∧ (A = none → c = 0) ∧ l.length ≤ c ∧ c ≤ maxLen ∧ ∀ x ∈ l, okInt x.1 ∧ okInt x.2 := by
  subst hfs
  rcases open_slice_fields ht he hone hC h with ⟨h0, _⟩ | ⟨a, len, cap, m, D, Pl, hcs, _, hl, hm, hmm, _, hi⟩
  · injection h0 with h0
    exact ⟨none, 0, [], h0, .inl rfl, fun _ => rfl, Nat.le_refl _, Nat.zero_le _, fun x hx => by cases hx⟩
  · injection hcs with hcs
    have hlm : len ≤ m := by rw [hmm]; split <;> omega
    obtain ⟨l, hl', hR⟩ := list_of (α := Int × Int) (n := len) (R := fun i x => w.cell? (a.add (i * 2)) = some (.int .i64 x.1) ∧ w.cell? (a.add (i * 2 + 1)) = some (.int .i64 x.2) ∧ okInt x.1 ∧ okInt x.2) fun i h => by
      obtain ⟨ys, n, _, _, _, hf⟩ := hi i (by omega)
      obtain ⟨v0, y0, c0, _, t0⟩ := hf 0 f0 rfl
      obtain ⟨v1, y1, c1, _, t1⟩ := hf 1 f1 rfl
      obtain ⟨k, hk, _, hw⟩ := DataW.trod_int h0 t0
      obtain ⟨s, hs, _, hw'⟩ := DataW.trod_int h1 t1
      injection hk with hk
      injection hs with hs
      subst hk; subst hs
      exact ⟨(k, s), c0, c1, okInt_of hw, okInt_of hw'⟩
    subst hl'
    refine ⟨some a, cap, l, hcs, cells_some fun j u hu => ?_, (by intro h; cases h), hl, hm, fun x hx => ?_⟩
    · obtain ⟨i, hi, ⟨rfl, rfl⟩ | ⟨rfl, rfl⟩⟩ := entCells_at l j u hu
      · exact (hR i hi).1
      · exact (hR i hi).2.1
    · obtain ⟨j, hj, rfl⟩ := List.getElem_of_mem hx
      exact (hR j hj).2.2
end
end Go.Proofs.Ytlapjkbefkmohaa
