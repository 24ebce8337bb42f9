/- What is counted oftener and less often again. Nothing of the program stands here. -/
import Derived.Test.YtlajbmmhgflabaaRefcLaw2
namespace Go.Proofs.Ytlajbmmhgflabaa
namespace Pn
variable {D : Dk} {L : Pn}
theorem cnt_undo {X : Pn} {k b : Int} (hD : D.fit = true) (hL : L.Fit) (h : cntAdd D L k b = (X, 0)) :
    X.Fit ∧ ∃ Y, cntAdd D X k (-b) = (Y, 0) ∧ Y.Fit ∧ ∀ o, (cntGet D X o).2 = (cntGet D L o).2 ∧ cntGet D Y o = cntGet D L o ∧ (o ≠ k → (cntGet D X o).1 = (cntGet D L o).1) ∧ (o = k → (cntGet D X o).1 = (cntGet D L o).1 + b) := by
  obtain ⟨h0, h1, h2, h3, h4, hX, h5, h6, h7⟩ := cntAdd_ok hD hL h
  have hr := cntAdd_there hD hX (k := k) (b := -b) (by rw [h5]) h7 (by rw [h5]; have := cntGet_le D L k; show -((cntGet D L k).1 + b) ≤ -b; omega) (by rw [h5]; have := cntGet_le D L k; show -b ≤ 65535 - ((cntGet D L k).1 + b); omega)
  obtain ⟨Y, hY⟩ : ∃ Y, cntAdd D X k (-b) = (Y, 0) := ⟨_, Prod.ext rfl hr⟩
  obtain ⟨_, _, _, _, _, hYf, k5, k6, _⟩ := cntAdd_ok hD hX hY
  refine ⟨hX, Y, hY, hYf, fun o => ?_⟩
  by_cases ho : o = k
  · subst ho
    rw [k5, h5, h2]
    refine ⟨rfl, ?_, fun h => absurd rfl h, fun _ => rfl⟩
    apply Prod.ext
    · show (cntGet D L o).1 + b + -b = _; omega
    · exact h2.symm
  · rw [k6 o ho, h6 o ho]
    exact ⟨rfl, rfl, fun _ => rfl, fun h => absurd h ho⟩
end Pn
end Go.Proofs.Ytlajbmmhgflabaa
