/- A device, or a plan, that stands in memory abides what an iterator's records do. Nothing of the program stands here. -/
import Derived.Test.YtkiokdphjfkocaaPlanLaw
set_option linter.unusedVariables false
namespace Go.Proofs.Ytkiokdphjfkocaa
open Go.RowKit Go.Shelf
theorem cell_kept {X Y : World} {row : Option Nat} {a : Addr} {v : Value} (h : X.cell? a = some v) (hg : X.grownBy Y row) (hr : ∀ r, row = some r → ∃ o : Obj, X.heap[r]? = some o ∧ o.isCells = false) : Y.cell? a = some v := by
  have hb : Y.heap[a.block]? = X.heap[a.block]? := hg.block a.block (lt_of_cell h) (fun e => by
    obtain ⟨o, ho, hc⟩ := hr a.block e.symm
    simp only [World.cell?, ho] at h
    cases o <;> simp_all [Obj.isCells])
  simp only [World.cell?, hb] at h ⊢
  exact h
theorem Cells.kept {X Y : World} {row : Option Nat} {A : Option Addr} {cs : List Value} (h : Cells X A cs) (hg : X.grownBy Y row) (hr : ∀ r, row = some r → ∃ o : Obj, X.heap[r]? = some o ∧ o.isCells = false) : Cells Y A cs := by
  rcases h with h | ⟨b, off, e, hc⟩
  · exact .inl h
  · exact .inr ⟨b, off, e, fun j u hu => cell_kept (hc j u hu) hg hr⟩
theorem IsDk.kept {X Y : World} {row : Option Nat} {D : Dk} {p q : Pl} (h : IsDk X D p q) (hg : X.grownBy Y row) (hr : ∀ r, row = some r → ∃ o : Obj, X.heap[r]? = some o ∧ o.isCells = false) : IsDk Y D p q :=
  { h with cache := h.cache.kept hg hr, bad := h.bad.kept hg hr }
theorem IsPn.kept {X Y : World} {row : Option Nat} {L : Pn} {p q : Pl} (h : IsPn X L p q) (hg : X.grownBy Y row) (hr : ∀ r, row = some r → ∃ o : Obj, X.heap[r]? = some o ∧ o.isCells = false) : IsPn Y L p q :=
  { h with targets := h.targets.kept hg hr, data := h.data.kept hg hr }
end Go.Proofs.Ytkiokdphjfkocaa
