/- JourCrash: the code that is left behind its first statements. -/
import Derived.Test.YtplgmlcoeehnfaaGreatJcLaw07c
import Derived.Test.YtplgmlcoeehnfaaGreatJcPlan6
import Derived.Test.YtplgmlcoeehnfaaGreatJcDev4
import Derived.Test.YtplgmlcoeehnfaaGreatJcRef01b
import Derived.Test.YtplgmlcoeehnfaaGreatJcPlan1
import Derived.Test.YtplgmlcoeehnfaaGreatJcJour15
set_option linter.unusedVariables false
namespace Go.Proofs.YtplgmlcoeehnfaaGreat.jourCrash
open Go.RowKit Go.Shelf Go.WideShapes Go.ChangeShapes Go.ChangeAt
open Go.ChangeMaps (open_string shut_string)
attribute [local go_sem] bs_mk bs_append bs_extract bs_size bs_toList bs_get
def dropSeq : Nat → Code → Code
  | 0, c => c
  | n + 1, .seq _ b => dropSeq n b
  | _, c => c
noncomputable def restCode : Code := dropSeq 6 (Tryz.f12.body.getD .skip)
theorem there_iff' {D : Dk} {k : Int} : D.there k = true ↔ 0 ≤ k ∧ k < D.sz := by simp [Dk.there]
theorem max_ok {n : Int} (h : okInt n) : -9223372036854775808 ≤ max n (-1) ∧ max n (-1) ≤ 9223372036854775807 := by unfold okInt at h; omega
theorem tx_two {W : World} {g : Nat} {L M : Pn} {p q p' q' : Pl} {s : Nat} (h : Blk W g 92 #[.int .u64 1, .slice p.a L.targets.length p.c, .slice q.a L.data.length q.c, .int .u64 s, .slice p'.a M.targets.length p'.c, .slice q'.a M.data.length q'.c]) (hL : IsPn W L p q) (hM : IsPn W M p' q') :
    ∀ i (hi : i < [(⟨0, ⟨1, L⟩, p, q⟩ : Fd), ⟨0, ⟨s, M⟩, p', q'⟩].length), TxAt W g i [(⟨0, ⟨1, L⟩, p, q⟩ : Fd), ⟨0, ⟨s, M⟩, p', q'⟩][i]
  | 0, _ => ⟨h.cell 0, h.cell 1, h.cell 2, hL⟩
  | 1, _ => ⟨h.cell 3, h.cell 4, h.cell 5, hM⟩
theorem two_small {L M : Pn} {p q p' q' : Pl} {s : Nat} (hL : L.Fit) (hM : M.Fit) : ∀ x ∈ [(⟨0, ⟨1, L⟩, p, q⟩ : Fd), ⟨0, ⟨s, M⟩, p', q'⟩], x.tx.plan.targets.length ≤ 1000000 ∧ x.tx.plan.data.length ≤ 1000000 := fun x hx => by
  have h1 := hL.1; have h2 := hL.2.1; have h3 := hM.1; have h4 := hM.2.1
  rcases List.mem_cons.1 hx with rfl | hx
  · exact ⟨by show L.targets.length ≤ _; omega, by show L.data.length ≤ _; omega⟩
  · rw [List.mem_singleton.1 hx]
    exact ⟨by show M.targets.length ≤ _; omega, by show M.data.length ≤ _; omega⟩
end Go.Proofs.YtplgmlcoeehnfaaGreat.jourCrash
