/- Package plan: the sectors of a plan, one by one. -/
import Derived.Test.YtplgmlcoeehnfaaGreatPuPlain1
import Derived.Test.YtplgmlcoeehnfaaGreatPuRegs
import Derived.Test.YtplgmlcoeehnfaaGreatPuRanges
import Derived.Test.YtplgmlcoeehnfaaGreatProg
import Derived.WalkMore
set_option linter.unusedVariables false
namespace Go.Proofs.YtplgmlcoeehnfaaGreat
open Go.RowKit Go.Shelf
attribute [local go_sem] bs_mk bs_append bs_extract bs_size bs_toList bs_get Oper.semAt_some
def Pn.secs (L : Pn) : List (Int × List UInt8) := L.targets.zip L.data
theorem secs_at (L : Pn) (m : Nat) (hm : m < L.secs.length) : ∃ (h1 : m < L.targets.length) (h2 : m < L.data.length), L.secs[m] = (L.targets[m], L.data[m]) := by
  have h := hm
  rw [Pn.secs, List.length_zip] at h
  exact ⟨by omega, by omega, List.getElem_zip⟩
theorem secs_length (L : Pn) (h : L.targets.length = L.data.length) : L.secs.length = L.targets.length := by
  rw [Pn.secs, List.length_zip]; omega
end Go.Proofs.YtplgmlcoeehnfaaGreat
