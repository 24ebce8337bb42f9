/- Package cofferdamref07: a plan that is made to last. -/
import Derived.Test.YtplgmlcoeehnfaaGreatJcJour3
import Derived.Test.YtplgmlcoeehnfaaGreatJcTxn7
import Derived.Test.YtplgmlcoeehnfaaGreatJcLay2
import Derived.Test.YtplgmlcoeehnfaaGreatJcRef01b
import Derived.Deep.RegionHeld3
import Derived.BigQuiet
set_option linter.unusedVariables false
namespace Go.Proofs.YtplgmlcoeehnfaaGreat
open Go.RowKit Go.Shelf
attribute [local go_sem] bs_mk bs_append bs_extract bs_size bs_toList bs_get
theorem r7_first (w : World) : Calls Tryz.prog 84 #[] w fun e w' => e = .returned (.int .i64 6) ∧ Below w.heap.size w w' := by
  go_enter Tryz.func84, Tryz.ntmps84
  go_wp2_with fail
  go_at_call 150
  refine (r4_journal _).mono ?_
  rintro e w1 ⟨rfl, hb⟩
  go_wp2_with fail
  go_ret
  exact ⟨rfl, hb⟩
theorem Cells.off5 {w : World} {A : Option Addr} {cs : List Value} (h : Cells w A cs) {g : Nat} (ho : Off g A cs.length) (v0 v1 v2 v3 v4 : Value) :
    Cells (((((w.setCell ⟨g, 0, none⟩ v0).setCell ⟨g, 1, none⟩ v1).setCell ⟨g, 2, none⟩ v2).setCell ⟨g, 3, none⟩ v3).setCell ⟨g, 4, none⟩ v4) A cs :=
  ((((h.off (p := ⟨g, 0, none⟩) ho List.length_eq_zero_iff.1 v0).off (p := ⟨g, 1, none⟩) ho List.length_eq_zero_iff.1 v1).off (p := ⟨g, 2, none⟩) ho List.length_eq_zero_iff.1 v2).off (p := ⟨g, 3, none⟩) ho List.length_eq_zero_iff.1 v3).off (p := ⟨g, 4, none⟩) ho List.length_eq_zero_iff.1 v4
end Go.Proofs.YtplgmlcoeehnfaaGreat
