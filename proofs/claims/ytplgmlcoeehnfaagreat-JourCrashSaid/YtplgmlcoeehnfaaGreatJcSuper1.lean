/- Package super, function by function: its numbers; a first sector that is none. -/
import Derived.Test.YtplgmlcoeehnfaaGreatJcBase
import Derived.Test.YtplgmlcoeehnfaaGreatShelf
import Derived.Laws.EntriesVeiled
set_option linter.unusedVariables false
namespace Go.Proofs.YtplgmlcoeehnfaaGreat
open Go.RowKit Go.Shelf
attribute [local go_sem] bs_mk bs_append bs_extract bs_size bs_toList bs_get

theorem s_journal (w : World) : Calls Tryz.prog 131 #[] w fun e w' => e = .returned (.tuple #[.int .i64 6, .int .i64 81]) ∧ Below w.heap.size w w' := by
  go_enter Tryz.func131, Tryz.ntmps131
  go_wp2_with fail
  go_ret2
  exact ⟨rfl, Below.refl _ _⟩
theorem r4_journal (w : World) : Calls Tryz.prog 150 #[] w fun e w' => e = .returned (.tuple #[.int .i64 6, .int .i64 81]) ∧ Below w.heap.size w w' := by
  go_enter Tryz.func150, Tryz.ntmps150
  go_wp2_with fail
  go_ret2
  exact ⟨rfl, Below.refl _ _⟩
end Go.Proofs.YtplgmlcoeehnfaaGreat
