/- Package cofferdamlaw01: what its statements share. -/
import Derived.Test.YtjhnaeomaigimaaGreatDoorDev4
import Derived.Test.YtjhnaeomaigimaaGreatDoorRef01b
set_option linter.unusedVariables false
namespace Go.Proofs.YtjhnaeomaigimaaGreatDoor
open Go.RowKit Go.Shelf
attribute [local go_sem] bs_mk bs_append bs_extract bs_size bs_toList bs_get

theorem r1_fit (D : Dk) (p q : Pl) (w : World) (hD : IsDk w D p q) (hc : D.cache.length ≤ 4398046511104) :
    Calls Tryz.prog 41 #[dval D p q] w fun e w' => e = .returned (.bool D.fit) ∧ Below w.heap.size w w' := by
  by_cases h : D.sz < 1 ∨ 1024 < D.sz ∨ D.data.length % 64 ≠ 0 ∨ 4096 < D.cache.length
  · exact r1_fit_head D p q hD.data hc h w
  · exact r1_fit_rest D p q w hD (by omega) (by omega) (by omega) (by omega)
end Go.Proofs.YtjhnaeomaigimaaGreatDoor
