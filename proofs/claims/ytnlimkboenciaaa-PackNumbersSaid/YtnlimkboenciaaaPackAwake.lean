/- The statements of layer 3: 'awake', chapter 3's examples. -/
import Derived.Test.YtnlimkboenciaaaPackWalks
set_option linter.unusedVariables false
namespace Go.Proofs.Ytnlimkboenciaaa
open Go.RowKit Go.Shelf Go.Lib
attribute [local go_sem] bs_mk bs_append bs_extract bs_size bs_toList bs_get
theorem awake03 (w : World) : Calls Try.prog 8 #[] w fun e w' => e = .returned (.bool true) ∧ Below w.heap.size w w' := by
  go_enter Try.func8, Try.ntmps8
  go_wp2_with (first | (go_at_call 15; refine (name_ok [97] rfl _).mono ?_; rintro e w1 ⟨rfl, hb1⟩) | (go_at_call 7; refine (over_ok [97, 98, 99] [120] 1 _ (by simp [maxLen]) (by simp [maxLen]) (by omega) (by simp)).mono ?_; rintro e w2 ⟨rfl, hb2⟩) | (go_at_call 6; refine (put_ok 258 2 (by omega) (by omega) (by omega) _).mono ?_; rintro e w3 ⟨rfl, hb3⟩))
  go_ret
  exact ⟨rfl, bt (bt hb1 hb2) hb3⟩
end Go.Proofs.Ytnlimkboenciaaa
