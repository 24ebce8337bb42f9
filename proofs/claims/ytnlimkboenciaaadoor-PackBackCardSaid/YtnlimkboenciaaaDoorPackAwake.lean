/- The statements of layer 3: 'awake', chapter 3's examples. -/
import Derived.Test.YtnlimkboenciaaaDoorPackWalks
set_option linter.unusedVariables false
namespace Go.Proofs.YtnlimkboenciaaaDoor
open Go.RowKit Go.Shelf
attribute [local go_sem] bs_mk bs_append bs_extract bs_size bs_toList bs_get
theorem awake03 (w : World) : Calls Tryd.prog 8 #[] w fun e w' => e = .returned (.bool true) ∧ Below w.heap.size w w' := by
  go_enter Tryd.func8, Tryd.ntmps8
  go_wp2_with (first | (go_at_call 6; refine (name_ok [97] rfl _).mono ?_; rintro e w1 ⟨rfl, hb1⟩) | (go_at_call 13; refine (over_ok [97, 98, 99] [120] 1 _ (by simp [maxLen]) (by simp [maxLen]) (by omega) (by simp)).mono ?_; rintro e w2 ⟨rfl, hb2⟩) | (go_at_call 5; refine (put_ok 258 2 (by omega) (by omega) (by omega) _).mono ?_; rintro e w3 ⟨rfl, hb3⟩))
  go_ret
  exact ⟨rfl, bt (bt hb1 hb2) hb3⟩
end Go.Proofs.YtnlimkboenciaaaDoor
