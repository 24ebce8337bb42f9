/- Package dev, function by function: which devices can be, and which are the same. Package dev, function by function: which devices can be. -/
import Derived.Test.YtplgmlcoeehnfaaGreatJcDev4
import Derived.Test.YtplgmlcoeehnfaaGreatJcRef01
set_option linter.unusedVariables false
namespace Go.Proofs.YtplgmlcoeehnfaaGreat
open Go.RowKit Go.Shelf
attribute [local go_sem] bs_mk bs_append bs_extract bs_size bs_toList bs_get

theorem eq_of_parts {α : Type} {l m : List α} {n : Nat} (h : l.length = m.length) (hn : l.length ≤ n) (hok : ∀ j (hj : j < l.length) (hj' : j < m.length), j < n → l[j] = m[j]) : l = m :=
  List.ext_getElem h fun j hj hj' => hok j hj hj' (by omega)
theorem ne_at {α : Type} {l m : List α} (i : Nat) (h1 : i < l.length) (h2 : i < m.length) (h : l[i] ≠ m[i]) : l ≠ m := fun e => h (by subst e; rfl)
end Go.Proofs.YtplgmlcoeehnfaaGreat
set_option linter.unusedVariables false
namespace Go.Proofs.YtplgmlcoeehnfaaGreat
open Go.RowKit Go.Shelf
attribute [local go_sem] bs_mk bs_append bs_extract bs_size bs_toList bs_get

namespace Dk
end Dk
end Go.Proofs.YtplgmlcoeehnfaaGreat
