/- Package plan: a plan laid on a device. -/
import Derived.Test.YtplgmlcoeehnfaaGreatPuLay1
import Derived.Test.YtplgmlcoeehnfaaGreatPuDev2
import Derived.Test.YtplgmlcoeehnfaaGreatPuPlain1
import Derived.Lib.ConvBytes
import Derived.Lib.LazyBuf
import Derived.StillTailTactics
import Derived.BigQuiet
set_option linter.unusedVariables false
namespace Go.Proofs.YtplgmlcoeehnfaaGreat
open Go.RowKit Go.Shelf
attribute [local go_sem] bs_mk bs_append bs_extract bs_size bs_toList bs_get Oper.semAt_some
namespace Dk
theorem layIn_snoc : ∀ (l : List (Int × List UInt8)) (D : Dk) (x : Int × List UInt8), (layIn l D).2 = 0 → layIn (l ++ [x]) D = (layIn l D).1.write x.1 x.2 := by
  intro l
  induction l with
  | nil =>
    intro D x _
    show layIn [x] D = D.write x.1 x.2
    rw [layIn]
    split
    · rfl
    · rename_i h
      have h : (D.write x.1 x.2).2 = 0 := by simpa using h
      exact Prod.ext rfl h.symm
  | cons a l ih =>
    intro D x h
    rw [List.cons_append, layIn]
    rw [layIn] at h
    split
    · rename_i h1
      rw [if_pos h1] at h
      exact absurd h h1
    · rename_i h1
      rw [if_neg h1] at h
      rw [layIn, if_neg h1]
      exact ih _ _ h
theorem layIn_stop : ∀ (l r : List (Int × List UInt8)) (D : Dk), (layIn l D).2 ≠ 0 → layIn (l ++ r) D = layIn l D := by
  intro l
  induction l with
  | nil => intro r D h; exact absurd rfl h
  | cons a l ih =>
    intro r D h
    rw [List.cons_append, layIn, layIn]
    rw [layIn] at h
    split
    · rfl
    · rename_i h1
      rw [if_neg h1] at h
      exact ih _ _ h
end Dk
end Go.Proofs.YtplgmlcoeehnfaaGreat
