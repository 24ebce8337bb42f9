/- A region that draws its order, in a function that ranges over a function: what comes behind a panic may hang on the act, so the walk shows that none comes. Nothing of the program stands here. -/
import Derived.Test.YtkiokdphjfkocaaQTail
import Derived.Test.YtkiokdphjfkocaaMixed
set_option linter.unusedVariables false
namespace Go.Proofs.Ytkiokdphjfkocaa
open Go Go.RowKit Go.Shelf
theorem wp_region_ext_tail_then {P : Program} {id : Nat} {K : Act → World → Prop} {Q : Exit → Act → World → Prop} {a : Act} {w : World} {l : List Oper} (n : Nat) (hm : P.follows .mixedOrders = true) (hB : qtailB .any l.toArray n = true)
    (h : wpQuiet P l.toArray (fun w' => ∃ p : Ext w, w' = p.world) (fun a' => ∀ w', (∃ p : Ext w, w' = p.world) → wpList P l.toArray (Exit.then K (fun _ _ _ => False)) (l.drop n) a' w') (l.take n) a) : (Code.region id l.toArray true).wp P (Exit.then K Q) a w :=
  Go.wp_mono (wp_region_ext_tail n hm hB (by intro c a w d v h; exact h) h) (by intro e a w h; cases e <;> first | exact h | exact h.elim)
theorem wp_region_ext_then {P : Program} {id : Nat} {K : Act → World → Prop} {Q : Exit → Act → World → Prop} {a : Act} {w : World} {l : List Oper} (hm : P.follows .mixedOrders = true) (hB : Region.lexB .any l.toArray = true)
    (h : wpQuiet P l.toArray (fun w' => ∃ p : Ext w, w' = p.world) (fun a' => ∀ w', (∃ p : Ext w, w' = p.world) → K a' w') l a) : (Code.region id l.toArray true).wp P (Exit.then K Q) a w :=
  wp_region_ext hm hB h
end Go.Proofs.Ytkiokdphjfkocaa
