/- Package dev: flushed, armed, crashed. -/
import Derived.Test.YtlajbmmhgflabaaDev5
set_option linter.unusedVariables false
namespace Go.Proofs.Ytlajbmmhgflabaa
open Go.RowKit Go.Shelf
attribute [local go_sem] bs_mk bs_append bs_extract bs_size bs_toList bs_get

theorem blk_three {w w1 : World} {t u v : TypeId} {cs ds es : Array Value} (hb : Below (((w.alloc (.cells cs t)).alloc (.cells ds u)).alloc (.cells es v)).heap.size (((w.alloc (.cells cs t)).alloc (.cells ds u)).alloc (.cells es v)) w1) :
    Blk w1 w.heap.size t cs ∧ Blk w1 (w.heap.size + 1) u ds ∧ Blk w1 (w.heap.size + 1 + 1) v es := by
  refine ⟨(((Blk.new w t cs).alloc _).alloc _).below hb (by simp; omega), ?_, ?_⟩
  · have := Blk.new (w.alloc (.cells cs t)) u ds
    rw [World.size_alloc] at this
    exact (this.alloc _).below hb (by simp)
  · have := Blk.new ((w.alloc (.cells cs t)).alloc (.cells ds u)) v es
    simp only [World.size_alloc] at this
    exact this.below hb (by simp)
theorem below_three (w : World) (a b c : Obj) : Below w.heap.size w (((w.alloc a).alloc b).alloc c) := (below_two w a b).alloc (by simp; omega) c
end Go.Proofs.Ytlajbmmhgflabaa
