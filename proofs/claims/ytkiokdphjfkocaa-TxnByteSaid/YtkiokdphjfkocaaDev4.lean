/- Package dev: what is written. Package dev: what lasts. Package dev: flushed, armed, crashed. -/
import Derived.Test.YtkiokdphjfkocaaDev2
import Derived.Test.YtkiokdphjfkocaaOff
import Derived.Lib.ConvBytes
import Derived.Lib.LazyBuf
import Derived.StillTailTactics
set_option linter.unusedVariables false
namespace Go.Proofs.Ytkiokdphjfkocaa
open Go.RowKit Go.Shelf
attribute [local go_sem] bs_mk bs_append bs_extract bs_size bs_toList bs_get

end Go.Proofs.Ytkiokdphjfkocaa
set_option linter.unusedVariables false
namespace Go.Proofs.Ytkiokdphjfkocaa
open Go.RowKit Go.Shelf
attribute [local go_sem] bs_mk bs_append bs_extract bs_size bs_toList bs_get

theorem mixed_ : Try.prog.follows .mixedOrders = true := by kernel_rfl
/-- The world behind '[]byte(s)'. -/
theorem bytesWorld_row_ (w : World) (e : TypeId) (l : List UInt8) : Below w.heap.size w (Lib.bytesWorld w e (bs l)) ∧ RowB (Lib.bytesWorld w e (bs l)) w.heap.size l := by
  refine ⟨⟨rfl, rfl, rfl, by rw [Lib.bytesWorld_size]; omega, fun k hk => Lib.bytesWorld_at_old w e _ k hk⟩, fun j hj => ⟨?_, ?_⟩⟩
  · rw [Lib.bytesWorld_cell w e (bs l) j (by rw [bs_size]; exact hj), bs_list]
    simp [hj]
  · have hs : l.length ≤ (Lib.bytesCells w e (bs l)).size := by simp [Lib.bytesCells, bs]
    simp only [World.frozen?, Lib.bytesWorld_at_new]
    simp
    omega
end Go.Proofs.Ytkiokdphjfkocaa
set_option linter.unusedVariables false
namespace Go.Proofs.Ytkiokdphjfkocaa
open Go.RowKit Go.Shelf
attribute [local go_sem] bs_mk bs_append bs_extract bs_size bs_toList bs_get

theorem blk_three {w w1 : World} {t u v : TypeId} {cs ds es : Array Value} (hb : Below (((w.alloc (.cells cs t)).alloc (.cells ds u)).alloc (.cells es v)).heap.size (((w.alloc (.cells cs t)).alloc (.cells ds u)).alloc (.cells es v)) w1) :
    Blk w1 w.heap.size t cs ∧ Blk w1 (w.heap.size + 1) u ds ∧ Blk w1 (w.heap.size + 1 + 1) v es := by
  refine ⟨(((Blk.new w t cs).alloc _).alloc _).below hb (by simp; omega), ?_, ?_⟩
  · have := Blk.new (w.alloc (.cells cs t)) u ds
    rw [World.size_alloc] at this
    exact (this.alloc _).below hb (by simp)
  · have := Blk.new ((w.alloc (.cells cs t)).alloc (.cells ds u)) v es
    simp only [World.size_alloc] at this
    exact this.below hb (by simp)
theorem below_three (w : World) (a b c : Obj) : Below w.heap.size w (((w.alloc a).alloc b).alloc c) := (below_two w a b).alloc (by simp; omega) c
end Go.Proofs.Ytkiokdphjfkocaa
