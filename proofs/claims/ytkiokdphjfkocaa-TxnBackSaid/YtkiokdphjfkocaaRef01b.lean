/- The document's own answers for devices (package cofferdamref01): the rest. The document's own answers for devices (package cofferdamref01): what is read, flushed, crashed, new. -/
import Derived.Test.YtkiokdphjfkocaaRef01
import Derived.Lib.ConvBytes
import Derived.Lib.LazyBuf
import Derived.StillTailTactics
import Derived.Test.YtkiokdphjfkocaaOff
set_option linter.unusedVariables false
namespace Go.Proofs.Ytkiokdphjfkocaa
open Go.RowKit Go.Shelf
attribute [local go_sem] bs_mk bs_append bs_extract bs_size bs_toList bs_get

/-- The world behind '[]byte(s)'. -/
theorem bytesWorld_row (w : World) (e : TypeId) (l : List UInt8) : Below w.heap.size w (Lib.bytesWorld w e (bs l)) ∧ RowB (Lib.bytesWorld w e (bs l)) w.heap.size l := by
  refine ⟨⟨rfl, rfl, rfl, by rw [Lib.bytesWorld_size]; omega, fun k hk => Lib.bytesWorld_at_old w e _ k hk⟩, fun j hj => ⟨?_, ?_⟩⟩
  · rw [Lib.bytesWorld_cell w e (bs l) j (by rw [bs_size]; exact hj), bs_list]
    simp [hj]
  · have hs : l.length ≤ (Lib.bytesCells w e (bs l)).size := by simp [Lib.bytesCells, bs]
    simp only [World.frozen?, Lib.bytesWorld_at_new]
    simp
    omega
end Go.Proofs.Ytkiokdphjfkocaa
set_option linter.unusedVariables false
namespace Go.Proofs.Ytkiokdphjfkocaa
open Go.RowKit Go.Shelf
attribute [local go_sem] bs_mk bs_append bs_extract bs_size bs_toList bs_get

end Go.Proofs.Ytkiokdphjfkocaa
