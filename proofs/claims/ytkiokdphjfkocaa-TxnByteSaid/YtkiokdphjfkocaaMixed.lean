/- The program's operations are drawn as the model says. -/
import Derived.Test.YtkiokdphjfkocaaBase
import Derived.Test.YtkiokdphjfkocaaProg
namespace Go.Proofs.Ytkiokdphjfkocaa
theorem mixed : Try.prog.follows .mixedOrders = true := by kernel_rfl
end Go.Proofs.Ytkiokdphjfkocaa
