/- The document's own answers for devices (package cofferdamref01), function by function. -/
import Derived.Test.YtkiokdphjfkocaaDevLaw
import Derived.Test.YtkiokdphjfkocaaMixed
import Derived.Test.YtkiokdphjfkocaaRows
import Derived.Shelf.SlicesE.Kit
set_option linter.unusedVariables false
namespace Go.Proofs.Ytkiokdphjfkocaa
open Go.RowKit Go.Shelf
attribute [local go_sem] bs_mk bs_append bs_extract bs_size bs_toList bs_get

end Go.Proofs.Ytkiokdphjfkocaa
