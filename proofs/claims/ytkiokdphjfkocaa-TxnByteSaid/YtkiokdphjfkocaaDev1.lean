/- Package dev, function by function: how great, new ones, the writes handed out the last one first. -/
import Derived.Test.YtkiokdphjfkocaaDevLaw
import Derived.Test.YtkiokdphjfkocaaRange
import Derived.Test.YtkiokdphjfkocaaShelf
set_option linter.unusedVariables false
namespace Go.Proofs.Ytkiokdphjfkocaa
open Go.RowKit Go.Shelf
attribute [local go_sem] bs_mk bs_append bs_extract bs_size bs_toList bs_get Oper.semAt_some

end Go.Proofs.Ytkiokdphjfkocaa
