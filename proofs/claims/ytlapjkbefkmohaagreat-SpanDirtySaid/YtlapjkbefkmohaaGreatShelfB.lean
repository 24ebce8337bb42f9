/- Contracts of Go's library, laid over this seat's program. -/
import Derived.Shelf.Slices.Turned
import Derived.Test.YtlapjkbefkmohaaGreatShelf
namespace Go.Proofs
open Go.Shelf
end Go.Proofs
