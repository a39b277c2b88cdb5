/- Functions of Go's library whose contracts the shelf has: as contracts over abstract values. -/
import Derived.Test.YtcociipjgndnaaaGreatVvZ
import Derived.Shelf.Strings.OnBuilder
import Derived.Shelf.Strings.SplitShaped
namespace Go.Vv
open Go Go.RowKit Go.Proofs Go.Shelf
end Go.Vv
