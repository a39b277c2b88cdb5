/- A statement with a bound on its arguments: what the call's contract may take, beside the bound, is the world's shape. -/
import Derived.JoinedCond
import Derived.HandedShaped
import Derived.Test.YtpdpghedkdpiiaaGreatVvRd
namespace Go.Vv
set_option linter.unusedVariables false
set_option linter.unusedSimpArgs false
open Go Go.ChangeShapes Go.WideShapes
end Go.Vv
