/- What the functions compute, as plain functions; printed by a program from the code. -/
import Derived.Test.YtfiafpbjbdbnaaaGreatVvY
import Derived.Test.YtfiafpbjbdbnaaaGreatVvZ
import Derived.Test.YtfiafpbjbdbnaaaGreatVvLb
import Derived.Test.YtfiafpbjbdbnaaaGreatVvMr
import Derived.Test.YtfiafpbjbdbnaaaGreatVvIt
namespace Go.Vv
open Go
set_option linter.unusedVariables false
/-- varve/varvelaw32.known: computed. -/
noncomputable def law32Xknown : Option Bool := some true
noncomputable def law32TraceNone (path0 : (List Str)) (kind1 : Int) : Option Bool :=
  (if (decide (((path0).length : Int) > (10 : Int))) = true then ((law32Xknown).bind fun v3 => some v3) else some true)
end Go.Vv
