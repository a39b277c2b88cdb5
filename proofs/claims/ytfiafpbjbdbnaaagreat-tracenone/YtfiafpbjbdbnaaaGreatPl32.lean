/- Layer 32's law of a graph that is not there: its head. -/
import Derived.Test.YtfiafpbjbdbnaaaGreatD
import Derived.Test.YtfiafpbjbdbnaaaGreatVvQ
namespace Go.Vv
set_option linter.unusedVariables false
set_option linter.unusedSimpArgs false
open Go
theorem law32TraceNone_top (path : List Str) (kind : Int) {p q : Prop} (_ : p) (_ : q) : law32TraceNone path kind = some true := by
  unfold law32TraceNone law32Xknown
  cases decide ((path.length : Int) > (10 : Int)) <;> rfl
end Go.Vv
