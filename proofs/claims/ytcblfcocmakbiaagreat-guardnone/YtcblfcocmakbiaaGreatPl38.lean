/- Layer 38's law of a graph that is not there: its head. -/
import Derived.Test.YtcblfcocmakbiaaGreatD
import Derived.Test.YtcblfcocmakbiaaGreatVvQ
namespace Go.Vv
set_option linter.unusedVariables false
set_option linter.unusedSimpArgs false
open Go
theorem law38GuardNone_top (self : GActor) (o : GOp) {p q : Prop} (_ : p) (_ : q) : law38GuardNone self o = some true := by
  unfold law38GuardNone law38Xknown law38Xgreat
  simp only [loopL, lp]
  cases h : ((decide ((o.dots.length : Int) > (100 : Int)) || decide ((o.path.length : Int) > (10 : Int))) || decide ((o.text.length : Int) > (200 : Int))) <;> simp [h]
end Go.Vv
