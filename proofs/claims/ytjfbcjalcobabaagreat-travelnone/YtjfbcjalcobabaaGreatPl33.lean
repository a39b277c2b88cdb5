/- Layer 33's law of a graph that is not there: its head. -/
import Derived.Test.YtjfbcjalcobabaaGreatD
import Derived.Test.YtjfbcjalcobabaaGreatVvQ
namespace Go.Vv
set_option linter.unusedVariables false
set_option linter.unusedSimpArgs false
open Go
theorem law33TravelNone_top (v : List GDot) (d : GDot) {p q : Prop} (_ : p) (_ : q) : law33TravelNone v d = some true := by
  unfold law33TravelNone law33Xknown
  cases decide ((v.length : Int) > (64 : Int)) <;> rfl
end Go.Vv
