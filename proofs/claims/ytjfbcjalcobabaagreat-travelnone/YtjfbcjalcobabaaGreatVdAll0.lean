/- What the functions compute, as plain functions; printed by a program from the code. -/
import Derived.Test.YtjfbcjalcobabaaGreatVvY
import Derived.Test.YtjfbcjalcobabaaGreatVvZ
import Derived.Test.YtjfbcjalcobabaaGreatVvLb
import Derived.Test.YtjfbcjalcobabaaGreatVvMr
import Derived.Test.YtjfbcjalcobabaaGreatVvIt
namespace Go.Vv
open Go
set_option linter.unusedVariables false
structure GActor where
  rep : Int
  inc : Int
  deriving DecidableEq, Inhabited
def GActor.eqb (a b : GActor) : Bool := (a.rep == b.rep && (a.inc == b.inc && true))
structure GDot where
  actor : GActor
  seq : Int
  deriving DecidableEq, Inhabited
def GDot.eqb (a b : GDot) : Bool := (a.actor.rep == b.actor.rep && (a.actor.inc == b.actor.inc && (a.seq == b.seq && true)))
def GActor.wf (x : GActor) : Prop := (InK .u8 x.rep) ∧ (InK .u32 x.inc)
def GDot.wf (x : GDot) : Prop := (GActor.wf x.actor) ∧ (InK .u64 x.seq)
def GActor.bk (x : GActor) : Nat := (1 + (1 + 0)) + 1
def GDot.bk (x : GDot) : Nat := (GActor.bk x.actor + (1 + 0)) + 1
/-- varve/varvelaw33.known: computed. -/
noncomputable def law33Xknown : Option Bool := some true
noncomputable def law33TravelNone (v0 : (List GDot)) (d1 : GDot) : Option Bool :=
  (if (decide (((v0).length : Int) > (64 : Int))) = true then ((law33Xknown).bind fun v3 => some v3) else some true)
end Go.Vv
