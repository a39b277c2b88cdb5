/- The arguments, as plain structures; printed by a program. -/
import Derived.Test.YtojfcfnkcldpbaaGreatVvY
import Derived.Test.YtojfcfnkcldpbaaGreatVvZ
import Derived.Test.YtojfcfnkcldpbaaGreatVvLb
import Derived.Test.YtojfcfnkcldpbaaGreatVvMr
import Derived.Test.YtojfcfnkcldpbaaGreatVvIt
namespace Go.Vv
open Go
set_option linter.unusedVariables false
structure GActor where
  rep : Int
  inc : Int
  deriving DecidableEq, Inhabited
def GActor.eqb (a b : GActor) : Bool := (a.rep == b.rep && (a.inc == b.inc && true))
structure GDot where
  actor : GActor
  seq : Int
  deriving DecidableEq, Inhabited
def GDot.eqb (a b : GDot) : Bool := (a.actor.rep == b.actor.rep && (a.actor.inc == b.actor.inc && (a.seq == b.seq && true)))
def GActor.wf (x : GActor) : Prop := (InK .u8 x.rep) ∧ (InK .u32 x.inc)
def GDot.wf (x : GDot) : Prop := (GActor.wf x.actor) ∧ (InK .u64 x.seq)
def GActor.bk (x : GActor) : Nat := (1 + (1 + 0)) + 1
def GDot.bk (x : GDot) : Nat := (GActor.bk x.actor + (1 + 0)) + 1
def GActor.row (x : GActor) : List AV := [.int .u8 x.rep, .int .u32 x.inc]
def GDot.row (x : GDot) : List AV := [.int .u8 x.actor.rep, .int .u32 x.actor.inc, .int .u64 x.seq]
end Go.Vv
