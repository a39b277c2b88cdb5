/- What the functions compute, as plain functions; printed by a program from the code. -/
import Derived.Test.YtcblfcocmakbiaaGreatVvY
import Derived.Test.YtcblfcocmakbiaaGreatVvZ
import Derived.Test.YtcblfcocmakbiaaGreatVvLb
import Derived.Test.YtcblfcocmakbiaaGreatVvMr
import Derived.Test.YtcblfcocmakbiaaGreatVvIt
namespace Go.Vv
open Go
set_option linter.unusedVariables false
structure GQuery where
  kind : Int
  path : (List Str)
  deriving DecidableEq, Inhabited
structure GAnswer where
  is : Bool
  n : Int
  l : (List Str)
  deriving DecidableEq, Inhabited
structure GGuard where
  q : GQuery
  want : GAnswer
  deriving DecidableEq, Inhabited
structure GActor where
  rep : Int
  inc : Int
  deriving DecidableEq, Inhabited
def GActor.eqb (a b : GActor) : Bool := (a.rep == b.rep && (a.inc == b.inc && true))
structure GDot where
  actor : GActor
  seq : Int
  deriving DecidableEq, Inhabited
def GDot.eqb (a b : GDot) : Bool := (a.actor.rep == b.actor.rep && (a.actor.inc == b.actor.inc && (a.seq == b.seq && true)))
structure GOp where
  kind : Int
  path : (List Str)
  n : Int
  text : Str
  dots : (List GDot)
  deriving DecidableEq, Inhabited
def GQuery.wf (x : GQuery) : Prop := (InK .u8 x.kind) ∧ (x.path.length ≤ maxLen ∧ ∀ y ∈ x.path, y.length ≤ maxLen)
def GAnswer.wf (x : GAnswer) : Prop := (True) ∧ (InK .i64 x.n) ∧ (x.l.length ≤ maxLen ∧ ∀ y ∈ x.l, y.length ≤ maxLen)
def GGuard.wf (x : GGuard) : Prop := (GQuery.wf x.q) ∧ (GAnswer.wf x.want)
def GActor.wf (x : GActor) : Prop := (InK .u8 x.rep) ∧ (InK .u32 x.inc)
def GDot.wf (x : GDot) : Prop := (GActor.wf x.actor) ∧ (InK .u64 x.seq)
def GOp.wf (x : GOp) : Prop := (InK .u8 x.kind) ∧ (x.path.length ≤ maxLen ∧ ∀ y ∈ x.path, y.length ≤ maxLen) ∧ (InK .i64 x.n) ∧ (x.text.length ≤ maxLen) ∧ (x.dots.length ≤ maxLen ∧ ∀ y ∈ x.dots, GDot.wf y)
def GQuery.bk (x : GQuery) : Nat := (1 + (((x.path.map (fun s => s.length + 1)).sum + 1) + 0)) + 1
def GAnswer.bk (x : GAnswer) : Nat := (1 + (1 + (((x.l.map (fun s => s.length + 1)).sum + 1) + 0))) + 1
def GGuard.bk (x : GGuard) : Nat := (GQuery.bk x.q + (GAnswer.bk x.want + 0)) + 1
def GActor.bk (x : GActor) : Nat := (1 + (1 + 0)) + 1
def GDot.bk (x : GDot) : Nat := (GActor.bk x.actor + (1 + 0)) + 1
def GOp.bk (x : GOp) : Nat := (1 + (((x.path.map (fun s => s.length + 1)).sum + 1) + (1 + ((x.text.length + 1) + (((x.dots.map GDot.bk).sum + 1) + 0))))) + 1
noncomputable def law38Xgreat (l0 : (List GGuard)) (ops1 : (List GOp)) : Option Bool :=
  (lp (loopL (fun (n1 : Nat) (x1 : GGuard) (s1 : Unit) => ((if ((decide (((x1.q.path).length : Int) > (10 : Int))) || (decide (((x1.want.l).length : Int) > (20 : Int)))) = true then some (.ret true) else some (.nxt ())) : Option (Out _ Unit))) l0 0 ()) fun (s1 : Unit) => (lp (loopL (fun (n2 : Nat) (x2 : GOp) (s2 : Unit) => ((if (((decide (((x2.dots).length : Int) > (100 : Int))) || (decide (((x2.path).length : Int) > (10 : Int)))) || (decide (((x2.text).length : Int) > (200 : Int)))) = true then some (.ret true) else some (.nxt ())) : Option (Out _ Unit))) ops1 0 ()) fun (s2 : Unit) => some ((decide (((l0).length : Int) > (10 : Int))) || (decide (((ops1).length : Int) > (6 : Int))))))
/-- varve/varvelaw38.known: computed. -/
noncomputable def law38Xknown : Option Bool := some true
noncomputable def law38GuardNone (self0 : GActor) (o1 : GOp) : Option Bool :=
  ((law38Xgreat ([] : List GGuard) ([o1] : List GOp)).bind fun v1 => (if v1 = true then ((law38Xknown).bind fun v3 => some v3) else some true))
end Go.Vv
