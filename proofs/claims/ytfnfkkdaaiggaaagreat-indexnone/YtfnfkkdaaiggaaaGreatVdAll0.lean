/- What the functions compute, as plain functions; printed by a program from the code. -/
import Derived.Test.YtfnfkkdaaiggaaaGreatVvY
import Derived.Test.YtfnfkkdaaiggaaaGreatVvZ
import Derived.Test.YtfnfkkdaaiggaaaGreatVvLb
import Derived.Test.YtfnfkkdaaiggaaaGreatVvMr
import Derived.Test.YtfnfkkdaaiggaaaGreatVvIt
namespace Go.Vv
open Go
set_option linter.unusedVariables false
structure GActor where
  rep : Int
  inc : Int
  deriving DecidableEq, Inhabited
def GActor.eqb (a b : GActor) : Bool := (a.rep == b.rep && (a.inc == b.inc && true))
structure GDot where
  actor : GActor
  seq : Int
  deriving DecidableEq, Inhabited
def GDot.eqb (a b : GDot) : Bool := (a.actor.rep == b.actor.rep && (a.actor.inc == b.actor.inc && (a.seq == b.seq && true)))
structure GItem where
  time : Int
  dot : GDot
  text : Str
  deriving DecidableEq, Inhabited
def GItem.eqb (a b : GItem) : Bool := (a.time == b.time && (a.dot.actor.rep == b.dot.actor.rep && (a.dot.actor.inc == b.dot.actor.inc && (a.dot.seq == b.dot.seq && (a.text == b.text && true)))))
structure GLeaf where
  typ : Int
  n : Int
  time : Int
  dot : GDot
  text : Str
  items : (List GItem)
  tombs : (List GDot)
  deriving DecidableEq, Inhabited
structure GEdit where
  path : (List Str)
  typ : Int
  had : Bool
  has : Bool
  was : GLeaf
  is : GLeaf
  deriving DecidableEq, Inhabited
def GActor.wf (x : GActor) : Prop := (InK .u8 x.rep) ∧ (InK .u32 x.inc)
def GDot.wf (x : GDot) : Prop := (GActor.wf x.actor) ∧ (InK .u64 x.seq)
def GItem.wf (x : GItem) : Prop := (InK .u64 x.time) ∧ (GDot.wf x.dot) ∧ (x.text.length ≤ maxLen)
def GLeaf.wf (x : GLeaf) : Prop := (InK .u8 x.typ) ∧ (InK .i64 x.n) ∧ (InK .u64 x.time) ∧ (GDot.wf x.dot) ∧ (x.text.length ≤ maxLen) ∧ (x.items.length ≤ maxLen ∧ ∀ y ∈ x.items, GItem.wf y) ∧ (x.tombs.length ≤ maxLen ∧ ∀ y ∈ x.tombs, GDot.wf y)
def GEdit.wf (x : GEdit) : Prop := (x.path.length ≤ maxLen ∧ ∀ y ∈ x.path, y.length ≤ maxLen) ∧ (InK .u8 x.typ) ∧ (True) ∧ (True) ∧ (GLeaf.wf x.was) ∧ (GLeaf.wf x.is)
def GActor.bk (x : GActor) : Nat := (1 + (1 + 0)) + 1
def GDot.bk (x : GDot) : Nat := (GActor.bk x.actor + (1 + 0)) + 1
def GItem.bk (x : GItem) : Nat := (1 + (GDot.bk x.dot + ((x.text.length + 1) + 0))) + 1
def GLeaf.bk (x : GLeaf) : Nat := (1 + (1 + (1 + (GDot.bk x.dot + ((x.text.length + 1) + (((x.items.map GItem.bk).sum + 1) + (((x.tombs.map GDot.bk).sum + 1) + 0))))))) + 1
def GEdit.bk (x : GEdit) : Nat := (((x.path.map (fun s => s.length + 1)).sum + 1) + (1 + (1 + (1 + (GLeaf.bk x.was + (GLeaf.bk x.is + 0)))))) + 1
noncomputable def ref31Great (l0 : (List GEdit)) : Option Bool :=
  (lp (loopL (fun (n1 : Nat) (x1 : GEdit) (s1 : Unit) => ((if (((decide (((x1.path).length : Int) > (5 : Int))) || (decide ((IntKind.wrap .i64 (((x1.was.items).length : Int) + ((x1.is.items).length : Int))) > (20 : Int)))) || (decide ((IntKind.wrap .i64 (((x1.was.tombs).length : Int) + ((x1.is.tombs).length : Int))) > (20 : Int)))) = true then some (.ret true) else (lp (loopL (fun (n2 : Nat) (x2 : Str) (s2 : Unit) => ((if (decide (((x2).length : Int) > (20 : Int))) = true then some (.ret (.ret true)) else some (.nxt ())) : Option (Out _ Unit))) x1.path 0 ()) fun (s2 : Unit) => some (.nxt ()))) : Option (Out _ Unit))) l0 0 ()) fun (s1 : Unit) => some (decide (((l0).length : Int) > (20 : Int))))
/-- varve/varvelaw41.known: computed. -/
noncomputable def law41Xknown : Option Bool := some true
noncomputable def law41IndexNone (text0 : Str) (l1 : (List GEdit)) : Option Bool :=
  ((if ((decide (((text0).length : Int) > (100 : Int))) == false) = true then ref31Great l1 else some default).bind fun v2 => (if ((decide (((text0).length : Int) > (100 : Int))) || v2) = true then ((law41Xknown).bind fun v4 => some v4) else some true))
end Go.Vv
