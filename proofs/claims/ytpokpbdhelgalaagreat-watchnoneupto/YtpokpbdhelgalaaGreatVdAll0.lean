/- What the functions compute, as plain functions; printed by a program from the code. -/
import Derived.Test.YtpokpbdhelgalaaGreatVvY
import Derived.Test.YtpokpbdhelgalaaGreatVvZ
import Derived.Test.YtpokpbdhelgalaaGreatVvLb
import Derived.Test.YtpokpbdhelgalaaGreatVvMr
import Derived.Test.YtpokpbdhelgalaaGreatVvIt
namespace Go.Vv
open Go
set_option linter.unusedVariables false
structure GActor where
  rep : Int
  inc : Int
  deriving DecidableEq, Inhabited
def GActor.eqb (a b : GActor) : Bool := (a.rep == b.rep && (a.inc == b.inc && true))
structure GDot where
  actor : GActor
  seq : Int
  deriving DecidableEq, Inhabited
def GDot.eqb (a b : GDot) : Bool := (a.actor.rep == b.actor.rep && (a.actor.inc == b.actor.inc && (a.seq == b.seq && true)))
structure GItem where
  time : Int
  dot : GDot
  text : Str
  deriving DecidableEq, Inhabited
def GItem.eqb (a b : GItem) : Bool := (a.time == b.time && (a.dot.actor.rep == b.dot.actor.rep && (a.dot.actor.inc == b.dot.actor.inc && (a.dot.seq == b.dot.seq && (a.text == b.text && true)))))
structure GLeaf where
  typ : Int
  n : Int
  time : Int
  dot : GDot
  text : Str
  items : (List GItem)
  tombs : (List GDot)
  deriving DecidableEq, Inhabited
structure GNode where
  name : Str
  leaves : (List GLeaf)
  subs : (List GNode)
  deriving Inhabited
structure GVarvelaw40Op where
  kind : Int
  n : Int
  p : (List Str)
  t : (List GNode)
  deriving Inhabited
def GActor.wf (x : GActor) : Prop := (InK .u8 x.rep) ∧ (InK .u32 x.inc)
def GDot.wf (x : GDot) : Prop := (GActor.wf x.actor) ∧ (InK .u64 x.seq)
def GItem.wf (x : GItem) : Prop := (InK .u64 x.time) ∧ (GDot.wf x.dot) ∧ (x.text.length ≤ maxLen)
def GLeaf.wf (x : GLeaf) : Prop := (InK .u8 x.typ) ∧ (InK .i64 x.n) ∧ (InK .u64 x.time) ∧ (GDot.wf x.dot) ∧ (x.text.length ≤ maxLen) ∧ (x.items.length ≤ maxLen ∧ ∀ y ∈ x.items, GItem.wf y) ∧ (x.tombs.length ≤ maxLen ∧ ∀ y ∈ x.tombs, GDot.wf y)
mutual
def GNode.wf : GNode → Prop
  | ⟨name, leaves, subs⟩ => (name.length ≤ maxLen) ∧ (leaves.length ≤ maxLen ∧ ∀ y ∈ leaves, GLeaf.wf y) ∧ (GNode.wfs subs)
def GNode.wfs : List GNode → Prop
  | [] => True
  | x :: r => x.wf ∧ GNode.wfs r
end
theorem GNode.wfs_iff (l : List GNode) : GNode.wfs l ↔ ∀ y ∈ l, GNode.wf y := by
  induction l with
  | nil => simp [GNode.wfs]
  | cons x r ih => simp [GNode.wfs, ih]
def GVarvelaw40Op.wf (x : GVarvelaw40Op) : Prop := (InK .i64 x.kind) ∧ (InK .i64 x.n) ∧ (x.p.length ≤ maxLen ∧ ∀ y ∈ x.p, y.length ≤ maxLen) ∧ (x.t.length ≤ maxLen ∧ ∀ y ∈ x.t, GNode.wf y)
def GActor.bk (x : GActor) : Nat := (1 + (1 + 0)) + 1
def GDot.bk (x : GDot) : Nat := (GActor.bk x.actor + (1 + 0)) + 1
def GItem.bk (x : GItem) : Nat := (1 + (GDot.bk x.dot + ((x.text.length + 1) + 0))) + 1
def GLeaf.bk (x : GLeaf) : Nat := (1 + (1 + (1 + (GDot.bk x.dot + ((x.text.length + 1) + (((x.items.map GItem.bk).sum + 1) + (((x.tombs.map GDot.bk).sum + 1) + 0))))))) + 1
mutual
def GNode.bk : GNode → Nat
  | ⟨name, leaves, subs⟩ => ((name.length + 1) + (((leaves.map GLeaf.bk).sum + 1) + (((GNode.bks subs) + 1) + 0))) + 1
def GNode.bks : List GNode → Nat
  | [] => 0
  | x :: r => x.bk + GNode.bks r
end
theorem GNode.bks_eq (l : List GNode) : GNode.bks l = (l.map GNode.bk).sum := by
  induction l with
  | nil => rfl
  | cons x r ih => simp only [GNode.bks, List.map_cons, List.sum_cons, ih]
def GVarvelaw40Op.bk (x : GVarvelaw40Op) : Nat := (1 + (1 + (((x.p.map (fun s => s.length + 1)).sum + 1) + (((x.t.map GNode.bk).sum + 1) + 0)))) + 1
noncomputable def ref07XsizeN : Nat → (t0 : (List GNode)) → (deep1 : Int) → Option Int
  | 0, _, _ => none
  | n + 1, t0, deep1 => (lp (loopW (fun (s1 : Int × Int) => ((if ((decide (s1.2 < ((t0).length : Int))) && (decide (deep1 < (10 : Int)))) = true then ((idx t0 s1.2).bind fun y68 => ((idx t0 s1.2).bind fun y70 => ((ref07XsizeN n y70.subs (IntKind.wrap .i64 (deep1 + (1 : Int)))).bind fun v71 => (lp (loopW (fun (s2 : Int × Int) => (((idx t0 s1.2).bind fun y102 => (if (decide (s2.2 < ((y102.leaves).length : Int))) = true then ((idx t0 s1.2).bind fun y105 => ((idx y105.leaves s2.2).bind fun y106 => (lp (loopL (fun (n3 : Nat) (x3 : GItem) (s3 : Int) => (some (.nxt (IntKind.wrap .i64 ((IntKind.wrap .i64 (s3 + (1 : Int))) + ((x3.text).length : Int)))) : Option (Out _ Int))) y106.items 0 (IntKind.wrap .i64 ((IntKind.wrap .i64 ((IntKind.wrap .i64 (s2.1 + (1 : Int))) + ((y106.text).length : Int))) + ((y106.tombs).length : Int)))) fun (s3 : Int) => some (.nxt (s3, (IntKind.wrap .i64 (s2.2 + (1 : Int)))))))) else some (.brk (s2.1, s2.2)))) : Option (Out _ (Int × Int)))) ((IntKind.wrap .i64 ((IntKind.wrap .i64 ((IntKind.wrap .i64 (s1.1 + (1 : Int))) + ((y68.name).length : Int))) + v71)), (0 : Int))) fun (s2 : Int × Int) => some (.nxt (s2.1, (IntKind.wrap .i64 (s1.2 + (1 : Int))))))))) else some (.brk (s1.1, s1.2))) : Option (Out _ (Int × Int)))) ((0 : Int), (0 : Int))) fun (s1 : Int × Int) => some s1.1)
noncomputable def ref07Xsize (t0 : (List GNode)) (deep1 : Int) : Option Int := anyN fun n => ref07XsizeN n t0 deep1
noncomputable def ref07Great (t0 : (List GNode)) : Option Bool :=
  ((ref07Xsize t0 (0 : Int)).bind fun v1 => some (decide (v1 > (1500 : Int))))
noncomputable def law40Xgreat (l0 : (List GVarvelaw40Op)) : Option Bool :=
  (lp (loopL (fun (n1 : Nat) (x1 : GVarvelaw40Op) (s1 : Unit) => (((if ((decide (((x1.p).length : Int) > (10 : Int))) == false) = true then ref07Great x1.t else some default).bind fun v9 => (if ((decide (((x1.p).length : Int) > (10 : Int))) || v9) = true then some (.ret true) else some (.nxt ()))) : Option (Out _ Unit))) l0 0 ()) fun (s1 : Unit) => some (decide (((l0).length : Int) > (60 : Int))))
/-- varve/varvelaw40.known: computed. -/
noncomputable def law40Xknown : Option Bool := some true
noncomputable def law40WatchNone (o0 : GVarvelaw40Op) : Option Bool :=
  ((law40Xgreat ([o0] : List GVarvelaw40Op)).bind fun v1 => (if v1 = true then ((law40Xknown).bind fun v3 => some v3) else some true))
end Go.Vv
