/- What the functions compute, as plain functions; printed by a program from the code. -/
import Derived.Test.YtdkfnnpdeenhnaaGreatVvY
import Derived.Test.YtdkfnnpdeenhnaaGreatVvZ
import Derived.Test.YtdkfnnpdeenhnaaGreatVvLb
import Derived.Test.YtdkfnnpdeenhnaaGreatVvMr
import Derived.Test.YtdkfnnpdeenhnaaGreatVvIt
import Derived.Test.YtdkfnnpdeenhnaaGreatVvMl
import Derived.Test.YtdkfnnpdeenhnaaGreatVvRb
import Derived.Test.YtdkfnnpdeenhnaaGreatVvSo
import Derived.Test.YtdkfnnpdeenhnaaGreatVvSs
namespace Go.Vv
noncomputable section
open Go
set_option linter.unusedVariables false
structure GActor where
 rep:Int
 inc:Int
 deriving DecidableEq,Inhabited
def GActor.eqb (a b:GActor):Bool:=(a.rep==b.rep&&(a.inc==b.inc&&true))
structure GDot where
 actor:GActor
 seq:Int
 deriving DecidableEq,Inhabited
def GDot.eqb (a b:GDot):Bool:=(a.actor.rep==b.actor.rep&&(a.actor.inc==b.actor.inc&&(a.seq==b.seq&&true)))
structure GItem where
 time:Int
 dot:GDot
 text:ze
 deriving DecidableEq,Inhabited
def GItem.eqb (a b:GItem):Bool:=(a.time==b.time&&(a.dot.actor.rep==b.dot.actor.rep&&(a.dot.actor.inc==b.dot.actor.inc&&(a.dot.seq==b.dot.seq&&(a.text==b.text&&true)))))
structure GLeaf where
 typ:Int
 n:Int
 time:Int
 dot:GDot
 text:ze
 items:(List GItem)
 tombs:(List GDot)
 deriving DecidableEq,Inhabited
structure GNode where
 name:ze
 leaves:(List GLeaf)
 subs:(List GNode)
 deriving Inhabited
structure GQuery where
 kind:Int
 path:(List ze)
 deriving DecidableEq,Inhabited
structure GAnswer where
 is:Bool
 n:Int
 l:(List ze)
 deriving DecidableEq,Inhabited
structure GQueryAsked where
 t:(List GNode)
 path:(List ze)
 deriving Inhabited
structure GField where
 path:(List ze)
 types:Int
 min:Int
 max:Int
 items:Int
 deriving DecidableEq,Inhabited
structure GOp where
 kind:Int
 path:(List ze)
 n:Int
 text:ze
 dots:(List GDot)
 deriving DecidableEq,Inhabited
structure GOpKind where
 leaf:Int
 may:Nat
 deriving DecidableEq,Inhabited
structure GEvent where
 dot:GDot
 time:Int
 op:GOp
 deriving DecidableEq,Inhabited
structure GRow where
 path:(List ze)
 leaf:GLeaf
 deriving DecidableEq,Inhabited
structure GBreach where
 path:(List ze)
 typ:Int
 e:Int
 deriving DecidableEq,Inhabited
structure GVarveref07Row where
 path:(List ze)
 l:GLeaf
 deriving DecidableEq,Inhabited
structure GEdit where
 path:(List ze)
 typ:Int
 had:Bool
 has:Bool
 was:GLeaf
 is:GLeaf
 deriving DecidableEq,Inhabited
structure GQuota where
 name:ze
 leaves:Int
 items:Int
 tombs:Int
 bytes:Int
 deriving DecidableEq,Inhabited
def GQuota.eqb (a b:GQuota):Bool:=(a.name==b.name&&(a.leaves==b.leaves&&(a.items==b.items&&(a.tombs==b.tombs&&(a.bytes==b.bytes&&true)))))
def GActor.wf (x:GActor):Prop:=(InK .u8 x.rep)/\(InK .u32 x.inc)
def GDot.wf (x:GDot):Prop:=(GActor.wf x.actor)/\(InK .u64 x.seq)
def GItem.wf (x:GItem):Prop:=(InK .u64 x.time)/\(GDot.wf x.dot)/\(x.text.length<=maxLen)
def GLeaf.wf (x:GLeaf):Prop:=(InK .u8 x.typ)/\(InK .i64 x.n)/\(InK .u64 x.time)/\(GDot.wf x.dot)/\(x.text.length<=maxLen)/\(x.items.length<=maxLen/\∀y ∈ x.items,GItem.wf y)/\(x.tombs.length<=maxLen/\∀y ∈ x.tombs,GDot.wf y)
mutual
def GNode.wf:GNode->Prop
 | ⟨name,leaves,subs⟩=>(name.length<=maxLen)/\(leaves.length<=maxLen/\∀y ∈ leaves,GLeaf.wf y)/\(GNode.wfs subs)
def GNode.wfs:List GNode->Prop
 | []=>True
 | x::r=>x.wf/\GNode.wfs r
end
theorem GNode.wfs_iff (l:List GNode):GNode.wfs l ↔ ∀y ∈ l,GNode.wf y:=by
 induction l with
 | nil=>simp [GNode.wfs]
 | cons x r ih=>simp [GNode.wfs,ih]
def GQuery.wf (x:GQuery):Prop:=(InK .u8 x.kind)/\(x.path.length<=maxLen/\∀y ∈ x.path,y.length<=maxLen)
def GAnswer.wf (x:GAnswer):Prop:=(True)/\(InK .i64 x.n)/\(x.l.length<=maxLen/\∀y ∈ x.l,y.length<=maxLen)
def GQueryAsked.wf (x:GQueryAsked):Prop:=(x.t.length<=maxLen/\∀y ∈ x.t,GNode.wf y)/\(x.path.length<=maxLen/\∀y ∈ x.path,y.length<=maxLen)
def GActor.bk (x:GActor):Nat:=(1+(1+0))+1
def GDot.bk (x:GDot):Nat:=(GActor.bk x.actor+(1+0))+1
def GItem.bk (x:GItem):Nat:=(1+(GDot.bk x.dot+((x.text.length+1)+0)))+1
def GLeaf.bk (x:GLeaf):Nat:=(1+(1+(1+(GDot.bk x.dot+((x.text.length+1)+(((x.items.map GItem.bk).sum+1)+(((x.tombs.map GDot.bk).sum+1)+0)))))))+1
mutual
def GNode.bk:GNode->Nat
 | ⟨name,leaves,subs⟩=>((name.length+1)+(((leaves.map GLeaf.bk).sum+1)+(((GNode.bks subs)+1)+0)))+1
def GNode.bks:List GNode->Nat
 | []=>0
 | x::r=>x.bk+GNode.bks r
end
theorem GNode.bks_eq (l:List GNode):GNode.bks l=(l.map GNode.bk).sum:=by
 induction l with
 | nil=>rfl
 | cons x r ih=>simp only [GNode.bks,List.map_cons,List.sum_cons,ih]
def GQuery.bk (x:GQuery):Nat:=(1+(((x.path.map (λs=>s.length+1)).sum+1)+0))+1
def GAnswer.bk (x:GAnswer):Nat:=(1+(1+(((x.l.map (λs=>s.length+1)).sum+1)+0)))+1
def GQueryAsked.bk (x:GQueryAsked):Nat:=(((x.t.map GNode.bk).sum+1)+(((x.path.map (λs=>s.length+1)).sum+1)+0))+1
def GField.wf (x:GField):Prop:=(x.path.length<=maxLen/\∀y ∈ x.path,y.length<=maxLen)/\(InK .u8 x.types)/\(InK .i64 x.min)/\(InK .i64 x.max)/\(InK .i64 x.items)
def GOp.wf (x:GOp):Prop:=(InK .u8 x.kind)/\(x.path.length<=maxLen/\∀y ∈ x.path,y.length<=maxLen)/\(InK .i64 x.n)/\(x.text.length<=maxLen)/\(x.dots.length<=maxLen/\∀y ∈ x.dots,GDot.wf y)
def GEvent.wf (x:GEvent):Prop:=(GDot.wf x.dot)/\(InK .u64 x.time)/\(GOp.wf x.op)
def GRow.wf (x:GRow):Prop:=(x.path.length<=maxLen/\∀y ∈ x.path,y.length<=maxLen)/\(GLeaf.wf x.leaf)
def GBreach.wf (x:GBreach):Prop:=(x.path.length<=maxLen/\∀y ∈ x.path,y.length<=maxLen)/\(InK .u8 x.typ)/\(InK .i64 x.e)
def GVarveref07Row.wf (x:GVarveref07Row):Prop:=(x.path.length<=maxLen/\∀y ∈ x.path,y.length<=maxLen)/\(GLeaf.wf x.l)
def GEdit.wf (x:GEdit):Prop:=(x.path.length<=maxLen/\∀y ∈ x.path,y.length<=maxLen)/\(InK .u8 x.typ)/\(True)/\(True)/\(GLeaf.wf x.was)/\(GLeaf.wf x.is)
def GField.bk (x:GField):Nat:=(((x.path.map (λs=>s.length+1)).sum+1)+(1+(1+(1+(1+0)))))+1
def GOp.bk (x:GOp):Nat:=(1+(((x.path.map (λs=>s.length+1)).sum+1)+(1+((x.text.length+1)+(((x.dots.map GDot.bk).sum+1)+0)))))+1
def GEvent.bk (x:GEvent):Nat:=(GDot.bk x.dot+(1+(GOp.bk x.op+0)))+1
def GRow.bk (x:GRow):Nat:=(((x.path.map (λs=>s.length+1)).sum+1)+(GLeaf.bk x.leaf+0))+1
def GBreach.bk (x:GBreach):Nat:=(((x.path.map (λs=>s.length+1)).sum+1)+(1+(1+0)))+1
def GVarveref07Row.bk (x:GVarveref07Row):Nat:=(((x.path.map (λs=>s.length+1)).sum+1)+(GLeaf.bk x.l+0))+1
def GEdit.bk (x:GEdit):Nat:=(((x.path.map (λs=>s.length+1)).sum+1)+(1+(1+(1+(GLeaf.bk x.was+(GLeaf.bk x.is+0))))))+1
def GQuota.wf (x:GQuota):Prop:=(x.name.length<=maxLen)/\(InK .i64 x.leaves)/\(InK .i64 x.items)/\(InK .i64 x.tombs)/\(InK .i64 x.bytes)
def GQuota.bk (x:GQuota):Nat:=((x.name.length+1)+(1+(1+(1+(1+0)))))+1
abbrev zLf:GLeaf:=GLeaf.mk (0:Int) (0:Int) (0:Int) (GDot.mk (GActor.mk (0:Int) (0:Int)) (0:Int)) ([]:ze) ([]:List GItem) ([]:List GDot)
def yC:Nat->(t0:(List GNode))->(deep1:Int)->Option Int
 | 0,_,_=>none
 | n+1,t0,deep1=>(lp (yb (λ(s1:Int×Int)=>((if ((decide (s1.2 < ((t0).length:Int)))&&(decide (deep1 < (10:Int))))=true then ((yd t0 s1.2).bind λy68=>((yd t0 s1.2).bind λy70=>((yC n y70.subs (IntKind.wrap .i64 (deep1+(1:Int)))).bind λv71=>(lp (yb (λ(s2:Int×Int)=>(((yd t0 s1.2).bind λy102=>(if (decide (s2.2 < ((y102.leaves).length:Int)))=true then ((yd t0 s1.2).bind λy105=>((yd y105.leaves s2.2).bind λy106=>(lp (zj (λ(n3:Nat) (x3:GItem) (s3:Int)=>(some (.nxt (IntKind.wrap .i64 ((IntKind.wrap .i64 (s3+(1:Int)))+((x3.text).length:Int)))):Option (Out _ Int))) y106.items 0 (IntKind.wrap .i64 ((IntKind.wrap .i64 ((IntKind.wrap .i64 (s2.1+(1:Int)))+((y106.text).length:Int)))+((y106.tombs).length:Int)))) λ(s3:Int)=>some (.nxt (s3,(IntKind.wrap .i64 (s2.2+(1:Int)))))))) else some (.brk (s2.1,s2.2)))):Option (Out _ (Int×Int)))) ((IntKind.wrap .i64 ((IntKind.wrap .i64 ((IntKind.wrap .i64 (s1.1+(1:Int)))+((y68.name).length:Int)))+v71)),(0:Int))) λ(s2:Int×Int)=>some (.nxt (s2.1,(IntKind.wrap .i64 (s1.2+(1:Int))))))))) else some (.brk (s1.1,s1.2))):Option (Out _ (Int×Int)))) ((0:Int),(0:Int))) λ(s1:Int×Int)=>some s1.1)
def ref07Xsize (t0:(List GNode)) (deep1:Int):Option Int:=anyN λn=>yC n t0 deep1
def wy (t0:(List GNode)):Option Bool :=
 ((ref07Xsize t0 (0:Int)).bind λv1=>some (decide (v1 > (1500:Int))))
def wM (path0:(List ze)):Option Bool :=
 (lp (zj (λ(n1:Nat) (x1:ze) (s1:Int)=>(some (.nxt (IntKind.wrap .i64 (s1+((x1).length:Int)))):Option (Out _ Int))) path0 0 (0:Int)) λ(s1:Int)=>some ((decide (((path0).length:Int) > (20:Int))) || (decide (s1 > (500:Int)))))
def xR (n0:Int):Option GDot :=
 some (GDot.mk (GActor.mk (0:Int) (1:Int)) n0)
def yZ (s0:(List ze)) (f1:(ze->Option Bool)):Option Int :=
 (lp (zj (λ(n1:Nat) (x1:ze) (s1:Unit)=>(((f1 x1).bind λv7=>(if v7=true then some (.ret (n1:Int)) else some (.nxt ()))):Option (Out _ Unit))) s0 0 ()) λ(s1:Unit)=>some (-1:Int))
def zW (s0:(List ze)) (f1:(ze->Option Bool)):Option Bool :=
 ((yZ s0 f1).bind λv1=>some (decide (v1 >= (0:Int))))
def xS (s0:ze) (f1:(Int->Option Bool)) (truth2:Bool):Option Int :=
 (lp (yb (λ(s1:Nat)=>((if s1 < (s0).length then ((f1 ((dec s0 s1).1:Int)).bind λv6=>(if (v6==truth2)=true then some (.ret (s1:Int)) else some (.nxt (s1+(dec s0 s1).2)))) else some (.brk s1)):Option (Out _ Nat))) 0) λ(s1:Nat)=>some (-1:Int))
def wa (s0:ze) (f1:(Int->Option Bool)):Option Int :=
 ((xS s0 f1 true).bind λv1=>some v1)
def yI (s0:ze) (f1:(Int->Option Bool)):Option Bool :=
 ((wa s0 f1).bind λv1=>some (decide (v1 >= (0:Int))))
def vg (r0:Int):Option Bool :=
 some ((((decide (r0 < (97:Int))) || (decide (r0 > (122:Int))))&&((decide (r0 < (65:Int))) || (decide (r0 > (90:Int)))))&&((decide (r0 < (48:Int))) || (decide (r0 > (57:Int)))))
def vF (s0:ze):Option Bool :=
 ((if (((decide (((s0).length:Int) >= (1:Int)))&&(decide (((s0).length:Int)<=(12:Int))))==true)=true then yI s0 (λx0=>vg x0) else some default).bind λv3=>some (((decide (((s0).length:Int) >= (1:Int)))&&(decide (((s0).length:Int)<=(12:Int))))&&(!v3)))
def qL (s0:ze):Option Bool :=
 ((vF s0).bind λv1=>some (!v1))
def wJ (p0:(List ze)):Option Bool :=
 ((if (((decide (((p0).length:Int) >= (1:Int)))&&(decide (((p0).length:Int)<=(3:Int))))==true)=true then zW p0 (λx0=>qL x0) else some default).bind λv3=>some (((decide (((p0).length:Int) >= (1:Int)))&&(decide (((p0).length:Int)<=(3:Int))))&&(!v3)))
def xZ (q0:GQuery):Option Bool :=
 (if ((q0.kind==(5:Int))&&(((q0.path).length:Int)==(0:Int)))=true then some true else ((if (((decide (q0.kind >= (1:Int)))&&(decide (q0.kind<=(5:Int))))==true)=true then wJ q0.path else some default).bind λv3=>some (((decide (q0.kind >= (1:Int)))&&(decide (q0.kind<=(5:Int))))&&v3)))
def yE (s0:(List GNode)) (f1:(GNode->Option Bool)):Option Int :=
 (lp (zj (λ(n1:Nat) (x1:GNode) (s1:Unit)=>(((f1 x1).bind λv7=>(if v7=true then some (.ret (n1:Int)) else some (.nxt ()))):Option (Out _ Unit))) s0 0 ()) λ(s1:Unit)=>some (-1:Int))
def vr (n0:GNode) (c0:ze):Option Bool :=
 some (n0.name==c0)
def xd (t0:(List GNode)) (name1:ze):Option (GNode×Bool) :=
 ((yE t0 (λx0=>vr x0 name1)).bind λv1=>(if (decide (v1 < (0:Int)))=true then some ((GNode.mk ([]:ze) ([]:List GLeaf) ([]:List GNode)),false) else ((yd t0 v1).bind λy3=>some (y3,true))))
def yh (s0:(List GLeaf)) (f1:(GLeaf->Option Bool)):Option Int :=
 (lp (zj (λ(n1:Nat) (x1:GLeaf) (s1:Unit)=>(((f1 x1).bind λv7=>(if v7=true then some (.ret (n1:Int)) else some (.nxt ()))):Option (Out _ Unit))) s0 0 ()) λ(s1:Unit)=>some (-1:Int))
def qi (l0:GLeaf) (c0:Int):Option Bool :=
 some (l0.typ==c0)
def wu (kind0:Int):Option GLeaf :=
 (if ((decide (kind0 < (1:Int))) || (decide (kind0 > (4:Int))))=true then some zLf else some (GLeaf.mk kind0 (0:Int) (0:Int) (GDot.mk (GActor.mk (0:Int) (0:Int)) (0:Int)) ([]:ze) ([]:List GItem) ([]:List GDot)))
def yk (s0:(List GItem)):Option (List GItem) :=
 (nilq s0 λb1=>(if b1=true then some ([]:List GItem) else (zB ((([]:List GItem)).length+(s0).length<=yg) (some (([]:List GItem)++s0)))))
def yo (s0:(List GDot)):Option (List GDot) :=
 (nilq s0 λb1=>(if b1=true then some ([]:List GDot) else (zB ((([]:List GDot)).length+(s0).length<=yg) (some (([]:List GDot)++s0)))))
def yT (t0:(List GNode)) (path1:(List ze)) (kind2:Int):Option (GLeaf×Bool) :=
 (lp ((lp (zj (λ(n2:Nat) (x2:ze) (s2:(List GNode)×Bool×ze×(List GLeaf)×(List GNode))=>(((xd s2.1 x2).bind λv47=>(if (!v47.2)=true then some (.brk (s2.1,v47.2,v47.1.name,v47.1.leaves,v47.1.subs)) else some (.nxt (v47.1.subs,v47.2,v47.1.name,v47.1.leaves,v47.1.subs)))):Option (Out _ ((List GNode)×Bool×ze×(List GLeaf)×(List GNode))))) path1 0 (t0,(decide (((path1).length:Int) > (0:Int))),([]:ze),([]:List GLeaf),([]:List GNode))) λ(s2:(List GNode)×Bool×ze×(List GLeaf)×(List GNode))=>some (.inr (s2.2.1,s2.2.2.1,s2.2.2.2.1,s2.2.2.2.2))):Option (_ ⊕ (Bool×ze×(List GLeaf)×(List GNode)))) λ(s1:Bool×ze×(List GLeaf)×(List GNode))=>((yh s1.2.2.1 (λx0=>qi x0 kind2)).bind λv49=>((if (((!s1.1) || (decide (v49 < (0:Int))))==false)=true then wu kind2 else some default).bind λv50=>(if (((!s1.1) || (decide (v49 < (0:Int)))) || (v50.typ==(0:Int)))=true then ((wu kind2).bind λv52=>some (v52,false)) else ((yd s1.2.2.1 v49).bind λy53=>((yk y53.items).bind λv54=>((yo y53.tombs).bind λv55=>some ((GLeaf.mk y53.typ y53.n y53.time y53.dot y53.text v54 v55),true))))))))
def yW (x0:GQueryAsked):Option GAnswer :=
 ((yT x0.t x0.path (1:Int)).bind λv1=>some (GAnswer.mk v1.2 v1.1.n ([]:List ze)))
def xq (x0:GQueryAsked):Option GAnswer :=
 ((yT x0.t x0.path (2:Int)).bind λv1=>(if (v1.1.time==(0:Int))=true then some (GAnswer.mk false (0:Int) ([]:List ze)) else some (GAnswer.mk true (0:Int) ([v1.1.text]:List ze))))
def wI (l0:GLeaf):Option (List ze) :=
 (lp (zj (λ(n1:Nat) (x1:GItem) (s1:(List ze))=>((zB ((s1).length+(([x1.text]:List ze)).length<=yg) (some (.nxt (s1++([x1.text]:List ze))))):Option (Out _ (List ze)))) l0.items 0 ([]:List ze)) λ(s1:(List ze))=>some s1)
/-- slices.Sort[[]string,string]: sortS -/
def slicesSortStringX:Unit:=()
def yB (s0:(List ze)):Option (List ze) :=
 (if (decide (((s0).length:Int) < (2:Int)))=true then some s0 else (lp (yb (λ(s1:Int)=>((if (decide (s1 < ((s0).length:Int)))=true then ((yd s0 s1).bind λy35=>((yd s0 (IntKind.wrap .i64 (s1 - (1:Int)))).bind λy36=>(if (y35==y36)=true then (zB (0<=s1/\s1<=((s0.length:Nat):Int)) ((lp (yb (λ(s2:Int×Int×(List ze))=>((zB ((s2.2.2).length=s0.length) ((if (decide (s2.2.1 < ((s0.length - s1.toNat:Nat):Int)))=true then ((yd (s2.2.2.drop s1.toNat) s2.2.1).bind λy51=>((yd (s2.2.2.drop s1.toNat) (IntKind.wrap .i64 (s2.2.1 - (1:Int)))).bind λy52=>(if (!(y51==y52))=true then ((yd (s2.2.2.drop s1.toNat) s2.2.1).bind λy54=>((yd s2.2.2 s2.1).bind λy55=>some (.nxt ((IntKind.wrap .i64 (s2.1+(1:Int))),(IntKind.wrap .i64 (s2.2.1+(1:Int))),(s2.2.2.set s2.1.toNat y54))))) else some (.nxt (s2.1,(IntKind.wrap .i64 (s2.2.1+(1:Int))),s2.2.2))))) else some (.brk (s2.1,s2.2.1,s2.2.2))))):Option (Out _ (Int×Int×(List ze))))) (s1,(1:Int),s0)) λ(s2:Int×Int×(List ze))=>(zB (0<=s2.1/\s2.1<=((s0.length:Nat):Int)) (((slc (s2.2.2.take s2.1.toNat++List.replicate (s0.length - s2.1.toNat) ([]:ze)) (0:Int) s2.1).bind λm57=>some (.ret m57))))))) else some (.nxt (IntKind.wrap .i64 (s1+(1:Int))))))) else some (.brk s1)):Option (Out _ Int))) (1:Int)) λ(s1:Int)=>some s0))
def xL (x0:GQueryAsked):Option GAnswer :=
 ((yT x0.t x0.path (3:Int)).bind λv1=>((wI v1.1).bind λv2=>((sortS v2).bind λv3=>((yB v3).bind λv4=>some (GAnswer.mk v1.2 (0:Int) v4)))))
def xM (x0:GQueryAsked):Option GAnswer :=
 ((yT x0.t x0.path (4:Int)).bind λv1=>((wI v1.1).bind λv2=>some (GAnswer.mk v1.2 (0:Int) v2)))
def treeNames (t0:(List GNode)) (path1:(List ze)):Option (List ze) :=
 (lp (zj (λ(n1:Nat) (x1:ze) (s1:(List GNode))=>(((xd s1 x1).bind λv7=>some (.nxt v7.1.subs)):Option (Out _ (List GNode)))) path1 0 t0) λ(s1:(List GNode))=>(lp (zj (λ(n2:Nat) (x2:GNode) (s2:(List ze))=>((zB ((s2).length+(([x2.name]:List ze)).length<=yg) (some (.nxt (s2++([x2.name]:List ze))))):Option (Out _ (List ze)))) s1 0 ([]:List ze)) λ(s2:(List ze))=>((sortS s2).bind λv15=>some v15)))
def xf (x0:GQueryAsked):Option GAnswer :=
 ((treeNames x0.t x0.path).bind λv1=>some (GAnswer.mk (decide ((((v1).length:Nat):Int) > (0:Int))) (0:Int) v1))
def vG (n0:Int):Option Bool :=
 some ((decide (n0 >= (1:Int)))&&(decide (n0<=(1099511627776:Int))))
def dotMayActor (a0:GActor):Option Bool :=
 some (((decide (a0.rep < (16:Int)))&&(decide (a0.inc >= (1:Int))))&&(decide (a0.inc<=(4:Int))))
def dotMay (d0:GDot):Option Bool :=
 ((dotMayActor d0.actor).bind λv1=>some ((v1&&(decide (d0.seq >= (1:Int))))&&(decide (d0.seq<=(1048576:Int)))))
def wK (s0:ze):Option Bool :=
 some (decide (((s0).length:Int)<=(40:Int)))
def vK (vals0:(List Int)):Option Int :=
 (lp (zj (λ(n1:Nat) (x1:Int) (s1:Unit)=>((if (x1 != (0:Int))=true then some (.ret x1) else some (.nxt ())):Option (Out _ Unit))) vals0 0 ()) λ(s1:Unit)=>some (0:Int))
def x9 (x0:Int):Option Bool :=
 some (x0 != x0)
def yv (x0:Int) (y1:Int):Option Int :=
 ((x9 x0).bind λv1=>((x9 y1).bind λv2=>(if v1=true then (if v2=true then some (0:Int) else some (-1:Int)) else (if v2=true then some (1:Int) else (if (decide (x0 < y1))=true then some (-1:Int) else (if (decide (x0 > y1))=true then some (1:Int) else some (0:Int)))))))
def xP (x0:Int):Option Bool :=
 some (x0 != x0)
def xy (x0:Int) (y1:Int):Option Int :=
 ((xP x0).bind λv1=>((xP y1).bind λv2=>(if v1=true then (if v2=true then some (0:Int) else some (-1:Int)) else (if v2=true then some (1:Int) else (if (decide (x0 < y1))=true then some (-1:Int) else (if (decide (x0 > y1))=true then some (1:Int) else some (0:Int)))))))
def vJ (a0:GActor) (b1:GActor):Option Int :=
 ((yv a0.rep b1.rep).bind λv1=>((xy a0.inc b1.inc).bind λv2=>((vK ([v1,v2]:List Int)).bind λv3=>some v3)))
def xO (x0:Int):Option Bool :=
 some (x0 != x0)
def yS (x0:Int) (y1:Int):Option Int :=
 ((xO x0).bind λv1=>((xO y1).bind λv2=>(if v1=true then (if v2=true then some (0:Int) else some (-1:Int)) else (if v2=true then some (1:Int) else (if (decide (x0 < y1))=true then some (-1:Int) else (if (decide (x0 > y1))=true then some (1:Int) else some (0:Int)))))))
def x8 (a0:GDot) (b1:GDot):Option Int :=
 ((vJ a0.actor b1.actor).bind λv1=>((yS a0.seq b1.seq).bind λv2=>((vK ([v1,v2]:List Int)).bind λv3=>some v3)))
def wX (a0:Int) (d1:GDot) (b2:Int) (o3:GDot):Option Int :=
 ((yS a0 b2).bind λv1=>((x8 d1 o3).bind λv2=>((vK ([v1,v2]:List Int)).bind λv3=>some v3)))
def qd (time0:Int) (d1:GDot) (other2:Int) (o3:GDot):Option Bool :=
 ((wX time0 d1 other2 o3).bind λv1=>some (decide (v1 < (0:Int))))
def qv (l0:(List GItem)):Option Bool :=
 (lp (zj (λ(n1:Nat) (x1:GItem) (s1:List (GDot×Int))=>(some (.nxt (mput GDot.eqb s1 x1.dot (IntKind.wrap .i64 ((xg GDot.eqb (0:Int) s1 x1.dot)+(1:Int))))):Option (Out _ (List (GDot×Int))))) l0 0 ([]:List (GDot×Int))) λ(s1:List (GDot×Int))=>some (decide (((s1).length:Int) < ((l0).length:Int))))
def vj (l0:(List GItem)) (timed1:Bool):Option Bool :=
 (lp (zj (λ(n1:Nat) (x1:GItem) (s1:Unit)=>(((dotMay x1.dot).bind λv13=>((if ((!v13)==false)=true then wK x1.text else some default).bind λv14=>((if (((!v13) || (!v14))==false)=true then vG x1.time else some default).bind λv15=>(if ((((!v13) || (!v14)) || (!(timed1==v15))) || ((!timed1)&&(x1.time != (0:Int))))=true then some (.ret false) else (zB (((decide ((n1:Int) > (0:Int)))==true)=true->0<=(IntKind.wrap .i64 ((n1:Int) - (1:Int)))/\(IntKind.wrap .i64 ((n1:Int) - (1:Int))) < ((l0).length:Int)) ((zB (((decide ((n1:Int) > (0:Int)))==true)=true->0<=(IntKind.wrap .i64 ((n1:Int) - (1:Int)))/\(IntKind.wrap .i64 ((n1:Int) - (1:Int))) < ((l0).length:Int)) (((if ((decide ((n1:Int) > (0:Int)))==true)=true then qd (((l0).getD (IntKind.wrap .i64 ((n1:Int) - (1:Int))).toNat default).time) (((l0).getD (IntKind.wrap .i64 ((n1:Int) - (1:Int))).toNat default).dot) x1.time x1.dot else some default).bind λv19=>(if ((decide ((n1:Int) > (0:Int)))&&(!v19))=true then some (.ret false) else some (.nxt ()))))))))))):Option (Out _ Unit))) l0 0 ()) λ(s1:Unit)=>((qv l0).bind λv21=>some (!v21)))
def yJ (s0:(List GItem)) (f1:(GItem->Option Bool)):Option Int :=
 (lp (zj (λ(n1:Nat) (x1:GItem) (s1:Unit)=>(((f1 x1).bind λv7=>(if v7=true then some (.ret (n1:Int)) else some (.nxt ()))):Option (Out _ Unit))) s0 0 ()) λ(s1:Unit)=>some (-1:Int))
def yn (s0:(List GItem)) (f1:(GItem->Option Bool)):Option Bool :=
 ((yJ s0 f1).bind λv1=>some (decide (v1 >= (0:Int))))
def leafXhasC1 (x0:GItem) (c0:GDot):Option Bool :=
 some (x0.dot.actor.rep==c0.actor.rep&&(x0.dot.actor.inc==c0.actor.inc&&(x0.dot.seq==c0.seq&&true)))
def qx (l0:(List GItem)) (d1:GDot):Option Bool :=
 ((yn l0 (λx0=>leafXhasC1 x0 d1)).bind λv1=>some v1)
def qw (l0:GLeaf):Option Bool :=
 (lp (zj (λ(n1:Nat) (x1:GDot) (s1:Unit)=>(((dotMay x1).bind λv19=>(zB ((((!v19)==false)&&((decide ((n1:Int) > (0:Int)))==true))=true->0<=(IntKind.wrap .i64 ((n1:Int) - (1:Int)))/\(IntKind.wrap .i64 ((n1:Int) - (1:Int))) < ((l0.tombs).length:Int)) (((if (((!v19)==false)&&((decide ((n1:Int) > (0:Int)))==true))=true then x8 ((l0.tombs).getD (IntKind.wrap .i64 ((n1:Int) - (1:Int))).toNat default) x1 else some default).bind λv21=>((if (((!v19) || ((decide ((n1:Int) > (0:Int)))&&(decide (v21 >= (0:Int)))))==false)=true then qx l0.items x1 else some default).bind λv22=>(if (((!v19) || ((decide ((n1:Int) > (0:Int)))&&(decide (v21 >= (0:Int))))) || v22)=true then some (.ret false) else some (.nxt ()))))))):Option (Out _ Unit))) l0.tombs 0 ()) λ(s1:Unit)=>some true)
def xI (s10:(List GItem)) (s21:(List GItem)):Option Bool :=
 (if (((s10).length:Int) != ((s21).length:Int))=true then some false else (lp (zj (λ(n1:Nat) (x1:GItem) (s1:Unit)=>(((yd s21 (n1:Int)).bind λy10=>(if (!(x1.time==y10.time&&(x1.dot.actor.rep==y10.dot.actor.rep&&(x1.dot.actor.inc==y10.dot.actor.inc&&(x1.dot.seq==y10.dot.seq&&(x1.text==y10.text&&true))))))=true then some (.ret false) else some (.nxt ()))):Option (Out _ Unit))) s10 0 ()) λ(s1:Unit)=>some true))
def xU (s10:(List GDot)) (s21:(List GDot)):Option Bool :=
 (if (((s10).length:Int) != ((s21).length:Int))=true then some false else (lp (zj (λ(n1:Nat) (x1:GDot) (s1:Unit)=>(((yd s21 (n1:Int)).bind λy10=>(if (!(x1.actor.rep==y10.actor.rep&&(x1.actor.inc==y10.actor.inc&&(x1.seq==y10.seq&&true))))=true then some (.ret false) else some (.nxt ()))):Option (Out _ Unit))) s10 0 ()) λ(s1:Unit)=>some true))
def xN (a0:GLeaf) (b1:GLeaf):Option Bool :=
 ((if ((((((a0.typ==b1.typ)&&(a0.n==b1.n))&&(a0.time==b1.time))&&(a0.dot.actor.rep==b1.dot.actor.rep&&(a0.dot.actor.inc==b1.dot.actor.inc&&(a0.dot.seq==b1.dot.seq&&true))))&&(a0.text==b1.text))==true)=true then xI a0.items b1.items else some default).bind λv1=>((if (((((((a0.typ==b1.typ)&&(a0.n==b1.n))&&(a0.time==b1.time))&&(a0.dot.actor.rep==b1.dot.actor.rep&&(a0.dot.actor.inc==b1.dot.actor.inc&&(a0.dot.seq==b1.dot.seq&&true))))&&(a0.text==b1.text))&&v1)==true)=true then xU a0.tombs b1.tombs else some default).bind λv2=>some (((((((a0.typ==b1.typ)&&(a0.n==b1.n))&&(a0.time==b1.time))&&(a0.dot.actor.rep==b1.dot.actor.rep&&(a0.dot.actor.inc==b1.dot.actor.inc&&(a0.dot.seq==b1.dot.seq&&true))))&&(a0.text==b1.text))&&v1)&&v2)))
def qO (l0:GLeaf):Option Bool :=
 (if (l0.typ==(1:Int))=true then ((xN l0 (GLeaf.mk l0.typ l0.n (0:Int) (GDot.mk (GActor.mk (0:Int) (0:Int)) (0:Int)) ([]:ze) ([]:List GItem) ([]:List GDot))).bind λv2=>some v2) else (if (l0.typ==(2:Int))=true then ((if ((l0.time != (0:Int))==true)=true then vG l0.time else some default).bind λv4=>((if (((l0.time != (0:Int))==true)&&(v4==true))=true then dotMay l0.dot else some default).bind λv5=>((if (((l0.time != (0:Int))==true)&&((v4&&v5)==true))=true then wK l0.text else some default).bind λv6=>(if (((l0.time != (0:Int))&&(!((v4&&v5)&&v6))) || ((l0.time==(0:Int))&&((!(l0.dot.actor.rep==(0:Int)&&(l0.dot.actor.inc==(0:Int)&&(l0.dot.seq==(0:Int)&&true)))) || (!(l0.text==([]:ze))))))=true then some false else ((xN l0 (GLeaf.mk l0.typ (0:Int) l0.time l0.dot l0.text ([]:List GItem) ([]:List GDot))).bind λv8=>some v8))))) else (if (l0.typ==(3:Int))=true then ((vj l0.items false).bind λv10=>((if ((!v10)==false)=true then qw l0 else some default).bind λv11=>(if ((!v10) || (!v11))=true then some false else ((xN l0 (GLeaf.mk l0.typ (0:Int) (0:Int) (GDot.mk (GActor.mk (0:Int) (0:Int)) (0:Int)) ([]:ze) l0.items l0.tombs)).bind λv13=>some v13)))) else (if (l0.typ==(4:Int))=true then ((vj l0.items true).bind λv15=>(if (!v15)=true then some false else ((xN l0 (GLeaf.mk l0.typ (0:Int) (0:Int) (GDot.mk (GActor.mk (0:Int) (0:Int)) (0:Int)) ([]:ze) l0.items ([]:List GDot))).bind λv17=>some v17))) else some false))))
def wF:Nat->(t0:(List GNode))->(deep1:Int)->Option Bool
 | 0,_,_=>none
 | n+1,t0,deep1=>(if ((decide (((t0).length:Int) > (0:Int)))&&(deep1==(3:Int)))=true then some false else (lp (zj (λ(n1:Nat) (x1:GNode) (s1:Unit)=>(((vF x1.name).bind λv27=>(zB ((((!v27)==false)&&((decide ((n1:Int) > (0:Int)))==true))=true->0<=(IntKind.wrap .i64 ((n1:Int) - (1:Int)))/\(IntKind.wrap .i64 ((n1:Int) - (1:Int))) < ((t0).length:Int)) (((if ((((!v27) || ((decide ((n1:Int) > (0:Int)))&&(!(Op.bytesLess (((t0).getD (IntKind.wrap .i64 ((n1:Int) - (1:Int))).toNat default).name) x1.name)))) || ((IntKind.wrap .i64 (((x1.leaves).length:Int)+((x1.subs).length:Int)))==(0:Int)))==false)=true then wF n x1.subs (IntKind.wrap .i64 (deep1+(1:Int))) else some default).bind λv31=>(if ((((!v27) || ((decide ((n1:Int) > (0:Int)))&&(!(Op.bytesLess (((t0).getD (IntKind.wrap .i64 ((n1:Int) - (1:Int))).toNat default).name) x1.name)))) || ((IntKind.wrap .i64 (((x1.leaves).length:Int)+((x1.subs).length:Int)))==(0:Int))) || (!v31))=true then some (.ret false) else (lp (zj (λ(n2:Nat) (x2:GLeaf) (s2:Unit)=>(((qO x2).bind λv43=>(zB ((((!v43)==false)&&((decide ((n2:Int) > (0:Int)))==true))=true->0<=(IntKind.wrap .i64 ((n2:Int) - (1:Int)))/\(IntKind.wrap .i64 ((n2:Int) - (1:Int))) < ((x1.leaves).length:Int)) ((if ((!v43) || ((decide ((n2:Int) > (0:Int)))&&(decide (((x1.leaves).getD (IntKind.wrap .i64 ((n2:Int) - (1:Int))).toNat default).typ >= x2.typ))))=true then some (.ret (.ret false)) else some (.nxt ()))))):Option (Out _ Unit))) x1.leaves 0 ()) λ(s2:Unit)=>some (.nxt ()))))))):Option (Out _ Unit))) t0 0 ()) λ(s1:Unit)=>some true))
def treeXmay (t0:(List GNode)) (deep1:Int):Option Bool:=anyN λn=>wF n t0 deep1
def yL (t0:(List GNode)):Option Bool :=
 ((treeXmay t0 (0:Int)).bind λv1=>some v1)
def yp (t0:(List GNode)) (q1:GQuery):Option (GAnswer×Int) :=
 (if q1.kind=1 then ((xZ q1).bind λv2=>((if ((!v2)==false)=true then yL t0 else some default).bind λv3=>(if ((!v2) || (!v3))=true then some ((GAnswer.mk false (0:Int) ([]:List ze)),(2:Int)) else ((yW (GQueryAsked.mk t0 q1.path)).bind λv5=>some (v5,(0:Int)))))) else (if q1.kind=2 then ((xZ q1).bind λv7=>((if ((!v7)==false)=true then yL t0 else some default).bind λv8=>(if ((!v7) || (!v8))=true then some ((GAnswer.mk false (0:Int) ([]:List ze)),(2:Int)) else ((xq (GQueryAsked.mk t0 q1.path)).bind λv10=>some (v10,(0:Int)))))) else (if q1.kind=3 then ((xZ q1).bind λv12=>((if ((!v12)==false)=true then yL t0 else some default).bind λv13=>(if ((!v12) || (!v13))=true then some ((GAnswer.mk false (0:Int) ([]:List ze)),(2:Int)) else ((xL (GQueryAsked.mk t0 q1.path)).bind λv15=>some (v15,(0:Int)))))) else (if q1.kind=4 then ((xZ q1).bind λv17=>((if ((!v17)==false)=true then yL t0 else some default).bind λv18=>(if ((!v17) || (!v18))=true then some ((GAnswer.mk false (0:Int) ([]:List ze)),(2:Int)) else ((xM (GQueryAsked.mk t0 q1.path)).bind λv20=>some (v20,(0:Int)))))) else (if q1.kind=5 then ((xZ q1).bind λv22=>((if ((!v22)==false)=true then yL t0 else some default).bind λv23=>(if ((!v22) || (!v23))=true then some ((GAnswer.mk false (0:Int) ([]:List ze)),(2:Int)) else ((xf (GQueryAsked.mk t0 q1.path)).bind λv25=>some (v25,(0:Int)))))) else some ((GAnswer.mk false (0:Int) ([]:List ze)),(2:Int)))))))
def xQ (a0:GAnswer) (b1:GAnswer):Option Bool :=
 (if (((!(a0.is==b1.is)) || (a0.n != b1.n)) || (((a0.l).length:Int) != ((b1.l).length:Int)))=true then some false else (lp (zj (λ(n1:Nat) (x1:ze) (s1:Unit)=>(((yd b1.l (n1:Int)).bind λy18=>(if (!(x1==y18))=true then some (.ret false) else some (.nxt ()))):Option (Out _ Unit))) a0.l 0 ()) λ(s1:Unit)=>some true))
def wL  : Option Bool :=
 ((xR (1:Int)).bind λv1=>((xR (2:Int)).bind λv2=>((xR (3:Int)).bind λv3=>((yp ([(GNode.mk ([97]:ze) ([(GLeaf.mk (3:Int) (0:Int) (0:Int) (GDot.mk (GActor.mk (0:Int) (0:Int)) (0:Int)) ([]:ze) ([(GItem.mk (0:Int) v1 ([118]:ze)),(GItem.mk (0:Int) v2 ([117]:ze)),(GItem.mk (0:Int) v3 ([118]:ze))]:List GItem) ([]:List GDot))]:List GLeaf) ([]:List GNode))]:List GNode) (GQuery.mk (3:Int) ([([97]:ze)]:List ze))).bind λv4=>((yp ([(GNode.mk ([97]:ze) ([(GLeaf.mk (3:Int) (0:Int) (0:Int) (GDot.mk (GActor.mk (0:Int) (0:Int)) (0:Int)) ([]:ze) ([(GItem.mk (0:Int) v1 ([118]:ze)),(GItem.mk (0:Int) v2 ([117]:ze)),(GItem.mk (0:Int) v3 ([118]:ze))]:List GItem) ([]:List GDot))]:List GLeaf) ([]:List GNode))]:List GNode) (GQuery.mk (3:Int) ([([98]:ze)]:List ze))).bind λv5=>((yp ([(GNode.mk ([97]:ze) ([(GLeaf.mk (3:Int) (0:Int) (0:Int) (GDot.mk (GActor.mk (0:Int) (0:Int)) (0:Int)) ([]:ze) ([(GItem.mk (0:Int) v1 ([118]:ze)),(GItem.mk (0:Int) v2 ([117]:ze)),(GItem.mk (0:Int) v3 ([118]:ze))]:List GItem) ([]:List GDot))]:List GLeaf) ([]:List GNode))]:List GNode) (GQuery.mk (5:Int) ([]:List ze))).bind λv6=>((if ((((v4.2==(0:Int))&&(v5.2==(0:Int)))&&(v6.2==(0:Int)))==true)=true then xQ v4.1 (GAnswer.mk true (0:Int) ([([117]:ze),([118]:ze)]:List ze)) else some default).bind λv7=>((if (((((v4.2==(0:Int))&&(v5.2==(0:Int)))&&(v6.2==(0:Int)))&&v7)==true)=true then xQ v5.1 (GAnswer.mk false (0:Int) ([]:List ze)) else some default).bind λv8=>((if ((((((v4.2==(0:Int))&&(v5.2==(0:Int)))&&(v6.2==(0:Int)))&&v7)&&v8)==true)=true then xQ v6.1 (GAnswer.mk true (0:Int) ([([97]:ze)]:List ze)) else some default).bind λv9=>some ((((((v4.2==(0:Int))&&(v5.2==(0:Int)))&&(v6.2==(0:Int)))&&v7)&&v8)&&v9))))))))))
def ve:Nat->(t0:(List GNode))->Option (List GNode)
 | 0,_=>none
 | n+1,t0=>(lp (zj (λ(n1:Nat) (x1:GNode) (s1:(List GNode))=>(((ve n x1.subs).bind λv35=>(lp (zj (λ(n2:Nat) (x2:GLeaf) (s2:(List GLeaf))=>((zB ((([]:List GItem)).length+(x2.items).length<=yg) ((zB ((([]:List GDot)).length+(x2.tombs).length<=yg) ((zB ((s2).length+(([(GLeaf.mk x2.typ x2.n x2.time x2.dot x2.text (([]:List GItem)++x2.items) (([]:List GDot)++x2.tombs))]:List GLeaf)).length<=yg) (some (.nxt (s2++([(GLeaf.mk x2.typ x2.n x2.time x2.dot x2.text (([]:List GItem)++x2.items) (([]:List GDot)++x2.tombs))]:List GLeaf))))))))):Option (Out _ (List GLeaf)))) x1.leaves 0 ([]:List GLeaf)) λ(s2:(List GLeaf))=>(zB ((s1).length+(([(GNode.mk x1.name s2 v35)]:List GNode)).length<=yg) (some (.nxt (s1++([(GNode.mk x1.name s2 v35)]:List GNode))))))):Option (Out _ (List GNode)))) t0 0 ([]:List GNode)) λ(s1:(List GNode))=>some s1)
def ref07Own (t0:(List GNode)):Option (List GNode):=anyN λn=>ve n t0
def xB (s0:ze):Option Bool :=
 (if ((decide (((s0).length:Int) < (1:Int))) || (decide (((s0).length:Int) > (12:Int))))=true then some false else (lp (zj (λ(n1:Nat) (x1:UInt8) (s1:Unit)=>((if (!((((decide ((x1.toNat:Int) >= (97:Int)))&&(decide ((x1.toNat:Int)<=(122:Int)))) || ((decide ((x1.toNat:Int) >= (65:Int)))&&(decide ((x1.toNat:Int)<=(90:Int))))) || ((decide ((x1.toNat:Int) >= (48:Int)))&&(decide ((x1.toNat:Int)<=(57:Int))))))=true then some (.ret false) else some (.nxt ())):Option (Out _ Unit))) s0 0 ()) λ(s1:Unit)=>some true))
def we (p0:(List ze)):Option Bool :=
 (lp (zj (λ(n1:Nat) (x1:ze) (s1:Unit)=>(((xB x1).bind λv9=>(if (!v9)=true then some (.ret false) else some (.nxt ()))):Option (Out _ Unit))) p0 0 ()) λ(s1:Unit)=>some ((decide (((p0).length:Int) >= (1:Int)))&&(decide (((p0).length:Int)<=(3:Int)))))
def qm (q0:GQuery):Option Bool :=
 (if ((decide (q0.kind < (1:Int))) || (decide (q0.kind > (5:Int))))=true then some false else ((we q0.path).bind λv2=>some (v2 || ((q0.kind==(5:Int))&&(((q0.path).length:Int)==(0:Int))))))
def wm (a0:GActor):Option Bool :=
 some (((decide (a0.rep<=(15:Int)))&&(decide (a0.inc >= (1:Int))))&&(decide (a0.inc<=(4:Int))))
def wU (d0:GDot):Option Bool :=
 ((wm d0.actor).bind λv1=>some ((v1&&(decide (d0.seq >= (1:Int))))&&(decide (d0.seq<=(1048576:Int)))))
def qa (l0:(List GItem)) (d1:GDot):Option Int :=
 (lp (zj (λ(n1:Nat) (x1:GItem) (s1:Unit)=>((if (x1.dot.actor.rep==d1.actor.rep&&(x1.dot.actor.inc==d1.actor.inc&&(x1.dot.seq==d1.seq&&true)))=true then some (.ret (n1:Int)) else some (.nxt ())):Option (Out _ Unit))) l0 0 ()) λ(s1:Unit)=>some (-1:Int))
def wH (l0:(List GDot)) (d1:GDot):Option Bool :=
 (lp (zj (λ(n1:Nat) (x1:GDot) (s1:Unit)=>((if (x1.actor.rep==d1.actor.rep&&(x1.actor.inc==d1.actor.inc&&(x1.seq==d1.seq&&true)))=true then some (.ret true) else some (.nxt ())):Option (Out _ Unit))) l0 0 ()) λ(s1:Unit)=>some false)
def wg (a0:GDot) (b1:GDot):Option Bool :=
 (if (a0.actor.rep != b1.actor.rep)=true then some (decide (a0.actor.rep < b1.actor.rep)) else (if (a0.actor.inc != b1.actor.inc)=true then some (decide (a0.actor.inc < b1.actor.inc)) else some (decide (a0.seq < b1.seq))))
def xY (time0:Int) (d1:GDot) (other2:Int) (o3:GDot):Option Bool :=
 (if (time0 != other2)=true then some (decide (time0 < other2)) else ((wg d1 o3).bind λv2=>some v2))
def qp (l0:GLeaf):Option Bool :=
 (if (((((decide (l0.typ < (1:Int))) || (decide (l0.typ > (4:Int)))) || ((l0.typ != (1:Int))&&(l0.n != (0:Int)))) || ((decide (l0.typ < (3:Int)))&&(decide (((l0.items).length:Int) > (0:Int))))) || ((l0.typ != (3:Int))&&(decide (((l0.tombs).length:Int) > (0:Int)))))=true then some false else (lp ((if ((l0.typ != (2:Int)) || (l0.time==(0:Int)))=true then (if (((l0.time != (0:Int)) || (!(l0.dot.actor.rep==(0:Int)&&(l0.dot.actor.inc==(0:Int)&&(l0.dot.seq==(0:Int)&&true))))) || (!(l0.text==([]:ze))))=true then some (.inl false) else some (.inr ())) else ((if ((decide (l0.time > (1099511627776:Int)))==false)=true then wU l0.dot else some default).bind λv11=>(if (((decide (l0.time > (1099511627776:Int))) || (!v11)) || (decide (((l0.text).length:Int) > (40:Int))))=true then some (.inl false) else some (.inr ())))):Option (_ ⊕ Unit)) λ(s1:Unit)=>(lp (zj (λ(n2:Nat) (x2:GItem) (s2:Unit)=>(((wU x2.dot).bind λv41=>((if (((((!v41) || (decide (((x2.text).length:Int) > (40:Int)))) || ((l0.typ==(3:Int))&&(x2.time != (0:Int)))) || ((l0.typ==(4:Int))&&((decide (x2.time < (1:Int))) || (decide (x2.time > (1099511627776:Int))))))==false)=true then qa l0.items x2.dot else some default).bind λv43=>((if ((((((!v41) || (decide (((x2.text).length:Int) > (40:Int)))) || ((l0.typ==(3:Int))&&(x2.time != (0:Int)))) || ((l0.typ==(4:Int))&&((decide (x2.time < (1:Int))) || (decide (x2.time > (1099511627776:Int)))))) || (v43 != (n2:Int)))==false)=true then wH l0.tombs x2.dot else some default).bind λv44=>(if ((((((!v41) || (decide (((x2.text).length:Int) > (40:Int)))) || ((l0.typ==(3:Int))&&(x2.time != (0:Int)))) || ((l0.typ==(4:Int))&&((decide (x2.time < (1:Int))) || (decide (x2.time > (1099511627776:Int)))))) || (v43 != (n2:Int))) || v44)=true then some (.ret false) else (zB (((decide ((n2:Int) > (0:Int)))==true)=true->0<=(IntKind.wrap .i64 ((n2:Int) - (1:Int)))/\(IntKind.wrap .i64 ((n2:Int) - (1:Int))) < ((l0.items).length:Int)) ((zB (((decide ((n2:Int) > (0:Int)))==true)=true->0<=(IntKind.wrap .i64 ((n2:Int) - (1:Int)))/\(IntKind.wrap .i64 ((n2:Int) - (1:Int))) < ((l0.items).length:Int)) (((if ((decide ((n2:Int) > (0:Int)))==true)=true then xY (((l0.items).getD (IntKind.wrap .i64 ((n2:Int) - (1:Int))).toNat default).time) (((l0.items).getD (IntKind.wrap .i64 ((n2:Int) - (1:Int))).toNat default).dot) x2.time x2.dot else some default).bind λv48=>(if ((decide ((n2:Int) > (0:Int)))&&(!v48))=true then some (.ret false) else some (.nxt ()))))))))))):Option (Out _ Unit))) l0.items 0 ()) λ(s2:Unit)=>(lp (zj (λ(n3:Nat) (x3:GDot) (s3:Unit)=>(((wU x3).bind λv73=>(zB ((((!v73)==false)&&((decide ((n3:Int) > (0:Int)))==true))=true->0<=(IntKind.wrap .i64 ((n3:Int) - (1:Int)))/\(IntKind.wrap .i64 ((n3:Int) - (1:Int))) < ((l0.tombs).length:Int)) ((zB ((((!v73)==false)&&((decide ((n3:Int) > (0:Int)))==true))=true->0<=(n3:Int)/\(n3:Int) < ((l0.tombs).length:Int)) (((if (((!v73)==false)&&((decide ((n3:Int) > (0:Int)))==true))=true then wg ((l0.tombs).getD (IntKind.wrap .i64 ((n3:Int) - (1:Int))).toNat default) ((l0.tombs).getD (n3:Int).toNat default) else some default).bind λv76=>(if ((!v73) || ((decide ((n3:Int) > (0:Int)))&&(!v76)))=true then some (.ret false) else some (.nxt ())))))))):Option (Out _ Unit))) l0.tombs 0 ()) λ(s3:Unit)=>some true))))
def xX:Nat->(t0:(List GNode))->(deep1:Int)->Option Bool
 | 0,_,_=>none
 | n+1,t0,deep1=>(lp (zj (λ(n1:Nat) (x1:GNode) (s1:Unit)=>(((if ((decide (deep1 >= (3:Int)))==false)=true then xB x1.name else some default).bind λv31=>(zB (((((decide (deep1 >= (3:Int))) || (!v31))==false)&&((decide ((n1:Int) > (0:Int)))==true))=true->0<=(IntKind.wrap .i64 ((n1:Int) - (1:Int)))/\(IntKind.wrap .i64 ((n1:Int) - (1:Int))) < ((t0).length:Int)) (((if (((((decide (deep1 >= (3:Int))) || (!v31)) || ((decide ((n1:Int) > (0:Int)))&&(!(Op.bytesLess (((t0).getD (IntKind.wrap .i64 ((n1:Int) - (1:Int))).toNat default).name) x1.name)))) || ((((x1.leaves).length:Int)==(0:Int))&&(((x1.subs).length:Int)==(0:Int))))==false)=true then xX n x1.subs (IntKind.wrap .i64 (deep1+(1:Int))) else some default).bind λv35=>(if (((((decide (deep1 >= (3:Int))) || (!v31)) || ((decide ((n1:Int) > (0:Int)))&&(!(Op.bytesLess (((t0).getD (IntKind.wrap .i64 ((n1:Int) - (1:Int))).toNat default).name) x1.name)))) || ((((x1.leaves).length:Int)==(0:Int))&&(((x1.subs).length:Int)==(0:Int)))) || (!v35))=true then some (.ret false) else (lp (zj (λ(n2:Nat) (x2:GLeaf) (s2:Unit)=>(((qp x2).bind λv50=>(zB ((((!v50)==false)&&((decide ((n2:Int) > (0:Int)))==true))=true->0<=(IntKind.wrap .i64 ((n2:Int) - (1:Int)))/\(IntKind.wrap .i64 ((n2:Int) - (1:Int))) < ((x1.leaves).length:Int)) ((zB ((((!v50)==false)&&((decide ((n2:Int) > (0:Int)))==true))=true->0<=(n2:Int)/\(n2:Int) < ((x1.leaves).length:Int)) ((if ((!v50) || ((decide ((n2:Int) > (0:Int)))&&(decide (((x1.leaves).getD (IntKind.wrap .i64 ((n2:Int) - (1:Int))).toNat default).typ >= ((x1.leaves).getD (n2:Int).toNat default).typ))))=true then some (.ret (.ret false)) else some (.nxt ()))))))):Option (Out _ Unit))) x1.leaves 0 ()) λ(s2:Unit)=>some (.nxt ()))))))):Option (Out _ Unit))) t0 0 ()) λ(s1:Unit)=>some true)
def ref07Xmay (t0:(List GNode)) (deep1:Int):Option Bool:=anyN λn=>xX n t0 deep1
def xK (t0:(List GNode)):Option Bool :=
 ((ref07Xmay t0 (0:Int)).bind λv1=>some v1)
def xE (t0:(List GNode)) (name1:ze):Option (GNode×Bool) :=
 (lp (zj (λ(n1:Nat) (x1:GNode) (sL1:Unit)=>((if (x1.name==name1)=true then some (.ret (x1,true)) else some (.nxt ())):Option (Out _ Unit))) t0 0 ()) λ(sL1:Unit)=>some ((GNode.mk ([]:ze) ([]:List GLeaf) ([]:List GNode)),false))
def qn (t0:(List GNode)) (path1:(List ze)):Option (List ze) :=
 (lp (zj (λ(n1:Nat) (x1:ze) (s1:(List GNode))=>(((xE s1 x1).bind λv9=>some (.nxt v9.1.subs)):Option (Out _ (List GNode)))) path1 0 t0) λ(s1:(List GNode))=>(lp (zj (λ(n2:Nat) (x2:GNode) (s2:(List ze))=>((lp (yb (λ(s3:Int)=>((zB (((decide (s3 < ((s2).length:Int)))==true)=true->0<=s3/\s3 < ((s2).length:Int)) ((zB (((decide (s3 < ((s2).length:Int)))==true)=true->0<=(n2:Int)/\(n2:Int) < ((s1).length:Int)) ((if ((decide (s3 < ((s2).length:Int)))&&(Op.bytesLess ((s2).getD s3.toNat default) (((s1).getD (n2:Int).toNat default).name) || ((s2).getD s3.toNat default)==((s1).getD (n2:Int).toNat default).name))=true then some (.nxt (IntKind.wrap .i64 (s3+(1:Int)))) else some (.brk s3)))))):Option (Out _ Int))) (0:Int)) λ(s3:Int)=>((slc s2 (0:Int) s3).bind λm47=>(zB ((([]:List ze)).length+(m47).length<=yg) ((zB (((([]:List ze)++m47)).length+(([x2.name]:List ze)).length<=yg) (((slc s2 s3 ((s2).length:Int)).bind λm50=>(zB ((((([]:List ze)++m47)++([x2.name]:List ze))).length+(m50).length<=yg) (some (.nxt (((([]:List ze)++m47)++([x2.name]:List ze))++m50))))))))))):Option (Out _ (List ze)))) s1 0 ([]:List ze)) λ(s2:(List ze))=>some s2))
def ref05New (kind0:Int):Option GLeaf :=
 (if ((decide (kind0 >= (1:Int)))&&(decide (kind0<=(4:Int))))=true then some (GLeaf.mk kind0 (0:Int) (0:Int) (GDot.mk (GActor.mk (0:Int) (0:Int)) (0:Int)) ([]:ze) ([]:List GItem) ([]:List GDot)) else some zLf)
def wd (t0:(List GNode)) (path1:(List ze)) (kind2:Int):Option (GLeaf×Bool) :=
 ((ref05New kind2).bind λv1=>(lp (zj (λ(n1:Nat) (x1:ze) (s1:(List GNode)×ze×(List GLeaf)×(List GNode))=>(((xE s1.1 x1).bind λv32=>(if (!v32.2)=true then some (.ret (v1,false)) else some (.nxt (v32.1.subs,v32.1.name,v32.1.leaves,v32.1.subs)))):Option (Out _ ((List GNode)×ze×(List GLeaf)×(List GNode))))) path1 0 (t0,([]:ze),([]:List GLeaf),([]:List GNode))) λ(s1:(List GNode)×ze×(List GLeaf)×(List GNode))=>(lp (yb (λ(s2:Int)=>((if (((decide (s2 < ((s1.2.2.1).length:Int)))&&(decide (kind2 >= (1:Int))))&&(decide (kind2<=(4:Int))))=true then ((yd s1.2.2.1 s2).bind λy63=>(if (y63.typ==kind2)=true then ((yd s1.2.2.1 s2).bind λy65=>some (.ret (y65,true))) else some (.nxt (IntKind.wrap .i64 (s2+(1:Int)))))) else some (.brk s2)):Option (Out _ Int))) (0:Int)) λ(s2:Int)=>some (v1,false))))
def wc (l0:(List ze)) (s1:ze):Option (List ze) :=
 (lp (yb (λ(sL1:(List ze)×Int)=>((zB (((decide (sL1.2 < ((l0).length:Int)))==true)=true->0<=sL1.2/\sL1.2 < ((l0).length:Int)) ((if ((decide (sL1.2 < ((l0).length:Int)))&&(Op.bytesLess ((l0).getD sL1.2.toNat default) s1))=true then ((yd l0 sL1.2).bind λy11=>(zB ((sL1.1).length+(([y11]:List ze)).length<=yg) (some (.nxt ((sL1.1++([y11]:List ze)),(IntKind.wrap .i64 (sL1.2+(1:Int)))))))) else some (.brk (sL1.1,sL1.2))))):Option (Out _ ((List ze)×Int)))) (([]:List ze),(0:Int))) λ(sL1:(List ze)×Int)=>(zB (((decide (sL1.2 < ((l0).length:Int)))==true)=true->0<=sL1.2/\sL1.2 < ((l0).length:Int)) ((if ((decide (sL1.2 < ((l0).length:Int)))&&(((l0).getD sL1.2.toNat default)==s1))=true then some l0 else (zB ((sL1.1).length+(([s1]:List ze)).length<=yg) (((slc l0 sL1.2 ((l0).length:Int)).bind λm17=>(zB (((sL1.1++([s1]:List ze))).length+(m17).length<=yg) (some ((sL1.1++([s1]:List ze))++m17))))))))))
def xW (t0:(List GNode)) (q1:GQuery):Option (GAnswer×Int) :=
 ((qm q1).bind λv1=>((if ((!v1)==false)=true then xK t0 else some default).bind λv2=>(if ((!v1) || (!v2))=true then some ((GAnswer.mk false (0:Int) ([]:List ze)),(2:Int)) else (if (q1.kind==(5:Int))=true then ((qn t0 q1.path).bind λv5=>some ((GAnswer.mk (decide (((v5).length:Int) > (0:Int))) (0:Int) v5),(0:Int))) else ((wd t0 q1.path q1.kind).bind λv7=>(if (q1.kind==(2:Int))=true then (if (decide (v7.1.time > (0:Int)))=true then (if (q1.kind==(3:Int))=true then (lp (zj (λ(n1:Nat) (x1:GItem) (s1:(List ze))=>((if (q1.kind==(3:Int))=true then ((wc s1 x1.text).bind λv37=>some (.nxt v37)) else none):Option (Out _ (List ze)))) v7.1.items 0 ([v7.1.text]:List ze)) λ(s1:(List ze))=>some ((GAnswer.mk (decide (v7.1.time > (0:Int))) v7.1.n s1),(0:Int))) else (lp (zj (λ(n1:Nat) (x1:GItem) (s1:(List ze))=>((if (q1.kind==(3:Int))=true then none else (zB ((s1).length+(([x1.text]:List ze)).length<=yg) (some (.nxt (s1++([x1.text]:List ze)))))):Option (Out _ (List ze)))) v7.1.items 0 ([v7.1.text]:List ze)) λ(s1:(List ze))=>some ((GAnswer.mk (decide (v7.1.time > (0:Int))) v7.1.n s1),(0:Int)))) else (if (q1.kind==(3:Int))=true then (lp (zj (λ(n1:Nat) (x1:GItem) (s1:(List ze))=>((if (q1.kind==(3:Int))=true then ((wc s1 x1.text).bind λv92=>some (.nxt v92)) else none):Option (Out _ (List ze)))) v7.1.items 0 ([]:List ze)) λ(s1:(List ze))=>some ((GAnswer.mk (decide (v7.1.time > (0:Int))) v7.1.n s1),(0:Int))) else (lp (zj (λ(n1:Nat) (x1:GItem) (s1:(List ze))=>((if (q1.kind==(3:Int))=true then none else (zB ((s1).length+(([x1.text]:List ze)).length<=yg) (some (.nxt (s1++([x1.text]:List ze)))))):Option (Out _ (List ze)))) v7.1.items 0 ([]:List ze)) λ(s1:(List ze))=>some ((GAnswer.mk (decide (v7.1.time > (0:Int))) v7.1.n s1),(0:Int))))) else (if (q1.kind==(3:Int))=true then (lp (zj (λ(n1:Nat) (x1:GItem) (s1:(List ze))=>((if (q1.kind==(3:Int))=true then ((wc s1 x1.text).bind λv147=>some (.nxt v147)) else none):Option (Out _ (List ze)))) v7.1.items 0 ([]:List ze)) λ(s1:(List ze))=>some ((GAnswer.mk v7.2 v7.1.n s1),(0:Int))) else (lp (zj (λ(n1:Nat) (x1:GItem) (s1:(List ze))=>((if (q1.kind==(3:Int))=true then none else (zB ((s1).length+(([x1.text]:List ze)).length<=yg) (some (.nxt (s1++([x1.text]:List ze)))))):Option (Out _ (List ze)))) v7.1.items 0 ([]:List ze)) λ(s1:(List ze))=>some ((GAnswer.mk v7.2 v7.1.n s1),(0:Int))))))))))
def yF (s10:(List ze)) (s21:(List ze)):Option Bool :=
 (if (((s10).length:Int) != ((s21).length:Int))=true then some false else (lp (zj (λ(n1:Nat) (x1:ze) (s1:Unit)=>(((yd s21 (n1:Int)).bind λy10=>(if (!(x1==y10))=true then some (.ret false) else some (.nxt ()))):Option (Out _ Unit))) s10 0 ()) λ(s1:Unit)=>some true))
def querySame (a0:GAnswer) (b1:GAnswer):Option Bool :=
 ((if (((a0.is==b1.is)&&(a0.n==b1.n))==true)=true then yF a0.l b1.l else some default).bind λv1=>some (((a0.is==b1.is)&&(a0.n==b1.n))&&v1))
def ref05Same (a0:GLeaf) (b1:GLeaf):Option Bool :=
 (if (((((((a0.typ != b1.typ) || (a0.n != b1.n)) || (a0.time != b1.time)) || (!(a0.dot.actor.rep==b1.dot.actor.rep&&(a0.dot.actor.inc==b1.dot.actor.inc&&(a0.dot.seq==b1.dot.seq&&true))))) || (!(a0.text==b1.text))) || (((a0.items).length:Int) != ((b1.items).length:Int))) || (((a0.tombs).length:Int) != ((b1.tombs).length:Int)))=true then some false else (lp (zj (λ(n1:Nat) (x1:GItem) (s1:Unit)=>(((yd b1.items (n1:Int)).bind λy32=>(if (!(x1.time==y32.time&&(x1.dot.actor.rep==y32.dot.actor.rep&&(x1.dot.actor.inc==y32.dot.actor.inc&&(x1.dot.seq==y32.dot.seq&&(x1.text==y32.text&&true))))))=true then some (.ret false) else some (.nxt ()))):Option (Out _ Unit))) a0.items 0 ()) λ(s1:Unit)=>(lp (zj (λ(n2:Nat) (x2:GDot) (s2:Unit)=>(((yd b1.tombs (n2:Int)).bind λy60=>(if (!(x2.actor.rep==y60.actor.rep&&(x2.actor.inc==y60.actor.inc&&(x2.seq==y60.seq&&true))))=true then some (.ret false) else some (.nxt ()))):Option (Out _ Unit))) a0.tombs 0 ()) λ(s2:Unit)=>some true)))
def wx:Nat->(a0:(List GNode))->(b1:(List GNode))->Option Bool
 | 0,_,_=>none
 | n+1,a0,b1=>(if (((a0).length:Int) != ((b1).length:Int))=true then some false else (lp (zj (λ(n1:Nat) (x1:GNode) (s1:Unit)=>(((yd b1 (n1:Int)).bind λy41=>(zB (((!(x1.name==y41.name))==false)=true->0<=(n1:Int)/\(n1:Int) < ((a0).length:Int)) ((zB (((!(x1.name==y41.name))==false)=true->0<=(n1:Int)/\(n1:Int) < ((b1).length:Int)) ((zB ((((!(x1.name==y41.name)) || (((((a0).getD (n1:Int).toNat default).leaves).length:Int) != ((((b1).getD (n1:Int).toNat default).leaves).length:Int)))==false)=true->0<=(n1:Int)/\(n1:Int) < ((a0).length:Int)) ((zB ((((!(x1.name==y41.name)) || (((((a0).getD (n1:Int).toNat default).leaves).length:Int) != ((((b1).getD (n1:Int).toNat default).leaves).length:Int)))==false)=true->0<=(n1:Int)/\(n1:Int) < ((b1).length:Int)) (((if (((!(x1.name==y41.name)) || (((((a0).getD (n1:Int).toNat default).leaves).length:Int) != ((((b1).getD (n1:Int).toNat default).leaves).length:Int)))==false)=true then wx n (((a0).getD (n1:Int).toNat default).subs) (((b1).getD (n1:Int).toNat default).subs) else some default).bind λv48=>(if (((!(x1.name==y41.name)) || (((((a0).getD (n1:Int).toNat default).leaves).length:Int) != ((((b1).getD (n1:Int).toNat default).leaves).length:Int))) || (!v48))=true then some (.ret false) else (lp (zj (λ(n2:Nat) (x2:GLeaf) (s2:Unit)=>(((yd b1 (n1:Int)).bind λy60=>((yd y60.leaves (n2:Int)).bind λy61=>((ref05Same x2 y61).bind λv62=>(if (!v62)=true then some (.ret (.ret false)) else some (.nxt ()))))):Option (Out _ Unit))) x1.leaves 0 ()) λ(s2:Unit)=>some (.nxt ()))))))))))))):Option (Out _ Unit))) a0 0 ()) λ(s1:Unit)=>some true))
def ref07Same (a0:(List GNode)) (b1:(List GNode)):Option Bool:=anyN λn=>wx n a0 b1
def xr (t0:(List GNode)) (q1:GQuery) (o2:GQuery):Option Bool :=
 ((wy t0).bind λv1=>((if (v1==false)=true then wM q1.path else some default).bind λv2=>((if ((v1 || v2)==false)=true then wM o2.path else some default).bind λv3=>(if ((v1 || v2) || v3)=true then ((wL).bind λv5=>some v5) else ((ref07Own t0).bind λv6=>((yp v6 q1).bind λv7=>((xW t0 q1).bind λv8=>((yp v6 o2).bind λv9=>((xW t0 o2).bind λv10=>((xZ q1).bind λv11=>((qm q1).bind λv12=>((if (((!(v11==v12)) || (v7.2 != v8.2))==false)=true then xQ v7.1 v8.1 else some default).bind λv13=>((if ((((!(v11==v12)) || (v7.2 != v8.2)) || (!v13))==false)=true then xQ v9.1 v10.1 else some default).bind λv14=>((if (((((!(v11==v12)) || (v7.2 != v8.2)) || (!v13)) || (!v14))==false)=true then querySame v7.1 v9.1 else some default).bind λv15=>((if (((((!(v11==v12)) || (v7.2 != v8.2)) || (!v13)) || (!v14))==false)=true then xQ v8.1 v10.1 else some default).bind λv16=>(if (((((!(v11==v12)) || (v7.2 != v8.2)) || (!v13)) || (!v14)) || (!(v15==v16)))=true then some false else (zB ((((v7.1.l).length:Nat):Int)<=9223372036854775807) (lp (zj (λ(n1:Nat) (x1:Nat) (s1:(List ze))=>((zB ((s1).length=(v7.1.l).length) (((yd s1 (n1:Int)).bind λy38=>some (.nxt (s1.set (n1:Int).toNat ([33]:ze)))))):Option (Out _ (List ze)))) (List.range (((((v7.1.l).length:Nat):Int)).toNat)) 0 v7.1.l) λ(s1:(List ze))=>((ref07Same v6 t0).bind λv39=>((if (v39==true)=true then wL else some default).bind λv40=>some (v39&&v40)))))))))))))))))))))
def ref43Great (l0:(List GField)):Option Bool :=
 (lp (zj (λ(n1:Nat) (x1:GField) (s1:Unit)=>((if (decide (((x1.path).length:Int) > (10:Int)))=true then some (.ret true) else (lp (zj (λ(n2:Nat) (x2:ze) (s2:Unit)=>((if (decide (((x2).length:Int) > (40:Int)))=true then some (.ret (.ret true)) else some (.nxt ())):Option (Out _ Unit))) x1.path 0 ()) λ(s2:Unit)=>some (.nxt ()))):Option (Out _ Unit))) l0 0 ()) λ(s1:Unit)=>some (decide (((l0).length:Int) > (70:Int))))
def law43Xgreat (l0:(List GField)) (t1:(List GNode)) (o2:GOp):Option Bool :=
 ((ref43Great l0).bind λv1=>((if (v1==false)=true then wy t1 else some default).bind λv2=>some ((((v1 || v2) || (decide (((o2.dots).length:Int) > (100:Int)))) || (decide (((o2.path).length:Int) > (10:Int)))) || (decide (((o2.text).length:Int) > (200:Int))))))
def law43XknownC1 (x0:GLeaf):Option (List GNode) :=
 some ([(GNode.mk ([97]:ze) ([]:List GLeaf) ([(GNode.mk ([98]:ze) ([x0]:List GLeaf) ([]:List GNode))]:List GNode))]:List GNode)
def opXadds (o0:GOp):Option Bool :=
 some ((((decide (o0.n >= (-1000000:Int)))&&(decide (o0.n<=(1000000:Int))))&&(o0.text==([]:ze)))&&(((o0.dots).length:Int)==(0:Int)))
def opXplain (o0:GOp):Option Bool :=
 some (((o0.n==(0:Int))&&(decide (((o0.text).length:Int)<=(40:Int))))&&(((o0.dots).length:Int)==(0:Int)))
def opXdrops (o0:GOp):Option Bool :=
 (if (((o0.n != (0:Int)) || (decide (((o0.text).length:Int) > (40:Int)))) || (decide (((o0.dots).length:Int) > (64:Int))))=true then some false else (lp (zj (λ(n1:Nat) (x1:GDot) (s1:Unit)=>(((dotMay x1).bind λv17=>(zB ((((!v17)==false)&&((decide ((n1:Int) > (0:Int)))==true))=true->0<=(IntKind.wrap .i64 ((n1:Int) - (1:Int)))/\(IntKind.wrap .i64 ((n1:Int) - (1:Int))) < ((o0.dots).length:Int)) (((if (((!v17)==false)&&((decide ((n1:Int) > (0:Int)))==true))=true then x8 ((o0.dots).getD (IntKind.wrap .i64 ((n1:Int) - (1:Int))).toNat default) x1 else some default).bind λv19=>(if ((!v17) || ((decide ((n1:Int) > (0:Int)))&&(decide (v19 >= (0:Int)))))=true then some (.ret false) else some (.nxt ())))))):Option (Out _ Unit))) o0.dots 0 ()) λ(s1:Unit)=>some true))
def opXof (k0:Int):Option (GOpKind×Bool) :=
 (if ((decide (k0 < (1:Int))) || (decide (k0 > (5:Int))))=true then some ((GOpKind.mk (0:Int) 0),false) else ((yd ([(GOpKind.mk (0:Int) 0),(GOpKind.mk (1:Int) 1),(GOpKind.mk (2:Int) 2),(GOpKind.mk (3:Int) 2),(GOpKind.mk (3:Int) 3),(GOpKind.mk (4:Int) 2)]:List GOpKind) k0).bind λy2=>some (y2,true)))
def callOp (c:Nat) (x0:GOp):Option Bool:=match c with
 | 1=>opXadds x0
 | 2=>opXplain x0
 | 3=>opXdrops x0
 | _=>none
def opMay (o0:GOp):Option Bool :=
 ((opXof o0.kind).bind λv1=>((if (v1.2==true)=true then wJ o0.path else some default).bind λv2=>((if ((v1.2&&v2)==true)=true then callOp v1.1.may o0 else some default).bind λv3=>some ((v1.2&&v2)&&v3))))
def opMayEvent (e0:GEvent):Option Bool :=
 ((dotMay e0.dot).bind λv1=>((if (((v1&&(decide (e0.time >= (1:Int))))&&(decide (e0.time<=(1099511627776:Int))))==true)=true then opMay e0.op else some default).bind λv2=>some (((v1&&(decide (e0.time >= (1:Int))))&&(decide (e0.time<=(1099511627776:Int))))&&v2)))
def treeXchangedN:Nat->(t0:(List GNode))->(byy1:(GLeaf->Option GLeaf))->Option (List GNode)
 | 0,_,_=>none
 | n+1,t0,byy1=>(lp (zj (λ(n1:Nat) (x1:GNode) (s1:(List GNode))=>(((treeXchangedN n x1.subs byy1).bind λv23=>(lp (zj (λ(n2:Nat) (x2:GLeaf) (s2:(List GLeaf))=>(((byy1 x2).bind λv36=>(zB ((s2).length+(([v36]:List GLeaf)).length<=yg) (some (.nxt (s2++([v36]:List GLeaf)))))):Option (Out _ (List GLeaf)))) x1.leaves 0 ([]:List GLeaf)) λ(s2:(List GLeaf))=>(zB ((s1).length+(([(GNode.mk x1.name s2 v23)]:List GNode)).length<=yg) (some (.nxt (s1++([(GNode.mk x1.name s2 v23)]:List GNode))))))):Option (Out _ (List GNode)))) t0 0 ([]:List GNode)) λ(s1:(List GNode))=>some s1)
def treeXchanged (t0:(List GNode)) (byy1:(GLeaf->Option GLeaf)):Option (List GNode):=anyN λn=>treeXchangedN n t0 byy1
def treeXownC1 (l0:GLeaf):Option GLeaf :=
 ((yk l0.items).bind λv1=>((yo l0.tombs).bind λv2=>some (GLeaf.mk l0.typ l0.n l0.time l0.dot l0.text v1 v2)))
def treeXown (t0:(List GNode)):Option (List GNode) :=
 ((treeXchanged t0 (λx0=>treeXownC1 x0)).bind λv1=>some v1)
def xJ (s0:(List GLeaf)):Option (List GLeaf) :=
 (nilq s0 λb1=>(if b1=true then some ([]:List GLeaf) else (zB ((([]:List GLeaf)).length+(s0).length<=yg) (some (([]:List GLeaf)++s0)))))
def wj (s0:(List GNode)):Option (List GNode) :=
 (nilq s0 λb1=>(if b1=true then some ([]:List GNode) else (zB ((([]:List GNode)).length+(s0).length<=yg) (some (([]:List GNode)++s0)))))
/-- strings.Compare -/
def stringsCompare (p0:ze) (p1:ze):Option Int:=some (Go.Lib.compareBytes p0 p1)
def treeXfindC1 (n0:GNode) (s1:ze):Option Int :=
 ((stringsCompare n0.name s1).bind λv1=>some v1)
def yK (x0:(List GNode)) (target1:ze) (cmp2:(GNode->ze->Option Int)):Option (Int×Bool) :=
 (lp (yb (λ(sL1:Int×Int)=>((if (decide (sL1.1 < sL1.2))=true then ((yd x0 (IntKind.wrap .i64 ((Int.fdiv (IntKind.wrap .u64 ((IntKind.wrap .i64 (sL1.1+sL1.2)))) (2 ^ (min (1:Int).toNat (IntKind.bits .u64))))))).bind λy9=>((cmp2 y9 target1).bind λv10=>(if (decide (v10 < (0:Int)))=true then some (.nxt ((IntKind.wrap .i64 ((IntKind.wrap .i64 ((Int.fdiv (IntKind.wrap .u64 ((IntKind.wrap .i64 (sL1.1+sL1.2)))) (2 ^ (min (1:Int).toNat (IntKind.bits .u64))))))+(1:Int))),sL1.2)) else some (.nxt (sL1.1,(IntKind.wrap .i64 ((Int.fdiv (IntKind.wrap .u64 ((IntKind.wrap .i64 (sL1.1+sL1.2)))) (2 ^ (min (1:Int).toNat (IntKind.bits .u64))))))))))) else some (.brk (sL1.1,sL1.2))):Option (Out _ (Int×Int)))) ((0:Int),((x0).length:Int))) λ(sL1:Int×Int)=>(zB (((decide (sL1.1 < ((x0).length:Int)))==true)=true->0<=sL1.1/\sL1.1 < ((x0).length:Int)) (((if ((decide (sL1.1 < ((x0).length:Int)))==true)=true then cmp2 ((x0).getD sL1.1.toNat default) target1 else some default).bind λv13=>some (sL1.1,((decide (sL1.1 < ((x0).length:Int)))&&(v13==(0:Int))))))))
def treeXfind (t0:(List GNode)) (name1:ze):Option (Int×Bool) :=
 ((yK t0 name1 (λx0 x1=>treeXfindC1 x0 x1)).bind λv1=>some (v1.1,v1.2))
/-- slices.Insert[varve/api.Tree,varve/api.Node]: insO -/
def slicesInsertTreeNodeX:Unit:=()
def yw (x0:(List GLeaf)) (target1:Int) (cmp2:(GLeaf->Int->Option Int)):Option (Int×Bool) :=
 (lp (yb (λ(s1:Int×Int)=>((if (decide (s1.1 < s1.2))=true then ((yd x0 (IntKind.wrap .i64 ((Int.fdiv (IntKind.wrap .u64 ((IntKind.wrap .i64 (s1.1+s1.2)))) (2 ^ (min (1:Int).toNat (IntKind.bits .u64))))))).bind λy9=>((cmp2 y9 target1).bind λv10=>(if (decide (v10 < (0:Int)))=true then some (.nxt ((IntKind.wrap .i64 ((IntKind.wrap .i64 ((Int.fdiv (IntKind.wrap .u64 ((IntKind.wrap .i64 (s1.1+s1.2)))) (2 ^ (min (1:Int).toNat (IntKind.bits .u64))))))+(1:Int))),s1.2)) else some (.nxt (s1.1,(IntKind.wrap .i64 ((Int.fdiv (IntKind.wrap .u64 ((IntKind.wrap .i64 (s1.1+s1.2)))) (2 ^ (min (1:Int).toNat (IntKind.bits .u64))))))))))) else some (.brk (s1.1,s1.2))):Option (Out _ (Int×Int)))) ((0:Int),((x0).length:Int))) λ(s1:Int×Int)=>(zB (((decide (s1.1 < ((x0).length:Int)))==true)=true->0<=s1.1/\s1.1 < ((x0).length:Int)) (((if ((decide (s1.1 < ((x0).length:Int)))==true)=true then cmp2 ((x0).getD s1.1.toNat default) target1 else some default).bind λv13=>some (s1.1,((decide (s1.1 < ((x0).length:Int)))&&(v13==(0:Int))))))))
def treeXputC1 (x0:GLeaf) (kind1:Int):Option Int :=
 ((yv x0.typ kind1).bind λv1=>some v1)
/-- slices.Insert[[]varve/api.Leaf,varve/api.Leaf]: insO -/
def slicesInsertLeafX:Unit:=()
def treeXputN:Nat->(t0:(List GNode))->(path1:(List ze))->(l2:GLeaf)->Option (List GNode)
 | 0,_,_,_=>none
 | n+1,t0,path1,l2=>((wj t0).bind λv1=>((yd path1 (0:Int)).bind λy2=>((treeXfind v1 y2).bind λv3=>(if (!v3.2)=true then ((yd path1 (0:Int)).bind λy5=>((insO v1 v3.1 ([(GNode.mk y5 ([]:List GLeaf) ([]:List GNode))]:List GNode)).bind λv6=>((yd v6 v3.1).bind λy7=>(if (decide (((path1).length:Int) > (1:Int)))=true then ((slc path1 (1:Int) ((path1).length:Int)).bind λm10=>((treeXputN n y7.subs m10 l2).bind λv11=>((yd v6 v3.1).bind λy12=>some (v6.set v3.1.toNat (GNode.mk y7.name y7.leaves v11))))) else ((xJ y7.leaves).bind λv13=>((yw v13 l2.typ (λx0 x1=>treeXputC1 x0 x1)).bind λv14=>(if (!v14.2)=true then ((insO v13 v14.1 ([l2]:List GLeaf)).bind λv16=>((yd v16 v14.1).bind λy17=>((yd v6 v3.1).bind λy18=>some (v6.set v3.1.toNat (GNode.mk y7.name (v16.set v14.1.toNat l2) y7.subs))))) else ((yd v13 v14.1).bind λy19=>((yd v6 v3.1).bind λy20=>some (v6.set v3.1.toNat (GNode.mk y7.name (v13.set v14.1.toNat l2) y7.subs))))))))))) else ((yd v1 v3.1).bind λy21=>(if (decide (((path1).length:Int) > (1:Int)))=true then ((slc path1 (1:Int) ((path1).length:Int)).bind λm24=>((treeXputN n y21.subs m24 l2).bind λv25=>((yd v1 v3.1).bind λy26=>some (v1.set v3.1.toNat (GNode.mk y21.name y21.leaves v25))))) else ((xJ y21.leaves).bind λv27=>((yw v27 l2.typ (λx0 x1=>treeXputC1 x0 x1)).bind λv28=>(if (!v28.2)=true then ((insO v27 v28.1 ([l2]:List GLeaf)).bind λv30=>((yd v30 v28.1).bind λy31=>((yd v1 v3.1).bind λy32=>some (v1.set v3.1.toNat (GNode.mk y21.name (v30.set v28.1.toNat l2) y21.subs))))) else ((yd v27 v28.1).bind λy33=>((yd v1 v3.1).bind λy34=>some (v1.set v3.1.toNat (GNode.mk y21.name (v27.set v28.1.toNat l2) y21.subs)))))))))))))
def treeXput (t0:(List GNode)) (path1:(List ze)) (l2:GLeaf):Option (List GNode):=anyN λn=>treeXputN n t0 path1 l2
def opType (k0:Int):Option Int :=
 ((opXof k0).bind λv1=>some v1.1.leaf)
def slicesIndexDot (s0:(List GDot)) (v1:GDot):Option Int :=
 (lp (zj (λ(n1:Nat) (x1:GDot) (s1:Unit)=>((if (v1.actor.rep==x1.actor.rep&&(v1.actor.inc==x1.actor.inc&&(v1.seq==x1.seq&&true)))=true then some (.ret (n1:Int)) else some (.nxt ())):Option (Out _ Unit))) s0 0 ()) λ(s1:Unit)=>some (-1:Int))
def qI (s0:(List GDot)) (v1:GDot):Option Bool :=
 ((slicesIndexDot s0 v1).bind λv1=>some (decide (v1 >= (0:Int))))
def qN (a0:GItem) (b1:GItem):Option Int :=
 ((wX a0.time a0.dot b1.time b1.dot).bind λv1=>some v1)
def xl (x0:(List GItem)) (target1:GItem) (cmp2:(GItem->GItem->Option Int)):Option (Int×Bool) :=
 (lp (yb (λ(s1:Int×Int)=>((if (decide (s1.1 < s1.2))=true then ((yd x0 (IntKind.wrap .i64 ((Int.fdiv (IntKind.wrap .u64 ((IntKind.wrap .i64 (s1.1+s1.2)))) (2 ^ (min (1:Int).toNat (IntKind.bits .u64))))))).bind λy14=>((cmp2 y14 target1).bind λv15=>(if (decide (v15 < (0:Int)))=true then some (.nxt ((IntKind.wrap .i64 ((IntKind.wrap .i64 ((Int.fdiv (IntKind.wrap .u64 ((IntKind.wrap .i64 (s1.1+s1.2)))) (2 ^ (min (1:Int).toNat (IntKind.bits .u64))))))+(1:Int))),s1.2)) else some (.nxt (s1.1,(IntKind.wrap .i64 ((Int.fdiv (IntKind.wrap .u64 ((IntKind.wrap .i64 (s1.1+s1.2)))) (2 ^ (min (1:Int).toNat (IntKind.bits .u64))))))))))) else some (.brk (s1.1,s1.2))):Option (Out _ (Int×Int)))) ((0:Int),((x0).length:Int))) λ(s1:Int×Int)=>(zB (((decide (s1.1 < ((x0).length:Int)))==true)=true->0<=s1.1/\s1.1 < ((x0).length:Int)) (((if ((decide (s1.1 < ((x0).length:Int)))==true)=true then cmp2 ((x0).getD s1.1.toNat default) target1 else some default).bind λv18=>some (s1.1,((decide (s1.1 < ((x0).length:Int)))&&(v18==(0:Int))))))))
/-- slices.Insert[[]varve/api.Item,varve/api.Item]: insO -/
def slicesInsertItemX:Unit:=()
/-- slices.SortFunc[[]varve/api.Dot,varve/api.Dot]: sortO -/
def slicesSortFuncDotX:Unit:=()
def slicesCompactDotR (s0:(List GDot)):Option (List GDot) :=
 (if (decide (((s0).length:Int) < (2:Int)))=true then some s0 else (lp (yb (λ(s1:Int)=>((if (decide (s1 < ((s0).length:Int)))=true then ((yd s0 s1).bind λy35=>((yd s0 (IntKind.wrap .i64 (s1 - (1:Int)))).bind λy36=>(if (y35.actor.rep==y36.actor.rep&&(y35.actor.inc==y36.actor.inc&&(y35.seq==y36.seq&&true)))=true then (zB (0<=s1/\s1<=((s0.length:Nat):Int)) ((lp (yb (λ(s2:Int×Int×(List GDot))=>((zB ((s2.2.2).length=s0.length) ((if (decide (s2.2.1 < ((s0.length - s1.toNat:Nat):Int)))=true then ((yd (s2.2.2.drop s1.toNat) s2.2.1).bind λy51=>((yd (s2.2.2.drop s1.toNat) (IntKind.wrap .i64 (s2.2.1 - (1:Int)))).bind λy52=>(if (!(y51.actor.rep==y52.actor.rep&&(y51.actor.inc==y52.actor.inc&&(y51.seq==y52.seq&&true))))=true then ((yd (s2.2.2.drop s1.toNat) s2.2.1).bind λy54=>((yd s2.2.2 s2.1).bind λy55=>some (.nxt ((IntKind.wrap .i64 (s2.1+(1:Int))),(IntKind.wrap .i64 (s2.2.1+(1:Int))),(s2.2.2.set s2.1.toNat y54))))) else some (.nxt (s2.1,(IntKind.wrap .i64 (s2.2.1+(1:Int))),s2.2.2))))) else some (.brk (s2.1,s2.2.1,s2.2.2))))):Option (Out _ (Int×Int×(List GDot))))) (s1,(1:Int),s0)) λ(s2:Int×Int×(List GDot))=>(zB (0<=s2.1/\s2.1<=((s0.length:Nat):Int)) (((slc (s2.2.2.take s2.1.toNat++List.replicate (s0.length - s2.1.toNat) (GDot.mk (GActor.mk (0:Int) (0:Int)) (0:Int))) (0:Int) s2.1).bind λm57=>some (.ret m57))))))) else some (.nxt (IntKind.wrap .i64 (s1+(1:Int))))))) else some (.brk s1)):Option (Out _ Int))) (1:Int)) λ(s1:Int)=>some s0))
def slicesDeleteFuncItemR (s0:(List GItem)) (del1:(GItem->Option Bool)):Option (List GItem) :=
 ((yJ s0 del1).bind λv1=>(if (v1==(-1:Int))=true then some s0 else (lp (yb (λ(s1:Int×Int×(List GItem))=>((zB ((s1.2.2).length=s0.length) ((if (decide (s1.2.1 < ((s0.length:Nat):Int)))=true then ((yd s1.2.2 s1.2.1).bind λy14=>((del1 y14).bind λv15=>(if (!v15)=true then ((yd s1.2.2 s1.1).bind λy17=>some (.nxt ((IntKind.wrap .i64 (s1.1+(1:Int))),(IntKind.wrap .i64 (s1.2.1+(1:Int))),(s1.2.2.set s1.1.toNat y14)))) else some (.nxt (s1.1,(IntKind.wrap .i64 (s1.2.1+(1:Int))),s1.2.2))))) else some (.brk (s1.1,s1.2.1,s1.2.2))))):Option (Out _ (Int×Int×(List GItem))))) (v1,(IntKind.wrap .i64 (v1+(1:Int))),s0)) λ(s1:Int×Int×(List GItem))=>(zB (0<=s1.1/\s1.1<=((s0.length:Nat):Int)) (((slc (s1.2.2.take s1.1.toNat++List.replicate (s0.length - s1.1.toNat) (GItem.mk (0:Int) (GDot.mk (GActor.mk (0:Int) (0:Int)) (0:Int)) ([]:ze))) (0:Int) s1.1).bind λm19=>some m19))))))
def leafXchangeXdropC1 (x0:GItem) (c0:GEvent):Option Bool :=
 ((qI c0.op.dots x0.dot).bind λv1=>some v1)
def leafApply (l0:GLeaf) (e1:GEvent):Option (GLeaf×Int) :=
 ((qO l0).bind λv1=>((if ((!v1)==false)=true then opMayEvent e1 else some default).bind λv2=>(if ((!v1) || (!v2))=true then some (zLf,(2:Int)) else ((opType e1.op.kind).bind λv4=>(if (v4 != l0.typ)=true then some (zLf,(15:Int)) else ((yk l0.items).bind λv6=>((yo l0.tombs).bind λv7=>(if e1.op.kind=1 then ((some (IntKind.wrap .i64 (l0.n+e1.op.n)):Option Int).bind λv9=>some ((GLeaf.mk l0.typ v9 l0.time l0.dot l0.text v6 v7),(0:Int))) else (if e1.op.kind=2 then ((((if ((l0.time==(0:Int))==false)=true then qd l0.time l0.dot e1.time e1.dot else some default).bind λv14=>(if ((l0.time==(0:Int)) || v14)=true then some (e1.time,e1.dot.actor.rep,e1.dot.actor.inc,e1.dot.seq,e1.op.text) else some (l0.time,l0.dot.actor.rep,l0.dot.actor.inc,l0.dot.seq,l0.text))):Option (Int×Int×Int×Int×ze)).bind λv11=>some ((GLeaf.mk l0.typ l0.n v11.1 (GDot.mk (GActor.mk v11.2.1 v11.2.2.1) v11.2.2.2.1) v11.2.2.2.2 v6 v7),(0:Int))) else (if e1.op.kind=3 then ((((qI v7 e1.dot).bind λv29=>(if (!v29)=true then ((((qx v6 e1.dot).bind λv36=>(if v36=true then some v6 else ((xl v6 (GItem.mk (0:Int) e1.dot e1.op.text) (λx0 x1=>qN x0 x1)).bind λv38=>((insO v6 v38.1 ([(GItem.mk (0:Int) e1.dot e1.op.text)]:List GItem)).bind λv39=>some v39)))):Option (List GItem)).bind λv31=>some v31) else some v6)):Option (List GItem)).bind λv17=>some ((GLeaf.mk l0.typ l0.n l0.time l0.dot l0.text v17 v7),(0:Int))) else (if e1.op.kind=4 then (((zB ((v7).length+(e1.op.dots).length<=yg) (((sortO (λx y=>x8 x y) (v7++e1.op.dots)).bind λv47=>((slicesCompactDotR v47).bind λv48=>((slicesDeleteFuncItemR v6 (λx0=>leafXchangeXdropC1 x0 e1)).bind λv49=>some (v48,v49)))))):Option ((List GDot)×(List GItem))).bind λv41=>some ((GLeaf.mk l0.typ l0.n l0.time l0.dot l0.text v41.2 v41.1),(0:Int))) else (if e1.op.kind=5 then ((((((qx v6 e1.dot).bind λv66=>(if v66=true then some v6 else ((xl v6 (GItem.mk e1.time e1.dot e1.op.text) (λx0 x1=>qN x0 x1)).bind λv68=>((insO v6 v68.1 ([(GItem.mk e1.time e1.dot e1.op.text)]:List GItem)).bind λv69=>some v69)))):Option (List GItem)).bind λv61=>some v61):Option (List GItem)).bind λv51=>some ((GLeaf.mk l0.typ l0.n l0.time l0.dot l0.text v51 v7),(0:Int))) else some ((GLeaf.mk l0.typ l0.n l0.time l0.dot l0.text v6 v7),(0:Int))))))))))))))
def treeApply (t0:(List GNode)) (e1:GEvent):Option ((List GNode)×Int) :=
 ((yL t0).bind λv1=>((if ((!v1)==false)=true then opMayEvent e1 else some default).bind λv2=>(if ((!v1) || (!v2))=true then some (([]:List GNode),(2:Int)) else ((opType e1.op.kind).bind λv4=>((yT t0 e1.op.path v4).bind λv5=>((leafApply v5.1 e1).bind λv6=>(if (v6.2 != (0:Int))=true then some (([]:List GNode),v6.2) else ((treeXput t0 e1.op.path v6.1).bind λv8=>((treeXown v8).bind λv9=>some (v9,(0:Int)))))))))))
def vB (s0:(List GField)) (f1:(GField->Option Bool)):Option Int :=
 (lp (zj (λ(n1:Nat) (x1:GField) (s1:Unit)=>(((f1 x1).bind λv7=>(if v7=true then some (.ret (n1:Int)) else some (.nxt ()))):Option (Out _ Unit))) s0 0 ()) λ(s1:Unit)=>some (-1:Int))
def slicesContainsFuncField (s0:(List GField)) (f1:(GField->Option Bool)):Option Bool :=
 ((vB s0 f1).bind λv1=>some (decide (v1 >= (0:Int))))
def pathsXparts (p0:(List ze)):Option ((List ze)×Bool) :=
 (zB (((decide (((p0).length:Int) > (0:Int)))==true)=true->0<=(IntKind.wrap .i64 (((p0).length:Int) - (1:Int)))/\(IntKind.wrap .i64 (((p0).length:Int) - (1:Int))) < ((p0).length:Int)) ((if ((decide (((p0).length:Int) > (0:Int)))&&(((p0).getD (IntKind.wrap .i64 (((p0).length:Int) - (1:Int))).toNat default)==([42,42]:ze)))=true then ((slc p0 (0:Int) (IntKind.wrap .i64 (((p0).length:Int) - (1:Int)))).bind λm4=>some (m4,true)) else some (p0,false))))
def pathsMayPatternC1 (s0:ze):Option Bool :=
 ((if ((!(s0==([42]:ze)))==true)=true then vF s0 else some default).bind λv1=>some ((!(s0==([42]:ze)))&&(!v1)))
def vQ (p0:(List ze)):Option Bool :=
 ((pathsXparts p0).bind λv1=>((if ((((decide (((v1.1).length:Int) > (0:Int))) || v1.2)&&(decide (((v1.1).length:Int)<=(3:Int))))==true)=true then zW v1.1 (λx0=>pathsMayPatternC1 x0) else some default).bind λv4=>some ((((decide (((v1.1).length:Int) > (0:Int))) || v1.2)&&(decide (((v1.1).length:Int)<=(3:Int))))&&(!v4))))
def schemaXmayOne (f0:GField):Option Bool :=
 ((vQ f0.path).bind λv1=>some ((((v1&&((IntKind.wrap .u8 (((BitVec.ofInt (IntKind.bits .u8) f0.types &&& ~~~(BitVec.ofInt (IntKind.bits .u8) (30:Int))).toNat:Int)))==(0:Int)))&&(decide (f0.min<=f0.max)))&&(decide (f0.items >= (0:Int))))&&(decide (f0.items<=(1000:Int)))))
def schemaMayC1 (f0:GField):Option Bool :=
 ((schemaXmayOne f0).bind λv1=>some (!v1))
def schemaMay (l0:(List GField)):Option Bool :=
 ((if ((decide (((l0).length:Int)<=(64:Int)))==true)=true then slicesContainsFuncField l0 (λx0=>schemaMayC1 x0) else some default).bind λv2=>some ((decide (((l0).length:Int)<=(64:Int)))&&(!v2)))
def schemaXbreachC2 (c0:GLeaf) (c1:GField):Option Bool :=
 some ((decide (c0.n >= c1.min))&&(decide (c0.n<=c1.max)))
def schemaXbreachC3  : Option Bool :=
 some true
def pathsMatch (p0:(List ze)) (path1:(List ze)):Option Bool :=
 ((pathsXparts p0).bind λv1=>((vQ p0).bind λv2=>((if ((!v2)==false)=true then wJ path1 else some default).bind λv3=>(if ((((!v2) || (!v3)) || (decide (((path1).length:Int) < ((v1.1).length:Int)))) || ((decide (((path1).length:Int) > ((v1.1).length:Int)))&&(!v1.2)))=true then some false else (lp (zj (λ(n1:Nat) (x1:ze) (s1:Unit)=>((zB (((!(x1==([42]:ze)))==true)=true->0<=(n1:Int)/\(n1:Int) < ((path1).length:Int)) ((if ((!(x1==([42]:ze)))&&(!(x1==((path1).getD (n1:Int).toNat default))))=true then some (.ret false) else some (.nxt ())))):Option (Out _ Unit))) v1.1 0 ()) λ(s1:Unit)=>some true)))))
def schemaXfieldC1 (f0:GField) (c0:(List ze)):Option Bool :=
 ((pathsMatch f0.path c0).bind λv1=>some v1)
def schemaXfield (l0:(List GField)) (path1:(List ze)):Option (GField×Bool) :=
 ((vB l0 (λx0=>schemaXfieldC1 x0 path1)).bind λv1=>(if (decide (v1 < (0:Int)))=true then some ((GField.mk ([]:List ze) (0:Int) (0:Int) (0:Int) (0:Int)),false) else ((yd l0 v1).bind λy3=>some (y3,true))))
def schemaXbreachC1 (c0:GLeaf) (c1:GField):Option Bool :=
 some (decide (((c0.items).length:Int)<=c1.items))
def schemaXbreach (l0:(List GField)) (path1:(List ze)) (x2:GLeaf):Option Int :=
 ((schemaXfield l0 path1).bind λv1=>(if (!v1.2)=true then some (7:Int) else (zB (¬ x2.typ < 0) ((if ((IntKind.wrap .u8 (((BitVec.ofInt (IntKind.bits .u8) (Int.fdiv v1.1.types (2 ^ (min x2.typ.toNat (IntKind.bits .u8)))) &&& BitVec.ofInt (IntKind.bits .u8) (1:Int)).toNat:Int)))==(0:Int))=true then some (15:Int) else (if x2.typ=1 then ((schemaXbreachC2 x2 v1.1).bind λv6=>(if (!v6)=true then some (14:Int) else some (0:Int))) else (if x2.typ=2 then ((schemaXbreachC3).bind λv9=>(if (!v9)=true then some (14:Int) else some (0:Int))) else (if x2.typ=3 then ((schemaXbreachC1 x2 v1.1).bind λv12=>(if (!v12)=true then some (14:Int) else some (0:Int))) else (if x2.typ=4 then ((schemaXbreachC1 x2 v1.1).bind λv15=>(if (!v15)=true then some (14:Int) else some (0:Int))) else none)))))))))
def schemaAllows (l0:(List GField)) (t1:(List GNode)) (e2:GEvent):Option Int :=
 ((schemaMay l0).bind λv1=>((if ((!v1)==false)=true then yL t1 else some default).bind λv2=>((if (((!v1) || (!v2))==false)=true then opMayEvent e2 else some default).bind λv3=>(if (((!v1) || (!v2)) || (!v3))=true then some (2:Int) else ((treeApply t1 e2).bind λv5=>((opType e2.op.kind).bind λv6=>((yT v5.1 e2.op.path v6).bind λv7=>((schemaXbreach l0 e2.op.path v7.1).bind λv8=>some v8))))))))
def wR (s0:(List ze)):Option (List ze) :=
 (nilq s0 λb1=>(if b1=true then some ([]:List ze) else (zB ((([]:List ze)).length+(s0).length<=yg) (some (([]:List ze)++s0)))))
def pathsXown (l0:GLeaf):Option GLeaf :=
 ((yk l0.items).bind λv1=>((yo l0.tombs).bind λv2=>some (GLeaf.mk l0.typ l0.n l0.time l0.dot l0.text v1 v2)))
def pathsXrows (t0:(List GNode)) (ahead1:(List ze)):Option ((List GNode)×(List ze)) :=
 some (t0,ahead1)
def pathsXrowsC1N:Nat->(S:Type)->(yield0:S->GRow->Option (Bool×S))->(c0:(List GNode))->(c1:(List ze))->(s0:S)->Option S
 | 0,_,_,_,_,_=>none
 | n+1,S,yield0,c0,c1,s0=>(lp (zj (λ(n1:Nat) (x1:GNode) (s1:S)=>(((wR c1).bind λv37=>(zB ((v37).length+(([x1.name]:List ze)).length<=yg) ((lp (zj (λ(n2:Nat) (x2:GLeaf) (s2:S)=>(((wR (v37++([x1.name]:List ze))).bind λv51=>((pathsXown x2).bind λv52=>((yield0 s2 (GRow.mk v51 v52)).bind λv53=>(if (!v53.1)=true then some (.ret (.ret v53.2)) else some (.nxt v53.2))))):Option (Out _ S))) x1.leaves 0 s1) λ(s2:S)=>((pathsXrows x1.subs (v37++([x1.name]:List ze))).bind λv55=>(rng (pathsXrowsC1N n _ (stp (λ(s3:S) (x3:GRow)=>(((yield0 s3 x3).bind λv64=>(if (!v64.1)=true then some (false,(v64.2,some 0)) else some (true,(v64.2,none)))):Option (Bool×(S×Option Nat))))) v55.1 v55.2 (s2,none)) (λ(s3:S)=>some (.nxt s3)) (λ(j3:Nat) (s3:S)=>if j3=0 then some (.ret s3) else none))))))):Option (Out _ S))) c0 0 s0) λ(s1:S)=>some s1)
def pathsXrowsC1 (S:Type) (yield0:S->GRow->Option (Bool×S)) (c0:(List GNode)) (c1:(List ze)) (s0:S):Option S:=anyN λn=>pathsXrowsC1N n S yield0 c0 c1 s0
def slicesAppendSeqRow (s0:(List GRow)) (seq1:(S:Type)->(S->GRow->Option (Bool×S))->S->Option S):Option (List GRow) :=
 (rng (seq1 _ (stp (λ(s1:(List GRow)) (x1:GRow)=>((zB ((s1).length+(([x1]:List GRow)).length<=yg) (some (true,((s1++([x1]:List GRow)),none)))):Option (Bool×((List GRow)×Option Nat))))) (s0,none)) (λ(s1:(List GRow))=>some s1) (λ_ _=>none))
def slicesCollectRow (seq0:(S:Type)->(S->GRow->Option (Bool×S))->S->Option S):Option (List GRow) :=
 ((slicesAppendSeqRow ([]:List GRow) seq0).bind λv1=>some v1)
def pathsRows (t0:(List GNode)):Option (List GRow) :=
 ((yL t0).bind λv1=>(if (!v1)=true then some ([]:List GRow) else ((pathsXrows t0 ([]:List ze)).bind λv3=>((slicesCollectRow (λS y s=>pathsXrowsC1 S y v3.1 v3.2 s)).bind λv4=>some v4))))
def schemaCheck (l0:(List GField)) (t1:(List GNode)):Option ((List GBreach)×Int) :=
 ((schemaMay l0).bind λv1=>((if ((!v1)==false)=true then yL t1 else some default).bind λv2=>(if ((!v1) || (!v2))=true then some (([]:List GBreach),(2:Int)) else ((pathsRows t1).bind λv4=>(lp (zj (λ(n1:Nat) (x1:GRow) (s1:(List GBreach))=>(((schemaXbreach l0 x1.path x1.leaf).bind λv13=>(if (v13 != (0:Int))=true then (zB ((s1).length+(([(GBreach.mk x1.path x1.leaf.typ v13)]:List GBreach)).length<=yg) (some (.nxt (s1++([(GBreach.mk x1.path x1.leaf.typ v13)]:List GBreach))))) else some (.nxt s1))):Option (Out _ (List GBreach)))) v4 0 ([]:List GBreach)) λ(s1:(List GBreach))=>some (s1,(0:Int)))))))
def law43Xknown  : Option Bool :=
 ((law43XknownC1 (GLeaf.mk (3:Int) (0:Int) (0:Int) (GDot.mk (GActor.mk (0:Int) (0:Int)) (0:Int)) ([]:ze) ([]:List GItem) ([]:List GDot))).bind λv1=>((schemaCheck ([(GField.mk ([([97]:ze),([42]:ze)]:List ze) (2:Int) (0:Int) (10:Int) (0:Int))]:List GField) v1).bind λv2=>((law43XknownC1 (GLeaf.mk (1:Int) (9:Int) (0:Int) (GDot.mk (GActor.mk (0:Int) (0:Int)) (0:Int)) ([]:ze) ([]:List GItem) ([]:List GDot))).bind λv3=>((schemaAllows ([(GField.mk ([([97]:ze),([42]:ze)]:List ze) (2:Int) (0:Int) (10:Int) (0:Int))]:List GField) v3 (GEvent.mk (GDot.mk (GActor.mk (0:Int) (1:Int)) (1:Int)) (1:Int) (GOp.mk (1:Int) ([([97]:ze),([98]:ze)]:List ze) (2:Int) ([]:ze) ([]:List GDot)))).bind λv4=>(zB (((((v4==(14:Int))&&(v2.2==(0:Int)))&&(((v2.1).length:Int)==(1:Int)))==true)=true->0<=(0:Int)/\(0:Int) < ((v2.1).length:Int)) (some ((((v4==(14:Int))&&(v2.2==(0:Int)))&&(((v2.1).length:Int)==(1:Int)))&&(((v2.1).getD (0:Int).toNat default).e==(15:Int)))))))))
def ref30XmatchesN:Nat->(p0:(List ze))->(path1:(List ze))->Option Bool
 | 0,_,_=>none
 | n+1,p0,path1=>(if (((p0).length:Int)==(0:Int))=true then some (((path1).length:Int)==(0:Int)) else ((yd p0 (0:Int)).bind λy4=>(if (y4==([42,42]:ze))=true then some true else (zB (((decide (((path1).length:Int) > (0:Int)))==true)=true->0<=(0:Int)/\(0:Int) < ((p0).length:Int)) ((zB ((((decide (((path1).length:Int) > (0:Int)))==true)&&((((p0).getD (0:Int).toNat default)==([42]:ze))==false))=true->0<=(0:Int)/\(0:Int) < ((p0).length:Int)) ((zB ((((decide (((path1).length:Int) > (0:Int)))==true)&&((((p0).getD (0:Int).toNat default)==([42]:ze))==false))=true->0<=(0:Int)/\(0:Int) < ((path1).length:Int)) ((zB ((((decide (((path1).length:Int) > (0:Int)))&&((((p0).getD (0:Int).toNat default)==([42]:ze)) || (((p0).getD (0:Int).toNat default)==((path1).getD (0:Int).toNat default))))==true)=true->0<=(1:Int)/\(1:Int)<=((p0).length:Int)/\((p0).length:Int)<=((p0).length:Int)) ((zB ((((decide (((path1).length:Int) > (0:Int)))&&((((p0).getD (0:Int).toNat default)==([42]:ze)) || (((p0).getD (0:Int).toNat default)==((path1).getD (0:Int).toNat default))))==true)=true->0<=(1:Int)/\(1:Int)<=((path1).length:Int)/\((path1).length:Int)<=((path1).length:Int)) (((if (((decide (((path1).length:Int) > (0:Int)))&&((((p0).getD (0:Int).toNat default)==([42]:ze)) || (((p0).getD (0:Int).toNat default)==((path1).getD (0:Int).toNat default))))==true)=true then ref30XmatchesN n ((p0.take ((p0).length:Int).toNat).drop (1:Int).toNat) ((path1.take ((path1).length:Int).toNat).drop (1:Int).toNat) else some default).bind λv14=>some (((decide (((path1).length:Int) > (0:Int)))&&((((p0).getD (0:Int).toNat default)==([42]:ze)) || (((p0).getD (0:Int).toNat default)==((path1).getD (0:Int).toNat default))))&&v14)))))))))))))))
def ref30Xmatches (p0:(List ze)) (path1:(List ze)):Option Bool:=anyN λn=>ref30XmatchesN n p0 path1
def ref30MayPattern (p0:(List ze)):Option Bool :=
 (zB (((decide (((p0).length:Int) > (0:Int)))==true)=true->0<=(IntKind.wrap .i64 (((p0).length:Int) - (1:Int)))/\(IntKind.wrap .i64 (((p0).length:Int) - (1:Int))) < ((p0).length:Int)) ((if ((decide (((p0).length:Int) > (0:Int)))&&(((p0).getD (IntKind.wrap .i64 (((p0).length:Int) - (1:Int))).toNat default)==([42,42]:ze)))=true then (if ((IntKind.wrap .i64 (((p0).length:Int) - (1:Int)))==(0:Int))=true then some true else (if ((decide ((IntKind.wrap .i64 (((p0).length:Int) - (1:Int))) < (1:Int))) || (decide ((IntKind.wrap .i64 (((p0).length:Int) - (1:Int))) > (3:Int))))=true then some false else (zB ((IntKind.wrap .i64 (((p0).length:Int) - (1:Int)))<=9223372036854775807) (lp (zj (λ(n1:Nat) (x1:Nat) (s1:Unit)=>(((yd p0 (n1:Int)).bind λy12=>(zB (((!(y12==([42]:ze)))==true)=true->0<=(n1:Int)/\(n1:Int) < ((p0).length:Int)) (((if ((!(y12==([42]:ze)))==true)=true then xB ((p0).getD (n1:Int).toNat default) else some default).bind λv14=>(if ((!(y12==([42]:ze)))&&(!v14))=true then some (.ret false) else some (.nxt ())))))):Option (Out _ Unit))) (List.range (((IntKind.wrap .i64 (((p0).length:Int) - (1:Int)))).toNat)) 0 ()) λ(s1:Unit)=>some true)))) else (if ((decide (((p0).length:Int) < (1:Int))) || (decide (((p0).length:Int) > (3:Int))))=true then some false else (lp (zj (λ(n1:Nat) (x1:ze) (s1:Unit)=>((zB (((!(x1==([42]:ze)))==true)=true->0<=(n1:Int)/\(n1:Int) < ((p0).length:Int)) (((if ((!(x1==([42]:ze)))==true)=true then xB ((p0).getD (n1:Int).toNat default) else some default).bind λv24=>(if ((!(x1==([42]:ze)))&&(!v24))=true then some (.ret false) else some (.nxt ()))))):Option (Out _ Unit))) p0 0 ()) λ(s1:Unit)=>some true)))))
def ref30Match (p0:(List ze)) (path1:(List ze)):Option Bool :=
 ((ref30MayPattern p0).bind λv1=>((if (v1==true)=true then we path1 else some default).bind λv2=>((if ((v1&&v2)==true)=true then ref30Xmatches p0 path1 else some default).bind λv3=>some ((v1&&v2)&&v3))))
def ref43Xfield (l0:(List GField)) (path1:(List ze)):Option Int :=
 (lp (zj (λ(n1:Nat) (x1:GField) (s1:Unit)=>(((ref30Match x1.path path1).bind λv9=>(if v9=true then some (.ret (n1:Int)) else some (.nxt ()))):Option (Out _ Unit))) l0 0 ()) λ(s1:Unit)=>some (-1:Int))
def ref43Xbit (n0:Int) (k1:Int):Option Bool :=
 (zB (k1<=255) (lp (zj (λ(n1:Nat) (x1:Nat) (s1:Int)=>(some (.nxt (IntKind.wrap .u8 (Int.tdiv s1 (2:Int)))):Option (Out _ Int))) (List.range k1.toNat) 0 n0) λ(s1:Int)=>some (Int.tmod s1 (2:Int)==(1:Int))))
def ref43Breach (l0:(List GField)) (path1:(List ze)) (x2:GLeaf):Option Int :=
 ((ref43Xfield l0 path1).bind λv1=>(if (decide (v1 < (0:Int)))=true then some (7:Int) else ((yd l0 v1).bind λy3=>((ref43Xbit y3.types x2.typ).bind λv4=>(if (!v4)=true then some (15:Int) else (zB (((x2.typ==(1:Int))==true)=true->0<=v1/\v1 < ((l0).length:Int)) ((zB ((((x2.typ==(1:Int))==true)&&((decide (x2.n < ((l0).getD v1.toNat default).min))==false))=true->0<=v1/\v1 < ((l0).length:Int)) ((if ((x2.typ==(1:Int))&&((decide (x2.n < ((l0).getD v1.toNat default).min)) || (decide (x2.n > ((l0).getD v1.toNat default).max))))=true then some (14:Int) else ((yd l0 v1).bind λy10=>(if (((decide (((x2.items).length:Int) > y10.items))&&(x2.typ != (1:Int)))&&(x2.typ != (2:Int)))=true then some (14:Int) else some (0:Int)))))))))))))
def ref43May (l0:(List GField)):Option Bool :=
 (if (decide (((l0).length:Int) > (64:Int)))=true then some false else (lp (zj (λ(n1:Nat) (x1:GField) (s1:Unit)=>(((ref30MayPattern x1.path).bind λv12=>((if ((!v12)==false)=true then ref43Xbit x1.types (0:Int) else some default).bind λv13=>(if ((((((!v12) || v13) || (decide (x1.types > (31:Int)))) || (decide (x1.min > x1.max))) || (decide (x1.items < (0:Int)))) || (decide (x1.items > (1000:Int))))=true then some (.ret false) else some (.nxt ())))):Option (Out _ Unit))) l0 0 ()) λ(s1:Unit)=>some true))
def ref07RowsN:Nat->(t0:(List GNode))->(ahead1:(List ze))->Option (List GVarveref07Row)
 | 0,_,_=>none
 | n+1,t0,ahead1=>(lp (zj (λ(n1:Nat) (x1:GNode) (s1:(List GVarveref07Row))=>((zB ((([]:List ze)).length+(ahead1).length<=yg) ((zB (((([]:List ze)++ahead1)).length+(([x1.name]:List ze)).length<=yg) ((lp (zj (λ(n2:Nat) (x2:GLeaf) (s2:(List GVarveref07Row))=>((zB ((s2).length+(([(GVarveref07Row.mk ((([]:List ze)++ahead1)++([x1.name]:List ze)) x2)]:List GVarveref07Row)).length<=yg) (some (.nxt (s2++([(GVarveref07Row.mk ((([]:List ze)++ahead1)++([x1.name]:List ze)) x2)]:List GVarveref07Row))))):Option (Out _ (List GVarveref07Row)))) x1.leaves 0 s1) λ(s2:(List GVarveref07Row))=>((ref07RowsN n x1.subs ((([]:List ze)++ahead1)++([x1.name]:List ze))).bind λv44=>(zB ((s2).length+(v44).length<=yg) (some (.nxt (s2++v44)))))))))):Option (Out _ (List GVarveref07Row)))) t0 0 ([]:List GVarveref07Row)) λ(s1:(List GVarveref07Row))=>some s1)
def ref07Rows (t0:(List GNode)) (ahead1:(List ze)):Option (List GVarveref07Row):=anyN λn=>ref07RowsN n t0 ahead1
def ref30Rows (t0:(List GNode)):Option (List GRow) :=
 ((xK t0).bind λv1=>(if (!v1)=true then some ([]:List GRow) else ((ref07Rows t0 ([]:List ze)).bind λv3=>(lp (zj (λ(n1:Nat) (x1:GVarveref07Row) (s1:(List GRow))=>((zB ((s1).length+(([(GRow.mk x1.path x1.l)]:List GRow)).length<=yg) (some (.nxt (s1++([(GRow.mk x1.path x1.l)]:List GRow))))):Option (Out _ (List GRow)))) v3 0 ([]:List GRow)) λ(s1:(List GRow))=>some s1))))
def ref43Check (l0:(List GField)) (t1:(List GNode)):Option ((List GBreach)×Int) :=
 ((ref43May l0).bind λv1=>((if ((!v1)==false)=true then xK t1 else some default).bind λv2=>(if ((!v1) || (!v2))=true then some (([]:List GBreach),(2:Int)) else ((ref30Rows t1).bind λv4=>(lp (zj (λ(n1:Nat) (x1:GRow) (s1:(List GBreach))=>(((ref43Breach l0 x1.path x1.leaf).bind λv18=>(if (v18 != (0:Int))=true then (zB ((s1).length+(([(GBreach.mk x1.path x1.leaf.typ v18)]:List GBreach)).length<=yg) (some (.nxt (s1++([(GBreach.mk x1.path x1.leaf.typ v18)]:List GBreach))))) else some (.nxt s1))):Option (Out _ (List GBreach)))) v4 0 ([]:List GBreach)) λ(s1:(List GBreach))=>some (s1,(0:Int)))))))
def diffXside (there0:Bool) (l1:GLeaf) (kind2:Int):Option Bool :=
 (if (!there0)=true then ((xN l1 zLf).bind λv2=>some v2) else ((if ((l1.typ==kind2)==true)=true then qO l1 else some default).bind λv3=>some ((l1.typ==kind2)&&v3)))
def cmpXisNaNString (x0:ze):Option Bool :=
 some (!(x0==x0))
def cmpCompareString (x0:ze) (y1:ze):Option Int :=
 ((cmpXisNaNString x0).bind λv1=>((cmpXisNaNString y1).bind λv2=>(if v1=true then (if v2=true then some (0:Int) else some (-1:Int)) else (if v2=true then some (1:Int) else (if (Op.bytesLess x0 y1)=true then some (-1:Int) else (if (!(Op.bytesLess x0 y1 || x0==y1))=true then some (1:Int) else some (0:Int)))))))
def slicesCompareString (s10:(List ze)) (s21:(List ze)):Option Int :=
 (lp (zj (λ(n1:Nat) (x1:ze) (s1:Unit)=>((if (decide ((n1:Int) >= ((s21).length:Int)))=true then some (.ret (1:Int)) else ((yd s21 (n1:Int)).bind λy12=>((cmpCompareString x1 y12).bind λv13=>(if (v13 != (0:Int))=true then some (.ret v13) else some (.nxt ()))))):Option (Out _ Unit))) s10 0 ()) λ(s1:Unit)=>(if (decide (((s10).length:Int) < ((s21).length:Int)))=true then some (-1:Int) else some (0:Int)))
def diffXorder (a0:GEdit) (b1:GEdit):Option Int :=
 ((slicesCompareString a0.path b1.path).bind λv1=>((yv a0.typ b1.typ).bind λv2=>((vK ([v1,v2]:List Int)).bind λv3=>some v3)))
def diffMay (l0:(List GEdit)):Option Bool :=
 (lp (zj (λ(n1:Nat) (x1:GEdit) (s1:Unit)=>(((if ((x1.had&&x1.has)==true)=true then xN x1.was x1.is else some default).bind λv13=>((wJ x1.path).bind λv14=>((if (((((!v14) || (!((decide (x1.typ >= (1:Int)))&&(decide (x1.typ<=(4:Int)))))) || ((!x1.had)&&(!x1.has))) || ((x1.had&&x1.has)&&v13))==false)=true then diffXside x1.had x1.was x1.typ else some default).bind λv15=>((if ((((((!v14) || (!((decide (x1.typ >= (1:Int)))&&(decide (x1.typ<=(4:Int)))))) || ((!x1.had)&&(!x1.has))) || ((x1.had&&x1.has)&&v13)) || (!v15))==false)=true then diffXside x1.has x1.is x1.typ else some default).bind λv16=>(if ((((((!v14) || (!((decide (x1.typ >= (1:Int)))&&(decide (x1.typ<=(4:Int)))))) || ((!x1.had)&&(!x1.has))) || ((x1.had&&x1.has)&&v13)) || (!v15)) || (!v16))=true then some (.ret false) else (zB (((decide ((n1:Int) > (0:Int)))==true)=true->0<=(IntKind.wrap .i64 ((n1:Int) - (1:Int)))/\(IntKind.wrap .i64 ((n1:Int) - (1:Int))) < ((l0).length:Int)) (((if ((decide ((n1:Int) > (0:Int)))==true)=true then diffXorder ((l0).getD (IntKind.wrap .i64 ((n1:Int) - (1:Int))).toNat default) x1 else some default).bind λv19=>(if ((decide ((n1:Int) > (0:Int)))&&(decide (v19 >= (0:Int))))=true then some (.ret false) else some (.nxt ())))))))))):Option (Out _ Unit))) l0 0 ()) λ(s1:Unit)=>some true)
def pathsXkeptN:Nat->(t0:(List GNode))->(ahead1:(List ze))->(is2:((List ze)->Option Bool))->Option (List GNode)
 | 0,_,_,_=>none
 | n+1,t0,ahead1,is2=>(lp (zj (λ(n1:Nat) (x1:GNode) (s1:(List GNode))=>(((wR ahead1).bind λv32=>(zB ((v32).length+(([x1.name]:List ze)).length<=yg) (((pathsXkeptN n x1.subs (v32++([x1.name]:List ze)) is2).bind λv34=>(lp (zj (λ(n2:Nat) (x2:GLeaf) (s2:(List GLeaf))=>(((is2 (v32++([x1.name]:List ze))).bind λv49=>(if v49=true then ((pathsXown x2).bind λv51=>(zB ((s2).length+(([v51]:List GLeaf)).length<=yg) (some (.nxt (s2++([v51]:List GLeaf)))))) else some (.nxt s2))):Option (Out _ (List GLeaf)))) x1.leaves 0 ([]:List GLeaf)) λ(s2:(List GLeaf))=>(if (decide ((IntKind.wrap .i64 (((s2).length:Int)+((v34).length:Int))) > (0:Int)))=true then (zB ((s1).length+(([(GNode.mk x1.name s2 v34)]:List GNode)).length<=yg) (some (.nxt (s1++([(GNode.mk x1.name s2 v34)]:List GNode))))) else some (.nxt s1))))))):Option (Out _ (List GNode)))) t0 0 ([]:List GNode)) λ(s1:(List GNode))=>some s1)
def pathsXkept (t0:(List GNode)) (ahead1:(List ze)) (is2:((List ze)->Option Bool)):Option (List GNode):=anyN λn=>pathsXkeptN n t0 ahead1 is2
def pathsSelectC1 (path0:(List ze)) (c0:(List ze)):Option Bool :=
 ((pathsMatch c0 path0).bind λv1=>some v1)
def pathsSelect (t0:(List GNode)) (p1:(List ze)):Option ((List GNode)×Int) :=
 ((yL t0).bind λv1=>((if ((!v1)==false)=true then vQ p1 else some default).bind λv2=>(if ((!v1) || (!v2))=true then some (([]:List GNode),(2:Int)) else ((pathsXkept t0 ([]:List ze) (λx0=>pathsSelectC1 x0 p1)).bind λv4=>some (v4,(0:Int))))))
def diffXlayC1 (n0:GNode) (name1:ze):Option Int :=
 ((stringsCompare n0.name name1).bind λv1=>some v1)
def w8 (s0:(List GLeaf)) (del1:(GLeaf->Option Bool)):Option (List GLeaf) :=
 ((yh s0 del1).bind λv1=>(if (v1==(-1:Int))=true then some s0 else (lp (yb (λ(s1:Int×Int×(List GLeaf))=>((zB ((s1.2.2).length=s0.length) ((if (decide (s1.2.1 < ((s0.length:Nat):Int)))=true then ((yd s1.2.2 s1.2.1).bind λy14=>((del1 y14).bind λv15=>(if (!v15)=true then ((yd s1.2.2 s1.1).bind λy17=>some (.nxt ((IntKind.wrap .i64 (s1.1+(1:Int))),(IntKind.wrap .i64 (s1.2.1+(1:Int))),(s1.2.2.set s1.1.toNat y14)))) else some (.nxt (s1.1,(IntKind.wrap .i64 (s1.2.1+(1:Int))),s1.2.2))))) else some (.brk (s1.1,s1.2.1,s1.2.2))))):Option (Out _ (Int×Int×(List GLeaf))))) (v1,(IntKind.wrap .i64 (v1+(1:Int))),s0)) λ(s1:Int×Int×(List GLeaf))=>(zB (0<=s1.1/\s1.1<=((s0.length:Nat):Int)) (((slc (s1.2.2.take s1.1.toNat++List.replicate (s0.length - s1.1.toNat) zLf) (0:Int) s1.1).bind λm19=>some m19))))))
def diffXlayC2 (x0:GLeaf) (c0:Int):Option Bool :=
 some (x0.typ==c0)
def diffXown (l0:GLeaf):Option GLeaf :=
 ((yk l0.items).bind λv1=>((yo l0.tombs).bind λv2=>some (GLeaf.mk l0.typ l0.n l0.time l0.dot l0.text v1 v2)))
/-- slices.SortFunc[[]varve/api.Leaf,varve/api.Leaf]: sortO -/
def slicesSortFuncLeafX:Unit:=()
def diffXlayC3 (x0:GLeaf) (y1:GLeaf):Option Int :=
 ((yv x0.typ y1.typ).bind λv1=>some v1)
def diffXlayN:Nat->(t0:(List GNode))->(path1:(List ze))->(kind2:Int)->(l3:GLeaf)->(there4:Bool)->Option (List GNode)
 | 0,_,_,_,_,_=>none
 | n+1,t0,path1,kind2,l3,there4=>((yd path1 (0:Int)).bind λy1=>((yK t0 y1 (λx0 x1=>diffXlayC1 x0 x1)).bind λv2=>((yd path1 (0:Int)).bind λy3=>(lp ((if v2.2=true then ((yd t0 v2.1).bind λy7=>some (.inr (y7.name,y7.leaves,y7.subs))) else some (.inr (y3,([]:List GLeaf),([]:List GNode)))):Option (_ ⊕ (ze×(List GLeaf)×(List GNode)))) λ(s1:ze×(List GLeaf)×(List GNode))=>(lp ((if (decide (((path1).length:Int) > (1:Int)))=true then ((slc path1 (1:Int) ((path1).length:Int)).bind λm20=>((diffXlayN n s1.2.2 m20 kind2 l3 there4).bind λv21=>some (.inr (s1.2.1,v21)))) else ((xJ s1.2.1).bind λv22=>((w8 v22 (λx0=>diffXlayC2 x0 kind2)).bind λv23=>(if there4=true then ((diffXown l3).bind λv25=>(zB ((v23).length+(([v25]:List GLeaf)).length<=yg) (((sortO (λx y=>diffXlayC3 x y) (v23++([v25]:List GLeaf))).bind λv27=>some (.inr (v27,s1.2.2)))))) else some (.inr (v23,s1.2.2)))))):Option (_ ⊕ ((List GLeaf)×(List GNode)))) λ(s2:(List GLeaf)×(List GNode))=>((slc t0 (0:Int) v2.1).bind λm28=>((wj m28).bind λv29=>(if (decide ((IntKind.wrap .i64 (((s2.1).length:Int)+((s2.2).length:Int))) > (0:Int)))=true then (zB ((v29).length+(([(GNode.mk s1.1 s2.1 s2.2)]:List GNode)).length<=yg) ((if v2.2=true then ((slc t0 (IntKind.wrap .i64 (v2.1+(1:Int))) ((t0).length:Int)).bind λm35=>(zB (((v29++([(GNode.mk s1.1 s2.1 s2.2)]:List GNode))).length+(m35).length<=yg) (some ((v29++([(GNode.mk s1.1 s2.1 s2.2)]:List GNode))++m35)))) else ((slc t0 v2.1 ((t0).length:Int)).bind λm37=>(zB (((v29++([(GNode.mk s1.1 s2.1 s2.2)]:List GNode))).length+(m37).length<=yg) (some ((v29++([(GNode.mk s1.1 s2.1 s2.2)]:List GNode))++m37))))))) else (if v2.2=true then ((slc t0 (IntKind.wrap .i64 (v2.1+(1:Int))) ((t0).length:Int)).bind λm40=>(zB ((v29).length+(m40).length<=yg) (some (v29++m40)))) else ((slc t0 v2.1 ((t0).length:Int)).bind λm42=>(zB ((v29).length+(m42).length<=yg) (some (v29++m42)))))))))))))
def diffXlay (t0:(List GNode)) (path1:(List ze)) (kind2:Int) (l3:GLeaf) (there4:Bool):Option (List GNode):=anyN λn=>diffXlayN n t0 path1 kind2 l3 there4
def diffPatch (t0:(List GNode)) (l1:(List GEdit)):Option ((List GNode)×Int) :=
 ((yL t0).bind λv1=>((if ((!v1)==false)=true then diffMay l1 else some default).bind λv2=>(if ((!v1) || (!v2))=true then some (([]:List GNode),(2:Int)) else ((pathsSelect t0 ([([42,42]:ze)]:List ze)).bind λv4=>(lp (zj (λ(n1:Nat) (x1:GEdit) (s1:(List GNode))=>(((yT t0 x1.path x1.typ).bind λv14=>((if (((!(v14.2==x1.had))==false)&&(v14.2==true))=true then xN v14.1 x1.was else some default).bind λv15=>(if ((!(v14.2==x1.had)) || (v14.2&&(!v15)))=true then some (.ret (([]:List GNode),(16:Int))) else ((diffXlay s1 x1.path x1.typ x1.is x1.has).bind λv17=>some (.nxt v17))))):Option (Out _ (List GNode)))) l1 0 v4.1) λ(s1:(List GNode))=>some (s1,(0:Int)))))))
def schemaFit (l0:(List GField)) (t1:(List GNode)):Option ((List GNode)×Int) :=
 ((schemaMay l0).bind λv1=>((if ((!v1)==false)=true then yL t1 else some default).bind λv2=>(if ((!v1) || (!v2))=true then some (([]:List GNode),(2:Int)) else ((pathsRows t1).bind λv4=>(lp (zj (λ(n1:Nat) (x1:GRow) (s1:(List GEdit))=>(((schemaXbreach l0 x1.path x1.leaf).bind λv13=>(if (v13==(0:Int))=true then (zB ((s1).length+(([(GEdit.mk x1.path x1.leaf.typ false true zLf x1.leaf)]:List GEdit)).length<=yg) (some (.nxt (s1++([(GEdit.mk x1.path x1.leaf.typ false true zLf x1.leaf)]:List GEdit))))) else some (.nxt s1))):Option (Out _ (List GEdit)))) v4 0 ([]:List GEdit)) λ(s1:(List GEdit))=>((diffPatch ([]:List GNode) s1).bind λv16=>some (v16.1,v16.2)))))))
def ref07LayN:Nat->(t0:(List GNode))->(path1:(List ze))->(l2:GLeaf)->Option (List GNode)
 | 0,_,_,_=>none
 | n+1,t0,path1,l2=>(lp (yb (λ(s1:(List GNode)×Int)=>((zB (((decide (s1.2 < ((t0).length:Int)))==true)=true->0<=s1.2/\s1.2 < ((t0).length:Int)) ((zB (((decide (s1.2 < ((t0).length:Int)))==true)=true->0<=(0:Int)/\(0:Int) < ((path1).length:Int)) ((if ((decide (s1.2 < ((t0).length:Int)))&&(Op.bytesLess (((t0).getD s1.2.toNat default).name) ((path1).getD (0:Int).toNat default)))=true then ((yd t0 s1.2).bind λy22=>(zB ((s1.1).length+(([y22]:List GNode)).length<=yg) (some (.nxt ((s1.1++([y22]:List GNode)),(IntKind.wrap .i64 (s1.2+(1:Int)))))))) else some (.brk (s1.1,s1.2))))))):Option (Out _ ((List GNode)×Int)))) (([]:List GNode),(0:Int))) λ(s1:(List GNode)×Int)=>((yd path1 (0:Int)).bind λy24=>(lp ((zB (((decide (s1.2 < ((t0).length:Int)))==true)=true->0<=s1.2/\s1.2 < ((t0).length:Int)) ((zB (((decide (s1.2 < ((t0).length:Int)))==true)=true->0<=(0:Int)/\(0:Int) < ((path1).length:Int)) ((if ((decide (s1.2 < ((t0).length:Int)))&&(((t0).getD s1.2.toNat default).name==((path1).getD (0:Int).toNat default)))=true then ((yd t0 s1.2).bind λy34=>some (.inr ((IntKind.wrap .i64 (s1.2+(1:Int))),y34.name,y34.leaves,y34.subs))) else some (.inr (s1.2,y24,([]:List GLeaf),([]:List GNode)))))))):Option (_ ⊕ (Int×ze×(List GLeaf)×(List GNode)))) λ(s2:Int×ze×(List GLeaf)×(List GNode))=>(if (decide (((path1).length:Int) > (1:Int)))=true then ((slc path1 (1:Int) ((path1).length:Int)).bind λm37=>((ref07LayN n s2.2.2.2 m37 l2).bind λv38=>(zB ((s1.1).length+(([(GNode.mk s2.2.1 s2.2.2.1 v38)]:List GNode)).length<=yg) (((slc t0 s2.1 ((t0).length:Int)).bind λm40=>(zB (((s1.1++([(GNode.mk s2.2.1 s2.2.2.1 v38)]:List GNode))).length+(m40).length<=yg) (some ((s1.1++([(GNode.mk s2.2.1 s2.2.2.1 v38)]:List GNode))++m40)))))))) else (lp (yb (λ(s3:(List GLeaf)×Int)=>((zB (((decide (s3.2 < ((s2.2.2.1).length:Int)))==true)=true->0<=s3.2/\s3.2 < ((s2.2.2.1).length:Int)) ((if ((decide (s3.2 < ((s2.2.2.1).length:Int)))&&(decide (((s2.2.2.1).getD s3.2.toNat default).typ < l2.typ)))=true then ((yd s2.2.2.1 s3.2).bind λy64=>(zB ((s3.1).length+(([y64]:List GLeaf)).length<=yg) (some (.nxt ((s3.1++([y64]:List GLeaf)),(IntKind.wrap .i64 (s3.2+(1:Int)))))))) else some (.brk (s3.1,s3.2))))):Option (Out _ ((List GLeaf)×Int)))) (([]:List GLeaf),(0:Int))) λ(s3:(List GLeaf)×Int)=>(zB (((decide (s3.2 < ((s2.2.2.1).length:Int)))==true)=true->0<=s3.2/\s3.2 < ((s2.2.2.1).length:Int)) ((if ((decide (s3.2 < ((s2.2.2.1).length:Int)))&&(((s2.2.2.1).getD s3.2.toNat default).typ==l2.typ))=true then (zB ((s3.1).length+(([l2]:List GLeaf)).length<=yg) (((slc s2.2.2.1 (IntKind.wrap .i64 (s3.2+(1:Int))) ((s2.2.2.1).length:Int)).bind λm70=>(zB (((s3.1++([l2]:List GLeaf))).length+(m70).length<=yg) ((zB ((s1.1).length+(([(GNode.mk s2.2.1 ((s3.1++([l2]:List GLeaf))++m70) s2.2.2.2)]:List GNode)).length<=yg) (((slc t0 s2.1 ((t0).length:Int)).bind λm73=>(zB (((s1.1++([(GNode.mk s2.2.1 ((s3.1++([l2]:List GLeaf))++m70) s2.2.2.2)]:List GNode))).length+(m73).length<=yg) (some ((s1.1++([(GNode.mk s2.2.1 ((s3.1++([l2]:List GLeaf))++m70) s2.2.2.2)]:List GNode))++m73))))))))))) else (zB ((s3.1).length+(([l2]:List GLeaf)).length<=yg) (((slc s2.2.2.1 s3.2 ((s2.2.2.1).length:Int)).bind λm76=>(zB (((s3.1++([l2]:List GLeaf))).length+(m76).length<=yg) ((zB ((s1.1).length+(([(GNode.mk s2.2.1 ((s3.1++([l2]:List GLeaf))++m76) s2.2.2.2)]:List GNode)).length<=yg) (((slc t0 s2.1 ((t0).length:Int)).bind λm79=>(zB (((s1.1++([(GNode.mk s2.2.1 ((s3.1++([l2]:List GLeaf))++m76) s2.2.2.2)]:List GNode))).length+(m79).length<=yg) (some ((s1.1++([(GNode.mk s2.2.1 ((s3.1++([l2]:List GLeaf))++m76) s2.2.2.2)]:List GNode))++m79)))))))))))))))))))
def ref07Lay (t0:(List GNode)) (path1:(List ze)) (l2:GLeaf):Option (List GNode):=anyN λn=>ref07LayN n t0 path1 l2
def ref30Made (l0:(List GRow)):Option (List GNode) :=
 (lp (zj (λ(n1:Nat) (x1:GRow) (s1:(List GNode))=>(((ref07Lay s1 x1.path x1.leaf).bind λv10=>some (.nxt v10)):Option (Out _ (List GNode)))) l0 0 ([]:List GNode)) λ(s1:(List GNode))=>some s1)
def ref43Fit (l0:(List GField)) (t1:(List GNode)):Option ((List GNode)×Int) :=
 ((ref43May l0).bind λv1=>((if ((!v1)==false)=true then xK t1 else some default).bind λv2=>(if ((!v1) || (!v2))=true then some (([]:List GNode),(2:Int)) else ((ref30Rows t1).bind λv4=>(lp (zj (λ(n1:Nat) (x1:GRow) (s1:(List GRow))=>(((ref43Breach l0 x1.path x1.leaf).bind λv17=>(if (v17==(0:Int))=true then (zB ((s1).length+(([x1]:List GRow)).length<=yg) (some (.nxt (s1++([x1]:List GRow))))) else some (.nxt s1))):Option (Out _ (List GRow)))) v4 0 ([]:List GRow)) λ(s1:(List GRow))=>((ref30Made s1).bind λv20=>some (v20,(0:Int))))))))
def ref30SamePath (a0:(List ze)) (b1:(List ze)):Option Bool :=
 (if (((a0).length:Int) != ((b1).length:Int))=true then some false else (lp (zj (λ(n1:Nat) (x1:ze) (s1:Unit)=>(((yd b1 (n1:Int)).bind λy12=>(if (!(x1==y12))=true then some (.ret false) else some (.nxt ()))):Option (Out _ Unit))) a0 0 ()) λ(s1:Unit)=>some true))
def ref43Same (a0:(List GBreach)) (b1:(List GBreach)):Option Bool :=
 (if (((a0).length:Int) != ((b1).length:Int))=true then some false else (lp (zj (λ(n1:Nat) (x1:GBreach) (s1:Unit)=>(((yd b1 (n1:Int)).bind λy17=>((ref30SamePath x1.path y17.path).bind λv18=>(zB (((!v18)==false)=true->0<=(n1:Int)/\(n1:Int) < ((a0).length:Int)) ((zB (((!v18)==false)=true->0<=(n1:Int)/\(n1:Int) < ((b1).length:Int)) ((zB ((((!v18) || (((a0).getD (n1:Int).toNat default).typ != ((b1).getD (n1:Int).toNat default).typ))==false)=true->0<=(n1:Int)/\(n1:Int) < ((a0).length:Int)) ((zB ((((!v18) || (((a0).getD (n1:Int).toNat default).typ != ((b1).getD (n1:Int).toNat default).typ))==false)=true->0<=(n1:Int)/\(n1:Int) < ((b1).length:Int)) ((if (((!v18) || (((a0).getD (n1:Int).toNat default).typ != ((b1).getD (n1:Int).toNat default).typ)) || (((a0).getD (n1:Int).toNat default).e != ((b1).getD (n1:Int).toNat default).e))=true then some (.ret false) else some (.nxt ())))))))))))):Option (Out _ Unit))) a0 0 ()) λ(s1:Unit)=>some true))
def ref04Type (kind0:Int):Option Int :=
 (if (kind0==(1:Int))=true then some (1:Int) else (if (kind0==(2:Int))=true then some (2:Int) else (if (kind0==(3:Int))=true then (if (kind0==(3:Int))=true then some (3:Int) else (if (kind0==(5:Int))=true then some (4:Int) else some (0:Int))) else (if (kind0==(4:Int))=true then some (3:Int) else (if (kind0==(5:Int))=true then some (4:Int) else some (0:Int))))))
def ref04May (o0:GOp):Option Bool :=
 ((ref04Type o0.kind).bind λv1=>((if ((v1==(0:Int))==false)=true then we o0.path else some default).bind λv2=>(if ((((v1==(0:Int)) || (!v2)) || (decide (((o0.text).length:Int) > (40:Int)))) || (decide (((o0.dots).length:Int) > (64:Int))))=true then some false else (if (o0.kind==(1:Int))=true then some ((((decide (o0.n >= (-1000000:Int)))&&(decide (o0.n<=(1000000:Int))))&&(o0.text==([]:ze)))&&(((o0.dots).length:Int)==(0:Int))) else (if ((o0.n != (0:Int)) || ((o0.kind != (4:Int))&&(decide (((o0.dots).length:Int) > (0:Int)))))=true then some false else (lp (zj (λ(n1:Nat) (x1:GDot) (s1:Unit)=>(((wU x1).bind λv26=>(zB ((((!v26)==false)&&((decide ((n1:Int) > (0:Int)))==true))=true->0<=(IntKind.wrap .i64 ((n1:Int) - (1:Int)))/\(IntKind.wrap .i64 ((n1:Int) - (1:Int))) < ((o0.dots).length:Int)) ((zB ((((!v26)==false)&&((decide ((n1:Int) > (0:Int)))==true))=true->0<=(n1:Int)/\(n1:Int) < ((o0.dots).length:Int)) (((if (((!v26)==false)&&((decide ((n1:Int) > (0:Int)))==true))=true then wg ((o0.dots).getD (IntKind.wrap .i64 ((n1:Int) - (1:Int))).toNat default) ((o0.dots).getD (n1:Int).toNat default) else some default).bind λv29=>(if ((!v26) || ((decide ((n1:Int) > (0:Int)))&&(!v29)))=true then some (.ret false) else some (.nxt ())))))))):Option (Out _ Unit))) o0.dots 0 ()) λ(s1:Unit)=>some true))))))
def ref04MayEvent (e0:GEvent):Option Bool :=
 ((wU e0.dot).bind λv1=>((if (((v1&&(decide (e0.time >= (1:Int))))&&(decide (e0.time<=(1099511627776:Int))))==true)=true then ref04May e0.op else some default).bind λv2=>some (((v1&&(decide (e0.time >= (1:Int))))&&(decide (e0.time<=(1099511627776:Int))))&&v2)))
def ref05Lay (l0:(List GItem)) (x1:GItem):Option (List GItem) :=
 ((qa l0 x1.dot).bind λv1=>(if (decide (v1 >= (0:Int)))=true then (zB ((([]:List GItem)).length+(l0).length<=yg) (some (([]:List GItem)++l0))) else (lp (yb (λ(s1:(List GItem)×Int)=>((zB (((decide (s1.2 < ((l0).length:Int)))==true)=true->0<=s1.2/\s1.2 < ((l0).length:Int)) ((zB (((decide (s1.2 < ((l0).length:Int)))==true)=true->0<=s1.2/\s1.2 < ((l0).length:Int)) (((if ((decide (s1.2 < ((l0).length:Int)))==true)=true then xY (((l0).getD s1.2.toNat default).time) (((l0).getD s1.2.toNat default).dot) x1.time x1.dot else some default).bind λv21=>(if ((decide (s1.2 < ((l0).length:Int)))&&v21)=true then ((yd l0 s1.2).bind λy23=>(zB ((s1.1).length+(([y23]:List GItem)).length<=yg) (some (.nxt ((s1.1++([y23]:List GItem)),(IntKind.wrap .i64 (s1.2+(1:Int)))))))) else some (.brk (s1.1,s1.2)))))))):Option (Out _ ((List GItem)×Int)))) (([]:List GItem),(0:Int))) λ(s1:(List GItem)×Int)=>(zB ((s1.1).length+(([x1]:List GItem)).length<=yg) (((slc l0 s1.2 ((l0).length:Int)).bind λm26=>(zB (((s1.1++([x1]:List GItem))).length+(m26).length<=yg) (some ((s1.1++([x1]:List GItem))++m26)))))))))
def ref05Bury (l0:(List GDot)) (d1:GDot):Option (List GDot) :=
 ((wH l0 d1).bind λv1=>(if v1=true then some l0 else (lp (yb (λ(s1:(List GDot)×Int)=>((zB (((decide (s1.2 < ((l0).length:Int)))==true)=true->0<=s1.2/\s1.2 < ((l0).length:Int)) (((if ((decide (s1.2 < ((l0).length:Int)))==true)=true then wg ((l0).getD s1.2.toNat default) d1 else some default).bind λv16=>(if ((decide (s1.2 < ((l0).length:Int)))&&v16)=true then ((yd l0 s1.2).bind λy18=>(zB ((s1.1).length+(([y18]:List GDot)).length<=yg) (some (.nxt ((s1.1++([y18]:List GDot)),(IntKind.wrap .i64 (s1.2+(1:Int)))))))) else some (.brk (s1.1,s1.2)))))):Option (Out _ ((List GDot)×Int)))) (([]:List GDot),(0:Int))) λ(s1:(List GDot)×Int)=>(zB ((s1.1).length+(([d1]:List GDot)).length<=yg) (((slc l0 s1.2 ((l0).length:Int)).bind λm21=>(zB (((s1.1++([d1]:List GDot))).length+(m21).length<=yg) (some ((s1.1++([d1]:List GDot))++m21)))))))))
def ref05Left (l0:(List GItem)) (tombs1:(List GDot)):Option (List GItem) :=
 (lp (zj (λ(n1:Nat) (x1:GItem) (s1:(List GItem))=>(((wH tombs1 x1.dot).bind λv12=>(if (!v12)=true then (zB ((s1).length+(([x1]:List GItem)).length<=yg) (some (.nxt (s1++([x1]:List GItem))))) else some (.nxt s1))):Option (Out _ (List GItem)))) l0 0 ([]:List GItem)) λ(s1:(List GItem))=>some s1)
def ref05Apply (l0:GLeaf) (e1:GEvent):Option (GLeaf×Int) :=
 ((qp l0).bind λv1=>((if ((!v1)==false)=true then ref04MayEvent e1 else some default).bind λv2=>(if ((!v1) || (!v2))=true then some (zLf,(2:Int)) else ((ref04Type e1.op.kind).bind λv4=>(if (v4 != l0.typ)=true then some (zLf,(15:Int)) else (if (e1.op.kind==(1:Int))=true then some ((GLeaf.mk l0.typ (IntKind.wrap .i64 (l0.n+e1.op.n)) l0.time l0.dot l0.text l0.items l0.tombs),(0:Int)) else (if (e1.op.kind==(2:Int))=true then ((if ((l0.time==(0:Int))==false)=true then xY l0.time l0.dot e1.time e1.dot else some default).bind λv8=>(if ((l0.time==(0:Int)) || v8)=true then some ((GLeaf.mk l0.typ l0.n e1.time e1.dot e1.op.text l0.items l0.tombs),(0:Int)) else some (l0,(0:Int)))) else (if (e1.op.kind==(3:Int))=true then ((wH l0.tombs e1.dot).bind λv11=>(if (!v11)=true then ((ref05Lay l0.items (GItem.mk (0:Int) e1.dot e1.op.text)).bind λv13=>some ((GLeaf.mk l0.typ l0.n l0.time l0.dot l0.text v13 l0.tombs),(0:Int))) else some (l0,(0:Int)))) else (if (e1.op.kind==(4:Int))=true then (lp (zj (λ(n1:Nat) (x1:GDot) (s1:(List GDot))=>(((ref05Bury s1 x1).bind λv49=>some (.nxt v49)):Option (Out _ (List GDot)))) e1.op.dots 0 l0.tombs) λ(s1:(List GDot))=>((ref05Left l0.items s1).bind λv50=>some ((GLeaf.mk l0.typ l0.n l0.time l0.dot l0.text v50 s1),(0:Int)))) else (if (e1.op.kind==(5:Int))=true then ((ref05Lay l0.items (GItem.mk e1.time e1.dot e1.op.text)).bind λv52=>some ((GLeaf.mk l0.typ l0.n l0.time l0.dot l0.text v52 l0.tombs),(0:Int))) else some (l0,(0:Int))))))))))))
def ref07Apply (t0:(List GNode)) (e1:GEvent):Option ((List GNode)×Int) :=
 ((xK t0).bind λv1=>((if ((!v1)==false)=true then ref04MayEvent e1 else some default).bind λv2=>(if ((!v1) || (!v2))=true then some (([]:List GNode),(2:Int)) else ((ref04Type e1.op.kind).bind λv4=>((wd t0 e1.op.path v4).bind λv5=>((ref05Apply v5.1 e1).bind λv6=>(if (v6.2 != (0:Int))=true then some (([]:List GNode),v6.2) else ((ref07Lay t0 e1.op.path v6.1).bind λv8=>some (v8,(0:Int))))))))))
def ref43Allows (l0:(List GField)) (t1:(List GNode)) (e2:GEvent):Option Int :=
 ((ref43May l0).bind λv1=>((if ((!v1)==false)=true then xK t1 else some default).bind λv2=>((if (((!v1) || (!v2))==false)=true then ref04MayEvent e2 else some default).bind λv3=>(if (((!v1) || (!v2)) || (!v3))=true then some (2:Int) else ((ref07Apply t1 e2).bind λv5=>((ref04Type e2.op.kind).bind λv6=>((wd v5.1 e2.op.path v6).bind λv7=>((ref43Breach l0 e2.op.path v7.1).bind λv8=>some v8))))))))
def law43SchemaMakes (l0:(List GField)) (t1:(List GNode)) (e2:GEvent):Option Bool :=
 ((law43Xgreat l0 t1 e2.op).bind λv1=>(if v1=true then ((law43Xknown).bind λv3=>some v3) else ((schemaCheck l0 t1).bind λv4=>((ref43Check l0 t1).bind λv5=>((schemaFit l0 t1).bind λv6=>((ref43Fit l0 t1).bind λv7=>((schemaMay l0).bind λv8=>((ref43May l0).bind λv9=>((if ((v8==v9)==true)=true then ref43Same v4.1 v5.1 else some default).bind λv10=>((if ((((v8==v9)&&v10)&&(v4.2==v5.2))==true)=true then schemaAllows l0 t1 e2 else some default).bind λv11=>((if ((((v8==v9)&&v10)&&(v4.2==v5.2))==true)=true then ref43Allows l0 t1 e2 else some default).bind λv12=>((if (((((v8==v9)&&v10)&&(v4.2==v5.2))&&(v11==v12))==true)=true then ref07Same v6.1 v7.1 else some default).bind λv13=>((if (((((((v8==v9)&&v10)&&(v4.2==v5.2))&&(v11==v12))&&v13)&&(v6.2==v7.2))==true)=true then law43Xknown else some default).bind λv14=>some (((((((v8==v9)&&v10)&&(v4.2==v5.2))&&(v11==v12))&&v13)&&(v6.2==v7.2))&&v14))))))))))))))
def law45Xgreat (l0:(List GQuota)) (t1:(List GNode)) (o2:GOp):Option Bool :=
 (lp (zj (λ(n1:Nat) (x1:GQuota) (s1:Unit)=>((if (decide (((x1.name).length:Int) > (40:Int)))=true then some (.ret true) else some (.nxt ())):Option (Out _ Unit))) l0 0 ()) λ(s1:Unit)=>((if ((decide (((l0).length:Int) > (20:Int)))==false)=true then wy t1 else some default).bind λv15=>some (((((decide (((l0).length:Int) > (20:Int))) || v15) || (decide (((o2.dots).length:Int) > (100:Int)))) || (decide (((o2.path).length:Int) > (10:Int)))) || (decide (((o2.text).length:Int) > (200:Int))))))
def xT (s0:(List GQuota)) (f1:(GQuota->Option Bool)):Option Int :=
 (lp (zj (λ(n1:Nat) (x1:GQuota) (s1:Unit)=>(((f1 x1).bind λv7=>(if v7=true then some (.ret (n1:Int)) else some (.nxt ()))):Option (Out _ Unit))) s0 0 ()) λ(s1:Unit)=>some (-1:Int))
def slicesContainsFuncQuota (s0:(List GQuota)) (f1:(GQuota->Option Bool)):Option Bool :=
 ((xT s0 f1).bind λv1=>some (decide (v1 >= (0:Int))))
def meterMayC1 (x0:GQuota) (c0:GQuota):Option Bool :=
 some (x0.name==c0.name)
def meterMay (l0:(List GQuota)):Option Bool :=
 (lp (zj (λ(n1:Nat) (x1:GQuota) (s1:Unit)=>(((slc l0 (0:Int) (n1:Int)).bind λm9=>((slicesContainsFuncQuota m9 (λx0=>meterMayC1 x0 x1)).bind λv10=>((if ((v10==false)&&((!(x1.name==([]:ze)))==true))=true then vF x1.name else some default).bind λv11=>(if ((v10 || ((!(x1.name==([]:ze)))&&(!v11))) || (decide ((if x1.bytes < (if x1.tombs < (if x1.items < x1.leaves then x1.items else x1.leaves) then x1.tombs else (if x1.items < x1.leaves then x1.items else x1.leaves)) then x1.bytes else (if x1.tombs < (if x1.items < x1.leaves then x1.items else x1.leaves) then x1.tombs else (if x1.items < x1.leaves then x1.items else x1.leaves))) < (0:Int))))=true then some (.ret false) else some (.nxt ()))))):Option (Out _ Unit))) l0 0 ()) λ(s1:Unit)=>some true)
def law45XknownC1 (n0:Int):Option GDot :=
 some (GDot.mk (GActor.mk (0:Int) (1:Int)) n0)
def wv (b0:(List UInt8)) (n1:Int):Option (List UInt8) :=
 (lp (yb (λ(s1:(List UInt8)×Int)=>((if (decide (s1.2 > (127:Int)))=true then (zB (0<=(IntKind.wrap .u8 (((BitVec.ofInt (IntKind.bits .u8) (IntKind.wrap .u8 (s1.2)) ||| BitVec.ofInt (IntKind.bits .u8) (128:Int)).toNat:Int)))/\(IntKind.wrap .u8 (((BitVec.ofInt (IntKind.bits .u8) (IntKind.wrap .u8 (s1.2)) ||| BitVec.ofInt (IntKind.bits .u8) (128:Int)).toNat:Int))) < 256) ((zB ((s1.1).length+(([(UInt8.ofNat (IntKind.wrap .u8 (((BitVec.ofInt (IntKind.bits .u8) (IntKind.wrap .u8 (s1.2)) ||| BitVec.ofInt (IntKind.bits .u8) (128:Int)).toNat:Int))).toNat)]:List UInt8)).length<=yg) (some (.nxt ((s1.1++([(UInt8.ofNat (IntKind.wrap .u8 (((BitVec.ofInt (IntKind.bits .u8) (IntKind.wrap .u8 (s1.2)) ||| BitVec.ofInt (IntKind.bits .u8) (128:Int)).toNat:Int))).toNat)]:List UInt8)),(Int.fdiv s1.2 (2 ^ (min (7:Int).toNat (IntKind.bits .u64)))))))))) else some (.brk (s1.1,s1.2))):Option (Out _ ((List UInt8)×Int)))) (b0,n1)) λ(s1:(List UInt8)×Int)=>(zB (0<=(IntKind.wrap .u8 (s1.2))/\(IntKind.wrap .u8 (s1.2)) < 256) ((zB ((s1.1).length+(([(UInt8.ofNat (IntKind.wrap .u8 (s1.2)).toNat)]:List UInt8)).length<=yg) (some (s1.1++([(UInt8.ofNat (IntKind.wrap .u8 (s1.2)).toNat)]:List UInt8)))))))
def codeText (b0:(List UInt8)) (s1:ze):Option (List UInt8) :=
 ((wv b0 (IntKind.wrap .u64 (((s1).length:Int)))).bind λv2=>(zB ((v2).length+(s1).length<=yg) (some (v2++s1))))
def codeInt (b0:(List UInt8)) (n1:Int):Option (List UInt8) :=
 ((wv b0 (IntKind.wrap .u64 (((BitVec.ofInt (IntKind.bits .u64) (IntKind.wrap .u64 ((IntKind.wrap .u64 (n1)) * 2 ^ (min (1:Int).toNat (IntKind.bits .u64)))) ^^^ BitVec.ofInt (IntKind.bits .u64) (IntKind.wrap .u64 ((Int.fdiv n1 (2 ^ (min (63:Int).toNat (IntKind.bits .i64))))))).toNat:Int)))).bind λv1=>some v1)
def stateXdotted (b0:(List UInt8)) (d1:GDot):Option (List UInt8) :=
 ((((wv b0 (IntKind.wrap .u64 (d1.actor.rep))).bind λv3=>some v3):Option (List UInt8)).bind λv1=>((((wv v1 (IntKind.wrap .u64 (d1.actor.inc))).bind λv6=>some v6):Option (List UInt8)).bind λv4=>((((wv v4 d1.seq).bind λv9=>some v9):Option (List UInt8)).bind λv7=>some v7)))
def stateXleaf (b0:(List UInt8)) (l1:GLeaf):Option (List UInt8) :=
 ((wv b0 (IntKind.wrap .u64 (l1.typ))).bind λv1=>((codeInt v1 l1.n).bind λv2=>((wv v2 l1.time).bind λv3=>((stateXdotted v3 l1.dot).bind λv4=>((codeText v4 l1.text).bind λv5=>((wv v5 (IntKind.wrap .u64 (((l1.items).length:Int)))).bind λv7=>(lp (zj (λ(n1:Nat) (x1:GItem) (s1:(List UInt8))=>(((wv s1 x1.time).bind λv25=>((stateXdotted v25 x1.dot).bind λv26=>((codeText v26 x1.text).bind λv27=>some (.nxt v27)))):Option (Out _ (List UInt8)))) l1.items 0 v7) λ(s1:(List UInt8))=>((wv s1 (IntKind.wrap .u64 (((l1.tombs).length:Int)))).bind λv29=>(lp (zj (λ(n2:Nat) (x2:GDot) (s2:(List UInt8))=>(((stateXdotted s2 x2).bind λv45=>some (.nxt v45)):Option (Out _ (List UInt8)))) l1.tombs 0 v29) λ(s2:(List UInt8))=>some s2)))))))))
def statePutN:Nat->(b0:(List UInt8))->(t1:(List GNode))->Option (List UInt8)
 | 0,_,_=>none
 | n+1,b0,t1=>((wv b0 (IntKind.wrap .u64 (((t1).length:Int)))).bind λv2=>(lp (zj (λ(n1:Nat) (x1:GNode) (s1:(List UInt8))=>(((codeText s1 x1.name).bind λv23=>((wv v23 (IntKind.wrap .u64 (((x1.leaves).length:Int)))).bind λv25=>(lp (zj (λ(n2:Nat) (x2:GLeaf) (s2:(List UInt8))=>(((stateXleaf s2 x2).bind λv35=>some (.nxt v35)):Option (Out _ (List UInt8)))) x1.leaves 0 v25) λ(s2:(List UInt8))=>((statePutN n s2 x1.subs).bind λv36=>some (.nxt v36))))):Option (Out _ (List UInt8)))) t1 0 v2) λ(s1:(List UInt8))=>some s1))
def statePut (b0:(List UInt8)) (t1:(List GNode)):Option (List UInt8):=anyN λn=>statePutN n b0 t1
def meterXuse (name0:ze) (t1:(List GNode)):Option GQuota :=
 ((statePut ([]:List UInt8) t1).bind λv1=>((pathsRows t1).bind λv3=>(lp (zj (λ(n1:Nat) (x1:GRow) (s1:Int×Int×Int)=>(some (.nxt ((IntKind.wrap .i64 (s1.1+(1:Int))),(IntKind.wrap .i64 (s1.2.1+((x1.leaf.items).length:Int))),(IntKind.wrap .i64 (s1.2.2+((x1.leaf.tombs).length:Int))))):Option (Out _ (Int×Int×Int)))) v3 0 ((0:Int),(0:Int),(0:Int))) λ(s1:Int×Int×Int)=>some (GQuota.mk name0 s1.1 s1.2.1 s1.2.2 ((v1).length:Int)))))
def meterUses (t0:(List GNode)):Option ((List GQuota)×Int) :=
 ((yL t0).bind λv1=>(if (!v1)=true then some (([]:List GQuota),(2:Int)) else (lp (zj (λ(n1:Nat) (x1:GNode) (s1:(List GQuota))=>(((slc t0 (n1:Int) (IntKind.wrap .i64 ((n1:Int)+(1:Int)))).bind λm11=>((meterXuse x1.name m11).bind λv12=>(zB ((s1).length+(([v12]:List GQuota)).length<=yg) (some (.nxt (s1++([v12]:List GQuota))))))):Option (Out _ (List GQuota)))) t0 0 ([]:List GQuota)) λ(s1:(List GQuota))=>some (s1,(0:Int)))))
def law45Xknown  : Option Bool :=
 ((law45XknownC1 (2:Int)).bind λv1=>((law45XknownC1 (3:Int)).bind λv2=>((law45XknownC1 (1:Int)).bind λv3=>((meterUses ([(GNode.mk ([97]:ze) ([]:List GLeaf) ([(GNode.mk ([98]:ze) ([(GLeaf.mk (3:Int) (0:Int) (0:Int) (GDot.mk (GActor.mk (0:Int) (0:Int)) (0:Int)) ([]:ze) ([(GItem.mk (0:Int) v1 ([]:ze)),(GItem.mk (0:Int) v2 ([]:ze))]:List GItem) ([v3]:List GDot))]:List GLeaf) ([]:List GNode))]:List GNode))]:List GNode)).bind λv4=>(zB ((((v4.2==(0:Int))&&(((v4.1).length:Int)==(1:Int)))==true)=true->0<=(0:Int)/\(0:Int) < ((v4.1).length:Int)) ((zB (((((v4.2==(0:Int))&&(((v4.1).length:Int)==(1:Int)))&&(((v4.1).getD (0:Int).toNat default).name==([97]:ze)))==true)=true->0<=(0:Int)/\(0:Int) < ((v4.1).length:Int)) ((zB ((((((v4.2==(0:Int))&&(((v4.1).length:Int)==(1:Int)))&&(((v4.1).getD (0:Int).toNat default).name==([97]:ze)))&&(((v4.1).getD (0:Int).toNat default).leaves==(1:Int)))==true)=true->0<=(0:Int)/\(0:Int) < ((v4.1).length:Int)) ((zB (((((((v4.2==(0:Int))&&(((v4.1).length:Int)==(1:Int)))&&(((v4.1).getD (0:Int).toNat default).name==([97]:ze)))&&(((v4.1).getD (0:Int).toNat default).leaves==(1:Int)))&&(((v4.1).getD (0:Int).toNat default).items==(2:Int)))==true)=true->0<=(0:Int)/\(0:Int) < ((v4.1).length:Int)) ((zB ((((((((v4.2==(0:Int))&&(((v4.1).length:Int)==(1:Int)))&&(((v4.1).getD (0:Int).toNat default).name==([97]:ze)))&&(((v4.1).getD (0:Int).toNat default).leaves==(1:Int)))&&(((v4.1).getD (0:Int).toNat default).items==(2:Int)))&&(((v4.1).getD (0:Int).toNat default).tombs==(1:Int)))==true)=true->0<=(0:Int)/\(0:Int) < ((v4.1).length:Int)) (some (((((((v4.2==(0:Int))&&(((v4.1).length:Int)==(1:Int)))&&(((v4.1).getD (0:Int).toNat default).name==([97]:ze)))&&(((v4.1).getD (0:Int).toNat default).leaves==(1:Int)))&&(((v4.1).getD (0:Int).toNat default).items==(2:Int)))&&(((v4.1).getD (0:Int).toNat default).tombs==(1:Int)))&&(decide (((v4.1).getD (0:Int).toNat default).bytes > (0:Int))))))))))))))))))
def vw (u0:GQuota):Option (Int×Int×Int×Int) :=
 some (u0.leaves,u0.items,u0.tombs,u0.bytes)
def meterXof (t0:(List GNode)) (name1:ze):Option GQuota :=
 (lp (zj (λ(n1:Nat) (x1:GNode) (sL1:Unit)=>((if (x1.name==name1)=true then ((slc t0 (n1:Int) (IntKind.wrap .i64 ((n1:Int)+(1:Int)))).bind λm14=>((meterXuse name1 m14).bind λv15=>some (.ret v15))) else some (.nxt ())):Option (Out _ Unit))) t0 0 ()) λ(sL1:Unit)=>some (GQuota.mk name1 (0:Int) (0:Int) (0:Int) (0:Int)))
def meterXquotaC1 (q0:GQuota) (c0:ze):Option Bool :=
 some (q0.name==c0)
def meterXquota (l0:(List GQuota)) (name1:ze):Option (GQuota×Bool) :=
 (zB ((2:Int)<=9223372036854775807) (lp (zj (λ(n1:Nat) (x1:Nat) (sL1:Unit)=>((if n1=0 then ((xT l0 (λx0=>meterXquotaC1 x0 name1)).bind λv11=>(if (decide (v11 >= (0:Int)))=true then ((yd l0 v11).bind λy13=>some (.ret (y13,true))) else some (.nxt ()))) else ((xT l0 (λx0=>meterXquotaC1 x0 ([]:ze))).bind λv14=>(if (decide (v14 >= (0:Int)))=true then ((yd l0 v14).bind λy16=>some (.ret (y16,true))) else some (.nxt ())))):Option (Out _ Unit))) (List.range (((2:Int)).toNat)) 0 ()) λ(sL1:Unit)=>some ((GQuota.mk ([]:ze) (0:Int) (0:Int) (0:Int) (0:Int)),false)))
def meterXover (l0:(List GQuota)) (u1:GQuota):Option (Int×Int×Int×Int) :=
 ((meterXquota l0 u1.name).bind λv1=>(if (!v1.2)=true then some ((0:Int),(0:Int),(0:Int),(0:Int)) else ((vw v1.1).bind λv3=>((vw u1).bind λv4=>(zB ((4:Int)<=9223372036854775807) (lp (zj (λ(n1:Nat) (x1:Nat) (s1:Int×Int×Int×Int)=>((if n1=0 then some (.nxt ((if (IntKind.wrap .i64 (v4.1 - v3.1)) > (0:Int) then (IntKind.wrap .i64 (v4.1 - v3.1)) else (0:Int)),s1.2.1,s1.2.2.1,s1.2.2.2)) else (if n1=1 then some (.nxt (s1.1,(if (IntKind.wrap .i64 (v4.2.1 - v3.2.1)) > (0:Int) then (IntKind.wrap .i64 (v4.2.1 - v3.2.1)) else (0:Int)),s1.2.2.1,s1.2.2.2)) else (if n1=2 then some (.nxt (s1.1,s1.2.1,(if (IntKind.wrap .i64 (v4.2.2.1 - v3.2.2.1)) > (0:Int) then (IntKind.wrap .i64 (v4.2.2.1 - v3.2.2.1)) else (0:Int)),s1.2.2.2)) else some (.nxt (s1.1,s1.2.1,s1.2.2.1,(if (IntKind.wrap .i64 (v4.2.2.2 - v3.2.2.2)) > (0:Int) then (IntKind.wrap .i64 (v4.2.2.2 - v3.2.2.2)) else (0:Int))))))):Option (Out _ (Int×Int×Int×Int)))) (List.range (((4:Int)).toNat)) 0 ((0:Int),(0:Int),(0:Int),(0:Int))) λ(s1:Int×Int×Int×Int)=>some (s1.1,s1.2.1,s1.2.2.1,s1.2.2.2)))))))
def meterFits (l0:(List GQuota)) (t1:(List GNode)) (e2:GEvent):Option (Bool×Int) :=
 ((meterMay l0).bind λv1=>((if ((!v1)==false)=true then yL t1 else some default).bind λv2=>((if (((!v1) || (!v2))==false)=true then opMayEvent e2 else some default).bind λv3=>(if (((!v1) || (!v2)) || (!v3))=true then some (false,(2:Int)) else ((treeApply t1 e2).bind λv5=>((yd e2.op.path (0:Int)).bind λy6=>((meterXof t1 y6).bind λv7=>((vw v7).bind λv8=>((meterXof v5.1 y6).bind λv9=>((vw v9).bind λv10=>((meterXof v5.1 y6).bind λv11=>((meterXover l0 v11).bind λv12=>(zB ((4:Int)<=9223372036854775807) (lp (zj (λ(n1:Nat) (x1:Nat) (s1:Unit)=>((if n1=0 then (if ((decide (v12.1 > (0:Int)))&&(decide (v10.1 > v8.1)))=true then some (.ret (false,v5.2)) else some (.nxt ())) else (if n1=1 then (if ((decide (v12.2.1 > (0:Int)))&&(decide (v10.2.1 > v8.2.1)))=true then some (.ret (false,v5.2)) else some (.nxt ())) else (if n1=2 then (if ((decide (v12.2.2.1 > (0:Int)))&&(decide (v10.2.2.1 > v8.2.2.1)))=true then some (.ret (false,v5.2)) else some (.nxt ())) else (if ((decide (v12.2.2.2 > (0:Int)))&&(decide (v10.2.2.2 > v8.2.2.2)))=true then some (.ret (false,v5.2)) else some (.nxt ()))))):Option (Out _ Unit))) (List.range (((4:Int)).toNat)) 0 ()) λ(s1:Unit)=>some (true,v5.2)))))))))))))))
def meterOver (l0:(List GQuota)) (t1:(List GNode)):Option ((List GQuota)×Int) :=
 ((meterUses t1).bind λv1=>((if ((v1.2 != (0:Int))==false)=true then meterMay l0 else some default).bind λv2=>(if ((v1.2 != (0:Int)) || (!v2))=true then some (([]:List GQuota),(2:Int)) else (lp (zj (λ(n1:Nat) (x1:GQuota) (s1:(List GQuota))=>(((meterXover l0 x1).bind λv12=>(if (!(v12.1==(0:Int)&&(v12.2.1==(0:Int)&&(v12.2.2.1==(0:Int)&&(v12.2.2.2==(0:Int)&&true)))))=true then (zB ((s1).length+(([x1]:List GQuota)).length<=yg) (some (.nxt (s1++([x1]:List GQuota))))) else some (.nxt s1))):Option (Out _ (List GQuota)))) v1.1 0 ([]:List GQuota)) λ(s1:(List GQuota))=>some (s1,(0:Int))))))
def law45MeterKeeps (l0:(List GQuota)) (t1:(List GNode)) (e2:GEvent):Option Bool :=
 ((law45Xgreat l0 t1 e2.op).bind λv1=>((if (v1==false)=true then meterMay l0 else some default).bind λv2=>((if ((v1 || (!v2))==false)=true then xK t1 else some default).bind λv3=>(if ((v1 || (!v2)) || (!v3))=true then ((law45Xknown).bind λv5=>some v5) else ((meterFits l0 t1 e2).bind λv6=>(if (!v6.1)=true then ((law45Xknown).bind λv8=>some v8) else ((meterOver l0 t1).bind λv9=>((ref07Apply t1 e2).bind λv10=>((meterOver l0 v10.1).bind λv11=>(if (((((v6.2 != (0:Int)) || (v9.2 != (0:Int))) || (v10.2 != (0:Int))) || (v11.2 != (0:Int))) || (decide (((v11.1).length:Int) > ((v9.1).length:Int))))=true then some false else ((law45Xknown).bind λv15=>some v15)))))))))))
end
end Go.Vv
