/- What the functions compute, as plain functions; printed by a program from the code. -/
import Derived.Test.YtdodjocbjapaeaaGreatVvY
import Derived.Test.YtdodjocbjapaeaaGreatVvZ
import Derived.Test.YtdodjocbjapaeaaGreatVvLb
import Derived.Test.YtdodjocbjapaeaaGreatVvMr
import Derived.Test.YtdodjocbjapaeaaGreatVvIt
import Derived.Test.YtdodjocbjapaeaaGreatVvMl
import Derived.Test.YtdodjocbjapaeaaGreatVvRb
import Derived.Test.YtdodjocbjapaeaaGreatVvSo
namespace Go.Vv
noncomputable section
open Go
set_option linter.unusedVariables false
structure GField where
 path:(List zk)
 types:Int
 min:Int
 max:Int
 items:Int
 deriving DecidableEq,Inhabited
structure GActor where
 rep:Int
 inc:Int
 deriving DecidableEq,Inhabited
def GActor.eqb (a b:GActor):Bool:=(a.rep==b.rep&&(a.inc==b.inc&&true))
structure GDot where
 actor:GActor
 seq:Int
 deriving DecidableEq,Inhabited
def GDot.eqb (a b:GDot):Bool:=(a.actor.rep==b.actor.rep&&(a.actor.inc==b.actor.inc&&(a.seq==b.seq&&true)))
structure GItem where
 time:Int
 dot:GDot
 text:zk
 deriving DecidableEq,Inhabited
def GItem.eqb (a b:GItem):Bool:=(a.time==b.time&&(a.dot.actor.rep==b.dot.actor.rep&&(a.dot.actor.inc==b.dot.actor.inc&&(a.dot.seq==b.dot.seq&&(a.text==b.text&&true)))))
structure GLeaf where
 typ:Int
 n:Int
 time:Int
 dot:GDot
 text:zk
 items:(List GItem)
 tombs:(List GDot)
 deriving DecidableEq,Inhabited
structure GNode where
 name:zk
 leaves:(List GLeaf)
 subs:(List GNode)
 deriving Inhabited
structure GOp where
 kind:Int
 path:(List zk)
 n:Int
 text:zk
 dots:(List GDot)
 deriving DecidableEq,Inhabited
structure GOpKind where
 leaf:Int
 may:Nat
 deriving DecidableEq,Inhabited
structure GEvent where
 dot:GDot
 time:Int
 op:GOp
 deriving DecidableEq,Inhabited
structure GRow where
 path:(List zk)
 leaf:GLeaf
 deriving DecidableEq,Inhabited
structure GBreach where
 path:(List zk)
 typ:Int
 e:Int
 deriving DecidableEq,Inhabited
structure GEdit where
 path:(List zk)
 typ:Int
 had:Bool
 has:Bool
 was:GLeaf
 is:GLeaf
 deriving DecidableEq,Inhabited
def GField.wf (x:GField):Prop:=(x.path.length≤maxLen∧∀ y ∈ x.path,y.length≤maxLen)∧(InK .u8 x.types)∧(InK .i64 x.min)∧(InK .i64 x.max)∧(InK .i64 x.items)
def GActor.wf (x:GActor):Prop:=(InK .u8 x.rep)∧(InK .u32 x.inc)
def GDot.wf (x:GDot):Prop:=(GActor.wf x.actor)∧(InK .u64 x.seq)
def GItem.wf (x:GItem):Prop:=(InK .u64 x.time)∧(GDot.wf x.dot)∧(x.text.length≤maxLen)
def GLeaf.wf (x:GLeaf):Prop:=(InK .u8 x.typ)∧(InK .i64 x.n)∧(InK .u64 x.time)∧(GDot.wf x.dot)∧(x.text.length≤maxLen)∧(x.items.length≤maxLen∧∀ y ∈ x.items,GItem.wf y)∧(x.tombs.length≤maxLen∧∀ y ∈ x.tombs,GDot.wf y)
mutual
def GNode.wf:GNode→Prop
 | ⟨name,leaves,subs⟩=>(name.length≤maxLen)∧(leaves.length≤maxLen∧∀ y ∈ leaves,GLeaf.wf y)∧(GNode.wfs subs)
def GNode.wfs:List GNode→Prop
 | []=>True
 | x::r=>x.wf∧GNode.wfs r
end
theorem GNode.wfs_iff (l:List GNode):GNode.wfs l ↔ ∀ y ∈ l,GNode.wf y:=by
 induction l with
 | nil=>simp [GNode.wfs]
 | cons x r ih=>simp [GNode.wfs,ih]
def GOp.wf (x:GOp):Prop:=(InK .u8 x.kind)∧(x.path.length≤maxLen∧∀ y ∈ x.path,y.length≤maxLen)∧(InK .i64 x.n)∧(x.text.length≤maxLen)∧(x.dots.length≤maxLen∧∀ y ∈ x.dots,GDot.wf y)
def GEvent.wf (x:GEvent):Prop:=(GDot.wf x.dot)∧(InK .u64 x.time)∧(GOp.wf x.op)
def GRow.wf (x:GRow):Prop:=(x.path.length≤maxLen∧∀ y ∈ x.path,y.length≤maxLen)∧(GLeaf.wf x.leaf)
def GBreach.wf (x:GBreach):Prop:=(x.path.length≤maxLen∧∀ y ∈ x.path,y.length≤maxLen)∧(InK .u8 x.typ)∧(InK .i64 x.e)
def GEdit.wf (x:GEdit):Prop:=(x.path.length≤maxLen∧∀ y ∈ x.path,y.length≤maxLen)∧(InK .u8 x.typ)∧(True)∧(True)∧(GLeaf.wf x.was)∧(GLeaf.wf x.is)
def GField.bk (x:GField):Nat:=(((x.path.map (fun s=>s.length+1)).sum+1)+(1+(1+(1+(1+0)))))+1
def GActor.bk (x:GActor):Nat:=(1+(1+0))+1
def GDot.bk (x:GDot):Nat:=(GActor.bk x.actor+(1+0))+1
def GItem.bk (x:GItem):Nat:=(1+(GDot.bk x.dot+((x.text.length+1)+0)))+1
def GLeaf.bk (x:GLeaf):Nat:=(1+(1+(1+(GDot.bk x.dot+((x.text.length+1)+(((x.items.map GItem.bk).sum+1)+(((x.tombs.map GDot.bk).sum+1)+0)))))))+1
mutual
def GNode.bk:GNode→Nat
 | ⟨name,leaves,subs⟩=>((name.length+1)+(((leaves.map GLeaf.bk).sum+1)+(((GNode.bks subs)+1)+0)))+1
def GNode.bks:List GNode→Nat
 | []=>0
 | x::r=>x.bk+GNode.bks r
end
theorem GNode.bks_eq (l:List GNode):GNode.bks l=(l.map GNode.bk).sum:=by
 induction l with
 | nil=>rfl
 | cons x r ih=>simp only [GNode.bks,List.map_cons,List.sum_cons,ih]
def GOp.bk (x:GOp):Nat:=(1+(((x.path.map (fun s=>s.length+1)).sum+1)+(1+((x.text.length+1)+(((x.dots.map GDot.bk).sum+1)+0)))))+1
def GEvent.bk (x:GEvent):Nat:=(GDot.bk x.dot+(1+(GOp.bk x.op+0)))+1
def GRow.bk (x:GRow):Nat:=(((x.path.map (fun s=>s.length+1)).sum+1)+(GLeaf.bk x.leaf+0))+1
def GBreach.bk (x:GBreach):Nat:=(((x.path.map (fun s=>s.length+1)).sum+1)+(1+(1+0)))+1
def GEdit.bk (x:GEdit):Nat:=(((x.path.map (fun s=>s.length+1)).sum+1)+(1+(1+(1+(GLeaf.bk x.was+(GLeaf.bk x.is+0))))))+1
abbrev zLf:GLeaf:=GLeaf.mk (0:Int) (0:Int) (0:Int) (GDot.mk (GActor.mk (0:Int) (0:Int)) (0:Int)) ([]:zk) ([]:List GItem) ([]:List GDot)
def ref43Great (l0:(List GField)):Option Bool :=
 (lp (zr (fun (n1:Nat) (x1:GField) (s1:Unit)=>((if (decide (((x1.path).length:Int) > (10:Int)))=true then some (.ret true) else (lp (zr (fun (n2:Nat) (x2:zk) (s2:Unit)=>((if (decide (((x2).length:Int) > (40:Int)))=true then some (.ret (.ret true)) else some (.nxt ())):Option (Out _ Unit))) x1.path 0 ()) fun (s2:Unit)=>some (.nxt ()))):Option (Out _ Unit))) l0 0 ()) fun (s1:Unit)=>some (decide (((l0).length:Int) > (70:Int))))
def xc:Nat→(t0:(List GNode))→(deep1:Int)→Option Int
 | 0,_,_=>none
 | n+1,t0,deep1=>(lp (yr (fun (s1:Int×Int)=>((if ((decide (s1.2 < ((t0).length:Int)))&&(decide (deep1 < (10:Int))))=true then ((yo t0 s1.2).bind fun y68=>((yo t0 s1.2).bind fun y70=>((xc n y70.subs (IntKind.wrap .i64 (deep1+(1:Int)))).bind fun v71=>(lp (yr (fun (s2:Int×Int)=>(((yo t0 s1.2).bind fun y102=>(if (decide (s2.2 < ((y102.leaves).length:Int)))=true then ((yo t0 s1.2).bind fun y105=>((yo y105.leaves s2.2).bind fun y106=>(lp (zr (fun (n3:Nat) (x3:GItem) (s3:Int)=>(some (.nxt (IntKind.wrap .i64 ((IntKind.wrap .i64 (s3+(1:Int)))+((x3.text).length:Int)))):Option (Out _ Int))) y106.items 0 (IntKind.wrap .i64 ((IntKind.wrap .i64 ((IntKind.wrap .i64 (s2.1+(1:Int)))+((y106.text).length:Int)))+((y106.tombs).length:Int)))) fun (s3:Int)=>some (.nxt (s3,(IntKind.wrap .i64 (s2.2+(1:Int)))))))) else some (.brk (s2.1,s2.2)))):Option (Out _ (Int×Int)))) ((IntKind.wrap .i64 ((IntKind.wrap .i64 ((IntKind.wrap .i64 (s1.1+(1:Int)))+((y68.name).length:Int)))+v71)),(0:Int))) fun (s2:Int×Int)=>some (.nxt (s2.1,(IntKind.wrap .i64 (s1.2+(1:Int))))))))) else some (.brk (s1.1,s1.2))):Option (Out _ (Int×Int)))) ((0:Int),(0:Int))) fun (s1:Int×Int)=>some s1.1)
def ref07Xsize (t0:(List GNode)) (deep1:Int):Option Int:=anyN fun n=>xc n t0 deep1
def ref07Great (t0:(List GNode)):Option Bool :=
 ((ref07Xsize t0 (0:Int)).bind fun v1=>some (decide (v1 > (1500:Int))))
def law43Xgreat (l0:(List GField)) (t1:(List GNode)) (o2:GOp):Option Bool :=
 ((ref43Great l0).bind fun v1=>((if (v1==false)=true then ref07Great t1 else some default).bind fun v2=>some ((((v1 || v2) || (decide (((o2.dots).length:Int) > (100:Int)))) || (decide (((o2.path).length:Int) > (10:Int)))) || (decide (((o2.text).length:Int) > (200:Int))))))
def qO (r0:Int):Option Bool :=
 some ((((decide (r0 < (97:Int))) || (decide (r0 > (122:Int))))&&((decide (r0 < (65:Int))) || (decide (r0 > (90:Int)))))&&((decide (r0 < (48:Int))) || (decide (r0 > (57:Int)))))
def wF (s0:zk) (f1:(Int→Option Bool)) (truth2:Bool):Option Int :=
 (lp (yr (fun (s1:Nat)=>((if s1 < (s0).length then ((f1 ((dec s0 s1).1:Int)).bind fun v6=>(if (v6==truth2)=true then some (.ret (s1:Int)) else some (.nxt (s1+(dec s0 s1).2)))) else some (.brk s1)):Option (Out _ Nat))) 0) fun (s1:Nat)=>some (-1:Int))
def wZ (s0:zk) (f1:(Int→Option Bool)):Option Int :=
 ((wF s0 f1 true).bind fun v1=>some v1)
def xl (s0:zk) (f1:(Int→Option Bool)):Option Bool :=
 ((wZ s0 f1).bind fun v1=>some (decide (v1 ≥ (0:Int))))
def opIsName (s0:zk):Option Bool :=
 ((if (((decide (((s0).length:Int) ≥ (1:Int)))&&(decide (((s0).length:Int)≤(12:Int))))==true)=true then xl s0 (fun x0=>qO x0) else some default).bind fun v3=>some (((decide (((s0).length:Int) ≥ (1:Int)))&&(decide (((s0).length:Int)≤(12:Int))))&&(!v3)))
def wH (s0:zk):Option Bool :=
 ((if ((!(s0==([42]:zk)))==true)=true then opIsName s0 else some default).bind fun v1=>some ((!(s0==([42]:zk)))&&(!v1)))
def xH (s0:(List zk)) (f1:(zk→Option Bool)):Option Int :=
 (lp (zr (fun (n1:Nat) (x1:zk) (s1:Unit)=>(((f1 x1).bind fun v7=>(if v7=true then some (.ret (n1:Int)) else some (.nxt ()))):Option (Out _ Unit))) s0 0 ()) fun (s1:Unit)=>some (-1:Int))
def yp (s0:(List zk)) (f1:(zk→Option Bool)):Option Bool :=
 ((xH s0 f1).bind fun v1=>some (decide (v1 ≥ (0:Int))))
def vX (p0:(List zk)):Option ((List zk)×Bool) :=
 (yv (((decide (((p0).length:Int) > (0:Int)))==true)=true→0≤(IntKind.wrap .i64 (((p0).length:Int) - (1:Int)))∧(IntKind.wrap .i64 (((p0).length:Int) - (1:Int))) < ((p0).length:Int)) ((if ((decide (((p0).length:Int) > (0:Int)))&&(((p0).getD (IntKind.wrap .i64 (((p0).length:Int) - (1:Int))).toNat default)==([42,42]:zk)))=true then ((slc p0 (0:Int) (IntKind.wrap .i64 (((p0).length:Int) - (1:Int)))).bind fun m4=>some (m4,true)) else some (p0,false))))
def xj (p0:(List zk)):Option Bool :=
 ((vX p0).bind fun v1=>((if ((((decide (((v1.1).length:Int) > (0:Int))) || v1.2)&&(decide (((v1.1).length:Int)≤(3:Int))))==true)=true then yp v1.1 (fun x0=>wH x0) else some default).bind fun v4=>some ((((decide (((v1.1).length:Int) > (0:Int))) || v1.2)&&(decide (((v1.1).length:Int)≤(3:Int))))&&(!v4))))
def qZ (f0:GField):Option Bool :=
 ((xj f0.path).bind fun v1=>some ((((v1&&((IntKind.wrap .u8 (((BitVec.ofInt (IntKind.bits .u8) f0.types &&& ~~~(BitVec.ofInt (IntKind.bits .u8) (30:Int))).toNat:Int)))==(0:Int)))&&(decide (f0.min≤f0.max)))&&(decide (f0.items ≥ (0:Int))))&&(decide (f0.items≤(1000:Int)))))
def vR (f0:GField):Option Bool :=
 ((qZ f0).bind fun v1=>some (!v1))
def yy (s0:(List GField)) (f1:(GField→Option Bool)):Option Int :=
 (lp (zr (fun (n1:Nat) (x1:GField) (s1:Unit)=>(((f1 x1).bind fun v7=>(if v7=true then some (.ret (n1:Int)) else some (.nxt ()))):Option (Out _ Unit))) s0 0 ()) fun (s1:Unit)=>some (-1:Int))
def yP (s0:(List GField)) (f1:(GField→Option Bool)):Option Bool :=
 ((yy s0 f1).bind fun v1=>some (decide (v1 ≥ (0:Int))))
def vS (l0:(List GField)):Option Bool :=
 ((if ((decide (((l0).length:Int)≤(64:Int)))==true)=true then yP l0 (fun x0=>vR x0) else some default).bind fun v2=>some ((decide (((l0).length:Int)≤(64:Int)))&&(!v2)))
def vV (s0:zk):Option Bool :=
 (if ((decide (((s0).length:Int) < (1:Int))) || (decide (((s0).length:Int) > (12:Int))))=true then some false else (lp (zr (fun (n1:Nat) (x1:UInt8) (s1:Unit)=>((if (!((((decide ((x1.toNat:Int) ≥ (97:Int)))&&(decide ((x1.toNat:Int)≤(122:Int)))) || ((decide ((x1.toNat:Int) ≥ (65:Int)))&&(decide ((x1.toNat:Int)≤(90:Int))))) || ((decide ((x1.toNat:Int) ≥ (48:Int)))&&(decide ((x1.toNat:Int)≤(57:Int))))))=true then some (.ret false) else some (.nxt ())):Option (Out _ Unit))) s0 0 ()) fun (s1:Unit)=>some true))
def vd (a0:GDot) (b1:GDot):Option Bool :=
 (if (a0.actor.rep != b1.actor.rep)=true then some (decide (a0.actor.rep < b1.actor.rep)) else (if (a0.actor.inc != b1.actor.inc)=true then some (decide (a0.actor.inc < b1.actor.inc)) else some (decide (a0.seq < b1.seq))))
def wN (time0:Int) (d1:GDot) (other2:Int) (o3:GDot):Option Bool :=
 (if (time0 != other2)=true then some (decide (time0 < other2)) else ((vd d1 o3).bind fun v2=>some v2))
def va (l0:(List GDot)) (d1:GDot):Option Bool :=
 (lp (zr (fun (n1:Nat) (x1:GDot) (s1:Unit)=>((if (x1.actor.rep==d1.actor.rep&&(x1.actor.inc==d1.actor.inc&&(x1.seq==d1.seq&&true)))=true then some (.ret true) else some (.nxt ())):Option (Out _ Unit))) l0 0 ()) fun (s1:Unit)=>some false)
def ref05Item (l0:(List GItem)) (d1:GDot):Option Int :=
 (lp (zr (fun (n1:Nat) (x1:GItem) (s1:Unit)=>((if (x1.dot.actor.rep==d1.actor.rep&&(x1.dot.actor.inc==d1.actor.inc&&(x1.dot.seq==d1.seq&&true)))=true then some (.ret (n1:Int)) else some (.nxt ())):Option (Out _ Unit))) l0 0 ()) fun (s1:Unit)=>some (-1:Int))
def vl (a0:GActor):Option Bool :=
 some (((decide (a0.rep≤(15:Int)))&&(decide (a0.inc ≥ (1:Int))))&&(decide (a0.inc≤(4:Int))))
def ql (d0:GDot):Option Bool :=
 ((vl d0.actor).bind fun v1=>some ((v1&&(decide (d0.seq ≥ (1:Int))))&&(decide (d0.seq≤(1048576:Int)))))
def ref05May (l0:GLeaf):Option Bool :=
 (if (((((decide (l0.typ < (1:Int))) || (decide (l0.typ > (4:Int)))) || ((l0.typ != (1:Int))&&(l0.n != (0:Int)))) || ((decide (l0.typ < (3:Int)))&&(decide (((l0.items).length:Int) > (0:Int))))) || ((l0.typ != (3:Int))&&(decide (((l0.tombs).length:Int) > (0:Int)))))=true then some false else (lp ((if ((l0.typ != (2:Int)) || (l0.time==(0:Int)))=true then (if (((l0.time != (0:Int)) || (!(l0.dot.actor.rep==(0:Int)&&(l0.dot.actor.inc==(0:Int)&&(l0.dot.seq==(0:Int)&&true))))) || (!(l0.text==([]:zk))))=true then some (.inl false) else some (.inr ())) else ((if ((decide (l0.time > (1099511627776:Int)))==false)=true then ql l0.dot else some default).bind fun v11=>(if (((decide (l0.time > (1099511627776:Int))) || (!v11)) || (decide (((l0.text).length:Int) > (40:Int))))=true then some (.inl false) else some (.inr ())))):Option (_ ⊕ Unit)) fun (s1:Unit)=>(lp (zr (fun (n2:Nat) (x2:GItem) (s2:Unit)=>(((ql x2.dot).bind fun v41=>((if (((((!v41) || (decide (((x2.text).length:Int) > (40:Int)))) || ((l0.typ==(3:Int))&&(x2.time != (0:Int)))) || ((l0.typ==(4:Int))&&((decide (x2.time < (1:Int))) || (decide (x2.time > (1099511627776:Int))))))==false)=true then ref05Item l0.items x2.dot else some default).bind fun v43=>((if ((((((!v41) || (decide (((x2.text).length:Int) > (40:Int)))) || ((l0.typ==(3:Int))&&(x2.time != (0:Int)))) || ((l0.typ==(4:Int))&&((decide (x2.time < (1:Int))) || (decide (x2.time > (1099511627776:Int)))))) || (v43 != (n2:Int)))==false)=true then va l0.tombs x2.dot else some default).bind fun v44=>(if ((((((!v41) || (decide (((x2.text).length:Int) > (40:Int)))) || ((l0.typ==(3:Int))&&(x2.time != (0:Int)))) || ((l0.typ==(4:Int))&&((decide (x2.time < (1:Int))) || (decide (x2.time > (1099511627776:Int)))))) || (v43 != (n2:Int))) || v44)=true then some (.ret false) else (yv (((decide ((n2:Int) > (0:Int)))==true)=true→0≤(IntKind.wrap .i64 ((n2:Int) - (1:Int)))∧(IntKind.wrap .i64 ((n2:Int) - (1:Int))) < ((l0.items).length:Int)) ((yv (((decide ((n2:Int) > (0:Int)))==true)=true→0≤(IntKind.wrap .i64 ((n2:Int) - (1:Int)))∧(IntKind.wrap .i64 ((n2:Int) - (1:Int))) < ((l0.items).length:Int)) (((if ((decide ((n2:Int) > (0:Int)))==true)=true then wN (((l0.items).getD (IntKind.wrap .i64 ((n2:Int) - (1:Int))).toNat default).time) (((l0.items).getD (IntKind.wrap .i64 ((n2:Int) - (1:Int))).toNat default).dot) x2.time x2.dot else some default).bind fun v48=>(if ((decide ((n2:Int) > (0:Int)))&&(!v48))=true then some (.ret false) else some (.nxt ()))))))))))):Option (Out _ Unit))) l0.items 0 ()) fun (s2:Unit)=>(lp (zr (fun (n3:Nat) (x3:GDot) (s3:Unit)=>(((ql x3).bind fun v73=>(yv ((((!v73)==false)&&((decide ((n3:Int) > (0:Int)))==true))=true→0≤(IntKind.wrap .i64 ((n3:Int) - (1:Int)))∧(IntKind.wrap .i64 ((n3:Int) - (1:Int))) < ((l0.tombs).length:Int)) ((yv ((((!v73)==false)&&((decide ((n3:Int) > (0:Int)))==true))=true→0≤(n3:Int)∧(n3:Int) < ((l0.tombs).length:Int)) (((if (((!v73)==false)&&((decide ((n3:Int) > (0:Int)))==true))=true then vd ((l0.tombs).getD (IntKind.wrap .i64 ((n3:Int) - (1:Int))).toNat default) ((l0.tombs).getD (n3:Int).toNat default) else some default).bind fun v76=>(if ((!v73) || ((decide ((n3:Int) > (0:Int)))&&(!v76)))=true then some (.ret false) else some (.nxt ())))))))):Option (Out _ Unit))) l0.tombs 0 ()) fun (s3:Unit)=>some true))))
def wM:Nat→(t0:(List GNode))→(deep1:Int)→Option Bool
 | 0,_,_=>none
 | n+1,t0,deep1=>(lp (zr (fun (n1:Nat) (x1:GNode) (s1:Unit)=>(((if ((decide (deep1 ≥ (3:Int)))==false)=true then vV x1.name else some default).bind fun v31=>(yv (((((decide (deep1 ≥ (3:Int))) || (!v31))==false)&&((decide ((n1:Int) > (0:Int)))==true))=true→0≤(IntKind.wrap .i64 ((n1:Int) - (1:Int)))∧(IntKind.wrap .i64 ((n1:Int) - (1:Int))) < ((t0).length:Int)) (((if (((((decide (deep1 ≥ (3:Int))) || (!v31)) || ((decide ((n1:Int) > (0:Int)))&&(!(Op.bytesLess (((t0).getD (IntKind.wrap .i64 ((n1:Int) - (1:Int))).toNat default).name) x1.name)))) || ((((x1.leaves).length:Int)==(0:Int))&&(((x1.subs).length:Int)==(0:Int))))==false)=true then wM n x1.subs (IntKind.wrap .i64 (deep1+(1:Int))) else some default).bind fun v35=>(if (((((decide (deep1 ≥ (3:Int))) || (!v31)) || ((decide ((n1:Int) > (0:Int)))&&(!(Op.bytesLess (((t0).getD (IntKind.wrap .i64 ((n1:Int) - (1:Int))).toNat default).name) x1.name)))) || ((((x1.leaves).length:Int)==(0:Int))&&(((x1.subs).length:Int)==(0:Int)))) || (!v35))=true then some (.ret false) else (lp (zr (fun (n2:Nat) (x2:GLeaf) (s2:Unit)=>(((ref05May x2).bind fun v50=>(yv ((((!v50)==false)&&((decide ((n2:Int) > (0:Int)))==true))=true→0≤(IntKind.wrap .i64 ((n2:Int) - (1:Int)))∧(IntKind.wrap .i64 ((n2:Int) - (1:Int))) < ((x1.leaves).length:Int)) ((yv ((((!v50)==false)&&((decide ((n2:Int) > (0:Int)))==true))=true→0≤(n2:Int)∧(n2:Int) < ((x1.leaves).length:Int)) ((if ((!v50) || ((decide ((n2:Int) > (0:Int)))&&(decide (((x1.leaves).getD (IntKind.wrap .i64 ((n2:Int) - (1:Int))).toNat default).typ ≥ ((x1.leaves).getD (n2:Int).toNat default).typ))))=true then some (.ret (.ret false)) else some (.nxt ()))))))):Option (Out _ Unit))) x1.leaves 0 ()) fun (s2:Unit)=>some (.nxt ()))))))):Option (Out _ Unit))) t0 0 ()) fun (s1:Unit)=>some true)
def ref07Xmay (t0:(List GNode)) (deep1:Int):Option Bool:=anyN fun n=>wM n t0 deep1
def ref07May (t0:(List GNode)):Option Bool :=
 ((ref07Xmay t0 (0:Int)).bind fun v1=>some v1)
def dotMayActor (a0:GActor):Option Bool :=
 some (((decide (a0.rep < (16:Int)))&&(decide (a0.inc ≥ (1:Int))))&&(decide (a0.inc≤(4:Int))))
def dotMay (d0:GDot):Option Bool :=
 ((dotMayActor d0.actor).bind fun v1=>some ((v1&&(decide (d0.seq ≥ (1:Int))))&&(decide (d0.seq≤(1048576:Int)))))
def wB (x0:Int):Option Bool :=
 some (x0 != x0)
def wi (x0:Int) (y1:Int):Option Int :=
 ((wB x0).bind fun v1=>((wB y1).bind fun v2=>(if v1=true then (if v2=true then some (0:Int) else some (-1:Int)) else (if v2=true then some (1:Int) else (if (decide (x0 < y1))=true then some (-1:Int) else (if (decide (x0 > y1))=true then some (1:Int) else some (0:Int)))))))
def wX (x0:Int):Option Bool :=
 some (x0 != x0)
def yV (x0:Int) (y1:Int):Option Int :=
 ((wX x0).bind fun v1=>((wX y1).bind fun v2=>(if v1=true then (if v2=true then some (0:Int) else some (-1:Int)) else (if v2=true then some (1:Int) else (if (decide (x0 < y1))=true then some (-1:Int) else (if (decide (x0 > y1))=true then some (1:Int) else some (0:Int)))))))
def cmpOrInt (vals0:(List Int)):Option Int :=
 (lp (zr (fun (n1:Nat) (x1:Int) (s1:Unit)=>((if (x1 != (0:Int))=true then some (.ret x1) else some (.nxt ())):Option (Out _ Unit))) vals0 0 ()) fun (s1:Unit)=>some (0:Int))
def dotXcompare (a0:GActor) (b1:GActor):Option Int :=
 ((yV a0.rep b1.rep).bind fun v1=>((wi a0.inc b1.inc).bind fun v2=>((cmpOrInt ([v1,v2]:List Int)).bind fun v3=>some v3)))
def wA (x0:Int):Option Bool :=
 some (x0 != x0)
def xz (x0:Int) (y1:Int):Option Int :=
 ((wA x0).bind fun v1=>((wA y1).bind fun v2=>(if v1=true then (if v2=true then some (0:Int) else some (-1:Int)) else (if v2=true then some (1:Int) else (if (decide (x0 < y1))=true then some (-1:Int) else (if (decide (x0 > y1))=true then some (1:Int) else some (0:Int)))))))
def wt (a0:GDot) (b1:GDot):Option Int :=
 ((dotXcompare a0.actor b1.actor).bind fun v1=>((xz a0.seq b1.seq).bind fun v2=>((cmpOrInt ([v1,v2]:List Int)).bind fun v3=>some v3)))
def yf (s0:(List GItem)) (f1:(GItem→Option Bool)):Option Int :=
 (lp (zr (fun (n1:Nat) (x1:GItem) (s1:Unit)=>(((f1 x1).bind fun v7=>(if v7=true then some (.ret (n1:Int)) else some (.nxt ()))):Option (Out _ Unit))) s0 0 ()) fun (s1:Unit)=>some (-1:Int))
def yR (s0:(List GItem)) (f1:(GItem→Option Bool)):Option Bool :=
 ((yf s0 f1).bind fun v1=>some (decide (v1 ≥ (0:Int))))
def leafXhasC1 (x0:GItem) (c0:GDot):Option Bool :=
 some (x0.dot.actor.rep==c0.actor.rep&&(x0.dot.actor.inc==c0.actor.inc&&(x0.dot.seq==c0.seq&&true)))
def leafXhas (l0:(List GItem)) (d1:GDot):Option Bool :=
 ((yR l0 (fun x0=>leafXhasC1 x0 d1)).bind fun v1=>some v1)
def leafXtombs (l0:GLeaf):Option Bool :=
 (lp (zr (fun (n1:Nat) (x1:GDot) (s1:Unit)=>(((dotMay x1).bind fun v19=>(yv ((((!v19)==false)&&((decide ((n1:Int) > (0:Int)))==true))=true→0≤(IntKind.wrap .i64 ((n1:Int) - (1:Int)))∧(IntKind.wrap .i64 ((n1:Int) - (1:Int))) < ((l0.tombs).length:Int)) (((if (((!v19)==false)&&((decide ((n1:Int) > (0:Int)))==true))=true then wt ((l0.tombs).getD (IntKind.wrap .i64 ((n1:Int) - (1:Int))).toNat default) x1 else some default).bind fun v21=>((if (((!v19) || ((decide ((n1:Int) > (0:Int)))&&(decide (v21 ≥ (0:Int)))))==false)=true then leafXhas l0.items x1 else some default).bind fun v22=>(if (((!v19) || ((decide ((n1:Int) > (0:Int)))&&(decide (v21 ≥ (0:Int))))) || v22)=true then some (.ret false) else some (.nxt ()))))))):Option (Out _ Unit))) l0.tombs 0 ()) fun (s1:Unit)=>some true)
def ww (s10:(List GItem)) (s21:(List GItem)):Option Bool :=
 (if (((s10).length:Int) != ((s21).length:Int))=true then some false else (lp (zr (fun (n1:Nat) (x1:GItem) (s1:Unit)=>(((yo s21 (n1:Int)).bind fun y10=>(if (!(x1.time==y10.time&&(x1.dot.actor.rep==y10.dot.actor.rep&&(x1.dot.actor.inc==y10.dot.actor.inc&&(x1.dot.seq==y10.dot.seq&&(x1.text==y10.text&&true))))))=true then some (.ret false) else some (.nxt ()))):Option (Out _ Unit))) s10 0 ()) fun (s1:Unit)=>some true))
def wK (s10:(List GDot)) (s21:(List GDot)):Option Bool :=
 (if (((s10).length:Int) != ((s21).length:Int))=true then some false else (lp (zr (fun (n1:Nat) (x1:GDot) (s1:Unit)=>(((yo s21 (n1:Int)).bind fun y10=>(if (!(x1.actor.rep==y10.actor.rep&&(x1.actor.inc==y10.actor.inc&&(x1.seq==y10.seq&&true))))=true then some (.ret false) else some (.nxt ()))):Option (Out _ Unit))) s10 0 ()) fun (s1:Unit)=>some true))
def wd (a0:GLeaf) (b1:GLeaf):Option Bool :=
 ((if ((((((a0.typ==b1.typ)&&(a0.n==b1.n))&&(a0.time==b1.time))&&(a0.dot.actor.rep==b1.dot.actor.rep&&(a0.dot.actor.inc==b1.dot.actor.inc&&(a0.dot.seq==b1.dot.seq&&true))))&&(a0.text==b1.text))==true)=true then ww a0.items b1.items else some default).bind fun v1=>((if (((((((a0.typ==b1.typ)&&(a0.n==b1.n))&&(a0.time==b1.time))&&(a0.dot.actor.rep==b1.dot.actor.rep&&(a0.dot.actor.inc==b1.dot.actor.inc&&(a0.dot.seq==b1.dot.seq&&true))))&&(a0.text==b1.text))&&v1)==true)=true then wK a0.tombs b1.tombs else some default).bind fun v2=>some (((((((a0.typ==b1.typ)&&(a0.n==b1.n))&&(a0.time==b1.time))&&(a0.dot.actor.rep==b1.dot.actor.rep&&(a0.dot.actor.inc==b1.dot.actor.inc&&(a0.dot.seq==b1.dot.seq&&true))))&&(a0.text==b1.text))&&v1)&&v2)))
def leafXisTime (n0:Int):Option Bool :=
 some ((decide (n0 ≥ (1:Int)))&&(decide (n0≤(1099511627776:Int))))
def qa (s0:zk):Option Bool :=
 some (decide (((s0).length:Int)≤(40:Int)))
def ve (a0:Int) (d1:GDot) (b2:Int) (o3:GDot):Option Int :=
 ((xz a0 b2).bind fun v1=>((wt d1 o3).bind fun v2=>((cmpOrInt ([v1,v2]:List Int)).bind fun v3=>some v3)))
def qT (time0:Int) (d1:GDot) (other2:Int) (o3:GDot):Option Bool :=
 ((ve time0 d1 other2 o3).bind fun v1=>some (decide (v1 < (0:Int))))
def leafXtwice (l0:(List GItem)):Option Bool :=
 (lp (zr (fun (n1:Nat) (x1:GItem) (s1:List (GDot×Int))=>(some (.nxt (mput GDot.eqb s1 x1.dot (IntKind.wrap .i64 ((x7 GDot.eqb (0:Int) s1 x1.dot)+(1:Int))))):Option (Out _ (List (GDot×Int))))) l0 0 ([]:List (GDot×Int))) fun (s1:List (GDot×Int))=>some (decide (((s1).length:Int) < ((l0).length:Int))))
def qS (l0:(List GItem)) (timed1:Bool):Option Bool :=
 (lp (zr (fun (n1:Nat) (x1:GItem) (s1:Unit)=>(((dotMay x1.dot).bind fun v13=>((if ((!v13)==false)=true then qa x1.text else some default).bind fun v14=>((if (((!v13) || (!v14))==false)=true then leafXisTime x1.time else some default).bind fun v15=>(if ((((!v13) || (!v14)) || (!(timed1==v15))) || ((!timed1)&&(x1.time != (0:Int))))=true then some (.ret false) else (yv (((decide ((n1:Int) > (0:Int)))==true)=true→0≤(IntKind.wrap .i64 ((n1:Int) - (1:Int)))∧(IntKind.wrap .i64 ((n1:Int) - (1:Int))) < ((l0).length:Int)) ((yv (((decide ((n1:Int) > (0:Int)))==true)=true→0≤(IntKind.wrap .i64 ((n1:Int) - (1:Int)))∧(IntKind.wrap .i64 ((n1:Int) - (1:Int))) < ((l0).length:Int)) (((if ((decide ((n1:Int) > (0:Int)))==true)=true then qT (((l0).getD (IntKind.wrap .i64 ((n1:Int) - (1:Int))).toNat default).time) (((l0).getD (IntKind.wrap .i64 ((n1:Int) - (1:Int))).toNat default).dot) x1.time x1.dot else some default).bind fun v19=>(if ((decide ((n1:Int) > (0:Int)))&&(!v19))=true then some (.ret false) else some (.nxt ()))))))))))):Option (Out _ Unit))) l0 0 ()) fun (s1:Unit)=>((leafXtwice l0).bind fun v21=>some (!v21)))
def leafMay (l0:GLeaf):Option Bool :=
 (if (l0.typ==(1:Int))=true then ((wd l0 (GLeaf.mk l0.typ l0.n (0:Int) (GDot.mk (GActor.mk (0:Int) (0:Int)) (0:Int)) ([]:zk) ([]:List GItem) ([]:List GDot))).bind fun v2=>some v2) else (if (l0.typ==(2:Int))=true then ((if ((l0.time != (0:Int))==true)=true then leafXisTime l0.time else some default).bind fun v4=>((if (((l0.time != (0:Int))==true)&&(v4==true))=true then dotMay l0.dot else some default).bind fun v5=>((if (((l0.time != (0:Int))==true)&&((v4&&v5)==true))=true then qa l0.text else some default).bind fun v6=>(if (((l0.time != (0:Int))&&(!((v4&&v5)&&v6))) || ((l0.time==(0:Int))&&((!(l0.dot.actor.rep==(0:Int)&&(l0.dot.actor.inc==(0:Int)&&(l0.dot.seq==(0:Int)&&true)))) || (!(l0.text==([]:zk))))))=true then some false else ((wd l0 (GLeaf.mk l0.typ (0:Int) l0.time l0.dot l0.text ([]:List GItem) ([]:List GDot))).bind fun v8=>some v8))))) else (if (l0.typ==(3:Int))=true then ((qS l0.items false).bind fun v10=>((if ((!v10)==false)=true then leafXtombs l0 else some default).bind fun v11=>(if ((!v10) || (!v11))=true then some false else ((wd l0 (GLeaf.mk l0.typ (0:Int) (0:Int) (GDot.mk (GActor.mk (0:Int) (0:Int)) (0:Int)) ([]:zk) l0.items l0.tombs)).bind fun v13=>some v13)))) else (if (l0.typ==(4:Int))=true then ((qS l0.items true).bind fun v15=>(if (!v15)=true then some false else ((wd l0 (GLeaf.mk l0.typ (0:Int) (0:Int) (GDot.mk (GActor.mk (0:Int) (0:Int)) (0:Int)) ([]:zk) l0.items ([]:List GDot))).bind fun v17=>some v17))) else some false))))
def vN:Nat→(t0:(List GNode))→(deep1:Int)→Option Bool
 | 0,_,_=>none
 | n+1,t0,deep1=>(if ((decide (((t0).length:Int) > (0:Int)))&&(deep1==(3:Int)))=true then some false else (lp (zr (fun (n1:Nat) (x1:GNode) (s1:Unit)=>(((opIsName x1.name).bind fun v27=>(yv ((((!v27)==false)&&((decide ((n1:Int) > (0:Int)))==true))=true→0≤(IntKind.wrap .i64 ((n1:Int) - (1:Int)))∧(IntKind.wrap .i64 ((n1:Int) - (1:Int))) < ((t0).length:Int)) (((if ((((!v27) || ((decide ((n1:Int) > (0:Int)))&&(!(Op.bytesLess (((t0).getD (IntKind.wrap .i64 ((n1:Int) - (1:Int))).toNat default).name) x1.name)))) || ((IntKind.wrap .i64 (((x1.leaves).length:Int)+((x1.subs).length:Int)))==(0:Int)))==false)=true then vN n x1.subs (IntKind.wrap .i64 (deep1+(1:Int))) else some default).bind fun v31=>(if ((((!v27) || ((decide ((n1:Int) > (0:Int)))&&(!(Op.bytesLess (((t0).getD (IntKind.wrap .i64 ((n1:Int) - (1:Int))).toNat default).name) x1.name)))) || ((IntKind.wrap .i64 (((x1.leaves).length:Int)+((x1.subs).length:Int)))==(0:Int))) || (!v31))=true then some (.ret false) else (lp (zr (fun (n2:Nat) (x2:GLeaf) (s2:Unit)=>(((leafMay x2).bind fun v43=>(yv ((((!v43)==false)&&((decide ((n2:Int) > (0:Int)))==true))=true→0≤(IntKind.wrap .i64 ((n2:Int) - (1:Int)))∧(IntKind.wrap .i64 ((n2:Int) - (1:Int))) < ((x1.leaves).length:Int)) ((if ((!v43) || ((decide ((n2:Int) > (0:Int)))&&(decide (((x1.leaves).getD (IntKind.wrap .i64 ((n2:Int) - (1:Int))).toNat default).typ ≥ x2.typ))))=true then some (.ret (.ret false)) else some (.nxt ()))))):Option (Out _ Unit))) x1.leaves 0 ()) fun (s2:Unit)=>some (.nxt ()))))))):Option (Out _ Unit))) t0 0 ()) fun (s1:Unit)=>some true))
def treeXmay (t0:(List GNode)) (deep1:Int):Option Bool:=anyN fun n=>vN n t0 deep1
def vz (t0:(List GNode)):Option Bool :=
 ((treeXmay t0 (0:Int)).bind fun v1=>some v1)
def opMayPathC1 (s0:zk):Option Bool :=
 ((opIsName s0).bind fun v1=>some (!v1))
def vZ (p0:(List zk)):Option Bool :=
 ((if (((decide (((p0).length:Int) ≥ (1:Int)))&&(decide (((p0).length:Int)≤(3:Int))))==true)=true then yp p0 (fun x0=>opMayPathC1 x0) else some default).bind fun v3=>some (((decide (((p0).length:Int) ≥ (1:Int)))&&(decide (((p0).length:Int)≤(3:Int))))&&(!v3)))
def qM (p0:(List zk)) (path1:(List zk)):Option Bool :=
 ((vX p0).bind fun v1=>((xj p0).bind fun v2=>((if ((!v2)==false)=true then vZ path1 else some default).bind fun v3=>(if ((((!v2) || (!v3)) || (decide (((path1).length:Int) < ((v1.1).length:Int)))) || ((decide (((path1).length:Int) > ((v1.1).length:Int)))&&(!v1.2)))=true then some false else (lp (zr (fun (n1:Nat) (x1:zk) (s1:Unit)=>((yv (((!(x1==([42]:zk)))==true)=true→0≤(n1:Int)∧(n1:Int) < ((path1).length:Int)) ((if ((!(x1==([42]:zk)))&&(!(x1==((path1).getD (n1:Int).toNat default))))=true then some (.ret false) else some (.nxt ())))):Option (Out _ Unit))) v1.1 0 ()) fun (s1:Unit)=>some true)))))
def wL (f0:GField) (c0:(List zk)):Option Bool :=
 ((qM f0.path c0).bind fun v1=>some v1)
def qh (l0:(List GField)) (path1:(List zk)):Option (GField×Bool) :=
 ((yy l0 (fun x0=>wL x0 path1)).bind fun v1=>(if (decide (v1 < (0:Int)))=true then some ((GField.mk ([]:List zk) (0:Int) (0:Int) (0:Int) (0:Int)),false) else ((yo l0 v1).bind fun y3=>some (y3,true))))
def wx (c0:GLeaf) (c1:GField):Option Bool :=
 some (decide (((c0.items).length:Int)≤c1.items))
def vB (c0:GLeaf) (c1:GField):Option Bool :=
 some ((decide (c0.n ≥ c1.min))&&(decide (c0.n≤c1.max)))
def vA  : Option Bool :=
 some true
def xu (l0:(List GField)) (path1:(List zk)) (x2:GLeaf):Option Int :=
 ((qh l0 path1).bind fun v1=>(if (!v1.2)=true then some (7:Int) else (yv (¬ x2.typ < 0) ((if ((IntKind.wrap .u8 (((BitVec.ofInt (IntKind.bits .u8) (Int.fdiv v1.1.types (2 ^ (min x2.typ.toNat (IntKind.bits .u8)))) &&& BitVec.ofInt (IntKind.bits .u8) (1:Int)).toNat:Int)))==(0:Int))=true then some (15:Int) else (if x2.typ=1 then ((vB x2 v1.1).bind fun v6=>(if (!v6)=true then some (14:Int) else some (0:Int))) else (if x2.typ=2 then ((vA).bind fun v9=>(if (!v9)=true then some (14:Int) else some (0:Int))) else (if x2.typ=3 then ((wx x2 v1.1).bind fun v12=>(if (!v12)=true then some (14:Int) else some (0:Int))) else (if x2.typ=4 then ((wx x2 v1.1).bind fun v15=>(if (!v15)=true then some (14:Int) else some (0:Int))) else none)))))))))
def opXadds (o0:GOp):Option Bool :=
 some ((((decide (o0.n ≥ (-1000000:Int)))&&(decide (o0.n≤(1000000:Int))))&&(o0.text==([]:zk)))&&(((o0.dots).length:Int)==(0:Int)))
def opXplain (o0:GOp):Option Bool :=
 some (((o0.n==(0:Int))&&(decide (((o0.text).length:Int)≤(40:Int))))&&(((o0.dots).length:Int)==(0:Int)))
def opXdrops (o0:GOp):Option Bool :=
 (if (((o0.n != (0:Int)) || (decide (((o0.text).length:Int) > (40:Int)))) || (decide (((o0.dots).length:Int) > (64:Int))))=true then some false else (lp (zr (fun (n1:Nat) (x1:GDot) (s1:Unit)=>(((dotMay x1).bind fun v17=>(yv ((((!v17)==false)&&((decide ((n1:Int) > (0:Int)))==true))=true→0≤(IntKind.wrap .i64 ((n1:Int) - (1:Int)))∧(IntKind.wrap .i64 ((n1:Int) - (1:Int))) < ((o0.dots).length:Int)) (((if (((!v17)==false)&&((decide ((n1:Int) > (0:Int)))==true))=true then wt ((o0.dots).getD (IntKind.wrap .i64 ((n1:Int) - (1:Int))).toNat default) x1 else some default).bind fun v19=>(if ((!v17) || ((decide ((n1:Int) > (0:Int)))&&(decide (v19 ≥ (0:Int)))))=true then some (.ret false) else some (.nxt ())))))):Option (Out _ Unit))) o0.dots 0 ()) fun (s1:Unit)=>some true))
def opXof (k0:Int):Option (GOpKind×Bool) :=
 (if ((decide (k0 < (1:Int))) || (decide (k0 > (5:Int))))=true then some ((GOpKind.mk (0:Int) 0),false) else ((yo ([(GOpKind.mk (0:Int) 0),(GOpKind.mk (1:Int) 1),(GOpKind.mk (2:Int) 2),(GOpKind.mk (3:Int) 2),(GOpKind.mk (3:Int) 3),(GOpKind.mk (4:Int) 2)]:List GOpKind) k0).bind fun y2=>some (y2,true)))
def callOp (c:Nat) (x0:GOp):Option Bool:=match c with
 | 1=>opXadds x0
 | 2=>opXplain x0
 | 3=>opXdrops x0
 | _=>none
def opMay (o0:GOp):Option Bool :=
 ((opXof o0.kind).bind fun v1=>((if (v1.2==true)=true then vZ o0.path else some default).bind fun v2=>((if ((v1.2&&v2)==true)=true then callOp v1.1.may o0 else some default).bind fun v3=>some ((v1.2&&v2)&&v3))))
def vG (e0:GEvent):Option Bool :=
 ((dotMay e0.dot).bind fun v1=>((if (((v1&&(decide (e0.time ≥ (1:Int))))&&(decide (e0.time≤(1099511627776:Int))))==true)=true then opMay e0.op else some default).bind fun v2=>some (((v1&&(decide (e0.time ≥ (1:Int))))&&(decide (e0.time≤(1099511627776:Int))))&&v2)))
def qg (s0:(List GDot)) (v1:GDot):Option Int :=
 (lp (zr (fun (n1:Nat) (x1:GDot) (s1:Unit)=>((if (v1.actor.rep==x1.actor.rep&&(v1.actor.inc==x1.actor.inc&&(v1.seq==x1.seq&&true)))=true then some (.ret (n1:Int)) else some (.nxt ())):Option (Out _ Unit))) s0 0 ()) fun (s1:Unit)=>some (-1:Int))
def xh (s0:(List GDot)) (v1:GDot):Option Bool :=
 ((qg s0 v1).bind fun v1=>some (decide (v1 ≥ (0:Int))))
/-- slices.Insert[[]varve/api.Item,varve/api.Item]: insO -/
def slicesInsertItemX:Unit:=()
def yw (a0:GItem) (b1:GItem):Option Int :=
 ((ve a0.time a0.dot b1.time b1.dot).bind fun v1=>some v1)
def zL (x0:(List GItem)) (target1:GItem) (cmp2:(GItem→GItem→Option Int)):Option (Int×Bool) :=
 (lp (yr (fun (s1:Int×Int)=>((if (decide (s1.1 < s1.2))=true then ((yo x0 (IntKind.wrap .i64 ((Int.fdiv (IntKind.wrap .u64 ((IntKind.wrap .i64 (s1.1+s1.2)))) (2 ^ (min (1:Int).toNat (IntKind.bits .u64))))))).bind fun y14=>((cmp2 y14 target1).bind fun v15=>(if (decide (v15 < (0:Int)))=true then some (.nxt ((IntKind.wrap .i64 ((IntKind.wrap .i64 ((Int.fdiv (IntKind.wrap .u64 ((IntKind.wrap .i64 (s1.1+s1.2)))) (2 ^ (min (1:Int).toNat (IntKind.bits .u64))))))+(1:Int))),s1.2)) else some (.nxt (s1.1,(IntKind.wrap .i64 ((Int.fdiv (IntKind.wrap .u64 ((IntKind.wrap .i64 (s1.1+s1.2)))) (2 ^ (min (1:Int).toNat (IntKind.bits .u64))))))))))) else some (.brk (s1.1,s1.2))):Option (Out _ (Int×Int)))) ((0:Int),((x0).length:Int))) fun (s1:Int×Int)=>(yv (((decide (s1.1 < ((x0).length:Int)))==true)=true→0≤s1.1∧s1.1 < ((x0).length:Int)) (((if ((decide (s1.1 < ((x0).length:Int)))==true)=true then cmp2 ((x0).getD s1.1.toNat default) target1 else some default).bind fun v18=>some (s1.1,((decide (s1.1 < ((x0).length:Int)))&&(v18==(0:Int))))))))
/-- slices.SortFunc[[]varve/api.Dot,varve/api.Dot]: sortO -/
def slicesSortFuncDotX:Unit:=()
def xP (s0:(List GDot)):Option (List GDot) :=
 (if (decide (((s0).length:Int) < (2:Int)))=true then some s0 else (lp (yr (fun (s1:Int)=>((if (decide (s1 < ((s0).length:Int)))=true then ((yo s0 s1).bind fun y35=>((yo s0 (IntKind.wrap .i64 (s1 - (1:Int)))).bind fun y36=>(if (y35.actor.rep==y36.actor.rep&&(y35.actor.inc==y36.actor.inc&&(y35.seq==y36.seq&&true)))=true then (yv (0≤s1∧s1≤((s0.length:Nat):Int)) ((lp (yr (fun (s2:Int×Int×(List GDot))=>((yv ((s2.2.2).length=s0.length) ((if (decide (s2.2.1 < ((s0.length - s1.toNat:Nat):Int)))=true then ((yo (s2.2.2.drop s1.toNat) s2.2.1).bind fun y51=>((yo (s2.2.2.drop s1.toNat) (IntKind.wrap .i64 (s2.2.1 - (1:Int)))).bind fun y52=>(if (!(y51.actor.rep==y52.actor.rep&&(y51.actor.inc==y52.actor.inc&&(y51.seq==y52.seq&&true))))=true then ((yo (s2.2.2.drop s1.toNat) s2.2.1).bind fun y54=>((yo s2.2.2 s2.1).bind fun y55=>some (.nxt ((IntKind.wrap .i64 (s2.1+(1:Int))),(IntKind.wrap .i64 (s2.2.1+(1:Int))),(s2.2.2.set s2.1.toNat y54))))) else some (.nxt (s2.1,(IntKind.wrap .i64 (s2.2.1+(1:Int))),s2.2.2))))) else some (.brk (s2.1,s2.2.1,s2.2.2))))):Option (Out _ (Int×Int×(List GDot))))) (s1,(1:Int),s0)) fun (s2:Int×Int×(List GDot))=>(yv (0≤s2.1∧s2.1≤((s0.length:Nat):Int)) (((slc (s2.2.2.take s2.1.toNat++List.replicate (s0.length - s2.1.toNat) (GDot.mk (GActor.mk (0:Int) (0:Int)) (0:Int))) (0:Int) s2.1).bind fun m57=>some (.ret m57))))))) else some (.nxt (IntKind.wrap .i64 (s1+(1:Int))))))) else some (.brk s1)):Option (Out _ Int))) (1:Int)) fun (s1:Int)=>some s0))
def yY (s0:(List GItem)) (del1:(GItem→Option Bool)):Option (List GItem) :=
 ((yf s0 del1).bind fun v1=>(if (v1==(-1:Int))=true then some s0 else (lp (yr (fun (s1:Int×Int×(List GItem))=>((yv ((s1.2.2).length=s0.length) ((if (decide (s1.2.1 < ((s0.length:Nat):Int)))=true then ((yo s1.2.2 s1.2.1).bind fun y14=>((del1 y14).bind fun v15=>(if (!v15)=true then ((yo s1.2.2 s1.1).bind fun y17=>some (.nxt ((IntKind.wrap .i64 (s1.1+(1:Int))),(IntKind.wrap .i64 (s1.2.1+(1:Int))),(s1.2.2.set s1.1.toNat y14)))) else some (.nxt (s1.1,(IntKind.wrap .i64 (s1.2.1+(1:Int))),s1.2.2))))) else some (.brk (s1.1,s1.2.1,s1.2.2))))):Option (Out _ (Int×Int×(List GItem))))) (v1,(IntKind.wrap .i64 (v1+(1:Int))),s0)) fun (s1:Int×Int×(List GItem))=>(yv (0≤s1.1∧s1.1≤((s0.length:Nat):Int)) (((slc (s1.2.2.take s1.1.toNat++List.replicate (s0.length - s1.1.toNat) (GItem.mk (0:Int) (GDot.mk (GActor.mk (0:Int) (0:Int)) (0:Int)) ([]:zk))) (0:Int) s1.1).bind fun m19=>some m19))))))
def xF (x0:GItem) (c0:GEvent):Option Bool :=
 ((xh c0.op.dots x0.dot).bind fun v1=>some v1)
def yz (s0:(List GDot)):Option (List GDot) :=
 (nilq s0 fun b1=>(if b1=true then some ([]:List GDot) else (yv ((([]:List GDot)).length+(s0).length≤yM) (some (([]:List GDot)++s0)))))
def ym (s0:(List GItem)):Option (List GItem) :=
 (nilq s0 fun b1=>(if b1=true then some ([]:List GItem) else (yv ((([]:List GItem)).length+(s0).length≤yM) (some (([]:List GItem)++s0)))))
def opType (k0:Int):Option Int :=
 ((opXof k0).bind fun v1=>some v1.1.leaf)
def leafApply (l0:GLeaf) (e1:GEvent):Option (GLeaf×Int) :=
 ((leafMay l0).bind fun v1=>((if ((!v1)==false)=true then vG e1 else some default).bind fun v2=>(if ((!v1) || (!v2))=true then some (zLf,(2:Int)) else ((opType e1.op.kind).bind fun v4=>(if (v4 != l0.typ)=true then some (zLf,(15:Int)) else ((ym l0.items).bind fun v6=>((yz l0.tombs).bind fun v7=>(if e1.op.kind=1 then ((some (IntKind.wrap .i64 (l0.n+e1.op.n)):Option Int).bind fun v9=>some ((GLeaf.mk l0.typ v9 l0.time l0.dot l0.text v6 v7),(0:Int))) else (if e1.op.kind=2 then ((((if ((l0.time==(0:Int))==false)=true then qT l0.time l0.dot e1.time e1.dot else some default).bind fun v14=>(if ((l0.time==(0:Int)) || v14)=true then some (e1.time,e1.dot.actor.rep,e1.dot.actor.inc,e1.dot.seq,e1.op.text) else some (l0.time,l0.dot.actor.rep,l0.dot.actor.inc,l0.dot.seq,l0.text))):Option (Int×Int×Int×Int×zk)).bind fun v11=>some ((GLeaf.mk l0.typ l0.n v11.1 (GDot.mk (GActor.mk v11.2.1 v11.2.2.1) v11.2.2.2.1) v11.2.2.2.2 v6 v7),(0:Int))) else (if e1.op.kind=3 then ((((xh v7 e1.dot).bind fun v29=>(if (!v29)=true then ((((leafXhas v6 e1.dot).bind fun v36=>(if v36=true then some v6 else ((zL v6 (GItem.mk (0:Int) e1.dot e1.op.text) (fun x0 x1=>yw x0 x1)).bind fun v38=>((insO v6 v38.1 ([(GItem.mk (0:Int) e1.dot e1.op.text)]:List GItem)).bind fun v39=>some v39)))):Option (List GItem)).bind fun v31=>some v31) else some v6)):Option (List GItem)).bind fun v17=>some ((GLeaf.mk l0.typ l0.n l0.time l0.dot l0.text v17 v7),(0:Int))) else (if e1.op.kind=4 then (((yv ((v7).length+(e1.op.dots).length≤yM) (((sortO (fun x y=>wt x y) (v7++e1.op.dots)).bind fun v47=>((xP v47).bind fun v48=>((yY v6 (fun x0=>xF x0 e1)).bind fun v49=>some (v48,v49)))))):Option ((List GDot)×(List GItem))).bind fun v41=>some ((GLeaf.mk l0.typ l0.n l0.time l0.dot l0.text v41.2 v41.1),(0:Int))) else (if e1.op.kind=5 then ((((((leafXhas v6 e1.dot).bind fun v66=>(if v66=true then some v6 else ((zL v6 (GItem.mk e1.time e1.dot e1.op.text) (fun x0 x1=>yw x0 x1)).bind fun v68=>((insO v6 v68.1 ([(GItem.mk e1.time e1.dot e1.op.text)]:List GItem)).bind fun v69=>some v69)))):Option (List GItem)).bind fun v61=>some v61):Option (List GItem)).bind fun v51=>some ((GLeaf.mk l0.typ l0.n l0.time l0.dot l0.text v51 v7),(0:Int))) else some ((GLeaf.mk l0.typ l0.n l0.time l0.dot l0.text v6 v7),(0:Int))))))))))))))
def yg (s0:(List GNode)):Option (List GNode) :=
 (nilq s0 fun b1=>(if b1=true then some ([]:List GNode) else (yv ((([]:List GNode)).length+(s0).length≤yM) (some (([]:List GNode)++s0)))))
/-- strings.Compare -/
def stringsCompare (p0:zk) (p1:zk):Option Int:=some (Go.Lib.compareBytes p0 p1)
def treeXfindC1 (n0:GNode) (s1:zk):Option Int :=
 ((stringsCompare n0.name s1).bind fun v1=>some v1)
def zj (x0:(List GNode)) (target1:zk) (cmp2:(GNode→zk→Option Int)):Option (Int×Bool) :=
 (lp (yr (fun (s1:Int×Int)=>((if (decide (s1.1 < s1.2))=true then ((yo x0 (IntKind.wrap .i64 ((Int.fdiv (IntKind.wrap .u64 ((IntKind.wrap .i64 (s1.1+s1.2)))) (2 ^ (min (1:Int).toNat (IntKind.bits .u64))))))).bind fun y9=>((cmp2 y9 target1).bind fun v10=>(if (decide (v10 < (0:Int)))=true then some (.nxt ((IntKind.wrap .i64 ((IntKind.wrap .i64 ((Int.fdiv (IntKind.wrap .u64 ((IntKind.wrap .i64 (s1.1+s1.2)))) (2 ^ (min (1:Int).toNat (IntKind.bits .u64))))))+(1:Int))),s1.2)) else some (.nxt (s1.1,(IntKind.wrap .i64 ((Int.fdiv (IntKind.wrap .u64 ((IntKind.wrap .i64 (s1.1+s1.2)))) (2 ^ (min (1:Int).toNat (IntKind.bits .u64))))))))))) else some (.brk (s1.1,s1.2))):Option (Out _ (Int×Int)))) ((0:Int),((x0).length:Int))) fun (s1:Int×Int)=>(yv (((decide (s1.1 < ((x0).length:Int)))==true)=true→0≤s1.1∧s1.1 < ((x0).length:Int)) (((if ((decide (s1.1 < ((x0).length:Int)))==true)=true then cmp2 ((x0).getD s1.1.toNat default) target1 else some default).bind fun v13=>some (s1.1,((decide (s1.1 < ((x0).length:Int)))&&(v13==(0:Int))))))))
def treeXfind (t0:(List GNode)) (name1:zk):Option (Int×Bool) :=
 ((zj t0 name1 (fun x0 x1=>treeXfindC1 x0 x1)).bind fun v1=>some (v1.1,v1.2))
/-- slices.Insert[varve/api.Tree,varve/api.Node]: insO -/
def slicesInsertTreeNodeX:Unit:=()
def zD (x0:(List GLeaf)) (target1:Int) (cmp2:(GLeaf→Int→Option Int)):Option (Int×Bool) :=
 (lp (yr (fun (s1:Int×Int)=>((if (decide (s1.1 < s1.2))=true then ((yo x0 (IntKind.wrap .i64 ((Int.fdiv (IntKind.wrap .u64 ((IntKind.wrap .i64 (s1.1+s1.2)))) (2 ^ (min (1:Int).toNat (IntKind.bits .u64))))))).bind fun y9=>((cmp2 y9 target1).bind fun v10=>(if (decide (v10 < (0:Int)))=true then some (.nxt ((IntKind.wrap .i64 ((IntKind.wrap .i64 ((Int.fdiv (IntKind.wrap .u64 ((IntKind.wrap .i64 (s1.1+s1.2)))) (2 ^ (min (1:Int).toNat (IntKind.bits .u64))))))+(1:Int))),s1.2)) else some (.nxt (s1.1,(IntKind.wrap .i64 ((Int.fdiv (IntKind.wrap .u64 ((IntKind.wrap .i64 (s1.1+s1.2)))) (2 ^ (min (1:Int).toNat (IntKind.bits .u64))))))))))) else some (.brk (s1.1,s1.2))):Option (Out _ (Int×Int)))) ((0:Int),((x0).length:Int))) fun (s1:Int×Int)=>(yv (((decide (s1.1 < ((x0).length:Int)))==true)=true→0≤s1.1∧s1.1 < ((x0).length:Int)) (((if ((decide (s1.1 < ((x0).length:Int)))==true)=true then cmp2 ((x0).getD s1.1.toNat default) target1 else some default).bind fun v13=>some (s1.1,((decide (s1.1 < ((x0).length:Int)))&&(v13==(0:Int))))))))
def wm (x0:GLeaf) (kind1:Int):Option Int :=
 ((yV x0.typ kind1).bind fun v1=>some v1)
/-- slices.Insert[[]varve/api.Leaf,varve/api.Leaf]: insO -/
def slicesInsertLeafX:Unit:=()
def yU (s0:(List GLeaf)):Option (List GLeaf) :=
 (nilq s0 fun b1=>(if b1=true then some ([]:List GLeaf) else (yv ((([]:List GLeaf)).length+(s0).length≤yM) (some (([]:List GLeaf)++s0)))))
def xy:Nat→(t0:(List GNode))→(path1:(List zk))→(l2:GLeaf)→Option (List GNode)
 | 0,_,_,_=>none
 | n+1,t0,path1,l2=>((yg t0).bind fun v1=>((yo path1 (0:Int)).bind fun y2=>((treeXfind v1 y2).bind fun v3=>(if (!v3.2)=true then ((yo path1 (0:Int)).bind fun y5=>((insO v1 v3.1 ([(GNode.mk y5 ([]:List GLeaf) ([]:List GNode))]:List GNode)).bind fun v6=>((yo v6 v3.1).bind fun y7=>(if (decide (((path1).length:Int) > (1:Int)))=true then ((slc path1 (1:Int) ((path1).length:Int)).bind fun m10=>((xy n y7.subs m10 l2).bind fun v11=>((yo v6 v3.1).bind fun y12=>some (v6.set v3.1.toNat (GNode.mk y7.name y7.leaves v11))))) else ((yU y7.leaves).bind fun v13=>((zD v13 l2.typ (fun x0 x1=>wm x0 x1)).bind fun v14=>(if (!v14.2)=true then ((insO v13 v14.1 ([l2]:List GLeaf)).bind fun v16=>((yo v16 v14.1).bind fun y17=>((yo v6 v3.1).bind fun y18=>some (v6.set v3.1.toNat (GNode.mk y7.name (v16.set v14.1.toNat l2) y7.subs))))) else ((yo v13 v14.1).bind fun y19=>((yo v6 v3.1).bind fun y20=>some (v6.set v3.1.toNat (GNode.mk y7.name (v13.set v14.1.toNat l2) y7.subs))))))))))) else ((yo v1 v3.1).bind fun y21=>(if (decide (((path1).length:Int) > (1:Int)))=true then ((slc path1 (1:Int) ((path1).length:Int)).bind fun m24=>((xy n y21.subs m24 l2).bind fun v25=>((yo v1 v3.1).bind fun y26=>some (v1.set v3.1.toNat (GNode.mk y21.name y21.leaves v25))))) else ((yU y21.leaves).bind fun v27=>((zD v27 l2.typ (fun x0 x1=>wm x0 x1)).bind fun v28=>(if (!v28.2)=true then ((insO v27 v28.1 ([l2]:List GLeaf)).bind fun v30=>((yo v30 v28.1).bind fun y31=>((yo v1 v3.1).bind fun y32=>some (v1.set v3.1.toNat (GNode.mk y21.name (v30.set v28.1.toNat l2) y21.subs))))) else ((yo v27 v28.1).bind fun y33=>((yo v1 v3.1).bind fun y34=>some (v1.set v3.1.toNat (GNode.mk y21.name (v27.set v28.1.toNat l2) y21.subs)))))))))))))
def treeXput (t0:(List GNode)) (path1:(List zk)) (l2:GLeaf):Option (List GNode):=anyN fun n=>xy n t0 path1 l2
def xW:Nat→(t0:(List GNode))→(byy1:(GLeaf→Option GLeaf))→Option (List GNode)
 | 0,_,_=>none
 | n+1,t0,byy1=>(lp (zr (fun (n1:Nat) (x1:GNode) (s1:(List GNode))=>(((xW n x1.subs byy1).bind fun v23=>(lp (zr (fun (n2:Nat) (x2:GLeaf) (s2:(List GLeaf))=>(((byy1 x2).bind fun v36=>(yv ((s2).length+(([v36]:List GLeaf)).length≤yM) (some (.nxt (s2++([v36]:List GLeaf)))))):Option (Out _ (List GLeaf)))) x1.leaves 0 ([]:List GLeaf)) fun (s2:(List GLeaf))=>(yv ((s1).length+(([(GNode.mk x1.name s2 v23)]:List GNode)).length≤yM) (some (.nxt (s1++([(GNode.mk x1.name s2 v23)]:List GNode))))))):Option (Out _ (List GNode)))) t0 0 ([]:List GNode)) fun (s1:(List GNode))=>some s1)
def treeXchanged (t0:(List GNode)) (byy1:(GLeaf→Option GLeaf)):Option (List GNode):=anyN fun n=>xW n t0 byy1
def vD (l0:GLeaf):Option GLeaf :=
 ((ym l0.items).bind fun v1=>((yz l0.tombs).bind fun v2=>some (GLeaf.mk l0.typ l0.n l0.time l0.dot l0.text v1 v2)))
def treeXown (t0:(List GNode)):Option (List GNode) :=
 ((treeXchanged t0 (fun x0=>vD x0)).bind fun v1=>some v1)
def xg (s0:(List GNode)) (f1:(GNode→Option Bool)):Option Int :=
 (lp (zr (fun (n1:Nat) (x1:GNode) (s1:Unit)=>(((f1 x1).bind fun v7=>(if v7=true then some (.ret (n1:Int)) else some (.nxt ()))):Option (Out _ Unit))) s0 0 ()) fun (s1:Unit)=>some (-1:Int))
def qY (n0:GNode) (c0:zk):Option Bool :=
 some (n0.name==c0)
def vO (t0:(List GNode)) (name1:zk):Option (GNode×Bool) :=
 ((xg t0 (fun x0=>qY x0 name1)).bind fun v1=>(if (decide (v1 < (0:Int)))=true then some ((GNode.mk ([]:zk) ([]:List GLeaf) ([]:List GNode)),false) else ((yo t0 v1).bind fun y3=>some (y3,true))))
def zU (s0:(List GLeaf)) (f1:(GLeaf→Option Bool)):Option Int :=
 (lp (zr (fun (n1:Nat) (x1:GLeaf) (s1:Unit)=>(((f1 x1).bind fun v7=>(if v7=true then some (.ret (n1:Int)) else some (.nxt ()))):Option (Out _ Unit))) s0 0 ()) fun (s1:Unit)=>some (-1:Int))
def treeLeafC1 (l0:GLeaf) (c0:Int):Option Bool :=
 some (l0.typ==c0)
def vC (kind0:Int):Option GLeaf :=
 (if ((decide (kind0 < (1:Int))) || (decide (kind0 > (4:Int))))=true then some zLf else some (GLeaf.mk kind0 (0:Int) (0:Int) (GDot.mk (GActor.mk (0:Int) (0:Int)) (0:Int)) ([]:zk) ([]:List GItem) ([]:List GDot)))
def xA (t0:(List GNode)) (path1:(List zk)) (kind2:Int):Option (GLeaf×Bool) :=
 (lp ((lp (zr (fun (n2:Nat) (x2:zk) (s2:(List GNode)×Bool×zk×(List GLeaf)×(List GNode))=>(((vO s2.1 x2).bind fun v47=>(if (!v47.2)=true then some (.brk (s2.1,v47.2,v47.1.name,v47.1.leaves,v47.1.subs)) else some (.nxt (v47.1.subs,v47.2,v47.1.name,v47.1.leaves,v47.1.subs)))):Option (Out _ ((List GNode)×Bool×zk×(List GLeaf)×(List GNode))))) path1 0 (t0,(decide (((path1).length:Int) > (0:Int))),([]:zk),([]:List GLeaf),([]:List GNode))) fun (s2:(List GNode)×Bool×zk×(List GLeaf)×(List GNode))=>some (.inr (s2.2.1,s2.2.2.1,s2.2.2.2.1,s2.2.2.2.2))):Option (_ ⊕ (Bool×zk×(List GLeaf)×(List GNode)))) fun (s1:Bool×zk×(List GLeaf)×(List GNode))=>((zU s1.2.2.1 (fun x0=>treeLeafC1 x0 kind2)).bind fun v49=>((if (((!s1.1) || (decide (v49 < (0:Int))))==false)=true then vC kind2 else some default).bind fun v50=>(if (((!s1.1) || (decide (v49 < (0:Int)))) || (v50.typ==(0:Int)))=true then ((vC kind2).bind fun v52=>some (v52,false)) else ((yo s1.2.2.1 v49).bind fun y53=>((ym y53.items).bind fun v54=>((yz y53.tombs).bind fun v55=>some ((GLeaf.mk y53.typ y53.n y53.time y53.dot y53.text v54 v55),true))))))))
def treeApply (t0:(List GNode)) (e1:GEvent):Option ((List GNode)×Int) :=
 ((vz t0).bind fun v1=>((if ((!v1)==false)=true then vG e1 else some default).bind fun v2=>(if ((!v1) || (!v2))=true then some (([]:List GNode),(2:Int)) else ((opType e1.op.kind).bind fun v4=>((xA t0 e1.op.path v4).bind fun v5=>((leafApply v5.1 e1).bind fun v6=>(if (v6.2 != (0:Int))=true then some (([]:List GNode),v6.2) else ((treeXput t0 e1.op.path v6.1).bind fun v8=>((treeXown v8).bind fun v9=>some (v9,(0:Int)))))))))))
def xp (l0:(List GField)) (t1:(List GNode)) (e2:GEvent):Option Int :=
 ((vS l0).bind fun v1=>((if ((!v1)==false)=true then vz t1 else some default).bind fun v2=>((if (((!v1) || (!v2))==false)=true then vG e2 else some default).bind fun v3=>(if (((!v1) || (!v2)) || (!v3))=true then some (2:Int) else ((treeApply t1 e2).bind fun v5=>((opType e2.op.kind).bind fun v6=>((xA v5.1 e2.op.path v6).bind fun v7=>((xu l0 e2.op.path v7.1).bind fun v8=>some v8))))))))
def wn (s0:(List GRow)) (seq1:(S:Type)→(S→GRow→Option (Bool×S))→S→Option S):Option (List GRow) :=
 (rng (seq1 _ (stp (fun (s1:(List GRow)) (x1:GRow)=>((yv ((s1).length+(([x1]:List GRow)).length≤yM) (some (true,((s1++([x1]:List GRow)),none)))):Option (Bool×((List GRow)×Option Nat))))) (s0,none)) (fun (s1:(List GRow))=>some s1) (fun _ _=>none))
def w8 (seq0:(S:Type)→(S→GRow→Option (Bool×S))→S→Option S):Option (List GRow) :=
 ((wn ([]:List GRow) seq0).bind fun v1=>some v1)
def qL (t0:(List GNode)) (ahead1:(List zk)):Option ((List GNode)×(List zk)) :=
 some (t0,ahead1)
def xi (s0:(List zk)):Option (List zk) :=
 (nilq s0 fun b1=>(if b1=true then some ([]:List zk) else (yv ((([]:List zk)).length+(s0).length≤yM) (some (([]:List zk)++s0)))))
def pathsXown (l0:GLeaf):Option GLeaf :=
 ((ym l0.items).bind fun v1=>((yz l0.tombs).bind fun v2=>some (GLeaf.mk l0.typ l0.n l0.time l0.dot l0.text v1 v2)))
def xY:Nat→(S:Type)→(yield0:S→GRow→Option (Bool×S))→(c0:(List GNode))→(c1:(List zk))→(s0:S)→Option S
 | 0,_,_,_,_,_=>none
 | n+1,S,yield0,c0,c1,s0=>(lp (zr (fun (n1:Nat) (x1:GNode) (s1:S)=>(((xi c1).bind fun v37=>(yv ((v37).length+(([x1.name]:List zk)).length≤yM) ((lp (zr (fun (n2:Nat) (x2:GLeaf) (s2:S)=>(((xi (v37++([x1.name]:List zk))).bind fun v51=>((pathsXown x2).bind fun v52=>((yield0 s2 (GRow.mk v51 v52)).bind fun v53=>(if (!v53.1)=true then some (.ret (.ret v53.2)) else some (.nxt v53.2))))):Option (Out _ S))) x1.leaves 0 s1) fun (s2:S)=>((qL x1.subs (v37++([x1.name]:List zk))).bind fun v55=>(rng (xY n _ (stp (fun (s3:S) (x3:GRow)=>(((yield0 s3 x3).bind fun v64=>(if (!v64.1)=true then some (false,(v64.2,some 0)) else some (true,(v64.2,none)))):Option (Bool×(S×Option Nat))))) v55.1 v55.2 (s2,none)) (fun (s3:S)=>some (.nxt s3)) (fun (j3:Nat) (s3:S)=>if j3=0 then some (.ret s3) else none))))))):Option (Out _ S))) c0 0 s0) fun (s1:S)=>some s1)
def pathsXrowsC1 (S:Type) (yield0:S→GRow→Option (Bool×S)) (c0:(List GNode)) (c1:(List zk)) (s0:S):Option S:=anyN fun n=>xY n S yield0 c0 c1 s0
def pathsRows (t0:(List GNode)):Option (List GRow) :=
 ((vz t0).bind fun v1=>(if (!v1)=true then some ([]:List GRow) else ((qL t0 ([]:List zk)).bind fun v3=>((w8 (fun S y s=>pathsXrowsC1 S y v3.1 v3.2 s)).bind fun v4=>some v4))))
def xQ (l0:(List GField)) (t1:(List GNode)):Option ((List GBreach)×Int) :=
 ((vS l0).bind fun v1=>((if ((!v1)==false)=true then vz t1 else some default).bind fun v2=>(if ((!v1) || (!v2))=true then some (([]:List GBreach),(2:Int)) else ((pathsRows t1).bind fun v4=>(lp (zr (fun (n1:Nat) (x1:GRow) (s1:(List GBreach))=>(((xu l0 x1.path x1.leaf).bind fun v13=>(if (v13 != (0:Int))=true then (yv ((s1).length+(([(GBreach.mk x1.path x1.leaf.typ v13)]:List GBreach)).length≤yM) (some (.nxt (s1++([(GBreach.mk x1.path x1.leaf.typ v13)]:List GBreach))))) else some (.nxt s1))):Option (Out _ (List GBreach)))) v4 0 ([]:List GBreach)) fun (s1:(List GBreach))=>some (s1,(0:Int)))))))
def vp (x0:GLeaf):Option (List GNode) :=
 some ([(GNode.mk ([97]:zk) ([]:List GLeaf) ([(GNode.mk ([98]:zk) ([x0]:List GLeaf) ([]:List GNode))]:List GNode))]:List GNode)
def wU  : Option Bool :=
 ((vp (GLeaf.mk (3:Int) (0:Int) (0:Int) (GDot.mk (GActor.mk (0:Int) (0:Int)) (0:Int)) ([]:zk) ([]:List GItem) ([]:List GDot))).bind fun v1=>((xQ ([(GField.mk ([([97]:zk),([42]:zk)]:List zk) (2:Int) (0:Int) (10:Int) (0:Int))]:List GField) v1).bind fun v2=>((vp (GLeaf.mk (1:Int) (9:Int) (0:Int) (GDot.mk (GActor.mk (0:Int) (0:Int)) (0:Int)) ([]:zk) ([]:List GItem) ([]:List GDot))).bind fun v3=>((xp ([(GField.mk ([([97]:zk),([42]:zk)]:List zk) (2:Int) (0:Int) (10:Int) (0:Int))]:List GField) v3 (GEvent.mk (GDot.mk (GActor.mk (0:Int) (1:Int)) (1:Int)) (1:Int) (GOp.mk (1:Int) ([([97]:zk),([98]:zk)]:List zk) (2:Int) ([]:zk) ([]:List GDot)))).bind fun v4=>(yv (((((v4==(14:Int))&&(v2.2==(0:Int)))&&(((v2.1).length:Int)==(1:Int)))==true)=true→0≤(0:Int)∧(0:Int) < ((v2.1).length:Int)) (some ((((v4==(14:Int))&&(v2.2==(0:Int)))&&(((v2.1).length:Int)==(1:Int)))&&(((v2.1).getD (0:Int).toNat default).e==(15:Int)))))))))
def wh (there0:Bool) (l1:GLeaf) (kind2:Int):Option Bool :=
 (if (!there0)=true then ((wd l1 zLf).bind fun v2=>some v2) else ((if ((l1.typ==kind2)==true)=true then leafMay l1 else some default).bind fun v3=>some ((l1.typ==kind2)&&v3)))
def xk (x0:zk):Option Bool :=
 some (!(x0==x0))
def yq (x0:zk) (y1:zk):Option Int :=
 ((xk x0).bind fun v1=>((xk y1).bind fun v2=>(if v1=true then (if v2=true then some (0:Int) else some (-1:Int)) else (if v2=true then some (1:Int) else (if (Op.bytesLess x0 y1)=true then some (-1:Int) else (if (!(Op.bytesLess x0 y1 || x0==y1))=true then some (1:Int) else some (0:Int)))))))
def yF (s10:(List zk)) (s21:(List zk)):Option Int :=
 (lp (zr (fun (n1:Nat) (x1:zk) (s1:Unit)=>((if (decide ((n1:Int) ≥ ((s21).length:Int)))=true then some (.ret (1:Int)) else ((yo s21 (n1:Int)).bind fun y12=>((yq x1 y12).bind fun v13=>(if (v13 != (0:Int))=true then some (.ret v13) else some (.nxt ()))))):Option (Out _ Unit))) s10 0 ()) fun (s1:Unit)=>(if (decide (((s10).length:Int) < ((s21).length:Int)))=true then some (-1:Int) else some (0:Int)))
def qV (a0:GEdit) (b1:GEdit):Option Int :=
 ((yF a0.path b1.path).bind fun v1=>((yV a0.typ b1.typ).bind fun v2=>((cmpOrInt ([v1,v2]:List Int)).bind fun v3=>some v3)))
def diffMay (l0:(List GEdit)):Option Bool :=
 (lp (zr (fun (n1:Nat) (x1:GEdit) (s1:Unit)=>(((if ((x1.had&&x1.has)==true)=true then wd x1.was x1.is else some default).bind fun v13=>((vZ x1.path).bind fun v14=>((if (((((!v14) || (!((decide (x1.typ ≥ (1:Int)))&&(decide (x1.typ≤(4:Int)))))) || ((!x1.had)&&(!x1.has))) || ((x1.had&&x1.has)&&v13))==false)=true then wh x1.had x1.was x1.typ else some default).bind fun v15=>((if ((((((!v14) || (!((decide (x1.typ ≥ (1:Int)))&&(decide (x1.typ≤(4:Int)))))) || ((!x1.had)&&(!x1.has))) || ((x1.had&&x1.has)&&v13)) || (!v15))==false)=true then wh x1.has x1.is x1.typ else some default).bind fun v16=>(if ((((((!v14) || (!((decide (x1.typ ≥ (1:Int)))&&(decide (x1.typ≤(4:Int)))))) || ((!x1.had)&&(!x1.has))) || ((x1.had&&x1.has)&&v13)) || (!v15)) || (!v16))=true then some (.ret false) else (yv (((decide ((n1:Int) > (0:Int)))==true)=true→0≤(IntKind.wrap .i64 ((n1:Int) - (1:Int)))∧(IntKind.wrap .i64 ((n1:Int) - (1:Int))) < ((l0).length:Int)) (((if ((decide ((n1:Int) > (0:Int)))==true)=true then qV ((l0).getD (IntKind.wrap .i64 ((n1:Int) - (1:Int))).toNat default) x1 else some default).bind fun v19=>(if ((decide ((n1:Int) > (0:Int)))&&(decide (v19 ≥ (0:Int))))=true then some (.ret false) else some (.nxt ())))))))))):Option (Out _ Unit))) l0 0 ()) fun (s1:Unit)=>some true)
def pathsSelectC1 (path0:(List zk)) (c0:(List zk)):Option Bool :=
 ((qM c0 path0).bind fun v1=>some v1)
def wP:Nat→(t0:(List GNode))→(ahead1:(List zk))→(is2:((List zk)→Option Bool))→Option (List GNode)
 | 0,_,_,_=>none
 | n+1,t0,ahead1,is2=>(lp (zr (fun (n1:Nat) (x1:GNode) (s1:(List GNode))=>(((xi ahead1).bind fun v32=>(yv ((v32).length+(([x1.name]:List zk)).length≤yM) (((wP n x1.subs (v32++([x1.name]:List zk)) is2).bind fun v34=>(lp (zr (fun (n2:Nat) (x2:GLeaf) (s2:(List GLeaf))=>(((is2 (v32++([x1.name]:List zk))).bind fun v49=>(if v49=true then ((pathsXown x2).bind fun v51=>(yv ((s2).length+(([v51]:List GLeaf)).length≤yM) (some (.nxt (s2++([v51]:List GLeaf)))))) else some (.nxt s2))):Option (Out _ (List GLeaf)))) x1.leaves 0 ([]:List GLeaf)) fun (s2:(List GLeaf))=>(if (decide ((IntKind.wrap .i64 (((s2).length:Int)+((v34).length:Int))) > (0:Int)))=true then (yv ((s1).length+(([(GNode.mk x1.name s2 v34)]:List GNode)).length≤yM) (some (.nxt (s1++([(GNode.mk x1.name s2 v34)]:List GNode))))) else some (.nxt s1))))))):Option (Out _ (List GNode)))) t0 0 ([]:List GNode)) fun (s1:(List GNode))=>some s1)
def pathsXkept (t0:(List GNode)) (ahead1:(List zk)) (is2:((List zk)→Option Bool)):Option (List GNode):=anyN fun n=>wP n t0 ahead1 is2
def wQ (t0:(List GNode)) (p1:(List zk)):Option ((List GNode)×Int) :=
 ((vz t0).bind fun v1=>((if ((!v1)==false)=true then xj p1 else some default).bind fun v2=>(if ((!v1) || (!v2))=true then some (([]:List GNode),(2:Int)) else ((pathsXkept t0 ([]:List zk) (fun x0=>pathsSelectC1 x0 p1)).bind fun v4=>some (v4,(0:Int))))))
def diffXlayC2 (x0:GLeaf) (c0:Int):Option Bool :=
 some (x0.typ==c0)
def diffXown (l0:GLeaf):Option GLeaf :=
 ((ym l0.items).bind fun v1=>((yz l0.tombs).bind fun v2=>some (GLeaf.mk l0.typ l0.n l0.time l0.dot l0.text v1 v2)))
/-- slices.SortFunc[[]varve/api.Leaf,varve/api.Leaf]: sortO -/
def slicesSortFuncLeafX:Unit:=()
def qW (x0:GLeaf) (y1:GLeaf):Option Int :=
 ((yV x0.typ y1.typ).bind fun v1=>some v1)
def yO (n0:GNode) (name1:zk):Option Int :=
 ((stringsCompare n0.name name1).bind fun v1=>some v1)
def yK (s0:(List GLeaf)) (del1:(GLeaf→Option Bool)):Option (List GLeaf) :=
 ((zU s0 del1).bind fun v1=>(if (v1==(-1:Int))=true then some s0 else (lp (yr (fun (s1:Int×Int×(List GLeaf))=>((yv ((s1.2.2).length=s0.length) ((if (decide (s1.2.1 < ((s0.length:Nat):Int)))=true then ((yo s1.2.2 s1.2.1).bind fun y14=>((del1 y14).bind fun v15=>(if (!v15)=true then ((yo s1.2.2 s1.1).bind fun y17=>some (.nxt ((IntKind.wrap .i64 (s1.1+(1:Int))),(IntKind.wrap .i64 (s1.2.1+(1:Int))),(s1.2.2.set s1.1.toNat y14)))) else some (.nxt (s1.1,(IntKind.wrap .i64 (s1.2.1+(1:Int))),s1.2.2))))) else some (.brk (s1.1,s1.2.1,s1.2.2))))):Option (Out _ (Int×Int×(List GLeaf))))) (v1,(IntKind.wrap .i64 (v1+(1:Int))),s0)) fun (s1:Int×Int×(List GLeaf))=>(yv (0≤s1.1∧s1.1≤((s0.length:Nat):Int)) (((slc (s1.2.2.take s1.1.toNat++List.replicate (s0.length - s1.1.toNat) zLf) (0:Int) s1.1).bind fun m19=>some m19))))))
def yQ:Nat→(t0:(List GNode))→(path1:(List zk))→(kind2:Int)→(l3:GLeaf)→(there4:Bool)→Option (List GNode)
 | 0,_,_,_,_,_=>none
 | n+1,t0,path1,kind2,l3,there4=>((yo path1 (0:Int)).bind fun y1=>((zj t0 y1 (fun x0 x1=>yO x0 x1)).bind fun v2=>((yo path1 (0:Int)).bind fun y3=>(lp ((if v2.2=true then ((yo t0 v2.1).bind fun y7=>some (.inr (y7.name,y7.leaves,y7.subs))) else some (.inr (y3,([]:List GLeaf),([]:List GNode)))):Option (_ ⊕ (zk×(List GLeaf)×(List GNode)))) fun (s1:zk×(List GLeaf)×(List GNode))=>(lp ((if (decide (((path1).length:Int) > (1:Int)))=true then ((slc path1 (1:Int) ((path1).length:Int)).bind fun m20=>((yQ n s1.2.2 m20 kind2 l3 there4).bind fun v21=>some (.inr (s1.2.1,v21)))) else ((yU s1.2.1).bind fun v22=>((yK v22 (fun x0=>diffXlayC2 x0 kind2)).bind fun v23=>(if there4=true then ((diffXown l3).bind fun v25=>(yv ((v23).length+(([v25]:List GLeaf)).length≤yM) (((sortO (fun x y=>qW x y) (v23++([v25]:List GLeaf))).bind fun v27=>some (.inr (v27,s1.2.2)))))) else some (.inr (v23,s1.2.2)))))):Option (_ ⊕ ((List GLeaf)×(List GNode)))) fun (s2:(List GLeaf)×(List GNode))=>((slc t0 (0:Int) v2.1).bind fun m28=>((yg m28).bind fun v29=>(if (decide ((IntKind.wrap .i64 (((s2.1).length:Int)+((s2.2).length:Int))) > (0:Int)))=true then (yv ((v29).length+(([(GNode.mk s1.1 s2.1 s2.2)]:List GNode)).length≤yM) ((if v2.2=true then ((slc t0 (IntKind.wrap .i64 (v2.1+(1:Int))) ((t0).length:Int)).bind fun m35=>(yv (((v29++([(GNode.mk s1.1 s2.1 s2.2)]:List GNode))).length+(m35).length≤yM) (some ((v29++([(GNode.mk s1.1 s2.1 s2.2)]:List GNode))++m35)))) else ((slc t0 v2.1 ((t0).length:Int)).bind fun m37=>(yv (((v29++([(GNode.mk s1.1 s2.1 s2.2)]:List GNode))).length+(m37).length≤yM) (some ((v29++([(GNode.mk s1.1 s2.1 s2.2)]:List GNode))++m37))))))) else (if v2.2=true then ((slc t0 (IntKind.wrap .i64 (v2.1+(1:Int))) ((t0).length:Int)).bind fun m40=>(yv ((v29).length+(m40).length≤yM) (some (v29++m40)))) else ((slc t0 v2.1 ((t0).length:Int)).bind fun m42=>(yv ((v29).length+(m42).length≤yM) (some (v29++m42)))))))))))))
def diffXlay (t0:(List GNode)) (path1:(List zk)) (kind2:Int) (l3:GLeaf) (there4:Bool):Option (List GNode):=anyN fun n=>yQ n t0 path1 kind2 l3 there4
def diffPatch (t0:(List GNode)) (l1:(List GEdit)):Option ((List GNode)×Int) :=
 ((vz t0).bind fun v1=>((if ((!v1)==false)=true then diffMay l1 else some default).bind fun v2=>(if ((!v1) || (!v2))=true then some (([]:List GNode),(2:Int)) else ((wQ t0 ([([42,42]:zk)]:List zk)).bind fun v4=>(lp (zr (fun (n1:Nat) (x1:GEdit) (s1:(List GNode))=>(((xA t0 x1.path x1.typ).bind fun v14=>((if (((!(v14.2==x1.had))==false)&&(v14.2==true))=true then wd v14.1 x1.was else some default).bind fun v15=>(if ((!(v14.2==x1.had)) || (v14.2&&(!v15)))=true then some (.ret (([]:List GNode),(16:Int))) else ((diffXlay s1 x1.path x1.typ x1.is x1.has).bind fun v17=>some (.nxt v17))))):Option (Out _ (List GNode)))) l1 0 v4.1) fun (s1:(List GNode))=>some (s1,(0:Int)))))))
def schemaFit (l0:(List GField)) (t1:(List GNode)):Option ((List GNode)×Int) :=
 ((vS l0).bind fun v1=>((if ((!v1)==false)=true then vz t1 else some default).bind fun v2=>(if ((!v1) || (!v2))=true then some (([]:List GNode),(2:Int)) else ((pathsRows t1).bind fun v4=>(lp (zr (fun (n1:Nat) (x1:GRow) (s1:(List GEdit))=>(((xu l0 x1.path x1.leaf).bind fun v13=>(if (v13==(0:Int))=true then (yv ((s1).length+(([(GEdit.mk x1.path x1.leaf.typ false true zLf x1.leaf)]:List GEdit)).length≤yM) (some (.nxt (s1++([(GEdit.mk x1.path x1.leaf.typ false true zLf x1.leaf)]:List GEdit))))) else some (.nxt s1))):Option (Out _ (List GEdit)))) v4 0 ([]:List GEdit)) fun (s1:(List GEdit))=>((diffPatch ([]:List GNode) s1).bind fun v16=>some (v16.1,v16.2)))))))
def ref05Same (a0:GLeaf) (b1:GLeaf):Option Bool :=
 (if (((((((a0.typ != b1.typ) || (a0.n != b1.n)) || (a0.time != b1.time)) || (!(a0.dot.actor.rep==b1.dot.actor.rep&&(a0.dot.actor.inc==b1.dot.actor.inc&&(a0.dot.seq==b1.dot.seq&&true))))) || (!(a0.text==b1.text))) || (((a0.items).length:Int) != ((b1.items).length:Int))) || (((a0.tombs).length:Int) != ((b1.tombs).length:Int)))=true then some false else (lp (zr (fun (n1:Nat) (x1:GItem) (s1:Unit)=>(((yo b1.items (n1:Int)).bind fun y32=>(if (!(x1.time==y32.time&&(x1.dot.actor.rep==y32.dot.actor.rep&&(x1.dot.actor.inc==y32.dot.actor.inc&&(x1.dot.seq==y32.dot.seq&&(x1.text==y32.text&&true))))))=true then some (.ret false) else some (.nxt ()))):Option (Out _ Unit))) a0.items 0 ()) fun (s1:Unit)=>(lp (zr (fun (n2:Nat) (x2:GDot) (s2:Unit)=>(((yo b1.tombs (n2:Int)).bind fun y60=>(if (!(x2.actor.rep==y60.actor.rep&&(x2.actor.inc==y60.actor.inc&&(x2.seq==y60.seq&&true))))=true then some (.ret false) else some (.nxt ()))):Option (Out _ Unit))) a0.tombs 0 ()) fun (s2:Unit)=>some true)))
def vE:Nat→(a0:(List GNode))→(b1:(List GNode))→Option Bool
 | 0,_,_=>none
 | n+1,a0,b1=>(if (((a0).length:Int) != ((b1).length:Int))=true then some false else (lp (zr (fun (n1:Nat) (x1:GNode) (s1:Unit)=>(((yo b1 (n1:Int)).bind fun y41=>(yv (((!(x1.name==y41.name))==false)=true→0≤(n1:Int)∧(n1:Int) < ((a0).length:Int)) ((yv (((!(x1.name==y41.name))==false)=true→0≤(n1:Int)∧(n1:Int) < ((b1).length:Int)) ((yv ((((!(x1.name==y41.name)) || (((((a0).getD (n1:Int).toNat default).leaves).length:Int) != ((((b1).getD (n1:Int).toNat default).leaves).length:Int)))==false)=true→0≤(n1:Int)∧(n1:Int) < ((a0).length:Int)) ((yv ((((!(x1.name==y41.name)) || (((((a0).getD (n1:Int).toNat default).leaves).length:Int) != ((((b1).getD (n1:Int).toNat default).leaves).length:Int)))==false)=true→0≤(n1:Int)∧(n1:Int) < ((b1).length:Int)) (((if (((!(x1.name==y41.name)) || (((((a0).getD (n1:Int).toNat default).leaves).length:Int) != ((((b1).getD (n1:Int).toNat default).leaves).length:Int)))==false)=true then vE n (((a0).getD (n1:Int).toNat default).subs) (((b1).getD (n1:Int).toNat default).subs) else some default).bind fun v48=>(if (((!(x1.name==y41.name)) || (((((a0).getD (n1:Int).toNat default).leaves).length:Int) != ((((b1).getD (n1:Int).toNat default).leaves).length:Int))) || (!v48))=true then some (.ret false) else (lp (zr (fun (n2:Nat) (x2:GLeaf) (s2:Unit)=>(((yo b1 (n1:Int)).bind fun y60=>((yo y60.leaves (n2:Int)).bind fun y61=>((ref05Same x2 y61).bind fun v62=>(if (!v62)=true then some (.ret (.ret false)) else some (.nxt ()))))):Option (Out _ Unit))) x1.leaves 0 ()) fun (s2:Unit)=>some (.nxt ()))))))))))))):Option (Out _ Unit))) a0 0 ()) fun (s1:Unit)=>some true))
def ref07Same (a0:(List GNode)) (b1:(List GNode)):Option Bool:=anyN fun n=>vE n a0 b1
def ref05Lay (l0:(List GItem)) (x1:GItem):Option (List GItem) :=
 ((ref05Item l0 x1.dot).bind fun v1=>(if (decide (v1 ≥ (0:Int)))=true then (yv ((([]:List GItem)).length+(l0).length≤yM) (some (([]:List GItem)++l0))) else (lp (yr (fun (s1:(List GItem)×Int)=>((yv (((decide (s1.2 < ((l0).length:Int)))==true)=true→0≤s1.2∧s1.2 < ((l0).length:Int)) ((yv (((decide (s1.2 < ((l0).length:Int)))==true)=true→0≤s1.2∧s1.2 < ((l0).length:Int)) (((if ((decide (s1.2 < ((l0).length:Int)))==true)=true then wN (((l0).getD s1.2.toNat default).time) (((l0).getD s1.2.toNat default).dot) x1.time x1.dot else some default).bind fun v21=>(if ((decide (s1.2 < ((l0).length:Int)))&&v21)=true then ((yo l0 s1.2).bind fun y23=>(yv ((s1.1).length+(([y23]:List GItem)).length≤yM) (some (.nxt ((s1.1++([y23]:List GItem)),(IntKind.wrap .i64 (s1.2+(1:Int)))))))) else some (.brk (s1.1,s1.2)))))))):Option (Out _ ((List GItem)×Int)))) (([]:List GItem),(0:Int))) fun (s1:(List GItem)×Int)=>(yv ((s1.1).length+(([x1]:List GItem)).length≤yM) (((slc l0 s1.2 ((l0).length:Int)).bind fun m26=>(yv (((s1.1++([x1]:List GItem))).length+(m26).length≤yM) (some ((s1.1++([x1]:List GItem))++m26)))))))))
def ref05Bury (l0:(List GDot)) (d1:GDot):Option (List GDot) :=
 ((va l0 d1).bind fun v1=>(if v1=true then some l0 else (lp (yr (fun (s1:(List GDot)×Int)=>((yv (((decide (s1.2 < ((l0).length:Int)))==true)=true→0≤s1.2∧s1.2 < ((l0).length:Int)) (((if ((decide (s1.2 < ((l0).length:Int)))==true)=true then vd ((l0).getD s1.2.toNat default) d1 else some default).bind fun v16=>(if ((decide (s1.2 < ((l0).length:Int)))&&v16)=true then ((yo l0 s1.2).bind fun y18=>(yv ((s1.1).length+(([y18]:List GDot)).length≤yM) (some (.nxt ((s1.1++([y18]:List GDot)),(IntKind.wrap .i64 (s1.2+(1:Int)))))))) else some (.brk (s1.1,s1.2)))))):Option (Out _ ((List GDot)×Int)))) (([]:List GDot),(0:Int))) fun (s1:(List GDot)×Int)=>(yv ((s1.1).length+(([d1]:List GDot)).length≤yM) (((slc l0 s1.2 ((l0).length:Int)).bind fun m21=>(yv (((s1.1++([d1]:List GDot))).length+(m21).length≤yM) (some ((s1.1++([d1]:List GDot))++m21)))))))))
def ref05Left (l0:(List GItem)) (tombs1:(List GDot)):Option (List GItem) :=
 (lp (zr (fun (n1:Nat) (x1:GItem) (s1:(List GItem))=>(((va tombs1 x1.dot).bind fun v12=>(if (!v12)=true then (yv ((s1).length+(([x1]:List GItem)).length≤yM) (some (.nxt (s1++([x1]:List GItem))))) else some (.nxt s1))):Option (Out _ (List GItem)))) l0 0 ([]:List GItem)) fun (s1:(List GItem))=>some s1)
def ref04MayPath (p0:(List zk)):Option Bool :=
 (lp (zr (fun (n1:Nat) (x1:zk) (s1:Unit)=>(((vV x1).bind fun v9=>(if (!v9)=true then some (.ret false) else some (.nxt ()))):Option (Out _ Unit))) p0 0 ()) fun (s1:Unit)=>some ((decide (((p0).length:Int) ≥ (1:Int)))&&(decide (((p0).length:Int)≤(3:Int)))))
def qK (kind0:Int):Option Int :=
 (if (kind0==(1:Int))=true then some (1:Int) else (if (kind0==(2:Int))=true then some (2:Int) else (if (kind0==(3:Int))=true then (if (kind0==(3:Int))=true then some (3:Int) else (if (kind0==(5:Int))=true then some (4:Int) else some (0:Int))) else (if (kind0==(4:Int))=true then some (3:Int) else (if (kind0==(5:Int))=true then some (4:Int) else some (0:Int))))))
def ref04May (o0:GOp):Option Bool :=
 ((qK o0.kind).bind fun v1=>((if ((v1==(0:Int))==false)=true then ref04MayPath o0.path else some default).bind fun v2=>(if ((((v1==(0:Int)) || (!v2)) || (decide (((o0.text).length:Int) > (40:Int)))) || (decide (((o0.dots).length:Int) > (64:Int))))=true then some false else (if (o0.kind==(1:Int))=true then some ((((decide (o0.n ≥ (-1000000:Int)))&&(decide (o0.n≤(1000000:Int))))&&(o0.text==([]:zk)))&&(((o0.dots).length:Int)==(0:Int))) else (if ((o0.n != (0:Int)) || ((o0.kind != (4:Int))&&(decide (((o0.dots).length:Int) > (0:Int)))))=true then some false else (lp (zr (fun (n1:Nat) (x1:GDot) (s1:Unit)=>(((ql x1).bind fun v26=>(yv ((((!v26)==false)&&((decide ((n1:Int) > (0:Int)))==true))=true→0≤(IntKind.wrap .i64 ((n1:Int) - (1:Int)))∧(IntKind.wrap .i64 ((n1:Int) - (1:Int))) < ((o0.dots).length:Int)) ((yv ((((!v26)==false)&&((decide ((n1:Int) > (0:Int)))==true))=true→0≤(n1:Int)∧(n1:Int) < ((o0.dots).length:Int)) (((if (((!v26)==false)&&((decide ((n1:Int) > (0:Int)))==true))=true then vd ((o0.dots).getD (IntKind.wrap .i64 ((n1:Int) - (1:Int))).toNat default) ((o0.dots).getD (n1:Int).toNat default) else some default).bind fun v29=>(if ((!v26) || ((decide ((n1:Int) > (0:Int)))&&(!v29)))=true then some (.ret false) else some (.nxt ())))))))):Option (Out _ Unit))) o0.dots 0 ()) fun (s1:Unit)=>some true))))))
def wC (e0:GEvent):Option Bool :=
 ((ql e0.dot).bind fun v1=>((if (((v1&&(decide (e0.time ≥ (1:Int))))&&(decide (e0.time≤(1099511627776:Int))))==true)=true then ref04May e0.op else some default).bind fun v2=>some (((v1&&(decide (e0.time ≥ (1:Int))))&&(decide (e0.time≤(1099511627776:Int))))&&v2)))
def ref05Apply (l0:GLeaf) (e1:GEvent):Option (GLeaf×Int) :=
 ((ref05May l0).bind fun v1=>((if ((!v1)==false)=true then wC e1 else some default).bind fun v2=>(if ((!v1) || (!v2))=true then some (zLf,(2:Int)) else ((qK e1.op.kind).bind fun v4=>(if (v4 != l0.typ)=true then some (zLf,(15:Int)) else (if (e1.op.kind==(1:Int))=true then some ((GLeaf.mk l0.typ (IntKind.wrap .i64 (l0.n+e1.op.n)) l0.time l0.dot l0.text l0.items l0.tombs),(0:Int)) else (if (e1.op.kind==(2:Int))=true then ((if ((l0.time==(0:Int))==false)=true then wN l0.time l0.dot e1.time e1.dot else some default).bind fun v8=>(if ((l0.time==(0:Int)) || v8)=true then some ((GLeaf.mk l0.typ l0.n e1.time e1.dot e1.op.text l0.items l0.tombs),(0:Int)) else some (l0,(0:Int)))) else (if (e1.op.kind==(3:Int))=true then ((va l0.tombs e1.dot).bind fun v11=>(if (!v11)=true then ((ref05Lay l0.items (GItem.mk (0:Int) e1.dot e1.op.text)).bind fun v13=>some ((GLeaf.mk l0.typ l0.n l0.time l0.dot l0.text v13 l0.tombs),(0:Int))) else some (l0,(0:Int)))) else (if (e1.op.kind==(4:Int))=true then (lp (zr (fun (n1:Nat) (x1:GDot) (s1:(List GDot))=>(((ref05Bury s1 x1).bind fun v49=>some (.nxt v49)):Option (Out _ (List GDot)))) e1.op.dots 0 l0.tombs) fun (s1:(List GDot))=>((ref05Left l0.items s1).bind fun v50=>some ((GLeaf.mk l0.typ l0.n l0.time l0.dot l0.text v50 s1),(0:Int)))) else (if (e1.op.kind==(5:Int))=true then ((ref05Lay l0.items (GItem.mk e1.time e1.dot e1.op.text)).bind fun v52=>some ((GLeaf.mk l0.typ l0.n l0.time l0.dot l0.text v52 l0.tombs),(0:Int))) else some (l0,(0:Int))))))))))))
def xL:Nat→(t0:(List GNode))→(path1:(List zk))→(l2:GLeaf)→Option (List GNode)
 | 0,_,_,_=>none
 | n+1,t0,path1,l2=>(lp (yr (fun (s1:(List GNode)×Int)=>((yv (((decide (s1.2 < ((t0).length:Int)))==true)=true→0≤s1.2∧s1.2 < ((t0).length:Int)) ((yv (((decide (s1.2 < ((t0).length:Int)))==true)=true→0≤(0:Int)∧(0:Int) < ((path1).length:Int)) ((if ((decide (s1.2 < ((t0).length:Int)))&&(Op.bytesLess (((t0).getD s1.2.toNat default).name) ((path1).getD (0:Int).toNat default)))=true then ((yo t0 s1.2).bind fun y22=>(yv ((s1.1).length+(([y22]:List GNode)).length≤yM) (some (.nxt ((s1.1++([y22]:List GNode)),(IntKind.wrap .i64 (s1.2+(1:Int)))))))) else some (.brk (s1.1,s1.2))))))):Option (Out _ ((List GNode)×Int)))) (([]:List GNode),(0:Int))) fun (s1:(List GNode)×Int)=>((yo path1 (0:Int)).bind fun y24=>(lp ((yv (((decide (s1.2 < ((t0).length:Int)))==true)=true→0≤s1.2∧s1.2 < ((t0).length:Int)) ((yv (((decide (s1.2 < ((t0).length:Int)))==true)=true→0≤(0:Int)∧(0:Int) < ((path1).length:Int)) ((if ((decide (s1.2 < ((t0).length:Int)))&&(((t0).getD s1.2.toNat default).name==((path1).getD (0:Int).toNat default)))=true then ((yo t0 s1.2).bind fun y34=>some (.inr ((IntKind.wrap .i64 (s1.2+(1:Int))),y34.name,y34.leaves,y34.subs))) else some (.inr (s1.2,y24,([]:List GLeaf),([]:List GNode)))))))):Option (_ ⊕ (Int×zk×(List GLeaf)×(List GNode)))) fun (s2:Int×zk×(List GLeaf)×(List GNode))=>(if (decide (((path1).length:Int) > (1:Int)))=true then ((slc path1 (1:Int) ((path1).length:Int)).bind fun m37=>((xL n s2.2.2.2 m37 l2).bind fun v38=>(yv ((s1.1).length+(([(GNode.mk s2.2.1 s2.2.2.1 v38)]:List GNode)).length≤yM) (((slc t0 s2.1 ((t0).length:Int)).bind fun m40=>(yv (((s1.1++([(GNode.mk s2.2.1 s2.2.2.1 v38)]:List GNode))).length+(m40).length≤yM) (some ((s1.1++([(GNode.mk s2.2.1 s2.2.2.1 v38)]:List GNode))++m40)))))))) else (lp (yr (fun (s3:(List GLeaf)×Int)=>((yv (((decide (s3.2 < ((s2.2.2.1).length:Int)))==true)=true→0≤s3.2∧s3.2 < ((s2.2.2.1).length:Int)) ((if ((decide (s3.2 < ((s2.2.2.1).length:Int)))&&(decide (((s2.2.2.1).getD s3.2.toNat default).typ < l2.typ)))=true then ((yo s2.2.2.1 s3.2).bind fun y64=>(yv ((s3.1).length+(([y64]:List GLeaf)).length≤yM) (some (.nxt ((s3.1++([y64]:List GLeaf)),(IntKind.wrap .i64 (s3.2+(1:Int)))))))) else some (.brk (s3.1,s3.2))))):Option (Out _ ((List GLeaf)×Int)))) (([]:List GLeaf),(0:Int))) fun (s3:(List GLeaf)×Int)=>(yv (((decide (s3.2 < ((s2.2.2.1).length:Int)))==true)=true→0≤s3.2∧s3.2 < ((s2.2.2.1).length:Int)) ((if ((decide (s3.2 < ((s2.2.2.1).length:Int)))&&(((s2.2.2.1).getD s3.2.toNat default).typ==l2.typ))=true then (yv ((s3.1).length+(([l2]:List GLeaf)).length≤yM) (((slc s2.2.2.1 (IntKind.wrap .i64 (s3.2+(1:Int))) ((s2.2.2.1).length:Int)).bind fun m70=>(yv (((s3.1++([l2]:List GLeaf))).length+(m70).length≤yM) ((yv ((s1.1).length+(([(GNode.mk s2.2.1 ((s3.1++([l2]:List GLeaf))++m70) s2.2.2.2)]:List GNode)).length≤yM) (((slc t0 s2.1 ((t0).length:Int)).bind fun m73=>(yv (((s1.1++([(GNode.mk s2.2.1 ((s3.1++([l2]:List GLeaf))++m70) s2.2.2.2)]:List GNode))).length+(m73).length≤yM) (some ((s1.1++([(GNode.mk s2.2.1 ((s3.1++([l2]:List GLeaf))++m70) s2.2.2.2)]:List GNode))++m73))))))))))) else (yv ((s3.1).length+(([l2]:List GLeaf)).length≤yM) (((slc s2.2.2.1 s3.2 ((s2.2.2.1).length:Int)).bind fun m76=>(yv (((s3.1++([l2]:List GLeaf))).length+(m76).length≤yM) ((yv ((s1.1).length+(([(GNode.mk s2.2.1 ((s3.1++([l2]:List GLeaf))++m76) s2.2.2.2)]:List GNode)).length≤yM) (((slc t0 s2.1 ((t0).length:Int)).bind fun m79=>(yv (((s1.1++([(GNode.mk s2.2.1 ((s3.1++([l2]:List GLeaf))++m76) s2.2.2.2)]:List GNode))).length+(m79).length≤yM) (some ((s1.1++([(GNode.mk s2.2.1 ((s3.1++([l2]:List GLeaf))++m76) s2.2.2.2)]:List GNode))++m79)))))))))))))))))))
def ref07Lay (t0:(List GNode)) (path1:(List zk)) (l2:GLeaf):Option (List GNode):=anyN fun n=>xL n t0 path1 l2
def ref05New (kind0:Int):Option GLeaf :=
 (if ((decide (kind0 ≥ (1:Int)))&&(decide (kind0≤(4:Int))))=true then some (GLeaf.mk kind0 (0:Int) (0:Int) (GDot.mk (GActor.mk (0:Int) (0:Int)) (0:Int)) ([]:zk) ([]:List GItem) ([]:List GDot)) else some zLf)
def qH (t0:(List GNode)) (name1:zk):Option (GNode×Bool) :=
 (lp (zr (fun (n1:Nat) (x1:GNode) (s1:Unit)=>((if (x1.name==name1)=true then some (.ret (x1,true)) else some (.nxt ())):Option (Out _ Unit))) t0 0 ()) fun (s1:Unit)=>some ((GNode.mk ([]:zk) ([]:List GLeaf) ([]:List GNode)),false))
def qI (t0:(List GNode)) (path1:(List zk)) (kind2:Int):Option (GLeaf×Bool) :=
 ((ref05New kind2).bind fun v1=>(lp (zr (fun (n1:Nat) (x1:zk) (s1:(List GNode)×zk×(List GLeaf)×(List GNode))=>(((qH s1.1 x1).bind fun v32=>(if (!v32.2)=true then some (.ret (v1,false)) else some (.nxt (v32.1.subs,v32.1.name,v32.1.leaves,v32.1.subs)))):Option (Out _ ((List GNode)×zk×(List GLeaf)×(List GNode))))) path1 0 (t0,([]:zk),([]:List GLeaf),([]:List GNode))) fun (s1:(List GNode)×zk×(List GLeaf)×(List GNode))=>(lp (yr (fun (s2:Int)=>((if (((decide (s2 < ((s1.2.2.1).length:Int)))&&(decide (kind2 ≥ (1:Int))))&&(decide (kind2≤(4:Int))))=true then ((yo s1.2.2.1 s2).bind fun y63=>(if (y63.typ==kind2)=true then ((yo s1.2.2.1 s2).bind fun y65=>some (.ret (y65,true))) else some (.nxt (IntKind.wrap .i64 (s2+(1:Int)))))) else some (.brk s2)):Option (Out _ Int))) (0:Int)) fun (s2:Int)=>some (v1,false))))
def qJ (t0:(List GNode)) (e1:GEvent):Option ((List GNode)×Int) :=
 ((ref07May t0).bind fun v1=>((if ((!v1)==false)=true then wC e1 else some default).bind fun v2=>(if ((!v1) || (!v2))=true then some (([]:List GNode),(2:Int)) else ((qK e1.op.kind).bind fun v4=>((qI t0 e1.op.path v4).bind fun v5=>((ref05Apply v5.1 e1).bind fun v6=>(if (v6.2 != (0:Int))=true then some (([]:List GNode),v6.2) else ((ref07Lay t0 e1.op.path v6.1).bind fun v8=>some (v8,(0:Int))))))))))
def we (l0:(List GField)) (t1:(List GNode)) (e2:GEvent):Option Bool :=
 ((law43Xgreat l0 t1 e2.op).bind fun v1=>((if (v1==false)=true then vS l0 else some default).bind fun v2=>((if ((v1 || (!v2))==false)=true then ref07May t1 else some default).bind fun v3=>(if ((v1 || (!v2)) || (!v3))=true then ((wU).bind fun v5=>some v5) else ((schemaFit l0 t1).bind fun v6=>((xQ l0 v6.1).bind fun v7=>((schemaFit l0 v6.1).bind fun v8=>((if (((((v6.2 != (0:Int)) || (v7.2 != (0:Int))) || (v8.2 != (0:Int))) || (((v7.1).length:Int) != (0:Int)))==false)=true then ref07Same v8.1 v6.1 else some default).bind fun v10=>(if (((((v6.2 != (0:Int)) || (v7.2 != (0:Int))) || (v8.2 != (0:Int))) || (((v7.1).length:Int) != (0:Int))) || (!v10))=true then some false else ((xp l0 v6.1 e2).bind fun v12=>(if (v12 != (0:Int))=true then ((wU).bind fun v14=>some v14) else ((qJ v6.1 e2).bind fun v15=>((xQ l0 v15.1).bind fun v16=>((if ((((v15.2==(0:Int))&&(v16.2==(0:Int)))&&(((v16.1).length:Int)==(0:Int)))==true)=true then wU else some default).bind fun v18=>some ((((v15.2==(0:Int))&&(v16.2==(0:Int)))&&(((v16.1).length:Int)==(0:Int)))&&v18)))))))))))))))
end
end Go.Vv
