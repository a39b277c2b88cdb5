/- What the functions compute, as plain functions; printed by a program from the code. -/
import Derived.Test.YtehifcdoglcidaaGreatVvY
import Derived.Test.YtehifcdoglcidaaGreatVvZ
import Derived.Test.YtehifcdoglcidaaGreatVvLb
import Derived.Test.YtehifcdoglcidaaGreatVvMr
import Derived.Test.YtehifcdoglcidaaGreatVvIt
import Derived.Test.YtehifcdoglcidaaGreatVvMl
import Derived.Test.YtehifcdoglcidaaGreatVvRb
import Derived.Test.YtehifcdoglcidaaGreatVvSo
namespace Go.Vv
noncomputable section
open Go
set_option linter.unusedVariables false
structure GActor where
 rep:Int
 inc:Int
 deriving DecidableEq,Inhabited
def GActor.eqb (a b:GActor):Bool:=(a.rep==b.rep&&(a.inc==b.inc&&true))
structure GDot where
 actor:GActor
 seq:Int
 deriving DecidableEq,Inhabited
def GDot.eqb (a b:GDot):Bool:=(a.actor.rep==b.actor.rep&&(a.actor.inc==b.actor.inc&&(a.seq==b.seq&&true)))
structure GItem where
 time:Int
 dot:GDot
 text:zn
 deriving DecidableEq,Inhabited
def GItem.eqb (a b:GItem):Bool:=(a.time==b.time&&(a.dot.actor.rep==b.dot.actor.rep&&(a.dot.actor.inc==b.dot.actor.inc&&(a.dot.seq==b.dot.seq&&(a.text==b.text&&true)))))
structure GLeaf where
 typ:Int
 n:Int
 time:Int
 dot:GDot
 text:zn
 items:(List GItem)
 tombs:(List GDot)
 deriving DecidableEq,Inhabited
structure GNode where
 name:zn
 leaves:(List GLeaf)
 subs:(List GNode)
 deriving Inhabited
structure GQuota where
 name:zn
 leaves:Int
 items:Int
 tombs:Int
 bytes:Int
 deriving DecidableEq,Inhabited
def GQuota.eqb (a b:GQuota):Bool:=(a.name==b.name&&(a.leaves==b.leaves&&(a.items==b.items&&(a.tombs==b.tombs&&(a.bytes==b.bytes&&true)))))
structure GOp where
 kind:Int
 path:(List zn)
 n:Int
 text:zn
 dots:(List GDot)
 deriving DecidableEq,Inhabited
structure GRow where
 path:(List zn)
 leaf:GLeaf
 deriving DecidableEq,Inhabited
structure GOpKind where
 leaf:Int
 may:Nat
 deriving DecidableEq,Inhabited
structure GEvent where
 dot:GDot
 time:Int
 op:GOp
 deriving DecidableEq,Inhabited
structure GField where
 path:(List zn)
 types:Int
 min:Int
 max:Int
 items:Int
 deriving DecidableEq,Inhabited
structure GBreach where
 path:(List zn)
 typ:Int
 e:Int
 deriving DecidableEq,Inhabited
structure GVarveref07Row where
 path:(List zn)
 l:GLeaf
 deriving DecidableEq,Inhabited
structure GEdit where
 path:(List zn)
 typ:Int
 had:Bool
 has:Bool
 was:GLeaf
 is:GLeaf
 deriving DecidableEq,Inhabited
def GActor.wf (x:GActor):Prop:=(InK .u8 x.rep)/\(InK .u32 x.inc)
def GDot.wf (x:GDot):Prop:=(GActor.wf x.actor)/\(InK .u64 x.seq)
def GItem.wf (x:GItem):Prop:=(InK .u64 x.time)/\(GDot.wf x.dot)/\(x.text.length<=maxLen)
def GLeaf.wf (x:GLeaf):Prop:=(InK .u8 x.typ)/\(InK .i64 x.n)/\(InK .u64 x.time)/\(GDot.wf x.dot)/\(x.text.length<=maxLen)/\(x.items.length<=maxLen/\∀y ∈ x.items,GItem.wf y)/\(x.tombs.length<=maxLen/\∀y ∈ x.tombs,GDot.wf y)
mutual
def GNode.wf:GNode->Prop
 | ⟨name,leaves,subs⟩=>(name.length<=maxLen)/\(leaves.length<=maxLen/\∀y ∈ leaves,GLeaf.wf y)/\(GNode.wfs subs)
def GNode.wfs:List GNode->Prop
 | []=>True
 | x::r=>x.wf/\GNode.wfs r
end
theorem GNode.wfs_iff (l:List GNode):GNode.wfs l ↔ ∀y ∈ l,GNode.wf y:=by
 induction l with
 | nil=>simp [GNode.wfs]
 | cons x r ih=>simp [GNode.wfs,ih]
def GQuota.wf (x:GQuota):Prop:=(x.name.length<=maxLen)/\(InK .i64 x.leaves)/\(InK .i64 x.items)/\(InK .i64 x.tombs)/\(InK .i64 x.bytes)
def GOp.wf (x:GOp):Prop:=(InK .u8 x.kind)/\(x.path.length<=maxLen/\∀y ∈ x.path,y.length<=maxLen)/\(InK .i64 x.n)/\(x.text.length<=maxLen)/\(x.dots.length<=maxLen/\∀y ∈ x.dots,GDot.wf y)
def GRow.wf (x:GRow):Prop:=(x.path.length<=maxLen/\∀y ∈ x.path,y.length<=maxLen)/\(GLeaf.wf x.leaf)
def GEvent.wf (x:GEvent):Prop:=(GDot.wf x.dot)/\(InK .u64 x.time)/\(GOp.wf x.op)
def GActor.bk (x:GActor):Nat:=(1+(1+0))+1
def GDot.bk (x:GDot):Nat:=(GActor.bk x.actor+(1+0))+1
def GItem.bk (x:GItem):Nat:=(1+(GDot.bk x.dot+((x.text.length+1)+0)))+1
def GLeaf.bk (x:GLeaf):Nat:=(1+(1+(1+(GDot.bk x.dot+((x.text.length+1)+(((x.items.map GItem.bk).sum+1)+(((x.tombs.map GDot.bk).sum+1)+0)))))))+1
mutual
def GNode.bk:GNode->Nat
 | ⟨name,leaves,subs⟩=>((name.length+1)+(((leaves.map GLeaf.bk).sum+1)+(((GNode.bks subs)+1)+0)))+1
def GNode.bks:List GNode->Nat
 | []=>0
 | x::r=>x.bk+GNode.bks r
end
theorem GNode.bks_eq (l:List GNode):GNode.bks l=(l.map GNode.bk).sum:=by
 induction l with
 | nil=>rfl
 | cons x r ih=>simp only [GNode.bks,List.map_cons,List.sum_cons,ih]
def GQuota.bk (x:GQuota):Nat:=((x.name.length+1)+(1+(1+(1+(1+0)))))+1
def GOp.bk (x:GOp):Nat:=(1+(((x.path.map (λs=>s.length+1)).sum+1)+(1+((x.text.length+1)+(((x.dots.map GDot.bk).sum+1)+0)))))+1
def GRow.bk (x:GRow):Nat:=(((x.path.map (λs=>s.length+1)).sum+1)+(GLeaf.bk x.leaf+0))+1
def GEvent.bk (x:GEvent):Nat:=(GDot.bk x.dot+(1+(GOp.bk x.op+0)))+1
def GField.wf (x:GField):Prop:=(x.path.length<=maxLen/\∀y ∈ x.path,y.length<=maxLen)/\(InK .u8 x.types)/\(InK .i64 x.min)/\(InK .i64 x.max)/\(InK .i64 x.items)
def GBreach.wf (x:GBreach):Prop:=(x.path.length<=maxLen/\∀y ∈ x.path,y.length<=maxLen)/\(InK .u8 x.typ)/\(InK .i64 x.e)
def GVarveref07Row.wf (x:GVarveref07Row):Prop:=(x.path.length<=maxLen/\∀y ∈ x.path,y.length<=maxLen)/\(GLeaf.wf x.l)
def GEdit.wf (x:GEdit):Prop:=(x.path.length<=maxLen/\∀y ∈ x.path,y.length<=maxLen)/\(InK .u8 x.typ)/\(True)/\(True)/\(GLeaf.wf x.was)/\(GLeaf.wf x.is)
def GField.bk (x:GField):Nat:=(((x.path.map (λs=>s.length+1)).sum+1)+(1+(1+(1+(1+0)))))+1
def GBreach.bk (x:GBreach):Nat:=(((x.path.map (λs=>s.length+1)).sum+1)+(1+(1+0)))+1
def GVarveref07Row.bk (x:GVarveref07Row):Nat:=(((x.path.map (λs=>s.length+1)).sum+1)+(GLeaf.bk x.l+0))+1
def GEdit.bk (x:GEdit):Nat:=(((x.path.map (λs=>s.length+1)).sum+1)+(1+(1+(1+(GLeaf.bk x.was+(GLeaf.bk x.is+0))))))+1
abbrev zLf:GLeaf:=GLeaf.mk (0:Int) (0:Int) (0:Int) (GDot.mk (GActor.mk (0:Int) (0:Int)) (0:Int)) ([]:zn) ([]:List GItem) ([]:List GDot)
def xl:Nat->(t0:(List GNode))->(deep1:Int)->Option Int
 | 0,_,_=>none
 | n+1,t0,deep1=>(lp (yp (λ(s1:Int×Int)=>((if ((decide (s1.2 < ((t0).length:Int)))&&(decide (deep1 < (10:Int))))=true then ((yi t0 s1.2).bind λy68=>((yi t0 s1.2).bind λy70=>((xl n y70.subs (IntKind.wrap .i64 (deep1+(1:Int)))).bind λv71=>(lp (yp (λ(s2:Int×Int)=>(((yi t0 s1.2).bind λy102=>(if (decide (s2.2 < ((y102.leaves).length:Int)))=true then ((yi t0 s1.2).bind λy105=>((yi y105.leaves s2.2).bind λy106=>(lp (zk (λ(n3:Nat) (x3:GItem) (s3:Int)=>(some (.nxt (IntKind.wrap .i64 ((IntKind.wrap .i64 (s3+(1:Int)))+((x3.text).length:Int)))):Option (Out _ Int))) y106.items 0 (IntKind.wrap .i64 ((IntKind.wrap .i64 ((IntKind.wrap .i64 (s2.1+(1:Int)))+((y106.text).length:Int)))+((y106.tombs).length:Int)))) λ(s3:Int)=>some (.nxt (s3,(IntKind.wrap .i64 (s2.2+(1:Int)))))))) else some (.brk (s2.1,s2.2)))):Option (Out _ (Int×Int)))) ((IntKind.wrap .i64 ((IntKind.wrap .i64 ((IntKind.wrap .i64 (s1.1+(1:Int)))+((y68.name).length:Int)))+v71)),(0:Int))) λ(s2:Int×Int)=>some (.nxt (s2.1,(IntKind.wrap .i64 (s1.2+(1:Int))))))))) else some (.brk (s1.1,s1.2))):Option (Out _ (Int×Int)))) ((0:Int),(0:Int))) λ(s1:Int×Int)=>some s1.1)
def ref07Xsize (t0:(List GNode)) (deep1:Int):Option Int:=anyN λn=>xl n t0 deep1
def qv (t0:(List GNode)):Option Bool :=
 ((ref07Xsize t0 (0:Int)).bind λv1=>some (decide (v1 > (1500:Int))))
def law45Xgreat (l0:(List GQuota)) (t1:(List GNode)) (o2:GOp):Option Bool :=
 (lp (zk (λ(n1:Nat) (x1:GQuota) (s1:Unit)=>((if (decide (((x1.name).length:Int) > (40:Int)))=true then some (.ret true) else some (.nxt ())):Option (Out _ Unit))) l0 0 ()) λ(s1:Unit)=>((if ((decide (((l0).length:Int) > (20:Int)))==false)=true then qv t1 else some default).bind λv15=>some (((((decide (((l0).length:Int) > (20:Int))) || v15) || (decide (((o2.dots).length:Int) > (100:Int)))) || (decide (((o2.path).length:Int) > (10:Int)))) || (decide (((o2.text).length:Int) > (200:Int))))))
def zV (s0:(List GQuota)) (f1:(GQuota->Option Bool)):Option Int :=
 (lp (zk (λ(n1:Nat) (x1:GQuota) (s1:Unit)=>(((f1 x1).bind λv7=>(if v7=true then some (.ret (n1:Int)) else some (.nxt ()))):Option (Out _ Unit))) s0 0 ()) λ(s1:Unit)=>some (-1:Int))
def yQ (s0:(List GQuota)) (f1:(GQuota->Option Bool)):Option Bool :=
 ((zV s0 f1).bind λv1=>some (decide (v1 >= (0:Int))))
def meterMayC1 (x0:GQuota) (c0:GQuota):Option Bool :=
 some (x0.name==c0.name)
def wF (s0:zn) (f1:(Int->Option Bool)) (truth2:Bool):Option Int :=
 (lp (yp (λ(s1:Nat)=>((if s1 < (s0).length then ((f1 ((dec s0 s1).1:Int)).bind λv6=>(if (v6==truth2)=true then some (.ret (s1:Int)) else some (.nxt (s1+(dec s0 s1).2)))) else some (.brk s1)):Option (Out _ Nat))) 0) λ(s1:Nat)=>some (-1:Int))
def w9 (s0:zn) (f1:(Int->Option Bool)):Option Int :=
 ((wF s0 f1 true).bind λv1=>some v1)
def xz (s0:zn) (f1:(Int->Option Bool)):Option Bool :=
 ((w9 s0 f1).bind λv1=>some (decide (v1 >= (0:Int))))
def qB (r0:Int):Option Bool :=
 some ((((decide (r0 < (97:Int))) || (decide (r0 > (122:Int))))&&((decide (r0 < (65:Int))) || (decide (r0 > (90:Int)))))&&((decide (r0 < (48:Int))) || (decide (r0 > (57:Int)))))
def qY (s0:zn):Option Bool :=
 ((if (((decide (((s0).length:Int) >= (1:Int)))&&(decide (((s0).length:Int)<=(12:Int))))==true)=true then xz s0 (λx0=>qB x0) else some default).bind λv3=>some (((decide (((s0).length:Int) >= (1:Int)))&&(decide (((s0).length:Int)<=(12:Int))))&&(!v3)))
def meterMay (l0:(List GQuota)):Option Bool :=
 (lp (zk (λ(n1:Nat) (x1:GQuota) (s1:Unit)=>(((slc l0 (0:Int) (n1:Int)).bind λm9=>((yQ m9 (λx0=>meterMayC1 x0 x1)).bind λv10=>((if ((v10==false)&&((!(x1.name==([]:zn)))==true))=true then qY x1.name else some default).bind λv11=>(if ((v10 || ((!(x1.name==([]:zn)))&&(!v11))) || (decide ((if x1.bytes < (if x1.tombs < (if x1.items < x1.leaves then x1.items else x1.leaves) then x1.tombs else (if x1.items < x1.leaves then x1.items else x1.leaves)) then x1.bytes else (if x1.tombs < (if x1.items < x1.leaves then x1.items else x1.leaves) then x1.tombs else (if x1.items < x1.leaves then x1.items else x1.leaves))) < (0:Int))))=true then some (.ret false) else some (.nxt ()))))):Option (Out _ Unit))) l0 0 ()) λ(s1:Unit)=>some true)
def wc (s0:zn):Option Bool :=
 (if ((decide (((s0).length:Int) < (1:Int))) || (decide (((s0).length:Int) > (12:Int))))=true then some false else (lp (zk (λ(n1:Nat) (x1:UInt8) (s1:Unit)=>((if (!((((decide ((x1.toNat:Int) >= (97:Int)))&&(decide ((x1.toNat:Int)<=(122:Int)))) || ((decide ((x1.toNat:Int) >= (65:Int)))&&(decide ((x1.toNat:Int)<=(90:Int))))) || ((decide ((x1.toNat:Int) >= (48:Int)))&&(decide ((x1.toNat:Int)<=(57:Int))))))=true then some (.ret false) else some (.nxt ())):Option (Out _ Unit))) s0 0 ()) λ(s1:Unit)=>some true))
def vn (a0:GActor):Option Bool :=
 some (((decide (a0.rep<=(15:Int)))&&(decide (a0.inc >= (1:Int))))&&(decide (a0.inc<=(4:Int))))
def qa (d0:GDot):Option Bool :=
 ((vn d0.actor).bind λv1=>some ((v1&&(decide (d0.seq >= (1:Int))))&&(decide (d0.seq<=(1048576:Int)))))
def vh (a0:GDot) (b1:GDot):Option Bool :=
 (if (a0.actor.rep != b1.actor.rep)=true then some (decide (a0.actor.rep < b1.actor.rep)) else (if (a0.actor.inc != b1.actor.inc)=true then some (decide (a0.actor.inc < b1.actor.inc)) else some (decide (a0.seq < b1.seq))))
def wN (time0:Int) (d1:GDot) (other2:Int) (o3:GDot):Option Bool :=
 (if (time0 != other2)=true then some (decide (time0 < other2)) else ((vh d1 o3).bind λv2=>some v2))
def vg (l0:(List GDot)) (d1:GDot):Option Bool :=
 (lp (zk (λ(n1:Nat) (x1:GDot) (s1:Unit)=>((if (x1.actor.rep==d1.actor.rep&&(x1.actor.inc==d1.actor.inc&&(x1.seq==d1.seq&&true)))=true then some (.ret true) else some (.nxt ())):Option (Out _ Unit))) l0 0 ()) λ(s1:Unit)=>some false)
def ref05Item (l0:(List GItem)) (d1:GDot):Option Int :=
 (lp (zk (λ(n1:Nat) (x1:GItem) (s1:Unit)=>((if (x1.dot.actor.rep==d1.actor.rep&&(x1.dot.actor.inc==d1.actor.inc&&(x1.dot.seq==d1.seq&&true)))=true then some (.ret (n1:Int)) else some (.nxt ())):Option (Out _ Unit))) l0 0 ()) λ(s1:Unit)=>some (-1:Int))
def ref05May (l0:GLeaf):Option Bool :=
 (if (((((decide (l0.typ < (1:Int))) || (decide (l0.typ > (4:Int)))) || ((l0.typ != (1:Int))&&(l0.n != (0:Int)))) || ((decide (l0.typ < (3:Int)))&&(decide (((l0.items).length:Int) > (0:Int))))) || ((l0.typ != (3:Int))&&(decide (((l0.tombs).length:Int) > (0:Int)))))=true then some false else (lp ((if ((l0.typ != (2:Int)) || (l0.time==(0:Int)))=true then (if (((l0.time != (0:Int)) || (!(l0.dot.actor.rep==(0:Int)&&(l0.dot.actor.inc==(0:Int)&&(l0.dot.seq==(0:Int)&&true))))) || (!(l0.text==([]:zn))))=true then some (.inl false) else some (.inr ())) else ((if ((decide (l0.time > (1099511627776:Int)))==false)=true then qa l0.dot else some default).bind λv11=>(if (((decide (l0.time > (1099511627776:Int))) || (!v11)) || (decide (((l0.text).length:Int) > (40:Int))))=true then some (.inl false) else some (.inr ())))):Option (_ ⊕ Unit)) λ(s1:Unit)=>(lp (zk (λ(n2:Nat) (x2:GItem) (s2:Unit)=>(((qa x2.dot).bind λv41=>((if (((((!v41) || (decide (((x2.text).length:Int) > (40:Int)))) || ((l0.typ==(3:Int))&&(x2.time != (0:Int)))) || ((l0.typ==(4:Int))&&((decide (x2.time < (1:Int))) || (decide (x2.time > (1099511627776:Int))))))==false)=true then ref05Item l0.items x2.dot else some default).bind λv43=>((if ((((((!v41) || (decide (((x2.text).length:Int) > (40:Int)))) || ((l0.typ==(3:Int))&&(x2.time != (0:Int)))) || ((l0.typ==(4:Int))&&((decide (x2.time < (1:Int))) || (decide (x2.time > (1099511627776:Int)))))) || (v43 != (n2:Int)))==false)=true then vg l0.tombs x2.dot else some default).bind λv44=>(if ((((((!v41) || (decide (((x2.text).length:Int) > (40:Int)))) || ((l0.typ==(3:Int))&&(x2.time != (0:Int)))) || ((l0.typ==(4:Int))&&((decide (x2.time < (1:Int))) || (decide (x2.time > (1099511627776:Int)))))) || (v43 != (n2:Int))) || v44)=true then some (.ret false) else (zY (((decide ((n2:Int) > (0:Int)))==true)=true->0<=(IntKind.wrap .i64 ((n2:Int) - (1:Int)))/\(IntKind.wrap .i64 ((n2:Int) - (1:Int))) < ((l0.items).length:Int)) ((zY (((decide ((n2:Int) > (0:Int)))==true)=true->0<=(IntKind.wrap .i64 ((n2:Int) - (1:Int)))/\(IntKind.wrap .i64 ((n2:Int) - (1:Int))) < ((l0.items).length:Int)) (((if ((decide ((n2:Int) > (0:Int)))==true)=true then wN (((l0.items).getD (IntKind.wrap .i64 ((n2:Int) - (1:Int))).toNat default).time) (((l0.items).getD (IntKind.wrap .i64 ((n2:Int) - (1:Int))).toNat default).dot) x2.time x2.dot else some default).bind λv48=>(if ((decide ((n2:Int) > (0:Int)))&&(!v48))=true then some (.ret false) else some (.nxt ()))))))))))):Option (Out _ Unit))) l0.items 0 ()) λ(s2:Unit)=>(lp (zk (λ(n3:Nat) (x3:GDot) (s3:Unit)=>(((qa x3).bind λv73=>(zY ((((!v73)==false)&&((decide ((n3:Int) > (0:Int)))==true))=true->0<=(IntKind.wrap .i64 ((n3:Int) - (1:Int)))/\(IntKind.wrap .i64 ((n3:Int) - (1:Int))) < ((l0.tombs).length:Int)) ((zY ((((!v73)==false)&&((decide ((n3:Int) > (0:Int)))==true))=true->0<=(n3:Int)/\(n3:Int) < ((l0.tombs).length:Int)) (((if (((!v73)==false)&&((decide ((n3:Int) > (0:Int)))==true))=true then vh ((l0.tombs).getD (IntKind.wrap .i64 ((n3:Int) - (1:Int))).toNat default) ((l0.tombs).getD (n3:Int).toNat default) else some default).bind λv76=>(if ((!v73) || ((decide ((n3:Int) > (0:Int)))&&(!v76)))=true then some (.ret false) else some (.nxt ())))))))):Option (Out _ Unit))) l0.tombs 0 ()) λ(s3:Unit)=>some true))))
def wM:Nat->(t0:(List GNode))->(deep1:Int)->Option Bool
 | 0,_,_=>none
 | n+1,t0,deep1=>(lp (zk (λ(n1:Nat) (x1:GNode) (s1:Unit)=>(((if ((decide (deep1 >= (3:Int)))==false)=true then wc x1.name else some default).bind λv31=>(zY (((((decide (deep1 >= (3:Int))) || (!v31))==false)&&((decide ((n1:Int) > (0:Int)))==true))=true->0<=(IntKind.wrap .i64 ((n1:Int) - (1:Int)))/\(IntKind.wrap .i64 ((n1:Int) - (1:Int))) < ((t0).length:Int)) (((if (((((decide (deep1 >= (3:Int))) || (!v31)) || ((decide ((n1:Int) > (0:Int)))&&(!(Op.bytesLess (((t0).getD (IntKind.wrap .i64 ((n1:Int) - (1:Int))).toNat default).name) x1.name)))) || ((((x1.leaves).length:Int)==(0:Int))&&(((x1.subs).length:Int)==(0:Int))))==false)=true then wM n x1.subs (IntKind.wrap .i64 (deep1+(1:Int))) else some default).bind λv35=>(if (((((decide (deep1 >= (3:Int))) || (!v31)) || ((decide ((n1:Int) > (0:Int)))&&(!(Op.bytesLess (((t0).getD (IntKind.wrap .i64 ((n1:Int) - (1:Int))).toNat default).name) x1.name)))) || ((((x1.leaves).length:Int)==(0:Int))&&(((x1.subs).length:Int)==(0:Int)))) || (!v35))=true then some (.ret false) else (lp (zk (λ(n2:Nat) (x2:GLeaf) (s2:Unit)=>(((ref05May x2).bind λv50=>(zY ((((!v50)==false)&&((decide ((n2:Int) > (0:Int)))==true))=true->0<=(IntKind.wrap .i64 ((n2:Int) - (1:Int)))/\(IntKind.wrap .i64 ((n2:Int) - (1:Int))) < ((x1.leaves).length:Int)) ((zY ((((!v50)==false)&&((decide ((n2:Int) > (0:Int)))==true))=true->0<=(n2:Int)/\(n2:Int) < ((x1.leaves).length:Int)) ((if ((!v50) || ((decide ((n2:Int) > (0:Int)))&&(decide (((x1.leaves).getD (IntKind.wrap .i64 ((n2:Int) - (1:Int))).toNat default).typ >= ((x1.leaves).getD (n2:Int).toNat default).typ))))=true then some (.ret (.ret false)) else some (.nxt ()))))))):Option (Out _ Unit))) x1.leaves 0 ()) λ(s2:Unit)=>some (.nxt ()))))))):Option (Out _ Unit))) t0 0 ()) λ(s1:Unit)=>some true)
def ref07Xmay (t0:(List GNode)) (deep1:Int):Option Bool:=anyN λn=>wM n t0 deep1
def vm (t0:(List GNode)):Option Bool :=
 ((ref07Xmay t0 (0:Int)).bind λv1=>some v1)
def wB (n0:Int):Option GDot :=
 some (GDot.mk (GActor.mk (0:Int) (1:Int)) n0)
def yg (s0:(List GItem)) (f1:(GItem->Option Bool)):Option Int :=
 (lp (zk (λ(n1:Nat) (x1:GItem) (s1:Unit)=>(((f1 x1).bind λv7=>(if v7=true then some (.ret (n1:Int)) else some (.nxt ()))):Option (Out _ Unit))) s0 0 ()) λ(s1:Unit)=>some (-1:Int))
def yT (s0:(List GItem)) (f1:(GItem->Option Bool)):Option Bool :=
 ((yg s0 f1).bind λv1=>some (decide (v1 >= (0:Int))))
def leafXhasC1 (x0:GItem) (c0:GDot):Option Bool :=
 some (x0.dot.actor.rep==c0.actor.rep&&(x0.dot.actor.inc==c0.actor.inc&&(x0.dot.seq==c0.seq&&true)))
def leafXhas (l0:(List GItem)) (d1:GDot):Option Bool :=
 ((yT l0 (λx0=>leafXhasC1 x0 d1)).bind λv1=>some v1)
def cmpOrInt (vals0:(List Int)):Option Int :=
 (lp (zk (λ(n1:Nat) (x1:Int) (s1:Unit)=>((if (x1 != (0:Int))=true then some (.ret x1) else some (.nxt ())):Option (Out _ Unit))) vals0 0 ()) λ(s1:Unit)=>some (0:Int))
def wz (x0:Int):Option Bool :=
 some (x0 != x0)
def wb (x0:Int) (y1:Int):Option Int :=
 ((wz x0).bind λv1=>((wz y1).bind λv2=>(if v1=true then (if v2=true then some (0:Int) else some (-1:Int)) else (if v2=true then some (1:Int) else (if (decide (x0 < y1))=true then some (-1:Int) else (if (decide (x0 > y1))=true then some (1:Int) else some (0:Int)))))))
def wW (x0:Int):Option Bool :=
 some (x0 != x0)
def yZ (x0:Int) (y1:Int):Option Int :=
 ((wW x0).bind λv1=>((wW y1).bind λv2=>(if v1=true then (if v2=true then some (0:Int) else some (-1:Int)) else (if v2=true then some (1:Int) else (if (decide (x0 < y1))=true then some (-1:Int) else (if (decide (x0 > y1))=true then some (1:Int) else some (0:Int)))))))
def dotXcompare (a0:GActor) (b1:GActor):Option Int :=
 ((yZ a0.rep b1.rep).bind λv1=>((wb a0.inc b1.inc).bind λv2=>((cmpOrInt ([v1,v2]:List Int)).bind λv3=>some v3)))
def wy (x0:Int):Option Bool :=
 some (x0 != x0)
def xH (x0:Int) (y1:Int):Option Int :=
 ((wy x0).bind λv1=>((wy y1).bind λv2=>(if v1=true then (if v2=true then some (0:Int) else some (-1:Int)) else (if v2=true then some (1:Int) else (if (decide (x0 < y1))=true then some (-1:Int) else (if (decide (x0 > y1))=true then some (1:Int) else some (0:Int)))))))
def wm (a0:GDot) (b1:GDot):Option Int :=
 ((dotXcompare a0.actor b1.actor).bind λv1=>((xH a0.seq b1.seq).bind λv2=>((cmpOrInt ([v1,v2]:List Int)).bind λv3=>some v3)))
def dotMayActor (a0:GActor):Option Bool :=
 some (((decide (a0.rep < (16:Int)))&&(decide (a0.inc >= (1:Int))))&&(decide (a0.inc<=(4:Int))))
def dotMay (d0:GDot):Option Bool :=
 ((dotMayActor d0.actor).bind λv1=>some ((v1&&(decide (d0.seq >= (1:Int))))&&(decide (d0.seq<=(1048576:Int)))))
def leafXtombs (l0:GLeaf):Option Bool :=
 (lp (zk (λ(n1:Nat) (x1:GDot) (s1:Unit)=>(((dotMay x1).bind λv19=>(zY ((((!v19)==false)&&((decide ((n1:Int) > (0:Int)))==true))=true->0<=(IntKind.wrap .i64 ((n1:Int) - (1:Int)))/\(IntKind.wrap .i64 ((n1:Int) - (1:Int))) < ((l0.tombs).length:Int)) (((if (((!v19)==false)&&((decide ((n1:Int) > (0:Int)))==true))=true then wm ((l0.tombs).getD (IntKind.wrap .i64 ((n1:Int) - (1:Int))).toNat default) x1 else some default).bind λv21=>((if (((!v19) || ((decide ((n1:Int) > (0:Int)))&&(decide (v21 >= (0:Int)))))==false)=true then leafXhas l0.items x1 else some default).bind λv22=>(if (((!v19) || ((decide ((n1:Int) > (0:Int)))&&(decide (v21 >= (0:Int))))) || v22)=true then some (.ret false) else some (.nxt ()))))))):Option (Out _ Unit))) l0.tombs 0 ()) λ(s1:Unit)=>some true)
def wt (s10:(List GItem)) (s21:(List GItem)):Option Bool :=
 (if (((s10).length:Int) != ((s21).length:Int))=true then some false else (lp (zk (λ(n1:Nat) (x1:GItem) (s1:Unit)=>(((yi s21 (n1:Int)).bind λy10=>(if (!(x1.time==y10.time&&(x1.dot.actor.rep==y10.dot.actor.rep&&(x1.dot.actor.inc==y10.dot.actor.inc&&(x1.dot.seq==y10.dot.seq&&(x1.text==y10.text&&true))))))=true then some (.ret false) else some (.nxt ()))):Option (Out _ Unit))) s10 0 ()) λ(s1:Unit)=>some true))
def wK (s10:(List GDot)) (s21:(List GDot)):Option Bool :=
 (if (((s10).length:Int) != ((s21).length:Int))=true then some false else (lp (zk (λ(n1:Nat) (x1:GDot) (s1:Unit)=>(((yi s21 (n1:Int)).bind λy10=>(if (!(x1.actor.rep==y10.actor.rep&&(x1.actor.inc==y10.actor.inc&&(x1.seq==y10.seq&&true))))=true then some (.ret false) else some (.nxt ()))):Option (Out _ Unit))) s10 0 ()) λ(s1:Unit)=>some true))
def ww (a0:GLeaf) (b1:GLeaf):Option Bool :=
 ((if ((((((a0.typ==b1.typ)&&(a0.n==b1.n))&&(a0.time==b1.time))&&(a0.dot.actor.rep==b1.dot.actor.rep&&(a0.dot.actor.inc==b1.dot.actor.inc&&(a0.dot.seq==b1.dot.seq&&true))))&&(a0.text==b1.text))==true)=true then wt a0.items b1.items else some default).bind λv1=>((if (((((((a0.typ==b1.typ)&&(a0.n==b1.n))&&(a0.time==b1.time))&&(a0.dot.actor.rep==b1.dot.actor.rep&&(a0.dot.actor.inc==b1.dot.actor.inc&&(a0.dot.seq==b1.dot.seq&&true))))&&(a0.text==b1.text))&&v1)==true)=true then wK a0.tombs b1.tombs else some default).bind λv2=>some (((((((a0.typ==b1.typ)&&(a0.n==b1.n))&&(a0.time==b1.time))&&(a0.dot.actor.rep==b1.dot.actor.rep&&(a0.dot.actor.inc==b1.dot.actor.inc&&(a0.dot.seq==b1.dot.seq&&true))))&&(a0.text==b1.text))&&v1)&&v2)))
def leafXisTime (n0:Int):Option Bool :=
 some ((decide (n0 >= (1:Int)))&&(decide (n0<=(1099511627776:Int))))
def vR (s0:zn):Option Bool :=
 some (decide (((s0).length:Int)<=(40:Int)))
def vi (a0:Int) (d1:GDot) (b2:Int) (o3:GDot):Option Int :=
 ((xH a0 b2).bind λv1=>((wm d1 o3).bind λv2=>((cmpOrInt ([v1,v2]:List Int)).bind λv3=>some v3)))
def qJ (time0:Int) (d1:GDot) (other2:Int) (o3:GDot):Option Bool :=
 ((vi time0 d1 other2 o3).bind λv1=>some (decide (v1 < (0:Int))))
def leafXtwice (l0:(List GItem)):Option Bool :=
 (lp (zk (λ(n1:Nat) (x1:GItem) (s1:List (GDot×Int))=>(some (.nxt (mput GDot.eqb s1 x1.dot (IntKind.wrap .i64 ((x7 GDot.eqb (0:Int) s1 x1.dot)+(1:Int))))):Option (Out _ (List (GDot×Int))))) l0 0 ([]:List (GDot×Int))) λ(s1:List (GDot×Int))=>some (decide (((s1).length:Int) < ((l0).length:Int))))
def qI (l0:(List GItem)) (timed1:Bool):Option Bool :=
 (lp (zk (λ(n1:Nat) (x1:GItem) (s1:Unit)=>(((dotMay x1.dot).bind λv13=>((if ((!v13)==false)=true then vR x1.text else some default).bind λv14=>((if (((!v13) || (!v14))==false)=true then leafXisTime x1.time else some default).bind λv15=>(if ((((!v13) || (!v14)) || (!(timed1==v15))) || ((!timed1)&&(x1.time != (0:Int))))=true then some (.ret false) else (zY (((decide ((n1:Int) > (0:Int)))==true)=true->0<=(IntKind.wrap .i64 ((n1:Int) - (1:Int)))/\(IntKind.wrap .i64 ((n1:Int) - (1:Int))) < ((l0).length:Int)) ((zY (((decide ((n1:Int) > (0:Int)))==true)=true->0<=(IntKind.wrap .i64 ((n1:Int) - (1:Int)))/\(IntKind.wrap .i64 ((n1:Int) - (1:Int))) < ((l0).length:Int)) (((if ((decide ((n1:Int) > (0:Int)))==true)=true then qJ (((l0).getD (IntKind.wrap .i64 ((n1:Int) - (1:Int))).toNat default).time) (((l0).getD (IntKind.wrap .i64 ((n1:Int) - (1:Int))).toNat default).dot) x1.time x1.dot else some default).bind λv19=>(if ((decide ((n1:Int) > (0:Int)))&&(!v19))=true then some (.ret false) else some (.nxt ()))))))))))):Option (Out _ Unit))) l0 0 ()) λ(s1:Unit)=>((leafXtwice l0).bind λv21=>some (!v21)))
def leafMay (l0:GLeaf):Option Bool :=
 (if (l0.typ==(1:Int))=true then ((ww l0 (GLeaf.mk l0.typ l0.n (0:Int) (GDot.mk (GActor.mk (0:Int) (0:Int)) (0:Int)) ([]:zn) ([]:List GItem) ([]:List GDot))).bind λv2=>some v2) else (if (l0.typ==(2:Int))=true then ((if ((l0.time != (0:Int))==true)=true then leafXisTime l0.time else some default).bind λv4=>((if (((l0.time != (0:Int))==true)&&(v4==true))=true then dotMay l0.dot else some default).bind λv5=>((if (((l0.time != (0:Int))==true)&&((v4&&v5)==true))=true then vR l0.text else some default).bind λv6=>(if (((l0.time != (0:Int))&&(!((v4&&v5)&&v6))) || ((l0.time==(0:Int))&&((!(l0.dot.actor.rep==(0:Int)&&(l0.dot.actor.inc==(0:Int)&&(l0.dot.seq==(0:Int)&&true)))) || (!(l0.text==([]:zn))))))=true then some false else ((ww l0 (GLeaf.mk l0.typ (0:Int) l0.time l0.dot l0.text ([]:List GItem) ([]:List GDot))).bind λv8=>some v8))))) else (if (l0.typ==(3:Int))=true then ((qI l0.items false).bind λv10=>((if ((!v10)==false)=true then leafXtombs l0 else some default).bind λv11=>(if ((!v10) || (!v11))=true then some false else ((ww l0 (GLeaf.mk l0.typ (0:Int) (0:Int) (GDot.mk (GActor.mk (0:Int) (0:Int)) (0:Int)) ([]:zn) l0.items l0.tombs)).bind λv13=>some v13)))) else (if (l0.typ==(4:Int))=true then ((qI l0.items true).bind λv15=>(if (!v15)=true then some false else ((ww l0 (GLeaf.mk l0.typ (0:Int) (0:Int) (GDot.mk (GActor.mk (0:Int) (0:Int)) (0:Int)) ([]:zn) l0.items ([]:List GDot))).bind λv17=>some v17))) else some false))))
def vH:Nat->(t0:(List GNode))->(deep1:Int)->Option Bool
 | 0,_,_=>none
 | n+1,t0,deep1=>(if ((decide (((t0).length:Int) > (0:Int)))&&(deep1==(3:Int)))=true then some false else (lp (zk (λ(n1:Nat) (x1:GNode) (s1:Unit)=>(((qY x1.name).bind λv27=>(zY ((((!v27)==false)&&((decide ((n1:Int) > (0:Int)))==true))=true->0<=(IntKind.wrap .i64 ((n1:Int) - (1:Int)))/\(IntKind.wrap .i64 ((n1:Int) - (1:Int))) < ((t0).length:Int)) (((if ((((!v27) || ((decide ((n1:Int) > (0:Int)))&&(!(Op.bytesLess (((t0).getD (IntKind.wrap .i64 ((n1:Int) - (1:Int))).toNat default).name) x1.name)))) || ((IntKind.wrap .i64 (((x1.leaves).length:Int)+((x1.subs).length:Int)))==(0:Int)))==false)=true then vH n x1.subs (IntKind.wrap .i64 (deep1+(1:Int))) else some default).bind λv31=>(if ((((!v27) || ((decide ((n1:Int) > (0:Int)))&&(!(Op.bytesLess (((t0).getD (IntKind.wrap .i64 ((n1:Int) - (1:Int))).toNat default).name) x1.name)))) || ((IntKind.wrap .i64 (((x1.leaves).length:Int)+((x1.subs).length:Int)))==(0:Int))) || (!v31))=true then some (.ret false) else (lp (zk (λ(n2:Nat) (x2:GLeaf) (s2:Unit)=>(((leafMay x2).bind λv43=>(zY ((((!v43)==false)&&((decide ((n2:Int) > (0:Int)))==true))=true->0<=(IntKind.wrap .i64 ((n2:Int) - (1:Int)))/\(IntKind.wrap .i64 ((n2:Int) - (1:Int))) < ((x1.leaves).length:Int)) ((if ((!v43) || ((decide ((n2:Int) > (0:Int)))&&(decide (((x1.leaves).getD (IntKind.wrap .i64 ((n2:Int) - (1:Int))).toNat default).typ >= x2.typ))))=true then some (.ret (.ret false)) else some (.nxt ()))))):Option (Out _ Unit))) x1.leaves 0 ()) λ(s2:Unit)=>some (.nxt ()))))))):Option (Out _ Unit))) t0 0 ()) λ(s1:Unit)=>some true))
def treeXmay (t0:(List GNode)) (deep1:Int):Option Bool:=anyN λn=>vH n t0 deep1
def w8 (t0:(List GNode)):Option Bool :=
 ((treeXmay t0 (0:Int)).bind λv1=>some v1)
def xC (b0:(List UInt8)) (n1:Int):Option (List UInt8) :=
 (lp (yp (λ(s1:(List UInt8)×Int)=>((if (decide (s1.2 > (127:Int)))=true then (zY (0<=(IntKind.wrap .u8 (((BitVec.ofInt (IntKind.bits .u8) (IntKind.wrap .u8 (s1.2)) ||| BitVec.ofInt (IntKind.bits .u8) (128:Int)).toNat:Int)))/\(IntKind.wrap .u8 (((BitVec.ofInt (IntKind.bits .u8) (IntKind.wrap .u8 (s1.2)) ||| BitVec.ofInt (IntKind.bits .u8) (128:Int)).toNat:Int))) < 256) ((zY ((s1.1).length+(([(UInt8.ofNat (IntKind.wrap .u8 (((BitVec.ofInt (IntKind.bits .u8) (IntKind.wrap .u8 (s1.2)) ||| BitVec.ofInt (IntKind.bits .u8) (128:Int)).toNat:Int))).toNat)]:List UInt8)).length<=yB) (some (.nxt ((s1.1++([(UInt8.ofNat (IntKind.wrap .u8 (((BitVec.ofInt (IntKind.bits .u8) (IntKind.wrap .u8 (s1.2)) ||| BitVec.ofInt (IntKind.bits .u8) (128:Int)).toNat:Int))).toNat)]:List UInt8)),(Int.fdiv s1.2 (2 ^ (min (7:Int).toNat (IntKind.bits .u64)))))))))) else some (.brk (s1.1,s1.2))):Option (Out _ ((List UInt8)×Int)))) (b0,n1)) λ(s1:(List UInt8)×Int)=>(zY (0<=(IntKind.wrap .u8 (s1.2))/\(IntKind.wrap .u8 (s1.2)) < 256) ((zY ((s1.1).length+(([(UInt8.ofNat (IntKind.wrap .u8 (s1.2)).toNat)]:List UInt8)).length<=yB) (some (s1.1++([(UInt8.ofNat (IntKind.wrap .u8 (s1.2)).toNat)]:List UInt8)))))))
def qi (b0:(List UInt8)) (s1:zn):Option (List UInt8) :=
 ((xC b0 (IntKind.wrap .u64 (((s1).length:Int)))).bind λv2=>(zY ((v2).length+(s1).length<=yB) (some (v2++s1))))
def codeInt (b0:(List UInt8)) (n1:Int):Option (List UInt8) :=
 ((xC b0 (IntKind.wrap .u64 (((BitVec.ofInt (IntKind.bits .u64) (IntKind.wrap .u64 ((IntKind.wrap .u64 (n1)) * 2 ^ (min (1:Int).toNat (IntKind.bits .u64)))) ^^^ BitVec.ofInt (IntKind.bits .u64) (IntKind.wrap .u64 ((Int.fdiv n1 (2 ^ (min (63:Int).toNat (IntKind.bits .i64))))))).toNat:Int)))).bind λv1=>some v1)
def xA (b0:(List UInt8)) (d1:GDot):Option (List UInt8) :=
 ((((xC b0 (IntKind.wrap .u64 (d1.actor.rep))).bind λv3=>some v3):Option (List UInt8)).bind λv1=>((((xC v1 (IntKind.wrap .u64 (d1.actor.inc))).bind λv6=>some v6):Option (List UInt8)).bind λv4=>((((xC v4 d1.seq).bind λv9=>some v9):Option (List UInt8)).bind λv7=>some v7)))
def vA (b0:(List UInt8)) (l1:GLeaf):Option (List UInt8) :=
 ((xC b0 (IntKind.wrap .u64 (l1.typ))).bind λv1=>((codeInt v1 l1.n).bind λv2=>((xC v2 l1.time).bind λv3=>((xA v3 l1.dot).bind λv4=>((qi v4 l1.text).bind λv5=>((xC v5 (IntKind.wrap .u64 (((l1.items).length:Int)))).bind λv7=>(lp (zk (λ(n1:Nat) (x1:GItem) (s1:(List UInt8))=>(((xC s1 x1.time).bind λv25=>((xA v25 x1.dot).bind λv26=>((qi v26 x1.text).bind λv27=>some (.nxt v27)))):Option (Out _ (List UInt8)))) l1.items 0 v7) λ(s1:(List UInt8))=>((xC s1 (IntKind.wrap .u64 (((l1.tombs).length:Int)))).bind λv29=>(lp (zk (λ(n2:Nat) (x2:GDot) (s2:(List UInt8))=>(((xA s2 x2).bind λv45=>some (.nxt v45)):Option (Out _ (List UInt8)))) l1.tombs 0 v29) λ(s2:(List UInt8))=>some s2)))))))))
def vJ:Nat->(b0:(List UInt8))->(t1:(List GNode))->Option (List UInt8)
 | 0,_,_=>none
 | n+1,b0,t1=>((xC b0 (IntKind.wrap .u64 (((t1).length:Int)))).bind λv2=>(lp (zk (λ(n1:Nat) (x1:GNode) (s1:(List UInt8))=>(((qi s1 x1.name).bind λv23=>((xC v23 (IntKind.wrap .u64 (((x1.leaves).length:Int)))).bind λv25=>(lp (zk (λ(n2:Nat) (x2:GLeaf) (s2:(List UInt8))=>(((vA s2 x2).bind λv35=>some (.nxt v35)):Option (Out _ (List UInt8)))) x1.leaves 0 v25) λ(s2:(List UInt8))=>((vJ n s2 x1.subs).bind λv36=>some (.nxt v36))))):Option (Out _ (List UInt8)))) t1 0 v2) λ(s1:(List UInt8))=>some s1))
def statePut (b0:(List UInt8)) (t1:(List GNode)):Option (List UInt8):=anyN λn=>vJ n b0 t1
def qx (t0:(List GNode)) (ahead1:(List zn)):Option ((List GNode)×(List zn)) :=
 some (t0,ahead1)
def xu (s0:(List zn)):Option (List zn) :=
 (nilq s0 λb1=>(if b1=true then some ([]:List zn) else (zY ((([]:List zn)).length+(s0).length<=yB) (some (([]:List zn)++s0)))))
def yo (s0:(List GItem)):Option (List GItem) :=
 (nilq s0 λb1=>(if b1=true then some ([]:List GItem) else (zY ((([]:List GItem)).length+(s0).length<=yB) (some (([]:List GItem)++s0)))))
def yA (s0:(List GDot)):Option (List GDot) :=
 (nilq s0 λb1=>(if b1=true then some ([]:List GDot) else (zY ((([]:List GDot)).length+(s0).length<=yB) (some (([]:List GDot)++s0)))))
def pathsXown (l0:GLeaf):Option GLeaf :=
 ((yo l0.items).bind λv1=>((yA l0.tombs).bind λv2=>some (GLeaf.mk l0.typ l0.n l0.time l0.dot l0.text v1 v2)))
def x5:Nat->(S:Type)->(yield0:S->GRow->Option (Bool×S))->(c0:(List GNode))->(c1:(List zn))->(s0:S)->Option S
 | 0,_,_,_,_,_=>none
 | n+1,S,yield0,c0,c1,s0=>(lp (zk (λ(n1:Nat) (x1:GNode) (s1:S)=>(((xu c1).bind λv37=>(zY ((v37).length+(([x1.name]:List zn)).length<=yB) ((lp (zk (λ(n2:Nat) (x2:GLeaf) (s2:S)=>(((xu (v37++([x1.name]:List zn))).bind λv51=>((pathsXown x2).bind λv52=>((yield0 s2 (GRow.mk v51 v52)).bind λv53=>(if (!v53.1)=true then some (.ret (.ret v53.2)) else some (.nxt v53.2))))):Option (Out _ S))) x1.leaves 0 s1) λ(s2:S)=>((qx x1.subs (v37++([x1.name]:List zn))).bind λv55=>(rng (x5 n _ (stp (λ(s3:S) (x3:GRow)=>(((yield0 s3 x3).bind λv64=>(if (!v64.1)=true then some (false,(v64.2,some 0)) else some (true,(v64.2,none)))):Option (Bool×(S×Option Nat))))) v55.1 v55.2 (s2,none)) (λ(s3:S)=>some (.nxt s3)) (λ(j3:Nat) (s3:S)=>if j3=0 then some (.ret s3) else none))))))):Option (Out _ S))) c0 0 s0) λ(s1:S)=>some s1)
def pathsXrowsC1 (S:Type) (yield0:S->GRow->Option (Bool×S)) (c0:(List GNode)) (c1:(List zn)) (s0:S):Option S:=anyN λn=>x5 n S yield0 c0 c1 s0
def we (s0:(List GRow)) (seq1:(S:Type)->(S->GRow->Option (Bool×S))->S->Option S):Option (List GRow) :=
 (rng (seq1 _ (stp (λ(s1:(List GRow)) (x1:GRow)=>((zY ((s1).length+(([x1]:List GRow)).length<=yB) (some (true,((s1++([x1]:List GRow)),none)))):Option (Bool×((List GRow)×Option Nat))))) (s0,none)) (λ(s1:(List GRow))=>some s1) (λ_ _=>none))
def va (seq0:(S:Type)->(S->GRow->Option (Bool×S))->S->Option S):Option (List GRow) :=
 ((we ([]:List GRow) seq0).bind λv1=>some v1)
def qy (t0:(List GNode)):Option (List GRow) :=
 ((w8 t0).bind λv1=>(if (!v1)=true then some ([]:List GRow) else ((qx t0 ([]:List zn)).bind λv3=>((va (λS y s=>pathsXrowsC1 S y v3.1 v3.2 s)).bind λv4=>some v4))))
def wA (name0:zn) (t1:(List GNode)):Option GQuota :=
 ((statePut ([]:List UInt8) t1).bind λv1=>((qy t1).bind λv3=>(lp (zk (λ(n1:Nat) (x1:GRow) (s1:Int×Int×Int)=>(some (.nxt ((IntKind.wrap .i64 (s1.1+(1:Int))),(IntKind.wrap .i64 (s1.2.1+((x1.leaf.items).length:Int))),(IntKind.wrap .i64 (s1.2.2+((x1.leaf.tombs).length:Int))))):Option (Out _ (Int×Int×Int)))) v3 0 ((0:Int),(0:Int),(0:Int))) λ(s1:Int×Int×Int)=>some (GQuota.mk name0 s1.1 s1.2.1 s1.2.2 ((v1).length:Int)))))
def qC (t0:(List GNode)):Option ((List GQuota)×Int) :=
 ((w8 t0).bind λv1=>(if (!v1)=true then some (([]:List GQuota),(2:Int)) else (lp (zk (λ(n1:Nat) (x1:GNode) (s1:(List GQuota))=>(((slc t0 (n1:Int) (IntKind.wrap .i64 ((n1:Int)+(1:Int)))).bind λm11=>((wA x1.name m11).bind λv12=>(zY ((s1).length+(([v12]:List GQuota)).length<=yB) (some (.nxt (s1++([v12]:List GQuota))))))):Option (Out _ (List GQuota)))) t0 0 ([]:List GQuota)) λ(s1:(List GQuota))=>some (s1,(0:Int)))))
def wT  : Option Bool :=
 ((wB (2:Int)).bind λv1=>((wB (3:Int)).bind λv2=>((wB (1:Int)).bind λv3=>((qC ([(GNode.mk ([97]:zn) ([]:List GLeaf) ([(GNode.mk ([98]:zn) ([(GLeaf.mk (3:Int) (0:Int) (0:Int) (GDot.mk (GActor.mk (0:Int) (0:Int)) (0:Int)) ([]:zn) ([(GItem.mk (0:Int) v1 ([]:zn)),(GItem.mk (0:Int) v2 ([]:zn))]:List GItem) ([v3]:List GDot))]:List GLeaf) ([]:List GNode))]:List GNode))]:List GNode)).bind λv4=>(zY ((((v4.2==(0:Int))&&(((v4.1).length:Int)==(1:Int)))==true)=true->0<=(0:Int)/\(0:Int) < ((v4.1).length:Int)) ((zY (((((v4.2==(0:Int))&&(((v4.1).length:Int)==(1:Int)))&&(((v4.1).getD (0:Int).toNat default).name==([97]:zn)))==true)=true->0<=(0:Int)/\(0:Int) < ((v4.1).length:Int)) ((zY ((((((v4.2==(0:Int))&&(((v4.1).length:Int)==(1:Int)))&&(((v4.1).getD (0:Int).toNat default).name==([97]:zn)))&&(((v4.1).getD (0:Int).toNat default).leaves==(1:Int)))==true)=true->0<=(0:Int)/\(0:Int) < ((v4.1).length:Int)) ((zY (((((((v4.2==(0:Int))&&(((v4.1).length:Int)==(1:Int)))&&(((v4.1).getD (0:Int).toNat default).name==([97]:zn)))&&(((v4.1).getD (0:Int).toNat default).leaves==(1:Int)))&&(((v4.1).getD (0:Int).toNat default).items==(2:Int)))==true)=true->0<=(0:Int)/\(0:Int) < ((v4.1).length:Int)) ((zY ((((((((v4.2==(0:Int))&&(((v4.1).length:Int)==(1:Int)))&&(((v4.1).getD (0:Int).toNat default).name==([97]:zn)))&&(((v4.1).getD (0:Int).toNat default).leaves==(1:Int)))&&(((v4.1).getD (0:Int).toNat default).items==(2:Int)))&&(((v4.1).getD (0:Int).toNat default).tombs==(1:Int)))==true)=true->0<=(0:Int)/\(0:Int) < ((v4.1).length:Int)) (some (((((((v4.2==(0:Int))&&(((v4.1).length:Int)==(1:Int)))&&(((v4.1).getD (0:Int).toNat default).name==([97]:zn)))&&(((v4.1).getD (0:Int).toNat default).leaves==(1:Int)))&&(((v4.1).getD (0:Int).toNat default).items==(2:Int)))&&(((v4.1).getD (0:Int).toNat default).tombs==(1:Int)))&&(decide (((v4.1).getD (0:Int).toNat default).bytes > (0:Int))))))))))))))))))
def opXadds (o0:GOp):Option Bool :=
 some ((((decide (o0.n >= (-1000000:Int)))&&(decide (o0.n<=(1000000:Int))))&&(o0.text==([]:zn)))&&(((o0.dots).length:Int)==(0:Int)))
def opXplain (o0:GOp):Option Bool :=
 some (((o0.n==(0:Int))&&(decide (((o0.text).length:Int)<=(40:Int))))&&(((o0.dots).length:Int)==(0:Int)))
def opXdrops (o0:GOp):Option Bool :=
 (if (((o0.n != (0:Int)) || (decide (((o0.text).length:Int) > (40:Int)))) || (decide (((o0.dots).length:Int) > (64:Int))))=true then some false else (lp (zk (λ(n1:Nat) (x1:GDot) (s1:Unit)=>(((dotMay x1).bind λv17=>(zY ((((!v17)==false)&&((decide ((n1:Int) > (0:Int)))==true))=true->0<=(IntKind.wrap .i64 ((n1:Int) - (1:Int)))/\(IntKind.wrap .i64 ((n1:Int) - (1:Int))) < ((o0.dots).length:Int)) (((if (((!v17)==false)&&((decide ((n1:Int) > (0:Int)))==true))=true then wm ((o0.dots).getD (IntKind.wrap .i64 ((n1:Int) - (1:Int))).toNat default) x1 else some default).bind λv19=>(if ((!v17) || ((decide ((n1:Int) > (0:Int)))&&(decide (v19 >= (0:Int)))))=true then some (.ret false) else some (.nxt ())))))):Option (Out _ Unit))) o0.dots 0 ()) λ(s1:Unit)=>some true))
def opXof (k0:Int):Option (GOpKind×Bool) :=
 (if ((decide (k0 < (1:Int))) || (decide (k0 > (5:Int))))=true then some ((GOpKind.mk (0:Int) 0),false) else ((yi ([(GOpKind.mk (0:Int) 0),(GOpKind.mk (1:Int) 1),(GOpKind.mk (2:Int) 2),(GOpKind.mk (3:Int) 2),(GOpKind.mk (3:Int) 3),(GOpKind.mk (4:Int) 2)]:List GOpKind) k0).bind λy2=>some (y2,true)))
def xN (s0:(List zn)) (f1:(zn->Option Bool)):Option Int :=
 (lp (zk (λ(n1:Nat) (x1:zn) (s1:Unit)=>(((f1 x1).bind λv7=>(if v7=true then some (.ret (n1:Int)) else some (.nxt ()))):Option (Out _ Unit))) s0 0 ()) λ(s1:Unit)=>some (-1:Int))
def yv (s0:(List zn)) (f1:(zn->Option Bool)):Option Bool :=
 ((xN s0 f1).bind λv1=>some (decide (v1 >= (0:Int))))
def opMayPathC1 (s0:zn):Option Bool :=
 ((qY s0).bind λv1=>some (!v1))
def qA (p0:(List zn)):Option Bool :=
 ((if (((decide (((p0).length:Int) >= (1:Int)))&&(decide (((p0).length:Int)<=(3:Int))))==true)=true then yv p0 (λx0=>opMayPathC1 x0) else some default).bind λv3=>some (((decide (((p0).length:Int) >= (1:Int)))&&(decide (((p0).length:Int)<=(3:Int))))&&(!v3)))
def callOp (c:Nat) (x0:GOp):Option Bool:=match c with
 | 1=>opXadds x0
 | 2=>opXplain x0
 | 3=>opXdrops x0
 | _=>none
def opMay (o0:GOp):Option Bool :=
 ((opXof o0.kind).bind λv1=>((if (v1.2==true)=true then qA o0.path else some default).bind λv2=>((if ((v1.2&&v2)==true)=true then callOp v1.1.may o0 else some default).bind λv3=>some ((v1.2&&v2)&&v3))))
def wP (e0:GEvent):Option Bool :=
 ((dotMay e0.dot).bind λv1=>((if (((v1&&(decide (e0.time >= (1:Int))))&&(decide (e0.time<=(1099511627776:Int))))==true)=true then opMay e0.op else some default).bind λv2=>some (((v1&&(decide (e0.time >= (1:Int))))&&(decide (e0.time<=(1099511627776:Int))))&&v2)))
def yf (s0:(List GLeaf)) (f1:(GLeaf->Option Bool)):Option Int :=
 (lp (zk (λ(n1:Nat) (x1:GLeaf) (s1:Unit)=>(((f1 x1).bind λv7=>(if v7=true then some (.ret (n1:Int)) else some (.nxt ()))):Option (Out _ Unit))) s0 0 ()) λ(s1:Unit)=>some (-1:Int))
def treeLeafC1 (l0:GLeaf) (c0:Int):Option Bool :=
 some (l0.typ==c0)
def vw (kind0:Int):Option GLeaf :=
 (if ((decide (kind0 < (1:Int))) || (decide (kind0 > (4:Int))))=true then some zLf else some (GLeaf.mk kind0 (0:Int) (0:Int) (GDot.mk (GActor.mk (0:Int) (0:Int)) (0:Int)) ([]:zn) ([]:List GItem) ([]:List GDot)))
def qK (n0:GNode) (c0:zn):Option Bool :=
 some (n0.name==c0)
def xq (s0:(List GNode)) (f1:(GNode->Option Bool)):Option Int :=
 (lp (zk (λ(n1:Nat) (x1:GNode) (s1:Unit)=>(((f1 x1).bind λv7=>(if v7=true then some (.ret (n1:Int)) else some (.nxt ()))):Option (Out _ Unit))) s0 0 ()) λ(s1:Unit)=>some (-1:Int))
def vI (t0:(List GNode)) (name1:zn):Option (GNode×Bool) :=
 ((xq t0 (λx0=>qK x0 name1)).bind λv1=>(if (decide (v1 < (0:Int)))=true then some ((GNode.mk ([]:zn) ([]:List GLeaf) ([]:List GNode)),false) else ((yi t0 v1).bind λy3=>some (y3,true))))
def wr (t0:(List GNode)) (path1:(List zn)) (kind2:Int):Option (GLeaf×Bool) :=
 (lp ((lp (zk (λ(n2:Nat) (x2:zn) (s2:(List GNode)×Bool×zn×(List GLeaf)×(List GNode))=>(((vI s2.1 x2).bind λv47=>(if (!v47.2)=true then some (.brk (s2.1,v47.2,v47.1.name,v47.1.leaves,v47.1.subs)) else some (.nxt (v47.1.subs,v47.2,v47.1.name,v47.1.leaves,v47.1.subs)))):Option (Out _ ((List GNode)×Bool×zn×(List GLeaf)×(List GNode))))) path1 0 (t0,(decide (((path1).length:Int) > (0:Int))),([]:zn),([]:List GLeaf),([]:List GNode))) λ(s2:(List GNode)×Bool×zn×(List GLeaf)×(List GNode))=>some (.inr (s2.2.1,s2.2.2.1,s2.2.2.2.1,s2.2.2.2.2))):Option (_ ⊕ (Bool×zn×(List GLeaf)×(List GNode)))) λ(s1:Bool×zn×(List GLeaf)×(List GNode))=>((yf s1.2.2.1 (λx0=>treeLeafC1 x0 kind2)).bind λv49=>((if (((!s1.1) || (decide (v49 < (0:Int))))==false)=true then vw kind2 else some default).bind λv50=>(if (((!s1.1) || (decide (v49 < (0:Int)))) || (v50.typ==(0:Int)))=true then ((vw kind2).bind λv52=>some (v52,false)) else ((yi s1.2.2.1 v49).bind λy53=>((yo y53.items).bind λv54=>((yA y53.tombs).bind λv55=>some ((GLeaf.mk y53.typ y53.n y53.time y53.dot y53.text v54 v55),true))))))))
def opType (k0:Int):Option Int :=
 ((opXof k0).bind λv1=>some v1.1.leaf)
def vX (s0:(List GDot)) (v1:GDot):Option Int :=
 (lp (zk (λ(n1:Nat) (x1:GDot) (s1:Unit)=>((if (v1.actor.rep==x1.actor.rep&&(v1.actor.inc==x1.actor.inc&&(v1.seq==x1.seq&&true)))=true then some (.ret (n1:Int)) else some (.nxt ())):Option (Out _ Unit))) s0 0 ()) λ(s1:Unit)=>some (-1:Int))
def xr (s0:(List GDot)) (v1:GDot):Option Bool :=
 ((vX s0 v1).bind λv1=>some (decide (v1 >= (0:Int))))
/-- slices.Insert[[]varve/api.Item,varve/api.Item]: insO -/
def slicesInsertItemX:Unit:=()
def zH (x0:(List GItem)) (target1:GItem) (cmp2:(GItem->GItem->Option Int)):Option (Int×Bool) :=
 (lp (yp (λ(s1:Int×Int)=>((if (decide (s1.1 < s1.2))=true then ((yi x0 (IntKind.wrap .i64 ((Int.fdiv (IntKind.wrap .u64 ((IntKind.wrap .i64 (s1.1+s1.2)))) (2 ^ (min (1:Int).toNat (IntKind.bits .u64))))))).bind λy14=>((cmp2 y14 target1).bind λv15=>(if (decide (v15 < (0:Int)))=true then some (.nxt ((IntKind.wrap .i64 ((IntKind.wrap .i64 ((Int.fdiv (IntKind.wrap .u64 ((IntKind.wrap .i64 (s1.1+s1.2)))) (2 ^ (min (1:Int).toNat (IntKind.bits .u64))))))+(1:Int))),s1.2)) else some (.nxt (s1.1,(IntKind.wrap .i64 ((Int.fdiv (IntKind.wrap .u64 ((IntKind.wrap .i64 (s1.1+s1.2)))) (2 ^ (min (1:Int).toNat (IntKind.bits .u64))))))))))) else some (.brk (s1.1,s1.2))):Option (Out _ (Int×Int)))) ((0:Int),((x0).length:Int))) λ(s1:Int×Int)=>(zY (((decide (s1.1 < ((x0).length:Int)))==true)=true->0<=s1.1/\s1.1 < ((x0).length:Int)) (((if ((decide (s1.1 < ((x0).length:Int)))==true)=true then cmp2 ((x0).getD s1.1.toNat default) target1 else some default).bind λv18=>some (s1.1,((decide (s1.1 < ((x0).length:Int)))&&(v18==(0:Int))))))))
def yx (a0:GItem) (b1:GItem):Option Int :=
 ((vi a0.time a0.dot b1.time b1.dot).bind λv1=>some v1)
/-- slices.SortFunc[[]varve/api.Dot,varve/api.Dot]: sortO -/
def slicesSortFuncDotX:Unit:=()
def xV (s0:(List GDot)):Option (List GDot) :=
 (if (decide (((s0).length:Int) < (2:Int)))=true then some s0 else (lp (yp (λ(s1:Int)=>((if (decide (s1 < ((s0).length:Int)))=true then ((yi s0 s1).bind λy35=>((yi s0 (IntKind.wrap .i64 (s1 - (1:Int)))).bind λy36=>(if (y35.actor.rep==y36.actor.rep&&(y35.actor.inc==y36.actor.inc&&(y35.seq==y36.seq&&true)))=true then (zY (0<=s1/\s1<=((s0.length:Nat):Int)) ((lp (yp (λ(s2:Int×Int×(List GDot))=>((zY ((s2.2.2).length=s0.length) ((if (decide (s2.2.1 < ((s0.length - s1.toNat:Nat):Int)))=true then ((yi (s2.2.2.drop s1.toNat) s2.2.1).bind λy51=>((yi (s2.2.2.drop s1.toNat) (IntKind.wrap .i64 (s2.2.1 - (1:Int)))).bind λy52=>(if (!(y51.actor.rep==y52.actor.rep&&(y51.actor.inc==y52.actor.inc&&(y51.seq==y52.seq&&true))))=true then ((yi (s2.2.2.drop s1.toNat) s2.2.1).bind λy54=>((yi s2.2.2 s2.1).bind λy55=>some (.nxt ((IntKind.wrap .i64 (s2.1+(1:Int))),(IntKind.wrap .i64 (s2.2.1+(1:Int))),(s2.2.2.set s2.1.toNat y54))))) else some (.nxt (s2.1,(IntKind.wrap .i64 (s2.2.1+(1:Int))),s2.2.2))))) else some (.brk (s2.1,s2.2.1,s2.2.2))))):Option (Out _ (Int×Int×(List GDot))))) (s1,(1:Int),s0)) λ(s2:Int×Int×(List GDot))=>(zY (0<=s2.1/\s2.1<=((s0.length:Nat):Int)) (((slc (s2.2.2.take s2.1.toNat++List.replicate (s0.length - s2.1.toNat) (GDot.mk (GActor.mk (0:Int) (0:Int)) (0:Int))) (0:Int) s2.1).bind λm57=>some (.ret m57))))))) else some (.nxt (IntKind.wrap .i64 (s1+(1:Int))))))) else some (.brk s1)):Option (Out _ Int))) (1:Int)) λ(s1:Int)=>some s0))
def xe (s0:(List GItem)) (del1:(GItem->Option Bool)):Option (List GItem) :=
 ((yg s0 del1).bind λv1=>(if (v1==(-1:Int))=true then some s0 else (lp (yp (λ(s1:Int×Int×(List GItem))=>((zY ((s1.2.2).length=s0.length) ((if (decide (s1.2.1 < ((s0.length:Nat):Int)))=true then ((yi s1.2.2 s1.2.1).bind λy14=>((del1 y14).bind λv15=>(if (!v15)=true then ((yi s1.2.2 s1.1).bind λy17=>some (.nxt ((IntKind.wrap .i64 (s1.1+(1:Int))),(IntKind.wrap .i64 (s1.2.1+(1:Int))),(s1.2.2.set s1.1.toNat y14)))) else some (.nxt (s1.1,(IntKind.wrap .i64 (s1.2.1+(1:Int))),s1.2.2))))) else some (.brk (s1.1,s1.2.1,s1.2.2))))):Option (Out _ (Int×Int×(List GItem))))) (v1,(IntKind.wrap .i64 (v1+(1:Int))),s0)) λ(s1:Int×Int×(List GItem))=>(zY (0<=s1.1/\s1.1<=((s0.length:Nat):Int)) (((slc (s1.2.2.take s1.1.toNat++List.replicate (s0.length - s1.1.toNat) (GItem.mk (0:Int) (GDot.mk (GActor.mk (0:Int) (0:Int)) (0:Int)) ([]:zn))) (0:Int) s1.1).bind λm19=>some m19))))))
def xL (x0:GItem) (c0:GEvent):Option Bool :=
 ((xr c0.op.dots x0.dot).bind λv1=>some v1)
def leafApply (l0:GLeaf) (e1:GEvent):Option (GLeaf×Int) :=
 ((leafMay l0).bind λv1=>((if ((!v1)==false)=true then wP e1 else some default).bind λv2=>(if ((!v1) || (!v2))=true then some (zLf,(2:Int)) else ((opType e1.op.kind).bind λv4=>(if (v4 != l0.typ)=true then some (zLf,(15:Int)) else ((yo l0.items).bind λv6=>((yA l0.tombs).bind λv7=>(if e1.op.kind=1 then ((some (IntKind.wrap .i64 (l0.n+e1.op.n)):Option Int).bind λv9=>some ((GLeaf.mk l0.typ v9 l0.time l0.dot l0.text v6 v7),(0:Int))) else (if e1.op.kind=2 then ((((if ((l0.time==(0:Int))==false)=true then qJ l0.time l0.dot e1.time e1.dot else some default).bind λv14=>(if ((l0.time==(0:Int)) || v14)=true then some (e1.time,e1.dot.actor.rep,e1.dot.actor.inc,e1.dot.seq,e1.op.text) else some (l0.time,l0.dot.actor.rep,l0.dot.actor.inc,l0.dot.seq,l0.text))):Option (Int×Int×Int×Int×zn)).bind λv11=>some ((GLeaf.mk l0.typ l0.n v11.1 (GDot.mk (GActor.mk v11.2.1 v11.2.2.1) v11.2.2.2.1) v11.2.2.2.2 v6 v7),(0:Int))) else (if e1.op.kind=3 then ((((xr v7 e1.dot).bind λv29=>(if (!v29)=true then ((((leafXhas v6 e1.dot).bind λv36=>(if v36=true then some v6 else ((zH v6 (GItem.mk (0:Int) e1.dot e1.op.text) (λx0 x1=>yx x0 x1)).bind λv38=>((insO v6 v38.1 ([(GItem.mk (0:Int) e1.dot e1.op.text)]:List GItem)).bind λv39=>some v39)))):Option (List GItem)).bind λv31=>some v31) else some v6)):Option (List GItem)).bind λv17=>some ((GLeaf.mk l0.typ l0.n l0.time l0.dot l0.text v17 v7),(0:Int))) else (if e1.op.kind=4 then (((zY ((v7).length+(e1.op.dots).length<=yB) (((sortO (λx y=>wm x y) (v7++e1.op.dots)).bind λv47=>((xV v47).bind λv48=>((xe v6 (λx0=>xL x0 e1)).bind λv49=>some (v48,v49)))))):Option ((List GDot)×(List GItem))).bind λv41=>some ((GLeaf.mk l0.typ l0.n l0.time l0.dot l0.text v41.2 v41.1),(0:Int))) else (if e1.op.kind=5 then ((((((leafXhas v6 e1.dot).bind λv66=>(if v66=true then some v6 else ((zH v6 (GItem.mk e1.time e1.dot e1.op.text) (λx0 x1=>yx x0 x1)).bind λv68=>((insO v6 v68.1 ([(GItem.mk e1.time e1.dot e1.op.text)]:List GItem)).bind λv69=>some v69)))):Option (List GItem)).bind λv61=>some v61):Option (List GItem)).bind λv51=>some ((GLeaf.mk l0.typ l0.n l0.time l0.dot l0.text v51 v7),(0:Int))) else some ((GLeaf.mk l0.typ l0.n l0.time l0.dot l0.text v6 v7),(0:Int))))))))))))))
def xY:Nat->(t0:(List GNode))->(byy1:(GLeaf->Option GLeaf))->Option (List GNode)
 | 0,_,_=>none
 | n+1,t0,byy1=>(lp (zk (λ(n1:Nat) (x1:GNode) (s1:(List GNode))=>(((xY n x1.subs byy1).bind λv23=>(lp (zk (λ(n2:Nat) (x2:GLeaf) (s2:(List GLeaf))=>(((byy1 x2).bind λv36=>(zY ((s2).length+(([v36]:List GLeaf)).length<=yB) (some (.nxt (s2++([v36]:List GLeaf)))))):Option (Out _ (List GLeaf)))) x1.leaves 0 ([]:List GLeaf)) λ(s2:(List GLeaf))=>(zY ((s1).length+(([(GNode.mk x1.name s2 v23)]:List GNode)).length<=yB) (some (.nxt (s1++([(GNode.mk x1.name s2 v23)]:List GNode))))))):Option (Out _ (List GNode)))) t0 0 ([]:List GNode)) λ(s1:(List GNode))=>some s1)
def treeXchanged (t0:(List GNode)) (byy1:(GLeaf->Option GLeaf)):Option (List GNode):=anyN λn=>xY n t0 byy1
def vz (l0:GLeaf):Option GLeaf :=
 ((yo l0.items).bind λv1=>((yA l0.tombs).bind λv2=>some (GLeaf.mk l0.typ l0.n l0.time l0.dot l0.text v1 v2)))
def treeXown (t0:(List GNode)):Option (List GNode) :=
 ((treeXchanged t0 (λx0=>vz x0)).bind λv1=>some v1)
def yH (s0:(List GNode)):Option (List GNode) :=
 (nilq s0 λb1=>(if b1=true then some ([]:List GNode) else (zY ((([]:List GNode)).length+(s0).length<=yB) (some (([]:List GNode)++s0)))))
def zg (x0:(List GNode)) (target1:zn) (cmp2:(GNode->zn->Option Int)):Option (Int×Bool) :=
 (lp (yp (λ(s1:Int×Int)=>((if (decide (s1.1 < s1.2))=true then ((yi x0 (IntKind.wrap .i64 ((Int.fdiv (IntKind.wrap .u64 ((IntKind.wrap .i64 (s1.1+s1.2)))) (2 ^ (min (1:Int).toNat (IntKind.bits .u64))))))).bind λy9=>((cmp2 y9 target1).bind λv10=>(if (decide (v10 < (0:Int)))=true then some (.nxt ((IntKind.wrap .i64 ((IntKind.wrap .i64 ((Int.fdiv (IntKind.wrap .u64 ((IntKind.wrap .i64 (s1.1+s1.2)))) (2 ^ (min (1:Int).toNat (IntKind.bits .u64))))))+(1:Int))),s1.2)) else some (.nxt (s1.1,(IntKind.wrap .i64 ((Int.fdiv (IntKind.wrap .u64 ((IntKind.wrap .i64 (s1.1+s1.2)))) (2 ^ (min (1:Int).toNat (IntKind.bits .u64))))))))))) else some (.brk (s1.1,s1.2))):Option (Out _ (Int×Int)))) ((0:Int),((x0).length:Int))) λ(s1:Int×Int)=>(zY (((decide (s1.1 < ((x0).length:Int)))==true)=true->0<=s1.1/\s1.1 < ((x0).length:Int)) (((if ((decide (s1.1 < ((x0).length:Int)))==true)=true then cmp2 ((x0).getD s1.1.toNat default) target1 else some default).bind λv13=>some (s1.1,((decide (s1.1 < ((x0).length:Int)))&&(v13==(0:Int))))))))
/-- strings.Compare -/
def stringsCompare (p0:zn) (p1:zn):Option Int:=some (Go.Lib.compareBytes p0 p1)
def treeXfindC1 (n0:GNode) (s1:zn):Option Int :=
 ((stringsCompare n0.name s1).bind λv1=>some v1)
def treeXfind (t0:(List GNode)) (name1:zn):Option (Int×Bool) :=
 ((zg t0 name1 (λx0 x1=>treeXfindC1 x0 x1)).bind λv1=>some (v1.1,v1.2))
/-- slices.Insert[varve/api.Tree,varve/api.Node]: insO -/
def slicesInsertTreeNodeX:Unit:=()
def yY (s0:(List GLeaf)):Option (List GLeaf) :=
 (nilq s0 λb1=>(if b1=true then some ([]:List GLeaf) else (zY ((([]:List GLeaf)).length+(s0).length<=yB) (some (([]:List GLeaf)++s0)))))
def zA (x0:(List GLeaf)) (target1:Int) (cmp2:(GLeaf->Int->Option Int)):Option (Int×Bool) :=
 (lp (yp (λ(s1:Int×Int)=>((if (decide (s1.1 < s1.2))=true then ((yi x0 (IntKind.wrap .i64 ((Int.fdiv (IntKind.wrap .u64 ((IntKind.wrap .i64 (s1.1+s1.2)))) (2 ^ (min (1:Int).toNat (IntKind.bits .u64))))))).bind λy9=>((cmp2 y9 target1).bind λv10=>(if (decide (v10 < (0:Int)))=true then some (.nxt ((IntKind.wrap .i64 ((IntKind.wrap .i64 ((Int.fdiv (IntKind.wrap .u64 ((IntKind.wrap .i64 (s1.1+s1.2)))) (2 ^ (min (1:Int).toNat (IntKind.bits .u64))))))+(1:Int))),s1.2)) else some (.nxt (s1.1,(IntKind.wrap .i64 ((Int.fdiv (IntKind.wrap .u64 ((IntKind.wrap .i64 (s1.1+s1.2)))) (2 ^ (min (1:Int).toNat (IntKind.bits .u64))))))))))) else some (.brk (s1.1,s1.2))):Option (Out _ (Int×Int)))) ((0:Int),((x0).length:Int))) λ(s1:Int×Int)=>(zY (((decide (s1.1 < ((x0).length:Int)))==true)=true->0<=s1.1/\s1.1 < ((x0).length:Int)) (((if ((decide (s1.1 < ((x0).length:Int)))==true)=true then cmp2 ((x0).getD s1.1.toNat default) target1 else some default).bind λv13=>some (s1.1,((decide (s1.1 < ((x0).length:Int)))&&(v13==(0:Int))))))))
def wd (x0:GLeaf) (kind1:Int):Option Int :=
 ((yZ x0.typ kind1).bind λv1=>some v1)
/-- slices.Insert[[]varve/api.Leaf,varve/api.Leaf]: insO -/
def slicesInsertLeafX:Unit:=()
def xG:Nat->(t0:(List GNode))->(path1:(List zn))->(l2:GLeaf)->Option (List GNode)
 | 0,_,_,_=>none
 | n+1,t0,path1,l2=>((yH t0).bind λv1=>((yi path1 (0:Int)).bind λy2=>((treeXfind v1 y2).bind λv3=>(if (!v3.2)=true then ((yi path1 (0:Int)).bind λy5=>((insO v1 v3.1 ([(GNode.mk y5 ([]:List GLeaf) ([]:List GNode))]:List GNode)).bind λv6=>((yi v6 v3.1).bind λy7=>(if (decide (((path1).length:Int) > (1:Int)))=true then ((slc path1 (1:Int) ((path1).length:Int)).bind λm10=>((xG n y7.subs m10 l2).bind λv11=>((yi v6 v3.1).bind λy12=>some (v6.set v3.1.toNat (GNode.mk y7.name y7.leaves v11))))) else ((yY y7.leaves).bind λv13=>((zA v13 l2.typ (λx0 x1=>wd x0 x1)).bind λv14=>(if (!v14.2)=true then ((insO v13 v14.1 ([l2]:List GLeaf)).bind λv16=>((yi v16 v14.1).bind λy17=>((yi v6 v3.1).bind λy18=>some (v6.set v3.1.toNat (GNode.mk y7.name (v16.set v14.1.toNat l2) y7.subs))))) else ((yi v13 v14.1).bind λy19=>((yi v6 v3.1).bind λy20=>some (v6.set v3.1.toNat (GNode.mk y7.name (v13.set v14.1.toNat l2) y7.subs))))))))))) else ((yi v1 v3.1).bind λy21=>(if (decide (((path1).length:Int) > (1:Int)))=true then ((slc path1 (1:Int) ((path1).length:Int)).bind λm24=>((xG n y21.subs m24 l2).bind λv25=>((yi v1 v3.1).bind λy26=>some (v1.set v3.1.toNat (GNode.mk y21.name y21.leaves v25))))) else ((yY y21.leaves).bind λv27=>((zA v27 l2.typ (λx0 x1=>wd x0 x1)).bind λv28=>(if (!v28.2)=true then ((insO v27 v28.1 ([l2]:List GLeaf)).bind λv30=>((yi v30 v28.1).bind λy31=>((yi v1 v3.1).bind λy32=>some (v1.set v3.1.toNat (GNode.mk y21.name (v30.set v28.1.toNat l2) y21.subs))))) else ((yi v27 v28.1).bind λy33=>((yi v1 v3.1).bind λy34=>some (v1.set v3.1.toNat (GNode.mk y21.name (v27.set v28.1.toNat l2) y21.subs)))))))))))))
def treeXput (t0:(List GNode)) (path1:(List zn)) (l2:GLeaf):Option (List GNode):=anyN λn=>xG n t0 path1 l2
def qr (t0:(List GNode)) (e1:GEvent):Option ((List GNode)×Int) :=
 ((w8 t0).bind λv1=>((if ((!v1)==false)=true then wP e1 else some default).bind λv2=>(if ((!v1) || (!v2))=true then some (([]:List GNode),(2:Int)) else ((opType e1.op.kind).bind λv4=>((wr t0 e1.op.path v4).bind λv5=>((leafApply v5.1 e1).bind λv6=>(if (v6.2 != (0:Int))=true then some (([]:List GNode),v6.2) else ((treeXput t0 e1.op.path v6.1).bind λv8=>((treeXown v8).bind λv9=>some (v9,(0:Int)))))))))))
def xE (u0:GQuota):Option (Int×Int×Int×Int) :=
 some (u0.leaves,u0.items,u0.tombs,u0.bytes)
def wv (t0:(List GNode)) (name1:zn):Option GQuota :=
 (lp (zk (λ(n1:Nat) (x1:GNode) (s1:Unit)=>((if (x1.name==name1)=true then ((slc t0 (n1:Int) (IntKind.wrap .i64 ((n1:Int)+(1:Int)))).bind λm14=>((wA name1 m14).bind λv15=>some (.ret v15))) else some (.nxt ())):Option (Out _ Unit))) t0 0 ()) λ(s1:Unit)=>some (GQuota.mk name1 (0:Int) (0:Int) (0:Int) (0:Int)))
def x6 (q0:GQuota) (c0:zn):Option Bool :=
 some (q0.name==c0)
def qZ (l0:(List GQuota)) (name1:zn):Option (GQuota×Bool) :=
 (zY ((2:Int)<=9223372036854775807) (lp (zk (λ(n1:Nat) (x1:Nat) (s1:Unit)=>((if n1=0 then ((zV l0 (λx0=>x6 x0 name1)).bind λv11=>(if (decide (v11 >= (0:Int)))=true then ((yi l0 v11).bind λy13=>some (.ret (y13,true))) else some (.nxt ()))) else ((zV l0 (λx0=>x6 x0 ([]:zn))).bind λv14=>(if (decide (v14 >= (0:Int)))=true then ((yi l0 v14).bind λy16=>some (.ret (y16,true))) else some (.nxt ())))):Option (Out _ Unit))) (List.range (((2:Int)).toNat)) 0 ()) λ(s1:Unit)=>some ((GQuota.mk ([]:zn) (0:Int) (0:Int) (0:Int) (0:Int)),false)))
def wR (l0:(List GQuota)) (u1:GQuota):Option (Int×Int×Int×Int) :=
 ((qZ l0 u1.name).bind λv1=>(if (!v1.2)=true then some ((0:Int),(0:Int),(0:Int),(0:Int)) else ((xE v1.1).bind λv3=>((xE u1).bind λv4=>(zY ((4:Int)<=9223372036854775807) (lp (zk (λ(n1:Nat) (x1:Nat) (s1:Int×Int×Int×Int)=>((if n1=0 then some (.nxt ((if (IntKind.wrap .i64 (v4.1 - v3.1)) > (0:Int) then (IntKind.wrap .i64 (v4.1 - v3.1)) else (0:Int)),s1.2.1,s1.2.2.1,s1.2.2.2)) else (if n1=1 then some (.nxt (s1.1,(if (IntKind.wrap .i64 (v4.2.1 - v3.2.1)) > (0:Int) then (IntKind.wrap .i64 (v4.2.1 - v3.2.1)) else (0:Int)),s1.2.2.1,s1.2.2.2)) else (if n1=2 then some (.nxt (s1.1,s1.2.1,(if (IntKind.wrap .i64 (v4.2.2.1 - v3.2.2.1)) > (0:Int) then (IntKind.wrap .i64 (v4.2.2.1 - v3.2.2.1)) else (0:Int)),s1.2.2.2)) else some (.nxt (s1.1,s1.2.1,s1.2.2.1,(if (IntKind.wrap .i64 (v4.2.2.2 - v3.2.2.2)) > (0:Int) then (IntKind.wrap .i64 (v4.2.2.2 - v3.2.2.2)) else (0:Int))))))):Option (Out _ (Int×Int×Int×Int)))) (List.range (((4:Int)).toNat)) 0 ((0:Int),(0:Int),(0:Int),(0:Int))) λ(s1:Int×Int×Int×Int)=>some (s1.1,s1.2.1,s1.2.2.1,s1.2.2.2)))))))
def qD (l0:(List GQuota)) (t1:(List GNode)) (e2:GEvent):Option (Bool×Int) :=
 ((meterMay l0).bind λv1=>((if ((!v1)==false)=true then w8 t1 else some default).bind λv2=>((if (((!v1) || (!v2))==false)=true then wP e2 else some default).bind λv3=>(if (((!v1) || (!v2)) || (!v3))=true then some (false,(2:Int)) else ((qr t1 e2).bind λv5=>((yi e2.op.path (0:Int)).bind λy6=>((wv t1 y6).bind λv7=>((xE v7).bind λv8=>((wv v5.1 y6).bind λv9=>((xE v9).bind λv10=>((wv v5.1 y6).bind λv11=>((wR l0 v11).bind λv12=>(zY ((4:Int)<=9223372036854775807) (lp (zk (λ(n1:Nat) (x1:Nat) (s1:Unit)=>((if n1=0 then (if ((decide (v12.1 > (0:Int)))&&(decide (v10.1 > v8.1)))=true then some (.ret (false,v5.2)) else some (.nxt ())) else (if n1=1 then (if ((decide (v12.2.1 > (0:Int)))&&(decide (v10.2.1 > v8.2.1)))=true then some (.ret (false,v5.2)) else some (.nxt ())) else (if n1=2 then (if ((decide (v12.2.2.1 > (0:Int)))&&(decide (v10.2.2.1 > v8.2.2.1)))=true then some (.ret (false,v5.2)) else some (.nxt ())) else (if ((decide (v12.2.2.2 > (0:Int)))&&(decide (v10.2.2.2 > v8.2.2.2)))=true then some (.ret (false,v5.2)) else some (.nxt ()))))):Option (Out _ Unit))) (List.range (((4:Int)).toNat)) 0 ()) λ(s1:Unit)=>some (true,v5.2)))))))))))))))
def meterOver (l0:(List GQuota)) (t1:(List GNode)):Option ((List GQuota)×Int) :=
 ((qC t1).bind λv1=>((if ((v1.2 != (0:Int))==false)=true then meterMay l0 else some default).bind λv2=>(if ((v1.2 != (0:Int)) || (!v2))=true then some (([]:List GQuota),(2:Int)) else (lp (zk (λ(n1:Nat) (x1:GQuota) (s1:(List GQuota))=>(((wR l0 x1).bind λv12=>(if (!(v12.1==(0:Int)&&(v12.2.1==(0:Int)&&(v12.2.2.1==(0:Int)&&(v12.2.2.2==(0:Int)&&true)))))=true then (zY ((s1).length+(([x1]:List GQuota)).length<=yB) (some (.nxt (s1++([x1]:List GQuota))))) else some (.nxt s1))):Option (Out _ (List GQuota)))) v1.1 0 ([]:List GQuota)) λ(s1:(List GQuota))=>some (s1,(0:Int))))))
def vN (kind0:Int):Option Int :=
 (if (kind0==(1:Int))=true then some (1:Int) else (if (kind0==(2:Int))=true then some (2:Int) else (if (kind0==(3:Int))=true then (if (kind0==(3:Int))=true then some (3:Int) else (if (kind0==(5:Int))=true then some (4:Int) else some (0:Int))) else (if (kind0==(4:Int))=true then some (3:Int) else (if (kind0==(5:Int))=true then some (4:Int) else some (0:Int))))))
def vZ (p0:(List zn)):Option Bool :=
 (lp (zk (λ(n1:Nat) (x1:zn) (s1:Unit)=>(((wc x1).bind λv9=>(if (!v9)=true then some (.ret false) else some (.nxt ()))):Option (Out _ Unit))) p0 0 ()) λ(s1:Unit)=>some ((decide (((p0).length:Int) >= (1:Int)))&&(decide (((p0).length:Int)<=(3:Int)))))
def ref04May (o0:GOp):Option Bool :=
 ((vN o0.kind).bind λv1=>((if ((v1==(0:Int))==false)=true then vZ o0.path else some default).bind λv2=>(if ((((v1==(0:Int)) || (!v2)) || (decide (((o0.text).length:Int) > (40:Int)))) || (decide (((o0.dots).length:Int) > (64:Int))))=true then some false else (if (o0.kind==(1:Int))=true then some ((((decide (o0.n >= (-1000000:Int)))&&(decide (o0.n<=(1000000:Int))))&&(o0.text==([]:zn)))&&(((o0.dots).length:Int)==(0:Int))) else (if ((o0.n != (0:Int)) || ((o0.kind != (4:Int))&&(decide (((o0.dots).length:Int) > (0:Int)))))=true then some false else (lp (zk (λ(n1:Nat) (x1:GDot) (s1:Unit)=>(((qa x1).bind λv26=>(zY ((((!v26)==false)&&((decide ((n1:Int) > (0:Int)))==true))=true->0<=(IntKind.wrap .i64 ((n1:Int) - (1:Int)))/\(IntKind.wrap .i64 ((n1:Int) - (1:Int))) < ((o0.dots).length:Int)) ((zY ((((!v26)==false)&&((decide ((n1:Int) > (0:Int)))==true))=true->0<=(n1:Int)/\(n1:Int) < ((o0.dots).length:Int)) (((if (((!v26)==false)&&((decide ((n1:Int) > (0:Int)))==true))=true then vh ((o0.dots).getD (IntKind.wrap .i64 ((n1:Int) - (1:Int))).toNat default) ((o0.dots).getD (n1:Int).toNat default) else some default).bind λv29=>(if ((!v26) || ((decide ((n1:Int) > (0:Int)))&&(!v29)))=true then some (.ret false) else some (.nxt ())))))))):Option (Out _ Unit))) o0.dots 0 ()) λ(s1:Unit)=>some true))))))
def x4 (e0:GEvent):Option Bool :=
 ((qa e0.dot).bind λv1=>((if (((v1&&(decide (e0.time >= (1:Int))))&&(decide (e0.time<=(1099511627776:Int))))==true)=true then ref04May e0.op else some default).bind λv2=>some (((v1&&(decide (e0.time >= (1:Int))))&&(decide (e0.time<=(1099511627776:Int))))&&v2)))
def qu (t0:(List GNode)) (name1:zn):Option (GNode×Bool) :=
 (lp (zk (λ(n1:Nat) (x1:GNode) (s1:Unit)=>((if (x1.name==name1)=true then some (.ret (x1,true)) else some (.nxt ())):Option (Out _ Unit))) t0 0 ()) λ(s1:Unit)=>some ((GNode.mk ([]:zn) ([]:List GLeaf) ([]:List GNode)),false))
def ref05New (kind0:Int):Option GLeaf :=
 (if ((decide (kind0 >= (1:Int)))&&(decide (kind0<=(4:Int))))=true then some (GLeaf.mk kind0 (0:Int) (0:Int) (GDot.mk (GActor.mk (0:Int) (0:Int)) (0:Int)) ([]:zn) ([]:List GItem) ([]:List GDot)) else some zLf)
def vM (t0:(List GNode)) (path1:(List zn)) (kind2:Int):Option (GLeaf×Bool) :=
 ((ref05New kind2).bind λv1=>(lp (zk (λ(n1:Nat) (x1:zn) (s1:(List GNode)×zn×(List GLeaf)×(List GNode))=>(((qu s1.1 x1).bind λv32=>(if (!v32.2)=true then some (.ret (v1,false)) else some (.nxt (v32.1.subs,v32.1.name,v32.1.leaves,v32.1.subs)))):Option (Out _ ((List GNode)×zn×(List GLeaf)×(List GNode))))) path1 0 (t0,([]:zn),([]:List GLeaf),([]:List GNode))) λ(s1:(List GNode)×zn×(List GLeaf)×(List GNode))=>(lp (yp (λ(s2:Int)=>((if (((decide (s2 < ((s1.2.2.1).length:Int)))&&(decide (kind2 >= (1:Int))))&&(decide (kind2<=(4:Int))))=true then ((yi s1.2.2.1 s2).bind λy63=>(if (y63.typ==kind2)=true then ((yi s1.2.2.1 s2).bind λy65=>some (.ret (y65,true))) else some (.nxt (IntKind.wrap .i64 (s2+(1:Int)))))) else some (.brk s2)):Option (Out _ Int))) (0:Int)) λ(s2:Int)=>some (v1,false))))
def ref05Lay (l0:(List GItem)) (x1:GItem):Option (List GItem) :=
 ((ref05Item l0 x1.dot).bind λv1=>(if (decide (v1 >= (0:Int)))=true then (zY ((([]:List GItem)).length+(l0).length<=yB) (some (([]:List GItem)++l0))) else (lp (yp (λ(s1:(List GItem)×Int)=>((zY (((decide (s1.2 < ((l0).length:Int)))==true)=true->0<=s1.2/\s1.2 < ((l0).length:Int)) ((zY (((decide (s1.2 < ((l0).length:Int)))==true)=true->0<=s1.2/\s1.2 < ((l0).length:Int)) (((if ((decide (s1.2 < ((l0).length:Int)))==true)=true then wN (((l0).getD s1.2.toNat default).time) (((l0).getD s1.2.toNat default).dot) x1.time x1.dot else some default).bind λv21=>(if ((decide (s1.2 < ((l0).length:Int)))&&v21)=true then ((yi l0 s1.2).bind λy23=>(zY ((s1.1).length+(([y23]:List GItem)).length<=yB) (some (.nxt ((s1.1++([y23]:List GItem)),(IntKind.wrap .i64 (s1.2+(1:Int)))))))) else some (.brk (s1.1,s1.2)))))))):Option (Out _ ((List GItem)×Int)))) (([]:List GItem),(0:Int))) λ(s1:(List GItem)×Int)=>(zY ((s1.1).length+(([x1]:List GItem)).length<=yB) (((slc l0 s1.2 ((l0).length:Int)).bind λm26=>(zY (((s1.1++([x1]:List GItem))).length+(m26).length<=yB) (some ((s1.1++([x1]:List GItem))++m26)))))))))
def ref05Bury (l0:(List GDot)) (d1:GDot):Option (List GDot) :=
 ((vg l0 d1).bind λv1=>(if v1=true then some l0 else (lp (yp (λ(s1:(List GDot)×Int)=>((zY (((decide (s1.2 < ((l0).length:Int)))==true)=true->0<=s1.2/\s1.2 < ((l0).length:Int)) (((if ((decide (s1.2 < ((l0).length:Int)))==true)=true then vh ((l0).getD s1.2.toNat default) d1 else some default).bind λv16=>(if ((decide (s1.2 < ((l0).length:Int)))&&v16)=true then ((yi l0 s1.2).bind λy18=>(zY ((s1.1).length+(([y18]:List GDot)).length<=yB) (some (.nxt ((s1.1++([y18]:List GDot)),(IntKind.wrap .i64 (s1.2+(1:Int)))))))) else some (.brk (s1.1,s1.2)))))):Option (Out _ ((List GDot)×Int)))) (([]:List GDot),(0:Int))) λ(s1:(List GDot)×Int)=>(zY ((s1.1).length+(([d1]:List GDot)).length<=yB) (((slc l0 s1.2 ((l0).length:Int)).bind λm21=>(zY (((s1.1++([d1]:List GDot))).length+(m21).length<=yB) (some ((s1.1++([d1]:List GDot))++m21)))))))))
def ref05Left (l0:(List GItem)) (tombs1:(List GDot)):Option (List GItem) :=
 (lp (zk (λ(n1:Nat) (x1:GItem) (s1:(List GItem))=>(((vg tombs1 x1.dot).bind λv12=>(if (!v12)=true then (zY ((s1).length+(([x1]:List GItem)).length<=yB) (some (.nxt (s1++([x1]:List GItem))))) else some (.nxt s1))):Option (Out _ (List GItem)))) l0 0 ([]:List GItem)) λ(s1:(List GItem))=>some s1)
def ref05Apply (l0:GLeaf) (e1:GEvent):Option (GLeaf×Int) :=
 ((ref05May l0).bind λv1=>((if ((!v1)==false)=true then x4 e1 else some default).bind λv2=>(if ((!v1) || (!v2))=true then some (zLf,(2:Int)) else ((vN e1.op.kind).bind λv4=>(if (v4 != l0.typ)=true then some (zLf,(15:Int)) else (if (e1.op.kind==(1:Int))=true then some ((GLeaf.mk l0.typ (IntKind.wrap .i64 (l0.n+e1.op.n)) l0.time l0.dot l0.text l0.items l0.tombs),(0:Int)) else (if (e1.op.kind==(2:Int))=true then ((if ((l0.time==(0:Int))==false)=true then wN l0.time l0.dot e1.time e1.dot else some default).bind λv8=>(if ((l0.time==(0:Int)) || v8)=true then some ((GLeaf.mk l0.typ l0.n e1.time e1.dot e1.op.text l0.items l0.tombs),(0:Int)) else some (l0,(0:Int)))) else (if (e1.op.kind==(3:Int))=true then ((vg l0.tombs e1.dot).bind λv11=>(if (!v11)=true then ((ref05Lay l0.items (GItem.mk (0:Int) e1.dot e1.op.text)).bind λv13=>some ((GLeaf.mk l0.typ l0.n l0.time l0.dot l0.text v13 l0.tombs),(0:Int))) else some (l0,(0:Int)))) else (if (e1.op.kind==(4:Int))=true then (lp (zk (λ(n1:Nat) (x1:GDot) (s1:(List GDot))=>(((ref05Bury s1 x1).bind λv49=>some (.nxt v49)):Option (Out _ (List GDot)))) e1.op.dots 0 l0.tombs) λ(s1:(List GDot))=>((ref05Left l0.items s1).bind λv50=>some ((GLeaf.mk l0.typ l0.n l0.time l0.dot l0.text v50 s1),(0:Int)))) else (if (e1.op.kind==(5:Int))=true then ((ref05Lay l0.items (GItem.mk e1.time e1.dot e1.op.text)).bind λv52=>some ((GLeaf.mk l0.typ l0.n l0.time l0.dot l0.text v52 l0.tombs),(0:Int))) else some (l0,(0:Int))))))))))))
def xT:Nat->(t0:(List GNode))->(path1:(List zn))->(l2:GLeaf)->Option (List GNode)
 | 0,_,_,_=>none
 | n+1,t0,path1,l2=>(lp (yp (λ(s1:(List GNode)×Int)=>((zY (((decide (s1.2 < ((t0).length:Int)))==true)=true->0<=s1.2/\s1.2 < ((t0).length:Int)) ((zY (((decide (s1.2 < ((t0).length:Int)))==true)=true->0<=(0:Int)/\(0:Int) < ((path1).length:Int)) ((if ((decide (s1.2 < ((t0).length:Int)))&&(Op.bytesLess (((t0).getD s1.2.toNat default).name) ((path1).getD (0:Int).toNat default)))=true then ((yi t0 s1.2).bind λy22=>(zY ((s1.1).length+(([y22]:List GNode)).length<=yB) (some (.nxt ((s1.1++([y22]:List GNode)),(IntKind.wrap .i64 (s1.2+(1:Int)))))))) else some (.brk (s1.1,s1.2))))))):Option (Out _ ((List GNode)×Int)))) (([]:List GNode),(0:Int))) λ(s1:(List GNode)×Int)=>((yi path1 (0:Int)).bind λy24=>(lp ((zY (((decide (s1.2 < ((t0).length:Int)))==true)=true->0<=s1.2/\s1.2 < ((t0).length:Int)) ((zY (((decide (s1.2 < ((t0).length:Int)))==true)=true->0<=(0:Int)/\(0:Int) < ((path1).length:Int)) ((if ((decide (s1.2 < ((t0).length:Int)))&&(((t0).getD s1.2.toNat default).name==((path1).getD (0:Int).toNat default)))=true then ((yi t0 s1.2).bind λy34=>some (.inr ((IntKind.wrap .i64 (s1.2+(1:Int))),y34.name,y34.leaves,y34.subs))) else some (.inr (s1.2,y24,([]:List GLeaf),([]:List GNode)))))))):Option (_ ⊕ (Int×zn×(List GLeaf)×(List GNode)))) λ(s2:Int×zn×(List GLeaf)×(List GNode))=>(if (decide (((path1).length:Int) > (1:Int)))=true then ((slc path1 (1:Int) ((path1).length:Int)).bind λm37=>((xT n s2.2.2.2 m37 l2).bind λv38=>(zY ((s1.1).length+(([(GNode.mk s2.2.1 s2.2.2.1 v38)]:List GNode)).length<=yB) (((slc t0 s2.1 ((t0).length:Int)).bind λm40=>(zY (((s1.1++([(GNode.mk s2.2.1 s2.2.2.1 v38)]:List GNode))).length+(m40).length<=yB) (some ((s1.1++([(GNode.mk s2.2.1 s2.2.2.1 v38)]:List GNode))++m40)))))))) else (lp (yp (λ(s3:(List GLeaf)×Int)=>((zY (((decide (s3.2 < ((s2.2.2.1).length:Int)))==true)=true->0<=s3.2/\s3.2 < ((s2.2.2.1).length:Int)) ((if ((decide (s3.2 < ((s2.2.2.1).length:Int)))&&(decide (((s2.2.2.1).getD s3.2.toNat default).typ < l2.typ)))=true then ((yi s2.2.2.1 s3.2).bind λy64=>(zY ((s3.1).length+(([y64]:List GLeaf)).length<=yB) (some (.nxt ((s3.1++([y64]:List GLeaf)),(IntKind.wrap .i64 (s3.2+(1:Int)))))))) else some (.brk (s3.1,s3.2))))):Option (Out _ ((List GLeaf)×Int)))) (([]:List GLeaf),(0:Int))) λ(s3:(List GLeaf)×Int)=>(zY (((decide (s3.2 < ((s2.2.2.1).length:Int)))==true)=true->0<=s3.2/\s3.2 < ((s2.2.2.1).length:Int)) ((if ((decide (s3.2 < ((s2.2.2.1).length:Int)))&&(((s2.2.2.1).getD s3.2.toNat default).typ==l2.typ))=true then (zY ((s3.1).length+(([l2]:List GLeaf)).length<=yB) (((slc s2.2.2.1 (IntKind.wrap .i64 (s3.2+(1:Int))) ((s2.2.2.1).length:Int)).bind λm70=>(zY (((s3.1++([l2]:List GLeaf))).length+(m70).length<=yB) ((zY ((s1.1).length+(([(GNode.mk s2.2.1 ((s3.1++([l2]:List GLeaf))++m70) s2.2.2.2)]:List GNode)).length<=yB) (((slc t0 s2.1 ((t0).length:Int)).bind λm73=>(zY (((s1.1++([(GNode.mk s2.2.1 ((s3.1++([l2]:List GLeaf))++m70) s2.2.2.2)]:List GNode))).length+(m73).length<=yB) (some ((s1.1++([(GNode.mk s2.2.1 ((s3.1++([l2]:List GLeaf))++m70) s2.2.2.2)]:List GNode))++m73))))))))))) else (zY ((s3.1).length+(([l2]:List GLeaf)).length<=yB) (((slc s2.2.2.1 s3.2 ((s2.2.2.1).length:Int)).bind λm76=>(zY (((s3.1++([l2]:List GLeaf))).length+(m76).length<=yB) ((zY ((s1.1).length+(([(GNode.mk s2.2.1 ((s3.1++([l2]:List GLeaf))++m76) s2.2.2.2)]:List GNode)).length<=yB) (((slc t0 s2.1 ((t0).length:Int)).bind λm79=>(zY (((s1.1++([(GNode.mk s2.2.1 ((s3.1++([l2]:List GLeaf))++m76) s2.2.2.2)]:List GNode))).length+(m79).length<=yB) (some ((s1.1++([(GNode.mk s2.2.1 ((s3.1++([l2]:List GLeaf))++m76) s2.2.2.2)]:List GNode))++m79)))))))))))))))))))
def ref07Lay (t0:(List GNode)) (path1:(List zn)) (l2:GLeaf):Option (List GNode):=anyN λn=>xT n t0 path1 l2
def qw (t0:(List GNode)) (e1:GEvent):Option ((List GNode)×Int) :=
 ((vm t0).bind λv1=>((if ((!v1)==false)=true then x4 e1 else some default).bind λv2=>(if ((!v1) || (!v2))=true then some (([]:List GNode),(2:Int)) else ((vN e1.op.kind).bind λv4=>((vM t0 e1.op.path v4).bind λv5=>((ref05Apply v5.1 e1).bind λv6=>(if (v6.2 != (0:Int))=true then some (([]:List GNode),v6.2) else ((ref07Lay t0 e1.op.path v6.1).bind λv8=>some (v8,(0:Int))))))))))
def wx (l0:(List GQuota)) (t1:(List GNode)) (e2:GEvent):Option Bool :=
 ((law45Xgreat l0 t1 e2.op).bind λv1=>((if (v1==false)=true then meterMay l0 else some default).bind λv2=>((if ((v1 || (!v2))==false)=true then vm t1 else some default).bind λv3=>(if ((v1 || (!v2)) || (!v3))=true then ((wT).bind λv5=>some v5) else ((qD l0 t1 e2).bind λv6=>(if (!v6.1)=true then ((wT).bind λv8=>some v8) else ((meterOver l0 t1).bind λv9=>((qw t1 e2).bind λv10=>((meterOver l0 v10.1).bind λv11=>(if (((((v6.2 != (0:Int)) || (v9.2 != (0:Int))) || (v10.2 != (0:Int))) || (v11.2 != (0:Int))) || (decide (((v11.1).length:Int) > ((v9.1).length:Int))))=true then some false else ((wT).bind λv15=>some v15)))))))))))
def ref43Great (l0:(List GField)):Option Bool :=
 (lp (zk (λ(n1:Nat) (x1:GField) (s1:Unit)=>((if (decide (((x1.path).length:Int) > (10:Int)))=true then some (.ret true) else (lp (zk (λ(n2:Nat) (x2:zn) (s2:Unit)=>((if (decide (((x2).length:Int) > (40:Int)))=true then some (.ret (.ret true)) else some (.nxt ())):Option (Out _ Unit))) x1.path 0 ()) λ(s2:Unit)=>some (.nxt ()))):Option (Out _ Unit))) l0 0 ()) λ(s1:Unit)=>some (decide (((l0).length:Int) > (70:Int))))
def law43Xgreat (l0:(List GField)) (t1:(List GNode)) (o2:GOp):Option Bool :=
 ((ref43Great l0).bind λv1=>((if (v1==false)=true then qv t1 else some default).bind λv2=>some ((((v1 || v2) || (decide (((o2.dots).length:Int) > (100:Int)))) || (decide (((o2.path).length:Int) > (10:Int)))) || (decide (((o2.text).length:Int) > (200:Int))))))
def law43XknownC1 (x0:GLeaf):Option (List GNode) :=
 some ([(GNode.mk ([97]:zn) ([]:List GLeaf) ([(GNode.mk ([98]:zn) ([x0]:List GLeaf) ([]:List GNode))]:List GNode))]:List GNode)
def qU (s0:(List GField)) (f1:(GField->Option Bool)):Option Int :=
 (lp (zk (λ(n1:Nat) (x1:GField) (s1:Unit)=>(((f1 x1).bind λv7=>(if v7=true then some (.ret (n1:Int)) else some (.nxt ()))):Option (Out _ Unit))) s0 0 ()) λ(s1:Unit)=>some (-1:Int))
def slicesContainsFuncField (s0:(List GField)) (f1:(GField->Option Bool)):Option Bool :=
 ((qU s0 f1).bind λv1=>some (decide (v1 >= (0:Int))))
def pathsXparts (p0:(List zn)):Option ((List zn)×Bool) :=
 (zY (((decide (((p0).length:Int) > (0:Int)))==true)=true->0<=(IntKind.wrap .i64 (((p0).length:Int) - (1:Int)))/\(IntKind.wrap .i64 (((p0).length:Int) - (1:Int))) < ((p0).length:Int)) ((if ((decide (((p0).length:Int) > (0:Int)))&&(((p0).getD (IntKind.wrap .i64 (((p0).length:Int) - (1:Int))).toNat default)==([42,42]:zn)))=true then ((slc p0 (0:Int) (IntKind.wrap .i64 (((p0).length:Int) - (1:Int)))).bind λm4=>some (m4,true)) else some (p0,false))))
def pathsMayPatternC1 (s0:zn):Option Bool :=
 ((if ((!(s0==([42]:zn)))==true)=true then qY s0 else some default).bind λv1=>some ((!(s0==([42]:zn)))&&(!v1)))
def pathsMayPattern (p0:(List zn)):Option Bool :=
 ((pathsXparts p0).bind λv1=>((if ((((decide (((v1.1).length:Int) > (0:Int))) || v1.2)&&(decide (((v1.1).length:Int)<=(3:Int))))==true)=true then yv v1.1 (λx0=>pathsMayPatternC1 x0) else some default).bind λv4=>some ((((decide (((v1.1).length:Int) > (0:Int))) || v1.2)&&(decide (((v1.1).length:Int)<=(3:Int))))&&(!v4))))
def schemaXmayOne (f0:GField):Option Bool :=
 ((pathsMayPattern f0.path).bind λv1=>some ((((v1&&((IntKind.wrap .u8 (((BitVec.ofInt (IntKind.bits .u8) f0.types &&& ~~~(BitVec.ofInt (IntKind.bits .u8) (30:Int))).toNat:Int)))==(0:Int)))&&(decide (f0.min<=f0.max)))&&(decide (f0.items >= (0:Int))))&&(decide (f0.items<=(1000:Int)))))
def schemaMayC1 (f0:GField):Option Bool :=
 ((schemaXmayOne f0).bind λv1=>some (!v1))
def schemaMay (l0:(List GField)):Option Bool :=
 ((if ((decide (((l0).length:Int)<=(64:Int)))==true)=true then slicesContainsFuncField l0 (λx0=>schemaMayC1 x0) else some default).bind λv2=>some ((decide (((l0).length:Int)<=(64:Int)))&&(!v2)))
def schemaXbreachC2 (c0:GLeaf) (c1:GField):Option Bool :=
 some ((decide (c0.n >= c1.min))&&(decide (c0.n<=c1.max)))
def schemaXbreachC3  : Option Bool :=
 some true
def pathsMatch (p0:(List zn)) (path1:(List zn)):Option Bool :=
 ((pathsXparts p0).bind λv1=>((pathsMayPattern p0).bind λv2=>((if ((!v2)==false)=true then qA path1 else some default).bind λv3=>(if ((((!v2) || (!v3)) || (decide (((path1).length:Int) < ((v1.1).length:Int)))) || ((decide (((path1).length:Int) > ((v1.1).length:Int)))&&(!v1.2)))=true then some false else (lp (zk (λ(n1:Nat) (x1:zn) (s1:Unit)=>((zY (((!(x1==([42]:zn)))==true)=true->0<=(n1:Int)/\(n1:Int) < ((path1).length:Int)) ((if ((!(x1==([42]:zn)))&&(!(x1==((path1).getD (n1:Int).toNat default))))=true then some (.ret false) else some (.nxt ())))):Option (Out _ Unit))) v1.1 0 ()) λ(s1:Unit)=>some true)))))
def schemaXfieldC1 (f0:GField) (c0:(List zn)):Option Bool :=
 ((pathsMatch f0.path c0).bind λv1=>some v1)
def schemaXfield (l0:(List GField)) (path1:(List zn)):Option (GField×Bool) :=
 ((qU l0 (λx0=>schemaXfieldC1 x0 path1)).bind λv1=>(if (decide (v1 < (0:Int)))=true then some ((GField.mk ([]:List zn) (0:Int) (0:Int) (0:Int) (0:Int)),false) else ((yi l0 v1).bind λy3=>some (y3,true))))
def schemaXbreachC1 (c0:GLeaf) (c1:GField):Option Bool :=
 some (decide (((c0.items).length:Int)<=c1.items))
def schemaXbreach (l0:(List GField)) (path1:(List zn)) (x2:GLeaf):Option Int :=
 ((schemaXfield l0 path1).bind λv1=>(if (!v1.2)=true then some (7:Int) else (zY (¬ x2.typ < 0) ((if ((IntKind.wrap .u8 (((BitVec.ofInt (IntKind.bits .u8) (Int.fdiv v1.1.types (2 ^ (min x2.typ.toNat (IntKind.bits .u8)))) &&& BitVec.ofInt (IntKind.bits .u8) (1:Int)).toNat:Int)))==(0:Int))=true then some (15:Int) else (if x2.typ=1 then ((schemaXbreachC2 x2 v1.1).bind λv6=>(if (!v6)=true then some (14:Int) else some (0:Int))) else (if x2.typ=2 then ((schemaXbreachC3).bind λv9=>(if (!v9)=true then some (14:Int) else some (0:Int))) else (if x2.typ=3 then ((schemaXbreachC1 x2 v1.1).bind λv12=>(if (!v12)=true then some (14:Int) else some (0:Int))) else (if x2.typ=4 then ((schemaXbreachC1 x2 v1.1).bind λv15=>(if (!v15)=true then some (14:Int) else some (0:Int))) else none)))))))))
def schemaAllows (l0:(List GField)) (t1:(List GNode)) (e2:GEvent):Option Int :=
 ((schemaMay l0).bind λv1=>((if ((!v1)==false)=true then w8 t1 else some default).bind λv2=>((if (((!v1) || (!v2))==false)=true then wP e2 else some default).bind λv3=>(if (((!v1) || (!v2)) || (!v3))=true then some (2:Int) else ((qr t1 e2).bind λv5=>((opType e2.op.kind).bind λv6=>((wr v5.1 e2.op.path v6).bind λv7=>((schemaXbreach l0 e2.op.path v7.1).bind λv8=>some v8))))))))
def schemaCheck (l0:(List GField)) (t1:(List GNode)):Option ((List GBreach)×Int) :=
 ((schemaMay l0).bind λv1=>((if ((!v1)==false)=true then w8 t1 else some default).bind λv2=>(if ((!v1) || (!v2))=true then some (([]:List GBreach),(2:Int)) else ((qy t1).bind λv4=>(lp (zk (λ(n1:Nat) (x1:GRow) (s1:(List GBreach))=>(((schemaXbreach l0 x1.path x1.leaf).bind λv13=>(if (v13 != (0:Int))=true then (zY ((s1).length+(([(GBreach.mk x1.path x1.leaf.typ v13)]:List GBreach)).length<=yB) (some (.nxt (s1++([(GBreach.mk x1.path x1.leaf.typ v13)]:List GBreach))))) else some (.nxt s1))):Option (Out _ (List GBreach)))) v4 0 ([]:List GBreach)) λ(s1:(List GBreach))=>some (s1,(0:Int)))))))
def law43Xknown  : Option Bool :=
 ((law43XknownC1 (GLeaf.mk (3:Int) (0:Int) (0:Int) (GDot.mk (GActor.mk (0:Int) (0:Int)) (0:Int)) ([]:zn) ([]:List GItem) ([]:List GDot))).bind λv1=>((schemaCheck ([(GField.mk ([([97]:zn),([42]:zn)]:List zn) (2:Int) (0:Int) (10:Int) (0:Int))]:List GField) v1).bind λv2=>((law43XknownC1 (GLeaf.mk (1:Int) (9:Int) (0:Int) (GDot.mk (GActor.mk (0:Int) (0:Int)) (0:Int)) ([]:zn) ([]:List GItem) ([]:List GDot))).bind λv3=>((schemaAllows ([(GField.mk ([([97]:zn),([42]:zn)]:List zn) (2:Int) (0:Int) (10:Int) (0:Int))]:List GField) v3 (GEvent.mk (GDot.mk (GActor.mk (0:Int) (1:Int)) (1:Int)) (1:Int) (GOp.mk (1:Int) ([([97]:zn),([98]:zn)]:List zn) (2:Int) ([]:zn) ([]:List GDot)))).bind λv4=>(zY (((((v4==(14:Int))&&(v2.2==(0:Int)))&&(((v2.1).length:Int)==(1:Int)))==true)=true->0<=(0:Int)/\(0:Int) < ((v2.1).length:Int)) (some ((((v4==(14:Int))&&(v2.2==(0:Int)))&&(((v2.1).length:Int)==(1:Int)))&&(((v2.1).getD (0:Int).toNat default).e==(15:Int)))))))))
def ref30XmatchesN:Nat->(p0:(List zn))->(path1:(List zn))->Option Bool
 | 0,_,_=>none
 | n+1,p0,path1=>(if (((p0).length:Int)==(0:Int))=true then some (((path1).length:Int)==(0:Int)) else ((yi p0 (0:Int)).bind λy4=>(if (y4==([42,42]:zn))=true then some true else (zY (((decide (((path1).length:Int) > (0:Int)))==true)=true->0<=(0:Int)/\(0:Int) < ((p0).length:Int)) ((zY ((((decide (((path1).length:Int) > (0:Int)))==true)&&((((p0).getD (0:Int).toNat default)==([42]:zn))==false))=true->0<=(0:Int)/\(0:Int) < ((p0).length:Int)) ((zY ((((decide (((path1).length:Int) > (0:Int)))==true)&&((((p0).getD (0:Int).toNat default)==([42]:zn))==false))=true->0<=(0:Int)/\(0:Int) < ((path1).length:Int)) ((zY ((((decide (((path1).length:Int) > (0:Int)))&&((((p0).getD (0:Int).toNat default)==([42]:zn)) || (((p0).getD (0:Int).toNat default)==((path1).getD (0:Int).toNat default))))==true)=true->0<=(1:Int)/\(1:Int)<=((p0).length:Int)/\((p0).length:Int)<=((p0).length:Int)) ((zY ((((decide (((path1).length:Int) > (0:Int)))&&((((p0).getD (0:Int).toNat default)==([42]:zn)) || (((p0).getD (0:Int).toNat default)==((path1).getD (0:Int).toNat default))))==true)=true->0<=(1:Int)/\(1:Int)<=((path1).length:Int)/\((path1).length:Int)<=((path1).length:Int)) (((if (((decide (((path1).length:Int) > (0:Int)))&&((((p0).getD (0:Int).toNat default)==([42]:zn)) || (((p0).getD (0:Int).toNat default)==((path1).getD (0:Int).toNat default))))==true)=true then ref30XmatchesN n ((p0.take ((p0).length:Int).toNat).drop (1:Int).toNat) ((path1.take ((path1).length:Int).toNat).drop (1:Int).toNat) else some default).bind λv14=>some (((decide (((path1).length:Int) > (0:Int)))&&((((p0).getD (0:Int).toNat default)==([42]:zn)) || (((p0).getD (0:Int).toNat default)==((path1).getD (0:Int).toNat default))))&&v14)))))))))))))))
def ref30Xmatches (p0:(List zn)) (path1:(List zn)):Option Bool:=anyN λn=>ref30XmatchesN n p0 path1
def ref30MayPattern (p0:(List zn)):Option Bool :=
 (zY (((decide (((p0).length:Int) > (0:Int)))==true)=true->0<=(IntKind.wrap .i64 (((p0).length:Int) - (1:Int)))/\(IntKind.wrap .i64 (((p0).length:Int) - (1:Int))) < ((p0).length:Int)) ((if ((decide (((p0).length:Int) > (0:Int)))&&(((p0).getD (IntKind.wrap .i64 (((p0).length:Int) - (1:Int))).toNat default)==([42,42]:zn)))=true then (if ((IntKind.wrap .i64 (((p0).length:Int) - (1:Int)))==(0:Int))=true then some true else (if ((decide ((IntKind.wrap .i64 (((p0).length:Int) - (1:Int))) < (1:Int))) || (decide ((IntKind.wrap .i64 (((p0).length:Int) - (1:Int))) > (3:Int))))=true then some false else (zY ((IntKind.wrap .i64 (((p0).length:Int) - (1:Int)))<=9223372036854775807) (lp (zk (λ(n1:Nat) (x1:Nat) (s1:Unit)=>(((yi p0 (n1:Int)).bind λy12=>(zY (((!(y12==([42]:zn)))==true)=true->0<=(n1:Int)/\(n1:Int) < ((p0).length:Int)) (((if ((!(y12==([42]:zn)))==true)=true then wc ((p0).getD (n1:Int).toNat default) else some default).bind λv14=>(if ((!(y12==([42]:zn)))&&(!v14))=true then some (.ret false) else some (.nxt ())))))):Option (Out _ Unit))) (List.range (((IntKind.wrap .i64 (((p0).length:Int) - (1:Int)))).toNat)) 0 ()) λ(s1:Unit)=>some true)))) else (if ((decide (((p0).length:Int) < (1:Int))) || (decide (((p0).length:Int) > (3:Int))))=true then some false else (lp (zk (λ(n1:Nat) (x1:zn) (s1:Unit)=>((zY (((!(x1==([42]:zn)))==true)=true->0<=(n1:Int)/\(n1:Int) < ((p0).length:Int)) (((if ((!(x1==([42]:zn)))==true)=true then wc ((p0).getD (n1:Int).toNat default) else some default).bind λv24=>(if ((!(x1==([42]:zn)))&&(!v24))=true then some (.ret false) else some (.nxt ()))))):Option (Out _ Unit))) p0 0 ()) λ(s1:Unit)=>some true)))))
def ref30Match (p0:(List zn)) (path1:(List zn)):Option Bool :=
 ((ref30MayPattern p0).bind λv1=>((if (v1==true)=true then vZ path1 else some default).bind λv2=>((if ((v1&&v2)==true)=true then ref30Xmatches p0 path1 else some default).bind λv3=>some ((v1&&v2)&&v3))))
def ref43Xfield (l0:(List GField)) (path1:(List zn)):Option Int :=
 (lp (zk (λ(n1:Nat) (x1:GField) (s1:Unit)=>(((ref30Match x1.path path1).bind λv9=>(if v9=true then some (.ret (n1:Int)) else some (.nxt ()))):Option (Out _ Unit))) l0 0 ()) λ(s1:Unit)=>some (-1:Int))
def ref43Xbit (n0:Int) (k1:Int):Option Bool :=
 (zY (k1<=255) (lp (zk (λ(n1:Nat) (x1:Nat) (s1:Int)=>(some (.nxt (IntKind.wrap .u8 (Int.tdiv s1 (2:Int)))):Option (Out _ Int))) (List.range k1.toNat) 0 n0) λ(s1:Int)=>some (Int.tmod s1 (2:Int)==(1:Int))))
def ref43Breach (l0:(List GField)) (path1:(List zn)) (x2:GLeaf):Option Int :=
 ((ref43Xfield l0 path1).bind λv1=>(if (decide (v1 < (0:Int)))=true then some (7:Int) else ((yi l0 v1).bind λy3=>((ref43Xbit y3.types x2.typ).bind λv4=>(if (!v4)=true then some (15:Int) else (zY (((x2.typ==(1:Int))==true)=true->0<=v1/\v1 < ((l0).length:Int)) ((zY ((((x2.typ==(1:Int))==true)&&((decide (x2.n < ((l0).getD v1.toNat default).min))==false))=true->0<=v1/\v1 < ((l0).length:Int)) ((if ((x2.typ==(1:Int))&&((decide (x2.n < ((l0).getD v1.toNat default).min)) || (decide (x2.n > ((l0).getD v1.toNat default).max))))=true then some (14:Int) else ((yi l0 v1).bind λy10=>(if (((decide (((x2.items).length:Int) > y10.items))&&(x2.typ != (1:Int)))&&(x2.typ != (2:Int)))=true then some (14:Int) else some (0:Int)))))))))))))
def ref43May (l0:(List GField)):Option Bool :=
 (if (decide (((l0).length:Int) > (64:Int)))=true then some false else (lp (zk (λ(n1:Nat) (x1:GField) (s1:Unit)=>(((ref30MayPattern x1.path).bind λv12=>((if ((!v12)==false)=true then ref43Xbit x1.types (0:Int) else some default).bind λv13=>(if ((((((!v12) || v13) || (decide (x1.types > (31:Int)))) || (decide (x1.min > x1.max))) || (decide (x1.items < (0:Int)))) || (decide (x1.items > (1000:Int))))=true then some (.ret false) else some (.nxt ())))):Option (Out _ Unit))) l0 0 ()) λ(s1:Unit)=>some true))
def ref07RowsN:Nat->(t0:(List GNode))->(ahead1:(List zn))->Option (List GVarveref07Row)
 | 0,_,_=>none
 | n+1,t0,ahead1=>(lp (zk (λ(n1:Nat) (x1:GNode) (s1:(List GVarveref07Row))=>((zY ((([]:List zn)).length+(ahead1).length<=yB) ((zY (((([]:List zn)++ahead1)).length+(([x1.name]:List zn)).length<=yB) ((lp (zk (λ(n2:Nat) (x2:GLeaf) (s2:(List GVarveref07Row))=>((zY ((s2).length+(([(GVarveref07Row.mk ((([]:List zn)++ahead1)++([x1.name]:List zn)) x2)]:List GVarveref07Row)).length<=yB) (some (.nxt (s2++([(GVarveref07Row.mk ((([]:List zn)++ahead1)++([x1.name]:List zn)) x2)]:List GVarveref07Row))))):Option (Out _ (List GVarveref07Row)))) x1.leaves 0 s1) λ(s2:(List GVarveref07Row))=>((ref07RowsN n x1.subs ((([]:List zn)++ahead1)++([x1.name]:List zn))).bind λv44=>(zY ((s2).length+(v44).length<=yB) (some (.nxt (s2++v44)))))))))):Option (Out _ (List GVarveref07Row)))) t0 0 ([]:List GVarveref07Row)) λ(s1:(List GVarveref07Row))=>some s1)
def ref07Rows (t0:(List GNode)) (ahead1:(List zn)):Option (List GVarveref07Row):=anyN λn=>ref07RowsN n t0 ahead1
def ref30Rows (t0:(List GNode)):Option (List GRow) :=
 ((vm t0).bind λv1=>(if (!v1)=true then some ([]:List GRow) else ((ref07Rows t0 ([]:List zn)).bind λv3=>(lp (zk (λ(n1:Nat) (x1:GVarveref07Row) (s1:(List GRow))=>((zY ((s1).length+(([(GRow.mk x1.path x1.l)]:List GRow)).length<=yB) (some (.nxt (s1++([(GRow.mk x1.path x1.l)]:List GRow))))):Option (Out _ (List GRow)))) v3 0 ([]:List GRow)) λ(s1:(List GRow))=>some s1))))
def ref43Check (l0:(List GField)) (t1:(List GNode)):Option ((List GBreach)×Int) :=
 ((ref43May l0).bind λv1=>((if ((!v1)==false)=true then vm t1 else some default).bind λv2=>(if ((!v1) || (!v2))=true then some (([]:List GBreach),(2:Int)) else ((ref30Rows t1).bind λv4=>(lp (zk (λ(n1:Nat) (x1:GRow) (s1:(List GBreach))=>(((ref43Breach l0 x1.path x1.leaf).bind λv18=>(if (v18 != (0:Int))=true then (zY ((s1).length+(([(GBreach.mk x1.path x1.leaf.typ v18)]:List GBreach)).length<=yB) (some (.nxt (s1++([(GBreach.mk x1.path x1.leaf.typ v18)]:List GBreach))))) else some (.nxt s1))):Option (Out _ (List GBreach)))) v4 0 ([]:List GBreach)) λ(s1:(List GBreach))=>some (s1,(0:Int)))))))
def diffXside (there0:Bool) (l1:GLeaf) (kind2:Int):Option Bool :=
 (if (!there0)=true then ((ww l1 zLf).bind λv2=>some v2) else ((if ((l1.typ==kind2)==true)=true then leafMay l1 else some default).bind λv3=>some ((l1.typ==kind2)&&v3)))
def cmpXisNaNString (x0:zn):Option Bool :=
 some (!(x0==x0))
def cmpCompareString (x0:zn) (y1:zn):Option Int :=
 ((cmpXisNaNString x0).bind λv1=>((cmpXisNaNString y1).bind λv2=>(if v1=true then (if v2=true then some (0:Int) else some (-1:Int)) else (if v2=true then some (1:Int) else (if (Op.bytesLess x0 y1)=true then some (-1:Int) else (if (!(Op.bytesLess x0 y1 || x0==y1))=true then some (1:Int) else some (0:Int)))))))
def slicesCompareString (s10:(List zn)) (s21:(List zn)):Option Int :=
 (lp (zk (λ(n1:Nat) (x1:zn) (s1:Unit)=>((if (decide ((n1:Int) >= ((s21).length:Int)))=true then some (.ret (1:Int)) else ((yi s21 (n1:Int)).bind λy12=>((cmpCompareString x1 y12).bind λv13=>(if (v13 != (0:Int))=true then some (.ret v13) else some (.nxt ()))))):Option (Out _ Unit))) s10 0 ()) λ(s1:Unit)=>(if (decide (((s10).length:Int) < ((s21).length:Int)))=true then some (-1:Int) else some (0:Int)))
def diffXorder (a0:GEdit) (b1:GEdit):Option Int :=
 ((slicesCompareString a0.path b1.path).bind λv1=>((yZ a0.typ b1.typ).bind λv2=>((cmpOrInt ([v1,v2]:List Int)).bind λv3=>some v3)))
def diffMay (l0:(List GEdit)):Option Bool :=
 (lp (zk (λ(n1:Nat) (x1:GEdit) (s1:Unit)=>(((if ((x1.had&&x1.has)==true)=true then ww x1.was x1.is else some default).bind λv13=>((qA x1.path).bind λv14=>((if (((((!v14) || (!((decide (x1.typ >= (1:Int)))&&(decide (x1.typ<=(4:Int)))))) || ((!x1.had)&&(!x1.has))) || ((x1.had&&x1.has)&&v13))==false)=true then diffXside x1.had x1.was x1.typ else some default).bind λv15=>((if ((((((!v14) || (!((decide (x1.typ >= (1:Int)))&&(decide (x1.typ<=(4:Int)))))) || ((!x1.had)&&(!x1.has))) || ((x1.had&&x1.has)&&v13)) || (!v15))==false)=true then diffXside x1.has x1.is x1.typ else some default).bind λv16=>(if ((((((!v14) || (!((decide (x1.typ >= (1:Int)))&&(decide (x1.typ<=(4:Int)))))) || ((!x1.had)&&(!x1.has))) || ((x1.had&&x1.has)&&v13)) || (!v15)) || (!v16))=true then some (.ret false) else (zY (((decide ((n1:Int) > (0:Int)))==true)=true->0<=(IntKind.wrap .i64 ((n1:Int) - (1:Int)))/\(IntKind.wrap .i64 ((n1:Int) - (1:Int))) < ((l0).length:Int)) (((if ((decide ((n1:Int) > (0:Int)))==true)=true then diffXorder ((l0).getD (IntKind.wrap .i64 ((n1:Int) - (1:Int))).toNat default) x1 else some default).bind λv19=>(if ((decide ((n1:Int) > (0:Int)))&&(decide (v19 >= (0:Int))))=true then some (.ret false) else some (.nxt ())))))))))):Option (Out _ Unit))) l0 0 ()) λ(s1:Unit)=>some true)
def pathsXkeptN:Nat->(t0:(List GNode))->(ahead1:(List zn))->(is2:((List zn)->Option Bool))->Option (List GNode)
 | 0,_,_,_=>none
 | n+1,t0,ahead1,is2=>(lp (zk (λ(n1:Nat) (x1:GNode) (s1:(List GNode))=>(((xu ahead1).bind λv32=>(zY ((v32).length+(([x1.name]:List zn)).length<=yB) (((pathsXkeptN n x1.subs (v32++([x1.name]:List zn)) is2).bind λv34=>(lp (zk (λ(n2:Nat) (x2:GLeaf) (s2:(List GLeaf))=>(((is2 (v32++([x1.name]:List zn))).bind λv49=>(if v49=true then ((pathsXown x2).bind λv51=>(zY ((s2).length+(([v51]:List GLeaf)).length<=yB) (some (.nxt (s2++([v51]:List GLeaf)))))) else some (.nxt s2))):Option (Out _ (List GLeaf)))) x1.leaves 0 ([]:List GLeaf)) λ(s2:(List GLeaf))=>(if (decide ((IntKind.wrap .i64 (((s2).length:Int)+((v34).length:Int))) > (0:Int)))=true then (zY ((s1).length+(([(GNode.mk x1.name s2 v34)]:List GNode)).length<=yB) (some (.nxt (s1++([(GNode.mk x1.name s2 v34)]:List GNode))))) else some (.nxt s1))))))):Option (Out _ (List GNode)))) t0 0 ([]:List GNode)) λ(s1:(List GNode))=>some s1)
def pathsXkept (t0:(List GNode)) (ahead1:(List zn)) (is2:((List zn)->Option Bool)):Option (List GNode):=anyN λn=>pathsXkeptN n t0 ahead1 is2
def pathsSelectC1 (path0:(List zn)) (c0:(List zn)):Option Bool :=
 ((pathsMatch c0 path0).bind λv1=>some v1)
def pathsSelect (t0:(List GNode)) (p1:(List zn)):Option ((List GNode)×Int) :=
 ((w8 t0).bind λv1=>((if ((!v1)==false)=true then pathsMayPattern p1 else some default).bind λv2=>(if ((!v1) || (!v2))=true then some (([]:List GNode),(2:Int)) else ((pathsXkept t0 ([]:List zn) (λx0=>pathsSelectC1 x0 p1)).bind λv4=>some (v4,(0:Int))))))
def xi (n0:GNode) (name1:zn):Option Int :=
 ((stringsCompare n0.name name1).bind λv1=>some v1)
def xO (s0:(List GLeaf)) (del1:(GLeaf->Option Bool)):Option (List GLeaf) :=
 ((yf s0 del1).bind λv1=>(if (v1==(-1:Int))=true then some s0 else (lp (yp (λ(s1:Int×Int×(List GLeaf))=>((zY ((s1.2.2).length=s0.length) ((if (decide (s1.2.1 < ((s0.length:Nat):Int)))=true then ((yi s1.2.2 s1.2.1).bind λy14=>((del1 y14).bind λv15=>(if (!v15)=true then ((yi s1.2.2 s1.1).bind λy17=>some (.nxt ((IntKind.wrap .i64 (s1.1+(1:Int))),(IntKind.wrap .i64 (s1.2.1+(1:Int))),(s1.2.2.set s1.1.toNat y14)))) else some (.nxt (s1.1,(IntKind.wrap .i64 (s1.2.1+(1:Int))),s1.2.2))))) else some (.brk (s1.1,s1.2.1,s1.2.2))))):Option (Out _ (Int×Int×(List GLeaf))))) (v1,(IntKind.wrap .i64 (v1+(1:Int))),s0)) λ(s1:Int×Int×(List GLeaf))=>(zY (0<=s1.1/\s1.1<=((s0.length:Nat):Int)) (((slc (s1.2.2.take s1.1.toNat++List.replicate (s0.length - s1.1.toNat) zLf) (0:Int) s1.1).bind λm19=>some m19))))))
def diffXlayC2 (x0:GLeaf) (c0:Int):Option Bool :=
 some (x0.typ==c0)
def diffXown (l0:GLeaf):Option GLeaf :=
 ((yo l0.items).bind λv1=>((yA l0.tombs).bind λv2=>some (GLeaf.mk l0.typ l0.n l0.time l0.dot l0.text v1 v2)))
/-- slices.SortFunc[[]varve/api.Leaf,varve/api.Leaf]: sortO -/
def slicesSortFuncLeafX:Unit:=()
def diffXlayC3 (x0:GLeaf) (y1:GLeaf):Option Int :=
 ((yZ x0.typ y1.typ).bind λv1=>some v1)
def xy:Nat->(t0:(List GNode))->(path1:(List zn))->(kind2:Int)->(l3:GLeaf)->(there4:Bool)->Option (List GNode)
 | 0,_,_,_,_,_=>none
 | n+1,t0,path1,kind2,l3,there4=>((yi path1 (0:Int)).bind λy1=>((zg t0 y1 (λx0 x1=>xi x0 x1)).bind λv2=>((yi path1 (0:Int)).bind λy3=>(lp ((if v2.2=true then ((yi t0 v2.1).bind λy7=>some (.inr (y7.name,y7.leaves,y7.subs))) else some (.inr (y3,([]:List GLeaf),([]:List GNode)))):Option (_ ⊕ (zn×(List GLeaf)×(List GNode)))) λ(s1:zn×(List GLeaf)×(List GNode))=>(lp ((if (decide (((path1).length:Int) > (1:Int)))=true then ((slc path1 (1:Int) ((path1).length:Int)).bind λm20=>((xy n s1.2.2 m20 kind2 l3 there4).bind λv21=>some (.inr (s1.2.1,v21)))) else ((yY s1.2.1).bind λv22=>((xO v22 (λx0=>diffXlayC2 x0 kind2)).bind λv23=>(if there4=true then ((diffXown l3).bind λv25=>(zY ((v23).length+(([v25]:List GLeaf)).length<=yB) (((sortO (λx y=>diffXlayC3 x y) (v23++([v25]:List GLeaf))).bind λv27=>some (.inr (v27,s1.2.2)))))) else some (.inr (v23,s1.2.2)))))):Option (_ ⊕ ((List GLeaf)×(List GNode)))) λ(s2:(List GLeaf)×(List GNode))=>((slc t0 (0:Int) v2.1).bind λm28=>((yH m28).bind λv29=>(if (decide ((IntKind.wrap .i64 (((s2.1).length:Int)+((s2.2).length:Int))) > (0:Int)))=true then (zY ((v29).length+(([(GNode.mk s1.1 s2.1 s2.2)]:List GNode)).length<=yB) ((if v2.2=true then ((slc t0 (IntKind.wrap .i64 (v2.1+(1:Int))) ((t0).length:Int)).bind λm35=>(zY (((v29++([(GNode.mk s1.1 s2.1 s2.2)]:List GNode))).length+(m35).length<=yB) (some ((v29++([(GNode.mk s1.1 s2.1 s2.2)]:List GNode))++m35)))) else ((slc t0 v2.1 ((t0).length:Int)).bind λm37=>(zY (((v29++([(GNode.mk s1.1 s2.1 s2.2)]:List GNode))).length+(m37).length<=yB) (some ((v29++([(GNode.mk s1.1 s2.1 s2.2)]:List GNode))++m37))))))) else (if v2.2=true then ((slc t0 (IntKind.wrap .i64 (v2.1+(1:Int))) ((t0).length:Int)).bind λm40=>(zY ((v29).length+(m40).length<=yB) (some (v29++m40)))) else ((slc t0 v2.1 ((t0).length:Int)).bind λm42=>(zY ((v29).length+(m42).length<=yB) (some (v29++m42)))))))))))))
def diffXlay (t0:(List GNode)) (path1:(List zn)) (kind2:Int) (l3:GLeaf) (there4:Bool):Option (List GNode):=anyN λn=>xy n t0 path1 kind2 l3 there4
def diffPatch (t0:(List GNode)) (l1:(List GEdit)):Option ((List GNode)×Int) :=
 ((w8 t0).bind λv1=>((if ((!v1)==false)=true then diffMay l1 else some default).bind λv2=>(if ((!v1) || (!v2))=true then some (([]:List GNode),(2:Int)) else ((pathsSelect t0 ([([42,42]:zn)]:List zn)).bind λv4=>(lp (zk (λ(n1:Nat) (x1:GEdit) (s1:(List GNode))=>(((wr t0 x1.path x1.typ).bind λv14=>((if (((!(v14.2==x1.had))==false)&&(v14.2==true))=true then ww v14.1 x1.was else some default).bind λv15=>(if ((!(v14.2==x1.had)) || (v14.2&&(!v15)))=true then some (.ret (([]:List GNode),(16:Int))) else ((diffXlay s1 x1.path x1.typ x1.is x1.has).bind λv17=>some (.nxt v17))))):Option (Out _ (List GNode)))) l1 0 v4.1) λ(s1:(List GNode))=>some (s1,(0:Int)))))))
def schemaFit (l0:(List GField)) (t1:(List GNode)):Option ((List GNode)×Int) :=
 ((schemaMay l0).bind λv1=>((if ((!v1)==false)=true then w8 t1 else some default).bind λv2=>(if ((!v1) || (!v2))=true then some (([]:List GNode),(2:Int)) else ((qy t1).bind λv4=>(lp (zk (λ(n1:Nat) (x1:GRow) (s1:(List GEdit))=>(((schemaXbreach l0 x1.path x1.leaf).bind λv13=>(if (v13==(0:Int))=true then (zY ((s1).length+(([(GEdit.mk x1.path x1.leaf.typ false true zLf x1.leaf)]:List GEdit)).length<=yB) (some (.nxt (s1++([(GEdit.mk x1.path x1.leaf.typ false true zLf x1.leaf)]:List GEdit))))) else some (.nxt s1))):Option (Out _ (List GEdit)))) v4 0 ([]:List GEdit)) λ(s1:(List GEdit))=>((diffPatch ([]:List GNode) s1).bind λv16=>some (v16.1,v16.2)))))))
def ref30Made (l0:(List GRow)):Option (List GNode) :=
 (lp (zk (λ(n1:Nat) (x1:GRow) (s1:(List GNode))=>(((ref07Lay s1 x1.path x1.leaf).bind λv10=>some (.nxt v10)):Option (Out _ (List GNode)))) l0 0 ([]:List GNode)) λ(s1:(List GNode))=>some s1)
def ref43Fit (l0:(List GField)) (t1:(List GNode)):Option ((List GNode)×Int) :=
 ((ref43May l0).bind λv1=>((if ((!v1)==false)=true then vm t1 else some default).bind λv2=>(if ((!v1) || (!v2))=true then some (([]:List GNode),(2:Int)) else ((ref30Rows t1).bind λv4=>(lp (zk (λ(n1:Nat) (x1:GRow) (s1:(List GRow))=>(((ref43Breach l0 x1.path x1.leaf).bind λv17=>(if (v17==(0:Int))=true then (zY ((s1).length+(([x1]:List GRow)).length<=yB) (some (.nxt (s1++([x1]:List GRow))))) else some (.nxt s1))):Option (Out _ (List GRow)))) v4 0 ([]:List GRow)) λ(s1:(List GRow))=>((ref30Made s1).bind λv20=>some (v20,(0:Int))))))))
def ref30SamePath (a0:(List zn)) (b1:(List zn)):Option Bool :=
 (if (((a0).length:Int) != ((b1).length:Int))=true then some false else (lp (zk (λ(n1:Nat) (x1:zn) (s1:Unit)=>(((yi b1 (n1:Int)).bind λy12=>(if (!(x1==y12))=true then some (.ret false) else some (.nxt ()))):Option (Out _ Unit))) a0 0 ()) λ(s1:Unit)=>some true))
def ref43Same (a0:(List GBreach)) (b1:(List GBreach)):Option Bool :=
 (if (((a0).length:Int) != ((b1).length:Int))=true then some false else (lp (zk (λ(n1:Nat) (x1:GBreach) (s1:Unit)=>(((yi b1 (n1:Int)).bind λy17=>((ref30SamePath x1.path y17.path).bind λv18=>(zY (((!v18)==false)=true->0<=(n1:Int)/\(n1:Int) < ((a0).length:Int)) ((zY (((!v18)==false)=true->0<=(n1:Int)/\(n1:Int) < ((b1).length:Int)) ((zY ((((!v18) || (((a0).getD (n1:Int).toNat default).typ != ((b1).getD (n1:Int).toNat default).typ))==false)=true->0<=(n1:Int)/\(n1:Int) < ((a0).length:Int)) ((zY ((((!v18) || (((a0).getD (n1:Int).toNat default).typ != ((b1).getD (n1:Int).toNat default).typ))==false)=true->0<=(n1:Int)/\(n1:Int) < ((b1).length:Int)) ((if (((!v18) || (((a0).getD (n1:Int).toNat default).typ != ((b1).getD (n1:Int).toNat default).typ)) || (((a0).getD (n1:Int).toNat default).e != ((b1).getD (n1:Int).toNat default).e))=true then some (.ret false) else some (.nxt ())))))))))))):Option (Out _ Unit))) a0 0 ()) λ(s1:Unit)=>some true))
def ref43Allows (l0:(List GField)) (t1:(List GNode)) (e2:GEvent):Option Int :=
 ((ref43May l0).bind λv1=>((if ((!v1)==false)=true then vm t1 else some default).bind λv2=>((if (((!v1) || (!v2))==false)=true then x4 e2 else some default).bind λv3=>(if (((!v1) || (!v2)) || (!v3))=true then some (2:Int) else ((qw t1 e2).bind λv5=>((vN e2.op.kind).bind λv6=>((vM v5.1 e2.op.path v6).bind λv7=>((ref43Breach l0 e2.op.path v7.1).bind λv8=>some v8))))))))
def ref05Same (a0:GLeaf) (b1:GLeaf):Option Bool :=
 (if (((((((a0.typ != b1.typ) || (a0.n != b1.n)) || (a0.time != b1.time)) || (!(a0.dot.actor.rep==b1.dot.actor.rep&&(a0.dot.actor.inc==b1.dot.actor.inc&&(a0.dot.seq==b1.dot.seq&&true))))) || (!(a0.text==b1.text))) || (((a0.items).length:Int) != ((b1.items).length:Int))) || (((a0.tombs).length:Int) != ((b1.tombs).length:Int)))=true then some false else (lp (zk (λ(n1:Nat) (x1:GItem) (s1:Unit)=>(((yi b1.items (n1:Int)).bind λy32=>(if (!(x1.time==y32.time&&(x1.dot.actor.rep==y32.dot.actor.rep&&(x1.dot.actor.inc==y32.dot.actor.inc&&(x1.dot.seq==y32.dot.seq&&(x1.text==y32.text&&true))))))=true then some (.ret false) else some (.nxt ()))):Option (Out _ Unit))) a0.items 0 ()) λ(s1:Unit)=>(lp (zk (λ(n2:Nat) (x2:GDot) (s2:Unit)=>(((yi b1.tombs (n2:Int)).bind λy60=>(if (!(x2.actor.rep==y60.actor.rep&&(x2.actor.inc==y60.actor.inc&&(x2.seq==y60.seq&&true))))=true then some (.ret false) else some (.nxt ()))):Option (Out _ Unit))) a0.tombs 0 ()) λ(s2:Unit)=>some true)))
def ref07SameN:Nat->(a0:(List GNode))->(b1:(List GNode))->Option Bool
 | 0,_,_=>none
 | n+1,a0,b1=>(if (((a0).length:Int) != ((b1).length:Int))=true then some false else (lp (zk (λ(n1:Nat) (x1:GNode) (s1:Unit)=>(((yi b1 (n1:Int)).bind λy41=>(zY (((!(x1.name==y41.name))==false)=true->0<=(n1:Int)/\(n1:Int) < ((a0).length:Int)) ((zY (((!(x1.name==y41.name))==false)=true->0<=(n1:Int)/\(n1:Int) < ((b1).length:Int)) ((zY ((((!(x1.name==y41.name)) || (((((a0).getD (n1:Int).toNat default).leaves).length:Int) != ((((b1).getD (n1:Int).toNat default).leaves).length:Int)))==false)=true->0<=(n1:Int)/\(n1:Int) < ((a0).length:Int)) ((zY ((((!(x1.name==y41.name)) || (((((a0).getD (n1:Int).toNat default).leaves).length:Int) != ((((b1).getD (n1:Int).toNat default).leaves).length:Int)))==false)=true->0<=(n1:Int)/\(n1:Int) < ((b1).length:Int)) (((if (((!(x1.name==y41.name)) || (((((a0).getD (n1:Int).toNat default).leaves).length:Int) != ((((b1).getD (n1:Int).toNat default).leaves).length:Int)))==false)=true then ref07SameN n (((a0).getD (n1:Int).toNat default).subs) (((b1).getD (n1:Int).toNat default).subs) else some default).bind λv48=>(if (((!(x1.name==y41.name)) || (((((a0).getD (n1:Int).toNat default).leaves).length:Int) != ((((b1).getD (n1:Int).toNat default).leaves).length:Int))) || (!v48))=true then some (.ret false) else (lp (zk (λ(n2:Nat) (x2:GLeaf) (s2:Unit)=>(((yi b1 (n1:Int)).bind λy60=>((yi y60.leaves (n2:Int)).bind λy61=>((ref05Same x2 y61).bind λv62=>(if (!v62)=true then some (.ret (.ret false)) else some (.nxt ()))))):Option (Out _ Unit))) x1.leaves 0 ()) λ(s2:Unit)=>some (.nxt ()))))))))))))):Option (Out _ Unit))) a0 0 ()) λ(s1:Unit)=>some true))
def ref07Same (a0:(List GNode)) (b1:(List GNode)):Option Bool:=anyN λn=>ref07SameN n a0 b1
def law43SchemaMakes (l0:(List GField)) (t1:(List GNode)) (e2:GEvent):Option Bool :=
 ((law43Xgreat l0 t1 e2.op).bind λv1=>(if v1=true then ((law43Xknown).bind λv3=>some v3) else ((schemaCheck l0 t1).bind λv4=>((ref43Check l0 t1).bind λv5=>((schemaFit l0 t1).bind λv6=>((ref43Fit l0 t1).bind λv7=>((schemaMay l0).bind λv8=>((ref43May l0).bind λv9=>((if ((v8==v9)==true)=true then ref43Same v4.1 v5.1 else some default).bind λv10=>((if ((((v8==v9)&&v10)&&(v4.2==v5.2))==true)=true then schemaAllows l0 t1 e2 else some default).bind λv11=>((if ((((v8==v9)&&v10)&&(v4.2==v5.2))==true)=true then ref43Allows l0 t1 e2 else some default).bind λv12=>((if (((((v8==v9)&&v10)&&(v4.2==v5.2))&&(v11==v12))==true)=true then ref07Same v6.1 v7.1 else some default).bind λv13=>((if (((((((v8==v9)&&v10)&&(v4.2==v5.2))&&(v11==v12))&&v13)&&(v6.2==v7.2))==true)=true then law43Xknown else some default).bind λv14=>some (((((((v8==v9)&&v10)&&(v4.2==v5.2))&&(v11==v12))&&v13)&&(v6.2==v7.2))&&v14))))))))))))))
end
end Go.Vv
