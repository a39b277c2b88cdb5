/- What the functions compute, as plain functions; printed by a program from the code. -/
import Derived.Test.YtdfmjndkgfpipaaGreatVvY
import Derived.Test.YtdfmjndkgfpipaaGreatVvZ
import Derived.Test.YtdfmjndkgfpipaaGreatVvLb
import Derived.Test.YtdfmjndkgfpipaaGreatVvMr
import Derived.Test.YtdfmjndkgfpipaaGreatVvIt
import Derived.Test.YtdfmjndkgfpipaaGreatVvMl
import Derived.Test.YtdfmjndkgfpipaaGreatVvRb
import Derived.Test.YtdfmjndkgfpipaaGreatVvSo
namespace Go.Vv
open Go
set_option linter.unusedVariables false
structure GActor where
 rep:Int
 inc:Int
 deriving DecidableEq,Inhabited
def GActor.eqb (a b:GActor):Bool:=(a.rep==b.rep&&(a.inc==b.inc&&true))
structure GDot where
 actor:GActor
 seq:Int
 deriving DecidableEq,Inhabited
def GDot.eqb (a b:GDot):Bool:=(a.actor.rep==b.actor.rep&&(a.actor.inc==b.actor.inc&&(a.seq==b.seq&&true)))
structure GItem where
 time:Int
 dot:GDot
 text:zJ
 deriving DecidableEq,Inhabited
def GItem.eqb (a b:GItem):Bool:=(a.time==b.time&&(a.dot.actor.rep==b.dot.actor.rep&&(a.dot.actor.inc==b.dot.actor.inc&&(a.dot.seq==b.dot.seq&&(a.text==b.text&&true)))))
structure GLeaf where
 typ:Int
 n:Int
 time:Int
 dot:GDot
 text:zJ
 items:(List GItem)
 tombs:(List GDot)
 deriving DecidableEq,Inhabited
structure GNode where
 name:zJ
 leaves:(List GLeaf)
 subs:(List GNode)
 deriving Inhabited
structure GEdit where
 path:(List zJ)
 typ:Int
 had:Bool
 has:Bool
 was:GLeaf
 is:GLeaf
 deriving DecidableEq,Inhabited
structure GRow where
 path:(List zJ)
 leaf:GLeaf
 deriving DecidableEq,Inhabited
def GActor.wf (x:GActor):Prop:=(InK .u8 x.rep)∧(InK .u32 x.inc)
def GDot.wf (x:GDot):Prop:=(GActor.wf x.actor)∧(InK .u64 x.seq)
def GItem.wf (x:GItem):Prop:=(InK .u64 x.time)∧(GDot.wf x.dot)∧(x.text.length≤maxLen)
def GLeaf.wf (x:GLeaf):Prop:=(InK .u8 x.typ)∧(InK .i64 x.n)∧(InK .u64 x.time)∧(GDot.wf x.dot)∧(x.text.length≤maxLen)∧(x.items.length≤maxLen∧∀ y ∈ x.items,GItem.wf y)∧(x.tombs.length≤maxLen∧∀ y ∈ x.tombs,GDot.wf y)
mutual
def GNode.wf:GNode→Prop
 | ⟨name,leaves,subs⟩=>(name.length≤maxLen)∧(leaves.length≤maxLen∧∀ y ∈ leaves,GLeaf.wf y)∧(GNode.wfs subs)
def GNode.wfs:List GNode→Prop
 | []=>True
 | x::r=>x.wf∧GNode.wfs r
end
theorem GNode.wfs_iff (l:List GNode):GNode.wfs l ↔ ∀ y ∈ l,GNode.wf y:=by
 induction l with
 | nil=>simp [GNode.wfs]
 | cons x r ih=>simp [GNode.wfs,ih]
def GEdit.wf (x:GEdit):Prop:=(x.path.length≤maxLen∧∀ y ∈ x.path,y.length≤maxLen)∧(InK .u8 x.typ)∧(True)∧(True)∧(GLeaf.wf x.was)∧(GLeaf.wf x.is)
def GRow.wf (x:GRow):Prop:=(x.path.length≤maxLen∧∀ y ∈ x.path,y.length≤maxLen)∧(GLeaf.wf x.leaf)
def GActor.bk (x:GActor):Nat:=(1+(1+0))+1
def GDot.bk (x:GDot):Nat:=(GActor.bk x.actor+(1+0))+1
def GItem.bk (x:GItem):Nat:=(1+(GDot.bk x.dot+((x.text.length+1)+0)))+1
def GLeaf.bk (x:GLeaf):Nat:=(1+(1+(1+(GDot.bk x.dot+((x.text.length+1)+(((x.items.map GItem.bk).sum+1)+(((x.tombs.map GDot.bk).sum+1)+0)))))))+1
mutual
def GNode.bk:GNode→Nat
 | ⟨name,leaves,subs⟩=>((name.length+1)+(((leaves.map GLeaf.bk).sum+1)+(((GNode.bks subs)+1)+0)))+1
def GNode.bks:List GNode→Nat
 | []=>0
 | x::r=>x.bk+GNode.bks r
end
theorem GNode.bks_eq (l:List GNode):GNode.bks l=(l.map GNode.bk).sum:=by
 induction l with
 | nil=>rfl
 | cons x r ih=>simp only [GNode.bks,List.map_cons,List.sum_cons,ih]
def GEdit.bk (x:GEdit):Nat:=(((x.path.map (fun s=>s.length+1)).sum+1)+(1+(1+(1+(GLeaf.bk x.was+(GLeaf.bk x.is+0))))))+1
def GRow.bk (x:GRow):Nat:=(((x.path.map (fun s=>s.length+1)).sum+1)+(GLeaf.bk x.leaf+0))+1
abbrev yw:GLeaf:=GLeaf.mk (0:Int) (0:Int) (0:Int) (GDot.mk (GActor.mk (0:Int) (0:Int)) (0:Int)) ([]:zJ) ([]:List GItem) ([]:List GDot)
noncomputable def wj:Nat→(t0:(List GNode))→(deep1:Int)→Option Int
 | 0,_,_=>none
 | n+1,t0,deep1=>(lp (qA (fun (s1:Int×Int)=>((if ((decide (s1.2 < ((t0).length:Int)))&&(decide (deep1 < (10:Int))))=true then ((idx t0 s1.2).bind fun y68=>((idx t0 s1.2).bind fun y70=>((wj n y70.subs (IntKind.wrap .i64 (deep1+(1:Int)))).bind fun v71=>(lp (qA (fun (s2:Int×Int)=>(((idx t0 s1.2).bind fun y102=>(if (decide (s2.2 < ((y102.leaves).length:Int)))=true then ((idx t0 s1.2).bind fun y105=>((idx y105.leaves s2.2).bind fun y106=>(lp (zY (fun (n3:Nat) (x3:GItem) (s3:Int)=>(some (.nxt (IntKind.wrap .i64 ((IntKind.wrap .i64 (s3+(1:Int)))+((x3.text).length:Int)))):Option (Out _ Int))) y106.items 0 (IntKind.wrap .i64 ((IntKind.wrap .i64 ((IntKind.wrap .i64 (s2.1+(1:Int)))+((y106.text).length:Int)))+((y106.tombs).length:Int)))) fun (s3:Int)=>some (.nxt (s3,(IntKind.wrap .i64 (s2.2+(1:Int)))))))) else some (.brk (s2.1,s2.2)))):Option (Out _ (Int×Int)))) ((IntKind.wrap .i64 ((IntKind.wrap .i64 ((IntKind.wrap .i64 (s1.1+(1:Int)))+((y68.name).length:Int)))+v71)),(0:Int))) fun (s2:Int×Int)=>some (.nxt (s2.1,(IntKind.wrap .i64 (s1.2+(1:Int))))))))) else some (.brk (s1.1,s1.2))):Option (Out _ (Int×Int)))) ((0:Int),(0:Int))) fun (s1:Int×Int)=>some s1.1)
noncomputable def ref07Xsize (t0:(List GNode)) (deep1:Int):Option Int:=anyN fun n=>wj n t0 deep1
noncomputable def qL (t0:(List GNode)):Option Bool :=
 ((ref07Xsize t0 (0:Int)).bind fun v1=>some (decide (v1 > (1500:Int))))
noncomputable def ref31Great (l0:(List GEdit)):Option Bool :=
 (lp (zY (fun (n1:Nat) (x1:GEdit) (s1:Unit)=>((if (((decide (((x1.path).length:Int) > (5:Int))) || (decide ((IntKind.wrap .i64 (((x1.was.items).length:Int)+((x1.is.items).length:Int))) > (20:Int)))) || (decide ((IntKind.wrap .i64 (((x1.was.tombs).length:Int)+((x1.is.tombs).length:Int))) > (20:Int))))=true then some (.ret true) else (lp (zY (fun (n2:Nat) (x2:zJ) (s2:Unit)=>((if (decide (((x2).length:Int) > (20:Int)))=true then some (.ret (.ret true)) else some (.nxt ())):Option (Out _ Unit))) x1.path 0 ()) fun (s2:Unit)=>some (.nxt ()))):Option (Out _ Unit))) l0 0 ()) fun (s1:Unit)=>some (decide (((l0).length:Int) > (20:Int))))
noncomputable def qY (a0:(List GNode)) (b1:(List GNode)) (c2:(List GNode)) (l3:(List GEdit)) (m4:(List GEdit)):Option Bool :=
 ((qL a0).bind fun v1=>((if (v1==false)=true then qL b1 else some default).bind fun v2=>((if ((v1 || v2)==false)=true then qL c2 else some default).bind fun v3=>((if (((v1 || v2) || v3)==false)=true then ref31Great l3 else some default).bind fun v4=>((if ((((v1 || v2) || v3) || v4)==false)=true then ref31Great m4 else some default).bind fun v5=>some ((((v1 || v2) || v3) || v4) || v5))))))
noncomputable def ref04IsName (s0:zJ):Option Bool :=
 (if ((decide (((s0).length:Int) < (1:Int))) || (decide (((s0).length:Int) > (12:Int))))=true then some false else (lp (zY (fun (n1:Nat) (x1:UInt8) (s1:Unit)=>((if (!((((decide ((x1.toNat:Int) ≥ (97:Int)))&&(decide ((x1.toNat:Int)≤(122:Int)))) || ((decide ((x1.toNat:Int) ≥ (65:Int)))&&(decide ((x1.toNat:Int)≤(90:Int))))) || ((decide ((x1.toNat:Int) ≥ (48:Int)))&&(decide ((x1.toNat:Int)≤(57:Int))))))=true then some (.ret false) else some (.nxt ())):Option (Out _ Unit))) s0 0 ()) fun (s1:Unit)=>some true))
noncomputable def qD (a0:GActor):Option Bool :=
 some (((decide (a0.rep≤(15:Int)))&&(decide (a0.inc ≥ (1:Int))))&&(decide (a0.inc≤(4:Int))))
noncomputable def ref03May (d0:GDot):Option Bool :=
 ((qD d0.actor).bind fun v1=>some ((v1&&(decide (d0.seq ≥ (1:Int))))&&(decide (d0.seq≤(1048576:Int)))))
noncomputable def ref05Item (l0:(List GItem)) (d1:GDot):Option Int :=
 (lp (zY (fun (n1:Nat) (x1:GItem) (s1:Unit)=>((if (x1.dot.actor.rep==d1.actor.rep&&(x1.dot.actor.inc==d1.actor.inc&&(x1.dot.seq==d1.seq&&true)))=true then some (.ret (n1:Int)) else some (.nxt ())):Option (Out _ Unit))) l0 0 ()) fun (s1:Unit)=>some (-1:Int))
noncomputable def ref05Tomb (l0:(List GDot)) (d1:GDot):Option Bool :=
 (lp (zY (fun (n1:Nat) (x1:GDot) (s1:Unit)=>((if (x1.actor.rep==d1.actor.rep&&(x1.actor.inc==d1.actor.inc&&(x1.seq==d1.seq&&true)))=true then some (.ret true) else some (.nxt ())):Option (Out _ Unit))) l0 0 ()) fun (s1:Unit)=>some false)
noncomputable def ref03Less (a0:GDot) (b1:GDot):Option Bool :=
 (if (a0.actor.rep != b1.actor.rep)=true then some (decide (a0.actor.rep < b1.actor.rep)) else (if (a0.actor.inc != b1.actor.inc)=true then some (decide (a0.actor.inc < b1.actor.inc)) else some (decide (a0.seq < b1.seq))))
noncomputable def ref05Ahead (time0:Int) (d1:GDot) (other2:Int) (o3:GDot):Option Bool :=
 (if (time0 != other2)=true then some (decide (time0 < other2)) else ((ref03Less d1 o3).bind fun v2=>some v2))
noncomputable def ref05May (l0:GLeaf):Option Bool :=
 (if (((((decide (l0.typ < (1:Int))) || (decide (l0.typ > (4:Int)))) || ((l0.typ != (1:Int))&&(l0.n != (0:Int)))) || ((decide (l0.typ < (3:Int)))&&(decide (((l0.items).length:Int) > (0:Int))))) || ((l0.typ != (3:Int))&&(decide (((l0.tombs).length:Int) > (0:Int)))))=true then some false else (lp ((if ((l0.typ != (2:Int)) || (l0.time==(0:Int)))=true then (if (((l0.time != (0:Int)) || (!(l0.dot.actor.rep==(0:Int)&&(l0.dot.actor.inc==(0:Int)&&(l0.dot.seq==(0:Int)&&true))))) || (!(l0.text==([]:zJ))))=true then some (.inl false) else some (.inr ())) else ((if ((decide (l0.time > (1099511627776:Int)))==false)=true then ref03May l0.dot else some default).bind fun v11=>(if (((decide (l0.time > (1099511627776:Int))) || (!v11)) || (decide (((l0.text).length:Int) > (40:Int))))=true then some (.inl false) else some (.inr ())))):Option (_ ⊕ Unit)) fun (s1:Unit)=>(lp (zY (fun (n2:Nat) (x2:GItem) (s2:Unit)=>(((ref03May x2.dot).bind fun v41=>((if (((((!v41) || (decide (((x2.text).length:Int) > (40:Int)))) || ((l0.typ==(3:Int))&&(x2.time != (0:Int)))) || ((l0.typ==(4:Int))&&((decide (x2.time < (1:Int))) || (decide (x2.time > (1099511627776:Int))))))==false)=true then ref05Item l0.items x2.dot else some default).bind fun v43=>((if ((((((!v41) || (decide (((x2.text).length:Int) > (40:Int)))) || ((l0.typ==(3:Int))&&(x2.time != (0:Int)))) || ((l0.typ==(4:Int))&&((decide (x2.time < (1:Int))) || (decide (x2.time > (1099511627776:Int)))))) || (v43 != (n2:Int)))==false)=true then ref05Tomb l0.tombs x2.dot else some default).bind fun v44=>(if ((((((!v41) || (decide (((x2.text).length:Int) > (40:Int)))) || ((l0.typ==(3:Int))&&(x2.time != (0:Int)))) || ((l0.typ==(4:Int))&&((decide (x2.time < (1:Int))) || (decide (x2.time > (1099511627776:Int)))))) || (v43 != (n2:Int))) || v44)=true then some (.ret false) else (vq (((decide ((n2:Int) > (0:Int)))==true)=true→0≤(IntKind.wrap .i64 ((n2:Int) - (1:Int)))∧(IntKind.wrap .i64 ((n2:Int) - (1:Int))) < ((l0.items).length:Int)) ((vq (((decide ((n2:Int) > (0:Int)))==true)=true→0≤(IntKind.wrap .i64 ((n2:Int) - (1:Int)))∧(IntKind.wrap .i64 ((n2:Int) - (1:Int))) < ((l0.items).length:Int)) (((if ((decide ((n2:Int) > (0:Int)))==true)=true then ref05Ahead (((l0.items).getD (IntKind.wrap .i64 ((n2:Int) - (1:Int))).toNat default).time) (((l0.items).getD (IntKind.wrap .i64 ((n2:Int) - (1:Int))).toNat default).dot) x2.time x2.dot else some default).bind fun v48=>(if ((decide ((n2:Int) > (0:Int)))&&(!v48))=true then some (.ret false) else some (.nxt ()))))))))))):Option (Out _ Unit))) l0.items 0 ()) fun (s2:Unit)=>(lp (zY (fun (n3:Nat) (x3:GDot) (s3:Unit)=>(((ref03May x3).bind fun v73=>(vq ((((!v73)==false)&&((decide ((n3:Int) > (0:Int)))==true))=true→0≤(IntKind.wrap .i64 ((n3:Int) - (1:Int)))∧(IntKind.wrap .i64 ((n3:Int) - (1:Int))) < ((l0.tombs).length:Int)) ((vq ((((!v73)==false)&&((decide ((n3:Int) > (0:Int)))==true))=true→0≤(n3:Int)∧(n3:Int) < ((l0.tombs).length:Int)) (((if (((!v73)==false)&&((decide ((n3:Int) > (0:Int)))==true))=true then ref03Less ((l0.tombs).getD (IntKind.wrap .i64 ((n3:Int) - (1:Int))).toNat default) ((l0.tombs).getD (n3:Int).toNat default) else some default).bind fun v76=>(if ((!v73) || ((decide ((n3:Int) > (0:Int)))&&(!v76)))=true then some (.ret false) else some (.nxt ())))))))):Option (Out _ Unit))) l0.tombs 0 ()) fun (s3:Unit)=>some true))))
noncomputable def qg:Nat→(t0:(List GNode))→(deep1:Int)→Option Bool
 | 0,_,_=>none
 | n+1,t0,deep1=>(lp (zY (fun (n1:Nat) (x1:GNode) (s1:Unit)=>(((if ((decide (deep1 ≥ (3:Int)))==false)=true then ref04IsName x1.name else some default).bind fun v31=>(vq (((((decide (deep1 ≥ (3:Int))) || (!v31))==false)&&((decide ((n1:Int) > (0:Int)))==true))=true→0≤(IntKind.wrap .i64 ((n1:Int) - (1:Int)))∧(IntKind.wrap .i64 ((n1:Int) - (1:Int))) < ((t0).length:Int)) (((if (((((decide (deep1 ≥ (3:Int))) || (!v31)) || ((decide ((n1:Int) > (0:Int)))&&(!(Op.bytesLess (((t0).getD (IntKind.wrap .i64 ((n1:Int) - (1:Int))).toNat default).name) x1.name)))) || ((((x1.leaves).length:Int)==(0:Int))&&(((x1.subs).length:Int)==(0:Int))))==false)=true then qg n x1.subs (IntKind.wrap .i64 (deep1+(1:Int))) else some default).bind fun v35=>(if (((((decide (deep1 ≥ (3:Int))) || (!v31)) || ((decide ((n1:Int) > (0:Int)))&&(!(Op.bytesLess (((t0).getD (IntKind.wrap .i64 ((n1:Int) - (1:Int))).toNat default).name) x1.name)))) || ((((x1.leaves).length:Int)==(0:Int))&&(((x1.subs).length:Int)==(0:Int)))) || (!v35))=true then some (.ret false) else (lp (zY (fun (n2:Nat) (x2:GLeaf) (s2:Unit)=>(((ref05May x2).bind fun v50=>(vq ((((!v50)==false)&&((decide ((n2:Int) > (0:Int)))==true))=true→0≤(IntKind.wrap .i64 ((n2:Int) - (1:Int)))∧(IntKind.wrap .i64 ((n2:Int) - (1:Int))) < ((x1.leaves).length:Int)) ((vq ((((!v50)==false)&&((decide ((n2:Int) > (0:Int)))==true))=true→0≤(n2:Int)∧(n2:Int) < ((x1.leaves).length:Int)) ((if ((!v50) || ((decide ((n2:Int) > (0:Int)))&&(decide (((x1.leaves).getD (IntKind.wrap .i64 ((n2:Int) - (1:Int))).toNat default).typ ≥ ((x1.leaves).getD (n2:Int).toNat default).typ))))=true then some (.ret (.ret false)) else some (.nxt ()))))))):Option (Out _ Unit))) x1.leaves 0 ()) fun (s2:Unit)=>some (.nxt ()))))))):Option (Out _ Unit))) t0 0 ()) fun (s1:Unit)=>some true)
noncomputable def ref07Xmay (t0:(List GNode)) (deep1:Int):Option Bool:=anyN fun n=>qg n t0 deep1
noncomputable def ref07May (t0:(List GNode)):Option Bool :=
 ((ref07Xmay t0 (0:Int)).bind fun v1=>some v1)
noncomputable def qU (p0:(List zJ)):Option ((List zJ)×Bool) :=
 (vq (((decide (((p0).length:Int) > (0:Int)))==true)=true→0≤(IntKind.wrap .i64 (((p0).length:Int) - (1:Int)))∧(IntKind.wrap .i64 (((p0).length:Int) - (1:Int))) < ((p0).length:Int)) ((if ((decide (((p0).length:Int) > (0:Int)))&&(((p0).getD (IntKind.wrap .i64 (((p0).length:Int) - (1:Int))).toNat default)==([42,42]:zJ)))=true then ((slc p0 (0:Int) (IntKind.wrap .i64 (((p0).length:Int) - (1:Int)))).bind fun m4=>some (m4,true)) else some (p0,false))))
noncomputable def opIsNameC1 (r0:Int):Option Bool :=
 some ((((decide (r0 < (97:Int))) || (decide (r0 > (122:Int))))&&((decide (r0 < (65:Int))) || (decide (r0 > (90:Int)))))&&((decide (r0 < (48:Int))) || (decide (r0 > (57:Int)))))
noncomputable def qb (s0:zJ) (f1:(Int→Option Bool)) (truth2:Bool):Option Int :=
 (lp (qA (fun (s1:Nat)=>((if s1 < (s0).length then ((f1 ((dec s0 s1).1:Int)).bind fun v6=>(if (v6==truth2)=true then some (.ret (s1:Int)) else some (.nxt (s1+(dec s0 s1).2)))) else some (.brk s1)):Option (Out _ Nat))) 0) fun (s1:Nat)=>some (-1:Int))
noncomputable def qs (s0:zJ) (f1:(Int→Option Bool)):Option Int :=
 ((qb s0 f1 true).bind fun v1=>some v1)
noncomputable def wz (s0:zJ) (f1:(Int→Option Bool)):Option Bool :=
 ((qs s0 f1).bind fun v1=>some (decide (v1 ≥ (0:Int))))
noncomputable def opIsName (s0:zJ):Option Bool :=
 ((if (((decide (((s0).length:Int) ≥ (1:Int)))&&(decide (((s0).length:Int)≤(12:Int))))==true)=true then wz s0 (fun x0=>opIsNameC1 x0) else some default).bind fun v3=>some (((decide (((s0).length:Int) ≥ (1:Int)))&&(decide (((s0).length:Int)≤(12:Int))))&&(!v3)))
noncomputable def qc (s0:zJ):Option Bool :=
 ((if ((!(s0==([42]:zJ)))==true)=true then opIsName s0 else some default).bind fun v1=>some ((!(s0==([42]:zJ)))&&(!v1)))
noncomputable def wP (s0:(List zJ)) (f1:(zJ→Option Bool)):Option Int :=
 (lp (zY (fun (n1:Nat) (x1:zJ) (s1:Unit)=>(((f1 x1).bind fun v7=>(if v7=true then some (.ret (n1:Int)) else some (.nxt ()))):Option (Out _ Unit))) s0 0 ()) fun (s1:Unit)=>some (-1:Int))
noncomputable def xk (s0:(List zJ)) (f1:(zJ→Option Bool)):Option Bool :=
 ((wP s0 f1).bind fun v1=>some (decide (v1 ≥ (0:Int))))
noncomputable def x5 (p0:(List zJ)):Option Bool :=
 ((qU p0).bind fun v1=>((if ((((decide (((v1.1).length:Int) > (0:Int))) || v1.2)&&(decide (((v1.1).length:Int)≤(3:Int))))==true)=true then xk v1.1 (fun x0=>qc x0) else some default).bind fun v4=>some ((((decide (((v1.1).length:Int) > (0:Int))) || v1.2)&&(decide (((v1.1).length:Int)≤(3:Int))))&&(!v4))))
noncomputable def qp (x0:Int):Option Bool :=
 some (x0 != x0)
noncomputable def wx (x0:Int) (y1:Int):Option Int :=
 ((qp x0).bind fun v1=>((qp y1).bind fun v2=>(if v1=true then (if v2=true then some (0:Int) else some (-1:Int)) else (if v2=true then some (1:Int) else (if (decide (x0 < y1))=true then some (-1:Int) else (if (decide (x0 > y1))=true then some (1:Int) else some (0:Int)))))))
noncomputable def cmpOrInt (vals0:(List Int)):Option Int :=
 (lp (zY (fun (n1:Nat) (x1:Int) (s1:Unit)=>((if (x1 != (0:Int))=true then some (.ret x1) else some (.nxt ())):Option (Out _ Unit))) vals0 0 ()) fun (s1:Unit)=>some (0:Int))
noncomputable def ww (x0:zJ):Option Bool :=
 some (!(x0==x0))
noncomputable def xn (x0:zJ) (y1:zJ):Option Int :=
 ((ww x0).bind fun v1=>((ww y1).bind fun v2=>(if v1=true then (if v2=true then some (0:Int) else some (-1:Int)) else (if v2=true then some (1:Int) else (if (Op.bytesLess x0 y1)=true then some (-1:Int) else (if (!(Op.bytesLess x0 y1 || x0==y1))=true then some (1:Int) else some (0:Int)))))))
noncomputable def xG (s10:(List zJ)) (s21:(List zJ)):Option Int :=
 (lp (zY (fun (n1:Nat) (x1:zJ) (s1:Unit)=>((if (decide ((n1:Int) ≥ ((s21).length:Int)))=true then some (.ret (1:Int)) else ((idx s21 (n1:Int)).bind fun y12=>((xn x1 y12).bind fun v13=>(if (v13 != (0:Int))=true then some (.ret v13) else some (.nxt ()))))):Option (Out _ Unit))) s10 0 ()) fun (s1:Unit)=>(if (decide (((s10).length:Int) < ((s21).length:Int)))=true then some (-1:Int) else some (0:Int)))
noncomputable def ql (a0:GEdit) (b1:GEdit):Option Int :=
 ((xG a0.path b1.path).bind fun v1=>((wx a0.typ b1.typ).bind fun v2=>((cmpOrInt ([v1,v2]:List Int)).bind fun v3=>some v3)))
noncomputable def qf (s10:(List GDot)) (s21:(List GDot)):Option Bool :=
 (if (((s10).length:Int) != ((s21).length:Int))=true then some false else (lp (zY (fun (n1:Nat) (x1:GDot) (s1:Unit)=>(((idx s21 (n1:Int)).bind fun y10=>(if (!(x1.actor.rep==y10.actor.rep&&(x1.actor.inc==y10.actor.inc&&(x1.seq==y10.seq&&true))))=true then some (.ret false) else some (.nxt ()))):Option (Out _ Unit))) s10 0 ()) fun (s1:Unit)=>some true))
noncomputable def vT (s10:(List GItem)) (s21:(List GItem)):Option Bool :=
 (if (((s10).length:Int) != ((s21).length:Int))=true then some false else (lp (zY (fun (n1:Nat) (x1:GItem) (s1:Unit)=>(((idx s21 (n1:Int)).bind fun y10=>(if (!(x1.time==y10.time&&(x1.dot.actor.rep==y10.dot.actor.rep&&(x1.dot.actor.inc==y10.dot.actor.inc&&(x1.dot.seq==y10.dot.seq&&(x1.text==y10.text&&true))))))=true then some (.ret false) else some (.nxt ()))):Option (Out _ Unit))) s10 0 ()) fun (s1:Unit)=>some true))
noncomputable def wB (a0:GLeaf) (b1:GLeaf):Option Bool :=
 ((if ((((((a0.typ==b1.typ)&&(a0.n==b1.n))&&(a0.time==b1.time))&&(a0.dot.actor.rep==b1.dot.actor.rep&&(a0.dot.actor.inc==b1.dot.actor.inc&&(a0.dot.seq==b1.dot.seq&&true))))&&(a0.text==b1.text))==true)=true then vT a0.items b1.items else some default).bind fun v1=>((if (((((((a0.typ==b1.typ)&&(a0.n==b1.n))&&(a0.time==b1.time))&&(a0.dot.actor.rep==b1.dot.actor.rep&&(a0.dot.actor.inc==b1.dot.actor.inc&&(a0.dot.seq==b1.dot.seq&&true))))&&(a0.text==b1.text))&&v1)==true)=true then qf a0.tombs b1.tombs else some default).bind fun v2=>some (((((((a0.typ==b1.typ)&&(a0.n==b1.n))&&(a0.time==b1.time))&&(a0.dot.actor.rep==b1.dot.actor.rep&&(a0.dot.actor.inc==b1.dot.actor.inc&&(a0.dot.seq==b1.dot.seq&&true))))&&(a0.text==b1.text))&&v1)&&v2)))
/-- slices.SortFunc[[]varve/api.Edit,varve/api.Edit]: sortO -/
def slicesSortFuncEditX:Unit:=()
noncomputable def xW (s0:(List zJ)):Option (List zJ) :=
 (nilq s0 fun b1=>(if b1=true then some ([]:List zJ) else (vq ((([]:List zJ)).length+(s0).length≤qB) (some (([]:List zJ)++s0)))))
noncomputable def wv (s0:(List GItem)):Option (List GItem) :=
 (nilq s0 fun b1=>(if b1=true then some ([]:List GItem) else (vq ((([]:List GItem)).length+(s0).length≤qB) (some (([]:List GItem)++s0)))))
noncomputable def wL (s0:(List GDot)):Option (List GDot) :=
 (nilq s0 fun b1=>(if b1=true then some ([]:List GDot) else (vq ((([]:List GDot)).length+(s0).length≤qB) (some (([]:List GDot)++s0)))))
noncomputable def diffXown (l0:GLeaf):Option GLeaf :=
 ((wv l0.items).bind fun v1=>((wL l0.tombs).bind fun v2=>some (GLeaf.mk l0.typ l0.n l0.time l0.dot l0.text v1 v2)))
noncomputable def qn (e0:GEdit):Option GEdit :=
 ((xW e0.path).bind fun v1=>((diffXown e0.was).bind fun v2=>((diffXown e0.is).bind fun v3=>some (GEdit.mk v1 e0.typ e0.had e0.has v2 v3))))
noncomputable def q8 (byy0:List (zJ×GEdit)):Option (List GEdit) :=
 (allP byy0 fun p1=>lp (zY (fun (_:Nat) (x1:(zJ×GEdit)) (s1:(List GEdit))=>(((if ((x1.2.had==x1.2.has)==true)=true then wB x1.2.was x1.2.is else some default).bind fun v7=>(if (!((x1.2.had==x1.2.has)&&v7))=true then ((qn x1.2).bind fun v9=>(vq ((s1).length+(([v9]:List GEdit)).length≤qB) (some (.nxt (s1++([v9]:List GEdit)))))) else some (.nxt s1))):Option (Out _ (List GEdit)))) p1 0 ([]:List GEdit)) fun (s1:(List GEdit))=>((sortO (fun x y=>ql x y) s1).bind fun v11=>some v11))
noncomputable def vX (x0:Int):Option Bool :=
 some (x0 != x0)
noncomputable def wI (x0:Int) (y1:Int):Option Int :=
 ((vX x0).bind fun v1=>((vX y1).bind fun v2=>(if v1=true then (if v2=true then some (0:Int) else some (-1:Int)) else (if v2=true then some (1:Int) else (if (decide (x0 < y1))=true then some (-1:Int) else (if (decide (x0 > y1))=true then some (1:Int) else some (0:Int)))))))
noncomputable def vY (x0:Int):Option Bool :=
 some (x0 != x0)
noncomputable def vH (x0:Int) (y1:Int):Option Int :=
 ((vY x0).bind fun v1=>((vY y1).bind fun v2=>(if v1=true then (if v2=true then some (0:Int) else some (-1:Int)) else (if v2=true then some (1:Int) else (if (decide (x0 < y1))=true then some (-1:Int) else (if (decide (x0 > y1))=true then some (1:Int) else some (0:Int)))))))
noncomputable def dotXcompare (a0:GActor) (b1:GActor):Option Int :=
 ((wx a0.rep b1.rep).bind fun v1=>((vH a0.inc b1.inc).bind fun v2=>((cmpOrInt ([v1,v2]:List Int)).bind fun v3=>some v3)))
noncomputable def dotCompare (a0:GDot) (b1:GDot):Option Int :=
 ((dotXcompare a0.actor b1.actor).bind fun v1=>((wI a0.seq b1.seq).bind fun v2=>((cmpOrInt ([v1,v2]:List Int)).bind fun v3=>some v3)))
noncomputable def leafXcompare (a0:Int) (d1:GDot) (b2:Int) (o3:GDot):Option Int :=
 ((wI a0 b2).bind fun v1=>((dotCompare d1 o3).bind fun v2=>((cmpOrInt ([v1,v2]:List Int)).bind fun v3=>some v3)))
noncomputable def leafAhead (time0:Int) (d1:GDot) (other2:Int) (o3:GDot):Option Bool :=
 ((leafXcompare time0 d1 other2 o3).bind fun v1=>some (decide (v1 < (0:Int))))
noncomputable def leafXtwice (l0:(List GItem)):Option Bool :=
 (lp (zY (fun (n1:Nat) (x1:GItem) (s1:List (GDot×Int))=>(some (.nxt (mput GDot.eqb s1 x1.dot (IntKind.wrap .i64 ((zT GDot.eqb (0:Int) s1 x1.dot)+(1:Int))))):Option (Out _ (List (GDot×Int))))) l0 0 ([]:List (GDot×Int))) fun (s1:List (GDot×Int))=>some (decide (((s1).length:Int) < ((l0).length:Int))))
noncomputable def leafXisTime (n0:Int):Option Bool :=
 some ((decide (n0 ≥ (1:Int)))&&(decide (n0≤(1099511627776:Int))))
noncomputable def dotMayActor (a0:GActor):Option Bool :=
 some (((decide (a0.rep < (16:Int)))&&(decide (a0.inc ≥ (1:Int))))&&(decide (a0.inc≤(4:Int))))
noncomputable def dotMay (d0:GDot):Option Bool :=
 ((dotMayActor d0.actor).bind fun v1=>some ((v1&&(decide (d0.seq ≥ (1:Int))))&&(decide (d0.seq≤(1048576:Int)))))
noncomputable def qX (s0:zJ):Option Bool :=
 some (decide (((s0).length:Int)≤(40:Int)))
noncomputable def leafXitems (l0:(List GItem)) (timed1:Bool):Option Bool :=
 (lp (zY (fun (n1:Nat) (x1:GItem) (s1:Unit)=>(((dotMay x1.dot).bind fun v13=>((if ((!v13)==false)=true then qX x1.text else some default).bind fun v14=>((if (((!v13) || (!v14))==false)=true then leafXisTime x1.time else some default).bind fun v15=>(if ((((!v13) || (!v14)) || (!(timed1==v15))) || ((!timed1)&&(x1.time != (0:Int))))=true then some (.ret false) else (vq (((decide ((n1:Int) > (0:Int)))==true)=true→0≤(IntKind.wrap .i64 ((n1:Int) - (1:Int)))∧(IntKind.wrap .i64 ((n1:Int) - (1:Int))) < ((l0).length:Int)) ((vq (((decide ((n1:Int) > (0:Int)))==true)=true→0≤(IntKind.wrap .i64 ((n1:Int) - (1:Int)))∧(IntKind.wrap .i64 ((n1:Int) - (1:Int))) < ((l0).length:Int)) (((if ((decide ((n1:Int) > (0:Int)))==true)=true then leafAhead (((l0).getD (IntKind.wrap .i64 ((n1:Int) - (1:Int))).toNat default).time) (((l0).getD (IntKind.wrap .i64 ((n1:Int) - (1:Int))).toNat default).dot) x1.time x1.dot else some default).bind fun v19=>(if ((decide ((n1:Int) > (0:Int)))&&(!v19))=true then some (.ret false) else some (.nxt ()))))))))))):Option (Out _ Unit))) l0 0 ()) fun (s1:Unit)=>((leafXtwice l0).bind fun v21=>some (!v21)))
noncomputable def vn (s0:(List GItem)) (f1:(GItem→Option Bool)):Option Int :=
 (lp (zY (fun (n1:Nat) (x1:GItem) (s1:Unit)=>(((f1 x1).bind fun v7=>(if v7=true then some (.ret (n1:Int)) else some (.nxt ()))):Option (Out _ Unit))) s0 0 ()) fun (s1:Unit)=>some (-1:Int))
noncomputable def xV (s0:(List GItem)) (f1:(GItem→Option Bool)):Option Bool :=
 ((vn s0 f1).bind fun v1=>some (decide (v1 ≥ (0:Int))))
noncomputable def leafXhasC1 (x0:GItem) (c0:GDot):Option Bool :=
 some (x0.dot.actor.rep==c0.actor.rep&&(x0.dot.actor.inc==c0.actor.inc&&(x0.dot.seq==c0.seq&&true)))
noncomputable def leafXhas (l0:(List GItem)) (d1:GDot):Option Bool :=
 ((xV l0 (fun x0=>leafXhasC1 x0 d1)).bind fun v1=>some v1)
noncomputable def leafXtombs (l0:GLeaf):Option Bool :=
 (lp (zY (fun (n1:Nat) (x1:GDot) (s1:Unit)=>(((dotMay x1).bind fun v19=>(vq ((((!v19)==false)&&((decide ((n1:Int) > (0:Int)))==true))=true→0≤(IntKind.wrap .i64 ((n1:Int) - (1:Int)))∧(IntKind.wrap .i64 ((n1:Int) - (1:Int))) < ((l0.tombs).length:Int)) (((if (((!v19)==false)&&((decide ((n1:Int) > (0:Int)))==true))=true then dotCompare ((l0.tombs).getD (IntKind.wrap .i64 ((n1:Int) - (1:Int))).toNat default) x1 else some default).bind fun v21=>((if (((!v19) || ((decide ((n1:Int) > (0:Int)))&&(decide (v21 ≥ (0:Int)))))==false)=true then leafXhas l0.items x1 else some default).bind fun v22=>(if (((!v19) || ((decide ((n1:Int) > (0:Int)))&&(decide (v21 ≥ (0:Int))))) || v22)=true then some (.ret false) else some (.nxt ()))))))):Option (Out _ Unit))) l0.tombs 0 ()) fun (s1:Unit)=>some true)
noncomputable def leafMay (l0:GLeaf):Option Bool :=
 (if (l0.typ==(1:Int))=true then ((wB l0 (GLeaf.mk l0.typ l0.n (0:Int) (GDot.mk (GActor.mk (0:Int) (0:Int)) (0:Int)) ([]:zJ) ([]:List GItem) ([]:List GDot))).bind fun v2=>some v2) else (if (l0.typ==(2:Int))=true then ((if ((l0.time != (0:Int))==true)=true then leafXisTime l0.time else some default).bind fun v4=>((if (((l0.time != (0:Int))==true)&&(v4==true))=true then dotMay l0.dot else some default).bind fun v5=>((if (((l0.time != (0:Int))==true)&&((v4&&v5)==true))=true then qX l0.text else some default).bind fun v6=>(if (((l0.time != (0:Int))&&(!((v4&&v5)&&v6))) || ((l0.time==(0:Int))&&((!(l0.dot.actor.rep==(0:Int)&&(l0.dot.actor.inc==(0:Int)&&(l0.dot.seq==(0:Int)&&true)))) || (!(l0.text==([]:zJ))))))=true then some false else ((wB l0 (GLeaf.mk l0.typ (0:Int) l0.time l0.dot l0.text ([]:List GItem) ([]:List GDot))).bind fun v8=>some v8))))) else (if (l0.typ==(3:Int))=true then ((leafXitems l0.items false).bind fun v10=>((if ((!v10)==false)=true then leafXtombs l0 else some default).bind fun v11=>(if ((!v10) || (!v11))=true then some false else ((wB l0 (GLeaf.mk l0.typ (0:Int) (0:Int) (GDot.mk (GActor.mk (0:Int) (0:Int)) (0:Int)) ([]:zJ) l0.items l0.tombs)).bind fun v13=>some v13)))) else (if (l0.typ==(4:Int))=true then ((leafXitems l0.items true).bind fun v15=>(if (!v15)=true then some false else ((wB l0 (GLeaf.mk l0.typ (0:Int) (0:Int) (GDot.mk (GActor.mk (0:Int) (0:Int)) (0:Int)) ([]:zJ) l0.items ([]:List GDot))).bind fun v17=>some v17))) else some false))))
noncomputable def qQ:Nat→(t0:(List GNode))→(deep1:Int)→Option Bool
 | 0,_,_=>none
 | n+1,t0,deep1=>(if ((decide (((t0).length:Int) > (0:Int)))&&(deep1==(3:Int)))=true then some false else (lp (zY (fun (n1:Nat) (x1:GNode) (s1:Unit)=>(((opIsName x1.name).bind fun v27=>(vq ((((!v27)==false)&&((decide ((n1:Int) > (0:Int)))==true))=true→0≤(IntKind.wrap .i64 ((n1:Int) - (1:Int)))∧(IntKind.wrap .i64 ((n1:Int) - (1:Int))) < ((t0).length:Int)) (((if ((((!v27) || ((decide ((n1:Int) > (0:Int)))&&(!(Op.bytesLess (((t0).getD (IntKind.wrap .i64 ((n1:Int) - (1:Int))).toNat default).name) x1.name)))) || ((IntKind.wrap .i64 (((x1.leaves).length:Int)+((x1.subs).length:Int)))==(0:Int)))==false)=true then qQ n x1.subs (IntKind.wrap .i64 (deep1+(1:Int))) else some default).bind fun v31=>(if ((((!v27) || ((decide ((n1:Int) > (0:Int)))&&(!(Op.bytesLess (((t0).getD (IntKind.wrap .i64 ((n1:Int) - (1:Int))).toNat default).name) x1.name)))) || ((IntKind.wrap .i64 (((x1.leaves).length:Int)+((x1.subs).length:Int)))==(0:Int))) || (!v31))=true then some (.ret false) else (lp (zY (fun (n2:Nat) (x2:GLeaf) (s2:Unit)=>(((leafMay x2).bind fun v43=>(vq ((((!v43)==false)&&((decide ((n2:Int) > (0:Int)))==true))=true→0≤(IntKind.wrap .i64 ((n2:Int) - (1:Int)))∧(IntKind.wrap .i64 ((n2:Int) - (1:Int))) < ((x1.leaves).length:Int)) ((if ((!v43) || ((decide ((n2:Int) > (0:Int)))&&(decide (((x1.leaves).getD (IntKind.wrap .i64 ((n2:Int) - (1:Int))).toNat default).typ ≥ x2.typ))))=true then some (.ret (.ret false)) else some (.nxt ()))))):Option (Out _ Unit))) x1.leaves 0 ()) fun (s2:Unit)=>some (.nxt ()))))))):Option (Out _ Unit))) t0 0 ()) fun (s1:Unit)=>some true))
noncomputable def treeXmay (t0:(List GNode)) (deep1:Int):Option Bool:=anyN fun n=>qQ n t0 deep1
noncomputable def qr (t0:(List GNode)):Option Bool :=
 ((treeXmay t0 (0:Int)).bind fun v1=>some v1)
noncomputable def vO (s0:(List GRow)) (seq1:(S:Type)→(S→GRow→Option (Bool×S))→S→Option S):Option (List GRow) :=
 (rng (seq1 _ (stp (fun (s1:(List GRow)) (x1:GRow)=>((vq ((s1).length+(([x1]:List GRow)).length≤qB) (some (true,((s1++([x1]:List GRow)),none)))):Option (Bool×((List GRow)×Option Nat))))) (s0,none)) (fun (s1:(List GRow))=>some s1) (fun _ _=>none))
noncomputable def qt (seq0:(S:Type)→(S→GRow→Option (Bool×S))→S→Option S):Option (List GRow) :=
 ((vO ([]:List GRow) seq0).bind fun v1=>some v1)
noncomputable def pathsXrows (t0:(List GNode)) (ahead1:(List zJ)):Option ((List GNode)×(List zJ)) :=
 some (t0,ahead1)
noncomputable def pathsXown (l0:GLeaf):Option GLeaf :=
 ((wv l0.items).bind fun v1=>((wL l0.tombs).bind fun v2=>some (GLeaf.mk l0.typ l0.n l0.time l0.dot l0.text v1 v2)))
noncomputable def w9:Nat→(S:Type)→(yield0:S→GRow→Option (Bool×S))→(c0:(List GNode))→(c1:(List zJ))→(s0:S)→Option S
 | 0,_,_,_,_,_=>none
 | n+1,S,yield0,c0,c1,s0=>(lp (zY (fun (n1:Nat) (x1:GNode) (s1:S)=>(((xW c1).bind fun v37=>(vq ((v37).length+(([x1.name]:List zJ)).length≤qB) ((lp (zY (fun (n2:Nat) (x2:GLeaf) (s2:S)=>(((xW (v37++([x1.name]:List zJ))).bind fun v51=>((pathsXown x2).bind fun v52=>((yield0 s2 (GRow.mk v51 v52)).bind fun v53=>(if (!v53.1)=true then some (.ret (.ret v53.2)) else some (.nxt v53.2))))):Option (Out _ S))) x1.leaves 0 s1) fun (s2:S)=>((pathsXrows x1.subs (v37++([x1.name]:List zJ))).bind fun v55=>(rng (w9 n _ (stp (fun (s3:S) (x3:GRow)=>(((yield0 s3 x3).bind fun v64=>(if (!v64.1)=true then some (false,(v64.2,some 0)) else some (true,(v64.2,none)))):Option (Bool×(S×Option Nat))))) v55.1 v55.2 (s2,none)) (fun (s3:S)=>some (.nxt s3)) (fun (j3:Nat) (s3:S)=>if j3=0 then some (.ret s3) else none))))))):Option (Out _ S))) c0 0 s0) fun (s1:S)=>some s1)
noncomputable def pathsXrowsC1 (S:Type) (yield0:S→GRow→Option (Bool×S)) (c0:(List GNode)) (c1:(List zJ)) (s0:S):Option S:=anyN fun n=>w9 n S yield0 c0 c1 s0
noncomputable def qV (t0:(List GNode)):Option (List GRow) :=
 ((qr t0).bind fun v1=>(if (!v1)=true then some ([]:List GRow) else ((pathsXrows t0 ([]:List zJ)).bind fun v3=>((qt (fun S y s=>pathsXrowsC1 S y v3.1 v3.2 s)).bind fun v4=>some v4))))
/-- strings.Join -/
noncomputable def stringsJoin (p0:List zJ) (p1:zJ):Option zJ:=strJoin p0 p1
noncomputable def vW (path0:(List zJ)) (kind1:Int):Option zJ :=
 ((stringsJoin path0 ([0]:zJ)).bind fun v1=>(vq ((v1).length+(([0]:zJ)).length≤maxLen) ((vq (0≤kind1∧kind1 < 256) ((vq ((([(UInt8.ofNat kind1.toNat)]:List UInt8)).length≤maxLen) ((vq (((v1++([0]:zJ))).length+(([(UInt8.ofNat kind1.toNat)]:List UInt8)).length≤maxLen) (some ((v1++([0]:zJ))++([(UInt8.ofNat kind1.toNat)]:List UInt8)))))))))))
noncomputable def diffDiff (a0:(List GNode)) (b1:(List GNode)):Option ((List GEdit)×Int) :=
 ((qr a0).bind fun v1=>((if ((!v1)==false)=true then qr b1 else some default).bind fun v2=>(if ((!v1) || (!v2))=true then some (([]:List GEdit),(2:Int)) else ((qV a0).bind fun v4=>(lp (zY (fun (n1:Nat) (x1:GRow) (s1:List (zJ×GEdit))=>(((vW x1.path x1.leaf.typ).bind fun v11=>some (.nxt (wd (fun a b=>a==b) s1 v11 (GEdit.mk x1.path x1.leaf.typ true false x1.leaf yw)))):Option (Out _ (List (zJ×GEdit))))) v4 0 ([]:List (zJ×GEdit))) fun (s1:List (zJ×GEdit))=>((qV b1).bind fun v12=>(lp (zY (fun (n2:Nat) (x2:GRow) (s2:List (zJ×GEdit))=>(((vW x2.path x2.leaf.typ).bind fun v20=>((vW x2.path x2.leaf.typ).bind fun v21=>some (.nxt (wd (fun a b=>a==b) s2 v21 (GEdit.mk x2.path x2.leaf.typ ((zT (fun a b=>a==b) (GEdit.mk ([]:List zJ) (0:Int) false false yw yw) s2 v20).had) true ((zT (fun a b=>a==b) (GEdit.mk ([]:List zJ) (0:Int) false false yw yw) s2 v20).was) x2.leaf))))):Option (Out _ (List (zJ×GEdit))))) v12 0 s1) fun (s2:List (zJ×GEdit))=>((q8 s2).bind fun v22=>some (v22,(0:Int))))))))))
noncomputable def w7  : Option Bool :=
 ((diffDiff ([]:List GNode) ([(GNode.mk ([97]:zJ) ([(GLeaf.mk (1:Int) (5:Int) (0:Int) (GDot.mk (GActor.mk (0:Int) (0:Int)) (0:Int)) ([]:zJ) ([]:List GItem) ([]:List GDot))]:List GLeaf) ([]:List GNode))]:List GNode)).bind fun v1=>((diffDiff ([(GNode.mk ([97]:zJ) ([(GLeaf.mk (1:Int) (5:Int) (0:Int) (GDot.mk (GActor.mk (0:Int) (0:Int)) (0:Int)) ([]:zJ) ([]:List GItem) ([]:List GDot))]:List GLeaf) ([]:List GNode))]:List GNode) ([(GNode.mk ([97]:zJ) ([(GLeaf.mk (1:Int) (5:Int) (0:Int) (GDot.mk (GActor.mk (0:Int) (0:Int)) (0:Int)) ([]:zJ) ([]:List GItem) ([]:List GDot))]:List GLeaf) ([]:List GNode))]:List GNode)).bind fun v2=>(vq (((((v1.2==(0:Int))&&(v2.2==(0:Int)))&&(((v1.1).length:Int)==(1:Int)))==true)=true→0≤(0:Int)∧(0:Int) < ((v1.1).length:Int)) ((vq ((((((v1.2==(0:Int))&&(v2.2==(0:Int)))&&(((v1.1).length:Int)==(1:Int)))&&(!((v1.1).getD (0:Int).toNat default).had))==true)=true→0≤(0:Int)∧(0:Int) < ((v1.1).length:Int)) ((vq (((((((v1.2==(0:Int))&&(v2.2==(0:Int)))&&(((v1.1).length:Int)==(1:Int)))&&(!((v1.1).getD (0:Int).toNat default).had))&&((v1.1).getD (0:Int).toNat default).has)==true)=true→0≤(0:Int)∧(0:Int) < ((v1.1).length:Int)) (some (((((((v1.2==(0:Int))&&(v2.2==(0:Int)))&&(((v1.1).length:Int)==(1:Int)))&&(!((v1.1).getD (0:Int).toNat default).had))&&((v1.1).getD (0:Int).toNat default).has)&&(((v1.1).getD (0:Int).toNat default).is.n==(5:Int)))&&(((v2.1).length:Int)==(0:Int)))))))))))
noncomputable def opMayPathC1 (s0:zJ):Option Bool :=
 ((opIsName s0).bind fun v1=>some (!v1))
noncomputable def opMayPath (p0:(List zJ)):Option Bool :=
 ((if (((decide (((p0).length:Int) ≥ (1:Int)))&&(decide (((p0).length:Int)≤(3:Int))))==true)=true then xk p0 (fun x0=>opMayPathC1 x0) else some default).bind fun v3=>some (((decide (((p0).length:Int) ≥ (1:Int)))&&(decide (((p0).length:Int)≤(3:Int))))&&(!v3)))
noncomputable def qM (p0:(List zJ)) (path1:(List zJ)):Option Bool :=
 ((qU p0).bind fun v1=>((x5 p0).bind fun v2=>((if ((!v2)==false)=true then opMayPath path1 else some default).bind fun v3=>(if ((((!v2) || (!v3)) || (decide (((path1).length:Int) < ((v1.1).length:Int)))) || ((decide (((path1).length:Int) > ((v1.1).length:Int)))&&(!v1.2)))=true then some false else (lp (zY (fun (n1:Nat) (x1:zJ) (s1:Unit)=>((vq (((!(x1==([42]:zJ)))==true)=true→0≤(n1:Int)∧(n1:Int) < ((path1).length:Int)) ((if ((!(x1==([42]:zJ)))&&(!(x1==((path1).getD (n1:Int).toNat default))))=true then some (.ret false) else some (.nxt ())))):Option (Out _ Unit))) v1.1 0 ()) fun (s1:Unit)=>some true)))))
noncomputable def qj:Nat→(t0:(List GNode))→(ahead1:(List zJ))→(is2:((List zJ)→Option Bool))→Option (List GNode)
 | 0,_,_,_=>none
 | n+1,t0,ahead1,is2=>(lp (zY (fun (n1:Nat) (x1:GNode) (s1:(List GNode))=>(((xW ahead1).bind fun v32=>(vq ((v32).length+(([x1.name]:List zJ)).length≤qB) (((qj n x1.subs (v32++([x1.name]:List zJ)) is2).bind fun v34=>(lp (zY (fun (n2:Nat) (x2:GLeaf) (s2:(List GLeaf))=>(((is2 (v32++([x1.name]:List zJ))).bind fun v49=>(if v49=true then ((pathsXown x2).bind fun v51=>(vq ((s2).length+(([v51]:List GLeaf)).length≤qB) (some (.nxt (s2++([v51]:List GLeaf)))))) else some (.nxt s2))):Option (Out _ (List GLeaf)))) x1.leaves 0 ([]:List GLeaf)) fun (s2:(List GLeaf))=>(if (decide ((IntKind.wrap .i64 (((s2).length:Int)+((v34).length:Int))) > (0:Int)))=true then (vq ((s1).length+(([(GNode.mk x1.name s2 v34)]:List GNode)).length≤qB) (some (.nxt (s1++([(GNode.mk x1.name s2 v34)]:List GNode))))) else some (.nxt s1))))))):Option (Out _ (List GNode)))) t0 0 ([]:List GNode)) fun (s1:(List GNode))=>some s1)
noncomputable def pathsXkept (t0:(List GNode)) (ahead1:(List zJ)) (is2:((List zJ)→Option Bool)):Option (List GNode):=anyN fun n=>qj n t0 ahead1 is2
noncomputable def pathsSelectC1 (path0:(List zJ)) (c0:(List zJ)):Option Bool :=
 ((qM c0 path0).bind fun v1=>some v1)
noncomputable def w6 (t0:(List GNode)) (p1:(List zJ)):Option ((List GNode)×Int) :=
 ((qr t0).bind fun v1=>((if ((!v1)==false)=true then x5 p1 else some default).bind fun v2=>(if ((!v1) || (!v2))=true then some (([]:List GNode),(2:Int)) else ((pathsXkept t0 ([]:List zJ) (fun x0=>pathsSelectC1 x0 p1)).bind fun v4=>some (v4,(0:Int))))))
noncomputable def vF (there0:Bool) (l1:GLeaf) (kind2:Int):Option Bool :=
 (if (!there0)=true then ((wB l1 yw).bind fun v2=>some v2) else ((if ((l1.typ==kind2)==true)=true then leafMay l1 else some default).bind fun v3=>some ((l1.typ==kind2)&&v3)))
noncomputable def diffMay (l0:(List GEdit)):Option Bool :=
 (lp (zY (fun (n1:Nat) (x1:GEdit) (s1:Unit)=>(((if ((x1.had&&x1.has)==true)=true then wB x1.was x1.is else some default).bind fun v13=>((opMayPath x1.path).bind fun v14=>((if (((((!v14) || (!((decide (x1.typ ≥ (1:Int)))&&(decide (x1.typ≤(4:Int)))))) || ((!x1.had)&&(!x1.has))) || ((x1.had&&x1.has)&&v13))==false)=true then vF x1.had x1.was x1.typ else some default).bind fun v15=>((if ((((((!v14) || (!((decide (x1.typ ≥ (1:Int)))&&(decide (x1.typ≤(4:Int)))))) || ((!x1.had)&&(!x1.has))) || ((x1.had&&x1.has)&&v13)) || (!v15))==false)=true then vF x1.has x1.is x1.typ else some default).bind fun v16=>(if ((((((!v14) || (!((decide (x1.typ ≥ (1:Int)))&&(decide (x1.typ≤(4:Int)))))) || ((!x1.had)&&(!x1.has))) || ((x1.had&&x1.has)&&v13)) || (!v15)) || (!v16))=true then some (.ret false) else (vq (((decide ((n1:Int) > (0:Int)))==true)=true→0≤(IntKind.wrap .i64 ((n1:Int) - (1:Int)))∧(IntKind.wrap .i64 ((n1:Int) - (1:Int))) < ((l0).length:Int)) (((if ((decide ((n1:Int) > (0:Int)))==true)=true then ql ((l0).getD (IntKind.wrap .i64 ((n1:Int) - (1:Int))).toNat default) x1 else some default).bind fun v19=>(if ((decide ((n1:Int) > (0:Int)))&&(decide (v19 ≥ (0:Int))))=true then some (.ret false) else some (.nxt ())))))))))):Option (Out _ Unit))) l0 0 ()) fun (s1:Unit)=>some true)
noncomputable def wq (s0:(List GNode)) (f1:(GNode→Option Bool)):Option Int :=
 (lp (zY (fun (n1:Nat) (x1:GNode) (s1:Unit)=>(((f1 x1).bind fun v7=>(if v7=true then some (.ret (n1:Int)) else some (.nxt ()))):Option (Out _ Unit))) s0 0 ()) fun (s1:Unit)=>some (-1:Int))
noncomputable def treeXlinearC1 (n0:GNode) (c0:zJ):Option Bool :=
 some (n0.name==c0)
noncomputable def qR (t0:(List GNode)) (name1:zJ):Option (GNode×Bool) :=
 ((wq t0 (fun x0=>treeXlinearC1 x0 name1)).bind fun v1=>(if (decide (v1 < (0:Int)))=true then some ((GNode.mk ([]:zJ) ([]:List GLeaf) ([]:List GNode)),false) else ((idx t0 v1).bind fun y3=>some (y3,true))))
noncomputable def yI (s0:(List GLeaf)) (f1:(GLeaf→Option Bool)):Option Int :=
 (lp (zY (fun (n1:Nat) (x1:GLeaf) (s1:Unit)=>(((f1 x1).bind fun v7=>(if v7=true then some (.ret (n1:Int)) else some (.nxt ()))):Option (Out _ Unit))) s0 0 ()) fun (s1:Unit)=>some (-1:Int))
noncomputable def treeLeafC1 (l0:GLeaf) (c0:Int):Option Bool :=
 some (l0.typ==c0)
noncomputable def leafNew (kind0:Int):Option GLeaf :=
 (if ((decide (kind0 < (1:Int))) || (decide (kind0 > (4:Int))))=true then some yw else some (GLeaf.mk kind0 (0:Int) (0:Int) (GDot.mk (GActor.mk (0:Int) (0:Int)) (0:Int)) ([]:zJ) ([]:List GItem) ([]:List GDot)))
noncomputable def treeLeaf (t0:(List GNode)) (path1:(List zJ)) (kind2:Int):Option (GLeaf×Bool) :=
 (lp ((lp (zY (fun (n2:Nat) (x2:zJ) (s2:(List GNode)×Bool×zJ×(List GLeaf)×(List GNode))=>(((qR s2.1 x2).bind fun v47=>(if (!v47.2)=true then some (.brk (s2.1,v47.2,v47.1.name,v47.1.leaves,v47.1.subs)) else some (.nxt (v47.1.subs,v47.2,v47.1.name,v47.1.leaves,v47.1.subs)))):Option (Out _ ((List GNode)×Bool×zJ×(List GLeaf)×(List GNode))))) path1 0 (t0,(decide (((path1).length:Int) > (0:Int))),([]:zJ),([]:List GLeaf),([]:List GNode))) fun (s2:(List GNode)×Bool×zJ×(List GLeaf)×(List GNode))=>some (.inr (s2.2.1,s2.2.2.1,s2.2.2.2.1,s2.2.2.2.2))):Option (_ ⊕ (Bool×zJ×(List GLeaf)×(List GNode)))) fun (s1:Bool×zJ×(List GLeaf)×(List GNode))=>((yI s1.2.2.1 (fun x0=>treeLeafC1 x0 kind2)).bind fun v49=>((if (((!s1.1) || (decide (v49 < (0:Int))))==false)=true then leafNew kind2 else some default).bind fun v50=>(if (((!s1.1) || (decide (v49 < (0:Int)))) || (v50.typ==(0:Int)))=true then ((leafNew kind2).bind fun v52=>some (v52,false)) else ((idx s1.2.2.1 v49).bind fun y53=>((wv y53.items).bind fun v54=>((wL y53.tombs).bind fun v55=>some ((GLeaf.mk y53.typ y53.n y53.time y53.dot y53.text v54 v55),true))))))))
/-- slices.SortFunc[[]varve/api.Leaf,varve/api.Leaf]: sortO -/
def slicesSortFuncLeafX:Unit:=()
noncomputable def diffXlayC3 (x0:GLeaf) (y1:GLeaf):Option Int :=
 ((wx x0.typ y1.typ).bind fun v1=>some v1)
noncomputable def wA (s0:(List GNode)):Option (List GNode) :=
 (nilq s0 fun b1=>(if b1=true then some ([]:List GNode) else (vq ((([]:List GNode)).length+(s0).length≤qB) (some (([]:List GNode)++s0)))))
noncomputable def yc (x0:(List GNode)) (target1:zJ) (cmp2:(GNode→zJ→Option Int)):Option (Int×Bool) :=
 (lp (qA (fun (s1:Int×Int)=>((if (decide (s1.1 < s1.2))=true then ((idx x0 (IntKind.wrap .i64 ((Int.fdiv (IntKind.wrap .u64 ((IntKind.wrap .i64 (s1.1+s1.2)))) (2 ^ (min (1:Int).toNat (IntKind.bits .u64))))))).bind fun y9=>((cmp2 y9 target1).bind fun v10=>(if (decide (v10 < (0:Int)))=true then some (.nxt ((IntKind.wrap .i64 ((IntKind.wrap .i64 ((Int.fdiv (IntKind.wrap .u64 ((IntKind.wrap .i64 (s1.1+s1.2)))) (2 ^ (min (1:Int).toNat (IntKind.bits .u64))))))+(1:Int))),s1.2)) else some (.nxt (s1.1,(IntKind.wrap .i64 ((Int.fdiv (IntKind.wrap .u64 ((IntKind.wrap .i64 (s1.1+s1.2)))) (2 ^ (min (1:Int).toNat (IntKind.bits .u64))))))))))) else some (.brk (s1.1,s1.2))):Option (Out _ (Int×Int)))) ((0:Int),((x0).length:Int))) fun (s1:Int×Int)=>(vq (((decide (s1.1 < ((x0).length:Int)))==true)=true→0≤s1.1∧s1.1 < ((x0).length:Int)) (((if ((decide (s1.1 < ((x0).length:Int)))==true)=true then cmp2 ((x0).getD s1.1.toNat default) target1 else some default).bind fun v13=>some (s1.1,((decide (s1.1 < ((x0).length:Int)))&&(v13==(0:Int))))))))
/-- strings.Compare -/
noncomputable def stringsCompare (p0:zJ) (p1:zJ):Option Int:=some (Go.Lib.compareBytes p0 p1)
noncomputable def qm (n0:GNode) (name1:zJ):Option Int :=
 ((stringsCompare n0.name name1).bind fun v1=>some v1)
noncomputable def xH (s0:(List GLeaf)) (del1:(GLeaf→Option Bool)):Option (List GLeaf) :=
 ((yI s0 del1).bind fun v1=>(if (v1==(-1:Int))=true then some s0 else (lp (qA (fun (s1:Int×Int×(List GLeaf))=>((vq ((s1.2.2).length=s0.length) ((if (decide (s1.2.1 < ((s0.length:Nat):Int)))=true then ((idx s1.2.2 s1.2.1).bind fun y14=>((del1 y14).bind fun v15=>(if (!v15)=true then ((idx s1.2.2 s1.1).bind fun y17=>some (.nxt ((IntKind.wrap .i64 (s1.1+(1:Int))),(IntKind.wrap .i64 (s1.2.1+(1:Int))),(s1.2.2.set s1.1.toNat y14)))) else some (.nxt (s1.1,(IntKind.wrap .i64 (s1.2.1+(1:Int))),s1.2.2))))) else some (.brk (s1.1,s1.2.1,s1.2.2))))):Option (Out _ (Int×Int×(List GLeaf))))) (v1,(IntKind.wrap .i64 (v1+(1:Int))),s0)) fun (s1:Int×Int×(List GLeaf))=>(vq (0≤s1.1∧s1.1≤((s0.length:Nat):Int)) (((slc (s1.2.2.take s1.1.toNat++List.replicate (s0.length - s1.1.toNat) yw) (0:Int) s1.1).bind fun m19=>some m19))))))
noncomputable def wu (s0:(List GLeaf)):Option (List GLeaf) :=
 (nilq s0 fun b1=>(if b1=true then some ([]:List GLeaf) else (vq ((([]:List GLeaf)).length+(s0).length≤qB) (some (([]:List GLeaf)++s0)))))
noncomputable def diffXlayC2 (x0:GLeaf) (c0:Int):Option Bool :=
 some (x0.typ==c0)
noncomputable def qx:Nat→(t0:(List GNode))→(path1:(List zJ))→(kind2:Int)→(l3:GLeaf)→(there4:Bool)→Option (List GNode)
 | 0,_,_,_,_,_=>none
 | n+1,t0,path1,kind2,l3,there4=>((idx path1 (0:Int)).bind fun y1=>((yc t0 y1 (fun x0 x1=>qm x0 x1)).bind fun v2=>((idx path1 (0:Int)).bind fun y3=>(lp ((if v2.2=true then ((idx t0 v2.1).bind fun y7=>some (.inr (y7.name,y7.leaves,y7.subs))) else some (.inr (y3,([]:List GLeaf),([]:List GNode)))):Option (_ ⊕ (zJ×(List GLeaf)×(List GNode)))) fun (s1:zJ×(List GLeaf)×(List GNode))=>(lp ((if (decide (((path1).length:Int) > (1:Int)))=true then ((slc path1 (1:Int) ((path1).length:Int)).bind fun m20=>((qx n s1.2.2 m20 kind2 l3 there4).bind fun v21=>some (.inr (s1.2.1,v21)))) else ((wu s1.2.1).bind fun v22=>((xH v22 (fun x0=>diffXlayC2 x0 kind2)).bind fun v23=>(if there4=true then ((diffXown l3).bind fun v25=>(vq ((v23).length+(([v25]:List GLeaf)).length≤qB) (((sortO (fun x y=>diffXlayC3 x y) (v23++([v25]:List GLeaf))).bind fun v27=>some (.inr (v27,s1.2.2)))))) else some (.inr (v23,s1.2.2)))))):Option (_ ⊕ ((List GLeaf)×(List GNode)))) fun (s2:(List GLeaf)×(List GNode))=>((slc t0 (0:Int) v2.1).bind fun m28=>((wA m28).bind fun v29=>(if (decide ((IntKind.wrap .i64 (((s2.1).length:Int)+((s2.2).length:Int))) > (0:Int)))=true then (vq ((v29).length+(([(GNode.mk s1.1 s2.1 s2.2)]:List GNode)).length≤qB) ((if v2.2=true then ((slc t0 (IntKind.wrap .i64 (v2.1+(1:Int))) ((t0).length:Int)).bind fun m35=>(vq (((v29++([(GNode.mk s1.1 s2.1 s2.2)]:List GNode))).length+(m35).length≤qB) (some ((v29++([(GNode.mk s1.1 s2.1 s2.2)]:List GNode))++m35)))) else ((slc t0 v2.1 ((t0).length:Int)).bind fun m37=>(vq (((v29++([(GNode.mk s1.1 s2.1 s2.2)]:List GNode))).length+(m37).length≤qB) (some ((v29++([(GNode.mk s1.1 s2.1 s2.2)]:List GNode))++m37))))))) else (if v2.2=true then ((slc t0 (IntKind.wrap .i64 (v2.1+(1:Int))) ((t0).length:Int)).bind fun m40=>(vq ((v29).length+(m40).length≤qB) (some (v29++m40)))) else ((slc t0 v2.1 ((t0).length:Int)).bind fun m42=>(vq ((v29).length+(m42).length≤qB) (some (v29++m42)))))))))))))
noncomputable def diffXlay (t0:(List GNode)) (path1:(List zJ)) (kind2:Int) (l3:GLeaf) (there4:Bool):Option (List GNode):=anyN fun n=>qx n t0 path1 kind2 l3 there4
noncomputable def vZ (t0:(List GNode)) (l1:(List GEdit)):Option ((List GNode)×Int) :=
 ((qr t0).bind fun v1=>((if ((!v1)==false)=true then diffMay l1 else some default).bind fun v2=>(if ((!v1) || (!v2))=true then some (([]:List GNode),(2:Int)) else ((w6 t0 ([([42,42]:zJ)]:List zJ)).bind fun v4=>(lp (zY (fun (n1:Nat) (x1:GEdit) (s1:(List GNode))=>(((treeLeaf t0 x1.path x1.typ).bind fun v14=>((if (((!(v14.2==x1.had))==false)&&(v14.2==true))=true then wB v14.1 x1.was else some default).bind fun v15=>(if ((!(v14.2==x1.had)) || (v14.2&&(!v15)))=true then some (.ret (([]:List GNode),(16:Int))) else ((diffXlay s1 x1.path x1.typ x1.is x1.has).bind fun v17=>some (.nxt v17))))):Option (Out _ (List GNode)))) l1 0 v4.1) fun (s1:(List GNode))=>some (s1,(0:Int)))))))
noncomputable def pathsWithoutC1 (path0:(List zJ)) (c0:(List zJ)):Option Bool :=
 ((qM c0 path0).bind fun v1=>some (!v1))
noncomputable def qv (t0:(List GNode)) (p1:(List zJ)):Option ((List GNode)×Int) :=
 ((qr t0).bind fun v1=>((if ((!v1)==false)=true then x5 p1 else some default).bind fun v2=>(if ((!v1) || (!v2))=true then some (([]:List GNode),(2:Int)) else ((pathsXkept t0 ([]:List zJ) (fun x0=>pathsWithoutC1 x0 p1)).bind fun v4=>some (v4,(0:Int))))))
noncomputable def ref05Same (a0:GLeaf) (b1:GLeaf):Option Bool :=
 (if (((((((a0.typ != b1.typ) || (a0.n != b1.n)) || (a0.time != b1.time)) || (!(a0.dot.actor.rep==b1.dot.actor.rep&&(a0.dot.actor.inc==b1.dot.actor.inc&&(a0.dot.seq==b1.dot.seq&&true))))) || (!(a0.text==b1.text))) || (((a0.items).length:Int) != ((b1.items).length:Int))) || (((a0.tombs).length:Int) != ((b1.tombs).length:Int)))=true then some false else (lp (zY (fun (n1:Nat) (x1:GItem) (s1:Unit)=>(((idx b1.items (n1:Int)).bind fun y32=>(if (!(x1.time==y32.time&&(x1.dot.actor.rep==y32.dot.actor.rep&&(x1.dot.actor.inc==y32.dot.actor.inc&&(x1.dot.seq==y32.dot.seq&&(x1.text==y32.text&&true))))))=true then some (.ret false) else some (.nxt ()))):Option (Out _ Unit))) a0.items 0 ()) fun (s1:Unit)=>(lp (zY (fun (n2:Nat) (x2:GDot) (s2:Unit)=>(((idx b1.tombs (n2:Int)).bind fun y60=>(if (!(x2.actor.rep==y60.actor.rep&&(x2.actor.inc==y60.actor.inc&&(x2.seq==y60.seq&&true))))=true then some (.ret false) else some (.nxt ()))):Option (Out _ Unit))) a0.tombs 0 ()) fun (s2:Unit)=>some true)))
noncomputable def qh:Nat→(a0:(List GNode))→(b1:(List GNode))→Option Bool
 | 0,_,_=>none
 | n+1,a0,b1=>(if (((a0).length:Int) != ((b1).length:Int))=true then some false else (lp (zY (fun (n1:Nat) (x1:GNode) (s1:Unit)=>(((idx b1 (n1:Int)).bind fun y41=>(vq (((!(x1.name==y41.name))==false)=true→0≤(n1:Int)∧(n1:Int) < ((a0).length:Int)) ((vq (((!(x1.name==y41.name))==false)=true→0≤(n1:Int)∧(n1:Int) < ((b1).length:Int)) ((vq ((((!(x1.name==y41.name)) || (((((a0).getD (n1:Int).toNat default).leaves).length:Int) != ((((b1).getD (n1:Int).toNat default).leaves).length:Int)))==false)=true→0≤(n1:Int)∧(n1:Int) < ((a0).length:Int)) ((vq ((((!(x1.name==y41.name)) || (((((a0).getD (n1:Int).toNat default).leaves).length:Int) != ((((b1).getD (n1:Int).toNat default).leaves).length:Int)))==false)=true→0≤(n1:Int)∧(n1:Int) < ((b1).length:Int)) (((if (((!(x1.name==y41.name)) || (((((a0).getD (n1:Int).toNat default).leaves).length:Int) != ((((b1).getD (n1:Int).toNat default).leaves).length:Int)))==false)=true then qh n (((a0).getD (n1:Int).toNat default).subs) (((b1).getD (n1:Int).toNat default).subs) else some default).bind fun v48=>(if (((!(x1.name==y41.name)) || (((((a0).getD (n1:Int).toNat default).leaves).length:Int) != ((((b1).getD (n1:Int).toNat default).leaves).length:Int))) || (!v48))=true then some (.ret false) else (lp (zY (fun (n2:Nat) (x2:GLeaf) (s2:Unit)=>(((idx b1 (n1:Int)).bind fun y60=>((idx y60.leaves (n2:Int)).bind fun y61=>((ref05Same x2 y61).bind fun v62=>(if (!v62)=true then some (.ret (.ret false)) else some (.nxt ()))))):Option (Out _ Unit))) x1.leaves 0 ()) fun (s2:Unit)=>some (.nxt ()))))))))))))):Option (Out _ Unit))) a0 0 ()) fun (s1:Unit)=>some true))
noncomputable def qT (a0:(List GNode)) (b1:(List GNode)):Option Bool:=anyN fun n=>qh n a0 b1
noncomputable def qG (a0:(List GNode)) (b1:(List GNode)) (p2:(List zJ)):Option Bool :=
 ((qY a0 b1 ([]:List GNode) ([]:List GEdit) ([]:List GEdit)).bind fun v1=>((if (v1==false)=true then ref07May a0 else some default).bind fun v2=>((if ((v1 || (!v2))==false)=true then ref07May b1 else some default).bind fun v3=>((if ((((v1 || (!v2)) || (!v3)) || (decide (((p2).length:Int) > (5:Int))))==false)=true then x5 p2 else some default).bind fun v5=>(if ((((v1 || (!v2)) || (!v3)) || (decide (((p2).length:Int) > (5:Int)))) || (!v5))=true then ((w7).bind fun v7=>some v7) else ((diffDiff a0 b1).bind fun v8=>(lp (zY (fun (n1:Nat) (x1:GEdit) (s1:(List GEdit))=>(((qM p2 x1.path).bind fun v17=>(if v17=true then (vq ((s1).length+(([x1]:List GEdit)).length≤qB) (some (.nxt (s1++([x1]:List GEdit))))) else some (.nxt s1))):Option (Out _ (List GEdit)))) v8.1 0 ([]:List GEdit)) fun (s1:(List GEdit))=>((vZ a0 s1).bind fun v20=>(if ((v8.2 != (0:Int)) || (v20.2 != (0:Int)))=true then some false else ((w6 v20.1 p2).bind fun v22=>((w6 b1 p2).bind fun v23=>((qv v20.1 p2).bind fun v24=>((qv a0 p2).bind fun v25=>((if (((((v22.2==(0:Int))&&(v23.2==(0:Int)))&&(v24.2==(0:Int)))&&(v25.2==(0:Int)))==true)=true then qT v22.1 v23.1 else some default).bind fun v26=>((if ((((((v22.2==(0:Int))&&(v23.2==(0:Int)))&&(v24.2==(0:Int)))&&(v25.2==(0:Int)))&&v26)==true)=true then qT v24.1 v25.1 else some default).bind fun v27=>((if (((((((v22.2==(0:Int))&&(v23.2==(0:Int)))&&(v24.2==(0:Int)))&&(v25.2==(0:Int)))&&v26)&&v27)==true)=true then w7 else some default).bind fun v28=>some (((((((v22.2==(0:Int))&&(v23.2==(0:Int)))&&(v24.2==(0:Int)))&&(v25.2==(0:Int)))&&v26)&&v27)&&v28)))))))))))))))))
noncomputable def diffTurn (l0:(List GEdit)):Option (List GEdit) :=
 (lp (zY (fun (n1:Nat) (x1:GEdit) (s1:(List GEdit))=>(((qn x1).bind fun v8=>(vq ((s1).length+(([(GEdit.mk v8.path v8.typ v8.has v8.had v8.is v8.was)]:List GEdit)).length≤qB) (some (.nxt (s1++([(GEdit.mk v8.path v8.typ v8.has v8.had v8.is v8.was)]:List GEdit)))))):Option (Out _ (List GEdit)))) l0 0 ([]:List GEdit)) fun (s1:(List GEdit))=>some s1)
noncomputable def law31DiffBack (a0:(List GNode)) (b1:(List GNode)):Option Bool :=
 ((qY a0 b1 ([]:List GNode) ([]:List GEdit) ([]:List GEdit)).bind fun v1=>(if v1=true then ((w7).bind fun v3=>some v3) else ((diffDiff a0 b1).bind fun v4=>((ref07May a0).bind fun v5=>((if ((!v5)==false)=true then ref07May b1 else some default).bind fun v6=>(if ((!v5) || (!v6))=true then ((if (((v4.2==(2:Int))&&(((v4.1).length:Int)==(0:Int)))==true)=true then w7 else some default).bind fun v9=>some (((v4.2==(2:Int))&&(((v4.1).length:Int)==(0:Int)))&&v9)) else ((vZ a0 v4.1).bind fun v10=>((diffTurn v4.1).bind fun v11=>((vZ b1 v11).bind fun v12=>((if ((((v4.2 != (0:Int)) || (v10.2 != (0:Int))) || (v12.2 != (0:Int)))==false)=true then diffMay v4.1 else some default).bind fun v13=>((if (((((v4.2 != (0:Int)) || (v10.2 != (0:Int))) || (v12.2 != (0:Int))) || (!v13))==false)=true then qT v10.1 b1 else some default).bind fun v14=>((if ((((((v4.2 != (0:Int)) || (v10.2 != (0:Int))) || (v12.2 != (0:Int))) || (!v13)) || (!v14))==false)=true then qT v12.1 a0 else some default).bind fun v15=>(if ((((((v4.2 != (0:Int)) || (v10.2 != (0:Int))) || (v12.2 != (0:Int))) || (!v13)) || (!v14)) || (!v15))=true then some false else ((qT a0 b1).bind fun v18=>((if (((((v4.1).length:Int)==(0:Int))==v18)==true)=true then w7 else some default).bind fun v19=>some (((((v4.1).length:Int)==(0:Int))==v18)&&v19))))))))))))))))
end Go.Vv
