/- What the functions compute, as plain functions; printed by a program from the code. -/
import Derived.Test.YtfdacjmlbokckaaGreatDoorVvV
import Derived.Test.YtfdacjmlbokckaaGreatDoorVvRd
import Derived.Test.YtfdacjmlbokckaaGreatDoorVvSo
import Derived.Test.YtfdacjmlbokckaaGreatDoorVxeE
namespace Go.Vv
open Go
set_option linter.unusedVariables false
structure GActor where
 rep:Int
 inc:Int
 deriving DecidableEq,Inhabited
def GActor.eqb (a b:GActor):Bool:=(a.rep==b.rep&&(a.inc==b.inc&&true))
structure GDot where
 actor:GActor
 seq:Int
 deriving DecidableEq,Inhabited
def GDot.eqb (a b:GDot):Bool:=(a.actor.rep==b.actor.rep&&(a.actor.inc==b.actor.inc&&(a.seq==b.seq&&true)))
structure GItem where
 time:Int
 dot:GDot
 text:zM
 deriving DecidableEq,Inhabited
def GItem.eqb (a b:GItem):Bool:=(a.time==b.time&&(a.dot.actor.rep==b.dot.actor.rep&&(a.dot.actor.inc==b.dot.actor.inc&&(a.dot.seq==b.dot.seq&&(a.text==b.text&&true)))))
structure GLeaf where
 typ:Int
 n:Int
 time:Int
 dot:GDot
 text:zM
 items:(List GItem)
 tombs:(List GDot)
 deriving DecidableEq,Inhabited
structure GNode where
 name:zM
 leaves:(List GLeaf)
 subs:(List GNode)
 deriving Inhabited
structure GExportKind where
 word:zM
 parts:Nat
 read:Nat
 deriving DecidableEq,Inhabited
structure GRow where
 path:(List zM)
 leaf:GLeaf
 deriving DecidableEq,Inhabited
def GActor.wf (x:GActor):Prop:=(InK .u8 x.rep)∧(InK .u32 x.inc)
def GDot.wf (x:GDot):Prop:=(GActor.wf x.actor)∧(InK .u64 x.seq)
def GItem.wf (x:GItem):Prop:=(InK .u64 x.time)∧(GDot.wf x.dot)∧(x.text.length≤maxLen)
def GLeaf.wf (x:GLeaf):Prop:=(InK .u8 x.typ)∧(InK .i64 x.n)∧(InK .u64 x.time)∧(GDot.wf x.dot)∧(x.text.length≤maxLen)∧(x.items.length≤maxLen∧∀ y ∈ x.items,GItem.wf y)∧(x.tombs.length≤maxLen∧∀ y ∈ x.tombs,GDot.wf y)
mutual
def GNode.wf:GNode→Prop
 | ⟨name,leaves,subs⟩=>(name.length≤maxLen)∧(leaves.length≤maxLen∧∀ y ∈ leaves,GLeaf.wf y)∧(GNode.wfs subs)
def GNode.wfs:List GNode→Prop
 | []=>True
 | x::r=>x.wf∧GNode.wfs r
end
theorem GNode.wfs_iff (l:List GNode):GNode.wfs l ↔ ∀ y ∈ l,GNode.wf y:=by
 induction l with
 | nil=>simp [GNode.wfs]
 | cons x r ih=>simp [GNode.wfs,ih]
def GRow.wf (x:GRow):Prop:=(x.path.length≤maxLen∧∀ y ∈ x.path,y.length≤maxLen)∧(GLeaf.wf x.leaf)
def GActor.bk (x:GActor):Nat:=(1+(1+0))+1
def GDot.bk (x:GDot):Nat:=(GActor.bk x.actor+(1+0))+1
def GItem.bk (x:GItem):Nat:=(1+(GDot.bk x.dot+((x.text.length+1)+0)))+1
def GLeaf.bk (x:GLeaf):Nat:=(1+(1+(1+(GDot.bk x.dot+((x.text.length+1)+(((x.items.map GItem.bk).sum+1)+(((x.tombs.map GDot.bk).sum+1)+0)))))))+1
mutual
def GNode.bk:GNode→Nat
 | ⟨name,leaves,subs⟩=>((name.length+1)+(((leaves.map GLeaf.bk).sum+1)+(((GNode.bks subs)+1)+0)))+1
def GNode.bks:List GNode→Nat
 | []=>0
 | x::r=>x.bk+GNode.bks r
end
theorem GNode.bks_eq (l:List GNode):GNode.bks l=(l.map GNode.bk).sum:=by
 induction l with
 | nil=>rfl
 | cons x r ih=>simp only [GNode.bks,List.map_cons,List.sum_cons,ih]
def GRow.bk (x:GRow):Nat:=(((x.path.map (fun s=>s.length+1)).sum+1)+(GLeaf.bk x.leaf+0))+1
noncomputable def xh:Nat→(t0:(List GNode))→(deep1:Int)→Option Int
 | 0,_,_=>none
 | n+1,t0,deep1=>(lp (qY (fun (s1:Int×Int)=>((if ((decide (s1.2 < ((t0).length:Int)))&&(decide (deep1 < (10:Int))))=true then ((idx t0 s1.2).bind fun y68=>((idx t0 s1.2).bind fun y70=>((xh n y70.subs (IntKind.wrap .i64 (deep1+(1:Int)))).bind fun v71=>(lp (qY (fun (s2:Int×Int)=>(((idx t0 s1.2).bind fun y102=>(if (decide (s2.2 < ((y102.leaves).length:Int)))=true then ((idx t0 s1.2).bind fun y105=>((idx y105.leaves s2.2).bind fun y106=>(lp (z8 (fun (n3:Nat) (x3:GItem) (s3:Int)=>(some (.nxt (IntKind.wrap .i64 ((IntKind.wrap .i64 (s3+(1:Int)))+((x3.text).length:Int)))):Option (Out _ Int))) y106.items 0 (IntKind.wrap .i64 ((IntKind.wrap .i64 ((IntKind.wrap .i64 (s2.1+(1:Int)))+((y106.text).length:Int)))+((y106.tombs).length:Int)))) fun (s3:Int)=>some (.nxt (s3,(IntKind.wrap .i64 (s2.2+(1:Int)))))))) else some (.brk (s2.1,s2.2)))):Option (Out _ (Int×Int)))) ((IntKind.wrap .i64 ((IntKind.wrap .i64 ((IntKind.wrap .i64 (s1.1+(1:Int)))+((y68.name).length:Int)))+v71)),(0:Int))) fun (s2:Int×Int)=>some (.nxt (s2.1,(IntKind.wrap .i64 (s1.2+(1:Int))))))))) else some (.brk (s1.1,s1.2))):Option (Out _ (Int×Int)))) ((0:Int),(0:Int))) fun (s1:Int×Int)=>some s1.1)
noncomputable def ref07Xsize (t0:(List GNode)) (deep1:Int):Option Int:=anyN fun n=>xh n t0 deep1
noncomputable def ref07Great (t0:(List GNode)):Option Bool :=
 ((ref07Xsize t0 (0:Int)).bind fun v1=>some (decide (v1 > (1500:Int))))
noncomputable def vq (a0:GActor):Option Bool :=
 some (((decide (a0.rep≤(15:Int)))&&(decide (a0.inc ≥ (1:Int))))&&(decide (a0.inc≤(4:Int))))
noncomputable def ref03May (d0:GDot):Option Bool :=
 ((vq d0.actor).bind fun v1=>some ((v1&&(decide (d0.seq ≥ (1:Int))))&&(decide (d0.seq≤(1048576:Int)))))
noncomputable def ref05Item (l0:(List GItem)) (d1:GDot):Option Int :=
 (lp (z8 (fun (n1:Nat) (x1:GItem) (s1:Unit)=>((if (x1.dot.actor.rep==d1.actor.rep&&(x1.dot.actor.inc==d1.actor.inc&&(x1.dot.seq==d1.seq&&true)))=true then some (.ret (n1:Int)) else some (.nxt ())):Option (Out _ Unit))) l0 0 ()) fun (s1:Unit)=>some (-1:Int))
noncomputable def ref05Tomb (l0:(List GDot)) (d1:GDot):Option Bool :=
 (lp (z8 (fun (n1:Nat) (x1:GDot) (s1:Unit)=>((if (x1.actor.rep==d1.actor.rep&&(x1.actor.inc==d1.actor.inc&&(x1.seq==d1.seq&&true)))=true then some (.ret true) else some (.nxt ())):Option (Out _ Unit))) l0 0 ()) fun (s1:Unit)=>some false)
noncomputable def ref03Less (a0:GDot) (b1:GDot):Option Bool :=
 (if (a0.actor.rep != b1.actor.rep)=true then some (decide (a0.actor.rep < b1.actor.rep)) else (if (a0.actor.inc != b1.actor.inc)=true then some (decide (a0.actor.inc < b1.actor.inc)) else some (decide (a0.seq < b1.seq))))
noncomputable def ref05Ahead (time0:Int) (d1:GDot) (other2:Int) (o3:GDot):Option Bool :=
 (if (time0 != other2)=true then some (decide (time0 < other2)) else ((ref03Less d1 o3).bind fun v2=>some v2))
noncomputable def ref05May (l0:GLeaf):Option Bool :=
 (if (((((decide (l0.typ < (1:Int))) || (decide (l0.typ > (4:Int)))) || ((l0.typ != (1:Int))&&(l0.n != (0:Int)))) || ((decide (l0.typ < (3:Int)))&&(decide (((l0.items).length:Int) > (0:Int))))) || ((l0.typ != (3:Int))&&(decide (((l0.tombs).length:Int) > (0:Int)))))=true then some false else (lp ((if ((l0.typ != (2:Int)) || (l0.time==(0:Int)))=true then (if (((l0.time != (0:Int)) || (!(l0.dot.actor.rep==(0:Int)&&(l0.dot.actor.inc==(0:Int)&&(l0.dot.seq==(0:Int)&&true))))) || (!(l0.text==([]:zM))))=true then some (.inl false) else some (.inr ())) else ((if ((decide (l0.time > (1099511627776:Int)))==false)=true then ref03May l0.dot else some default).bind fun v11=>(if (((decide (l0.time > (1099511627776:Int))) || (!v11)) || (decide (((l0.text).length:Int) > (40:Int))))=true then some (.inl false) else some (.inr ())))):Option (_ ⊕ Unit)) fun (s1:Unit)=>(lp (z8 (fun (n2:Nat) (x2:GItem) (s2:Unit)=>(((ref03May x2.dot).bind fun v41=>((if (((((!v41) || (decide (((x2.text).length:Int) > (40:Int)))) || ((l0.typ==(3:Int))&&(x2.time != (0:Int)))) || ((l0.typ==(4:Int))&&((decide (x2.time < (1:Int))) || (decide (x2.time > (1099511627776:Int))))))==false)=true then ref05Item l0.items x2.dot else some default).bind fun v43=>((if ((((((!v41) || (decide (((x2.text).length:Int) > (40:Int)))) || ((l0.typ==(3:Int))&&(x2.time != (0:Int)))) || ((l0.typ==(4:Int))&&((decide (x2.time < (1:Int))) || (decide (x2.time > (1099511627776:Int)))))) || (v43 != (n2:Int)))==false)=true then ref05Tomb l0.tombs x2.dot else some default).bind fun v44=>(if ((((((!v41) || (decide (((x2.text).length:Int) > (40:Int)))) || ((l0.typ==(3:Int))&&(x2.time != (0:Int)))) || ((l0.typ==(4:Int))&&((decide (x2.time < (1:Int))) || (decide (x2.time > (1099511627776:Int)))))) || (v43 != (n2:Int))) || v44)=true then some (.ret false) else (vP (((decide ((n2:Int) > (0:Int)))==true)=true→0≤(IntKind.wrap .i64 ((n2:Int) - (1:Int)))∧(IntKind.wrap .i64 ((n2:Int) - (1:Int))) < ((l0.items).length:Int)) ((vP (((decide ((n2:Int) > (0:Int)))==true)=true→0≤(IntKind.wrap .i64 ((n2:Int) - (1:Int)))∧(IntKind.wrap .i64 ((n2:Int) - (1:Int))) < ((l0.items).length:Int)) (((if ((decide ((n2:Int) > (0:Int)))==true)=true then ref05Ahead (((l0.items).getD (IntKind.wrap .i64 ((n2:Int) - (1:Int))).toNat default).time) (((l0.items).getD (IntKind.wrap .i64 ((n2:Int) - (1:Int))).toNat default).dot) x2.time x2.dot else some default).bind fun v48=>(if ((decide ((n2:Int) > (0:Int)))&&(!v48))=true then some (.ret false) else some (.nxt ()))))))))))):Option (Out _ Unit))) l0.items 0 ()) fun (s2:Unit)=>(lp (z8 (fun (n3:Nat) (x3:GDot) (s3:Unit)=>(((ref03May x3).bind fun v73=>(vP ((((!v73)==false)&&((decide ((n3:Int) > (0:Int)))==true))=true→0≤(IntKind.wrap .i64 ((n3:Int) - (1:Int)))∧(IntKind.wrap .i64 ((n3:Int) - (1:Int))) < ((l0.tombs).length:Int)) ((vP ((((!v73)==false)&&((decide ((n3:Int) > (0:Int)))==true))=true→0≤(n3:Int)∧(n3:Int) < ((l0.tombs).length:Int)) (((if (((!v73)==false)&&((decide ((n3:Int) > (0:Int)))==true))=true then ref03Less ((l0.tombs).getD (IntKind.wrap .i64 ((n3:Int) - (1:Int))).toNat default) ((l0.tombs).getD (n3:Int).toNat default) else some default).bind fun v76=>(if ((!v73) || ((decide ((n3:Int) > (0:Int)))&&(!v76)))=true then some (.ret false) else some (.nxt ())))))))):Option (Out _ Unit))) l0.tombs 0 ()) fun (s3:Unit)=>some true))))
noncomputable def qy (s0:zM):Option Bool :=
 (if ((decide (((s0).length:Int) < (1:Int))) || (decide (((s0).length:Int) > (12:Int))))=true then some false else (lp (z8 (fun (n1:Nat) (x1:UInt8) (s1:Unit)=>((if (!((((decide ((x1.toNat:Int) ≥ (97:Int)))&&(decide ((x1.toNat:Int)≤(122:Int)))) || ((decide ((x1.toNat:Int) ≥ (65:Int)))&&(decide ((x1.toNat:Int)≤(90:Int))))) || ((decide ((x1.toNat:Int) ≥ (48:Int)))&&(decide ((x1.toNat:Int)≤(57:Int))))))=true then some (.ret false) else some (.nxt ())):Option (Out _ Unit))) s0 0 ()) fun (s1:Unit)=>some true))
noncomputable def wR:Nat→(t0:(List GNode))→(deep1:Int)→Option Bool
 | 0,_,_=>none
 | n+1,t0,deep1=>(lp (z8 (fun (n1:Nat) (x1:GNode) (s1:Unit)=>(((if ((decide (deep1 ≥ (3:Int)))==false)=true then qy x1.name else some default).bind fun v31=>(vP (((((decide (deep1 ≥ (3:Int))) || (!v31))==false)&&((decide ((n1:Int) > (0:Int)))==true))=true→0≤(IntKind.wrap .i64 ((n1:Int) - (1:Int)))∧(IntKind.wrap .i64 ((n1:Int) - (1:Int))) < ((t0).length:Int)) (((if (((((decide (deep1 ≥ (3:Int))) || (!v31)) || ((decide ((n1:Int) > (0:Int)))&&(!(Op.bytesLess (((t0).getD (IntKind.wrap .i64 ((n1:Int) - (1:Int))).toNat default).name) x1.name)))) || ((((x1.leaves).length:Int)==(0:Int))&&(((x1.subs).length:Int)==(0:Int))))==false)=true then wR n x1.subs (IntKind.wrap .i64 (deep1+(1:Int))) else some default).bind fun v35=>(if (((((decide (deep1 ≥ (3:Int))) || (!v31)) || ((decide ((n1:Int) > (0:Int)))&&(!(Op.bytesLess (((t0).getD (IntKind.wrap .i64 ((n1:Int) - (1:Int))).toNat default).name) x1.name)))) || ((((x1.leaves).length:Int)==(0:Int))&&(((x1.subs).length:Int)==(0:Int)))) || (!v35))=true then some (.ret false) else (lp (z8 (fun (n2:Nat) (x2:GLeaf) (s2:Unit)=>(((ref05May x2).bind fun v50=>(vP ((((!v50)==false)&&((decide ((n2:Int) > (0:Int)))==true))=true→0≤(IntKind.wrap .i64 ((n2:Int) - (1:Int)))∧(IntKind.wrap .i64 ((n2:Int) - (1:Int))) < ((x1.leaves).length:Int)) ((vP ((((!v50)==false)&&((decide ((n2:Int) > (0:Int)))==true))=true→0≤(n2:Int)∧(n2:Int) < ((x1.leaves).length:Int)) ((if ((!v50) || ((decide ((n2:Int) > (0:Int)))&&(decide (((x1.leaves).getD (IntKind.wrap .i64 ((n2:Int) - (1:Int))).toNat default).typ ≥ ((x1.leaves).getD (n2:Int).toNat default).typ))))=true then some (.ret (.ret false)) else some (.nxt ()))))))):Option (Out _ Unit))) x1.leaves 0 ()) fun (s2:Unit)=>some (.nxt ()))))))):Option (Out _ Unit))) t0 0 ()) fun (s1:Unit)=>some true)
noncomputable def ref07Xmay (t0:(List GNode)) (deep1:Int):Option Bool:=anyN fun n=>wR n t0 deep1
noncomputable def ref07May (t0:(List GNode)):Option Bool :=
 ((ref07Xmay t0 (0:Int)).bind fun v1=>some v1)
noncomputable def qe (r0:Int):Option Bool :=
 some ((((decide (r0 < (97:Int))) || (decide (r0 > (122:Int))))&&((decide (r0 < (65:Int))) || (decide (r0 > (90:Int)))))&&((decide (r0 < (48:Int))) || (decide (r0 > (57:Int)))))
noncomputable def wG (s0:zM) (f1:(Int→Option Bool)) (truth2:Bool):Option Int :=
 (lp (qY (fun (s1:Nat)=>((if s1 < (s0).length then ((f1 ((dec s0 s1).1:Int)).bind fun v6=>(if (v6==truth2)=true then some (.ret (s1:Int)) else some (.nxt (s1+(dec s0 s1).2)))) else some (.brk s1)):Option (Out _ Nat))) 0) fun (s1:Nat)=>some (-1:Int))
noncomputable def va (s0:zM) (f1:(Int→Option Bool)):Option Int :=
 ((wG s0 f1 true).bind fun v1=>some v1)
noncomputable def xr (s0:zM) (f1:(Int→Option Bool)):Option Bool :=
 ((va s0 f1).bind fun v1=>some (decide (v1 ≥ (0:Int))))
noncomputable def opIsName (s0:zM):Option Bool :=
 ((if (((decide (((s0).length:Int) ≥ (1:Int)))&&(decide (((s0).length:Int)≤(12:Int))))==true)=true then xr s0 (fun x0=>qe x0) else some default).bind fun v3=>some (((decide (((s0).length:Int) ≥ (1:Int)))&&(decide (((s0).length:Int)≤(12:Int))))&&(!v3)))
noncomputable def wH (s0:zM):Option Bool :=
 ((if ((!(s0==([42]:zM)))==true)=true then opIsName s0 else some default).bind fun v1=>some ((!(s0==([42]:zM)))&&(!v1)))
noncomputable def xH (s0:(List zM)) (f1:(zM→Option Bool)):Option Int :=
 (lp (z8 (fun (n1:Nat) (x1:zM) (s1:Unit)=>(((f1 x1).bind fun v7=>(if v7=true then some (.ret (n1:Int)) else some (.nxt ()))):Option (Out _ Unit))) s0 0 ()) fun (s1:Unit)=>some (-1:Int))
noncomputable def yE (s0:(List zM)) (f1:(zM→Option Bool)):Option Bool :=
 ((xH s0 f1).bind fun v1=>some (decide (v1 ≥ (0:Int))))
noncomputable def vJ (p0:(List zM)):Option ((List zM)×Bool) :=
 (vP (((decide (((p0).length:Int) > (0:Int)))==true)=true→0≤(IntKind.wrap .i64 (((p0).length:Int) - (1:Int)))∧(IntKind.wrap .i64 (((p0).length:Int) - (1:Int))) < ((p0).length:Int)) ((if ((decide (((p0).length:Int) > (0:Int)))&&(((p0).getD (IntKind.wrap .i64 (((p0).length:Int) - (1:Int))).toNat default)==([42,42]:zM)))=true then ((slc p0 (0:Int) (IntKind.wrap .i64 (((p0).length:Int) - (1:Int)))).bind fun m4=>some (m4,true)) else some (p0,false))))
noncomputable def xp (p0:(List zM)):Option Bool :=
 ((vJ p0).bind fun v1=>((if ((((decide (((v1.1).length:Int) > (0:Int))) || v1.2)&&(decide (((v1.1).length:Int)≤(3:Int))))==true)=true then yE v1.1 (fun x0=>wH x0) else some default).bind fun v4=>some ((((decide (((v1.1).length:Int) > (0:Int))) || v1.2)&&(decide (((v1.1).length:Int)≤(3:Int))))&&(!v4))))
noncomputable def opMayPathC1 (s0:zM):Option Bool :=
 ((opIsName s0).bind fun v1=>some (!v1))
noncomputable def opMayPath (p0:(List zM)):Option Bool :=
 ((if (((decide (((p0).length:Int) ≥ (1:Int)))&&(decide (((p0).length:Int)≤(3:Int))))==true)=true then yE p0 (fun x0=>opMayPathC1 x0) else some default).bind fun v3=>some (((decide (((p0).length:Int) ≥ (1:Int)))&&(decide (((p0).length:Int)≤(3:Int))))&&(!v3)))
noncomputable def qC (n0:Int):Option Bool :=
 some ((decide (n0 ≥ (1:Int)))&&(decide (n0≤(1099511627776:Int))))
noncomputable def dotMayActor (a0:GActor):Option Bool :=
 some (((decide (a0.rep < (16:Int)))&&(decide (a0.inc ≥ (1:Int))))&&(decide (a0.inc≤(4:Int))))
noncomputable def dotMay (d0:GDot):Option Bool :=
 ((dotMayActor d0.actor).bind fun v1=>some ((v1&&(decide (d0.seq ≥ (1:Int))))&&(decide (d0.seq≤(1048576:Int)))))
noncomputable def vK (s0:zM):Option Bool :=
 some (decide (((s0).length:Int)≤(40:Int)))
noncomputable def cmpOrInt (vals0:(List Int)):Option Int :=
 (lp (z8 (fun (n1:Nat) (x1:Int) (s1:Unit)=>((if (x1 != (0:Int))=true then some (.ret x1) else some (.nxt ())):Option (Out _ Unit))) vals0 0 ()) fun (s1:Unit)=>some (0:Int))
noncomputable def wz (x0:Int):Option Bool :=
 some (x0 != x0)
noncomputable def xD (x0:Int) (y1:Int):Option Int :=
 ((wz x0).bind fun v1=>((wz y1).bind fun v2=>(if v1=true then (if v2=true then some (0:Int) else some (-1:Int)) else (if v2=true then some (1:Int) else (if (decide (x0 < y1))=true then some (-1:Int) else (if (decide (x0 > y1))=true then some (1:Int) else some (0:Int)))))))
noncomputable def wY (x0:Int):Option Bool :=
 some (x0 != x0)
noncomputable def wB (x0:Int) (y1:Int):Option Int :=
 ((wY x0).bind fun v1=>((wY y1).bind fun v2=>(if v1=true then (if v2=true then some (0:Int) else some (-1:Int)) else (if v2=true then some (1:Int) else (if (decide (x0 < y1))=true then some (-1:Int) else (if (decide (x0 > y1))=true then some (1:Int) else some (0:Int)))))))
noncomputable def wA (x0:Int):Option Bool :=
 some (x0 != x0)
noncomputable def wi (x0:Int) (y1:Int):Option Int :=
 ((wA x0).bind fun v1=>((wA y1).bind fun v2=>(if v1=true then (if v2=true then some (0:Int) else some (-1:Int)) else (if v2=true then some (1:Int) else (if (decide (x0 < y1))=true then some (-1:Int) else (if (decide (x0 > y1))=true then some (1:Int) else some (0:Int)))))))
noncomputable def qK (a0:GActor) (b1:GActor):Option Int :=
 ((wB a0.rep b1.rep).bind fun v1=>((wi a0.inc b1.inc).bind fun v2=>((cmpOrInt ([v1,v2]:List Int)).bind fun v3=>some v3)))
noncomputable def qp (a0:GDot) (b1:GDot):Option Int :=
 ((qK a0.actor b1.actor).bind fun v1=>((xD a0.seq b1.seq).bind fun v2=>((cmpOrInt ([v1,v2]:List Int)).bind fun v3=>some v3)))
noncomputable def leafXcompare (a0:Int) (d1:GDot) (b2:Int) (o3:GDot):Option Int :=
 ((xD a0 b2).bind fun v1=>((qp d1 o3).bind fun v2=>((cmpOrInt ([v1,v2]:List Int)).bind fun v3=>some v3)))
noncomputable def leafAhead (time0:Int) (d1:GDot) (other2:Int) (o3:GDot):Option Bool :=
 ((leafXcompare time0 d1 other2 o3).bind fun v1=>some (decide (v1 < (0:Int))))
noncomputable def leafXtwice (l0:(List GItem)):Option Bool :=
 (lp (z8 (fun (n1:Nat) (x1:GItem) (s1:List (GDot×Int))=>(some (.nxt (mput GDot.eqb s1 x1.dot (IntKind.wrap .i64 ((x7 GDot.eqb (0:Int) s1 x1.dot)+(1:Int))))):Option (Out _ (List (GDot×Int))))) l0 0 ([]:List (GDot×Int))) fun (s1:List (GDot×Int))=>some (decide (((s1).length:Int) < ((l0).length:Int))))
noncomputable def qh (l0:(List GItem)) (timed1:Bool):Option Bool :=
 (lp (z8 (fun (n1:Nat) (x1:GItem) (s1:Unit)=>(((dotMay x1.dot).bind fun v13=>((if ((!v13)==false)=true then vK x1.text else some default).bind fun v14=>((if (((!v13) || (!v14))==false)=true then qC x1.time else some default).bind fun v15=>(if ((((!v13) || (!v14)) || (!(timed1==v15))) || ((!timed1)&&(x1.time != (0:Int))))=true then some (.ret false) else (vP (((decide ((n1:Int) > (0:Int)))==true)=true→0≤(IntKind.wrap .i64 ((n1:Int) - (1:Int)))∧(IntKind.wrap .i64 ((n1:Int) - (1:Int))) < ((l0).length:Int)) ((vP (((decide ((n1:Int) > (0:Int)))==true)=true→0≤(IntKind.wrap .i64 ((n1:Int) - (1:Int)))∧(IntKind.wrap .i64 ((n1:Int) - (1:Int))) < ((l0).length:Int)) (((if ((decide ((n1:Int) > (0:Int)))==true)=true then leafAhead (((l0).getD (IntKind.wrap .i64 ((n1:Int) - (1:Int))).toNat default).time) (((l0).getD (IntKind.wrap .i64 ((n1:Int) - (1:Int))).toNat default).dot) x1.time x1.dot else some default).bind fun v19=>(if ((decide ((n1:Int) > (0:Int)))&&(!v19))=true then some (.ret false) else some (.nxt ()))))))))))):Option (Out _ Unit))) l0 0 ()) fun (s1:Unit)=>((leafXtwice l0).bind fun v21=>some (!v21)))
noncomputable def x9 (s0:(List GItem)) (f1:(GItem→Option Bool)):Option Int :=
 (lp (z8 (fun (n1:Nat) (x1:GItem) (s1:Unit)=>(((f1 x1).bind fun v7=>(if v7=true then some (.ret (n1:Int)) else some (.nxt ()))):Option (Out _ Unit))) s0 0 ()) fun (s1:Unit)=>some (-1:Int))
noncomputable def y6 (s0:(List GItem)) (f1:(GItem→Option Bool)):Option Bool :=
 ((x9 s0 f1).bind fun v1=>some (decide (v1 ≥ (0:Int))))
noncomputable def leafXhasC1 (x0:GItem) (c0:GDot):Option Bool :=
 some (x0.dot.actor.rep==c0.actor.rep&&(x0.dot.actor.inc==c0.actor.inc&&(x0.dot.seq==c0.seq&&true)))
noncomputable def leafXhas (l0:(List GItem)) (d1:GDot):Option Bool :=
 ((y6 l0 (fun x0=>leafXhasC1 x0 d1)).bind fun v1=>some v1)
noncomputable def leafXtombs (l0:GLeaf):Option Bool :=
 (lp (z8 (fun (n1:Nat) (x1:GDot) (s1:Unit)=>(((dotMay x1).bind fun v19=>(vP ((((!v19)==false)&&((decide ((n1:Int) > (0:Int)))==true))=true→0≤(IntKind.wrap .i64 ((n1:Int) - (1:Int)))∧(IntKind.wrap .i64 ((n1:Int) - (1:Int))) < ((l0.tombs).length:Int)) (((if (((!v19)==false)&&((decide ((n1:Int) > (0:Int)))==true))=true then qp ((l0.tombs).getD (IntKind.wrap .i64 ((n1:Int) - (1:Int))).toNat default) x1 else some default).bind fun v21=>((if (((!v19) || ((decide ((n1:Int) > (0:Int)))&&(decide (v21 ≥ (0:Int)))))==false)=true then leafXhas l0.items x1 else some default).bind fun v22=>(if (((!v19) || ((decide ((n1:Int) > (0:Int)))&&(decide (v21 ≥ (0:Int))))) || v22)=true then some (.ret false) else some (.nxt ()))))))):Option (Out _ Unit))) l0.tombs 0 ()) fun (s1:Unit)=>some true)
noncomputable def ww (s10:(List GItem)) (s21:(List GItem)):Option Bool :=
 (if (((s10).length:Int) != ((s21).length:Int))=true then some false else (lp (z8 (fun (n1:Nat) (x1:GItem) (s1:Unit)=>(((idx s21 (n1:Int)).bind fun y10=>(if (!(x1.time==y10.time&&(x1.dot.actor.rep==y10.dot.actor.rep&&(x1.dot.actor.inc==y10.dot.actor.inc&&(x1.dot.seq==y10.dot.seq&&(x1.text==y10.text&&true))))))=true then some (.ret false) else some (.nxt ()))):Option (Out _ Unit))) s10 0 ()) fun (s1:Unit)=>some true))
noncomputable def wP (s10:(List GDot)) (s21:(List GDot)):Option Bool :=
 (if (((s10).length:Int) != ((s21).length:Int))=true then some false else (lp (z8 (fun (n1:Nat) (x1:GDot) (s1:Unit)=>(((idx s21 (n1:Int)).bind fun y10=>(if (!(x1.actor.rep==y10.actor.rep&&(x1.actor.inc==y10.actor.inc&&(x1.seq==y10.seq&&true))))=true then some (.ret false) else some (.nxt ()))):Option (Out _ Unit))) s10 0 ()) fun (s1:Unit)=>some true))
noncomputable def qD (a0:GLeaf) (b1:GLeaf):Option Bool :=
 ((if ((((((a0.typ==b1.typ)&&(a0.n==b1.n))&&(a0.time==b1.time))&&(a0.dot.actor.rep==b1.dot.actor.rep&&(a0.dot.actor.inc==b1.dot.actor.inc&&(a0.dot.seq==b1.dot.seq&&true))))&&(a0.text==b1.text))==true)=true then ww a0.items b1.items else some default).bind fun v1=>((if (((((((a0.typ==b1.typ)&&(a0.n==b1.n))&&(a0.time==b1.time))&&(a0.dot.actor.rep==b1.dot.actor.rep&&(a0.dot.actor.inc==b1.dot.actor.inc&&(a0.dot.seq==b1.dot.seq&&true))))&&(a0.text==b1.text))&&v1)==true)=true then wP a0.tombs b1.tombs else some default).bind fun v2=>some (((((((a0.typ==b1.typ)&&(a0.n==b1.n))&&(a0.time==b1.time))&&(a0.dot.actor.rep==b1.dot.actor.rep&&(a0.dot.actor.inc==b1.dot.actor.inc&&(a0.dot.seq==b1.dot.seq&&true))))&&(a0.text==b1.text))&&v1)&&v2)))
noncomputable def leafMay (l0:GLeaf):Option Bool :=
 (if (l0.typ==(1:Int))=true then ((qD l0 (GLeaf.mk l0.typ l0.n (0:Int) (GDot.mk (GActor.mk (0:Int) (0:Int)) (0:Int)) ([]:zM) ([]:List GItem) ([]:List GDot))).bind fun v2=>some v2) else (if (l0.typ==(2:Int))=true then ((if ((l0.time != (0:Int))==true)=true then qC l0.time else some default).bind fun v4=>((if (((l0.time != (0:Int))==true)&&(v4==true))=true then dotMay l0.dot else some default).bind fun v5=>((if (((l0.time != (0:Int))==true)&&((v4&&v5)==true))=true then vK l0.text else some default).bind fun v6=>(if (((l0.time != (0:Int))&&(!((v4&&v5)&&v6))) || ((l0.time==(0:Int))&&((!(l0.dot.actor.rep==(0:Int)&&(l0.dot.actor.inc==(0:Int)&&(l0.dot.seq==(0:Int)&&true)))) || (!(l0.text==([]:zM))))))=true then some false else ((qD l0 (GLeaf.mk l0.typ (0:Int) l0.time l0.dot l0.text ([]:List GItem) ([]:List GDot))).bind fun v8=>some v8))))) else (if (l0.typ==(3:Int))=true then ((qh l0.items false).bind fun v10=>((if ((!v10)==false)=true then leafXtombs l0 else some default).bind fun v11=>(if ((!v10) || (!v11))=true then some false else ((qD l0 (GLeaf.mk l0.typ (0:Int) (0:Int) (GDot.mk (GActor.mk (0:Int) (0:Int)) (0:Int)) ([]:zM) l0.items l0.tombs)).bind fun v13=>some v13)))) else (if (l0.typ==(4:Int))=true then ((qh l0.items true).bind fun v15=>(if (!v15)=true then some false else ((qD l0 (GLeaf.mk l0.typ (0:Int) (0:Int) (GDot.mk (GActor.mk (0:Int) (0:Int)) (0:Int)) ([]:zM) l0.items ([]:List GDot))).bind fun v17=>some v17))) else some false))))
/-- strconv.FormatInt -/
noncomputable def qc (p0 p1:Int):Option zM:=fmtI p0 p1
noncomputable def wV (l0:GLeaf):Option (List zM) :=
 ((qc l0.n (10:Int)).bind fun v1=>some ([v1]:List zM))
/-- strconv.FormatUint -/
noncomputable def vR (p0 p1:Int):Option zM:=fmtU p0 p1
noncomputable def xe (n0:Int):Option zM :=
 ((vR n0 (10:Int)).bind fun v1=>some v1)
noncomputable def xk (d0:GDot):Option zM :=
 ((xe (IntKind.wrap .u64 (d0.actor.rep))).bind fun v1=>(vP ((v1).length+(([46]:zM)).length≤maxLen) (((xe (IntKind.wrap .u64 (d0.actor.inc))).bind fun v3=>(vP (((v1++([46]:zM))).length+(v3).length≤maxLen) ((vP ((((v1++([46]:zM))++v3)).length+(([46]:zM)).length≤maxLen) (((xe d0.seq).bind fun v6=>(vP (((((v1++([46]:zM))++v3)++([46]:zM))).length+(v6).length≤maxLen) (some ((((v1++([46]:zM))++v3)++([46]:zM))++v6))))))))))))
/-- varve/export.hex -/
noncomputable def qn (p0:zM):Option zM:=hexT p0
noncomputable def xq (l0:GLeaf):Option (List zM) :=
 (if (l0.time==(0:Int))=true then some ([([45]:zM)]:List zM) else ((xe l0.time).bind fun v2=>((xk l0.dot).bind fun v3=>((qn l0.text).bind fun v4=>some ([v2,v3,v4]:List zM)))))
noncomputable def exportXset (l0:GLeaf):Option (List zM) :=
 (lp (z8 (fun (n1:Nat) (x1:GItem) (s1:(List zM))=>(((xk x1.dot).bind fun v20=>(vP ((v20).length+(([61]:zM)).length≤maxLen) (((qn x1.text).bind fun v22=>(vP (((v20++([61]:zM))).length+(v22).length≤maxLen) ((vP ((s1).length+(([((v20++([61]:zM))++v22)]:List zM)).length≤vQ) (some (.nxt (s1++([((v20++([61]:zM))++v22)]:List zM))))))))))):Option (Out _ (List zM)))) l0.items 0 ([]:List zM)) fun (s1:(List zM))=>(lp (z8 (fun (n2:Nat) (x2:GDot) (s2:(List zM))=>(((xk x2).bind fun v42=>(vP ((([33]:zM)).length+(v42).length≤maxLen) ((vP ((s2).length+(([(([33]:zM)++v42)]:List zM)).length≤vQ) (some (.nxt (s2++([(([33]:zM)++v42)]:List zM)))))))):Option (Out _ (List zM)))) l0.tombs 0 s1) fun (s2:(List zM))=>some s2))
noncomputable def exportXlog (l0:GLeaf):Option (List zM) :=
 (lp (z8 (fun (n1:Nat) (x1:GItem) (s1:(List zM))=>(((xe x1.time).bind fun v23=>(vP ((v23).length+(([64]:zM)).length≤maxLen) (((xk x1.dot).bind fun v25=>(vP (((v23++([64]:zM))).length+(v25).length≤maxLen) ((vP ((((v23++([64]:zM))++v25)).length+(([61]:zM)).length≤maxLen) (((qn x1.text).bind fun v28=>(vP (((((v23++([64]:zM))++v25)++([61]:zM))).length+(v28).length≤maxLen) ((vP ((s1).length+(([((((v23++([64]:zM))++v25)++([61]:zM))++v28)]:List zM)).length≤vQ) (some (.nxt (s1++([((((v23++([64]:zM))++v25)++([61]:zM))++v28)]:List zM)))))))))))))))):Option (Out _ (List zM)))) l0.items 0 ([]:List zM)) fun (s1:(List zM))=>some s1)
noncomputable def exportXkinds  : Option (GExportKind×GExportKind×GExportKind×GExportKind×GExportKind) :=
 some ((GExportKind.mk ([]:zM) 0 0),(GExportKind.mk ([99,111,117,110,116,101,114]:zM) 1 1),(GExportKind.mk ([114,101,103,105,115,116,101,114]:zM) 2 2),(GExportKind.mk ([115,101,116]:zM) 3 3),(GExportKind.mk ([108,111,103]:zM) 4 4))
/-- strings.Join -/
noncomputable def xQ (p0:List zM) (p1:zM):Option zM:=strJoin p0 p1
noncomputable def qq (c:Nat) (x0:GLeaf):Option (List zM):=match c with
 | 1=>wV x0
 | 2=>xq x0
 | 3=>exportXset x0
 | 4=>exportXlog x0
 | _=>none
noncomputable def y7 (r0:GRow):Option zM :=
 ((opMayPath r0.path).bind fun v1=>((if ((!v1)==false)=true then leafMay r0.leaf else some default).bind fun v2=>(if ((!v1) || (!v2))=true then some ([]:zM) else ((exportXkinds).bind fun v4=>((idx ([v4.1,v4.2.1,v4.2.2.1,v4.2.2.2.1,v4.2.2.2.2]:List GExportKind) r0.leaf.typ).bind fun y5=>((xQ r0.path ([47]:zM)).bind fun v6=>((qq y5.parts r0.leaf).bind fun v7=>(vP ((([v6,y5.word]:List zM)).length+(v7).length≤vQ) (((xQ (([v6,y5.word]:List zM)++v7) ([32]:zM)).bind fun v9=>some v9))))))))))
noncomputable def vt (n0:Int):Option GDot :=
 some (GDot.mk (GActor.mk (0:Int) (1:Int)) n0)
noncomputable def vL  : Option Bool :=
 ((y7 (GRow.mk ([([97]:zM),([98]:zM)]:List zM) (GLeaf.mk (1:Int) (-5:Int) (0:Int) (GDot.mk (GActor.mk (0:Int) (0:Int)) (0:Int)) ([]:zM) ([]:List GItem) ([]:List GDot)))).bind fun v1=>((vt (2:Int)).bind fun v2=>((vt (1:Int)).bind fun v3=>((y7 (GRow.mk ([([97]:zM)]:List zM) (GLeaf.mk (3:Int) (0:Int) (0:Int) (GDot.mk (GActor.mk (0:Int) (0:Int)) (0:Int)) ([]:zM) ([(GItem.mk (0:Int) v2 ([117]:zM))]:List GItem) ([v3]:List GDot)))).bind fun v4=>some ((v1==([97,47,98,32,99,111,117,110,116,101,114,32,45,53]:zM))&&(v4==([97,32,115,101,116,32,48,46,49,46,50,61,55,53,32,33,48,46,49,46,49]:zM)))))))
noncomputable def vH:Nat→(t0:(List GNode))→(deep1:Int)→Option Bool
 | 0,_,_=>none
 | n+1,t0,deep1=>(if ((decide (((t0).length:Int) > (0:Int)))&&(deep1==(3:Int)))=true then some false else (lp (z8 (fun (n1:Nat) (x1:GNode) (s1:Unit)=>(((opIsName x1.name).bind fun v27=>(vP ((((!v27)==false)&&((decide ((n1:Int) > (0:Int)))==true))=true→0≤(IntKind.wrap .i64 ((n1:Int) - (1:Int)))∧(IntKind.wrap .i64 ((n1:Int) - (1:Int))) < ((t0).length:Int)) (((if ((((!v27) || ((decide ((n1:Int) > (0:Int)))&&(!(Op.bytesLess (((t0).getD (IntKind.wrap .i64 ((n1:Int) - (1:Int))).toNat default).name) x1.name)))) || ((IntKind.wrap .i64 (((x1.leaves).length:Int)+((x1.subs).length:Int)))==(0:Int)))==false)=true then vH n x1.subs (IntKind.wrap .i64 (deep1+(1:Int))) else some default).bind fun v31=>(if ((((!v27) || ((decide ((n1:Int) > (0:Int)))&&(!(Op.bytesLess (((t0).getD (IntKind.wrap .i64 ((n1:Int) - (1:Int))).toNat default).name) x1.name)))) || ((IntKind.wrap .i64 (((x1.leaves).length:Int)+((x1.subs).length:Int)))==(0:Int))) || (!v31))=true then some (.ret false) else (lp (z8 (fun (n2:Nat) (x2:GLeaf) (s2:Unit)=>(((leafMay x2).bind fun v43=>(vP ((((!v43)==false)&&((decide ((n2:Int) > (0:Int)))==true))=true→0≤(IntKind.wrap .i64 ((n2:Int) - (1:Int)))∧(IntKind.wrap .i64 ((n2:Int) - (1:Int))) < ((x1.leaves).length:Int)) ((if ((!v43) || ((decide ((n2:Int) > (0:Int)))&&(decide (((x1.leaves).getD (IntKind.wrap .i64 ((n2:Int) - (1:Int))).toNat default).typ ≥ x2.typ))))=true then some (.ret (.ret false)) else some (.nxt ()))))):Option (Out _ Unit))) x1.leaves 0 ()) fun (s2:Unit)=>some (.nxt ()))))))):Option (Out _ Unit))) t0 0 ()) fun (s1:Unit)=>some true))
noncomputable def treeXmay (t0:(List GNode)) (deep1:Int):Option Bool:=anyN fun n=>vH n t0 deep1
noncomputable def treeMay (t0:(List GNode)):Option Bool :=
 ((treeXmay t0 (0:Int)).bind fun v1=>some v1)
noncomputable def xn (s0:(List zM)):Option (List zM) :=
 (nilq s0 fun b1=>(if b1=true then some ([]:List zM) else (vP ((([]:List zM)).length+(s0).length≤vQ) (some (([]:List zM)++s0)))))
noncomputable def vA (s0:(List GItem)):Option (List GItem) :=
 (nilq s0 fun b1=>(if b1=true then some ([]:List GItem) else (vP ((([]:List GItem)).length+(s0).length≤vQ) (some (([]:List GItem)++s0)))))
noncomputable def vS (s0:(List GDot)):Option (List GDot) :=
 (nilq s0 fun b1=>(if b1=true then some ([]:List GDot) else (vP ((([]:List GDot)).length+(s0).length≤vQ) (some (([]:List GDot)++s0)))))
noncomputable def pathsXown (l0:GLeaf):Option GLeaf :=
 ((vA l0.items).bind fun v1=>((vS l0.tombs).bind fun v2=>some (GLeaf.mk l0.typ l0.n l0.time l0.dot l0.text v1 v2)))
noncomputable def wT:Nat→(t0:(List GNode))→(ahead1:(List zM))→(is2:((List zM)→Option Bool))→Option (List GNode)
 | 0,_,_,_=>none
 | n+1,t0,ahead1,is2=>(lp (z8 (fun (n1:Nat) (x1:GNode) (s1:(List GNode))=>(((xn ahead1).bind fun v32=>(vP ((v32).length+(([x1.name]:List zM)).length≤vQ) (((wT n x1.subs (v32++([x1.name]:List zM)) is2).bind fun v34=>(lp (z8 (fun (n2:Nat) (x2:GLeaf) (s2:(List GLeaf))=>(((is2 (v32++([x1.name]:List zM))).bind fun v49=>(if v49=true then ((pathsXown x2).bind fun v51=>(vP ((s2).length+(([v51]:List GLeaf)).length≤vQ) (some (.nxt (s2++([v51]:List GLeaf)))))) else some (.nxt s2))):Option (Out _ (List GLeaf)))) x1.leaves 0 ([]:List GLeaf)) fun (s2:(List GLeaf))=>(if (decide ((IntKind.wrap .i64 (((s2).length:Int)+((v34).length:Int))) > (0:Int)))=true then (vP ((s1).length+(([(GNode.mk x1.name s2 v34)]:List GNode)).length≤vQ) (some (.nxt (s1++([(GNode.mk x1.name s2 v34)]:List GNode))))) else some (.nxt s1))))))):Option (Out _ (List GNode)))) t0 0 ([]:List GNode)) fun (s1:(List GNode))=>some s1)
noncomputable def pathsXkept (t0:(List GNode)) (ahead1:(List zM)) (is2:((List zM)→Option Bool)):Option (List GNode):=anyN fun n=>wT n t0 ahead1 is2
noncomputable def vE (p0:(List zM)) (path1:(List zM)):Option Bool :=
 ((vJ p0).bind fun v1=>((xp p0).bind fun v2=>((if ((!v2)==false)=true then opMayPath path1 else some default).bind fun v3=>(if ((((!v2) || (!v3)) || (decide (((path1).length:Int) < ((v1.1).length:Int)))) || ((decide (((path1).length:Int) > ((v1.1).length:Int)))&&(!v1.2)))=true then some false else (lp (z8 (fun (n1:Nat) (x1:zM) (s1:Unit)=>((vP (((!(x1==([42]:zM)))==true)=true→0≤(n1:Int)∧(n1:Int) < ((path1).length:Int)) ((if ((!(x1==([42]:zM)))&&(!(x1==((path1).getD (n1:Int).toNat default))))=true then some (.ret false) else some (.nxt ())))):Option (Out _ Unit))) v1.1 0 ()) fun (s1:Unit)=>some true)))))
noncomputable def qu (path0:(List zM)) (c0:(List zM)):Option Bool :=
 ((vE c0 path0).bind fun v1=>some v1)
noncomputable def qA (t0:(List GNode)) (p1:(List zM)):Option ((List GNode)×Int) :=
 ((treeMay t0).bind fun v1=>((if ((!v1)==false)=true then xp p1 else some default).bind fun v2=>(if ((!v1) || (!v2))=true then some (([]:List GNode),(2:Int)) else ((pathsXkept t0 ([]:List zM) (fun x0=>qu x0 p1)).bind fun v4=>some (v4,(0:Int))))))
noncomputable def qd (t0:(List GNode)) (ahead1:(List zM)):Option ((List GNode)×(List zM)) :=
 some (t0,ahead1)
noncomputable def x4:Nat→(S:Type)→(yield0:S→GRow→Option (Bool×S))→(c0:(List GNode))→(c1:(List zM))→(s0:S)→Option S
 | 0,_,_,_,_,_=>none
 | n+1,S,yield0,c0,c1,s0=>(lp (z8 (fun (n1:Nat) (x1:GNode) (s1:S)=>(((xn c1).bind fun v37=>(vP ((v37).length+(([x1.name]:List zM)).length≤vQ) ((lp (z8 (fun (n2:Nat) (x2:GLeaf) (s2:S)=>(((xn (v37++([x1.name]:List zM))).bind fun v51=>((pathsXown x2).bind fun v52=>((yield0 s2 (GRow.mk v51 v52)).bind fun v53=>(if (!v53.1)=true then some (.ret (.ret v53.2)) else some (.nxt v53.2))))):Option (Out _ S))) x1.leaves 0 s1) fun (s2:S)=>((qd x1.subs (v37++([x1.name]:List zM))).bind fun v55=>(rng (x4 n _ (stp (fun (s3:S) (x3:GRow)=>(((yield0 s3 x3).bind fun v64=>(if (!v64.1)=true then some (false,(v64.2,some 0)) else some (true,(v64.2,none)))):Option (Bool×(S×Option Nat))))) v55.1 v55.2 (s2,none)) (fun (s3:S)=>some (.nxt s3)) (fun (j3:Nat) (s3:S)=>if j3=0 then some (.ret s3) else none))))))):Option (Out _ S))) c0 0 s0) fun (s1:S)=>some s1)
noncomputable def pathsXrowsC1 (S:Type) (yield0:S→GRow→Option (Bool×S)) (c0:(List GNode)) (c1:(List zM)) (s0:S):Option S:=anyN fun n=>x4 n S yield0 c0 c1 s0
noncomputable def wn (s0:(List GRow)) (seq1:(S:Type)→(S→GRow→Option (Bool×S))→S→Option S):Option (List GRow) :=
 (rng (seq1 _ (stp (fun (s1:(List GRow)) (x1:GRow)=>((vP ((s1).length+(([x1]:List GRow)).length≤vQ) (some (true,((s1++([x1]:List GRow)),none)))):Option (Bool×((List GRow)×Option Nat))))) (s0,none)) (fun (s1:(List GRow))=>some s1) (fun _ _=>none))
noncomputable def vd (seq0:(S:Type)→(S→GRow→Option (Bool×S))→S→Option S):Option (List GRow) :=
 ((wn ([]:List GRow) seq0).bind fun v1=>some v1)
noncomputable def pathsRows (t0:(List GNode)):Option (List GRow) :=
 ((treeMay t0).bind fun v1=>(if (!v1)=true then some ([]:List GRow) else ((qd t0 ([]:List zM)).bind fun v3=>((vd (fun S y s=>pathsXrowsC1 S y v3.1 v3.2 s)).bind fun v4=>some v4))))
/-- varve/export.Text -/
noncomputable def exportText (t0:List GNode):Option zM:=(pathsRows t0).bind fun v=>linesO y7 v
noncomputable def xV (t0:(List GNode)) (p1:(List zM)):Option Bool :=
 ((ref07Great t0).bind fun v1=>((if (v1==false)=true then ref07May t0 else some default).bind fun v2=>((if (((v1 || (!v2)) || (decide (((p1).length:Int) > (5:Int))))==false)=true then xp p1 else some default).bind fun v4=>(if (((v1 || (!v2)) || (decide (((p1).length:Int) > (5:Int)))) || (!v4))=true then ((vL).bind fun v6=>some v6) else ((qA t0 p1).bind fun v7=>((pathsRows t0).bind fun v8=>(lp (z8 (fun (n1:Nat) (x1:GRow) (s1:zM)=>(((vE p1 x1.path).bind fun v19=>(if v19=true then ((y7 x1).bind fun v21=>(vP ((v21).length+(([10]:zM)).length≤maxLen) ((vP ((s1).length+((v21++([10]:zM))).length≤maxLen) (some (.nxt (s1++(v21++([10]:zM))))))))) else some (.nxt s1))):Option (Out _ zM))) v8 0 ([]:zM)) fun (s1:zM)=>((if ((v7.2==(0:Int))==true)=true then exportText v7.1 else some default).bind fun v24=>((if (((v7.2==(0:Int))&&(v24==s1))==true)=true then vL else some default).bind fun v25=>some (((v7.2==(0:Int))&&(v24==s1))&&v25))))))))))
end Go.Vv
