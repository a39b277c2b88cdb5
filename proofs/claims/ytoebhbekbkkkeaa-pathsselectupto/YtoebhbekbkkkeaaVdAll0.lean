/- What the functions compute, as plain functions; printed by a program from the code. -/
import Derived.Test.YtoebhbekbkkkeaaVvY
import Derived.Test.YtoebhbekbkkkeaaVvZ
import Derived.Test.YtoebhbekbkkkeaaVvLb
import Derived.Test.YtoebhbekbkkkeaaVvMr
import Derived.Test.YtoebhbekbkkkeaaVvIt
import Derived.Test.YtoebhbekbkkkeaaVvMl
import Derived.Test.YtoebhbekbkkkeaaVvRb
namespace Go.Vv
open Go
set_option linter.unusedVariables false
structure GActor where
 rep:Int
 inc:Int
 deriving DecidableEq,Inhabited
def GActor.eqb (a b:GActor):Bool:=(a.rep==b.rep&&(a.inc==b.inc&&true))
structure GDot where
 actor:GActor
 seq:Int
 deriving DecidableEq,Inhabited
def GDot.eqb (a b:GDot):Bool:=(a.actor.rep==b.actor.rep&&(a.actor.inc==b.actor.inc&&(a.seq==b.seq&&true)))
structure GItem where
 time:Int
 dot:GDot
 text:zR
 deriving DecidableEq,Inhabited
def GItem.eqb (a b:GItem):Bool:=(a.time==b.time&&(a.dot.actor.rep==b.dot.actor.rep&&(a.dot.actor.inc==b.dot.actor.inc&&(a.dot.seq==b.dot.seq&&(a.text==b.text&&true)))))
structure GLeaf where
 typ:Int
 n:Int
 time:Int
 dot:GDot
 text:zR
 items:(List GItem)
 tombs:(List GDot)
 deriving DecidableEq,Inhabited
structure GNode where
 name:zR
 leaves:(List GLeaf)
 subs:(List GNode)
 deriving Inhabited
structure GVarveref07Row where
 path:(List zR)
 l:GLeaf
 deriving DecidableEq,Inhabited
structure GRow where
 path:(List zR)
 leaf:GLeaf
 deriving DecidableEq,Inhabited
def GActor.wf (x:GActor):Prop:=(InK .u8 x.rep)∧(InK .u32 x.inc)
def GDot.wf (x:GDot):Prop:=(GActor.wf x.actor)∧(InK .u64 x.seq)
def GItem.wf (x:GItem):Prop:=(InK .u64 x.time)∧(GDot.wf x.dot)∧(x.text.length≤maxLen)
def GLeaf.wf (x:GLeaf):Prop:=(InK .u8 x.typ)∧(InK .i64 x.n)∧(InK .u64 x.time)∧(GDot.wf x.dot)∧(x.text.length≤maxLen)∧(x.items.length≤maxLen∧∀ y ∈ x.items,GItem.wf y)∧(x.tombs.length≤maxLen∧∀ y ∈ x.tombs,GDot.wf y)
mutual
def GNode.wf:GNode→Prop
 | ⟨name,leaves,subs⟩=>(name.length≤maxLen)∧(leaves.length≤maxLen∧∀ y ∈ leaves,GLeaf.wf y)∧(GNode.wfs subs)
def GNode.wfs:List GNode→Prop
 | []=>True
 | x::r=>x.wf∧GNode.wfs r
end
theorem GNode.wfs_iff (l:List GNode):GNode.wfs l ↔ ∀ y ∈ l,GNode.wf y:=by
 induction l with
 | nil=>simp [GNode.wfs]
 | cons x r ih=>simp [GNode.wfs,ih]
def GVarveref07Row.wf (x:GVarveref07Row):Prop:=(x.path.length≤maxLen∧∀ y ∈ x.path,y.length≤maxLen)∧(GLeaf.wf x.l)
def GRow.wf (x:GRow):Prop:=(x.path.length≤maxLen∧∀ y ∈ x.path,y.length≤maxLen)∧(GLeaf.wf x.leaf)
def GActor.bk (x:GActor):Nat:=(1+(1+0))+1
def GDot.bk (x:GDot):Nat:=(GActor.bk x.actor+(1+0))+1
def GItem.bk (x:GItem):Nat:=(1+(GDot.bk x.dot+((x.text.length+1)+0)))+1
def GLeaf.bk (x:GLeaf):Nat:=(1+(1+(1+(GDot.bk x.dot+((x.text.length+1)+(((x.items.map GItem.bk).sum+1)+(((x.tombs.map GDot.bk).sum+1)+0)))))))+1
mutual
def GNode.bk:GNode→Nat
 | ⟨name,leaves,subs⟩=>((name.length+1)+(((leaves.map GLeaf.bk).sum+1)+(((GNode.bks subs)+1)+0)))+1
def GNode.bks:List GNode→Nat
 | []=>0
 | x::r=>x.bk+GNode.bks r
end
theorem GNode.bks_eq (l:List GNode):GNode.bks l=(l.map GNode.bk).sum:=by
 induction l with
 | nil=>rfl
 | cons x r ih=>simp only [GNode.bks,List.map_cons,List.sum_cons,ih]
def GVarveref07Row.bk (x:GVarveref07Row):Nat:=(((x.path.map (fun s=>s.length+1)).sum+1)+(GLeaf.bk x.l+0))+1
def GRow.bk (x:GRow):Nat:=(((x.path.map (fun s=>s.length+1)).sum+1)+(GLeaf.bk x.leaf+0))+1
noncomputable def xT:Nat→(t0:(List GNode))→(deep1:Int)→Option Int
 | 0,_,_=>none
 | n+1,t0,deep1=>(lp (vW (fun (s1:Int×Int)=>((if ((decide (s1.2 < ((t0).length:Int)))&&(decide (deep1 < (10:Int))))=true then ((idx t0 s1.2).bind fun y68=>((idx t0 s1.2).bind fun y70=>((xT n y70.subs (IntKind.wrap .i64 (deep1+(1:Int)))).bind fun v71=>(lp (vW (fun (s2:Int×Int)=>(((idx t0 s1.2).bind fun y102=>(if (decide (s2.2 < ((y102.leaves).length:Int)))=true then ((idx t0 s1.2).bind fun y105=>((idx y105.leaves s2.2).bind fun y106=>(lp (yf (fun (n3:Nat) (x3:GItem) (s3:Int)=>(some (.nxt (IntKind.wrap .i64 ((IntKind.wrap .i64 (s3+(1:Int)))+((x3.text).length:Int)))):Option (Out _ Int))) y106.items 0 (IntKind.wrap .i64 ((IntKind.wrap .i64 ((IntKind.wrap .i64 (s2.1+(1:Int)))+((y106.text).length:Int)))+((y106.tombs).length:Int)))) fun (s3:Int)=>some (.nxt (s3,(IntKind.wrap .i64 (s2.2+(1:Int)))))))) else some (.brk (s2.1,s2.2)))):Option (Out _ (Int×Int)))) ((IntKind.wrap .i64 ((IntKind.wrap .i64 ((IntKind.wrap .i64 (s1.1+(1:Int)))+((y68.name).length:Int)))+v71)),(0:Int))) fun (s2:Int×Int)=>some (.nxt (s2.1,(IntKind.wrap .i64 (s1.2+(1:Int))))))))) else some (.brk (s1.1,s1.2))):Option (Out _ (Int×Int)))) ((0:Int),(0:Int))) fun (s1:Int×Int)=>some s1.1)
noncomputable def ref07Xsize (t0:(List GNode)) (deep1:Int):Option Int:=anyN fun n=>xT n t0 deep1
noncomputable def ref07Great (t0:(List GNode)):Option Bool :=
 ((ref07Xsize t0 (0:Int)).bind fun v1=>some (decide (v1 > (1500:Int))))
noncomputable def law30Xgreat (l0:(List (List zR))):Option Bool :=
 (lp (yf (fun (n1:Nat) (x1:(List zR)) (s1:Unit)=>((lp (yf (fun (n2:Nat) (x2:zR) (s2:Unit)=>((if (decide (((x2).length:Int) > (40:Int)))=true then some (.ret (.ret true)) else some (.nxt ())):Option (Out _ Unit))) x1 0 ()) fun (s2:Unit)=>(if (decide (((x1).length:Int) > (10:Int)))=true then some (.ret true) else some (.nxt ()))):Option (Out _ Unit))) l0 0 ()) fun (s1:Unit)=>some false)
/-- strings.Join -/
noncomputable def stringsJoin (p0:List zR) (p1:zR):Option zR:=strJoin p0 p1
noncomputable def qS (r0:Int):Option Bool :=
 some ((((decide (r0 < (97:Int))) || (decide (r0 > (122:Int))))&&((decide (r0 < (65:Int))) || (decide (r0 > (90:Int)))))&&((decide (r0 < (48:Int))) || (decide (r0 > (57:Int)))))
noncomputable def vH (s0:zR) (f1:(Int→Option Bool)) (truth2:Bool):Option Int :=
 (lp (vW (fun (s1:Nat)=>((if s1 < (s0).length then ((f1 ((dec s0 s1).1:Int)).bind fun v6=>(if (v6==truth2)=true then some (.ret (s1:Int)) else some (.nxt (s1+(dec s0 s1).2)))) else some (.brk s1)):Option (Out _ Nat))) 0) fun (s1:Nat)=>some (-1:Int))
noncomputable def vU (s0:zR) (f1:(Int→Option Bool)):Option Int :=
 ((vH s0 f1 true).bind fun v1=>some v1)
noncomputable def wa (s0:zR) (f1:(Int→Option Bool)):Option Bool :=
 ((vU s0 f1).bind fun v1=>some (decide (v1 ≥ (0:Int))))
noncomputable def opIsName (s0:zR):Option Bool :=
 ((if (((decide (((s0).length:Int) ≥ (1:Int)))&&(decide (((s0).length:Int)≤(12:Int))))==true)=true then wa s0 (fun x0=>qS x0) else some default).bind fun v3=>some (((decide (((s0).length:Int) ≥ (1:Int)))&&(decide (((s0).length:Int)≤(12:Int))))&&(!v3)))
noncomputable def vI (s0:zR):Option Bool :=
 ((if ((!(s0==([42]:zR)))==true)=true then opIsName s0 else some default).bind fun v1=>some ((!(s0==([42]:zR)))&&(!v1)))
noncomputable def wr (s0:(List zR)) (f1:(zR→Option Bool)):Option Int :=
 (lp (yf (fun (n1:Nat) (x1:zR) (s1:Unit)=>(((f1 x1).bind fun v7=>(if v7=true then some (.ret (n1:Int)) else some (.nxt ()))):Option (Out _ Unit))) s0 0 ()) fun (s1:Unit)=>some (-1:Int))
noncomputable def y5 (s0:(List zR)) (f1:(zR→Option Bool)):Option Bool :=
 ((wr s0 f1).bind fun v1=>some (decide (v1 ≥ (0:Int))))
noncomputable def qp (p0:(List zR)):Option ((List zR)×Bool) :=
 (xP (((decide (((p0).length:Int) > (0:Int)))==true)=true→0≤(IntKind.wrap .i64 (((p0).length:Int) - (1:Int)))∧(IntKind.wrap .i64 (((p0).length:Int) - (1:Int))) < ((p0).length:Int)) ((if ((decide (((p0).length:Int) > (0:Int)))&&(((p0).getD (IntKind.wrap .i64 (((p0).length:Int) - (1:Int))).toNat default)==([42,42]:zR)))=true then ((slc p0 (0:Int) (IntKind.wrap .i64 (((p0).length:Int) - (1:Int)))).bind fun m4=>some (m4,true)) else some (p0,false))))
noncomputable def xz (p0:(List zR)):Option Bool :=
 ((qp p0).bind fun v1=>((if ((((decide (((v1.1).length:Int) > (0:Int))) || v1.2)&&(decide (((v1.1).length:Int)≤(3:Int))))==true)=true then y5 v1.1 (fun x0=>vI x0) else some default).bind fun v4=>some ((((decide (((v1.1).length:Int) > (0:Int))) || v1.2)&&(decide (((v1.1).length:Int)≤(3:Int))))&&(!v4))))
noncomputable def pathsText (p0:(List zR)):Option zR :=
 ((xz p0).bind fun v1=>(if (!v1)=true then some ([]:zR) else ((stringsJoin p0 ([47]:zR)).bind fun v3=>some v3)))
noncomputable def opMayPathC1 (s0:zR):Option Bool :=
 ((opIsName s0).bind fun v1=>some (!v1))
noncomputable def opMayPath (p0:(List zR)):Option Bool :=
 ((if (((decide (((p0).length:Int) ≥ (1:Int)))&&(decide (((p0).length:Int)≤(3:Int))))==true)=true then y5 p0 (fun x0=>opMayPathC1 x0) else some default).bind fun v3=>some (((decide (((p0).length:Int) ≥ (1:Int)))&&(decide (((p0).length:Int)≤(3:Int))))&&(!v3)))
noncomputable def wL (p0:(List zR)) (path1:(List zR)):Option Bool :=
 ((qp p0).bind fun v1=>((xz p0).bind fun v2=>((if ((!v2)==false)=true then opMayPath path1 else some default).bind fun v3=>(if ((((!v2) || (!v3)) || (decide (((path1).length:Int) < ((v1.1).length:Int)))) || ((decide (((path1).length:Int) > ((v1.1).length:Int)))&&(!v1.2)))=true then some false else (lp (yf (fun (n1:Nat) (x1:zR) (s1:Unit)=>((xP (((!(x1==([42]:zR)))==true)=true→0≤(n1:Int)∧(n1:Int) < ((path1).length:Int)) ((if ((!(x1==([42]:zR)))&&(!(x1==((path1).getD (n1:Int).toNat default))))=true then some (.ret false) else some (.nxt ())))):Option (Out _ Unit))) v1.1 0 ()) fun (s1:Unit)=>some true)))))
noncomputable def qu  : Option Bool :=
 ((wL ([([97]:zR),([42]:zR)]:List zR) ([([97]:zR),([98]:zR)]:List zR)).bind fun v1=>(xP ((v1==true)=true→0≤(0:Int)∧(0:Int)≤(1:Int)∧(1:Int)≤((([([97]:zR),([98]:zR)]:List zR)).length:Int)) (((if (v1==true)=true then wL ([([97]:zR),([42]:zR)]:List zR) ((([([97]:zR),([98]:zR)]:List zR).take (1:Int).toNat).drop (0:Int).toNat) else some default).bind fun v4=>(xP (((v1&&(!v4))==true)=true→0≤(0:Int)∧(0:Int)≤(1:Int)∧(1:Int)≤((([([97]:zR),([98]:zR)]:List zR)).length:Int)) (((if ((v1&&(!v4))==true)=true then wL ([([97]:zR),([42,42]:zR)]:List zR) ((([([97]:zR),([98]:zR)]:List zR).take (1:Int).toNat).drop (0:Int).toNat) else some default).bind fun v7=>((if (((v1&&(!v4))&&v7)==true)=true then wL ([([42,42]:zR)]:List zR) ([([97]:zR),([98]:zR)]:List zR) else some default).bind fun v8=>((if ((((v1&&(!v4))&&v7)&&v8)==true)=true then pathsText ([([97]:zR),([42]:zR)]:List zR) else some default).bind fun v9=>some ((((v1&&(!v4))&&v7)&&v8)&&(v9==([97,47,42]:zR))))))))))))
noncomputable def cmpOrInt (vals0:(List Int)):Option Int :=
 (lp (yf (fun (n1:Nat) (x1:Int) (s1:Unit)=>((if (x1 != (0:Int))=true then some (.ret x1) else some (.nxt ())):Option (Out _ Unit))) vals0 0 ()) fun (s1:Unit)=>some (0:Int))
noncomputable def vS (x0:Int):Option Bool :=
 some (x0 != x0)
noncomputable def vD (x0:Int) (y1:Int):Option Int :=
 ((vS x0).bind fun v1=>((vS y1).bind fun v2=>(if v1=true then (if v2=true then some (0:Int) else some (-1:Int)) else (if v2=true then some (1:Int) else (if (decide (x0 < y1))=true then some (-1:Int) else (if (decide (x0 > y1))=true then some (1:Int) else some (0:Int)))))))
noncomputable def vC (x0:Int):Option Bool :=
 some (x0 != x0)
noncomputable def wV (x0:Int) (y1:Int):Option Int :=
 ((vC x0).bind fun v1=>((vC y1).bind fun v2=>(if v1=true then (if v2=true then some (0:Int) else some (-1:Int)) else (if v2=true then some (1:Int) else (if (decide (x0 < y1))=true then some (-1:Int) else (if (decide (x0 > y1))=true then some (1:Int) else some (0:Int)))))))
noncomputable def dotXcompare (a0:GActor) (b1:GActor):Option Int :=
 ((vD a0.rep b1.rep).bind fun v1=>((wV a0.inc b1.inc).bind fun v2=>((cmpOrInt ([v1,v2]:List Int)).bind fun v3=>some v3)))
noncomputable def vB (x0:Int):Option Bool :=
 some (x0 != x0)
noncomputable def wm (x0:Int) (y1:Int):Option Int :=
 ((vB x0).bind fun v1=>((vB y1).bind fun v2=>(if v1=true then (if v2=true then some (0:Int) else some (-1:Int)) else (if v2=true then some (1:Int) else (if (decide (x0 < y1))=true then some (-1:Int) else (if (decide (x0 > y1))=true then some (1:Int) else some (0:Int)))))))
noncomputable def qZ (a0:GDot) (b1:GDot):Option Int :=
 ((dotXcompare a0.actor b1.actor).bind fun v1=>((wm a0.seq b1.seq).bind fun v2=>((cmpOrInt ([v1,v2]:List Int)).bind fun v3=>some v3)))
noncomputable def dotMayActor (a0:GActor):Option Bool :=
 some (((decide (a0.rep < (16:Int)))&&(decide (a0.inc ≥ (1:Int))))&&(decide (a0.inc≤(4:Int))))
noncomputable def dotMay (d0:GDot):Option Bool :=
 ((dotMayActor d0.actor).bind fun v1=>some ((v1&&(decide (d0.seq ≥ (1:Int))))&&(decide (d0.seq≤(1048576:Int)))))
noncomputable def leafXhasC1 (x0:GItem) (c0:GDot):Option Bool :=
 some (x0.dot.actor.rep==c0.actor.rep&&(x0.dot.actor.inc==c0.actor.inc&&(x0.dot.seq==c0.seq&&true)))
noncomputable def wP (s0:(List GItem)) (f1:(GItem→Option Bool)):Option Int :=
 (lp (yf (fun (n1:Nat) (x1:GItem) (s1:Unit)=>(((f1 x1).bind fun v7=>(if v7=true then some (.ret (n1:Int)) else some (.nxt ()))):Option (Out _ Unit))) s0 0 ()) fun (s1:Unit)=>some (-1:Int))
noncomputable def xu (s0:(List GItem)) (f1:(GItem→Option Bool)):Option Bool :=
 ((wP s0 f1).bind fun v1=>some (decide (v1 ≥ (0:Int))))
noncomputable def leafXhas (l0:(List GItem)) (d1:GDot):Option Bool :=
 ((xu l0 (fun x0=>leafXhasC1 x0 d1)).bind fun v1=>some v1)
noncomputable def leafXtombs (l0:GLeaf):Option Bool :=
 (lp (yf (fun (n1:Nat) (x1:GDot) (s1:Unit)=>(((dotMay x1).bind fun v19=>(xP ((((!v19)==false)&&((decide ((n1:Int) > (0:Int)))==true))=true→0≤(IntKind.wrap .i64 ((n1:Int) - (1:Int)))∧(IntKind.wrap .i64 ((n1:Int) - (1:Int))) < ((l0.tombs).length:Int)) (((if (((!v19)==false)&&((decide ((n1:Int) > (0:Int)))==true))=true then qZ ((l0.tombs).getD (IntKind.wrap .i64 ((n1:Int) - (1:Int))).toNat default) x1 else some default).bind fun v21=>((if (((!v19) || ((decide ((n1:Int) > (0:Int)))&&(decide (v21 ≥ (0:Int)))))==false)=true then leafXhas l0.items x1 else some default).bind fun v22=>(if (((!v19) || ((decide ((n1:Int) > (0:Int)))&&(decide (v21 ≥ (0:Int))))) || v22)=true then some (.ret false) else some (.nxt ()))))))):Option (Out _ Unit))) l0.tombs 0 ()) fun (s1:Unit)=>some true)
noncomputable def vK (s10:(List GDot)) (s21:(List GDot)):Option Bool :=
 (if (((s10).length:Int) != ((s21).length:Int))=true then some false else (lp (yf (fun (n1:Nat) (x1:GDot) (s1:Unit)=>(((idx s21 (n1:Int)).bind fun y10=>(if (!(x1.actor.rep==y10.actor.rep&&(x1.actor.inc==y10.actor.inc&&(x1.seq==y10.seq&&true))))=true then some (.ret false) else some (.nxt ()))):Option (Out _ Unit))) s10 0 ()) fun (s1:Unit)=>some true))
noncomputable def vw (s10:(List GItem)) (s21:(List GItem)):Option Bool :=
 (if (((s10).length:Int) != ((s21).length:Int))=true then some false else (lp (yf (fun (n1:Nat) (x1:GItem) (s1:Unit)=>(((idx s21 (n1:Int)).bind fun y10=>(if (!(x1.time==y10.time&&(x1.dot.actor.rep==y10.dot.actor.rep&&(x1.dot.actor.inc==y10.dot.actor.inc&&(x1.dot.seq==y10.dot.seq&&(x1.text==y10.text&&true))))))=true then some (.ret false) else some (.nxt ()))):Option (Out _ Unit))) s10 0 ()) fun (s1:Unit)=>some true))
noncomputable def leafSame (a0:GLeaf) (b1:GLeaf):Option Bool :=
 ((if ((((((a0.typ==b1.typ)&&(a0.n==b1.n))&&(a0.time==b1.time))&&(a0.dot.actor.rep==b1.dot.actor.rep&&(a0.dot.actor.inc==b1.dot.actor.inc&&(a0.dot.seq==b1.dot.seq&&true))))&&(a0.text==b1.text))==true)=true then vw a0.items b1.items else some default).bind fun v1=>((if (((((((a0.typ==b1.typ)&&(a0.n==b1.n))&&(a0.time==b1.time))&&(a0.dot.actor.rep==b1.dot.actor.rep&&(a0.dot.actor.inc==b1.dot.actor.inc&&(a0.dot.seq==b1.dot.seq&&true))))&&(a0.text==b1.text))&&v1)==true)=true then vK a0.tombs b1.tombs else some default).bind fun v2=>some (((((((a0.typ==b1.typ)&&(a0.n==b1.n))&&(a0.time==b1.time))&&(a0.dot.actor.rep==b1.dot.actor.rep&&(a0.dot.actor.inc==b1.dot.actor.inc&&(a0.dot.seq==b1.dot.seq&&true))))&&(a0.text==b1.text))&&v1)&&v2)))
noncomputable def leafXisTime (n0:Int):Option Bool :=
 some ((decide (n0 ≥ (1:Int)))&&(decide (n0≤(1099511627776:Int))))
noncomputable def qt (s0:zR):Option Bool :=
 some (decide (((s0).length:Int)≤(40:Int)))
noncomputable def leafXcompare (a0:Int) (d1:GDot) (b2:Int) (o3:GDot):Option Int :=
 ((wm a0 b2).bind fun v1=>((qZ d1 o3).bind fun v2=>((cmpOrInt ([v1,v2]:List Int)).bind fun v3=>some v3)))
noncomputable def leafAhead (time0:Int) (d1:GDot) (other2:Int) (o3:GDot):Option Bool :=
 ((leafXcompare time0 d1 other2 o3).bind fun v1=>some (decide (v1 < (0:Int))))
noncomputable def leafXtwice (l0:(List GItem)):Option Bool :=
 (lp (yf (fun (n1:Nat) (x1:GItem) (s1:List (GDot×Int))=>(some (.nxt (mput GDot.eqb s1 x1.dot (IntKind.wrap .i64 ((wM GDot.eqb (0:Int) s1 x1.dot)+(1:Int))))):Option (Out _ (List (GDot×Int))))) l0 0 ([]:List (GDot×Int))) fun (s1:List (GDot×Int))=>some (decide (((s1).length:Int) < ((l0).length:Int))))
noncomputable def qU (l0:(List GItem)) (timed1:Bool):Option Bool :=
 (lp (yf (fun (n1:Nat) (x1:GItem) (s1:Unit)=>(((dotMay x1.dot).bind fun v13=>((if ((!v13)==false)=true then qt x1.text else some default).bind fun v14=>((if (((!v13) || (!v14))==false)=true then leafXisTime x1.time else some default).bind fun v15=>(if ((((!v13) || (!v14)) || (!(timed1==v15))) || ((!timed1)&&(x1.time != (0:Int))))=true then some (.ret false) else (xP (((decide ((n1:Int) > (0:Int)))==true)=true→0≤(IntKind.wrap .i64 ((n1:Int) - (1:Int)))∧(IntKind.wrap .i64 ((n1:Int) - (1:Int))) < ((l0).length:Int)) ((xP (((decide ((n1:Int) > (0:Int)))==true)=true→0≤(IntKind.wrap .i64 ((n1:Int) - (1:Int)))∧(IntKind.wrap .i64 ((n1:Int) - (1:Int))) < ((l0).length:Int)) (((if ((decide ((n1:Int) > (0:Int)))==true)=true then leafAhead (((l0).getD (IntKind.wrap .i64 ((n1:Int) - (1:Int))).toNat default).time) (((l0).getD (IntKind.wrap .i64 ((n1:Int) - (1:Int))).toNat default).dot) x1.time x1.dot else some default).bind fun v19=>(if ((decide ((n1:Int) > (0:Int)))&&(!v19))=true then some (.ret false) else some (.nxt ()))))))))))):Option (Out _ Unit))) l0 0 ()) fun (s1:Unit)=>((leafXtwice l0).bind fun v21=>some (!v21)))
noncomputable def leafMay (l0:GLeaf):Option Bool :=
 (if (l0.typ==(1:Int))=true then ((leafSame l0 (GLeaf.mk l0.typ l0.n (0:Int) (GDot.mk (GActor.mk (0:Int) (0:Int)) (0:Int)) ([]:zR) ([]:List GItem) ([]:List GDot))).bind fun v2=>some v2) else (if (l0.typ==(2:Int))=true then ((if ((l0.time != (0:Int))==true)=true then leafXisTime l0.time else some default).bind fun v4=>((if (((l0.time != (0:Int))==true)&&(v4==true))=true then dotMay l0.dot else some default).bind fun v5=>((if (((l0.time != (0:Int))==true)&&((v4&&v5)==true))=true then qt l0.text else some default).bind fun v6=>(if (((l0.time != (0:Int))&&(!((v4&&v5)&&v6))) || ((l0.time==(0:Int))&&((!(l0.dot.actor.rep==(0:Int)&&(l0.dot.actor.inc==(0:Int)&&(l0.dot.seq==(0:Int)&&true)))) || (!(l0.text==([]:zR))))))=true then some false else ((leafSame l0 (GLeaf.mk l0.typ (0:Int) l0.time l0.dot l0.text ([]:List GItem) ([]:List GDot))).bind fun v8=>some v8))))) else (if (l0.typ==(3:Int))=true then ((qU l0.items false).bind fun v10=>((if ((!v10)==false)=true then leafXtombs l0 else some default).bind fun v11=>(if ((!v10) || (!v11))=true then some false else ((leafSame l0 (GLeaf.mk l0.typ (0:Int) (0:Int) (GDot.mk (GActor.mk (0:Int) (0:Int)) (0:Int)) ([]:zR) l0.items l0.tombs)).bind fun v13=>some v13)))) else (if (l0.typ==(4:Int))=true then ((qU l0.items true).bind fun v15=>(if (!v15)=true then some false else ((leafSame l0 (GLeaf.mk l0.typ (0:Int) (0:Int) (GDot.mk (GActor.mk (0:Int) (0:Int)) (0:Int)) ([]:zR) l0.items ([]:List GDot))).bind fun v17=>some v17))) else some false))))
noncomputable def qn:Nat→(t0:(List GNode))→(deep1:Int)→Option Bool
 | 0,_,_=>none
 | n+1,t0,deep1=>(if ((decide (((t0).length:Int) > (0:Int)))&&(deep1==(3:Int)))=true then some false else (lp (yf (fun (n1:Nat) (x1:GNode) (s1:Unit)=>(((opIsName x1.name).bind fun v27=>(xP ((((!v27)==false)&&((decide ((n1:Int) > (0:Int)))==true))=true→0≤(IntKind.wrap .i64 ((n1:Int) - (1:Int)))∧(IntKind.wrap .i64 ((n1:Int) - (1:Int))) < ((t0).length:Int)) (((if ((((!v27) || ((decide ((n1:Int) > (0:Int)))&&(!(Op.bytesLess (((t0).getD (IntKind.wrap .i64 ((n1:Int) - (1:Int))).toNat default).name) x1.name)))) || ((IntKind.wrap .i64 (((x1.leaves).length:Int)+((x1.subs).length:Int)))==(0:Int)))==false)=true then qn n x1.subs (IntKind.wrap .i64 (deep1+(1:Int))) else some default).bind fun v31=>(if ((((!v27) || ((decide ((n1:Int) > (0:Int)))&&(!(Op.bytesLess (((t0).getD (IntKind.wrap .i64 ((n1:Int) - (1:Int))).toNat default).name) x1.name)))) || ((IntKind.wrap .i64 (((x1.leaves).length:Int)+((x1.subs).length:Int)))==(0:Int))) || (!v31))=true then some (.ret false) else (lp (yf (fun (n2:Nat) (x2:GLeaf) (s2:Unit)=>(((leafMay x2).bind fun v43=>(xP ((((!v43)==false)&&((decide ((n2:Int) > (0:Int)))==true))=true→0≤(IntKind.wrap .i64 ((n2:Int) - (1:Int)))∧(IntKind.wrap .i64 ((n2:Int) - (1:Int))) < ((x1.leaves).length:Int)) ((if ((!v43) || ((decide ((n2:Int) > (0:Int)))&&(decide (((x1.leaves).getD (IntKind.wrap .i64 ((n2:Int) - (1:Int))).toNat default).typ ≥ x2.typ))))=true then some (.ret (.ret false)) else some (.nxt ()))))):Option (Out _ Unit))) x1.leaves 0 ()) fun (s2:Unit)=>some (.nxt ()))))))):Option (Out _ Unit))) t0 0 ()) fun (s1:Unit)=>some true))
noncomputable def treeXmay (t0:(List GNode)) (deep1:Int):Option Bool:=anyN fun n=>qn n t0 deep1
noncomputable def treeMay (t0:(List GNode)):Option Bool :=
 ((treeXmay t0 (0:Int)).bind fun v1=>some v1)
noncomputable def xf (s0:(List zR)):Option (List zR) :=
 (nilq s0 fun b1=>(if b1=true then some ([]:List zR) else (xP ((([]:List zR)).length+(s0).length≤w9) (some (([]:List zR)++s0)))))
noncomputable def wS (s0:(List GDot)):Option (List GDot) :=
 (nilq s0 fun b1=>(if b1=true then some ([]:List GDot) else (xP ((([]:List GDot)).length+(s0).length≤w9) (some (([]:List GDot)++s0)))))
noncomputable def wB (s0:(List GItem)):Option (List GItem) :=
 (nilq s0 fun b1=>(if b1=true then some ([]:List GItem) else (xP ((([]:List GItem)).length+(s0).length≤w9) (some (([]:List GItem)++s0)))))
noncomputable def qq (l0:GLeaf):Option GLeaf :=
 ((wB l0.items).bind fun v1=>((wS l0.tombs).bind fun v2=>some (GLeaf.mk l0.typ l0.n l0.time l0.dot l0.text v1 v2)))
noncomputable def vP:Nat→(t0:(List GNode))→(ahead1:(List zR))→(is2:((List zR)→Option Bool))→Option (List GNode)
 | 0,_,_,_=>none
 | n+1,t0,ahead1,is2=>(lp (yf (fun (n1:Nat) (x1:GNode) (s1:(List GNode))=>(((xf ahead1).bind fun v32=>(xP ((v32).length+(([x1.name]:List zR)).length≤w9) (((vP n x1.subs (v32++([x1.name]:List zR)) is2).bind fun v34=>(lp (yf (fun (n2:Nat) (x2:GLeaf) (s2:(List GLeaf))=>(((is2 (v32++([x1.name]:List zR))).bind fun v49=>(if v49=true then ((qq x2).bind fun v51=>(xP ((s2).length+(([v51]:List GLeaf)).length≤w9) (some (.nxt (s2++([v51]:List GLeaf)))))) else some (.nxt s2))):Option (Out _ (List GLeaf)))) x1.leaves 0 ([]:List GLeaf)) fun (s2:(List GLeaf))=>(if (decide ((IntKind.wrap .i64 (((s2).length:Int)+((v34).length:Int))) > (0:Int)))=true then (xP ((s1).length+(([(GNode.mk x1.name s2 v34)]:List GNode)).length≤w9) (some (.nxt (s1++([(GNode.mk x1.name s2 v34)]:List GNode))))) else some (.nxt s1))))))):Option (Out _ (List GNode)))) t0 0 ([]:List GNode)) fun (s1:(List GNode))=>some s1)
noncomputable def pathsXkept (t0:(List GNode)) (ahead1:(List zR)) (is2:((List zR)→Option Bool)):Option (List GNode):=anyN fun n=>vP n t0 ahead1 is2
noncomputable def q8 (path0:(List zR)) (c0:(List zR)):Option Bool :=
 ((wL c0 path0).bind fun v1=>some v1)
noncomputable def pathsSelect (t0:(List GNode)) (p1:(List zR)):Option ((List GNode)×Int) :=
 ((treeMay t0).bind fun v1=>((if ((!v1)==false)=true then xz p1 else some default).bind fun v2=>(if ((!v1) || (!v2))=true then some (([]:List GNode),(2:Int)) else ((pathsXkept t0 ([]:List zR) (fun x0=>q8 x0 p1)).bind fun v4=>some (v4,(0:Int))))))
noncomputable def wE (s0:zR):Option Bool :=
 (if ((decide (((s0).length:Int) < (1:Int))) || (decide (((s0).length:Int) > (12:Int))))=true then some false else (lp (yf (fun (n1:Nat) (x1:UInt8) (s1:Unit)=>((if (!((((decide ((x1.toNat:Int) ≥ (97:Int)))&&(decide ((x1.toNat:Int)≤(122:Int)))) || ((decide ((x1.toNat:Int) ≥ (65:Int)))&&(decide ((x1.toNat:Int)≤(90:Int))))) || ((decide ((x1.toNat:Int) ≥ (48:Int)))&&(decide ((x1.toNat:Int)≤(57:Int))))))=true then some (.ret false) else some (.nxt ())):Option (Out _ Unit))) s0 0 ()) fun (s1:Unit)=>some true))
noncomputable def qd (a0:GActor):Option Bool :=
 some (((decide (a0.rep≤(15:Int)))&&(decide (a0.inc ≥ (1:Int))))&&(decide (a0.inc≤(4:Int))))
noncomputable def ref03May (d0:GDot):Option Bool :=
 ((qd d0.actor).bind fun v1=>some ((v1&&(decide (d0.seq ≥ (1:Int))))&&(decide (d0.seq≤(1048576:Int)))))
noncomputable def ref05Item (l0:(List GItem)) (d1:GDot):Option Int :=
 (lp (yf (fun (n1:Nat) (x1:GItem) (s1:Unit)=>((if (x1.dot.actor.rep==d1.actor.rep&&(x1.dot.actor.inc==d1.actor.inc&&(x1.dot.seq==d1.seq&&true)))=true then some (.ret (n1:Int)) else some (.nxt ())):Option (Out _ Unit))) l0 0 ()) fun (s1:Unit)=>some (-1:Int))
noncomputable def ref05Tomb (l0:(List GDot)) (d1:GDot):Option Bool :=
 (lp (yf (fun (n1:Nat) (x1:GDot) (s1:Unit)=>((if (x1.actor.rep==d1.actor.rep&&(x1.actor.inc==d1.actor.inc&&(x1.seq==d1.seq&&true)))=true then some (.ret true) else some (.nxt ())):Option (Out _ Unit))) l0 0 ()) fun (s1:Unit)=>some false)
noncomputable def ref03Less (a0:GDot) (b1:GDot):Option Bool :=
 (if (a0.actor.rep != b1.actor.rep)=true then some (decide (a0.actor.rep < b1.actor.rep)) else (if (a0.actor.inc != b1.actor.inc)=true then some (decide (a0.actor.inc < b1.actor.inc)) else some (decide (a0.seq < b1.seq))))
noncomputable def ref05Ahead (time0:Int) (d1:GDot) (other2:Int) (o3:GDot):Option Bool :=
 (if (time0 != other2)=true then some (decide (time0 < other2)) else ((ref03Less d1 o3).bind fun v2=>some v2))
noncomputable def ref05May (l0:GLeaf):Option Bool :=
 (if (((((decide (l0.typ < (1:Int))) || (decide (l0.typ > (4:Int)))) || ((l0.typ != (1:Int))&&(l0.n != (0:Int)))) || ((decide (l0.typ < (3:Int)))&&(decide (((l0.items).length:Int) > (0:Int))))) || ((l0.typ != (3:Int))&&(decide (((l0.tombs).length:Int) > (0:Int)))))=true then some false else (lp ((if ((l0.typ != (2:Int)) || (l0.time==(0:Int)))=true then (if (((l0.time != (0:Int)) || (!(l0.dot.actor.rep==(0:Int)&&(l0.dot.actor.inc==(0:Int)&&(l0.dot.seq==(0:Int)&&true))))) || (!(l0.text==([]:zR))))=true then some (.inl false) else some (.inr ())) else ((if ((decide (l0.time > (1099511627776:Int)))==false)=true then ref03May l0.dot else some default).bind fun v11=>(if (((decide (l0.time > (1099511627776:Int))) || (!v11)) || (decide (((l0.text).length:Int) > (40:Int))))=true then some (.inl false) else some (.inr ())))):Option (_ ⊕ Unit)) fun (s1:Unit)=>(lp (yf (fun (n2:Nat) (x2:GItem) (s2:Unit)=>(((ref03May x2.dot).bind fun v41=>((if (((((!v41) || (decide (((x2.text).length:Int) > (40:Int)))) || ((l0.typ==(3:Int))&&(x2.time != (0:Int)))) || ((l0.typ==(4:Int))&&((decide (x2.time < (1:Int))) || (decide (x2.time > (1099511627776:Int))))))==false)=true then ref05Item l0.items x2.dot else some default).bind fun v43=>((if ((((((!v41) || (decide (((x2.text).length:Int) > (40:Int)))) || ((l0.typ==(3:Int))&&(x2.time != (0:Int)))) || ((l0.typ==(4:Int))&&((decide (x2.time < (1:Int))) || (decide (x2.time > (1099511627776:Int)))))) || (v43 != (n2:Int)))==false)=true then ref05Tomb l0.tombs x2.dot else some default).bind fun v44=>(if ((((((!v41) || (decide (((x2.text).length:Int) > (40:Int)))) || ((l0.typ==(3:Int))&&(x2.time != (0:Int)))) || ((l0.typ==(4:Int))&&((decide (x2.time < (1:Int))) || (decide (x2.time > (1099511627776:Int)))))) || (v43 != (n2:Int))) || v44)=true then some (.ret false) else (xP (((decide ((n2:Int) > (0:Int)))==true)=true→0≤(IntKind.wrap .i64 ((n2:Int) - (1:Int)))∧(IntKind.wrap .i64 ((n2:Int) - (1:Int))) < ((l0.items).length:Int)) ((xP (((decide ((n2:Int) > (0:Int)))==true)=true→0≤(IntKind.wrap .i64 ((n2:Int) - (1:Int)))∧(IntKind.wrap .i64 ((n2:Int) - (1:Int))) < ((l0.items).length:Int)) (((if ((decide ((n2:Int) > (0:Int)))==true)=true then ref05Ahead (((l0.items).getD (IntKind.wrap .i64 ((n2:Int) - (1:Int))).toNat default).time) (((l0.items).getD (IntKind.wrap .i64 ((n2:Int) - (1:Int))).toNat default).dot) x2.time x2.dot else some default).bind fun v48=>(if ((decide ((n2:Int) > (0:Int)))&&(!v48))=true then some (.ret false) else some (.nxt ()))))))))))):Option (Out _ Unit))) l0.items 0 ()) fun (s2:Unit)=>(lp (yf (fun (n3:Nat) (x3:GDot) (s3:Unit)=>(((ref03May x3).bind fun v73=>(xP ((((!v73)==false)&&((decide ((n3:Int) > (0:Int)))==true))=true→0≤(IntKind.wrap .i64 ((n3:Int) - (1:Int)))∧(IntKind.wrap .i64 ((n3:Int) - (1:Int))) < ((l0.tombs).length:Int)) ((xP ((((!v73)==false)&&((decide ((n3:Int) > (0:Int)))==true))=true→0≤(n3:Int)∧(n3:Int) < ((l0.tombs).length:Int)) (((if (((!v73)==false)&&((decide ((n3:Int) > (0:Int)))==true))=true then ref03Less ((l0.tombs).getD (IntKind.wrap .i64 ((n3:Int) - (1:Int))).toNat default) ((l0.tombs).getD (n3:Int).toNat default) else some default).bind fun v76=>(if ((!v73) || ((decide ((n3:Int) > (0:Int)))&&(!v76)))=true then some (.ret false) else some (.nxt ())))))))):Option (Out _ Unit))) l0.tombs 0 ()) fun (s3:Unit)=>some true))))
noncomputable def vN:Nat→(t0:(List GNode))→(deep1:Int)→Option Bool
 | 0,_,_=>none
 | n+1,t0,deep1=>(lp (yf (fun (n1:Nat) (x1:GNode) (s1:Unit)=>(((if ((decide (deep1 ≥ (3:Int)))==false)=true then wE x1.name else some default).bind fun v31=>(xP (((((decide (deep1 ≥ (3:Int))) || (!v31))==false)&&((decide ((n1:Int) > (0:Int)))==true))=true→0≤(IntKind.wrap .i64 ((n1:Int) - (1:Int)))∧(IntKind.wrap .i64 ((n1:Int) - (1:Int))) < ((t0).length:Int)) (((if (((((decide (deep1 ≥ (3:Int))) || (!v31)) || ((decide ((n1:Int) > (0:Int)))&&(!(Op.bytesLess (((t0).getD (IntKind.wrap .i64 ((n1:Int) - (1:Int))).toNat default).name) x1.name)))) || ((((x1.leaves).length:Int)==(0:Int))&&(((x1.subs).length:Int)==(0:Int))))==false)=true then vN n x1.subs (IntKind.wrap .i64 (deep1+(1:Int))) else some default).bind fun v35=>(if (((((decide (deep1 ≥ (3:Int))) || (!v31)) || ((decide ((n1:Int) > (0:Int)))&&(!(Op.bytesLess (((t0).getD (IntKind.wrap .i64 ((n1:Int) - (1:Int))).toNat default).name) x1.name)))) || ((((x1.leaves).length:Int)==(0:Int))&&(((x1.subs).length:Int)==(0:Int)))) || (!v35))=true then some (.ret false) else (lp (yf (fun (n2:Nat) (x2:GLeaf) (s2:Unit)=>(((ref05May x2).bind fun v50=>(xP ((((!v50)==false)&&((decide ((n2:Int) > (0:Int)))==true))=true→0≤(IntKind.wrap .i64 ((n2:Int) - (1:Int)))∧(IntKind.wrap .i64 ((n2:Int) - (1:Int))) < ((x1.leaves).length:Int)) ((xP ((((!v50)==false)&&((decide ((n2:Int) > (0:Int)))==true))=true→0≤(n2:Int)∧(n2:Int) < ((x1.leaves).length:Int)) ((if ((!v50) || ((decide ((n2:Int) > (0:Int)))&&(decide (((x1.leaves).getD (IntKind.wrap .i64 ((n2:Int) - (1:Int))).toNat default).typ ≥ ((x1.leaves).getD (n2:Int).toNat default).typ))))=true then some (.ret (.ret false)) else some (.nxt ()))))))):Option (Out _ Unit))) x1.leaves 0 ()) fun (s2:Unit)=>some (.nxt ()))))))):Option (Out _ Unit))) t0 0 ()) fun (s1:Unit)=>some true)
noncomputable def ref07Xmay (t0:(List GNode)) (deep1:Int):Option Bool:=anyN fun n=>vN n t0 deep1
noncomputable def ref07May (t0:(List GNode)):Option Bool :=
 ((ref07Xmay t0 (0:Int)).bind fun v1=>some v1)
noncomputable def vg:Nat→(t0:(List GNode))→(ahead1:(List zR))→Option (List GVarveref07Row)
 | 0,_,_=>none
 | n+1,t0,ahead1=>(lp (yf (fun (n1:Nat) (x1:GNode) (s1:(List GVarveref07Row))=>((xP ((([]:List zR)).length+(ahead1).length≤w9) ((xP (((([]:List zR)++ahead1)).length+(([x1.name]:List zR)).length≤w9) ((lp (yf (fun (n2:Nat) (x2:GLeaf) (s2:(List GVarveref07Row))=>((xP ((s2).length+(([(GVarveref07Row.mk ((([]:List zR)++ahead1)++([x1.name]:List zR)) x2)]:List GVarveref07Row)).length≤w9) (some (.nxt (s2++([(GVarveref07Row.mk ((([]:List zR)++ahead1)++([x1.name]:List zR)) x2)]:List GVarveref07Row))))):Option (Out _ (List GVarveref07Row)))) x1.leaves 0 s1) fun (s2:(List GVarveref07Row))=>((vg n x1.subs ((([]:List zR)++ahead1)++([x1.name]:List zR))).bind fun v44=>(xP ((s2).length+(v44).length≤w9) (some (.nxt (s2++v44)))))))))):Option (Out _ (List GVarveref07Row)))) t0 0 ([]:List GVarveref07Row)) fun (s1:(List GVarveref07Row))=>some s1)
noncomputable def ref07Rows (t0:(List GNode)) (ahead1:(List zR)):Option (List GVarveref07Row):=anyN fun n=>vg n t0 ahead1
noncomputable def qP (t0:(List GNode)):Option (List GRow) :=
 ((ref07May t0).bind fun v1=>(if (!v1)=true then some ([]:List GRow) else ((ref07Rows t0 ([]:List zR)).bind fun v3=>(lp (yf (fun (n1:Nat) (x1:GVarveref07Row) (s1:(List GRow))=>((xP ((s1).length+(([(GRow.mk x1.path x1.l)]:List GRow)).length≤w9) (some (.nxt (s1++([(GRow.mk x1.path x1.l)]:List GRow))))):Option (Out _ (List GRow)))) v3 0 ([]:List GRow)) fun (s1:(List GRow))=>some s1))))
noncomputable def wC (p0:(List zR)):Option Bool :=
 (xP (((decide (((p0).length:Int) > (0:Int)))==true)=true→0≤(IntKind.wrap .i64 (((p0).length:Int) - (1:Int)))∧(IntKind.wrap .i64 (((p0).length:Int) - (1:Int))) < ((p0).length:Int)) ((if ((decide (((p0).length:Int) > (0:Int)))&&(((p0).getD (IntKind.wrap .i64 (((p0).length:Int) - (1:Int))).toNat default)==([42,42]:zR)))=true then (if ((IntKind.wrap .i64 (((p0).length:Int) - (1:Int)))==(0:Int))=true then some true else (if ((decide ((IntKind.wrap .i64 (((p0).length:Int) - (1:Int))) < (1:Int))) || (decide ((IntKind.wrap .i64 (((p0).length:Int) - (1:Int))) > (3:Int))))=true then some false else (xP ((IntKind.wrap .i64 (((p0).length:Int) - (1:Int)))≤9223372036854775807) (lp (yf (fun (n1:Nat) (x1:Nat) (s1:Unit)=>(((idx p0 (n1:Int)).bind fun y12=>(xP (((!(y12==([42]:zR)))==true)=true→0≤(n1:Int)∧(n1:Int) < ((p0).length:Int)) (((if ((!(y12==([42]:zR)))==true)=true then wE ((p0).getD (n1:Int).toNat default) else some default).bind fun v14=>(if ((!(y12==([42]:zR)))&&(!v14))=true then some (.ret false) else some (.nxt ())))))):Option (Out _ Unit))) (List.range (((IntKind.wrap .i64 (((p0).length:Int) - (1:Int)))).toNat)) 0 ()) fun (s1:Unit)=>some true)))) else (if ((decide (((p0).length:Int) < (1:Int))) || (decide (((p0).length:Int) > (3:Int))))=true then some false else (lp (yf (fun (n1:Nat) (x1:zR) (s1:Unit)=>((xP (((!(x1==([42]:zR)))==true)=true→0≤(n1:Int)∧(n1:Int) < ((p0).length:Int)) (((if ((!(x1==([42]:zR)))==true)=true then wE ((p0).getD (n1:Int).toNat default) else some default).bind fun v24=>(if ((!(x1==([42]:zR)))&&(!v24))=true then some (.ret false) else some (.nxt ()))))):Option (Out _ Unit))) p0 0 ()) fun (s1:Unit)=>some true)))))
noncomputable def ref04MayPath (p0:(List zR)):Option Bool :=
 (lp (yf (fun (n1:Nat) (x1:zR) (s1:Unit)=>(((wE x1).bind fun v9=>(if (!v9)=true then some (.ret false) else some (.nxt ()))):Option (Out _ Unit))) p0 0 ()) fun (s1:Unit)=>some ((decide (((p0).length:Int) ≥ (1:Int)))&&(decide (((p0).length:Int)≤(3:Int)))))
noncomputable def xS:Nat→(p0:(List zR))→(path1:(List zR))→Option Bool
 | 0,_,_=>none
 | n+1,p0,path1=>(if (((p0).length:Int)==(0:Int))=true then some (((path1).length:Int)==(0:Int)) else ((idx p0 (0:Int)).bind fun y4=>(if (y4==([42,42]:zR))=true then some true else (xP (((decide (((path1).length:Int) > (0:Int)))==true)=true→0≤(0:Int)∧(0:Int) < ((p0).length:Int)) ((xP ((((decide (((path1).length:Int) > (0:Int)))==true)&&((((p0).getD (0:Int).toNat default)==([42]:zR))==false))=true→0≤(0:Int)∧(0:Int) < ((p0).length:Int)) ((xP ((((decide (((path1).length:Int) > (0:Int)))==true)&&((((p0).getD (0:Int).toNat default)==([42]:zR))==false))=true→0≤(0:Int)∧(0:Int) < ((path1).length:Int)) ((xP ((((decide (((path1).length:Int) > (0:Int)))&&((((p0).getD (0:Int).toNat default)==([42]:zR)) || (((p0).getD (0:Int).toNat default)==((path1).getD (0:Int).toNat default))))==true)=true→0≤(1:Int)∧(1:Int)≤((p0).length:Int)∧((p0).length:Int)≤((p0).length:Int)) ((xP ((((decide (((path1).length:Int) > (0:Int)))&&((((p0).getD (0:Int).toNat default)==([42]:zR)) || (((p0).getD (0:Int).toNat default)==((path1).getD (0:Int).toNat default))))==true)=true→0≤(1:Int)∧(1:Int)≤((path1).length:Int)∧((path1).length:Int)≤((path1).length:Int)) (((if (((decide (((path1).length:Int) > (0:Int)))&&((((p0).getD (0:Int).toNat default)==([42]:zR)) || (((p0).getD (0:Int).toNat default)==((path1).getD (0:Int).toNat default))))==true)=true then xS n ((p0.take ((p0).length:Int).toNat).drop (1:Int).toNat) ((path1.take ((path1).length:Int).toNat).drop (1:Int).toNat) else some default).bind fun v14=>some (((decide (((path1).length:Int) > (0:Int)))&&((((p0).getD (0:Int).toNat default)==([42]:zR)) || (((p0).getD (0:Int).toNat default)==((path1).getD (0:Int).toNat default))))&&v14)))))))))))))))
noncomputable def ref30Xmatches (p0:(List zR)) (path1:(List zR)):Option Bool:=anyN fun n=>xS n p0 path1
noncomputable def ref30Match (p0:(List zR)) (path1:(List zR)):Option Bool :=
 ((wC p0).bind fun v1=>((if (v1==true)=true then ref04MayPath path1 else some default).bind fun v2=>((if ((v1&&v2)==true)=true then ref30Xmatches p0 path1 else some default).bind fun v3=>some ((v1&&v2)&&v3))))
noncomputable def x6:Nat→(t0:(List GNode))→(path1:(List zR))→(l2:GLeaf)→Option (List GNode)
 | 0,_,_,_=>none
 | n+1,t0,path1,l2=>(lp (vW (fun (s1:(List GNode)×Int)=>((xP (((decide (s1.2 < ((t0).length:Int)))==true)=true→0≤s1.2∧s1.2 < ((t0).length:Int)) ((xP (((decide (s1.2 < ((t0).length:Int)))==true)=true→0≤(0:Int)∧(0:Int) < ((path1).length:Int)) ((if ((decide (s1.2 < ((t0).length:Int)))&&(Op.bytesLess (((t0).getD s1.2.toNat default).name) ((path1).getD (0:Int).toNat default)))=true then ((idx t0 s1.2).bind fun y22=>(xP ((s1.1).length+(([y22]:List GNode)).length≤w9) (some (.nxt ((s1.1++([y22]:List GNode)),(IntKind.wrap .i64 (s1.2+(1:Int)))))))) else some (.brk (s1.1,s1.2))))))):Option (Out _ ((List GNode)×Int)))) (([]:List GNode),(0:Int))) fun (s1:(List GNode)×Int)=>((idx path1 (0:Int)).bind fun y24=>(lp ((xP (((decide (s1.2 < ((t0).length:Int)))==true)=true→0≤s1.2∧s1.2 < ((t0).length:Int)) ((xP (((decide (s1.2 < ((t0).length:Int)))==true)=true→0≤(0:Int)∧(0:Int) < ((path1).length:Int)) ((if ((decide (s1.2 < ((t0).length:Int)))&&(((t0).getD s1.2.toNat default).name==((path1).getD (0:Int).toNat default)))=true then ((idx t0 s1.2).bind fun y34=>some (.inr ((IntKind.wrap .i64 (s1.2+(1:Int))),y34.name,y34.leaves,y34.subs))) else some (.inr (s1.2,y24,([]:List GLeaf),([]:List GNode)))))))):Option (_ ⊕ (Int×zR×(List GLeaf)×(List GNode)))) fun (s2:Int×zR×(List GLeaf)×(List GNode))=>(if (decide (((path1).length:Int) > (1:Int)))=true then ((slc path1 (1:Int) ((path1).length:Int)).bind fun m37=>((x6 n s2.2.2.2 m37 l2).bind fun v38=>(xP ((s1.1).length+(([(GNode.mk s2.2.1 s2.2.2.1 v38)]:List GNode)).length≤w9) (((slc t0 s2.1 ((t0).length:Int)).bind fun m40=>(xP (((s1.1++([(GNode.mk s2.2.1 s2.2.2.1 v38)]:List GNode))).length+(m40).length≤w9) (some ((s1.1++([(GNode.mk s2.2.1 s2.2.2.1 v38)]:List GNode))++m40)))))))) else (lp (vW (fun (s3:(List GLeaf)×Int)=>((xP (((decide (s3.2 < ((s2.2.2.1).length:Int)))==true)=true→0≤s3.2∧s3.2 < ((s2.2.2.1).length:Int)) ((if ((decide (s3.2 < ((s2.2.2.1).length:Int)))&&(decide (((s2.2.2.1).getD s3.2.toNat default).typ < l2.typ)))=true then ((idx s2.2.2.1 s3.2).bind fun y64=>(xP ((s3.1).length+(([y64]:List GLeaf)).length≤w9) (some (.nxt ((s3.1++([y64]:List GLeaf)),(IntKind.wrap .i64 (s3.2+(1:Int)))))))) else some (.brk (s3.1,s3.2))))):Option (Out _ ((List GLeaf)×Int)))) (([]:List GLeaf),(0:Int))) fun (s3:(List GLeaf)×Int)=>(xP (((decide (s3.2 < ((s2.2.2.1).length:Int)))==true)=true→0≤s3.2∧s3.2 < ((s2.2.2.1).length:Int)) ((if ((decide (s3.2 < ((s2.2.2.1).length:Int)))&&(((s2.2.2.1).getD s3.2.toNat default).typ==l2.typ))=true then (xP ((s3.1).length+(([l2]:List GLeaf)).length≤w9) (((slc s2.2.2.1 (IntKind.wrap .i64 (s3.2+(1:Int))) ((s2.2.2.1).length:Int)).bind fun m70=>(xP (((s3.1++([l2]:List GLeaf))).length+(m70).length≤w9) ((xP ((s1.1).length+(([(GNode.mk s2.2.1 ((s3.1++([l2]:List GLeaf))++m70) s2.2.2.2)]:List GNode)).length≤w9) (((slc t0 s2.1 ((t0).length:Int)).bind fun m73=>(xP (((s1.1++([(GNode.mk s2.2.1 ((s3.1++([l2]:List GLeaf))++m70) s2.2.2.2)]:List GNode))).length+(m73).length≤w9) (some ((s1.1++([(GNode.mk s2.2.1 ((s3.1++([l2]:List GLeaf))++m70) s2.2.2.2)]:List GNode))++m73))))))))))) else (xP ((s3.1).length+(([l2]:List GLeaf)).length≤w9) (((slc s2.2.2.1 s3.2 ((s2.2.2.1).length:Int)).bind fun m76=>(xP (((s3.1++([l2]:List GLeaf))).length+(m76).length≤w9) ((xP ((s1.1).length+(([(GNode.mk s2.2.1 ((s3.1++([l2]:List GLeaf))++m76) s2.2.2.2)]:List GNode)).length≤w9) (((slc t0 s2.1 ((t0).length:Int)).bind fun m79=>(xP (((s1.1++([(GNode.mk s2.2.1 ((s3.1++([l2]:List GLeaf))++m76) s2.2.2.2)]:List GNode))).length+(m79).length≤w9) (some ((s1.1++([(GNode.mk s2.2.1 ((s3.1++([l2]:List GLeaf))++m76) s2.2.2.2)]:List GNode))++m79)))))))))))))))))))
noncomputable def ref07Lay (t0:(List GNode)) (path1:(List zR)) (l2:GLeaf):Option (List GNode):=anyN fun n=>x6 n t0 path1 l2
noncomputable def ref30Made (l0:(List GRow)):Option (List GNode) :=
 (lp (yf (fun (n1:Nat) (x1:GRow) (s1:(List GNode))=>(((ref07Lay s1 x1.path x1.leaf).bind fun v10=>some (.nxt v10)):Option (Out _ (List GNode)))) l0 0 ([]:List GNode)) fun (s1:(List GNode))=>some s1)
noncomputable def ref30Kept (t0:(List GNode)) (p1:(List zR)) (mtch2:Bool):Option ((List GNode)×Int) :=
 ((ref07May t0).bind fun v1=>((if ((!v1)==false)=true then wC p1 else some default).bind fun v2=>(if ((!v1) || (!v2))=true then some (([]:List GNode),(2:Int)) else ((qP t0).bind fun v4=>(lp (yf (fun (n1:Nat) (x1:GRow) (s1:(List GRow))=>(((ref30Match p1 x1.path).bind fun v16=>(if (v16==mtch2)=true then (xP ((s1).length+(([x1]:List GRow)).length≤w9) (some (.nxt (s1++([x1]:List GRow))))) else some (.nxt s1))):Option (Out _ (List GRow)))) v4 0 ([]:List GRow)) fun (s1:(List GRow))=>((ref30Made s1).bind fun v19=>some (v19,(0:Int))))))))
noncomputable def qz (path0:(List zR)) (c0:(List zR)):Option Bool :=
 ((wL c0 path0).bind fun v1=>some (!v1))
noncomputable def qA (t0:(List GNode)) (p1:(List zR)):Option ((List GNode)×Int) :=
 ((treeMay t0).bind fun v1=>((if ((!v1)==false)=true then xz p1 else some default).bind fun v2=>(if ((!v1) || (!v2))=true then some (([]:List GNode),(2:Int)) else ((pathsXkept t0 ([]:List zR) (fun x0=>qz x0 p1)).bind fun v4=>some (v4,(0:Int))))))
noncomputable def xK (s0:(List GRow)) (seq1:(S:Type)→(S→GRow→Option (Bool×S))→S→Option S):Option (List GRow) :=
 (rng (seq1 _ (stp (fun (s1:(List GRow)) (x1:GRow)=>((xP ((s1).length+(([x1]:List GRow)).length≤w9) (some (true,((s1++([x1]:List GRow)),none)))):Option (Bool×((List GRow)×Option Nat))))) (s0,none)) (fun (s1:(List GRow))=>some s1) (fun _ _=>none))
noncomputable def wl (seq0:(S:Type)→(S→GRow→Option (Bool×S))→S→Option S):Option (List GRow) :=
 ((xK ([]:List GRow) seq0).bind fun v1=>some v1)
noncomputable def qQ (t0:(List GNode)) (ahead1:(List zR)):Option ((List GNode)×(List zR)) :=
 some (t0,ahead1)
noncomputable def xq:Nat→(S:Type)→(yield0:S→GRow→Option (Bool×S))→(c0:(List GNode))→(c1:(List zR))→(s0:S)→Option S
 | 0,_,_,_,_,_=>none
 | n+1,S,yield0,c0,c1,s0=>(lp (yf (fun (n1:Nat) (x1:GNode) (s1:S)=>(((xf c1).bind fun v37=>(xP ((v37).length+(([x1.name]:List zR)).length≤w9) ((lp (yf (fun (n2:Nat) (x2:GLeaf) (s2:S)=>(((xf (v37++([x1.name]:List zR))).bind fun v51=>((qq x2).bind fun v52=>((yield0 s2 (GRow.mk v51 v52)).bind fun v53=>(if (!v53.1)=true then some (.ret (.ret v53.2)) else some (.nxt v53.2))))):Option (Out _ S))) x1.leaves 0 s1) fun (s2:S)=>((qQ x1.subs (v37++([x1.name]:List zR))).bind fun v55=>(rng (xq n _ (stp (fun (s3:S) (x3:GRow)=>(((yield0 s3 x3).bind fun v64=>(if (!v64.1)=true then some (false,(v64.2,some 0)) else some (true,(v64.2,none)))):Option (Bool×(S×Option Nat))))) v55.1 v55.2 (s2,none)) (fun (s3:S)=>some (.nxt s3)) (fun (j3:Nat) (s3:S)=>if j3=0 then some (.ret s3) else none))))))):Option (Out _ S))) c0 0 s0) fun (s1:S)=>some s1)
noncomputable def pathsXrowsC1 (S:Type) (yield0:S→GRow→Option (Bool×S)) (c0:(List GNode)) (c1:(List zR)) (s0:S):Option S:=anyN fun n=>xq n S yield0 c0 c1 s0
noncomputable def qr (t0:(List GNode)):Option (List GRow) :=
 ((treeMay t0).bind fun v1=>(if (!v1)=true then some ([]:List GRow) else ((qQ t0 ([]:List zR)).bind fun v3=>((wl (fun S y s=>pathsXrowsC1 S y v3.1 v3.2 s)).bind fun v4=>some v4))))
noncomputable def ref05Same (a0:GLeaf) (b1:GLeaf):Option Bool :=
 (if (((((((a0.typ != b1.typ) || (a0.n != b1.n)) || (a0.time != b1.time)) || (!(a0.dot.actor.rep==b1.dot.actor.rep&&(a0.dot.actor.inc==b1.dot.actor.inc&&(a0.dot.seq==b1.dot.seq&&true))))) || (!(a0.text==b1.text))) || (((a0.items).length:Int) != ((b1.items).length:Int))) || (((a0.tombs).length:Int) != ((b1.tombs).length:Int)))=true then some false else (lp (yf (fun (n1:Nat) (x1:GItem) (s1:Unit)=>(((idx b1.items (n1:Int)).bind fun y32=>(if (!(x1.time==y32.time&&(x1.dot.actor.rep==y32.dot.actor.rep&&(x1.dot.actor.inc==y32.dot.actor.inc&&(x1.dot.seq==y32.dot.seq&&(x1.text==y32.text&&true))))))=true then some (.ret false) else some (.nxt ()))):Option (Out _ Unit))) a0.items 0 ()) fun (s1:Unit)=>(lp (yf (fun (n2:Nat) (x2:GDot) (s2:Unit)=>(((idx b1.tombs (n2:Int)).bind fun y60=>(if (!(x2.actor.rep==y60.actor.rep&&(x2.actor.inc==y60.actor.inc&&(x2.seq==y60.seq&&true))))=true then some (.ret false) else some (.nxt ()))):Option (Out _ Unit))) a0.tombs 0 ()) fun (s2:Unit)=>some true)))
noncomputable def qi:Nat→(a0:(List GNode))→(b1:(List GNode))→Option Bool
 | 0,_,_=>none
 | n+1,a0,b1=>(if (((a0).length:Int) != ((b1).length:Int))=true then some false else (lp (yf (fun (n1:Nat) (x1:GNode) (s1:Unit)=>(((idx b1 (n1:Int)).bind fun y41=>(xP (((!(x1.name==y41.name))==false)=true→0≤(n1:Int)∧(n1:Int) < ((a0).length:Int)) ((xP (((!(x1.name==y41.name))==false)=true→0≤(n1:Int)∧(n1:Int) < ((b1).length:Int)) ((xP ((((!(x1.name==y41.name)) || (((((a0).getD (n1:Int).toNat default).leaves).length:Int) != ((((b1).getD (n1:Int).toNat default).leaves).length:Int)))==false)=true→0≤(n1:Int)∧(n1:Int) < ((a0).length:Int)) ((xP ((((!(x1.name==y41.name)) || (((((a0).getD (n1:Int).toNat default).leaves).length:Int) != ((((b1).getD (n1:Int).toNat default).leaves).length:Int)))==false)=true→0≤(n1:Int)∧(n1:Int) < ((b1).length:Int)) (((if (((!(x1.name==y41.name)) || (((((a0).getD (n1:Int).toNat default).leaves).length:Int) != ((((b1).getD (n1:Int).toNat default).leaves).length:Int)))==false)=true then qi n (((a0).getD (n1:Int).toNat default).subs) (((b1).getD (n1:Int).toNat default).subs) else some default).bind fun v48=>(if (((!(x1.name==y41.name)) || (((((a0).getD (n1:Int).toNat default).leaves).length:Int) != ((((b1).getD (n1:Int).toNat default).leaves).length:Int))) || (!v48))=true then some (.ret false) else (lp (yf (fun (n2:Nat) (x2:GLeaf) (s2:Unit)=>(((idx b1 (n1:Int)).bind fun y60=>((idx y60.leaves (n2:Int)).bind fun y61=>((ref05Same x2 y61).bind fun v62=>(if (!v62)=true then some (.ret (.ret false)) else some (.nxt ()))))):Option (Out _ Unit))) x1.leaves 0 ()) fun (s2:Unit)=>some (.nxt ()))))))))))))):Option (Out _ Unit))) a0 0 ()) fun (s1:Unit)=>some true))
noncomputable def ref07Same (a0:(List GNode)) (b1:(List GNode)):Option Bool:=anyN fun n=>qi n a0 b1
noncomputable def qc (a0:(List zR)) (b1:(List zR)):Option Bool :=
 (if (((a0).length:Int) != ((b1).length:Int))=true then some false else (lp (yf (fun (n1:Nat) (x1:zR) (s1:Unit)=>(((idx b1 (n1:Int)).bind fun y12=>(if (!(x1==y12))=true then some (.ret false) else some (.nxt ()))):Option (Out _ Unit))) a0 0 ()) fun (s1:Unit)=>some true))
noncomputable def ref30Same (a0:(List GRow)) (b1:(List GRow)):Option Bool :=
 (if (((a0).length:Int) != ((b1).length:Int))=true then some false else (lp (yf (fun (n1:Nat) (x1:GRow) (s1:Unit)=>(((idx b1 (n1:Int)).bind fun y16=>((qc x1.path y16.path).bind fun v17=>(xP (((!v17)==false)=true→0≤(n1:Int)∧(n1:Int) < ((a0).length:Int)) ((xP (((!v17)==false)=true→0≤(n1:Int)∧(n1:Int) < ((b1).length:Int)) (((if ((!v17)==false)=true then ref05Same (((a0).getD (n1:Int).toNat default).leaf) (((b1).getD (n1:Int).toNat default).leaf) else some default).bind fun v20=>(if ((!v17) || (!v20))=true then some (.ret false) else some (.nxt ()))))))))):Option (Out _ Unit))) a0 0 ()) fun (s1:Unit)=>some true))
noncomputable def wT (t0:(List GNode)) (p1:(List zR)):Option Bool :=
 ((ref07Great t0).bind fun v1=>((if (v1==false)=true then law30Xgreat ([p1]:List (List zR)) else some default).bind fun v2=>(if (v1 || v2)=true then ((qu).bind fun v4=>some v4) else ((pathsSelect t0 p1).bind fun v5=>((ref30Kept t0 p1 true).bind fun v6=>((qA t0 p1).bind fun v7=>((ref30Kept t0 p1 false).bind fun v8=>((qr t0).bind fun v9=>((ref07Same v5.1 v6.1).bind fun v10=>((if (((!v10) || (v5.2 != v6.2))==false)=true then ref07Same v7.1 v8.1 else some default).bind fun v11=>((if (((((!v10) || (v5.2 != v6.2)) || (!v11)) || (v7.2 != v8.2))==false)=true then qP t0 else some default).bind fun v12=>((if (((((!v10) || (v5.2 != v6.2)) || (!v11)) || (v7.2 != v8.2))==false)=true then ref30Same v9 v12 else some default).bind fun v13=>(if (((((!v10) || (v5.2 != v6.2)) || (!v11)) || (v7.2 != v8.2)) || (!v13))=true then some false else (xP ((((v9).length:Nat):Int)≤9223372036854775807) (lp (yf (fun (n1:Nat) (x1:Nat) (s1:Unit)=>(((idx v9 (n1:Int)).bind fun y52=>(lp (yf (fun (n2:Nat) (x2:zR) (s2:Unit)=>(some (.nxt ()):Option (Out _ Unit))) y52.path 0 ()) fun (s2:Unit)=>(lp (yf (fun (n3:Nat) (x3:GItem) (s3:Unit)=>(some (.nxt ()):Option (Out _ Unit))) y52.leaf.items 0 ()) fun (s3:Unit)=>some (.nxt ())))):Option (Out _ Unit))) (List.range (((((v9).length:Nat):Int)).toNat)) 0 ()) fun (s1:Unit)=>((qr t0).bind fun v83=>((qP t0).bind fun v84=>((ref30Same v83 v84).bind fun v85=>((if (v85==true)=true then qu else some default).bind fun v86=>some (v85&&v86))))))))))))))))))))
end Go.Vv
