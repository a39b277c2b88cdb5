/- What the functions compute, as plain functions; printed by a program from the code. -/
import Derived.Test.YtonoilllklmacaaGreatVvY
import Derived.Test.YtonoilllklmacaaGreatVvRb
import Derived.Test.YtonoilllklmacaaGreatVvSo
import Derived.Test.YtonoilllklmacaaGreatVvSs
set_option linter.all false
namespace Go.Vv
noncomputable section
open Go
structure GI where
 rep:Int
 inc:Int
 deriving DecidableEq,Inhabited
def GI.eqb (a b:GI):Bool:=(a.rep==b.rep&&(a.inc==b.inc&&true))
structure GE where
 actor:GI
 seq:Int
 deriving DecidableEq,Inhabited
def GE.eqb (a b:GE):Bool:=(a.actor.rep==b.actor.rep&&(a.actor.inc==b.actor.inc&&(a.seq==b.seq&&true)))
structure GF where
 time:Int
 dot:GE
 text:zx
 deriving DecidableEq,Inhabited
def GF.eqb (a b:GF):Bool:=(a.time==b.time&&(a.dot.actor.rep==b.dot.actor.rep&&(a.dot.actor.inc==b.dot.actor.inc&&(a.dot.seq==b.dot.seq&&(a.text==b.text&&true)))))
structure GC where
 typ:Int
 n:Int
 time:Int
 dot:GE
 text:zx
 items:(List GF)
 tombs:(List GE)
 deriving DecidableEq,Inhabited
structure GA where
 name:zx
 leaves:(List GC)
 subs:(List GA)
 deriving Inhabited
structure GL where
 kind:Int
 path:(List zx)
 n:Int
 text:zx
 dots:(List GE)
 deriving DecidableEq,Inhabited
structure GM where
 leaf:Int
 may:Nat
 deriving DecidableEq,Inhabited
structure GH where
 dot:GE
 time:Int
 op:GL
 deriving DecidableEq,Inhabited
structure GJ where
 path:(List zx)
 l:GC
 deriving DecidableEq,Inhabited
def GI.wf (x:GI):Prop:=(InK .u8 x.rep)/\(InK .u32 x.inc)
def GE.wf (x:GE):Prop:=(GI.wf x.actor)/\(InK .u64 x.seq)
def GF.wf (x:GF):Prop:=(InK .u64 x.time)/\(GE.wf x.dot)/\(x.text.length<=maxLen)
def GC.wf (x:GC):Prop:=(InK .u8 x.typ)/\(InK .i64 x.n)/\(InK .u64 x.time)/\(GE.wf x.dot)/\(x.text.length<=maxLen)/\(x.items.length<=maxLen/\∀y ∈ x.items,GF.wf y)/\(x.tombs.length<=maxLen/\∀y ∈ x.tombs,GE.wf y)
mutual
def GA.wf:GA->Prop
 | ⟨name,leaves,subs⟩=>(name.length<=maxLen)/\(leaves.length<=maxLen/\∀y ∈ leaves,GC.wf y)/\(GA.wfs subs)
def GA.wfs:List GA->Prop
 | []=>True
 | x::r=>x.wf/\GA.wfs r
end
theorem GA.wfs_iff (l:List GA):GA.wfs l ↔ ∀y ∈ l,GA.wf y:=by
 induction l with
 | nil=>simp [GA.wfs]
 | cons x r ih=>simp [GA.wfs,ih]
def GL.wf (x:GL):Prop:=(InK .u8 x.kind)/\(x.path.length<=maxLen/\∀y ∈ x.path,y.length<=maxLen)/\(InK .i64 x.n)/\(x.text.length<=maxLen)/\(x.dots.length<=maxLen/\∀y ∈ x.dots,GE.wf y)
def GH.wf (x:GH):Prop:=(GE.wf x.dot)/\(InK .u64 x.time)/\(GL.wf x.op)
def GJ.wf (x:GJ):Prop:=(x.path.length<=maxLen/\∀y ∈ x.path,y.length<=maxLen)/\(GC.wf x.l)
def GI.bk (x:GI):Nat:=(1+(1+0))+1
def GE.bk (x:GE):Nat:=(GI.bk x.actor+(1+0))+1
def GF.bk (x:GF):Nat:=(1+(GE.bk x.dot+((x.text.length+1)+0)))+1
def GC.bk (x:GC):Nat:=(1+(1+(1+(GE.bk x.dot+((x.text.length+1)+(((x.items.map GF.bk).sum+1)+(((x.tombs.map GE.bk).sum+1)+0)))))))+1
mutual
def GA.bk:GA->Nat
 | ⟨name,leaves,subs⟩=>((name.length+1)+(((leaves.map GC.bk).sum+1)+(((GA.bks subs)+1)+0)))+1
def GA.bks:List GA->Nat
 | []=>0
 | x::r=>x.bk+GA.bks r
end
theorem GA.bks_eq (l:List GA):GA.bks l=(l.map GA.bk).sum:=by
 induction l with
 | nil=>rfl
 | cons x r ih=>simp only [GA.bks,uw,px,ih]
def GL.bk (x:GL):Nat:=(1+(((x.path.map (λs=>s.length+1)).sum+1)+(1+((x.text.length+1)+(((x.dots.map GE.bk).sum+1)+0)))))+1
def GH.bk (x:GH):Nat:=(GE.bk x.dot+(1+(GL.bk x.op+0)))+1
def GJ.bk (x:GJ):Nat:=(((x.path.map (λs=>s.length+1)).sum+1)+(GC.bk x.l+0))+1
abbrev zLf:GC:=GC.mk (0:Int) (0:Int) (0:Int) (GE.mk (GI.mk (0:Int) (0:Int)) (0:Int)) ([]:zx) ([]:List GF) ([]:List GE)
def xS:Nat->(t0:(List GA))->(deep1:Int)->Option Int
 | 0,_,_=>none
 | n+1,t0,deep1=>(lp (yI (λ(s1:Int×Int)=>((if ((decide (s1.2 < ((t0).length:Int)))&&(decide (deep1 < (10:Int))))=true then ((yB t0 s1.2).bind λy68=>((yB t0 s1.2).bind λy70=>((xS n y70.subs (IntKind.wrap .i64 (deep1+(1:Int)))).bind λv71=>(lp (yI (λ(s2:Int×Int)=>(((yB t0 s1.2).bind λy102=>(if (decide (s2.2 < ((y102.leaves).length:Int)))=true then ((yB t0 s1.2).bind λy105=>((yB y105.leaves s2.2).bind λy106=>(lp (zD (λ(n3:Nat) (x3:GF) (s3:Int)=>(some (.nxt (IntKind.wrap .i64 ((IntKind.wrap .i64 (s3+(1:Int)))+((x3.text).length:Int)))):Option (Out _ Int))) y106.items 0 (IntKind.wrap .i64 ((IntKind.wrap .i64 ((IntKind.wrap .i64 (s2.1+(1:Int)))+((y106.text).length:Int)))+((y106.tombs).length:Int)))) λ(s3:Int)=>some (.nxt (s3,(IntKind.wrap .i64 (s2.2+(1:Int)))))))) else some (.brk (s2.1,s2.2)))):Option (Out _ (Int×Int)))) ((IntKind.wrap .i64 ((IntKind.wrap .i64 ((IntKind.wrap .i64 (s1.1+(1:Int)))+((y68.name).length:Int)))+v71)),(0:Int))) λ(s2:Int×Int)=>some (.nxt (s2.1,(IntKind.wrap .i64 (s1.2+(1:Int))))))))) else some (.brk (s1.1,s1.2))):Option (Out _ (Int×Int)))) ((0:Int),(0:Int))) λ(s1:Int×Int)=>some s1.1)
def ref07Xsize (t0:(List GA)) (deep1:Int):Option Int:=anyN λn=>xS n t0 deep1
def qx (t0:(List GA)):Option Bool :=
 ((ref07Xsize t0 (0:Int)).bind λv1=>some (decide (v1 > (1500:Int))))
def xW (s0:(List GA)) (f1:(GA->Option Bool)):Option Int :=
 (lp (zD (λ(n1:Nat) (x1:GA) (s1:Unit)=>(((f1 x1).bind λv7=>(if v7=true then some (.ret (n1:Int)) else some (.nxt ()))):Option (Out _ Unit))) s0 0 ()) λ(s1:Unit)=>some (-1:Int))
def treeXlinearC1 (n0:GA) (c0:zx):Option Bool :=
 some (n0.name==c0)
def xn (t0:(List GA)) (name1:zx):Option (GA×Bool) :=
 ((xW t0 (λx0=>treeXlinearC1 x0 name1)).bind λv1=>(if (decide (v1 < (0:Int)))=true then some ((GA.mk ([]:zx) ([]:List GC) ([]:List GA)),false) else ((yB t0 v1).bind λy3=>some (y3,true))))
def yw (s0:(List GC)) (f1:(GC->Option Bool)):Option Int :=
 (lp (zD (λ(n1:Nat) (x1:GC) (s1:Unit)=>(((f1 x1).bind λv7=>(if v7=true then some (.ret (n1:Int)) else some (.nxt ()))):Option (Out _ Unit))) s0 0 ()) λ(s1:Unit)=>some (-1:Int))
def treeLeafC1 (l0:GC) (c0:Int):Option Bool :=
 some (l0.typ==c0)
def vt (kind0:Int):Option GC :=
 (if ((decide (kind0 < (1:Int))) || (decide (kind0 > (4:Int))))=true then some zLf else some (GC.mk kind0 (0:Int) (0:Int) (GE.mk (GI.mk (0:Int) (0:Int)) (0:Int)) ([]:zx) ([]:List GF) ([]:List GE)))
def yC (s0:(List GF)):Option (List GF) :=
 (nilq s0 λb1=>(if b1=true then some ([]:List GF) else (yM ((([]:List GF)).length+(s0).length<=lim) (some (([]:List GF)++s0)))))
def yW (s0:(List GE)):Option (List GE) :=
 (nilq s0 λb1=>(if b1=true then some ([]:List GE) else (yM ((([]:List GE)).length+(s0).length<=lim) (some (([]:List GE)++s0)))))
def wq (t0:(List GA)) (path1:(List zx)) (kind2:Int):Option (GC×Bool) :=
 (lp ((lp (zD (λ(n2:Nat) (x2:zx) (s2:(List GA)×Bool×zx×(List GC)×(List GA))=>(((xn s2.1 x2).bind λv47=>(if (!v47.2)=true then some (.brk (s2.1,v47.2,v47.1.name,v47.1.leaves,v47.1.subs)) else some (.nxt (v47.1.subs,v47.2,v47.1.name,v47.1.leaves,v47.1.subs)))):Option (Out _ ((List GA)×Bool×zx×(List GC)×(List GA))))) path1 0 (t0,(decide (((path1).length:Int) > (0:Int))),([]:zx),([]:List GC),([]:List GA))) λ(s2:(List GA)×Bool×zx×(List GC)×(List GA))=>some (.inr (s2.2.1,s2.2.2.1,s2.2.2.2.1,s2.2.2.2.2))):Option (_ ⊕ (Bool×zx×(List GC)×(List GA)))) λ(s1:Bool×zx×(List GC)×(List GA))=>((yw s1.2.2.1 (λx0=>treeLeafC1 x0 kind2)).bind λv49=>((if (((!s1.1) || (decide (v49 < (0:Int))))==false)=true then vt kind2 else some default).bind λv50=>(if (((!s1.1) || (decide (v49 < (0:Int)))) || (v50.typ==(0:Int)))=true then ((vt kind2).bind λv52=>some (v52,false)) else ((yB s1.2.2.1 v49).bind λy53=>((yC y53.items).bind λv54=>((yW y53.tombs).bind λv55=>some ((GC.mk y53.typ y53.n y53.time y53.dot y53.text v54 v55),true))))))))
def leafXisTime (n0:Int):Option Bool :=
 some ((decide (n0 >= (1:Int)))&&(decide (n0<=(1099511627776:Int))))
def qK (s0:zx):Option Bool :=
 some (decide (((s0).length:Int)<=(40:Int)))
def dotMayActor (a0:GI):Option Bool :=
 some (((decide (a0.rep < (16:Int)))&&(decide (a0.inc >= (1:Int))))&&(decide (a0.inc<=(4:Int))))
def dotMay (d0:GE):Option Bool :=
 ((dotMayActor d0.actor).bind λv1=>some ((v1&&(decide (d0.seq >= (1:Int))))&&(decide (d0.seq<=(1048576:Int)))))
def cmpOrInt (vals0:(List Int)):Option Int :=
 (lp (zD (λ(n1:Nat) (x1:Int) (s1:Unit)=>((if (x1 != (0:Int))=true then some (.ret x1) else some (.nxt ())):Option (Out _ Unit))) vals0 0 ()) λ(s1:Unit)=>some (0:Int))
def vM (x0:Int):Option Bool :=
 some (x0 != x0)
def x8 (x0:Int) (y1:Int):Option Int :=
 ((vM x0).bind λv1=>((vM y1).bind λv2=>(if v1=true then (if v2=true then some (0:Int) else some (-1:Int)) else (if v2=true then some (1:Int) else (if (decide (x0 < y1))=true then some (-1:Int) else (if (decide (x0 > y1))=true then some (1:Int) else some (0:Int)))))))
def vi (x0:Int):Option Bool :=
 some (x0 != x0)
def wV (x0:Int) (y1:Int):Option Int :=
 ((vi x0).bind λv1=>((vi y1).bind λv2=>(if v1=true then (if v2=true then some (0:Int) else some (-1:Int)) else (if v2=true then some (1:Int) else (if (decide (x0 < y1))=true then some (-1:Int) else (if (decide (x0 > y1))=true then some (1:Int) else some (0:Int)))))))
def dotXcompare (a0:GI) (b1:GI):Option Int :=
 ((x8 a0.rep b1.rep).bind λv1=>((wV a0.inc b1.inc).bind λv2=>((cmpOrInt ([v1,v2]:List Int)).bind λv3=>some v3)))
def vh (x0:Int):Option Bool :=
 some (x0 != x0)
def wp (x0:Int) (y1:Int):Option Int :=
 ((vh x0).bind λv1=>((vh y1).bind λv2=>(if v1=true then (if v2=true then some (0:Int) else some (-1:Int)) else (if v2=true then some (1:Int) else (if (decide (x0 < y1))=true then some (-1:Int) else (if (decide (x0 > y1))=true then some (1:Int) else some (0:Int)))))))
def wJ (a0:GE) (b1:GE):Option Int :=
 ((dotXcompare a0.actor b1.actor).bind λv1=>((wp a0.seq b1.seq).bind λv2=>((cmpOrInt ([v1,v2]:List Int)).bind λv3=>some v3)))
def yK (s0:(List GF)) (f1:(GF->Option Bool)):Option Int :=
 (lp (zD (λ(n1:Nat) (x1:GF) (s1:Unit)=>(((f1 x1).bind λv7=>(if v7=true then some (.ret (n1:Int)) else some (.nxt ()))):Option (Out _ Unit))) s0 0 ()) λ(s1:Unit)=>some (-1:Int))
def xu (s0:(List GF)) (f1:(GF->Option Bool)):Option Bool :=
 ((yK s0 f1).bind λv1=>some (decide (v1 >= (0:Int))))
def leafXhasC1 (x0:GF) (c0:GE):Option Bool :=
 some (x0.dot.actor.rep==c0.actor.rep&&(x0.dot.actor.inc==c0.actor.inc&&(x0.dot.seq==c0.seq&&true)))
def leafXhas (l0:(List GF)) (d1:GE):Option Bool :=
 ((xu l0 (λx0=>leafXhasC1 x0 d1)).bind λv1=>some v1)
def leafXtombs (l0:GC):Option Bool :=
 (lp (zD (λ(n1:Nat) (x1:GE) (s1:Unit)=>(((dotMay x1).bind λv19=>(yM ((((!v19)==false)&&((decide ((n1:Int) > (0:Int)))==true))=true->0<=(IntKind.wrap .i64 ((n1:Int) - (1:Int)))/\(IntKind.wrap .i64 ((n1:Int) - (1:Int))) < ((l0.tombs).length:Int)) (((if (((!v19)==false)&&((decide ((n1:Int) > (0:Int)))==true))=true then wJ ((l0.tombs).getD (IntKind.wrap .i64 ((n1:Int) - (1:Int))).toNat default) x1 else some default).bind λv21=>((if (((!v19) || ((decide ((n1:Int) > (0:Int)))&&(decide (v21 >= (0:Int)))))==false)=true then leafXhas l0.items x1 else some default).bind λv22=>(if (((!v19) || ((decide ((n1:Int) > (0:Int)))&&(decide (v21 >= (0:Int))))) || v22)=true then some (.ret false) else some (.nxt ()))))))):Option (Out _ Unit))) l0.tombs 0 ()) λ(s1:Unit)=>some true)
def leafXtwice (l0:(List GF)):Option Bool :=
 (lp (zD (λ(n1:Nat) (x1:GF) (s1:List (GE×Int))=>(some (.nxt (qg GE.eqb s1 x1.dot (IntKind.wrap .i64 ((yQ GE.eqb (0:Int) s1 x1.dot)+(1:Int))))):Option (Out _ (List (GE×Int))))) l0 0 ([]:List (GE×Int))) λ(s1:List (GE×Int))=>some (decide (((s1).length:Int) < ((l0).length:Int))))
def vX (a0:Int) (d1:GE) (b2:Int) (o3:GE):Option Int :=
 ((wp a0 b2).bind λv1=>((wJ d1 o3).bind λv2=>((cmpOrInt ([v1,v2]:List Int)).bind λv3=>some v3)))
def vY (time0:Int) (d1:GE) (other2:Int) (o3:GE):Option Bool :=
 ((vX time0 d1 other2 o3).bind λv1=>some (decide (v1 < (0:Int))))
def leafXitems (l0:(List GF)) (timed1:Bool):Option Bool :=
 (lp (zD (λ(n1:Nat) (x1:GF) (s1:Unit)=>(((dotMay x1.dot).bind λv13=>((if ((!v13)==false)=true then qK x1.text else some default).bind λv14=>((if (((!v13) || (!v14))==false)=true then leafXisTime x1.time else some default).bind λv15=>(if ((((!v13) || (!v14)) || (!(timed1==v15))) || ((!timed1)&&(x1.time != (0:Int))))=true then some (.ret false) else (yM (((decide ((n1:Int) > (0:Int)))==true)=true->0<=(IntKind.wrap .i64 ((n1:Int) - (1:Int)))/\(IntKind.wrap .i64 ((n1:Int) - (1:Int))) < ((l0).length:Int)) ((yM (((decide ((n1:Int) > (0:Int)))==true)=true->0<=(IntKind.wrap .i64 ((n1:Int) - (1:Int)))/\(IntKind.wrap .i64 ((n1:Int) - (1:Int))) < ((l0).length:Int)) (((if ((decide ((n1:Int) > (0:Int)))==true)=true then vY (((l0).getD (IntKind.wrap .i64 ((n1:Int) - (1:Int))).toNat default).time) (((l0).getD (IntKind.wrap .i64 ((n1:Int) - (1:Int))).toNat default).dot) x1.time x1.dot else some default).bind λv19=>(if ((decide ((n1:Int) > (0:Int)))&&(!v19))=true then some (.ret false) else some (.nxt ()))))))))))):Option (Out _ Unit))) l0 0 ()) λ(s1:Unit)=>((leafXtwice l0).bind λv21=>some (!v21)))
def vC (s10:(List GE)) (s21:(List GE)):Option Bool :=
 (if (((s10).length:Int) != ((s21).length:Int))=true then some false else (lp (zD (λ(n1:Nat) (x1:GE) (s1:Unit)=>(((yB s21 (n1:Int)).bind λy10=>(if (!(x1.actor.rep==y10.actor.rep&&(x1.actor.inc==y10.actor.inc&&(x1.seq==y10.seq&&true))))=true then some (.ret false) else some (.nxt ()))):Option (Out _ Unit))) s10 0 ()) λ(s1:Unit)=>some true))
def va (s10:(List GF)) (s21:(List GF)):Option Bool :=
 (if (((s10).length:Int) != ((s21).length:Int))=true then some false else (lp (zD (λ(n1:Nat) (x1:GF) (s1:Unit)=>(((yB s21 (n1:Int)).bind λy10=>(if (!(x1.time==y10.time&&(x1.dot.actor.rep==y10.dot.actor.rep&&(x1.dot.actor.inc==y10.dot.actor.inc&&(x1.dot.seq==y10.dot.seq&&(x1.text==y10.text&&true))))))=true then some (.ret false) else some (.nxt ()))):Option (Out _ Unit))) s10 0 ()) λ(s1:Unit)=>some true))
def leafSame (a0:GC) (b1:GC):Option Bool :=
 ((if ((((((a0.typ==b1.typ)&&(a0.n==b1.n))&&(a0.time==b1.time))&&(a0.dot.actor.rep==b1.dot.actor.rep&&(a0.dot.actor.inc==b1.dot.actor.inc&&(a0.dot.seq==b1.dot.seq&&true))))&&(a0.text==b1.text))==true)=true then va a0.items b1.items else some default).bind λv1=>((if (((((((a0.typ==b1.typ)&&(a0.n==b1.n))&&(a0.time==b1.time))&&(a0.dot.actor.rep==b1.dot.actor.rep&&(a0.dot.actor.inc==b1.dot.actor.inc&&(a0.dot.seq==b1.dot.seq&&true))))&&(a0.text==b1.text))&&v1)==true)=true then vC a0.tombs b1.tombs else some default).bind λv2=>some (((((((a0.typ==b1.typ)&&(a0.n==b1.n))&&(a0.time==b1.time))&&(a0.dot.actor.rep==b1.dot.actor.rep&&(a0.dot.actor.inc==b1.dot.actor.inc&&(a0.dot.seq==b1.dot.seq&&true))))&&(a0.text==b1.text))&&v1)&&v2)))
def vu (l0:GC):Option Bool :=
 (if (l0.typ==(1:Int))=true then ((leafSame l0 (GC.mk l0.typ l0.n (0:Int) (GE.mk (GI.mk (0:Int) (0:Int)) (0:Int)) ([]:zx) ([]:List GF) ([]:List GE))).bind λv2=>some v2) else (if (l0.typ==(2:Int))=true then ((if ((l0.time != (0:Int))==true)=true then leafXisTime l0.time else some default).bind λv4=>((if (((l0.time != (0:Int))==true)&&(v4==true))=true then dotMay l0.dot else some default).bind λv5=>((if (((l0.time != (0:Int))==true)&&((v4&&v5)==true))=true then qK l0.text else some default).bind λv6=>(if (((l0.time != (0:Int))&&(!((v4&&v5)&&v6))) || ((l0.time==(0:Int))&&((!(l0.dot.actor.rep==(0:Int)&&(l0.dot.actor.inc==(0:Int)&&(l0.dot.seq==(0:Int)&&true)))) || (!(l0.text==([]:zx))))))=true then some false else ((leafSame l0 (GC.mk l0.typ (0:Int) l0.time l0.dot l0.text ([]:List GF) ([]:List GE))).bind λv8=>some v8))))) else (if (l0.typ==(3:Int))=true then ((leafXitems l0.items false).bind λv10=>((if ((!v10)==false)=true then leafXtombs l0 else some default).bind λv11=>(if ((!v10) || (!v11))=true then some false else ((leafSame l0 (GC.mk l0.typ (0:Int) (0:Int) (GE.mk (GI.mk (0:Int) (0:Int)) (0:Int)) ([]:zx) l0.items l0.tombs)).bind λv13=>some v13)))) else (if (l0.typ==(4:Int))=true then ((leafXitems l0.items true).bind λv15=>(if (!v15)=true then some false else ((leafSame l0 (GC.mk l0.typ (0:Int) (0:Int) (GE.mk (GI.mk (0:Int) (0:Int)) (0:Int)) ([]:zx) l0.items ([]:List GE))).bind λv17=>some v17))) else some false))))
def opIsNameC1 (r0:Int):Option Bool :=
 some ((((decide (r0 < (97:Int))) || (decide (r0 > (122:Int))))&&((decide (r0 < (65:Int))) || (decide (r0 > (90:Int)))))&&((decide (r0 < (48:Int))) || (decide (r0 > (57:Int)))))
def vp (s0:zx) (f1:(Int->Option Bool)) (truth2:Bool):Option Int :=
 (lp (yI (λ(s1:Nat)=>((if s1 < (s0).length then ((f1 ((dec s0 s1).1:Int)).bind λv6=>(if (v6==truth2)=true then some (.ret (s1:Int)) else some (.nxt (s1+(dec s0 s1).2)))) else some (.brk s1)):Option (Out _ Nat))) 0) λ(s1:Nat)=>some (-1:Int))
def vR (s0:zx) (f1:(Int->Option Bool)):Option Int :=
 ((vp s0 f1 true).bind λv1=>some v1)
def wc (s0:zx) (f1:(Int->Option Bool)):Option Bool :=
 ((vR s0 f1).bind λv1=>some (decide (v1 >= (0:Int))))
def opIsName (s0:zx):Option Bool :=
 ((if (((decide (((s0).length:Int) >= (1:Int)))&&(decide (((s0).length:Int)<=(12:Int))))==true)=true then wc s0 (λx0=>opIsNameC1 x0) else some default).bind λv3=>some (((decide (((s0).length:Int) >= (1:Int)))&&(decide (((s0).length:Int)<=(12:Int))))&&(!v3)))
def qC:Nat->(t0:(List GA))->(deep1:Int)->Option Bool
 | 0,_,_=>none
 | n+1,t0,deep1=>(if ((decide (((t0).length:Int) > (0:Int)))&&(deep1==(3:Int)))=true then some false else (lp (zD (λ(n1:Nat) (x1:GA) (s1:Unit)=>(((opIsName x1.name).bind λv27=>(yM ((((!v27)==false)&&((decide ((n1:Int) > (0:Int)))==true))=true->0<=(IntKind.wrap .i64 ((n1:Int) - (1:Int)))/\(IntKind.wrap .i64 ((n1:Int) - (1:Int))) < ((t0).length:Int)) (((if ((((!v27) || ((decide ((n1:Int) > (0:Int)))&&(!(Op.bytesLess (((t0).getD (IntKind.wrap .i64 ((n1:Int) - (1:Int))).toNat default).name) x1.name)))) || ((IntKind.wrap .i64 (((x1.leaves).length:Int)+((x1.subs).length:Int)))==(0:Int)))==false)=true then qC n x1.subs (IntKind.wrap .i64 (deep1+(1:Int))) else some default).bind λv31=>(if ((((!v27) || ((decide ((n1:Int) > (0:Int)))&&(!(Op.bytesLess (((t0).getD (IntKind.wrap .i64 ((n1:Int) - (1:Int))).toNat default).name) x1.name)))) || ((IntKind.wrap .i64 (((x1.leaves).length:Int)+((x1.subs).length:Int)))==(0:Int))) || (!v31))=true then some (.ret false) else (lp (zD (λ(n2:Nat) (x2:GC) (s2:Unit)=>(((vu x2).bind λv43=>(yM ((((!v43)==false)&&((decide ((n2:Int) > (0:Int)))==true))=true->0<=(IntKind.wrap .i64 ((n2:Int) - (1:Int)))/\(IntKind.wrap .i64 ((n2:Int) - (1:Int))) < ((x1.leaves).length:Int)) ((if ((!v43) || ((decide ((n2:Int) > (0:Int)))&&(decide (((x1.leaves).getD (IntKind.wrap .i64 ((n2:Int) - (1:Int))).toNat default).typ >= x2.typ))))=true then some (.ret (.ret false)) else some (.nxt ()))))):Option (Out _ Unit))) x1.leaves 0 ()) λ(s2:Unit)=>some (.nxt ()))))))):Option (Out _ Unit))) t0 0 ()) λ(s1:Unit)=>some true))
def treeXmay (t0:(List GA)) (deep1:Int):Option Bool:=anyN λn=>qC n t0 deep1
def treeMay (t0:(List GA)):Option Bool :=
 ((treeXmay t0 (0:Int)).bind λv1=>some v1)
/-- slices.Sort[[]string,string]: sortS -/
def slicesSortStringX:Unit:=()
def treeNames (t0:(List GA)) (path1:(List zx)):Option (List zx) :=
 (lp (zD (λ(n1:Nat) (x1:zx) (s1:(List GA))=>(((xn s1 x1).bind λv7=>some (.nxt v7.1.subs)):Option (Out _ (List GA)))) path1 0 t0) λ(s1:(List GA))=>(lp (zD (λ(n2:Nat) (x2:GA) (s2:(List zx))=>((yM ((s2).length+(([x2.name]:List zx)).length<=lim) (some (.nxt (s2++([x2.name]:List zx))))):Option (Out _ (List zx)))) s1 0 ([]:List zx)) λ(s2:(List zx))=>((sortS s2).bind λv15=>some v15)))
def xQ (s0:(List zx)):Option (List zx) :=
 (if (decide (((s0).length:Int) < (2:Int)))=true then some s0 else (lp (yI (λ(s1:Int)=>((if (decide (s1 < ((s0).length:Int)))=true then ((yB s0 s1).bind λy35=>((yB s0 (IntKind.wrap .i64 (s1 - (1:Int)))).bind λy36=>(if (y35==y36)=true then (yM (0<=s1/\s1<=((s0.length:Nat):Int)) ((lp (yI (λ(s2:Int×Int×(List zx))=>((yM ((s2.2.2).length=s0.length) ((if (decide (s2.2.1 < ((s0.length - s1.toNat:Nat):Int)))=true then ((yB (s2.2.2.drop s1.toNat) s2.2.1).bind λy51=>((yB (s2.2.2.drop s1.toNat) (IntKind.wrap .i64 (s2.2.1 - (1:Int)))).bind λy52=>(if (!(y51==y52))=true then ((yB (s2.2.2.drop s1.toNat) s2.2.1).bind λy54=>((yB s2.2.2 s2.1).bind λy55=>some (.nxt ((IntKind.wrap .i64 (s2.1+(1:Int))),(IntKind.wrap .i64 (s2.2.1+(1:Int))),(s2.2.2.set s2.1.toNat y54))))) else some (.nxt (s2.1,(IntKind.wrap .i64 (s2.2.1+(1:Int))),s2.2.2))))) else some (.brk (s2.1,s2.2.1,s2.2.2))))):Option (Out _ (Int×Int×(List zx))))) (s1,(1:Int),s0)) λ(s2:Int×Int×(List zx))=>(yM (0<=s2.1/\s2.1<=((s0.length:Nat):Int)) (((slc (s2.2.2.take s2.1.toNat++List.replicate (s0.length - s2.1.toNat) ([]:zx)) (0:Int) s2.1).bind λm57=>some (.ret m57))))))) else some (.nxt (IntKind.wrap .i64 (s1+(1:Int))))))) else some (.brk s1)):Option (Out _ Int))) (1:Int)) λ(s1:Int)=>some s0))
def treeXnames (l0:(List (List GA))):Option (List zx) :=
 (lp (zD (λ(n1:Nat) (x1:(List GA)) (s1:(List zx))=>(((treeNames x1 ([]:List zx)).bind λv8=>(yM ((s1).length+(v8).length<=lim) (some (.nxt (s1++v8))))):Option (Out _ (List zx)))) l0 0 ([]:List zx)) λ(s1:(List zx))=>((sortS s1).bind λv10=>((xQ v10).bind λv11=>some v11)))
def xj (n0:GA) (kind1:Int):Option (GC×Bool) :=
 ((wq ([n0]:List GA) ([n0.name]:List zx) kind1).bind λv1=>some (v1.1,v1.2))
def w5 (l0:GC) (a1:GC) (b2:GC):Option GC :=
 some (GC.mk a1.typ (IntKind.wrap .i64 (a1.n+(IntKind.wrap .i64 (b2.n - l0.n)))) a1.time a1.dot a1.text a1.items a1.tombs)
def wH (p0:GC) (a1:GC) (b2:GC):Option GC :=
 ((if (((a1.time==(0:Int))==false)&&((b2.time != (0:Int))==true))=true then vY b2.time b2.dot a1.time a1.dot else some default).bind λv1=>(if ((a1.time==(0:Int)) || ((b2.time != (0:Int))&&(!v1)))=true then some b2 else some a1))
def xX (s0:(List GE)):Option (List GE) :=
 (if (decide (((s0).length:Int) < (2:Int)))=true then some s0 else (lp (yI (λ(s1:Int)=>((if (decide (s1 < ((s0).length:Int)))=true then ((yB s0 s1).bind λy35=>((yB s0 (IntKind.wrap .i64 (s1 - (1:Int)))).bind λy36=>(if (y35.actor.rep==y36.actor.rep&&(y35.actor.inc==y36.actor.inc&&(y35.seq==y36.seq&&true)))=true then (yM (0<=s1/\s1<=((s0.length:Nat):Int)) ((lp (yI (λ(s2:Int×Int×(List GE))=>((yM ((s2.2.2).length=s0.length) ((if (decide (s2.2.1 < ((s0.length - s1.toNat:Nat):Int)))=true then ((yB (s2.2.2.drop s1.toNat) s2.2.1).bind λy51=>((yB (s2.2.2.drop s1.toNat) (IntKind.wrap .i64 (s2.2.1 - (1:Int)))).bind λy52=>(if (!(y51.actor.rep==y52.actor.rep&&(y51.actor.inc==y52.actor.inc&&(y51.seq==y52.seq&&true))))=true then ((yB (s2.2.2.drop s1.toNat) s2.2.1).bind λy54=>((yB s2.2.2 s2.1).bind λy55=>some (.nxt ((IntKind.wrap .i64 (s2.1+(1:Int))),(IntKind.wrap .i64 (s2.2.1+(1:Int))),(s2.2.2.set s2.1.toNat y54))))) else some (.nxt (s2.1,(IntKind.wrap .i64 (s2.2.1+(1:Int))),s2.2.2))))) else some (.brk (s2.1,s2.2.1,s2.2.2))))):Option (Out _ (Int×Int×(List GE))))) (s1,(1:Int),s0)) λ(s2:Int×Int×(List GE))=>(yM (0<=s2.1/\s2.1<=((s0.length:Nat):Int)) (((slc (s2.2.2.take s2.1.toNat++List.replicate (s0.length - s2.1.toNat) (GE.mk (GI.mk (0:Int) (0:Int)) (0:Int))) (0:Int) s2.1).bind λm57=>some (.ret m57))))))) else some (.nxt (IntKind.wrap .i64 (s1+(1:Int))))))) else some (.brk s1)):Option (Out _ Int))) (1:Int)) λ(s1:Int)=>some s0))
def ql (_s0:(List GE)) (n1:Int):Option (List GE) :=
 (if (decide (n1 < (0:Int)))=true then none else (if (decide ((IntKind.wrap .i64 (n1 - (IntKind.wrap .i64 ((0:Int) - ((0:Nat):Int))))) > (0:Int)))=true then (yM (0 < (IntKind.wrap .i64 (n1 - (IntKind.wrap .i64 ((0:Int) - ((0:Nat):Int)))))/\(IntKind.wrap .i64 (n1 - (IntKind.wrap .i64 ((0:Int) - ((0:Nat):Int)))))<=(lim:Int)) (((slc (List.replicate (IntKind.wrap .i64 (n1 - (IntKind.wrap .i64 ((0:Int) - ((0:Nat):Int))))).toNat (GE.mk (GI.mk (0:Int) (0:Int)) (0:Int))) (0:Int) ((0:Nat):Int)).bind λm6=>some m6))) else some ([]:List GE)))
def vd (slices0:(List (List GE))):Option (List GE) :=
 (lp (zD (λ(n1:Nat) (x1:(List GE)) (s1:Int)=>((if (decide ((IntKind.wrap .i64 (s1+((x1).length:Int))) < (0:Int)))=true then none else some (.nxt (IntKind.wrap .i64 (s1+((x1).length:Int))))):Option (Out _ Int))) slices0 0 (0:Int)) λ(s1:Int)=>((ql ([]:List GE) s1).bind λv10=>(lp (zD (λ(n2:Nat) (x2:(List GE)) (s2:(List GE))=>((yM ((s2).length+(x2).length<=lim) (some (.nxt (s2++x2)))):Option (Out _ (List GE)))) slices0 0 v10) λ(s2:(List GE))=>some s2)))
def qZ (s0:(List GE)) (v1:GE):Option Int :=
 (lp (zD (λ(n1:Nat) (x1:GE) (s1:Unit)=>((if (v1.actor.rep==x1.actor.rep&&(v1.actor.inc==x1.actor.inc&&(v1.seq==x1.seq&&true)))=true then some (.ret (n1:Int)) else some (.nxt ())):Option (Out _ Unit))) s0 0 ()) λ(s1:Unit)=>some (-1:Int))
def xf (s0:(List GE)) (v1:GE):Option Bool :=
 ((qZ s0 v1).bind λv1=>some (decide (v1 >= (0:Int))))
def vB (_s0:(List GF)) (n1:Int):Option (List GF) :=
 (if (decide (n1 < (0:Int)))=true then none else (if (decide ((IntKind.wrap .i64 (n1 - (IntKind.wrap .i64 ((0:Int) - ((0:Nat):Int))))) > (0:Int)))=true then (yM (0 < (IntKind.wrap .i64 (n1 - (IntKind.wrap .i64 ((0:Int) - ((0:Nat):Int)))))/\(IntKind.wrap .i64 (n1 - (IntKind.wrap .i64 ((0:Int) - ((0:Nat):Int)))))<=(lim:Int)) (((slc (List.replicate (IntKind.wrap .i64 (n1 - (IntKind.wrap .i64 ((0:Int) - ((0:Nat):Int))))).toNat (GF.mk (0:Int) (GE.mk (GI.mk (0:Int) (0:Int)) (0:Int)) ([]:zx))) (0:Int) ((0:Nat):Int)).bind λm6=>some m6))) else some ([]:List GF)))
def wm (slices0:(List (List GF))):Option (List GF) :=
 (lp (zD (λ(n1:Nat) (x1:(List GF)) (s1:Int)=>((if (decide ((IntKind.wrap .i64 (s1+((x1).length:Int))) < (0:Int)))=true then none else some (.nxt (IntKind.wrap .i64 (s1+((x1).length:Int))))):Option (Out _ Int))) slices0 0 (0:Int)) λ(s1:Int)=>((vB ([]:List GF) s1).bind λv10=>(lp (zD (λ(n2:Nat) (x2:(List GF)) (s2:(List GF))=>((yM ((s2).length+(x2).length<=lim) (some (.nxt (s2++x2)))):Option (Out _ (List GF)))) slices0 0 v10) λ(s2:(List GF))=>some s2)))
/-- slices.SortFunc[[]varve/api.Item,varve/api.Item]: sortO -/
def slicesSortFuncItemX:Unit:=()
def qP (x0:GF) (y1:GF):Option Int :=
 ((vY x0.time x0.dot y1.time y1.dot).bind λv1=>(if v1=true then some (-1:Int) else some (1:Int)))
def qQ (a0:(List GF)) (b1:(List GF)) (tombs2:(List GE)):Option (List GF) :=
 ((wm ([a0,b1]:List (List GF))).bind λv1=>(yM ((((v1).length:Nat):Int)<=9223372036854775807) (lp (zD (λ(n1:Nat) (x1:Nat) (s1:List (GE×Int)×(List GF))=>(((yB v1 (n1:Int)).bind λy17=>((((if (((yQ GE.eqb (0:Int) (qg GE.eqb s1.1 y17.dot (IntKind.wrap .i64 ((yQ GE.eqb (0:Int) s1.1 y17.dot)+(1:Int)))) y17.dot)==(1:Int))==true)=true then xf tombs2 y17.dot else some default).bind λv22=>(if (((yQ GE.eqb (0:Int) (qg GE.eqb s1.1 y17.dot (IntKind.wrap .i64 ((yQ GE.eqb (0:Int) s1.1 y17.dot)+(1:Int)))) y17.dot)==(1:Int))&&(!v22))=true then (yM ((s1.2).length+(([y17]:List GF)).length<=lim) (some ((qg GE.eqb s1.1 y17.dot (IntKind.wrap .i64 ((yQ GE.eqb (0:Int) s1.1 y17.dot)+(1:Int)))),(s1.2++([y17]:List GF))))) else some ((qg GE.eqb s1.1 y17.dot (IntKind.wrap .i64 ((yQ GE.eqb (0:Int) s1.1 y17.dot)+(1:Int)))),s1.2))):Option (List (GE×Int)×(List GF))).bind λv18=>some (.nxt (v18.1,v18.2)))):Option (Out _ (List (GE×Int)×(List GF))))) (List.range (((((v1).length:Nat):Int)).toNat)) 0 (([]:List (GE×Int)),([]:List GF))) λ(s1:List (GE×Int)×(List GF))=>((sortO (λx y=>qP x y) s1.2).bind λv25=>some v25))))
/-- slices.SortFunc[[]varve/api.Dot,varve/api.Dot]: sortO -/
def slicesSortFuncDotX:Unit:=()
def fuseXset (p0:GC) (a1:GC) (b2:GC):Option GC :=
 ((vd ([a1.tombs,b2.tombs]:List (List GE))).bind λv1=>((sortO (λx y=>wJ x y) v1).bind λv2=>((xX v2).bind λv3=>((qQ a1.items b2.items v3).bind λv4=>some (GC.mk (3:Int) (0:Int) (0:Int) (GE.mk (GI.mk (0:Int) (0:Int)) (0:Int)) ([]:zx) v4 v3)))))
def fuseXlog (p0:GC) (a1:GC) (b2:GC):Option GC :=
 ((qQ a1.items b2.items ([]:List GE)).bind λv1=>some (GC.mk (4:Int) (0:Int) (0:Int) (GE.mk (GI.mk (0:Int) (0:Int)) (0:Int)) ([]:zx) v1 ([]:List GE)))
def callFuse (c:Nat) (x0:GC) (x1:GC) (x2:GC):Option GC:=match c with
 | 1=>w5 x0 x1 x2
 | 2=>wH x0 x1 x2
 | 3=>fuseXset x0 x1 x2
 | 4=>fuseXlog x0 x1 x2
 | _=>none
def vZ (l0:GC) (a1:GC) (b2:GC):Option (GC×Int) :=
 ((vu l0).bind λv1=>((if ((!v1)==false)=true then vu a1 else some default).bind λv2=>((if (((!v1) || (!v2))==false)=true then vu b2 else some default).bind λv3=>(if (((!v1) || (!v2)) || (!v3))=true then some (zLf,(2:Int)) else (if ((l0.typ != a1.typ) || (l0.typ != b2.typ))=true then some (zLf,(15:Int)) else ((yB ([0,1,2,3,4]:List Nat) l0.typ).bind λy6=>((callFuse y6 l0 a1 b2).bind λv7=>some (v7,(0:Int)))))))))
def qt (l0:GA) (a1:GA) (b2:GA):Option (List GC) :=
 (lp (yI (λ(s1:(List GC)×Int)=>((if (decide (s1.2<=(4:Int)))=true then ((xj l0 s1.2).bind λv20=>((xj a1 s1.2).bind λv21=>((xj b2 s1.2).bind λv22=>(if ((v20.2 || v21.2) || v22.2)=true then ((vZ v20.1 v21.1 v22.1).bind λv24=>(yM ((s1.1).length+(([v24.1]:List GC)).length<=lim) (some (.nxt ((s1.1++([v24.1]:List GC)),(IntKind.wrap .u8 (s1.2+(1:Int)))))))) else some (.nxt (s1.1,(IntKind.wrap .u8 (s1.2+(1:Int))))))))) else some (.brk (s1.1,s1.2))):Option (Out _ ((List GC)×Int)))) (([]:List GC),(1:Int))) λ(s1:(List GC)×Int)=>some s1.1)
def xP:Nat->(l0:(List GA))->(a1:(List GA))->(b2:(List GA))->Option (List GA)
 | 0,_,_,_=>none
 | n+1,l0,a1,b2=>((treeXnames ([l0,a1,b2]:List (List GA))).bind λv1=>(lp (zD (λ(n1:Nat) (x1:zx) (s1:(List GA))=>(((xn l0 x1).bind λv13=>((xn a1 x1).bind λv14=>((xn b2 x1).bind λv15=>((qt v13.1 v14.1 v15.1).bind λv16=>((xP n v13.1.subs v14.1.subs v15.1.subs).bind λv17=>(yM ((s1).length+(([(GA.mk x1 v16 v17)]:List GA)).length<=lim) (some (.nxt (s1++([(GA.mk x1 v16 v17)]:List GA)))))))))):Option (Out _ (List GA)))) v1 0 ([]:List GA)) λ(s1:(List GA))=>some s1))
def treeXmerged (l0:(List GA)) (a1:(List GA)) (b2:(List GA)):Option (List GA):=anyN λn=>xP n l0 a1 b2
def vj (l0:(List GA)) (a1:(List GA)) (b2:(List GA)):Option ((List GA)×Int) :=
 ((treeMay l0).bind λv1=>((if ((!v1)==false)=true then treeMay a1 else some default).bind λv2=>((if (((!v1) || (!v2))==false)=true then treeMay b2 else some default).bind λv3=>(if (((!v1) || (!v2)) || (!v3))=true then some (([]:List GA),(2:Int)) else ((treeXmerged l0 a1 b2).bind λv5=>some (v5,(0:Int)))))))
def y4:Nat->(t0:(List GA))->(byy1:(GC->Option GC))->Option (List GA)
 | 0,_,_=>none
 | n+1,t0,byy1=>(lp (zD (λ(n1:Nat) (x1:GA) (s1:(List GA))=>(((y4 n x1.subs byy1).bind λv23=>(lp (zD (λ(n2:Nat) (x2:GC) (s2:(List GC))=>(((byy1 x2).bind λv36=>(yM ((s2).length+(([v36]:List GC)).length<=lim) (some (.nxt (s2++([v36]:List GC)))))):Option (Out _ (List GC)))) x1.leaves 0 ([]:List GC)) λ(s2:(List GC))=>(yM ((s1).length+(([(GA.mk x1.name s2 v23)]:List GA)).length<=lim) (some (.nxt (s1++([(GA.mk x1.name s2 v23)]:List GA))))))):Option (Out _ (List GA)))) t0 0 ([]:List GA)) λ(s1:(List GA))=>some s1)
def vQ (t0:(List GA)) (byy1:(GC->Option GC)):Option (List GA):=anyN λn=>y4 n t0 byy1
def qu (l0:GC):Option GC :=
 ((yC l0.items).bind λv1=>((yW l0.tombs).bind λv2=>some (GC.mk l0.typ l0.n l0.time l0.dot l0.text v1 v2)))
def treeXown (t0:(List GA)):Option (List GA) :=
 ((vQ t0 (λx0=>qu x0)).bind λv1=>some v1)
def xC (s0:(List GC)):Option (List GC) :=
 (nilq s0 λb1=>(if b1=true then some ([]:List GC) else (yM ((([]:List GC)).length+(s0).length<=lim) (some (([]:List GC)++s0)))))
def zU (x0:(List GC)) (target1:Int) (cmp2:(GC->Int->Option Int)):Option (Int×Bool) :=
 (lp (yI (λ(s1:Int×Int)=>((if (decide (s1.1 < s1.2))=true then ((yB x0 (IntKind.wrap .i64 ((Int.fdiv (IntKind.wrap .u64 ((IntKind.wrap .i64 (s1.1+s1.2)))) (2 ^ (min (1:Int).toNat (IntKind.bits .u64))))))).bind λy9=>((cmp2 y9 target1).bind λv10=>(if (decide (v10 < (0:Int)))=true then some (.nxt ((IntKind.wrap .i64 ((IntKind.wrap .i64 ((Int.fdiv (IntKind.wrap .u64 ((IntKind.wrap .i64 (s1.1+s1.2)))) (2 ^ (min (1:Int).toNat (IntKind.bits .u64))))))+(1:Int))),s1.2)) else some (.nxt (s1.1,(IntKind.wrap .i64 ((Int.fdiv (IntKind.wrap .u64 ((IntKind.wrap .i64 (s1.1+s1.2)))) (2 ^ (min (1:Int).toNat (IntKind.bits .u64))))))))))) else some (.brk (s1.1,s1.2))):Option (Out _ (Int×Int)))) ((0:Int),((x0).length:Int))) λ(s1:Int×Int)=>(yM (((decide (s1.1 < ((x0).length:Int)))==true)=true->0<=s1.1/\s1.1 < ((x0).length:Int)) (((if ((decide (s1.1 < ((x0).length:Int)))==true)=true then cmp2 ((x0).getD s1.1.toNat default) target1 else some default).bind λv13=>some (s1.1,((decide (s1.1 < ((x0).length:Int)))&&(v13==(0:Int))))))))
def wY (x0:GC) (kind1:Int):Option Int :=
 ((x8 x0.typ kind1).bind λv1=>some v1)
/-- slices.Insert[[]varve/api.Leaf,varve/api.Leaf]: insO -/
def slicesInsertLeafX:Unit:=()
def xc (s0:(List GA)):Option (List GA) :=
 (nilq s0 λb1=>(if b1=true then some ([]:List GA) else (yM ((([]:List GA)).length+(s0).length<=lim) (some (([]:List GA)++s0)))))
def zq (x0:(List GA)) (target1:zx) (cmp2:(GA->zx->Option Int)):Option (Int×Bool) :=
 (lp (yI (λ(sL1:Int×Int)=>((if (decide (sL1.1 < sL1.2))=true then ((yB x0 (IntKind.wrap .i64 ((Int.fdiv (IntKind.wrap .u64 ((IntKind.wrap .i64 (sL1.1+sL1.2)))) (2 ^ (min (1:Int).toNat (IntKind.bits .u64))))))).bind λy9=>((cmp2 y9 target1).bind λv10=>(if (decide (v10 < (0:Int)))=true then some (.nxt ((IntKind.wrap .i64 ((IntKind.wrap .i64 ((Int.fdiv (IntKind.wrap .u64 ((IntKind.wrap .i64 (sL1.1+sL1.2)))) (2 ^ (min (1:Int).toNat (IntKind.bits .u64))))))+(1:Int))),sL1.2)) else some (.nxt (sL1.1,(IntKind.wrap .i64 ((Int.fdiv (IntKind.wrap .u64 ((IntKind.wrap .i64 (sL1.1+sL1.2)))) (2 ^ (min (1:Int).toNat (IntKind.bits .u64))))))))))) else some (.brk (sL1.1,sL1.2))):Option (Out _ (Int×Int)))) ((0:Int),((x0).length:Int))) λ(sL1:Int×Int)=>(yM (((decide (sL1.1 < ((x0).length:Int)))==true)=true->0<=sL1.1/\sL1.1 < ((x0).length:Int)) (((if ((decide (sL1.1 < ((x0).length:Int)))==true)=true then cmp2 ((x0).getD sL1.1.toNat default) target1 else some default).bind λv13=>some (sL1.1,((decide (sL1.1 < ((x0).length:Int)))&&(v13==(0:Int))))))))
/-- strings.Compare -/
def stringsCompare (p0:zx) (p1:zx):Option Int:=some (Go.Lib.compareBytes p0 p1)
def treeXfindC1 (n0:GA) (s1:zx):Option Int :=
 ((stringsCompare n0.name s1).bind λv1=>some v1)
def treeXfind (t0:(List GA)) (name1:zx):Option (Int×Bool) :=
 ((zq t0 name1 (λx0 x1=>treeXfindC1 x0 x1)).bind λv1=>some (v1.1,v1.2))
/-- slices.Insert[varve/api.Tree,varve/api.Node]: insO -/
def slicesInsertTreeNodeX:Unit:=()
def wl:Nat->(t0:(List GA))->(path1:(List zx))->(l2:GC)->Option (List GA)
 | 0,_,_,_=>none
 | n+1,t0,path1,l2=>((xc t0).bind λv1=>((yB path1 (0:Int)).bind λy2=>((treeXfind v1 y2).bind λv3=>(if (!v3.2)=true then ((yB path1 (0:Int)).bind λy5=>((insO v1 v3.1 ([(GA.mk y5 ([]:List GC) ([]:List GA))]:List GA)).bind λv6=>((yB v6 v3.1).bind λy7=>(if (decide (((path1).length:Int) > (1:Int)))=true then ((slc path1 (1:Int) ((path1).length:Int)).bind λm10=>((wl n y7.subs m10 l2).bind λv11=>((yB v6 v3.1).bind λy12=>some (v6.set v3.1.toNat (GA.mk y7.name y7.leaves v11))))) else ((xC y7.leaves).bind λv13=>((zU v13 l2.typ (λx0 x1=>wY x0 x1)).bind λv14=>(if (!v14.2)=true then ((insO v13 v14.1 ([l2]:List GC)).bind λv16=>((yB v16 v14.1).bind λy17=>((yB v6 v3.1).bind λy18=>some (v6.set v3.1.toNat (GA.mk y7.name (v16.set v14.1.toNat l2) y7.subs))))) else ((yB v13 v14.1).bind λy19=>((yB v6 v3.1).bind λy20=>some (v6.set v3.1.toNat (GA.mk y7.name (v13.set v14.1.toNat l2) y7.subs))))))))))) else ((yB v1 v3.1).bind λy21=>(if (decide (((path1).length:Int) > (1:Int)))=true then ((slc path1 (1:Int) ((path1).length:Int)).bind λm24=>((wl n y21.subs m24 l2).bind λv25=>((yB v1 v3.1).bind λy26=>some (v1.set v3.1.toNat (GA.mk y21.name y21.leaves v25))))) else ((xC y21.leaves).bind λv27=>((zU v27 l2.typ (λx0 x1=>wY x0 x1)).bind λv28=>(if (!v28.2)=true then ((insO v27 v28.1 ([l2]:List GC)).bind λv30=>((yB v30 v28.1).bind λy31=>((yB v1 v3.1).bind λy32=>some (v1.set v3.1.toNat (GA.mk y21.name (v30.set v28.1.toNat l2) y21.subs))))) else ((yB v27 v28.1).bind λy33=>((yB v1 v3.1).bind λy34=>some (v1.set v3.1.toNat (GA.mk y21.name (v27.set v28.1.toNat l2) y21.subs)))))))))))))
def treeXput (t0:(List GA)) (path1:(List zx)) (l2:GC):Option (List GA):=anyN λn=>wl n t0 path1 l2
def wv (s0:(List zx)) (f1:(zx->Option Bool)):Option Int :=
 (lp (zD (λ(n1:Nat) (x1:zx) (s1:Unit)=>(((f1 x1).bind λv7=>(if v7=true then some (.ret (n1:Int)) else some (.nxt ()))):Option (Out _ Unit))) s0 0 ()) λ(s1:Unit)=>some (-1:Int))
def xg (s0:(List zx)) (f1:(zx->Option Bool)):Option Bool :=
 ((wv s0 f1).bind λv1=>some (decide (v1 >= (0:Int))))
def opMayPathC1 (s0:zx):Option Bool :=
 ((opIsName s0).bind λv1=>some (!v1))
def opMayPath (p0:(List zx)):Option Bool :=
 ((if (((decide (((p0).length:Int) >= (1:Int)))&&(decide (((p0).length:Int)<=(3:Int))))==true)=true then xg p0 (λx0=>opMayPathC1 x0) else some default).bind λv3=>some (((decide (((p0).length:Int) >= (1:Int)))&&(decide (((p0).length:Int)<=(3:Int))))&&(!v3)))
def opXadds (o0:GL):Option Bool :=
 some ((((decide (o0.n >= (-1000000:Int)))&&(decide (o0.n<=(1000000:Int))))&&(o0.text==([]:zx)))&&(((o0.dots).length:Int)==(0:Int)))
def opXplain (o0:GL):Option Bool :=
 some (((o0.n==(0:Int))&&(decide (((o0.text).length:Int)<=(40:Int))))&&(((o0.dots).length:Int)==(0:Int)))
def opXdrops (o0:GL):Option Bool :=
 (if (((o0.n != (0:Int)) || (decide (((o0.text).length:Int) > (40:Int)))) || (decide (((o0.dots).length:Int) > (64:Int))))=true then some false else (lp (zD (λ(n1:Nat) (x1:GE) (s1:Unit)=>(((dotMay x1).bind λv17=>(yM ((((!v17)==false)&&((decide ((n1:Int) > (0:Int)))==true))=true->0<=(IntKind.wrap .i64 ((n1:Int) - (1:Int)))/\(IntKind.wrap .i64 ((n1:Int) - (1:Int))) < ((o0.dots).length:Int)) (((if (((!v17)==false)&&((decide ((n1:Int) > (0:Int)))==true))=true then wJ ((o0.dots).getD (IntKind.wrap .i64 ((n1:Int) - (1:Int))).toNat default) x1 else some default).bind λv19=>(if ((!v17) || ((decide ((n1:Int) > (0:Int)))&&(decide (v19 >= (0:Int)))))=true then some (.ret false) else some (.nxt ())))))):Option (Out _ Unit))) o0.dots 0 ()) λ(s1:Unit)=>some true))
def opXof (k0:Int):Option (GM×Bool) :=
 (if ((decide (k0 < (1:Int))) || (decide (k0 > (5:Int))))=true then some ((GM.mk (0:Int) 0),false) else ((yB ([(GM.mk (0:Int) 0),(GM.mk (1:Int) 1),(GM.mk (2:Int) 2),(GM.mk (3:Int) 2),(GM.mk (3:Int) 3),(GM.mk (4:Int) 2)]:List GM) k0).bind λy2=>some (y2,true)))
def callOp (c:Nat) (x0:GL):Option Bool:=match c with
 | 1=>opXadds x0
 | 2=>opXplain x0
 | 3=>opXdrops x0
 | _=>none
def opMay (o0:GL):Option Bool :=
 ((opXof o0.kind).bind λv1=>((if (v1.2==true)=true then opMayPath o0.path else some default).bind λv2=>((if ((v1.2&&v2)==true)=true then callOp v1.1.may o0 else some default).bind λv3=>some ((v1.2&&v2)&&v3))))
def opMayEvent (e0:GH):Option Bool :=
 ((dotMay e0.dot).bind λv1=>((if (((v1&&(decide (e0.time >= (1:Int))))&&(decide (e0.time<=(1099511627776:Int))))==true)=true then opMay e0.op else some default).bind λv2=>some (((v1&&(decide (e0.time >= (1:Int))))&&(decide (e0.time<=(1099511627776:Int))))&&v2)))
def opType (k0:Int):Option Int :=
 ((opXof k0).bind λv1=>some v1.1.leaf)
def yY (a0:GF) (b1:GF):Option Int :=
 ((vX a0.time a0.dot b1.time b1.dot).bind λv1=>some v1)
def z7 (x0:(List GF)) (target1:GF) (cmp2:(GF->GF->Option Int)):Option (Int×Bool) :=
 (lp (yI (λ(s1:Int×Int)=>((if (decide (s1.1 < s1.2))=true then ((yB x0 (IntKind.wrap .i64 ((Int.fdiv (IntKind.wrap .u64 ((IntKind.wrap .i64 (s1.1+s1.2)))) (2 ^ (min (1:Int).toNat (IntKind.bits .u64))))))).bind λy14=>((cmp2 y14 target1).bind λv15=>(if (decide (v15 < (0:Int)))=true then some (.nxt ((IntKind.wrap .i64 ((IntKind.wrap .i64 ((Int.fdiv (IntKind.wrap .u64 ((IntKind.wrap .i64 (s1.1+s1.2)))) (2 ^ (min (1:Int).toNat (IntKind.bits .u64))))))+(1:Int))),s1.2)) else some (.nxt (s1.1,(IntKind.wrap .i64 ((Int.fdiv (IntKind.wrap .u64 ((IntKind.wrap .i64 (s1.1+s1.2)))) (2 ^ (min (1:Int).toNat (IntKind.bits .u64))))))))))) else some (.brk (s1.1,s1.2))):Option (Out _ (Int×Int)))) ((0:Int),((x0).length:Int))) λ(s1:Int×Int)=>(yM (((decide (s1.1 < ((x0).length:Int)))==true)=true->0<=s1.1/\s1.1 < ((x0).length:Int)) (((if ((decide (s1.1 < ((x0).length:Int)))==true)=true then cmp2 ((x0).getD s1.1.toNat default) target1 else some default).bind λv18=>some (s1.1,((decide (s1.1 < ((x0).length:Int)))&&(v18==(0:Int))))))))
/-- slices.Insert[[]varve/api.Item,varve/api.Item]: insO -/
def slicesInsertItemX:Unit:=()
def xH (s0:(List GF)) (del1:(GF->Option Bool)):Option (List GF) :=
 ((yK s0 del1).bind λv1=>(if (v1==(-1:Int))=true then some s0 else (lp (yI (λ(s1:Int×Int×(List GF))=>((yM ((s1.2.2).length=s0.length) ((if (decide (s1.2.1 < ((s0.length:Nat):Int)))=true then ((yB s1.2.2 s1.2.1).bind λy14=>((del1 y14).bind λv15=>(if (!v15)=true then ((yB s1.2.2 s1.1).bind λy17=>some (.nxt ((IntKind.wrap .i64 (s1.1+(1:Int))),(IntKind.wrap .i64 (s1.2.1+(1:Int))),(s1.2.2.set s1.1.toNat y14)))) else some (.nxt (s1.1,(IntKind.wrap .i64 (s1.2.1+(1:Int))),s1.2.2))))) else some (.brk (s1.1,s1.2.1,s1.2.2))))):Option (Out _ (Int×Int×(List GF))))) (v1,(IntKind.wrap .i64 (v1+(1:Int))),s0)) λ(s1:Int×Int×(List GF))=>(yM (0<=s1.1/\s1.1<=((s0.length:Nat):Int)) (((slc (s1.2.2.take s1.1.toNat++List.replicate (s0.length - s1.1.toNat) (GF.mk (0:Int) (GE.mk (GI.mk (0:Int) (0:Int)) (0:Int)) ([]:zx))) (0:Int) s1.1).bind λm19=>some m19))))))
def wr (x0:GF) (c0:GH):Option Bool :=
 ((xf c0.op.dots x0.dot).bind λv1=>some v1)
def leafApply (l0:GC) (e1:GH):Option (GC×Int) :=
 ((vu l0).bind λv1=>((if ((!v1)==false)=true then opMayEvent e1 else some default).bind λv2=>(if ((!v1) || (!v2))=true then some (zLf,(2:Int)) else ((opType e1.op.kind).bind λv4=>(if (v4 != l0.typ)=true then some (zLf,(15:Int)) else ((yC l0.items).bind λv6=>((yW l0.tombs).bind λv7=>(if e1.op.kind=1 then ((some (IntKind.wrap .i64 (l0.n+e1.op.n)):Option Int).bind λv9=>some ((GC.mk l0.typ v9 l0.time l0.dot l0.text v6 v7),(0:Int))) else (if e1.op.kind=2 then ((((if ((l0.time==(0:Int))==false)=true then vY l0.time l0.dot e1.time e1.dot else some default).bind λv14=>(if ((l0.time==(0:Int)) || v14)=true then some (e1.time,e1.dot.actor.rep,e1.dot.actor.inc,e1.dot.seq,e1.op.text) else some (l0.time,l0.dot.actor.rep,l0.dot.actor.inc,l0.dot.seq,l0.text))):Option (Int×Int×Int×Int×zx)).bind λv11=>some ((GC.mk l0.typ l0.n v11.1 (GE.mk (GI.mk v11.2.1 v11.2.2.1) v11.2.2.2.1) v11.2.2.2.2 v6 v7),(0:Int))) else (if e1.op.kind=3 then ((((xf v7 e1.dot).bind λv29=>(if (!v29)=true then ((((leafXhas v6 e1.dot).bind λv36=>(if v36=true then some v6 else ((z7 v6 (GF.mk (0:Int) e1.dot e1.op.text) (λx0 x1=>yY x0 x1)).bind λv38=>((insO v6 v38.1 ([(GF.mk (0:Int) e1.dot e1.op.text)]:List GF)).bind λv39=>some v39)))):Option (List GF)).bind λv31=>some v31) else some v6)):Option (List GF)).bind λv17=>some ((GC.mk l0.typ l0.n l0.time l0.dot l0.text v17 v7),(0:Int))) else (if e1.op.kind=4 then (((yM ((v7).length+(e1.op.dots).length<=lim) (((sortO (λx y=>wJ x y) (v7++e1.op.dots)).bind λv47=>((xX v47).bind λv48=>((xH v6 (λx0=>wr x0 e1)).bind λv49=>some (v48,v49)))))):Option ((List GE)×(List GF))).bind λv41=>some ((GC.mk l0.typ l0.n l0.time l0.dot l0.text v41.2 v41.1),(0:Int))) else (if e1.op.kind=5 then ((((((leafXhas v6 e1.dot).bind λv66=>(if v66=true then some v6 else ((z7 v6 (GF.mk e1.time e1.dot e1.op.text) (λx0 x1=>yY x0 x1)).bind λv68=>((insO v6 v68.1 ([(GF.mk e1.time e1.dot e1.op.text)]:List GF)).bind λv69=>some v69)))):Option (List GF)).bind λv61=>some v61):Option (List GF)).bind λv51=>some ((GC.mk l0.typ l0.n l0.time l0.dot l0.text v51 v7),(0:Int))) else some ((GC.mk l0.typ l0.n l0.time l0.dot l0.text v6 v7),(0:Int))))))))))))))
def vk (t0:(List GA)) (e1:GH):Option ((List GA)×Int) :=
 ((treeMay t0).bind λv1=>((if ((!v1)==false)=true then opMayEvent e1 else some default).bind λv2=>(if ((!v1) || (!v2))=true then some (([]:List GA),(2:Int)) else ((opType e1.op.kind).bind λv4=>((wq t0 e1.op.path v4).bind λv5=>((leafApply v5.1 e1).bind λv6=>(if (v6.2 != (0:Int))=true then some (([]:List GA),v6.2) else ((treeXput t0 e1.op.path v6.1).bind λv8=>((treeXown v8).bind λv9=>some (v9,(0:Int)))))))))))
def qN (seq0:Int) (n1:Int):Option GH :=
 some (GH.mk (GE.mk (GI.mk (0:Int) (1:Int)) seq0) seq0 (GL.mk (1:Int) ([([97]:zx),([98]:zx)]:List zx) n1 ([]:zx) ([]:List GE)))
def qM  : Option Bool :=
 ((qN (1:Int) (5:Int)).bind λv1=>((vk ([]:List GA) v1).bind λv2=>((qN (2:Int) (3:Int)).bind λv3=>((vk v2.1 v3).bind λv4=>((qN (3:Int) (4:Int)).bind λv5=>((vk v2.1 v5).bind λv6=>((vj v2.1 v4.1 v6.1).bind λv7=>((wq v7.1 ([([97]:zx),([98]:zx)]:List zx) (1:Int)).bind λv8=>(yM (((((((((v2.2==(0:Int))&&(v4.2==(0:Int)))&&(v6.2==(0:Int)))&&(v7.2==(0:Int)))&&v8.2)&&(v8.1.n==(12:Int)))&&(((v2.1).length:Int)==(1:Int)))==true)=true->0<=(0:Int)/\(0:Int) < ((v2.1).length:Int)) (some ((((((((v2.2==(0:Int))&&(v4.2==(0:Int)))&&(v6.2==(0:Int)))&&(v7.2==(0:Int)))&&v8.2)&&(v8.1.n==(12:Int)))&&(((v2.1).length:Int)==(1:Int)))&&(((((v2.1).getD (0:Int).toNat default).subs).length:Int)==(1:Int)))))))))))))
def ref07OwnN:Nat->(t0:(List GA))->Option (List GA)
 | 0,_=>none
 | n+1,t0=>(lp (zD (λ(n1:Nat) (x1:GA) (s1:(List GA))=>(((ref07OwnN n x1.subs).bind λv35=>(lp (zD (λ(n2:Nat) (x2:GC) (s2:(List GC))=>((yM ((([]:List GF)).length+(x2.items).length<=lim) ((yM ((([]:List GE)).length+(x2.tombs).length<=lim) ((yM ((s2).length+(([(GC.mk x2.typ x2.n x2.time x2.dot x2.text (([]:List GF)++x2.items) (([]:List GE)++x2.tombs))]:List GC)).length<=lim) (some (.nxt (s2++([(GC.mk x2.typ x2.n x2.time x2.dot x2.text (([]:List GF)++x2.items) (([]:List GE)++x2.tombs))]:List GC))))))))):Option (Out _ (List GC)))) x1.leaves 0 ([]:List GC)) λ(s2:(List GC))=>(yM ((s1).length+(([(GA.mk x1.name s2 v35)]:List GA)).length<=lim) (some (.nxt (s1++([(GA.mk x1.name s2 v35)]:List GA))))))):Option (Out _ (List GA)))) t0 0 ([]:List GA)) λ(s1:(List GA))=>some s1)
def ref07Own (t0:(List GA)):Option (List GA):=anyN λn=>ref07OwnN n t0
def ref04IsName (s0:zx):Option Bool :=
 (if ((decide (((s0).length:Int) < (1:Int))) || (decide (((s0).length:Int) > (12:Int))))=true then some false else (lp (zD (λ(n1:Nat) (x1:UInt8) (s1:Unit)=>((if (!((((decide ((x1.toNat:Int) >= (97:Int)))&&(decide ((x1.toNat:Int)<=(122:Int)))) || ((decide ((x1.toNat:Int) >= (65:Int)))&&(decide ((x1.toNat:Int)<=(90:Int))))) || ((decide ((x1.toNat:Int) >= (48:Int)))&&(decide ((x1.toNat:Int)<=(57:Int))))))=true then some (.ret false) else some (.nxt ())):Option (Out _ Unit))) s0 0 ()) λ(s1:Unit)=>some true))
def qF (l0:(List GE)) (d1:GE):Option Bool :=
 (lp (zD (λ(n1:Nat) (x1:GE) (s1:Unit)=>((if (x1.actor.rep==d1.actor.rep&&(x1.actor.inc==d1.actor.inc&&(x1.seq==d1.seq&&true)))=true then some (.ret true) else some (.nxt ())):Option (Out _ Unit))) l0 0 ()) λ(s1:Unit)=>some false)
def qG (a0:GE) (b1:GE):Option Bool :=
 (if (a0.actor.rep != b1.actor.rep)=true then some (decide (a0.actor.rep < b1.actor.rep)) else (if (a0.actor.inc != b1.actor.inc)=true then some (decide (a0.actor.inc < b1.actor.inc)) else some (decide (a0.seq < b1.seq))))
def ref05Item (l0:(List GF)) (d1:GE):Option Int :=
 (lp (zD (λ(n1:Nat) (x1:GF) (s1:Unit)=>((if (x1.dot.actor.rep==d1.actor.rep&&(x1.dot.actor.inc==d1.actor.inc&&(x1.dot.seq==d1.seq&&true)))=true then some (.ret (n1:Int)) else some (.nxt ())):Option (Out _ Unit))) l0 0 ()) λ(s1:Unit)=>some (-1:Int))
def qm (a0:GI):Option Bool :=
 some (((decide (a0.rep<=(15:Int)))&&(decide (a0.inc >= (1:Int))))&&(decide (a0.inc<=(4:Int))))
def ref03May (d0:GE):Option Bool :=
 ((qm d0.actor).bind λv1=>some ((v1&&(decide (d0.seq >= (1:Int))))&&(decide (d0.seq<=(1048576:Int)))))
def vF (time0:Int) (d1:GE) (other2:Int) (o3:GE):Option Bool :=
 (if (time0 != other2)=true then some (decide (time0 < other2)) else ((qG d1 o3).bind λv2=>some v2))
def wP (l0:GC):Option Bool :=
 (if (((((decide (l0.typ < (1:Int))) || (decide (l0.typ > (4:Int)))) || ((l0.typ != (1:Int))&&(l0.n != (0:Int)))) || ((decide (l0.typ < (3:Int)))&&(decide (((l0.items).length:Int) > (0:Int))))) || ((l0.typ != (3:Int))&&(decide (((l0.tombs).length:Int) > (0:Int)))))=true then some false else (lp ((if ((l0.typ != (2:Int)) || (l0.time==(0:Int)))=true then (if (((l0.time != (0:Int)) || (!(l0.dot.actor.rep==(0:Int)&&(l0.dot.actor.inc==(0:Int)&&(l0.dot.seq==(0:Int)&&true))))) || (!(l0.text==([]:zx))))=true then some (.inl false) else some (.inr ())) else ((if ((decide (l0.time > (1099511627776:Int)))==false)=true then ref03May l0.dot else some default).bind λv11=>(if (((decide (l0.time > (1099511627776:Int))) || (!v11)) || (decide (((l0.text).length:Int) > (40:Int))))=true then some (.inl false) else some (.inr ())))):Option (_ ⊕ Unit)) λ(s1:Unit)=>(lp (zD (λ(n2:Nat) (x2:GF) (s2:Unit)=>(((ref03May x2.dot).bind λv41=>((if (((((!v41) || (decide (((x2.text).length:Int) > (40:Int)))) || ((l0.typ==(3:Int))&&(x2.time != (0:Int)))) || ((l0.typ==(4:Int))&&((decide (x2.time < (1:Int))) || (decide (x2.time > (1099511627776:Int))))))==false)=true then ref05Item l0.items x2.dot else some default).bind λv43=>((if ((((((!v41) || (decide (((x2.text).length:Int) > (40:Int)))) || ((l0.typ==(3:Int))&&(x2.time != (0:Int)))) || ((l0.typ==(4:Int))&&((decide (x2.time < (1:Int))) || (decide (x2.time > (1099511627776:Int)))))) || (v43 != (n2:Int)))==false)=true then qF l0.tombs x2.dot else some default).bind λv44=>(if ((((((!v41) || (decide (((x2.text).length:Int) > (40:Int)))) || ((l0.typ==(3:Int))&&(x2.time != (0:Int)))) || ((l0.typ==(4:Int))&&((decide (x2.time < (1:Int))) || (decide (x2.time > (1099511627776:Int)))))) || (v43 != (n2:Int))) || v44)=true then some (.ret false) else (yM (((decide ((n2:Int) > (0:Int)))==true)=true->0<=(IntKind.wrap .i64 ((n2:Int) - (1:Int)))/\(IntKind.wrap .i64 ((n2:Int) - (1:Int))) < ((l0.items).length:Int)) ((yM (((decide ((n2:Int) > (0:Int)))==true)=true->0<=(IntKind.wrap .i64 ((n2:Int) - (1:Int)))/\(IntKind.wrap .i64 ((n2:Int) - (1:Int))) < ((l0.items).length:Int)) (((if ((decide ((n2:Int) > (0:Int)))==true)=true then vF (((l0.items).getD (IntKind.wrap .i64 ((n2:Int) - (1:Int))).toNat default).time) (((l0.items).getD (IntKind.wrap .i64 ((n2:Int) - (1:Int))).toNat default).dot) x2.time x2.dot else some default).bind λv48=>(if ((decide ((n2:Int) > (0:Int)))&&(!v48))=true then some (.ret false) else some (.nxt ()))))))))))):Option (Out _ Unit))) l0.items 0 ()) λ(s2:Unit)=>(lp (zD (λ(n3:Nat) (x3:GE) (s3:Unit)=>(((ref03May x3).bind λv73=>(yM ((((!v73)==false)&&((decide ((n3:Int) > (0:Int)))==true))=true->0<=(IntKind.wrap .i64 ((n3:Int) - (1:Int)))/\(IntKind.wrap .i64 ((n3:Int) - (1:Int))) < ((l0.tombs).length:Int)) ((yM ((((!v73)==false)&&((decide ((n3:Int) > (0:Int)))==true))=true->0<=(n3:Int)/\(n3:Int) < ((l0.tombs).length:Int)) (((if (((!v73)==false)&&((decide ((n3:Int) > (0:Int)))==true))=true then qG ((l0.tombs).getD (IntKind.wrap .i64 ((n3:Int) - (1:Int))).toNat default) ((l0.tombs).getD (n3:Int).toNat default) else some default).bind λv76=>(if ((!v73) || ((decide ((n3:Int) > (0:Int)))&&(!v76)))=true then some (.ret false) else some (.nxt ())))))))):Option (Out _ Unit))) l0.tombs 0 ()) λ(s3:Unit)=>some true))))
def vD:Nat->(t0:(List GA))->(deep1:Int)->Option Bool
 | 0,_,_=>none
 | n+1,t0,deep1=>(lp (zD (λ(n1:Nat) (x1:GA) (s1:Unit)=>(((if ((decide (deep1 >= (3:Int)))==false)=true then ref04IsName x1.name else some default).bind λv31=>(yM (((((decide (deep1 >= (3:Int))) || (!v31))==false)&&((decide ((n1:Int) > (0:Int)))==true))=true->0<=(IntKind.wrap .i64 ((n1:Int) - (1:Int)))/\(IntKind.wrap .i64 ((n1:Int) - (1:Int))) < ((t0).length:Int)) (((if (((((decide (deep1 >= (3:Int))) || (!v31)) || ((decide ((n1:Int) > (0:Int)))&&(!(Op.bytesLess (((t0).getD (IntKind.wrap .i64 ((n1:Int) - (1:Int))).toNat default).name) x1.name)))) || ((((x1.leaves).length:Int)==(0:Int))&&(((x1.subs).length:Int)==(0:Int))))==false)=true then vD n x1.subs (IntKind.wrap .i64 (deep1+(1:Int))) else some default).bind λv35=>(if (((((decide (deep1 >= (3:Int))) || (!v31)) || ((decide ((n1:Int) > (0:Int)))&&(!(Op.bytesLess (((t0).getD (IntKind.wrap .i64 ((n1:Int) - (1:Int))).toNat default).name) x1.name)))) || ((((x1.leaves).length:Int)==(0:Int))&&(((x1.subs).length:Int)==(0:Int)))) || (!v35))=true then some (.ret false) else (lp (zD (λ(n2:Nat) (x2:GC) (s2:Unit)=>(((wP x2).bind λv50=>(yM ((((!v50)==false)&&((decide ((n2:Int) > (0:Int)))==true))=true->0<=(IntKind.wrap .i64 ((n2:Int) - (1:Int)))/\(IntKind.wrap .i64 ((n2:Int) - (1:Int))) < ((x1.leaves).length:Int)) ((yM ((((!v50)==false)&&((decide ((n2:Int) > (0:Int)))==true))=true->0<=(n2:Int)/\(n2:Int) < ((x1.leaves).length:Int)) ((if ((!v50) || ((decide ((n2:Int) > (0:Int)))&&(decide (((x1.leaves).getD (IntKind.wrap .i64 ((n2:Int) - (1:Int))).toNat default).typ >= ((x1.leaves).getD (n2:Int).toNat default).typ))))=true then some (.ret (.ret false)) else some (.nxt ()))))))):Option (Out _ Unit))) x1.leaves 0 ()) λ(s2:Unit)=>some (.nxt ()))))))):Option (Out _ Unit))) t0 0 ()) λ(s1:Unit)=>some true)
def ref07Xmay (t0:(List GA)) (deep1:Int):Option Bool:=anyN λn=>vD n t0 deep1
def ref07May (t0:(List GA)):Option Bool :=
 ((ref07Xmay t0 (0:Int)).bind λv1=>some v1)
def vE:Nat->(t0:(List GA))->(ahead1:(List zx))->Option (List GJ)
 | 0,_,_=>none
 | n+1,t0,ahead1=>(lp (zD (λ(n1:Nat) (x1:GA) (s1:(List GJ))=>((yM ((([]:List zx)).length+(ahead1).length<=lim) ((yM (((([]:List zx)++ahead1)).length+(([x1.name]:List zx)).length<=lim) ((lp (zD (λ(n2:Nat) (x2:GC) (s2:(List GJ))=>((yM ((s2).length+(([(GJ.mk ((([]:List zx)++ahead1)++([x1.name]:List zx)) x2)]:List GJ)).length<=lim) (some (.nxt (s2++([(GJ.mk ((([]:List zx)++ahead1)++([x1.name]:List zx)) x2)]:List GJ))))):Option (Out _ (List GJ)))) x1.leaves 0 s1) λ(s2:(List GJ))=>((vE n x1.subs ((([]:List zx)++ahead1)++([x1.name]:List zx))).bind λv44=>(yM ((s2).length+(v44).length<=lim) (some (.nxt (s2++v44)))))))))):Option (Out _ (List GJ)))) t0 0 ([]:List GJ)) λ(s1:(List GJ))=>some s1)
def ref07Rows (t0:(List GA)) (ahead1:(List zx)):Option (List GJ):=anyN λn=>vE n t0 ahead1
def ref05New (kind0:Int):Option GC :=
 (if ((decide (kind0 >= (1:Int)))&&(decide (kind0<=(4:Int))))=true then some (GC.mk kind0 (0:Int) (0:Int) (GE.mk (GI.mk (0:Int) (0:Int)) (0:Int)) ([]:zx) ([]:List GF) ([]:List GE)) else some zLf)
def ref07Xnode (t0:(List GA)) (name1:zx):Option (GA×Bool) :=
 (lp (zD (λ(n1:Nat) (x1:GA) (sL1:Unit)=>((if (x1.name==name1)=true then some (.ret (x1,true)) else some (.nxt ())):Option (Out _ Unit))) t0 0 ()) λ(sL1:Unit)=>some ((GA.mk ([]:zx) ([]:List GC) ([]:List GA)),false))
def wz (t0:(List GA)) (path1:(List zx)) (kind2:Int):Option (GC×Bool) :=
 ((ref05New kind2).bind λv1=>(lp (zD (λ(n1:Nat) (x1:zx) (s1:(List GA)×zx×(List GC)×(List GA))=>(((ref07Xnode s1.1 x1).bind λv32=>(if (!v32.2)=true then some (.ret (v1,false)) else some (.nxt (v32.1.subs,v32.1.name,v32.1.leaves,v32.1.subs)))):Option (Out _ ((List GA)×zx×(List GC)×(List GA))))) path1 0 (t0,([]:zx),([]:List GC),([]:List GA))) λ(s1:(List GA)×zx×(List GC)×(List GA))=>(lp (yI (λ(s2:Int)=>((if (((decide (s2 < ((s1.2.2.1).length:Int)))&&(decide (kind2 >= (1:Int))))&&(decide (kind2<=(4:Int))))=true then ((yB s1.2.2.1 s2).bind λy63=>(if (y63.typ==kind2)=true then ((yB s1.2.2.1 s2).bind λy65=>some (.ret (y65,true))) else some (.nxt (IntKind.wrap .i64 (s2+(1:Int)))))) else some (.brk s2)):Option (Out _ Int))) (0:Int)) λ(s2:Int)=>some (v1,false))))
def vT (l0:(List GE)) (d1:GE):Option (List GE) :=
 ((qF l0 d1).bind λv1=>(if v1=true then some l0 else (lp (yI (λ(s1:(List GE)×Int)=>((yM (((decide (s1.2 < ((l0).length:Int)))==true)=true->0<=s1.2/\s1.2 < ((l0).length:Int)) (((if ((decide (s1.2 < ((l0).length:Int)))==true)=true then qG ((l0).getD s1.2.toNat default) d1 else some default).bind λv16=>(if ((decide (s1.2 < ((l0).length:Int)))&&v16)=true then ((yB l0 s1.2).bind λy18=>(yM ((s1.1).length+(([y18]:List GE)).length<=lim) (some (.nxt ((s1.1++([y18]:List GE)),(IntKind.wrap .i64 (s1.2+(1:Int)))))))) else some (.brk (s1.1,s1.2)))))):Option (Out _ ((List GE)×Int)))) (([]:List GE),(0:Int))) λ(s1:(List GE)×Int)=>(yM ((s1.1).length+(([d1]:List GE)).length<=lim) (((slc l0 s1.2 ((l0).length:Int)).bind λm21=>(yM (((s1.1++([d1]:List GE))).length+(m21).length<=lim) (some ((s1.1++([d1]:List GE))++m21)))))))))
def ref05Lay (l0:(List GF)) (x1:GF):Option (List GF) :=
 ((ref05Item l0 x1.dot).bind λv1=>(if (decide (v1 >= (0:Int)))=true then (yM ((([]:List GF)).length+(l0).length<=lim) (some (([]:List GF)++l0))) else (lp (yI (λ(s1:(List GF)×Int)=>((yM (((decide (s1.2 < ((l0).length:Int)))==true)=true->0<=s1.2/\s1.2 < ((l0).length:Int)) ((yM (((decide (s1.2 < ((l0).length:Int)))==true)=true->0<=s1.2/\s1.2 < ((l0).length:Int)) (((if ((decide (s1.2 < ((l0).length:Int)))==true)=true then vF (((l0).getD s1.2.toNat default).time) (((l0).getD s1.2.toNat default).dot) x1.time x1.dot else some default).bind λv21=>(if ((decide (s1.2 < ((l0).length:Int)))&&v21)=true then ((yB l0 s1.2).bind λy23=>(yM ((s1.1).length+(([y23]:List GF)).length<=lim) (some (.nxt ((s1.1++([y23]:List GF)),(IntKind.wrap .i64 (s1.2+(1:Int)))))))) else some (.brk (s1.1,s1.2)))))))):Option (Out _ ((List GF)×Int)))) (([]:List GF),(0:Int))) λ(s1:(List GF)×Int)=>(yM ((s1.1).length+(([x1]:List GF)).length<=lim) (((slc l0 s1.2 ((l0).length:Int)).bind λm26=>(yM (((s1.1++([x1]:List GF))).length+(m26).length<=lim) (some ((s1.1++([x1]:List GF))++m26)))))))))
def ref05Left (l0:(List GF)) (tombs1:(List GE)):Option (List GF) :=
 (lp (zD (λ(n1:Nat) (x1:GF) (s1:(List GF))=>(((qF tombs1 x1.dot).bind λv12=>(if (!v12)=true then (yM ((s1).length+(([x1]:List GF)).length<=lim) (some (.nxt (s1++([x1]:List GF))))) else some (.nxt s1))):Option (Out _ (List GF)))) l0 0 ([]:List GF)) λ(s1:(List GF))=>some s1)
def qy (l0:GC) (a1:GC) (b2:GC):Option (GC×Int) :=
 ((wP l0).bind λv1=>((if ((!v1)==false)=true then wP a1 else some default).bind λv2=>((if (((!v1) || (!v2))==false)=true then wP b2 else some default).bind λv3=>(if (((!v1) || (!v2)) || (!v3))=true then some (zLf,(2:Int)) else (if ((l0.typ != a1.typ) || (a1.typ != b2.typ))=true then some (zLf,(15:Int)) else (if (l0.typ==(1:Int))=true then some ((GC.mk l0.typ (IntKind.wrap .i64 ((IntKind.wrap .i64 (a1.n - l0.n))+b2.n)) (0:Int) (GE.mk (GI.mk (0:Int) (0:Int)) (0:Int)) ([]:zx) ([]:List GF) ([]:List GE)),(0:Int)) else (if (l0.typ==(2:Int))=true then ((if (((b2.time==(0:Int))==false)&&((a1.time != (0:Int))==true))=true then vF b2.time b2.dot a1.time a1.dot else some default).bind λv8=>(if ((b2.time==(0:Int)) || ((a1.time != (0:Int))&&v8))=true then (if (a1.time==(0:Int))=true then some ((GC.mk l0.typ (0:Int) b2.time b2.dot b2.text ([]:List GF) ([]:List GE)),(0:Int)) else some ((GC.mk l0.typ (0:Int) a1.time a1.dot a1.text ([]:List GF) ([]:List GE)),(0:Int))) else (if (a1.time==(0:Int))=true then some ((GC.mk l0.typ (0:Int) b2.time b2.dot b2.text ([]:List GF) ([]:List GE)),(0:Int)) else some ((GC.mk l0.typ (0:Int) b2.time b2.dot b2.text ([]:List GF) ([]:List GE)),(0:Int))))) else (lp (zD (λ(n1:Nat) (x1:GE) (s1:(List GE))=>(((vT s1 x1).bind λv64=>some (.nxt v64)):Option (Out _ (List GE)))) a1.tombs 0 ([]:List GE)) λ(s1:(List GE))=>(lp (zD (λ(n2:Nat) (x2:GE) (s2:(List GE))=>(((vT s2 x2).bind λv117=>some (.nxt v117)):Option (Out _ (List GE)))) b2.tombs 0 s1) λ(s2:(List GE))=>(yM ((([]:List GF)).length+(a1.items).length<=lim) ((lp (zD (λ(n3:Nat) (x3:GF) (s3:(List GF))=>(((ref05Lay s3 x3).bind λv172=>some (.nxt v172)):Option (Out _ (List GF)))) b2.items 0 (([]:List GF)++a1.items)) λ(s3:(List GF))=>((ref05Left s3 s2).bind λv173=>some ((GC.mk l0.typ (0:Int) (0:Int) (GE.mk (GI.mk (0:Int) (0:Int)) (0:Int)) ([]:zx) v173 s2),(0:Int)))))))))))))))
def wA:Nat->(t0:(List GA))->(path1:(List zx))->(l2:GC)->Option (List GA)
 | 0,_,_,_=>none
 | n+1,t0,path1,l2=>(lp (yI (λ(s1:(List GA)×Int)=>((yM (((decide (s1.2 < ((t0).length:Int)))==true)=true->0<=s1.2/\s1.2 < ((t0).length:Int)) ((yM (((decide (s1.2 < ((t0).length:Int)))==true)=true->0<=(0:Int)/\(0:Int) < ((path1).length:Int)) ((if ((decide (s1.2 < ((t0).length:Int)))&&(Op.bytesLess (((t0).getD s1.2.toNat default).name) ((path1).getD (0:Int).toNat default)))=true then ((yB t0 s1.2).bind λy22=>(yM ((s1.1).length+(([y22]:List GA)).length<=lim) (some (.nxt ((s1.1++([y22]:List GA)),(IntKind.wrap .i64 (s1.2+(1:Int)))))))) else some (.brk (s1.1,s1.2))))))):Option (Out _ ((List GA)×Int)))) (([]:List GA),(0:Int))) λ(s1:(List GA)×Int)=>((yB path1 (0:Int)).bind λy24=>(lp ((yM (((decide (s1.2 < ((t0).length:Int)))==true)=true->0<=s1.2/\s1.2 < ((t0).length:Int)) ((yM (((decide (s1.2 < ((t0).length:Int)))==true)=true->0<=(0:Int)/\(0:Int) < ((path1).length:Int)) ((if ((decide (s1.2 < ((t0).length:Int)))&&(((t0).getD s1.2.toNat default).name==((path1).getD (0:Int).toNat default)))=true then ((yB t0 s1.2).bind λy34=>some (.inr ((IntKind.wrap .i64 (s1.2+(1:Int))),y34.name,y34.leaves,y34.subs))) else some (.inr (s1.2,y24,([]:List GC),([]:List GA)))))))):Option (_ ⊕ (Int×zx×(List GC)×(List GA)))) λ(s2:Int×zx×(List GC)×(List GA))=>(if (decide (((path1).length:Int) > (1:Int)))=true then ((slc path1 (1:Int) ((path1).length:Int)).bind λm37=>((wA n s2.2.2.2 m37 l2).bind λv38=>(yM ((s1.1).length+(([(GA.mk s2.2.1 s2.2.2.1 v38)]:List GA)).length<=lim) (((slc t0 s2.1 ((t0).length:Int)).bind λm40=>(yM (((s1.1++([(GA.mk s2.2.1 s2.2.2.1 v38)]:List GA))).length+(m40).length<=lim) (some ((s1.1++([(GA.mk s2.2.1 s2.2.2.1 v38)]:List GA))++m40)))))))) else (lp (yI (λ(s3:(List GC)×Int)=>((yM (((decide (s3.2 < ((s2.2.2.1).length:Int)))==true)=true->0<=s3.2/\s3.2 < ((s2.2.2.1).length:Int)) ((if ((decide (s3.2 < ((s2.2.2.1).length:Int)))&&(decide (((s2.2.2.1).getD s3.2.toNat default).typ < l2.typ)))=true then ((yB s2.2.2.1 s3.2).bind λy64=>(yM ((s3.1).length+(([y64]:List GC)).length<=lim) (some (.nxt ((s3.1++([y64]:List GC)),(IntKind.wrap .i64 (s3.2+(1:Int)))))))) else some (.brk (s3.1,s3.2))))):Option (Out _ ((List GC)×Int)))) (([]:List GC),(0:Int))) λ(s3:(List GC)×Int)=>(yM (((decide (s3.2 < ((s2.2.2.1).length:Int)))==true)=true->0<=s3.2/\s3.2 < ((s2.2.2.1).length:Int)) ((if ((decide (s3.2 < ((s2.2.2.1).length:Int)))&&(((s2.2.2.1).getD s3.2.toNat default).typ==l2.typ))=true then (yM ((s3.1).length+(([l2]:List GC)).length<=lim) (((slc s2.2.2.1 (IntKind.wrap .i64 (s3.2+(1:Int))) ((s2.2.2.1).length:Int)).bind λm70=>(yM (((s3.1++([l2]:List GC))).length+(m70).length<=lim) ((yM ((s1.1).length+(([(GA.mk s2.2.1 ((s3.1++([l2]:List GC))++m70) s2.2.2.2)]:List GA)).length<=lim) (((slc t0 s2.1 ((t0).length:Int)).bind λm73=>(yM (((s1.1++([(GA.mk s2.2.1 ((s3.1++([l2]:List GC))++m70) s2.2.2.2)]:List GA))).length+(m73).length<=lim) (some ((s1.1++([(GA.mk s2.2.1 ((s3.1++([l2]:List GC))++m70) s2.2.2.2)]:List GA))++m73))))))))))) else (yM ((s3.1).length+(([l2]:List GC)).length<=lim) (((slc s2.2.2.1 s3.2 ((s2.2.2.1).length:Int)).bind λm76=>(yM (((s3.1++([l2]:List GC))).length+(m76).length<=lim) ((yM ((s1.1).length+(([(GA.mk s2.2.1 ((s3.1++([l2]:List GC))++m76) s2.2.2.2)]:List GA)).length<=lim) (((slc t0 s2.1 ((t0).length:Int)).bind λm79=>(yM (((s1.1++([(GA.mk s2.2.1 ((s3.1++([l2]:List GC))++m76) s2.2.2.2)]:List GA))).length+(m79).length<=lim) (some ((s1.1++([(GA.mk s2.2.1 ((s3.1++([l2]:List GC))++m76) s2.2.2.2)]:List GA))++m79)))))))))))))))))))
def ref07Lay (t0:(List GA)) (path1:(List zx)) (l2:GC):Option (List GA):=anyN λn=>wA n t0 path1 l2
def ref07Merge (l0:(List GA)) (a1:(List GA)) (b2:(List GA)):Option ((List GA)×Int) :=
 ((ref07May l0).bind λv1=>((if ((!v1)==false)=true then ref07May a1 else some default).bind λv2=>((if (((!v1) || (!v2))==false)=true then ref07May b2 else some default).bind λv3=>(if (((!v1) || (!v2)) || (!v3))=true then some (([]:List GA),(2:Int)) else ((ref07Rows l0 ([]:List zx)).bind λv5=>((ref07Rows a1 ([]:List zx)).bind λv6=>(yM ((v5).length+(v6).length<=lim) (((ref07Rows b2 ([]:List zx)).bind λv8=>(yM (((v5++v6)).length+(v8).length<=lim) ((lp (zD (λ(n1:Nat) (x1:GJ) (s1:(List GA))=>(((wz l0 x1.path x1.l.typ).bind λv23=>((wz a1 x1.path x1.l.typ).bind λv24=>((wz b2 x1.path x1.l.typ).bind λv25=>((qy v23.1 v24.1 v25.1).bind λv26=>((ref07Lay s1 x1.path v26.1).bind λv27=>some (.nxt v27)))))):Option (Out _ (List GA)))) ((v5++v6)++v8) 0 ([]:List GA)) λ(s1:(List GA))=>some (s1,(0:Int))))))))))))))
def fusePurge (l0:GC):Option (GC×Int) :=
 ((vu l0).bind λv1=>(if (!v1)=true then some (zLf,(2:Int)) else ((yC l0.items).bind λv3=>some ((GC.mk l0.typ l0.n l0.time l0.dot l0.text v3 ([]:List GE)),(0:Int)))))
def wX (l0:GC):Option GC :=
 ((fusePurge l0).bind λv1=>some v1.1)
def treePurge (t0:(List GA)):Option ((List GA)×Int) :=
 ((treeMay t0).bind λv1=>(if (!v1)=true then some (([]:List GA),(2:Int)) else ((vQ t0 (λx0=>wX x0)).bind λv3=>some (v3,(0:Int)))))
def ref06Purge (l0:GC):Option (GC×Int) :=
 ((wP l0).bind λv1=>(if (!v1)=true then some (zLf,(2:Int)) else (yM ((([]:List GF)).length+(l0.items).length<=lim) (some ((GC.mk l0.typ l0.n l0.time l0.dot l0.text (([]:List GF)++l0.items) ([]:List GE)),(0:Int))))))
def ref07Purge (t0:(List GA)):Option ((List GA)×Int) :=
 ((ref07May t0).bind λv1=>(if (!v1)=true then some (([]:List GA),(2:Int)) else ((ref07Rows t0 ([]:List zx)).bind λv3=>(lp (zD (λ(n1:Nat) (x1:GJ) (s1:(List GA))=>(((ref06Purge x1.l).bind λv14=>((ref07Lay s1 x1.path v14.1).bind λv15=>some (.nxt v15))):Option (Out _ (List GA)))) v3 0 ([]:List GA)) λ(s1:(List GA))=>some (s1,(0:Int))))))
def ref05Same (a0:GC) (b1:GC):Option Bool :=
 (if (((((((a0.typ != b1.typ) || (a0.n != b1.n)) || (a0.time != b1.time)) || (!(a0.dot.actor.rep==b1.dot.actor.rep&&(a0.dot.actor.inc==b1.dot.actor.inc&&(a0.dot.seq==b1.dot.seq&&true))))) || (!(a0.text==b1.text))) || (((a0.items).length:Int) != ((b1.items).length:Int))) || (((a0.tombs).length:Int) != ((b1.tombs).length:Int)))=true then some false else (lp (zD (λ(n1:Nat) (x1:GF) (s1:Unit)=>(((yB b1.items (n1:Int)).bind λy32=>(if (!(x1.time==y32.time&&(x1.dot.actor.rep==y32.dot.actor.rep&&(x1.dot.actor.inc==y32.dot.actor.inc&&(x1.dot.seq==y32.dot.seq&&(x1.text==y32.text&&true))))))=true then some (.ret false) else some (.nxt ()))):Option (Out _ Unit))) a0.items 0 ()) λ(s1:Unit)=>(lp (zD (λ(n2:Nat) (x2:GE) (s2:Unit)=>(((yB b1.tombs (n2:Int)).bind λy60=>(if (!(x2.actor.rep==y60.actor.rep&&(x2.actor.inc==y60.actor.inc&&(x2.seq==y60.seq&&true))))=true then some (.ret false) else some (.nxt ()))):Option (Out _ Unit))) a0.tombs 0 ()) λ(s2:Unit)=>some true)))
def qw:Nat->(a0:(List GA))->(b1:(List GA))->Option Bool
 | 0,_,_=>none
 | n+1,a0,b1=>(if (((a0).length:Int) != ((b1).length:Int))=true then some false else (lp (zD (λ(n1:Nat) (x1:GA) (s1:Unit)=>(((yB b1 (n1:Int)).bind λy41=>(yM (((!(x1.name==y41.name))==false)=true->0<=(n1:Int)/\(n1:Int) < ((a0).length:Int)) ((yM (((!(x1.name==y41.name))==false)=true->0<=(n1:Int)/\(n1:Int) < ((b1).length:Int)) ((yM ((((!(x1.name==y41.name)) || (((((a0).getD (n1:Int).toNat default).leaves).length:Int) != ((((b1).getD (n1:Int).toNat default).leaves).length:Int)))==false)=true->0<=(n1:Int)/\(n1:Int) < ((a0).length:Int)) ((yM ((((!(x1.name==y41.name)) || (((((a0).getD (n1:Int).toNat default).leaves).length:Int) != ((((b1).getD (n1:Int).toNat default).leaves).length:Int)))==false)=true->0<=(n1:Int)/\(n1:Int) < ((b1).length:Int)) (((if (((!(x1.name==y41.name)) || (((((a0).getD (n1:Int).toNat default).leaves).length:Int) != ((((b1).getD (n1:Int).toNat default).leaves).length:Int)))==false)=true then qw n (((a0).getD (n1:Int).toNat default).subs) (((b1).getD (n1:Int).toNat default).subs) else some default).bind λv48=>(if (((!(x1.name==y41.name)) || (((((a0).getD (n1:Int).toNat default).leaves).length:Int) != ((((b1).getD (n1:Int).toNat default).leaves).length:Int))) || (!v48))=true then some (.ret false) else (lp (zD (λ(n2:Nat) (x2:GC) (s2:Unit)=>(((yB b1 (n1:Int)).bind λy60=>((yB y60.leaves (n2:Int)).bind λy61=>((ref05Same x2 y61).bind λv62=>(if (!v62)=true then some (.ret (.ret false)) else some (.nxt ()))))):Option (Out _ Unit))) x1.leaves 0 ()) λ(s2:Unit)=>some (.nxt ()))))))))))))):Option (Out _ Unit))) a0 0 ()) λ(s1:Unit)=>some true))
def qE (a0:(List GA)) (b1:(List GA)):Option Bool:=anyN λn=>qw n a0 b1
def w4:Nat->(t0:(List GA))->Option Unit
 | 0,_=>none
 | n+1,t0=>(lp (zD (λ(n1:Nat) (x1:GA) (s1:Unit)=>((lp (zD (λ(n2:Nat) (x2:GC) (s2:Unit)=>((lp (zD (λ(n3:Nat) (x3:GF) (s3:Unit)=>(some (.nxt ()):Option (Out _ Unit))) x2.items 0 ()) λ(s3:Unit)=>(lp (zD (λ(n4:Nat) (x4:GE) (s4:Unit)=>(some (.nxt ()):Option (Out _ Unit))) x2.tombs 0 ()) λ(s4:Unit)=>some (.nxt ()))):Option (Out _ Unit))) x1.leaves 0 ()) λ(s2:Unit)=>((w4 n x1.subs).bind λv86=>some (.nxt ()))):Option (Out _ Unit))) t0 0 ()) λ(s1:Unit)=>some ())
def law07Xspoil (t0:(List GA)):Option Unit:=anyN λn=>w4 n t0
def vf (l0:(List GA)) (a1:(List GA)) (b2:(List GA)):Option Bool :=
 ((qx l0).bind λv1=>((if (v1==false)=true then qx a1 else some default).bind λv2=>((if ((v1 || v2)==false)=true then qx b2 else some default).bind λv3=>(if ((v1 || v2) || v3)=true then ((qM).bind λv5=>some v5) else ((ref07Own l0).bind λv6=>((ref07Own a1).bind λv7=>((ref07Own b2).bind λv8=>((vj v6 v7 v8).bind λv9=>((ref07Merge l0 a1 b2).bind λv10=>((treePurge v7).bind λv11=>((ref07Purge a1).bind λv12=>((if (((v9.2 != v10.2) || (v11.2 != v12.2))==false)=true then qE v9.1 v10.1 else some default).bind λv13=>((if ((((v9.2 != v10.2) || (v11.2 != v12.2)) || (!v13))==false)=true then qE v11.1 v12.1 else some default).bind λv14=>(if ((((v9.2 != v10.2) || (v11.2 != v12.2)) || (!v13)) || (!v14))=true then some false else ((law07Xspoil v9.1).bind λv16=>((law07Xspoil v11.1).bind λv17=>((qE v6 l0).bind λv18=>((if (v18==true)=true then qE v7 a1 else some default).bind λv19=>((if ((v18&&v19)==true)=true then qE v8 b2 else some default).bind λv20=>((if (((v18&&v19)&&v20)==true)=true then qM else some default).bind λv21=>some (((v18&&v19)&&v20)&&v21)))))))))))))))))))))
end
end Go.Vv
