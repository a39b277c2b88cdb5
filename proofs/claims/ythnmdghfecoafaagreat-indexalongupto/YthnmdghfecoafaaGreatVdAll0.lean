/- What the functions compute, as plain functions; printed by a program from the code. -/
import Derived.Test.YthnmdghfecoafaaGreatVvT
import Derived.Test.YthnmdghfecoafaaGreatVvMr
import Derived.Test.YthnmdghfecoafaaGreatVvIt
import Derived.Test.YthnmdghfecoafaaGreatVvRo
import Derived.Test.YthnmdghfecoafaaGreatVvSo
import Derived.Test.YthnmdghfecoafaaGreatVvSs
set_option linter.all false
namespace Go.Vv
noncomputable section
open Go
structure GK where
 rep:Int
 inc:Int
 deriving DecidableEq,Inhabited
def GK.eqb (a b:GK):Bool:=(a.rep==b.rep&&(a.inc==b.inc&&true))
structure GF where
 actor:GK
 seq:Int
 deriving DecidableEq,Inhabited
def GF.eqb (a b:GF):Bool:=(a.actor.rep==b.actor.rep&&(a.actor.inc==b.actor.inc&&(a.seq==b.seq&&true)))
structure GI where
 time:Int
 dot:GF
 text:zi
 deriving DecidableEq,Inhabited
def GI.eqb (a b:GI):Bool:=(a.time==b.time&&(a.dot.actor.rep==b.dot.actor.rep&&(a.dot.actor.inc==b.dot.actor.inc&&(a.dot.seq==b.dot.seq&&(a.text==b.text&&true)))))
structure GE where
 typ:Int
 n:Int
 time:Int
 dot:GF
 text:zi
 items:(List GI)
 tombs:(List GF)
 deriving DecidableEq,Inhabited
structure GA where
 name:zi
 leaves:(List GE)
 subs:(List GA)
 deriving Inhabited
structure GJ where
 path:(List zi)
 leaf:GE
 deriving DecidableEq,Inhabited
structure GC where
 path:(List zi)
 typ:Int
 deriving DecidableEq,Inhabited
structure GH where
 path:(List zi)
 typ:Int
 had:Bool
 has:Bool
 was:GE
 is:GE
 deriving DecidableEq,Inhabited
def GK.wf (x:GK):Prop:=(InK .u8 x.rep)/\(InK .u32 x.inc)
def GF.wf (x:GF):Prop:=(GK.wf x.actor)/\(InK .u64 x.seq)
def GI.wf (x:GI):Prop:=(InK .u64 x.time)/\(GF.wf x.dot)/\(x.text.length<=maxLen)
def GE.wf (x:GE):Prop:=(InK .u8 x.typ)/\(InK .i64 x.n)/\(InK .u64 x.time)/\(GF.wf x.dot)/\(x.text.length<=maxLen)/\(x.items.length<=maxLen/\∀y ∈ x.items,GI.wf y)/\(x.tombs.length<=maxLen/\∀y ∈ x.tombs,GF.wf y)
mutual
def GA.wf:GA->Prop
 | ⟨name,leaves,subs⟩=>(name.length<=maxLen)/\(leaves.length<=maxLen/\∀y ∈ leaves,GE.wf y)/\(GA.wfs subs)
def GA.wfs:List GA->Prop
 | []=>True
 | x::r=>x.wf/\GA.wfs r
end
theorem GA.wfs_iff (l:List GA):GA.wfs l ↔ ∀y ∈ l,GA.wf y:=by
 induction l with
 | nil=>simp [GA.wfs]
 | cons x r ih=>simp [GA.wfs,ih]
def GJ.wf (x:GJ):Prop:=(x.path.length<=maxLen/\∀y ∈ x.path,y.length<=maxLen)/\(GE.wf x.leaf)
def GC.wf (x:GC):Prop:=(x.path.length<=maxLen/\∀y ∈ x.path,y.length<=maxLen)/\(InK .u8 x.typ)
def GH.wf (x:GH):Prop:=(x.path.length<=maxLen/\∀y ∈ x.path,y.length<=maxLen)/\(InK .u8 x.typ)/\(True)/\(True)/\(GE.wf x.was)/\(GE.wf x.is)
def GK.bk (x:GK):Nat:=(1+(1+0))+1
def GF.bk (x:GF):Nat:=(GK.bk x.actor+(1+0))+1
def GI.bk (x:GI):Nat:=(1+(GF.bk x.dot+((x.text.length+1)+0)))+1
def GE.bk (x:GE):Nat:=(1+(1+(1+(GF.bk x.dot+((x.text.length+1)+(((x.items.map GI.bk).sum+1)+(((x.tombs.map GF.bk).sum+1)+0)))))))+1
mutual
def GA.bk:GA->Nat
 | ⟨name,leaves,subs⟩=>((name.length+1)+(((leaves.map GE.bk).sum+1)+(((GA.bks subs)+1)+0)))+1
def GA.bks:List GA->Nat
 | []=>0
 | x::r=>x.bk+GA.bks r
end
theorem GA.bks_eq (l:List GA):GA.bks l=(l.map GA.bk).sum:=by
 induction l with
 | nil=>rfl
 | cons x r ih=>simp only [GA.bks,uw,sD,ih]
def GJ.bk (x:GJ):Nat:=(((x.path.map (λs=>s.length+1)).sum+1)+(GE.bk x.leaf+0))+1
def GC.bk (x:GC):Nat:=(((x.path.map (λs=>s.length+1)).sum+1)+(1+0))+1
def GH.bk (x:GH):Nat:=(((x.path.map (λs=>s.length+1)).sum+1)+(1+(1+(1+(GE.bk x.was+(GE.bk x.is+0))))))+1
abbrev yv:GE:=GE.mk (0:Int) (0:Int) (0:Int) (GF.mk (GK.mk (0:Int) (0:Int)) (0:Int)) ([]:zi) ([]:List GI) ([]:List GF)
def xy:Nat->(t0:(List GA))->(deep1:Int)->Option Int
 | 0,_,_=>none
 | n+1,t0,deep1=>(lp (vP (λ(s1:Int×Int)=>((if ((decide (s1.2 < ((t0).length:Int)))&&(decide (deep1 < (10:Int))))=true then ((qO t0 s1.2).bind λy68=>((qO t0 s1.2).bind λy70=>((xy n y70.subs (IntKind.wrap .i64 (deep1+(1:Int)))).bind λv71=>(lp (vP (λ(s2:Int×Int)=>(((qO t0 s1.2).bind λy102=>(if (decide (s2.2 < ((y102.leaves).length:Int)))=true then ((qO t0 s1.2).bind λy105=>((qO y105.leaves s2.2).bind λy106=>(lp (zx (λ(n3:Nat) (x3:GI) (s3:Int)=>(some (.nxt (IntKind.wrap .i64 ((IntKind.wrap .i64 (s3+(1:Int)))+((x3.text).length:Int)))):Option (Out _ Int))) y106.items 0 (IntKind.wrap .i64 ((IntKind.wrap .i64 ((IntKind.wrap .i64 (s2.1+(1:Int)))+((y106.text).length:Int)))+((y106.tombs).length:Int)))) λ(s3:Int)=>some (.nxt (s3,(IntKind.wrap .i64 (s2.2+(1:Int)))))))) else some (.brk (s2.1,s2.2)))):Option (Out _ (Int×Int)))) ((IntKind.wrap .i64 ((IntKind.wrap .i64 ((IntKind.wrap .i64 (s1.1+(1:Int)))+((y68.name).length:Int)))+v71)),(0:Int))) λ(s2:Int×Int)=>some (.nxt (s2.1,(IntKind.wrap .i64 (s1.2+(1:Int))))))))) else some (.brk (s1.1,s1.2))):Option (Out _ (Int×Int)))) ((0:Int),(0:Int))) λ(s1:Int×Int)=>some s1.1)
def ref07Xsize (t0:(List GA)) (deep1:Int):Option Int:=anyN λn=>xy n t0 deep1
def wJ (t0:(List GA)):Option Bool :=
 ((ref07Xsize t0 (0:Int)).bind λv1=>some (decide (v1 > (1500:Int))))
def opIsNameC1 (r0:Int):Option Bool :=
 some ((((decide (r0 < (97:Int))) || (decide (r0 > (122:Int))))&&((decide (r0 < (65:Int))) || (decide (r0 > (90:Int)))))&&((decide (r0 < (48:Int))) || (decide (r0 > (57:Int)))))
def ve (s0:zi) (f1:(Int->Option Bool)) (truth2:Bool):Option Int :=
 (lp (vP (λ(s1:Nat)=>((if s1 < (s0).length then ((f1 ((dec s0 s1).1:Int)).bind λv6=>(if (v6==truth2)=true then some (.ret (s1:Int)) else some (.nxt (s1+(dec s0 s1).2)))) else some (.brk s1)):Option (Out _ Nat))) 0) λ(s1:Nat)=>some (-1:Int))
def vC (s0:zi) (f1:(Int->Option Bool)):Option Int :=
 ((ve s0 f1 true).bind λv1=>some v1)
def xJ (s0:zi) (f1:(Int->Option Bool)):Option Bool :=
 ((vC s0 f1).bind λv1=>some (decide (v1 >= (0:Int))))
def opIsName (s0:zi):Option Bool :=
 ((if (((decide (((s0).length:Int) >= (1:Int)))&&(decide (((s0).length:Int)<=(12:Int))))==true)=true then xJ s0 (λx0=>opIsNameC1 x0) else some default).bind λv3=>some (((decide (((s0).length:Int) >= (1:Int)))&&(decide (((s0).length:Int)<=(12:Int))))&&(!v3)))
def wW (s10:(List GI)) (s21:(List GI)):Option Bool :=
 (if (((s10).length:Int) != ((s21).length:Int))=true then some false else (lp (zx (λ(n1:Nat) (x1:GI) (s1:Unit)=>(((qO s21 (n1:Int)).bind λy10=>(if (!(x1.time==y10.time&&(x1.dot.actor.rep==y10.dot.actor.rep&&(x1.dot.actor.inc==y10.dot.actor.inc&&(x1.dot.seq==y10.dot.seq&&(x1.text==y10.text&&true))))))=true then some (.ret false) else some (.nxt ()))):Option (Out _ Unit))) s10 0 ()) λ(s1:Unit)=>some true))
def vm (s10:(List GF)) (s21:(List GF)):Option Bool :=
 (if (((s10).length:Int) != ((s21).length:Int))=true then some false else (lp (zx (λ(n1:Nat) (x1:GF) (s1:Unit)=>(((qO s21 (n1:Int)).bind λy10=>(if (!(x1.actor.rep==y10.actor.rep&&(x1.actor.inc==y10.actor.inc&&(x1.seq==y10.seq&&true))))=true then some (.ret false) else some (.nxt ()))):Option (Out _ Unit))) s10 0 ()) λ(s1:Unit)=>some true))
def xZ (a0:GE) (b1:GE):Option Bool :=
 ((if ((((((a0.typ==b1.typ)&&(a0.n==b1.n))&&(a0.time==b1.time))&&(a0.dot.actor.rep==b1.dot.actor.rep&&(a0.dot.actor.inc==b1.dot.actor.inc&&(a0.dot.seq==b1.dot.seq&&true))))&&(a0.text==b1.text))==true)=true then wW a0.items b1.items else some default).bind λv1=>((if (((((((a0.typ==b1.typ)&&(a0.n==b1.n))&&(a0.time==b1.time))&&(a0.dot.actor.rep==b1.dot.actor.rep&&(a0.dot.actor.inc==b1.dot.actor.inc&&(a0.dot.seq==b1.dot.seq&&true))))&&(a0.text==b1.text))&&v1)==true)=true then vm a0.tombs b1.tombs else some default).bind λv2=>some (((((((a0.typ==b1.typ)&&(a0.n==b1.n))&&(a0.time==b1.time))&&(a0.dot.actor.rep==b1.dot.actor.rep&&(a0.dot.actor.inc==b1.dot.actor.inc&&(a0.dot.seq==b1.dot.seq&&true))))&&(a0.text==b1.text))&&v1)&&v2)))
def leafXisTime (n0:Int):Option Bool :=
 some ((decide (n0 >= (1:Int)))&&(decide (n0<=(1099511627776:Int))))
def dotMayActor (a0:GK):Option Bool :=
 some (((decide (a0.rep < (16:Int)))&&(decide (a0.inc >= (1:Int))))&&(decide (a0.inc<=(4:Int))))
def dotMay (d0:GF):Option Bool :=
 ((dotMayActor d0.actor).bind λv1=>some ((v1&&(decide (d0.seq >= (1:Int))))&&(decide (d0.seq<=(1048576:Int)))))
def qq (s0:zi):Option Bool :=
 some (decide (((s0).length:Int)<=(40:Int)))
def qN (vals0:(List Int)):Option Int :=
 (lp (zx (λ(n1:Nat) (x1:Int) (s1:Unit)=>((if (x1 != (0:Int))=true then some (.ret x1) else some (.nxt ())):Option (Out _ Unit))) vals0 0 ()) λ(s1:Unit)=>some (0:Int))
def vz (x0:Int):Option Bool :=
 some (x0 != x0)
def xi (x0:Int) (y1:Int):Option Int :=
 ((vz x0).bind λv1=>((vz y1).bind λv2=>(if v1=true then (if v2=true then some (0:Int) else some (-1:Int)) else (if v2=true then some (1:Int) else (if (decide (x0 < y1))=true then some (-1:Int) else (if (decide (x0 > y1))=true then some (1:Int) else some (0:Int)))))))
def w8 (x0:Int):Option Bool :=
 some (x0 != x0)
def wE (x0:Int) (y1:Int):Option Int :=
 ((w8 x0).bind λv1=>((w8 y1).bind λv2=>(if v1=true then (if v2=true then some (0:Int) else some (-1:Int)) else (if v2=true then some (1:Int) else (if (decide (x0 < y1))=true then some (-1:Int) else (if (decide (x0 > y1))=true then some (1:Int) else some (0:Int)))))))
def dotXcompare (a0:GK) (b1:GK):Option Int :=
 ((xi a0.rep b1.rep).bind λv1=>((wE a0.inc b1.inc).bind λv2=>((qN ([v1,v2]:List Int)).bind λv3=>some v3)))
def w7 (x0:Int):Option Bool :=
 some (x0 != x0)
def xV (x0:Int) (y1:Int):Option Int :=
 ((w7 x0).bind λv1=>((w7 y1).bind λv2=>(if v1=true then (if v2=true then some (0:Int) else some (-1:Int)) else (if v2=true then some (1:Int) else (if (decide (x0 < y1))=true then some (-1:Int) else (if (decide (x0 > y1))=true then some (1:Int) else some (0:Int)))))))
def dotCompare (a0:GF) (b1:GF):Option Int :=
 ((dotXcompare a0.actor b1.actor).bind λv1=>((xV a0.seq b1.seq).bind λv2=>((qN ([v1,v2]:List Int)).bind λv3=>some v3)))
def leafXcompare (a0:Int) (d1:GF) (b2:Int) (o3:GF):Option Int :=
 ((xV a0 b2).bind λv1=>((dotCompare d1 o3).bind λv2=>((qN ([v1,v2]:List Int)).bind λv3=>some v3)))
def leafAhead (time0:Int) (d1:GF) (other2:Int) (o3:GF):Option Bool :=
 ((leafXcompare time0 d1 other2 o3).bind λv1=>some (decide (v1 < (0:Int))))
def leafXtwice (l0:(List GI)):Option Bool :=
 (lp (zx (λ(n1:Nat) (x1:GI) (s1:List (GF×Int))=>(some (.nxt (mput GF.eqb s1 x1.dot (IntKind.wrap .i64 ((zz GF.eqb (0:Int) s1 x1.dot)+(1:Int))))):Option (Out _ (List (GF×Int))))) l0 0 ([]:List (GF×Int))) λ(s1:List (GF×Int))=>some (decide (((s1).length:Int) < ((l0).length:Int))))
def leafXitems (l0:(List GI)) (timed1:Bool):Option Bool :=
 (lp (zx (λ(n1:Nat) (x1:GI) (s1:Unit)=>(((dotMay x1.dot).bind λv13=>((if ((!v13)==false)=true then qq x1.text else some default).bind λv14=>((if (((!v13) || (!v14))==false)=true then leafXisTime x1.time else some default).bind λv15=>(if ((((!v13) || (!v14)) || (!(timed1==v15))) || ((!timed1)&&(x1.time != (0:Int))))=true then some (.ret false) else (x6 (((decide ((n1:Int) > (0:Int)))==true)=true->0<=(IntKind.wrap .i64 ((n1:Int) - (1:Int)))/\(IntKind.wrap .i64 ((n1:Int) - (1:Int))) < ((l0).length:Int)) ((x6 (((decide ((n1:Int) > (0:Int)))==true)=true->0<=(IntKind.wrap .i64 ((n1:Int) - (1:Int)))/\(IntKind.wrap .i64 ((n1:Int) - (1:Int))) < ((l0).length:Int)) (((if ((decide ((n1:Int) > (0:Int)))==true)=true then leafAhead (((l0).getD (IntKind.wrap .i64 ((n1:Int) - (1:Int))).toNat default).time) (((l0).getD (IntKind.wrap .i64 ((n1:Int) - (1:Int))).toNat default).dot) x1.time x1.dot else some default).bind λv19=>(if ((decide ((n1:Int) > (0:Int)))&&(!v19))=true then some (.ret false) else some (.nxt ()))))))))))):Option (Out _ Unit))) l0 0 ()) λ(s1:Unit)=>((leafXtwice l0).bind λv21=>some (!v21)))
def leafXhasC1 (x0:GI) (c0:GF):Option Bool :=
 some (x0.dot.actor.rep==c0.actor.rep&&(x0.dot.actor.inc==c0.actor.inc&&(x0.dot.seq==c0.seq&&true)))
def wx (s0:(List GI)) (f1:(GI->Option Bool)):Option Int :=
 (lp (zx (λ(n1:Nat) (x1:GI) (s1:Unit)=>(((f1 x1).bind λv7=>(if v7=true then some (.ret (n1:Int)) else some (.nxt ()))):Option (Out _ Unit))) s0 0 ()) λ(s1:Unit)=>some (-1:Int))
def xf (s0:(List GI)) (f1:(GI->Option Bool)):Option Bool :=
 ((wx s0 f1).bind λv1=>some (decide (v1 >= (0:Int))))
def leafXhas (l0:(List GI)) (d1:GF):Option Bool :=
 ((xf l0 (λx0=>leafXhasC1 x0 d1)).bind λv1=>some v1)
def leafXtombs (l0:GE):Option Bool :=
 (lp (zx (λ(n1:Nat) (x1:GF) (s1:Unit)=>(((dotMay x1).bind λv19=>(x6 ((((!v19)==false)&&((decide ((n1:Int) > (0:Int)))==true))=true->0<=(IntKind.wrap .i64 ((n1:Int) - (1:Int)))/\(IntKind.wrap .i64 ((n1:Int) - (1:Int))) < ((l0.tombs).length:Int)) (((if (((!v19)==false)&&((decide ((n1:Int) > (0:Int)))==true))=true then dotCompare ((l0.tombs).getD (IntKind.wrap .i64 ((n1:Int) - (1:Int))).toNat default) x1 else some default).bind λv21=>((if (((!v19) || ((decide ((n1:Int) > (0:Int)))&&(decide (v21 >= (0:Int)))))==false)=true then leafXhas l0.items x1 else some default).bind λv22=>(if (((!v19) || ((decide ((n1:Int) > (0:Int)))&&(decide (v21 >= (0:Int))))) || v22)=true then some (.ret false) else some (.nxt ()))))))):Option (Out _ Unit))) l0.tombs 0 ()) λ(s1:Unit)=>some true)
def leafMay (l0:GE):Option Bool :=
 (if (l0.typ==(1:Int))=true then ((xZ l0 (GE.mk l0.typ l0.n (0:Int) (GF.mk (GK.mk (0:Int) (0:Int)) (0:Int)) ([]:zi) ([]:List GI) ([]:List GF))).bind λv2=>some v2) else (if (l0.typ==(2:Int))=true then ((if ((l0.time != (0:Int))==true)=true then leafXisTime l0.time else some default).bind λv4=>((if (((l0.time != (0:Int))==true)&&(v4==true))=true then dotMay l0.dot else some default).bind λv5=>((if (((l0.time != (0:Int))==true)&&((v4&&v5)==true))=true then qq l0.text else some default).bind λv6=>(if (((l0.time != (0:Int))&&(!((v4&&v5)&&v6))) || ((l0.time==(0:Int))&&((!(l0.dot.actor.rep==(0:Int)&&(l0.dot.actor.inc==(0:Int)&&(l0.dot.seq==(0:Int)&&true)))) || (!(l0.text==([]:zi))))))=true then some false else ((xZ l0 (GE.mk l0.typ (0:Int) l0.time l0.dot l0.text ([]:List GI) ([]:List GF))).bind λv8=>some v8))))) else (if (l0.typ==(3:Int))=true then ((leafXitems l0.items false).bind λv10=>((if ((!v10)==false)=true then leafXtombs l0 else some default).bind λv11=>(if ((!v10) || (!v11))=true then some false else ((xZ l0 (GE.mk l0.typ (0:Int) (0:Int) (GF.mk (GK.mk (0:Int) (0:Int)) (0:Int)) ([]:zi) l0.items l0.tombs)).bind λv13=>some v13)))) else (if (l0.typ==(4:Int))=true then ((leafXitems l0.items true).bind λv15=>(if (!v15)=true then some false else ((xZ l0 (GE.mk l0.typ (0:Int) (0:Int) (GF.mk (GK.mk (0:Int) (0:Int)) (0:Int)) ([]:zi) l0.items ([]:List GF))).bind λv17=>some v17))) else some false))))
def qj:Nat->(t0:(List GA))->(deep1:Int)->Option Bool
 | 0,_,_=>none
 | n+1,t0,deep1=>(if ((decide (((t0).length:Int) > (0:Int)))&&(deep1==(3:Int)))=true then some false else (lp (zx (λ(n1:Nat) (x1:GA) (s1:Unit)=>(((opIsName x1.name).bind λv27=>(x6 ((((!v27)==false)&&((decide ((n1:Int) > (0:Int)))==true))=true->0<=(IntKind.wrap .i64 ((n1:Int) - (1:Int)))/\(IntKind.wrap .i64 ((n1:Int) - (1:Int))) < ((t0).length:Int)) (((if ((((!v27) || ((decide ((n1:Int) > (0:Int)))&&(!(Op.bytesLess (((t0).getD (IntKind.wrap .i64 ((n1:Int) - (1:Int))).toNat default).name) x1.name)))) || ((IntKind.wrap .i64 (((x1.leaves).length:Int)+((x1.subs).length:Int)))==(0:Int)))==false)=true then qj n x1.subs (IntKind.wrap .i64 (deep1+(1:Int))) else some default).bind λv31=>(if ((((!v27) || ((decide ((n1:Int) > (0:Int)))&&(!(Op.bytesLess (((t0).getD (IntKind.wrap .i64 ((n1:Int) - (1:Int))).toNat default).name) x1.name)))) || ((IntKind.wrap .i64 (((x1.leaves).length:Int)+((x1.subs).length:Int)))==(0:Int))) || (!v31))=true then some (.ret false) else (lp (zx (λ(n2:Nat) (x2:GE) (s2:Unit)=>(((leafMay x2).bind λv43=>(x6 ((((!v43)==false)&&((decide ((n2:Int) > (0:Int)))==true))=true->0<=(IntKind.wrap .i64 ((n2:Int) - (1:Int)))/\(IntKind.wrap .i64 ((n2:Int) - (1:Int))) < ((x1.leaves).length:Int)) ((if ((!v43) || ((decide ((n2:Int) > (0:Int)))&&(decide (((x1.leaves).getD (IntKind.wrap .i64 ((n2:Int) - (1:Int))).toNat default).typ >= x2.typ))))=true then some (.ret (.ret false)) else some (.nxt ()))))):Option (Out _ Unit))) x1.leaves 0 ()) λ(s2:Unit)=>some (.nxt ()))))))):Option (Out _ Unit))) t0 0 ()) λ(s1:Unit)=>some true))
def treeXmay (t0:(List GA)) (deep1:Int):Option Bool:=anyN λn=>qj n t0 deep1
def ww (t0:(List GA)):Option Bool :=
 ((treeXmay t0 (0:Int)).bind λv1=>some v1)
def qm (p0:(List zi)):Option ((List zi)×Bool) :=
 (x6 (((decide (((p0).length:Int) > (0:Int)))==true)=true->0<=(IntKind.wrap .i64 (((p0).length:Int) - (1:Int)))/\(IntKind.wrap .i64 (((p0).length:Int) - (1:Int))) < ((p0).length:Int)) ((if ((decide (((p0).length:Int) > (0:Int)))&&(((p0).getD (IntKind.wrap .i64 (((p0).length:Int) - (1:Int))).toNat default)==([42,42]:zi)))=true then ((slc p0 (0:Int) (IntKind.wrap .i64 (((p0).length:Int) - (1:Int)))).bind λm4=>some (m4,true)) else some (p0,false))))
def vf (s0:zi):Option Bool :=
 ((if ((!(s0==([42]:zi)))==true)=true then opIsName s0 else some default).bind λv1=>some ((!(s0==([42]:zi)))&&(!v1)))
def x4 (s0:(List zi)) (f1:(zi->Option Bool)):Option Int :=
 (lp (zx (λ(n1:Nat) (x1:zi) (s1:Unit)=>(((f1 x1).bind λv7=>(if v7=true then some (.ret (n1:Int)) else some (.nxt ()))):Option (Out _ Unit))) s0 0 ()) λ(s1:Unit)=>some (-1:Int))
def yL (s0:(List zi)) (f1:(zi->Option Bool)):Option Bool :=
 ((x4 s0 f1).bind λv1=>some (decide (v1 >= (0:Int))))
def wd (p0:(List zi)):Option Bool :=
 ((qm p0).bind λv1=>((if ((((decide (((v1.1).length:Int) > (0:Int))) || v1.2)&&(decide (((v1.1).length:Int)<=(3:Int))))==true)=true then yL v1.1 (λx0=>vf x0) else some default).bind λv4=>some ((((decide (((v1.1).length:Int) > (0:Int))) || v1.2)&&(decide (((v1.1).length:Int)<=(3:Int))))&&(!v4))))
def xG (s0:(List GI)):Option (List GI) :=
 (nilq s0 λb1=>(if b1=true then some ([]:List GI) else (x6 ((([]:List GI)).length+(s0).length<=xe) (some (([]:List GI)++s0)))))
def xY (s0:(List GF)):Option (List GF) :=
 (nilq s0 λb1=>(if b1=true then some ([]:List GF) else (x6 ((([]:List GF)).length+(s0).length<=xe) (some (([]:List GF)++s0)))))
def pathsXown (l0:GE):Option GE :=
 ((xG l0.items).bind λv1=>((xY l0.tombs).bind λv2=>some (GE.mk l0.typ l0.n l0.time l0.dot l0.text v1 v2)))
def zV (s0:(List zi)):Option (List zi) :=
 (nilq s0 λb1=>(if b1=true then some ([]:List zi) else (x6 ((([]:List zi)).length+(s0).length<=xe) (some (([]:List zi)++s0)))))
def vp:Nat->(t0:(List GA))->(ahead1:(List zi))->(is2:((List zi)->Option Bool))->Option (List GA)
 | 0,_,_,_=>none
 | n+1,t0,ahead1,is2=>(lp (zx (λ(n1:Nat) (x1:GA) (s1:(List GA))=>(((zV ahead1).bind λv32=>(x6 ((v32).length+(([x1.name]:List zi)).length<=xe) (((vp n x1.subs (v32++([x1.name]:List zi)) is2).bind λv34=>(lp (zx (λ(n2:Nat) (x2:GE) (s2:(List GE))=>(((is2 (v32++([x1.name]:List zi))).bind λv49=>(if v49=true then ((pathsXown x2).bind λv51=>(x6 ((s2).length+(([v51]:List GE)).length<=xe) (some (.nxt (s2++([v51]:List GE)))))) else some (.nxt s2))):Option (Out _ (List GE)))) x1.leaves 0 ([]:List GE)) λ(s2:(List GE))=>(if (decide ((IntKind.wrap .i64 (((s2).length:Int)+((v34).length:Int))) > (0:Int)))=true then (x6 ((s1).length+(([(GA.mk x1.name s2 v34)]:List GA)).length<=xe) (some (.nxt (s1++([(GA.mk x1.name s2 v34)]:List GA))))) else some (.nxt s1))))))):Option (Out _ (List GA)))) t0 0 ([]:List GA)) λ(s1:(List GA))=>some s1)
def pathsXkept (t0:(List GA)) (ahead1:(List zi)) (is2:((List zi)->Option Bool)):Option (List GA):=anyN λn=>vp n t0 ahead1 is2
def opMayPathC1 (s0:zi):Option Bool :=
 ((opIsName s0).bind λv1=>some (!v1))
def opMayPath (p0:(List zi)):Option Bool :=
 ((if (((decide (((p0).length:Int) >= (1:Int)))&&(decide (((p0).length:Int)<=(3:Int))))==true)=true then yL p0 (λx0=>opMayPathC1 x0) else some default).bind λv3=>some (((decide (((p0).length:Int) >= (1:Int)))&&(decide (((p0).length:Int)<=(3:Int))))&&(!v3)))
def pathsMatch (p0:(List zi)) (path1:(List zi)):Option Bool :=
 ((qm p0).bind λv1=>((wd p0).bind λv2=>((if ((!v2)==false)=true then opMayPath path1 else some default).bind λv3=>(if ((((!v2) || (!v3)) || (decide (((path1).length:Int) < ((v1.1).length:Int)))) || ((decide (((path1).length:Int) > ((v1.1).length:Int)))&&(!v1.2)))=true then some false else (lp (zx (λ(n1:Nat) (x1:zi) (s1:Unit)=>((x6 (((!(x1==([42]:zi)))==true)=true->0<=(n1:Int)/\(n1:Int) < ((path1).length:Int)) ((if ((!(x1==([42]:zi)))&&(!(x1==((path1).getD (n1:Int).toNat default))))=true then some (.ret false) else some (.nxt ())))):Option (Out _ Unit))) v1.1 0 ()) λ(s1:Unit)=>some true)))))
def pathsSelectC1 (path0:(List zi)) (c0:(List zi)):Option Bool :=
 ((pathsMatch c0 path0).bind λv1=>some v1)
def xz (t0:(List GA)) (p1:(List zi)):Option ((List GA)×Int) :=
 ((ww t0).bind λv1=>((if ((!v1)==false)=true then wd p1 else some default).bind λv2=>(if ((!v1) || (!v2))=true then some (([]:List GA),(2:Int)) else ((pathsXkept t0 ([]:List zi) (λx0=>pathsSelectC1 x0 p1)).bind λv4=>some (v4,(0:Int))))))
def pathsXrows (t0:(List GA)) (ahead1:(List zi)):Option ((List GA)×(List zi)) :=
 some (t0,ahead1)
def wo:Nat->(S:Type)->(yield0:S->GJ->Option (Bool×S))->(c0:(List GA))->(c1:(List zi))->(s0:S)->Option S
 | 0,_,_,_,_,_=>none
 | n+1,S,yield0,c0,c1,s0=>(lp (zx (λ(n1:Nat) (x1:GA) (s1:S)=>(((zV c1).bind λv37=>(x6 ((v37).length+(([x1.name]:List zi)).length<=xe) ((lp (zx (λ(n2:Nat) (x2:GE) (s2:S)=>(((zV (v37++([x1.name]:List zi))).bind λv51=>((pathsXown x2).bind λv52=>((yield0 s2 (GJ.mk v51 v52)).bind λv53=>(if (!v53.1)=true then some (.ret (.ret v53.2)) else some (.nxt v53.2))))):Option (Out _ S))) x1.leaves 0 s1) λ(s2:S)=>((pathsXrows x1.subs (v37++([x1.name]:List zi))).bind λv55=>(rng (wo n _ (stp (λ(s3:S) (x3:GJ)=>(((yield0 s3 x3).bind λv64=>(if (!v64.1)=true then some (false,(v64.2,some 0)) else some (true,(v64.2,none)))):Option (Bool×(S×Option Nat))))) v55.1 v55.2 (s2,none)) (λ(s3:S)=>some (.nxt s3)) (λ(j3:Nat) (s3:S)=>if j3=0 then some (.ret s3) else none))))))):Option (Out _ S))) c0 0 s0) λ(s1:S)=>some s1)
def pathsXrowsC1 (S:Type) (yield0:S->GJ->Option (Bool×S)) (c0:(List GA)) (c1:(List zi)) (s0:S):Option S:=anyN λn=>wo n S yield0 c0 c1 s0
def wI (s0:(List GJ)) (seq1:(S:Type)->(S->GJ->Option (Bool×S))->S->Option S):Option (List GJ) :=
 (rng (seq1 _ (stp (λ(s1:(List GJ)) (x1:GJ)=>((x6 ((s1).length+(([x1]:List GJ)).length<=xe) (some (true,((s1++([x1]:List GJ)),none)))):Option (Bool×((List GJ)×Option Nat))))) (s0,none)) (λ(s1:(List GJ))=>some s1) (λ_ _=>none))
def vF (seq0:(S:Type)->(S->GJ->Option (Bool×S))->S->Option S):Option (List GJ) :=
 ((wI ([]:List GJ) seq0).bind λv1=>some v1)
def wc (t0:(List GA)):Option (List GJ) :=
 ((ww t0).bind λv1=>(if (!v1)=true then some ([]:List GJ) else ((pathsXrows t0 ([]:List zi)).bind λv3=>((vF (λS y s=>pathsXrowsC1 S y v3.1 v3.2 s)).bind λv4=>some v4))))
def xB (l0:GE):Option (List zi) :=
 (if ((l0.typ==(2:Int))&&(decide (l0.time > (0:Int))))=true then some ([l0.text]:List zi) else (lp (zx (λ(n1:Nat) (x1:GI) (s1:(List zi))=>((x6 ((s1).length+(([x1.text]:List zi)).length<=xe) (some (.nxt (s1++([x1.text]:List zi))))):Option (Out _ (List zi)))) l0.items 0 ([]:List zi)) λ(s1:(List zi))=>some s1))
/-- strings.Join -/
def stringsJoin (p0:List zi) (p1:zi):Option zi:=strJoin p0 p1
def yY (p0:GC):Option zi :=
 ((stringsJoin p0.path ([47]:zi)).bind λv1=>(x6 ((v1).length+(([47]:zi)).length<=maxLen) ((x6 (0<=p0.typ/\p0.typ < 256) ((x6 ((([(UInt8.ofNat p0.typ.toNat)]:List UInt8)).length<=maxLen) ((x6 (((v1++([47]:zi))).length+(([(UInt8.ofNat p0.typ.toNat)]:List UInt8)).length<=maxLen) (some ((v1++([47]:zi))++([(UInt8.ofNat p0.typ.toNat)]:List UInt8)))))))))))
/-- slices.Sort[[]string,string]: sortS -/
def slicesSortStringX:Unit:=()
def xn (s0:(List zi)):Option (List zi) :=
 ((slc s0 (0:Int) ((s0).length:Int)).bind λm3=>some m3)
def yW (s0:zi) (prefix1:zi):Option Bool :=
 (x6 (((decide (((s0).length:Int) >= ((prefix1).length:Int)))==true)=true->0<=(0:Int)/\(0:Int)<=((prefix1).length:Int)/\((prefix1).length:Int)<=((s0).length:Int)) (some ((decide (((s0).length:Int) >= ((prefix1).length:Int)))&&(((s0.take ((prefix1).length:Int).toNat).drop (0:Int).toNat)==prefix1))))
def y6 (s0:zi) (prefix1:zi):Option Bool :=
 ((yW s0 prefix1).bind λv1=>some v1)
def yV (s10:(List zi)) (s21:(List zi)):Option Bool :=
 (if (((s10).length:Int) != ((s21).length:Int))=true then some false else (lp (zx (λ(n1:Nat) (x1:zi) (s1:Unit)=>(((qO s21 (n1:Int)).bind λy10=>(if (!(x1==y10))=true then some (.ret false) else some (.nxt ()))):Option (Out _ Unit))) s10 0 ()) λ(s1:Unit)=>some true))
def vV (a0:(List zi)) (b1:(List zi)):Option Bool :=
 (if (((a0).length:Int) != ((b1).length:Int))=true then some false else (lp (zx (λ(n1:Nat) (x1:zi) (s1:Unit)=>(((qO b1 (n1:Int)).bind λy12=>(if (!(x1==y12))=true then some (.ret false) else some (.nxt ()))):Option (Out _ Unit))) a0 0 ()) λ(s1:Unit)=>some true))
def ql (a0:(List GC)) (b1:(List GC)):Option Bool :=
 (if (((a0).length:Int) != ((b1).length:Int))=true then some false else (lp (zx (λ(n1:Nat) (x1:GC) (s1:Unit)=>(((qO b1 (n1:Int)).bind λy15=>(x6 (((x1.typ != y15.typ)==false)=true->0<=(n1:Int)/\(n1:Int) < ((a0).length:Int)) ((x6 (((x1.typ != y15.typ)==false)=true->0<=(n1:Int)/\(n1:Int) < ((b1).length:Int)) (((if ((x1.typ != y15.typ)==false)=true then vV (((a0).getD (n1:Int).toNat default).path) (((b1).getD (n1:Int).toNat default).path) else some default).bind λv18=>(if ((x1.typ != y15.typ) || (!v18))=true then some (.ret false) else some (.nxt ())))))))):Option (Out _ Unit))) a0 0 ()) λ(s1:Unit)=>some true))
/-- slices.SortFunc[[]varve/api.Place,varve/api.Place]: qv -/
def slicesSortFuncPlaceX:Unit:=()
def xI (x0:zi):Option Bool :=
 some (!(x0==x0))
def yM (x0:zi) (y1:zi):Option Int :=
 ((xI x0).bind λv1=>((xI y1).bind λv2=>(if v1=true then (if v2=true then some (0:Int) else some (-1:Int)) else (if v2=true then some (1:Int) else (if (Op.bytesLess x0 y1)=true then some (-1:Int) else (if (!(Op.bytesLess x0 y1 || x0==y1))=true then some (1:Int) else some (0:Int)))))))
def yO (s10:(List zi)) (s21:(List zi)):Option Int :=
 (lp (zx (λ(n1:Nat) (x1:zi) (s1:Unit)=>((if (decide ((n1:Int) >= ((s21).length:Int)))=true then some (.ret (1:Int)) else ((qO s21 (n1:Int)).bind λy12=>((yM x1 y12).bind λv13=>(if (v13 != (0:Int))=true then some (.ret v13) else some (.nxt ()))))):Option (Out _ Unit))) s10 0 ()) λ(s1:Unit)=>(if (decide (((s10).length:Int) < ((s21).length:Int)))=true then some (-1:Int) else some (0:Int)))
def yU (a0:GC) (b1:GC):Option Int :=
 ((yO a0.path b1.path).bind λv1=>((xi a0.typ b1.typ).bind λv2=>((qN ([v1,v2]:List Int)).bind λv3=>some v3)))
def qG (n0:Int):Option GF :=
 some (GF.mk (GK.mk (0:Int) (1:Int)) n0)
def law41Xtied  : Option (List GA) :=
 ((qG (1:Int)).bind λv1=>((qG (2:Int)).bind λv2=>((qG (3:Int)).bind λv3=>some ([(GA.mk ([97]:zi) ([(GE.mk (2:Int) (0:Int) (1:Int) v1 ([117]:zi) ([]:List GI) ([]:List GF))]:List GE) ([]:List GA)),(GA.mk ([98]:zi) ([(GE.mk (3:Int) (0:Int) (0:Int) (GF.mk (GK.mk (0:Int) (0:Int)) (0:Int)) ([]:zi) ([(GI.mk (0:Int) v2 ([117]:zi)),(GI.mk (0:Int) v3 ([118]:zi))]:List GI) ([]:List GF))]:List GE) ([]:List GA))]:List GA))))
def wH  : Option Bool :=
 ((law41Xtied).bind λv1=>((((ww v1).bind λv181=>(if (!v181)=true then none else ((xz v1 ([([42,42]:zi)]:List zi)).bind λv183=>((wc v1).bind λv184=>(lp (zx (λ(n1:Nat) (x1:GJ) (s1:List (Option (zi×Option Nat))×List (List (Option (zi×GC))))=>(((((zV x1.path).bind λv317=>((xB x1.leaf).bind λv318=>(lp (zx (λ(n2:Nat) (x2:zi) (s2:List (Option (zi×Option Nat))×List (List (Option (zi×GC))))=>((if ((zz (λa b=>a==b) none (zG s2.1) x2)).isNone=true then ((yY (GC.mk v317 x1.leaf.typ)).bind λv353=>((oput (λa b=>a==b) (s2.2++[[]]) (zz (λa b=>a==b) none (zG (x7 (λa b=>a==b) s2.1 x2 (some ((s2.2).length)))) x2) v353 (GC.mk v317 x1.leaf.typ)).bind λms354=>some (.nxt ((x7 (λa b=>a==b) s2.1 x2 (some ((s2.2).length))),ms354)))) else ((yY (GC.mk v317 x1.leaf.typ)).bind λv355=>((oput (λa b=>a==b) s2.2 (zz (λa b=>a==b) none (zG s2.1) x2) v355 (GC.mk v317 x1.leaf.typ)).bind λms356=>some (.nxt (s2.1,ms356))))):Option (Out _ (List (Option (zi×Option Nat))×List (List (Option (zi×GC))))))) v318 0 (s1.1,s1.2)) λ(s2:List (Option (zi×Option Nat))×List (List (Option (zi×GC))))=>some (s2.1,s2.2)))):Option (List (Option (zi×Option Nat))×List (List (Option (zi×GC))))).bind λv275=>some (.nxt (v275.1,v275.2))):Option (Out _ (List (Option (zi×Option Nat))×List (List (Option (zi×GC))))))) v184 0 (([]:List (Option (zi×Option Nat))),([]:List (List (Option (zi×GC)))))) λ(s1:List (Option (zi×Option Nat))×List (List (Option (zi×GC))))=>some (s1.1,s1.2,v183.1)))))):Option (List (Option (zi×Option Nat))×List (List (Option (zi×GC)))×(List GA))).bind λv2=>(if ((0:Int) != (0:Int))=true then some false else ((((some ():Option Unit).bind λv372=>((omap v2.2.1 (zz (λa b=>a==b) none (zG v2.1) ([117]:zi))).bind λm373=>(allP (zG m373) λp1=>lp (zx (λ(_:Nat) (x1:(zi×GC)) (sL1:(List GC))=>(((zV x1.2.path).bind λv381=>(x6 ((sL1).length+(([(GC.mk v381 x1.2.typ)]:List GC)).length<=xe) (some (.nxt (sL1++([(GC.mk v381 x1.2.typ)]:List GC)))))):Option (Out _ (List GC)))) p1 0 ([]:List GC)) λ(sL1:(List GC))=>((qv (λx y=>yU x y) sL1).bind λv383=>some v383)))):Option (List GC)).bind λv358=>((ql v358 ([(GC.mk ([([97]:zi)]:List zi) (2:Int)),(GC.mk ([([98]:zi)]:List zi) (3:Int))]:List GC)).bind λv384=>((if (v384==true)=true then ((some ():Option Unit).bind λv404=>(if (decide ((5:Int) < (1:Int)))=true then some ([]:List zi) else (allP (zG v2.1) λp1=>lp (zx (λ(_:Nat) (x1:(zi×Option Nat)) (sL1:(List zi))=>(((y6 x1.1 ([]:zi)).bind λv414=>(if v414=true then (x6 ((sL1).length+(([x1.1]:List zi)).length<=xe) (some (.nxt (sL1++([x1.1]:List zi))))) else some (.nxt sL1))):Option (Out _ (List zi)))) p1 0 ([]:List zi)) λ(sL1:(List zi))=>((sortS sL1).bind λv417=>((slc v417 (0:Int) (if (((sL1).length:Nat):Int) < (5:Int) then (((sL1).length:Nat):Int) else (5:Int))).bind λm419=>((xn m419).bind λv420=>some v420)))))) else some default:Option (List zi)).bind λv385=>((if (v384==true)=true then yV v385 ([([117]:zi),([118]:zi)]:List zi) else some default).bind λv421=>some (v384&&v421))))))))
def yj (s0:(List GE)) (f1:(GE->Option Bool)):Option Int :=
 (lp (zx (λ(n1:Nat) (x1:GE) (s1:Unit)=>(((f1 x1).bind λv7=>(if v7=true then some (.ret (n1:Int)) else some (.nxt ()))):Option (Out _ Unit))) s0 0 ()) λ(s1:Unit)=>some (-1:Int))
def treeLeafC1 (l0:GE) (c0:Int):Option Bool :=
 some (l0.typ==c0)
def leafNew (kind0:Int):Option GE :=
 (if ((decide (kind0 < (1:Int))) || (decide (kind0 > (4:Int))))=true then some yv else some (GE.mk kind0 (0:Int) (0:Int) (GF.mk (GK.mk (0:Int) (0:Int)) (0:Int)) ([]:zi) ([]:List GI) ([]:List GF)))
def xC (s0:(List GA)) (f1:(GA->Option Bool)):Option Int :=
 (lp (zx (λ(n1:Nat) (x1:GA) (s1:Unit)=>(((f1 x1).bind λv7=>(if v7=true then some (.ret (n1:Int)) else some (.nxt ()))):Option (Out _ Unit))) s0 0 ()) λ(s1:Unit)=>some (-1:Int))
def treeXlinearC1 (n0:GA) (c0:zi):Option Bool :=
 some (n0.name==c0)
def qk (t0:(List GA)) (name1:zi):Option (GA×Bool) :=
 ((xC t0 (λx0=>treeXlinearC1 x0 name1)).bind λv1=>(if (decide (v1 < (0:Int)))=true then some ((GA.mk ([]:zi) ([]:List GE) ([]:List GA)),false) else ((qO t0 v1).bind λy3=>some (y3,true))))
def treeLeaf (t0:(List GA)) (path1:(List zi)) (kind2:Int):Option (GE×Bool) :=
 (lp ((lp (zx (λ(n2:Nat) (x2:zi) (s2:(List GA)×Bool×zi×(List GE)×(List GA))=>(((qk s2.1 x2).bind λv47=>(if (!v47.2)=true then some (.brk (s2.1,v47.2,v47.1.name,v47.1.leaves,v47.1.subs)) else some (.nxt (v47.1.subs,v47.2,v47.1.name,v47.1.leaves,v47.1.subs)))):Option (Out _ ((List GA)×Bool×zi×(List GE)×(List GA))))) path1 0 (t0,(decide (((path1).length:Int) > (0:Int))),([]:zi),([]:List GE),([]:List GA))) λ(s2:(List GA)×Bool×zi×(List GE)×(List GA))=>some (.inr (s2.2.1,s2.2.2.1,s2.2.2.2.1,s2.2.2.2.2))):Option (_ ⊕ (Bool×zi×(List GE)×(List GA)))) λ(s1:Bool×zi×(List GE)×(List GA))=>((yj s1.2.2.1 (λx0=>treeLeafC1 x0 kind2)).bind λv49=>((if (((!s1.1) || (decide (v49 < (0:Int))))==false)=true then leafNew kind2 else some default).bind λv50=>(if (((!s1.1) || (decide (v49 < (0:Int)))) || (v50.typ==(0:Int)))=true then ((leafNew kind2).bind λv52=>some (v52,false)) else ((qO s1.2.2.1 v49).bind λy53=>((xG y53.items).bind λv54=>((xY y53.tombs).bind λv55=>some ((GE.mk y53.typ y53.n y53.time y53.dot y53.text v54 v55),true))))))))
def zQ (x0:(List GA)) (target1:zi) (cmp2:(GA->zi->Option Int)):Option (Int×Bool) :=
 (lp (vP (λ(sL1:Int×Int)=>((if (decide (sL1.1 < sL1.2))=true then ((qO x0 (IntKind.wrap .i64 ((Int.fdiv (IntKind.wrap .u64 ((IntKind.wrap .i64 (sL1.1+sL1.2)))) (2 ^ (min (1:Int).toNat (IntKind.bits .u64))))))).bind λy9=>((cmp2 y9 target1).bind λv10=>(if (decide (v10 < (0:Int)))=true then some (.nxt ((IntKind.wrap .i64 ((IntKind.wrap .i64 ((Int.fdiv (IntKind.wrap .u64 ((IntKind.wrap .i64 (sL1.1+sL1.2)))) (2 ^ (min (1:Int).toNat (IntKind.bits .u64))))))+(1:Int))),sL1.2)) else some (.nxt (sL1.1,(IntKind.wrap .i64 ((Int.fdiv (IntKind.wrap .u64 ((IntKind.wrap .i64 (sL1.1+sL1.2)))) (2 ^ (min (1:Int).toNat (IntKind.bits .u64))))))))))) else some (.brk (sL1.1,sL1.2))):Option (Out _ (Int×Int)))) ((0:Int),((x0).length:Int))) λ(sL1:Int×Int)=>(x6 (((decide (sL1.1 < ((x0).length:Int)))==true)=true->0<=sL1.1/\sL1.1 < ((x0).length:Int)) (((if ((decide (sL1.1 < ((x0).length:Int)))==true)=true then cmp2 ((x0).getD sL1.1.toNat default) target1 else some default).bind λv13=>some (sL1.1,((decide (sL1.1 < ((x0).length:Int)))&&(v13==(0:Int))))))))
/-- strings.Compare -/
def stringsCompare (p0:zi) (p1:zi):Option Int:=some (Go.Lib.compareBytes p0 p1)
def vw (n0:GA) (name1:zi):Option Int :=
 ((stringsCompare n0.name name1).bind λv1=>some v1)
def yX (s0:(List GE)) (del1:(GE->Option Bool)):Option (List GE) :=
 ((yj s0 del1).bind λv1=>(if (v1==(-1:Int))=true then some s0 else (lp (vP (λ(s1:Int×Int×(List GE))=>((x6 ((s1.2.2).length=s0.length) ((if (decide (s1.2.1 < ((s0.length:Nat):Int)))=true then ((qO s1.2.2 s1.2.1).bind λy14=>((del1 y14).bind λv15=>(if (!v15)=true then ((qO s1.2.2 s1.1).bind λy17=>some (.nxt ((IntKind.wrap .i64 (s1.1+(1:Int))),(IntKind.wrap .i64 (s1.2.1+(1:Int))),(s1.2.2.set s1.1.toNat y14)))) else some (.nxt (s1.1,(IntKind.wrap .i64 (s1.2.1+(1:Int))),s1.2.2))))) else some (.brk (s1.1,s1.2.1,s1.2.2))))):Option (Out _ (Int×Int×(List GE))))) (v1,(IntKind.wrap .i64 (v1+(1:Int))),s0)) λ(s1:Int×Int×(List GE))=>(x6 (0<=s1.1/\s1.1<=((s0.length:Nat):Int)) (((slc (s1.2.2.take s1.1.toNat++List.replicate (s0.length - s1.1.toNat) yv) (0:Int) s1.1).bind λm19=>some m19))))))
def wX (s0:(List GE)):Option (List GE) :=
 (nilq s0 λb1=>(if b1=true then some ([]:List GE) else (x6 ((([]:List GE)).length+(s0).length<=xe) (some (([]:List GE)++s0)))))
def diffXlayC2 (x0:GE) (c0:Int):Option Bool :=
 some (x0.typ==c0)
def diffXown (l0:GE):Option GE :=
 ((xG l0.items).bind λv1=>((xY l0.tombs).bind λv2=>some (GE.mk l0.typ l0.n l0.time l0.dot l0.text v1 v2)))
/-- slices.SortFunc[[]varve/api.Leaf,varve/api.Leaf]: qv -/
def slicesSortFuncLeafX:Unit:=()
def diffXlayC3 (x0:GE) (y1:GE):Option Int :=
 ((xi x0.typ y1.typ).bind λv1=>some v1)
def xK (s0:(List GA)):Option (List GA) :=
 (nilq s0 λb1=>(if b1=true then some ([]:List GA) else (x6 ((([]:List GA)).length+(s0).length<=xe) (some (([]:List GA)++s0)))))
def vL:Nat->(t0:(List GA))->(path1:(List zi))->(kind2:Int)->(l3:GE)->(there4:Bool)->Option (List GA)
 | 0,_,_,_,_,_=>none
 | n+1,t0,path1,kind2,l3,there4=>((qO path1 (0:Int)).bind λy1=>((zQ t0 y1 (λx0 x1=>vw x0 x1)).bind λv2=>((qO path1 (0:Int)).bind λy3=>(lp ((if v2.2=true then ((qO t0 v2.1).bind λy7=>some (.inr (y7.name,y7.leaves,y7.subs))) else some (.inr (y3,([]:List GE),([]:List GA)))):Option (_ ⊕ (zi×(List GE)×(List GA)))) λ(s1:zi×(List GE)×(List GA))=>(lp ((if (decide (((path1).length:Int) > (1:Int)))=true then ((slc path1 (1:Int) ((path1).length:Int)).bind λm20=>((vL n s1.2.2 m20 kind2 l3 there4).bind λv21=>some (.inr (s1.2.1,v21)))) else ((wX s1.2.1).bind λv22=>((yX v22 (λx0=>diffXlayC2 x0 kind2)).bind λv23=>(if there4=true then ((diffXown l3).bind λv25=>(x6 ((v23).length+(([v25]:List GE)).length<=xe) (((qv (λx y=>diffXlayC3 x y) (v23++([v25]:List GE))).bind λv27=>some (.inr (v27,s1.2.2)))))) else some (.inr (v23,s1.2.2)))))):Option (_ ⊕ ((List GE)×(List GA)))) λ(s2:(List GE)×(List GA))=>((slc t0 (0:Int) v2.1).bind λm28=>((xK m28).bind λv29=>(if (decide ((IntKind.wrap .i64 (((s2.1).length:Int)+((s2.2).length:Int))) > (0:Int)))=true then (x6 ((v29).length+(([(GA.mk s1.1 s2.1 s2.2)]:List GA)).length<=xe) ((if v2.2=true then ((slc t0 (IntKind.wrap .i64 (v2.1+(1:Int))) ((t0).length:Int)).bind λm35=>(x6 (((v29++([(GA.mk s1.1 s2.1 s2.2)]:List GA))).length+(m35).length<=xe) (some ((v29++([(GA.mk s1.1 s2.1 s2.2)]:List GA))++m35)))) else ((slc t0 v2.1 ((t0).length:Int)).bind λm37=>(x6 (((v29++([(GA.mk s1.1 s2.1 s2.2)]:List GA))).length+(m37).length<=xe) (some ((v29++([(GA.mk s1.1 s2.1 s2.2)]:List GA))++m37))))))) else (if v2.2=true then ((slc t0 (IntKind.wrap .i64 (v2.1+(1:Int))) ((t0).length:Int)).bind λm40=>(x6 ((v29).length+(m40).length<=xe) (some (v29++m40)))) else ((slc t0 v2.1 ((t0).length:Int)).bind λm42=>(x6 ((v29).length+(m42).length<=xe) (some (v29++m42)))))))))))))
def diffXlay (t0:(List GA)) (path1:(List zi)) (kind2:Int) (l3:GE) (there4:Bool):Option (List GA):=anyN λn=>vL n t0 path1 kind2 l3 there4
def vu (a0:GH) (b1:GH):Option Int :=
 ((yO a0.path b1.path).bind λv1=>((xi a0.typ b1.typ).bind λv2=>((qN ([v1,v2]:List Int)).bind λv3=>some v3)))
def wD (there0:Bool) (l1:GE) (kind2:Int):Option Bool :=
 (if (!there0)=true then ((xZ l1 yv).bind λv2=>some v2) else ((if ((l1.typ==kind2)==true)=true then leafMay l1 else some default).bind λv3=>some ((l1.typ==kind2)&&v3)))
def diffMay (l0:(List GH)):Option Bool :=
 (lp (zx (λ(n1:Nat) (x1:GH) (s1:Unit)=>(((if ((x1.had&&x1.has)==true)=true then xZ x1.was x1.is else some default).bind λv13=>((opMayPath x1.path).bind λv14=>((if (((((!v14) || (!((decide (x1.typ >= (1:Int)))&&(decide (x1.typ<=(4:Int)))))) || ((!x1.had)&&(!x1.has))) || ((x1.had&&x1.has)&&v13))==false)=true then wD x1.had x1.was x1.typ else some default).bind λv15=>((if ((((((!v14) || (!((decide (x1.typ >= (1:Int)))&&(decide (x1.typ<=(4:Int)))))) || ((!x1.had)&&(!x1.has))) || ((x1.had&&x1.has)&&v13)) || (!v15))==false)=true then wD x1.has x1.is x1.typ else some default).bind λv16=>(if ((((((!v14) || (!((decide (x1.typ >= (1:Int)))&&(decide (x1.typ<=(4:Int)))))) || ((!x1.had)&&(!x1.has))) || ((x1.had&&x1.has)&&v13)) || (!v15)) || (!v16))=true then some (.ret false) else (x6 (((decide ((n1:Int) > (0:Int)))==true)=true->0<=(IntKind.wrap .i64 ((n1:Int) - (1:Int)))/\(IntKind.wrap .i64 ((n1:Int) - (1:Int))) < ((l0).length:Int)) (((if ((decide ((n1:Int) > (0:Int)))==true)=true then vu ((l0).getD (IntKind.wrap .i64 ((n1:Int) - (1:Int))).toNat default) x1 else some default).bind λv19=>(if ((decide ((n1:Int) > (0:Int)))&&(decide (v19 >= (0:Int))))=true then some (.ret false) else some (.nxt ())))))))))):Option (Out _ Unit))) l0 0 ()) λ(s1:Unit)=>some true)
def diffPatch (t0:(List GA)) (l1:(List GH)):Option ((List GA)×Int) :=
 ((ww t0).bind λv1=>((if ((!v1)==false)=true then diffMay l1 else some default).bind λv2=>(if ((!v1) || (!v2))=true then some (([]:List GA),(2:Int)) else ((xz t0 ([([42,42]:zi)]:List zi)).bind λv4=>(lp (zx (λ(n1:Nat) (x1:GH) (s1:(List GA))=>(((treeLeaf t0 x1.path x1.typ).bind λv14=>((if (((!(v14.2==x1.had))==false)&&(v14.2==true))=true then xZ v14.1 x1.was else some default).bind λv15=>(if ((!(v14.2==x1.had)) || (v14.2&&(!v15)))=true then some (.ret (([]:List GA),(16:Int))) else ((diffXlay s1 x1.path x1.typ x1.is x1.has).bind λv17=>some (.nxt v17))))):Option (Out _ (List GA)))) l1 0 v4.1) λ(s1:(List GA))=>some (s1,(0:Int)))))))
def vX (a0:GK):Option Bool :=
 some (((decide (a0.rep<=(15:Int)))&&(decide (a0.inc >= (1:Int))))&&(decide (a0.inc<=(4:Int))))
def ref03May (d0:GF):Option Bool :=
 ((vX d0.actor).bind λv1=>some ((v1&&(decide (d0.seq >= (1:Int))))&&(decide (d0.seq<=(1048576:Int)))))
def ref05Item (l0:(List GI)) (d1:GF):Option Int :=
 (lp (zx (λ(n1:Nat) (x1:GI) (s1:Unit)=>((if (x1.dot.actor.rep==d1.actor.rep&&(x1.dot.actor.inc==d1.actor.inc&&(x1.dot.seq==d1.seq&&true)))=true then some (.ret (n1:Int)) else some (.nxt ())):Option (Out _ Unit))) l0 0 ()) λ(s1:Unit)=>some (-1:Int))
def ref05Tomb (l0:(List GF)) (d1:GF):Option Bool :=
 (lp (zx (λ(n1:Nat) (x1:GF) (s1:Unit)=>((if (x1.actor.rep==d1.actor.rep&&(x1.actor.inc==d1.actor.inc&&(x1.seq==d1.seq&&true)))=true then some (.ret true) else some (.nxt ())):Option (Out _ Unit))) l0 0 ()) λ(s1:Unit)=>some false)
def ref03Less (a0:GF) (b1:GF):Option Bool :=
 (if (a0.actor.rep != b1.actor.rep)=true then some (decide (a0.actor.rep < b1.actor.rep)) else (if (a0.actor.inc != b1.actor.inc)=true then some (decide (a0.actor.inc < b1.actor.inc)) else some (decide (a0.seq < b1.seq))))
def ref05Ahead (time0:Int) (d1:GF) (other2:Int) (o3:GF):Option Bool :=
 (if (time0 != other2)=true then some (decide (time0 < other2)) else ((ref03Less d1 o3).bind λv2=>some v2))
def ref05May (l0:GE):Option Bool :=
 (if (((((decide (l0.typ < (1:Int))) || (decide (l0.typ > (4:Int)))) || ((l0.typ != (1:Int))&&(l0.n != (0:Int)))) || ((decide (l0.typ < (3:Int)))&&(decide (((l0.items).length:Int) > (0:Int))))) || ((l0.typ != (3:Int))&&(decide (((l0.tombs).length:Int) > (0:Int)))))=true then some false else (lp ((if ((l0.typ != (2:Int)) || (l0.time==(0:Int)))=true then (if (((l0.time != (0:Int)) || (!(l0.dot.actor.rep==(0:Int)&&(l0.dot.actor.inc==(0:Int)&&(l0.dot.seq==(0:Int)&&true))))) || (!(l0.text==([]:zi))))=true then some (.inl false) else some (.inr ())) else ((if ((decide (l0.time > (1099511627776:Int)))==false)=true then ref03May l0.dot else some default).bind λv11=>(if (((decide (l0.time > (1099511627776:Int))) || (!v11)) || (decide (((l0.text).length:Int) > (40:Int))))=true then some (.inl false) else some (.inr ())))):Option (_ ⊕ Unit)) λ(s1:Unit)=>(lp (zx (λ(n2:Nat) (x2:GI) (s2:Unit)=>(((ref03May x2.dot).bind λv41=>((if (((((!v41) || (decide (((x2.text).length:Int) > (40:Int)))) || ((l0.typ==(3:Int))&&(x2.time != (0:Int)))) || ((l0.typ==(4:Int))&&((decide (x2.time < (1:Int))) || (decide (x2.time > (1099511627776:Int))))))==false)=true then ref05Item l0.items x2.dot else some default).bind λv43=>((if ((((((!v41) || (decide (((x2.text).length:Int) > (40:Int)))) || ((l0.typ==(3:Int))&&(x2.time != (0:Int)))) || ((l0.typ==(4:Int))&&((decide (x2.time < (1:Int))) || (decide (x2.time > (1099511627776:Int)))))) || (v43 != (n2:Int)))==false)=true then ref05Tomb l0.tombs x2.dot else some default).bind λv44=>(if ((((((!v41) || (decide (((x2.text).length:Int) > (40:Int)))) || ((l0.typ==(3:Int))&&(x2.time != (0:Int)))) || ((l0.typ==(4:Int))&&((decide (x2.time < (1:Int))) || (decide (x2.time > (1099511627776:Int)))))) || (v43 != (n2:Int))) || v44)=true then some (.ret false) else (x6 (((decide ((n2:Int) > (0:Int)))==true)=true->0<=(IntKind.wrap .i64 ((n2:Int) - (1:Int)))/\(IntKind.wrap .i64 ((n2:Int) - (1:Int))) < ((l0.items).length:Int)) ((x6 (((decide ((n2:Int) > (0:Int)))==true)=true->0<=(IntKind.wrap .i64 ((n2:Int) - (1:Int)))/\(IntKind.wrap .i64 ((n2:Int) - (1:Int))) < ((l0.items).length:Int)) (((if ((decide ((n2:Int) > (0:Int)))==true)=true then ref05Ahead (((l0.items).getD (IntKind.wrap .i64 ((n2:Int) - (1:Int))).toNat default).time) (((l0.items).getD (IntKind.wrap .i64 ((n2:Int) - (1:Int))).toNat default).dot) x2.time x2.dot else some default).bind λv48=>(if ((decide ((n2:Int) > (0:Int)))&&(!v48))=true then some (.ret false) else some (.nxt ()))))))))))):Option (Out _ Unit))) l0.items 0 ()) λ(s2:Unit)=>(lp (zx (λ(n3:Nat) (x3:GF) (s3:Unit)=>(((ref03May x3).bind λv73=>(x6 ((((!v73)==false)&&((decide ((n3:Int) > (0:Int)))==true))=true->0<=(IntKind.wrap .i64 ((n3:Int) - (1:Int)))/\(IntKind.wrap .i64 ((n3:Int) - (1:Int))) < ((l0.tombs).length:Int)) ((x6 ((((!v73)==false)&&((decide ((n3:Int) > (0:Int)))==true))=true->0<=(n3:Int)/\(n3:Int) < ((l0.tombs).length:Int)) (((if (((!v73)==false)&&((decide ((n3:Int) > (0:Int)))==true))=true then ref03Less ((l0.tombs).getD (IntKind.wrap .i64 ((n3:Int) - (1:Int))).toNat default) ((l0.tombs).getD (n3:Int).toNat default) else some default).bind λv76=>(if ((!v73) || ((decide ((n3:Int) > (0:Int)))&&(!v76)))=true then some (.ret false) else some (.nxt ())))))))):Option (Out _ Unit))) l0.tombs 0 ()) λ(s3:Unit)=>some true))))
def ref04IsName (s0:zi):Option Bool :=
 (if ((decide (((s0).length:Int) < (1:Int))) || (decide (((s0).length:Int) > (12:Int))))=true then some false else (lp (zx (λ(n1:Nat) (x1:UInt8) (s1:Unit)=>((if (!((((decide ((x1.toNat:Int) >= (97:Int)))&&(decide ((x1.toNat:Int)<=(122:Int)))) || ((decide ((x1.toNat:Int) >= (65:Int)))&&(decide ((x1.toNat:Int)<=(90:Int))))) || ((decide ((x1.toNat:Int) >= (48:Int)))&&(decide ((x1.toNat:Int)<=(57:Int))))))=true then some (.ret false) else some (.nxt ())):Option (Out _ Unit))) s0 0 ()) λ(s1:Unit)=>some true))
def vn:Nat->(t0:(List GA))->(deep1:Int)->Option Bool
 | 0,_,_=>none
 | n+1,t0,deep1=>(lp (zx (λ(n1:Nat) (x1:GA) (s1:Unit)=>(((if ((decide (deep1 >= (3:Int)))==false)=true then ref04IsName x1.name else some default).bind λv31=>(x6 (((((decide (deep1 >= (3:Int))) || (!v31))==false)&&((decide ((n1:Int) > (0:Int)))==true))=true->0<=(IntKind.wrap .i64 ((n1:Int) - (1:Int)))/\(IntKind.wrap .i64 ((n1:Int) - (1:Int))) < ((t0).length:Int)) (((if (((((decide (deep1 >= (3:Int))) || (!v31)) || ((decide ((n1:Int) > (0:Int)))&&(!(Op.bytesLess (((t0).getD (IntKind.wrap .i64 ((n1:Int) - (1:Int))).toNat default).name) x1.name)))) || ((((x1.leaves).length:Int)==(0:Int))&&(((x1.subs).length:Int)==(0:Int))))==false)=true then vn n x1.subs (IntKind.wrap .i64 (deep1+(1:Int))) else some default).bind λv35=>(if (((((decide (deep1 >= (3:Int))) || (!v31)) || ((decide ((n1:Int) > (0:Int)))&&(!(Op.bytesLess (((t0).getD (IntKind.wrap .i64 ((n1:Int) - (1:Int))).toNat default).name) x1.name)))) || ((((x1.leaves).length:Int)==(0:Int))&&(((x1.subs).length:Int)==(0:Int)))) || (!v35))=true then some (.ret false) else (lp (zx (λ(n2:Nat) (x2:GE) (s2:Unit)=>(((ref05May x2).bind λv50=>(x6 ((((!v50)==false)&&((decide ((n2:Int) > (0:Int)))==true))=true->0<=(IntKind.wrap .i64 ((n2:Int) - (1:Int)))/\(IntKind.wrap .i64 ((n2:Int) - (1:Int))) < ((x1.leaves).length:Int)) ((x6 ((((!v50)==false)&&((decide ((n2:Int) > (0:Int)))==true))=true->0<=(n2:Int)/\(n2:Int) < ((x1.leaves).length:Int)) ((if ((!v50) || ((decide ((n2:Int) > (0:Int)))&&(decide (((x1.leaves).getD (IntKind.wrap .i64 ((n2:Int) - (1:Int))).toNat default).typ >= ((x1.leaves).getD (n2:Int).toNat default).typ))))=true then some (.ret (.ret false)) else some (.nxt ()))))))):Option (Out _ Unit))) x1.leaves 0 ()) λ(s2:Unit)=>some (.nxt ()))))))):Option (Out _ Unit))) t0 0 ()) λ(s1:Unit)=>some true)
def ref07Xmay (t0:(List GA)) (deep1:Int):Option Bool:=anyN λn=>vn n t0 deep1
def vW (t0:(List GA)):Option Bool :=
 ((ref07Xmay t0 (0:Int)).bind λv1=>some v1)
def qb (path0:(List zi)) (kind1:Int):Option zi :=
 ((stringsJoin path0 ([0]:zi)).bind λv1=>(x6 ((v1).length+(([0]:zi)).length<=maxLen) ((x6 (0<=kind1/\kind1 < 256) ((x6 ((([(UInt8.ofNat kind1.toNat)]:List UInt8)).length<=maxLen) ((x6 (((v1++([0]:zi))).length+(([(UInt8.ofNat kind1.toNat)]:List UInt8)).length<=maxLen) (some ((v1++([0]:zi))++([(UInt8.ofNat kind1.toNat)]:List UInt8)))))))))))
def qs (e0:GH):Option GH :=
 ((zV e0.path).bind λv1=>((diffXown e0.was).bind λv2=>((diffXown e0.is).bind λv3=>some (GH.mk v1 e0.typ e0.had e0.has v2 v3))))
/-- slices.SortFunc[[]varve/api.Edit,varve/api.Edit]: qv -/
def slicesSortFuncEditX:Unit:=()
def qr (byy0:List (zi×GH)):Option (List GH) :=
 (allP byy0 λp1=>lp (zx (λ(_:Nat) (x1:(zi×GH)) (s1:(List GH))=>(((if ((x1.2.had==x1.2.has)==true)=true then xZ x1.2.was x1.2.is else some default).bind λv7=>(if (!((x1.2.had==x1.2.has)&&v7))=true then ((qs x1.2).bind λv9=>(x6 ((s1).length+(([v9]:List GH)).length<=xe) (some (.nxt (s1++([v9]:List GH)))))) else some (.nxt s1))):Option (Out _ (List GH)))) p1 0 ([]:List GH)) λ(s1:(List GH))=>((qv (λx y=>vu x y) s1).bind λv11=>some v11))
def diffDiff (a0:(List GA)) (b1:(List GA)):Option ((List GH)×Int) :=
 ((ww a0).bind λv1=>((if ((!v1)==false)=true then ww b1 else some default).bind λv2=>(if ((!v1) || (!v2))=true then some (([]:List GH),(2:Int)) else ((wc a0).bind λv4=>(lp (zx (λ(n1:Nat) (x1:GJ) (s1:List (zi×GH))=>(((qb x1.path x1.leaf.typ).bind λv11=>some (.nxt (xS (λa b=>a==b) s1 v11 (GH.mk x1.path x1.leaf.typ true false x1.leaf yv)))):Option (Out _ (List (zi×GH))))) v4 0 ([]:List (zi×GH))) λ(s1:List (zi×GH))=>((wc b1).bind λv12=>(lp (zx (λ(n2:Nat) (x2:GJ) (s2:List (zi×GH))=>(((qb x2.path x2.leaf.typ).bind λv20=>((qb x2.path x2.leaf.typ).bind λv21=>some (.nxt (xS (λa b=>a==b) s2 v21 (GH.mk x2.path x2.leaf.typ ((zz (λa b=>a==b) (GH.mk ([]:List zi) (0:Int) false false yv yv) s2 v20).had) true ((zz (λa b=>a==b) (GH.mk ([]:List zi) (0:Int) false false yv yv) s2 v20).was) x2.leaf))))):Option (Out _ (List (zi×GH))))) v12 0 s1) λ(s2:List (zi×GH))=>((qr s2).bind λv22=>some (v22,(0:Int))))))))))
def wY (t0:(List GA)) (u1:(List GA)) (prefix2:zi):Option Bool :=
 ((wJ t0).bind λv1=>((if (v1==false)=true then wJ u1 else some default).bind λv2=>((if ((v1 || v2)==false)=true then vW t0 else some default).bind λv3=>((if (((v1 || v2) || (!v3))==false)=true then vW u1 else some default).bind λv4=>(if ((((v1 || v2) || (!v3)) || (!v4)) || (decide (((prefix2).length:Int) > (100:Int))))=true then ((wH).bind λv7=>some v7) else ((((ww t0).bind λv187=>(if (!v187)=true then none else ((xz t0 ([([42,42]:zi)]:List zi)).bind λv189=>((wc t0).bind λv190=>(lp (zx (λ(n1:Nat) (x1:GJ) (s1:List (Option (zi×Option Nat))×List (List (Option (zi×GC))))=>(((((zV x1.path).bind λv323=>((xB x1.leaf).bind λv324=>(lp (zx (λ(n2:Nat) (x2:zi) (s2:List (Option (zi×Option Nat))×List (List (Option (zi×GC))))=>((if ((zz (λa b=>a==b) none (zG s2.1) x2)).isNone=true then ((yY (GC.mk v323 x1.leaf.typ)).bind λv359=>((oput (λa b=>a==b) (s2.2++[[]]) (zz (λa b=>a==b) none (zG (x7 (λa b=>a==b) s2.1 x2 (some ((s2.2).length)))) x2) v359 (GC.mk v323 x1.leaf.typ)).bind λms360=>some (.nxt ((x7 (λa b=>a==b) s2.1 x2 (some ((s2.2).length))),ms360)))) else ((yY (GC.mk v323 x1.leaf.typ)).bind λv361=>((oput (λa b=>a==b) s2.2 (zz (λa b=>a==b) none (zG s2.1) x2) v361 (GC.mk v323 x1.leaf.typ)).bind λms362=>some (.nxt (s2.1,ms362))))):Option (Out _ (List (Option (zi×Option Nat))×List (List (Option (zi×GC))))))) v324 0 (s1.1,s1.2)) λ(s2:List (Option (zi×Option Nat))×List (List (Option (zi×GC))))=>some (s2.1,s2.2)))):Option (List (Option (zi×Option Nat))×List (List (Option (zi×GC))))).bind λv281=>some (.nxt (v281.1,v281.2))):Option (Out _ (List (Option (zi×Option Nat))×List (List (Option (zi×GC))))))) v190 0 (([]:List (Option (zi×Option Nat))),([]:List (List (Option (zi×GC)))))) λ(s1:List (Option (zi×Option Nat))×List (List (Option (zi×GC))))=>some (s1.1,s1.2,v189.1)))))):Option (List (Option (zi×Option Nat))×List (List (Option (zi×GC)))×(List GA))).bind λv8=>((((ww u1).bind λv557=>(if (!v557)=true then none else ((xz u1 ([([42,42]:zi)]:List zi)).bind λv559=>((wc u1).bind λv560=>(lp (zx (λ(n1:Nat) (x1:GJ) (s1:List (Option (zi×Option Nat))×List (List (Option (zi×GC))))=>(((((zV x1.path).bind λv705=>((xB x1.leaf).bind λv706=>(lp (zx (λ(n2:Nat) (x2:zi) (s2:List (Option (zi×Option Nat))×List (List (Option (zi×GC))))=>((if ((zz (λa b=>a==b) none (zG s2.1) x2)).isNone=true then ((yY (GC.mk v705 x1.leaf.typ)).bind λv744=>((oput (λa b=>a==b) (s2.2++[[]]) (zz (λa b=>a==b) none (zG (x7 (λa b=>a==b) s2.1 x2 (some ((s2.2).length)))) x2) v744 (GC.mk v705 x1.leaf.typ)).bind λms745=>some (.nxt ((x7 (λa b=>a==b) s2.1 x2 (some ((s2.2).length))),ms745)))) else ((yY (GC.mk v705 x1.leaf.typ)).bind λv746=>((oput (λa b=>a==b) s2.2 (zz (λa b=>a==b) none (zG s2.1) x2) v746 (GC.mk v705 x1.leaf.typ)).bind λms747=>some (.nxt (s2.1,ms747))))):Option (Out _ (List (Option (zi×Option Nat))×List (List (Option (zi×GC))))))) v706 0 (s1.1,s1.2)) λ(s2:List (Option (zi×Option Nat))×List (List (Option (zi×GC))))=>some (s2.1,s2.2)))):Option (List (Option (zi×Option Nat))×List (List (Option (zi×GC))))).bind λv660=>some (.nxt (v660.1,v660.2))):Option (Out _ (List (Option (zi×Option Nat))×List (List (Option (zi×GC))))))) v560 0 (([]:List (Option (zi×Option Nat))),([]:List (List (Option (zi×GC)))))) λ(s1:List (Option (zi×Option Nat))×List (List (Option (zi×GC))))=>some (s1.1,s1.2,v559.1)))))):Option (List (Option (zi×Option Nat))×List (List (Option (zi×GC)))×(List GA))).bind λv363=>((diffDiff t0 u1).bind λv748=>((if (((((0:Int) != (0:Int)) || ((0:Int) != (0:Int))) || (v748.2 != (0:Int)))==false)=true then ((some ():Option Unit).bind λv1228=>((diffPatch v8.2.2 v748.1).bind λv1229=>(if (v1229.2 != (0:Int))=true then some (v1229.2,v8.1,v8.2.1,v8.2.2) else (lp (zx (λ(n1:Nat) (x1:GH) (s1:List (Option (zi×Option Nat))×List (List (Option (zi×GC))))=>(((((xB x1.was).bind λv1531=>(lp (zx (λ(n2:Nat) (x2:zi) (s2:List (Option (zi×Option Nat))×List (List (Option (zi×GC))))=>(((yY (GC.mk x1.path x1.typ)).bind λv1582=>((odel (λa b=>a==b) s2.2 (zz (λa b=>a==b) none (zG s2.1) x2) v1582).bind λms1583=>((olen ms1583 (zz (λa b=>a==b) none (zG s2.1) x2)).bind λn1585=>(if ((n1585:Int)==(0:Int))=true then some (.nxt ((qP (λa b=>a==b) s2.1 x2),ms1583)) else some (.nxt (s2.1,ms1583)))))):Option (Out _ (List (Option (zi×Option Nat))×List (List (Option (zi×GC))))))) v1531 0 (s1.1,s1.2)) λ(s2:List (Option (zi×Option Nat))×List (List (Option (zi×GC))))=>some (s2.1,s2.2))):Option (List (Option (zi×Option Nat))×List (List (Option (zi×GC))))).bind λv1473=>((((zV x1.path).bind λv1646=>((xB x1.is).bind λv1647=>(lp (zx (λ(n2:Nat) (x2:zi) (s2:List (Option (zi×Option Nat))×List (List (Option (zi×GC))))=>((if ((zz (λa b=>a==b) none (zG s2.1) x2)).isNone=true then ((yY (GC.mk v1646 x1.typ)).bind λv1699=>((oput (λa b=>a==b) (s2.2++[[]]) (zz (λa b=>a==b) none (zG (x7 (λa b=>a==b) s2.1 x2 (some ((s2.2).length)))) x2) v1699 (GC.mk v1646 x1.typ)).bind λms1700=>some (.nxt ((x7 (λa b=>a==b) s2.1 x2 (some ((s2.2).length))),ms1700)))) else ((yY (GC.mk v1646 x1.typ)).bind λv1701=>((oput (λa b=>a==b) s2.2 (zz (λa b=>a==b) none (zG s2.1) x2) v1701 (GC.mk v1646 x1.typ)).bind λms1702=>some (.nxt (s2.1,ms1702))))):Option (Out _ (List (Option (zi×Option Nat))×List (List (Option (zi×GC))))))) v1647 0 (v1473.1,v1473.2)) λ(s2:List (Option (zi×Option Nat))×List (List (Option (zi×GC))))=>some (s2.1,s2.2)))):Option (List (Option (zi×Option Nat))×List (List (Option (zi×GC))))).bind λv1587=>some (.nxt (v1587.1,v1587.2)))):Option (Out _ (List (Option (zi×Option Nat))×List (List (Option (zi×GC))))))) v748.1 0 (v8.1,v8.2.1)) λ(s1:List (Option (zi×Option Nat))×List (List (Option (zi×GC))))=>some ((0:Int),s1.1,s1.2,v1229.1))))) else some (default,v8.1,v8.2.1,v8.2.2):Option (Int×List (Option (zi×Option Nat))×List (List (Option (zi×GC)))×(List GA))).bind λv749=>(if (((((0:Int) != (0:Int)) || ((0:Int) != (0:Int))) || (v748.2 != (0:Int))) || (v749.1 != (0:Int)))=true then some false else ((((some ():Option Unit).bind λv1720=>(allP (zG v749.2.1) λp1=>lp (zx (λ(_:Nat) (x1:(zi×Option Nat)) (s1:Int)=>(((olen v749.2.2.1 x1.2).bind λn1732=>some (.nxt (IntKind.wrap .i64 (s1+(n1732:Int))))):Option (Out _ Int))) p1 0 (0:Int)) λ(s1:Int)=>some (((zG v749.2.1).length:Int),s1))):Option (Int×Int)).bind λv1704=>((((some ():Option Unit).bind λv1750=>(allP (zG v363.1) λp1=>lp (zx (λ(_:Nat) (x1:(zi×Option Nat)) (s1:Int)=>(((olen v363.2.1 x1.2).bind λn1762=>some (.nxt (IntKind.wrap .i64 (s1+(n1762:Int))))):Option (Out _ Int))) p1 0 (0:Int)) λ(s1:Int)=>some (((zG v363.1).length:Int),s1))):Option (Int×Int)).bind λv1734=>((((some ():Option Unit).bind λv1786=>(if (decide ((1000:Int) < (1:Int)))=true then some ([]:List zi) else (allP (zG v363.1) λp1=>lp (zx (λ(_:Nat) (x1:(zi×Option Nat)) (sL1:(List zi))=>(((y6 x1.1 prefix2).bind λv1799=>(if v1799=true then (x6 ((sL1).length+(([x1.1]:List zi)).length<=xe) (some (.nxt (sL1++([x1.1]:List zi))))) else some (.nxt sL1))):Option (Out _ (List zi)))) p1 0 ([]:List zi)) λ(sL1:(List zi))=>((sortS sL1).bind λv1802=>((slc v1802 (0:Int) (if (((sL1).length:Nat):Int) < (1000:Int) then (((sL1).length:Nat):Int) else (1000:Int))).bind λm1804=>((xn m1804).bind λv1805=>some v1805)))))):Option (List zi)).bind λv1764=>((if (((v1704.1 != v1734.1) || (v1704.2 != v1734.2))==false)=true then ((some ():Option Unit).bind λv1828=>(if (decide ((1000:Int) < (1:Int)))=true then some ([]:List zi) else (allP (zG v749.2.1) λp1=>lp (zx (λ(_:Nat) (x1:(zi×Option Nat)) (sL1:(List zi))=>(((y6 x1.1 prefix2).bind λv1841=>(if v1841=true then (x6 ((sL1).length+(([x1.1]:List zi)).length<=xe) (some (.nxt (sL1++([x1.1]:List zi))))) else some (.nxt sL1))):Option (Out _ (List zi)))) p1 0 ([]:List zi)) λ(sL1:(List zi))=>((sortS sL1).bind λv1844=>((slc v1844 (0:Int) (if (((sL1).length:Nat):Int) < (1000:Int) then (((sL1).length:Nat):Int) else (1000:Int))).bind λm1846=>((xn m1846).bind λv1847=>some v1847)))))) else some default:Option (List zi)).bind λv1806=>((if (((v1704.1 != v1734.1) || (v1704.2 != v1734.2))==false)=true then yV v1806 v1764 else some default).bind λv1848=>(if (((v1704.1 != v1734.1) || (v1704.2 != v1734.2)) || (!v1848))=true then some false else (lp (zx (λ(n1:Nat) (x1:zi) (s1:Unit)=>(((((some ():Option Unit).bind λv1979=>((omap v749.2.2.1 (zz (λa b=>a==b) none (zG v749.2.1) x1)).bind λm1980=>(allP (zG m1980) λp2=>lp (zx (λ(_:Nat) (x2:(zi×GC)) (s2:(List GC))=>(((zV x2.2.path).bind λv1991=>(x6 ((s2).length+(([(GC.mk v1991 x2.2.typ)]:List GC)).length<=xe) (some (.nxt (s2++([(GC.mk v1991 x2.2.typ)]:List GC)))))):Option (Out _ (List GC)))) p2 0 ([]:List GC)) λ(s2:(List GC))=>((qv (λx y=>yU x y) s2).bind λv1993=>some v1993)))):Option (List GC)).bind λv1962=>((((some ():Option Unit).bind λv2011=>((omap v363.2.1 (zz (λa b=>a==b) none (zG v363.1) x1)).bind λm2012=>(allP (zG m2012) λp2=>lp (zx (λ(_:Nat) (x2:(zi×GC)) (s2:(List GC))=>(((zV x2.2.path).bind λv2023=>(x6 ((s2).length+(([(GC.mk v2023 x2.2.typ)]:List GC)).length<=xe) (some (.nxt (s2++([(GC.mk v2023 x2.2.typ)]:List GC)))))):Option (Out _ (List GC)))) p2 0 ([]:List GC)) λ(s2:(List GC))=>((qv (λx y=>yU x y) s2).bind λv2025=>some v2025)))):Option (List GC)).bind λv1994=>((ql v1962 v1994).bind λv2026=>((if ((!v2026)==false)=true then ((some ():Option Unit).bind λv2044=>((omap v749.2.2.1 (zz (λa b=>a==b) none (zG v749.2.1) x1)).bind λm2045=>(allP (zG m2045) λp2=>lp (zx (λ(_:Nat) (x2:(zi×GC)) (s2:(List GC))=>(((zV x2.2.path).bind λv2056=>(x6 ((s2).length+(([(GC.mk v2056 x2.2.typ)]:List GC)).length<=xe) (some (.nxt (s2++([(GC.mk v2056 x2.2.typ)]:List GC)))))):Option (Out _ (List GC)))) p2 0 ([]:List GC)) λ(s2:(List GC))=>((qv (λx y=>yU x y) s2).bind λv2058=>some v2058)))) else some default:Option (List GC)).bind λv2027=>(if ((!v2026) || (((v2027).length:Int)==(0:Int)))=true then some (.ret false) else some (.nxt ())))))):Option (Out _ Unit))) v1764 0 ()) λ(s1:Unit)=>((wH).bind λv2061=>some v2061))))))))))))))))))
end
end Go.Vv
