/- What the functions compute, as plain functions; printed by a program from the code. -/
import Derived.Test.YtgeajmfobeecbaaGreatVvU
import Derived.Test.YtgeajmfobeecbaaGreatVvMr
import Derived.Test.YtgeajmfobeecbaaGreatVvRb
import Derived.Test.YtgeajmfobeecbaaGreatVvSo
set_option linter.all false
namespace Go.Vv
noncomputable section
open Go
structure GJ where
 rep:Int
 inc:Int
 deriving DecidableEq,Inhabited
def GJ.eqb (a b:GJ):Bool:=(a.rep==b.rep&&(a.inc==b.inc&&true))
structure GF where
 actor:GJ
 seq:Int
 deriving DecidableEq,Inhabited
def GF.eqb (a b:GF):Bool:=(a.actor.rep==b.actor.rep&&(a.actor.inc==b.actor.inc&&(a.seq==b.seq&&true)))
structure GI where
 time:Int
 dot:GF
 text:zd
 deriving DecidableEq,Inhabited
def GI.eqb (a b:GI):Bool:=(a.time==b.time&&(a.dot.actor.rep==b.dot.actor.rep&&(a.dot.actor.inc==b.dot.actor.inc&&(a.dot.seq==b.dot.seq&&(a.text==b.text&&true)))))
structure GE where
 typ:Int
 n:Int
 time:Int
 dot:GF
 text:zd
 items:(List GI)
 tombs:(List GF)
 deriving DecidableEq,Inhabited
structure GA where
 name:zd
 leaves:(List GE)
 subs:(List GA)
 deriving Inhabited
structure GC where
 path:(List zd)
 typ:Int
 had:Bool
 has:Bool
 was:GE
 is:GE
 deriving DecidableEq,Inhabited
structure GH where
 path:(List zd)
 leaf:GE
 deriving DecidableEq,Inhabited
structure GK where
 path:(List zd)
 l:GE
 deriving DecidableEq,Inhabited
def GJ.wf (x:GJ):Prop:=(InK .u8 x.rep)/\(InK .u32 x.inc)
def GF.wf (x:GF):Prop:=(GJ.wf x.actor)/\(InK .u64 x.seq)
def GI.wf (x:GI):Prop:=(InK .u64 x.time)/\(GF.wf x.dot)/\(x.text.length<=maxLen)
def GE.wf (x:GE):Prop:=(InK .u8 x.typ)/\(InK .i64 x.n)/\(InK .u64 x.time)/\(GF.wf x.dot)/\(x.text.length<=maxLen)/\(x.items.length<=maxLen/\∀y ∈ x.items,GI.wf y)/\(x.tombs.length<=maxLen/\∀y ∈ x.tombs,GF.wf y)
mutual
def GA.wf:GA->Prop
 | ⟨name,leaves,subs⟩=>(name.length<=maxLen)/\(leaves.length<=maxLen/\∀y ∈ leaves,GE.wf y)/\(GA.wfs subs)
def GA.wfs:List GA->Prop
 | []=>True
 | x::r=>x.wf/\GA.wfs r
end
theorem GA.wfs_iff (l:List GA):GA.wfs l ↔ ∀y ∈ l,GA.wf y:=by
 induction l with
 | nil=>simp [GA.wfs]
 | cons x r ih=>simp [GA.wfs,ih]
def GC.wf (x:GC):Prop:=(x.path.length<=maxLen/\∀y ∈ x.path,y.length<=maxLen)/\(InK .u8 x.typ)/\(True)/\(True)/\(GE.wf x.was)/\(GE.wf x.is)
def GH.wf (x:GH):Prop:=(x.path.length<=maxLen/\∀y ∈ x.path,y.length<=maxLen)/\(GE.wf x.leaf)
def GK.wf (x:GK):Prop:=(x.path.length<=maxLen/\∀y ∈ x.path,y.length<=maxLen)/\(GE.wf x.l)
def GJ.bk (x:GJ):Nat:=(1+(1+0))+1
def GF.bk (x:GF):Nat:=(GJ.bk x.actor+(1+0))+1
def GI.bk (x:GI):Nat:=(1+(GF.bk x.dot+((x.text.length+1)+0)))+1
def GE.bk (x:GE):Nat:=(1+(1+(1+(GF.bk x.dot+((x.text.length+1)+(((x.items.map GI.bk).sum+1)+(((x.tombs.map GF.bk).sum+1)+0)))))))+1
mutual
def GA.bk:GA->Nat
 | ⟨name,leaves,subs⟩=>((name.length+1)+(((leaves.map GE.bk).sum+1)+(((GA.bks subs)+1)+0)))+1
def GA.bks:List GA->Nat
 | []=>0
 | x::r=>x.bk+GA.bks r
end
theorem GA.bks_eq (l:List GA):GA.bks l=(l.map GA.bk).sum:=by
 induction l with
 | nil=>rfl
 | cons x r ih=>simp only [GA.bks,uD,rO,ih]
def GC.bk (x:GC):Nat:=(((x.path.map (λs=>s.length+1)).sum+1)+(1+(1+(1+(GE.bk x.was+(GE.bk x.is+0))))))+1
def GH.bk (x:GH):Nat:=(((x.path.map (λs=>s.length+1)).sum+1)+(GE.bk x.leaf+0))+1
def GK.bk (x:GK):Nat:=(((x.path.map (λs=>s.length+1)).sum+1)+(GE.bk x.l+0))+1
abbrev zp:GE:=GE.mk (0:Int) (0:Int) (0:Int) (GF.mk (GJ.mk (0:Int) (0:Int)) (0:Int)) ([]:zd) ([]:List GI) ([]:List GF)
def xh:Nat->(t0:(List GA))->(deep1:Int)->Option Int
 | 0,_,_=>none
 | n+1,t0,deep1=>(lp (yX (λ(s1:Int×Int)=>((if ((decide (s1.2 < ((t0).length:Int)))&&(decide (deep1 < (10:Int))))=true then ((xe t0 s1.2).bind λy68=>((xe t0 s1.2).bind λy70=>((xh n y70.subs (IntKind.wrap .i64 (deep1+(1:Int)))).bind λv71=>(lp (yX (λ(s2:Int×Int)=>(((xe t0 s1.2).bind λy102=>(if (decide (s2.2 < ((y102.leaves).length:Int)))=true then ((xe t0 s1.2).bind λy105=>((xe y105.leaves s2.2).bind λy106=>(lp (zg (λ(n3:Nat) (x3:GI) (s3:Int)=>(some (.nxt (IntKind.wrap .i64 ((IntKind.wrap .i64 (s3+(1:Int)))+((x3.text).length:Int)))):Option (Out _ Int))) y106.items 0 (IntKind.wrap .i64 ((IntKind.wrap .i64 ((IntKind.wrap .i64 (s2.1+(1:Int)))+((y106.text).length:Int)))+((y106.tombs).length:Int)))) λ(s3:Int)=>some (.nxt (s3,(IntKind.wrap .i64 (s2.2+(1:Int)))))))) else some (.brk (s2.1,s2.2)))):Option (Out _ (Int×Int)))) ((IntKind.wrap .i64 ((IntKind.wrap .i64 ((IntKind.wrap .i64 (s1.1+(1:Int)))+((y68.name).length:Int)))+v71)),(0:Int))) λ(s2:Int×Int)=>some (.nxt (s2.1,(IntKind.wrap .i64 (s1.2+(1:Int))))))))) else some (.brk (s1.1,s1.2))):Option (Out _ (Int×Int)))) ((0:Int),(0:Int))) λ(s1:Int×Int)=>some s1.1)
def ref07Xsize (t0:(List GA)) (deep1:Int):Option Int:=anyN λn=>xh n t0 deep1
def vE (t0:(List GA)):Option Bool :=
 ((ref07Xsize t0 (0:Int)).bind λv1=>some (decide (v1 > (1500:Int))))
def qz (l0:(List GC)):Option Bool :=
 (lp (zg (λ(n1:Nat) (x1:GC) (s1:Unit)=>((if (((decide (((x1.path).length:Int) > (5:Int))) || (decide ((IntKind.wrap .i64 (((x1.was.items).length:Int)+((x1.is.items).length:Int))) > (20:Int)))) || (decide ((IntKind.wrap .i64 (((x1.was.tombs).length:Int)+((x1.is.tombs).length:Int))) > (20:Int))))=true then some (.ret true) else (lp (zg (λ(n2:Nat) (x2:zd) (s2:Unit)=>((if (decide (((x2).length:Int) > (20:Int)))=true then some (.ret (.ret true)) else some (.nxt ())):Option (Out _ Unit))) x1.path 0 ()) λ(s2:Unit)=>some (.nxt ()))):Option (Out _ Unit))) l0 0 ()) λ(s1:Unit)=>some (decide (((l0).length:Int) > (20:Int))))
def law31Xgreat (a0:(List GA)) (b1:(List GA)) (c2:(List GA)) (l3:(List GC)) (m4:(List GC)):Option Bool :=
 ((vE a0).bind λv1=>((if (v1==false)=true then vE b1 else some default).bind λv2=>((if ((v1 || v2)==false)=true then vE c2 else some default).bind λv3=>((if (((v1 || v2) || v3)==false)=true then qz l3 else some default).bind λv4=>((if ((((v1 || v2) || v3) || v4)==false)=true then qz m4 else some default).bind λv5=>some ((((v1 || v2) || v3) || v4) || v5))))))
def wB (s10:(List GI)) (s21:(List GI)):Option Bool :=
 (if (((s10).length:Int) != ((s21).length:Int))=true then some false else (lp (zg (λ(n1:Nat) (x1:GI) (s1:Unit)=>(((xe s21 (n1:Int)).bind λy10=>(if (!(x1.time==y10.time&&(x1.dot.actor.rep==y10.dot.actor.rep&&(x1.dot.actor.inc==y10.dot.actor.inc&&(x1.dot.seq==y10.dot.seq&&(x1.text==y10.text&&true))))))=true then some (.ret false) else some (.nxt ()))):Option (Out _ Unit))) s10 0 ()) λ(s1:Unit)=>some true))
def wR (s10:(List GF)) (s21:(List GF)):Option Bool :=
 (if (((s10).length:Int) != ((s21).length:Int))=true then some false else (lp (zg (λ(n1:Nat) (x1:GF) (s1:Unit)=>(((xe s21 (n1:Int)).bind λy10=>(if (!(x1.actor.rep==y10.actor.rep&&(x1.actor.inc==y10.actor.inc&&(x1.seq==y10.seq&&true))))=true then some (.ret false) else some (.nxt ()))):Option (Out _ Unit))) s10 0 ()) λ(s1:Unit)=>some true))
def y6 (a0:GE) (b1:GE):Option Bool :=
 ((if ((((((a0.typ==b1.typ)&&(a0.n==b1.n))&&(a0.time==b1.time))&&(a0.dot.actor.rep==b1.dot.actor.rep&&(a0.dot.actor.inc==b1.dot.actor.inc&&(a0.dot.seq==b1.dot.seq&&true))))&&(a0.text==b1.text))==true)=true then wB a0.items b1.items else some default).bind λv1=>((if (((((((a0.typ==b1.typ)&&(a0.n==b1.n))&&(a0.time==b1.time))&&(a0.dot.actor.rep==b1.dot.actor.rep&&(a0.dot.actor.inc==b1.dot.actor.inc&&(a0.dot.seq==b1.dot.seq&&true))))&&(a0.text==b1.text))&&v1)==true)=true then wR a0.tombs b1.tombs else some default).bind λv2=>some (((((((a0.typ==b1.typ)&&(a0.n==b1.n))&&(a0.time==b1.time))&&(a0.dot.actor.rep==b1.dot.actor.rep&&(a0.dot.actor.inc==b1.dot.actor.inc&&(a0.dot.seq==b1.dot.seq&&true))))&&(a0.text==b1.text))&&v1)&&v2)))
def yB (s0:(List zd)):Option (List zd) :=
 (nilq s0 λb1=>(if b1=true then some ([]:List zd) else (yw ((([]:List zd)).length+(s0).length<=yN) (some (([]:List zd)++s0)))))
def yP (s0:(List GI)):Option (List GI) :=
 (nilq s0 λb1=>(if b1=true then some ([]:List GI) else (yw ((([]:List GI)).length+(s0).length<=yN) (some (([]:List GI)++s0)))))
def y4 (s0:(List GF)):Option (List GF) :=
 (nilq s0 λb1=>(if b1=true then some ([]:List GF) else (yw ((([]:List GF)).length+(s0).length<=yN) (some (([]:List GF)++s0)))))
def vz (l0:GE):Option GE :=
 ((yP l0.items).bind λv1=>((y4 l0.tombs).bind λv2=>some (GE.mk l0.typ l0.n l0.time l0.dot l0.text v1 v2)))
def x4 (e0:GC):Option GC :=
 ((yB e0.path).bind λv1=>((vz e0.was).bind λv2=>((vz e0.is).bind λv3=>some (GC.mk v1 e0.typ e0.had e0.has v2 v3))))
def xz (x0:zd):Option Bool :=
 some (!(x0==x0))
def yA (x0:zd) (y1:zd):Option Int :=
 ((xz x0).bind λv1=>((xz y1).bind λv2=>(if v1=true then (if v2=true then some (0:Int) else some (-1:Int)) else (if v2=true then some (1:Int) else (if (Op.bytesLess x0 y1)=true then some (-1:Int) else (if (!(Op.bytesLess x0 y1 || x0==y1))=true then some (1:Int) else some (0:Int)))))))
def yJ (s10:(List zd)) (s21:(List zd)):Option Int :=
 (lp (zg (λ(n1:Nat) (x1:zd) (s1:Unit)=>((if (decide ((n1:Int) >= ((s21).length:Int)))=true then some (.ret (1:Int)) else ((xe s21 (n1:Int)).bind λy12=>((yA x1 y12).bind λv13=>(if (v13 != (0:Int))=true then some (.ret v13) else some (.nxt ()))))):Option (Out _ Unit))) s10 0 ()) λ(s1:Unit)=>(if (decide (((s10).length:Int) < ((s21).length:Int)))=true then some (-1:Int) else some (0:Int)))
def w9 (x0:Int):Option Bool :=
 some (x0 != x0)
def xA (x0:Int) (y1:Int):Option Int :=
 ((w9 x0).bind λv1=>((w9 y1).bind λv2=>(if v1=true then (if v2=true then some (0:Int) else some (-1:Int)) else (if v2=true then some (1:Int) else (if (decide (x0 < y1))=true then some (-1:Int) else (if (decide (x0 > y1))=true then some (1:Int) else some (0:Int)))))))
def cmpOrInt (vals0:(List Int)):Option Int :=
 (lp (zg (λ(n1:Nat) (x1:Int) (s1:Unit)=>((if (x1 != (0:Int))=true then some (.ret x1) else some (.nxt ())):Option (Out _ Unit))) vals0 0 ()) λ(s1:Unit)=>some (0:Int))
def wz (a0:GC) (b1:GC):Option Int :=
 ((yJ a0.path b1.path).bind λv1=>((xA a0.typ b1.typ).bind λv2=>((cmpOrInt ([v1,v2]:List Int)).bind λv3=>some v3)))
/-- slices.SortFunc[[]varve/api.Edit,varve/api.Edit]: sortO -/
def slicesSortFuncEditX:Unit:=()
def xk (byy0:List (zd×GC)):Option (List GC) :=
 (allP byy0 λp1=>lp (zg (λ(_:Nat) (x1:(zd×GC)) (s1:(List GC))=>(((if ((x1.2.had==x1.2.has)==true)=true then y6 x1.2.was x1.2.is else some default).bind λv7=>(if (!((x1.2.had==x1.2.has)&&v7))=true then ((x4 x1.2).bind λv9=>(yw ((s1).length+(([v9]:List GC)).length<=yN) (some (.nxt (s1++([v9]:List GC)))))) else some (.nxt s1))):Option (Out _ (List GC)))) p1 0 ([]:List GC)) λ(s1:(List GC))=>((sortO (λx y=>wz x y) s1).bind λv11=>some v11))
def qF (r0:Int):Option Bool :=
 some ((((decide (r0 < (97:Int))) || (decide (r0 > (122:Int))))&&((decide (r0 < (65:Int))) || (decide (r0 > (90:Int)))))&&((decide (r0 < (48:Int))) || (decide (r0 > (57:Int)))))
def wM (s0:zd) (f1:(Int->Option Bool)) (truth2:Bool):Option Int :=
 (lp (yX (λ(s1:Nat)=>((if s1 < (s0).length then ((f1 ((dec s0 s1).1:Int)).bind λv6=>(if (v6==truth2)=true then some (.ret (s1:Int)) else some (.nxt (s1+(dec s0 s1).2)))) else some (.brk s1)):Option (Out _ Nat))) 0) λ(s1:Nat)=>some (-1:Int))
def ve (s0:zd) (f1:(Int->Option Bool)):Option Int :=
 ((wM s0 f1 true).bind λv1=>some v1)
def xB (s0:zd) (f1:(Int->Option Bool)):Option Bool :=
 ((ve s0 f1).bind λv1=>some (decide (v1 >= (0:Int))))
def opIsName (s0:zd):Option Bool :=
 ((if (((decide (((s0).length:Int) >= (1:Int)))&&(decide (((s0).length:Int)<=(12:Int))))==true)=true then xB s0 (λx0=>qF x0) else some default).bind λv3=>some (((decide (((s0).length:Int) >= (1:Int)))&&(decide (((s0).length:Int)<=(12:Int))))&&(!v3)))
def leafXisTime (n0:Int):Option Bool :=
 some ((decide (n0 >= (1:Int)))&&(decide (n0<=(1099511627776:Int))))
def dotMayActor (a0:GJ):Option Bool :=
 some (((decide (a0.rep < (16:Int)))&&(decide (a0.inc >= (1:Int))))&&(decide (a0.inc<=(4:Int))))
def dotMay (d0:GF):Option Bool :=
 ((dotMayActor d0.actor).bind λv1=>some ((v1&&(decide (d0.seq >= (1:Int))))&&(decide (d0.seq<=(1048576:Int)))))
def vX (s0:zd):Option Bool :=
 some (decide (((s0).length:Int)<=(40:Int)))
def wF (x0:Int):Option Bool :=
 some (x0 != x0)
def xI (x0:Int) (y1:Int):Option Int :=
 ((wF x0).bind λv1=>((wF y1).bind λv2=>(if v1=true then (if v2=true then some (0:Int) else some (-1:Int)) else (if v2=true then some (1:Int) else (if (decide (x0 < y1))=true then some (-1:Int) else (if (decide (x0 > y1))=true then some (1:Int) else some (0:Int)))))))
def wG (x0:Int):Option Bool :=
 some (x0 != x0)
def wm (x0:Int) (y1:Int):Option Int :=
 ((wG x0).bind λv1=>((wG y1).bind λv2=>(if v1=true then (if v2=true then some (0:Int) else some (-1:Int)) else (if v2=true then some (1:Int) else (if (decide (x0 < y1))=true then some (-1:Int) else (if (decide (x0 > y1))=true then some (1:Int) else some (0:Int)))))))
def dotXcompare (a0:GJ) (b1:GJ):Option Int :=
 ((xA a0.rep b1.rep).bind λv1=>((wm a0.inc b1.inc).bind λv2=>((cmpOrInt ([v1,v2]:List Int)).bind λv3=>some v3)))
def qL (a0:GF) (b1:GF):Option Int :=
 ((dotXcompare a0.actor b1.actor).bind λv1=>((xI a0.seq b1.seq).bind λv2=>((cmpOrInt ([v1,v2]:List Int)).bind λv3=>some v3)))
def leafXcompare (a0:Int) (d1:GF) (b2:Int) (o3:GF):Option Int :=
 ((xI a0 b2).bind λv1=>((qL d1 o3).bind λv2=>((cmpOrInt ([v1,v2]:List Int)).bind λv3=>some v3)))
def leafAhead (time0:Int) (d1:GF) (other2:Int) (o3:GF):Option Bool :=
 ((leafXcompare time0 d1 other2 o3).bind λv1=>some (decide (v1 < (0:Int))))
def leafXtwice (l0:(List GI)):Option Bool :=
 (lp (zg (λ(n1:Nat) (x1:GI) (s1:List (GF×Int))=>(some (.nxt (mput GF.eqb s1 x1.dot (IntKind.wrap .i64 ((ze GF.eqb (0:Int) s1 x1.dot)+(1:Int))))):Option (Out _ (List (GF×Int))))) l0 0 ([]:List (GF×Int))) λ(s1:List (GF×Int))=>some (decide (((s1).length:Int) < ((l0).length:Int))))
def qI (l0:(List GI)) (timed1:Bool):Option Bool :=
 (lp (zg (λ(n1:Nat) (x1:GI) (s1:Unit)=>(((dotMay x1.dot).bind λv13=>((if ((!v13)==false)=true then vX x1.text else some default).bind λv14=>((if (((!v13) || (!v14))==false)=true then leafXisTime x1.time else some default).bind λv15=>(if ((((!v13) || (!v14)) || (!(timed1==v15))) || ((!timed1)&&(x1.time != (0:Int))))=true then some (.ret false) else (yw (((decide ((n1:Int) > (0:Int)))==true)=true->0<=(IntKind.wrap .i64 ((n1:Int) - (1:Int)))/\(IntKind.wrap .i64 ((n1:Int) - (1:Int))) < ((l0).length:Int)) ((yw (((decide ((n1:Int) > (0:Int)))==true)=true->0<=(IntKind.wrap .i64 ((n1:Int) - (1:Int)))/\(IntKind.wrap .i64 ((n1:Int) - (1:Int))) < ((l0).length:Int)) (((if ((decide ((n1:Int) > (0:Int)))==true)=true then leafAhead (((l0).getD (IntKind.wrap .i64 ((n1:Int) - (1:Int))).toNat default).time) (((l0).getD (IntKind.wrap .i64 ((n1:Int) - (1:Int))).toNat default).dot) x1.time x1.dot else some default).bind λv19=>(if ((decide ((n1:Int) > (0:Int)))&&(!v19))=true then some (.ret false) else some (.nxt ()))))))))))):Option (Out _ Unit))) l0 0 ()) λ(s1:Unit)=>((leafXtwice l0).bind λv21=>some (!v21)))
def wh (s0:(List GI)) (f1:(GI->Option Bool)):Option Int :=
 (lp (zg (λ(n1:Nat) (x1:GI) (s1:Unit)=>(((f1 x1).bind λv7=>(if v7=true then some (.ret (n1:Int)) else some (.nxt ()))):Option (Out _ Unit))) s0 0 ()) λ(s1:Unit)=>some (-1:Int))
def yZ (s0:(List GI)) (f1:(GI->Option Bool)):Option Bool :=
 ((wh s0 f1).bind λv1=>some (decide (v1 >= (0:Int))))
def leafXhasC1 (x0:GI) (c0:GF):Option Bool :=
 some (x0.dot.actor.rep==c0.actor.rep&&(x0.dot.actor.inc==c0.actor.inc&&(x0.dot.seq==c0.seq&&true)))
def leafXhas (l0:(List GI)) (d1:GF):Option Bool :=
 ((yZ l0 (λx0=>leafXhasC1 x0 d1)).bind λv1=>some v1)
def leafXtombs (l0:GE):Option Bool :=
 (lp (zg (λ(n1:Nat) (x1:GF) (s1:Unit)=>(((dotMay x1).bind λv19=>(yw ((((!v19)==false)&&((decide ((n1:Int) > (0:Int)))==true))=true->0<=(IntKind.wrap .i64 ((n1:Int) - (1:Int)))/\(IntKind.wrap .i64 ((n1:Int) - (1:Int))) < ((l0.tombs).length:Int)) (((if (((!v19)==false)&&((decide ((n1:Int) > (0:Int)))==true))=true then qL ((l0.tombs).getD (IntKind.wrap .i64 ((n1:Int) - (1:Int))).toNat default) x1 else some default).bind λv21=>((if (((!v19) || ((decide ((n1:Int) > (0:Int)))&&(decide (v21 >= (0:Int)))))==false)=true then leafXhas l0.items x1 else some default).bind λv22=>(if (((!v19) || ((decide ((n1:Int) > (0:Int)))&&(decide (v21 >= (0:Int))))) || v22)=true then some (.ret false) else some (.nxt ()))))))):Option (Out _ Unit))) l0.tombs 0 ()) λ(s1:Unit)=>some true)
def leafMay (l0:GE):Option Bool :=
 (if (l0.typ==(1:Int))=true then ((y6 l0 (GE.mk l0.typ l0.n (0:Int) (GF.mk (GJ.mk (0:Int) (0:Int)) (0:Int)) ([]:zd) ([]:List GI) ([]:List GF))).bind λv2=>some v2) else (if (l0.typ==(2:Int))=true then ((if ((l0.time != (0:Int))==true)=true then leafXisTime l0.time else some default).bind λv4=>((if (((l0.time != (0:Int))==true)&&(v4==true))=true then dotMay l0.dot else some default).bind λv5=>((if (((l0.time != (0:Int))==true)&&((v4&&v5)==true))=true then vX l0.text else some default).bind λv6=>(if (((l0.time != (0:Int))&&(!((v4&&v5)&&v6))) || ((l0.time==(0:Int))&&((!(l0.dot.actor.rep==(0:Int)&&(l0.dot.actor.inc==(0:Int)&&(l0.dot.seq==(0:Int)&&true)))) || (!(l0.text==([]:zd))))))=true then some false else ((y6 l0 (GE.mk l0.typ (0:Int) l0.time l0.dot l0.text ([]:List GI) ([]:List GF))).bind λv8=>some v8))))) else (if (l0.typ==(3:Int))=true then ((qI l0.items false).bind λv10=>((if ((!v10)==false)=true then leafXtombs l0 else some default).bind λv11=>(if ((!v10) || (!v11))=true then some false else ((y6 l0 (GE.mk l0.typ (0:Int) (0:Int) (GF.mk (GJ.mk (0:Int) (0:Int)) (0:Int)) ([]:zd) l0.items l0.tombs)).bind λv13=>some v13)))) else (if (l0.typ==(4:Int))=true then ((qI l0.items true).bind λv15=>(if (!v15)=true then some false else ((y6 l0 (GE.mk l0.typ (0:Int) (0:Int) (GF.mk (GJ.mk (0:Int) (0:Int)) (0:Int)) ([]:zd) l0.items ([]:List GF))).bind λv17=>some v17))) else some false))))
def vM:Nat->(t0:(List GA))->(deep1:Int)->Option Bool
 | 0,_,_=>none
 | n+1,t0,deep1=>(if ((decide (((t0).length:Int) > (0:Int)))&&(deep1==(3:Int)))=true then some false else (lp (zg (λ(n1:Nat) (x1:GA) (s1:Unit)=>(((opIsName x1.name).bind λv27=>(yw ((((!v27)==false)&&((decide ((n1:Int) > (0:Int)))==true))=true->0<=(IntKind.wrap .i64 ((n1:Int) - (1:Int)))/\(IntKind.wrap .i64 ((n1:Int) - (1:Int))) < ((t0).length:Int)) (((if ((((!v27) || ((decide ((n1:Int) > (0:Int)))&&(!(Op.bytesLess (((t0).getD (IntKind.wrap .i64 ((n1:Int) - (1:Int))).toNat default).name) x1.name)))) || ((IntKind.wrap .i64 (((x1.leaves).length:Int)+((x1.subs).length:Int)))==(0:Int)))==false)=true then vM n x1.subs (IntKind.wrap .i64 (deep1+(1:Int))) else some default).bind λv31=>(if ((((!v27) || ((decide ((n1:Int) > (0:Int)))&&(!(Op.bytesLess (((t0).getD (IntKind.wrap .i64 ((n1:Int) - (1:Int))).toNat default).name) x1.name)))) || ((IntKind.wrap .i64 (((x1.leaves).length:Int)+((x1.subs).length:Int)))==(0:Int))) || (!v31))=true then some (.ret false) else (lp (zg (λ(n2:Nat) (x2:GE) (s2:Unit)=>(((leafMay x2).bind λv43=>(yw ((((!v43)==false)&&((decide ((n2:Int) > (0:Int)))==true))=true->0<=(IntKind.wrap .i64 ((n2:Int) - (1:Int)))/\(IntKind.wrap .i64 ((n2:Int) - (1:Int))) < ((x1.leaves).length:Int)) ((if ((!v43) || ((decide ((n2:Int) > (0:Int)))&&(decide (((x1.leaves).getD (IntKind.wrap .i64 ((n2:Int) - (1:Int))).toNat default).typ >= x2.typ))))=true then some (.ret (.ret false)) else some (.nxt ()))))):Option (Out _ Unit))) x1.leaves 0 ()) λ(s2:Unit)=>some (.nxt ()))))))):Option (Out _ Unit))) t0 0 ()) λ(s1:Unit)=>some true))
def treeXmay (t0:(List GA)) (deep1:Int):Option Bool:=anyN λn=>vM n t0 deep1
def vB (t0:(List GA)):Option Bool :=
 ((treeXmay t0 (0:Int)).bind λv1=>some v1)
def qD (t0:(List GA)) (ahead1:(List zd)):Option ((List GA)×(List zd)) :=
 some (t0,ahead1)
def pathsXown (l0:GE):Option GE :=
 ((yP l0.items).bind λv1=>((y4 l0.tombs).bind λv2=>some (GE.mk l0.typ l0.n l0.time l0.dot l0.text v1 v2)))
def wc:Nat->(S:Type)->(yield0:S->GH->Option (Bool×S))->(c0:(List GA))->(c1:(List zd))->(s0:S)->Option S
 | 0,_,_,_,_,_=>none
 | n+1,S,yield0,c0,c1,s0=>(lp (zg (λ(n1:Nat) (x1:GA) (s1:S)=>(((yB c1).bind λv37=>(yw ((v37).length+(([x1.name]:List zd)).length<=yN) ((lp (zg (λ(n2:Nat) (x2:GE) (s2:S)=>(((yB (v37++([x1.name]:List zd))).bind λv51=>((pathsXown x2).bind λv52=>((yield0 s2 (GH.mk v51 v52)).bind λv53=>(if (!v53.1)=true then some (.ret (.ret v53.2)) else some (.nxt v53.2))))):Option (Out _ S))) x1.leaves 0 s1) λ(s2:S)=>((qD x1.subs (v37++([x1.name]:List zd))).bind λv55=>(rng (wc n _ (stp (λ(s3:S) (x3:GH)=>(((yield0 s3 x3).bind λv64=>(if (!v64.1)=true then some (false,(v64.2,some 0)) else some (true,(v64.2,none)))):Option (Bool×(S×Option Nat))))) v55.1 v55.2 (s2,none)) (λ(s3:S)=>some (.nxt s3)) (λ(j3:Nat) (s3:S)=>if j3=0 then some (.ret s3) else none))))))):Option (Out _ S))) c0 0 s0) λ(s1:S)=>some s1)
def pathsXrowsC1 (S:Type) (yield0:S->GH->Option (Bool×S)) (c0:(List GA)) (c1:(List zd)) (s0:S):Option S:=anyN λn=>wc n S yield0 c0 c1 s0
def wt (s0:(List GH)) (seq1:(S:Type)->(S->GH->Option (Bool×S))->S->Option S):Option (List GH) :=
 (rng (seq1 _ (stp (λ(s1:(List GH)) (x1:GH)=>((yw ((s1).length+(([x1]:List GH)).length<=yN) (some (true,((s1++([x1]:List GH)),none)))):Option (Bool×((List GH)×Option Nat))))) (s0,none)) (λ(s1:(List GH))=>some s1) (λ_ _=>none))
def vf (seq0:(S:Type)->(S->GH->Option (Bool×S))->S->Option S):Option (List GH) :=
 ((wt ([]:List GH) seq0).bind λv1=>some v1)
def vU (t0:(List GA)):Option (List GH) :=
 ((vB t0).bind λv1=>(if (!v1)=true then some ([]:List GH) else ((qD t0 ([]:List zd)).bind λv3=>((vf (λS y s=>pathsXrowsC1 S y v3.1 v3.2 s)).bind λv4=>some v4))))
/-- strings.Join -/
def stringsJoin (p0:List zd) (p1:zd):Option zd:=strJoin p0 p1
def xZ (path0:(List zd)) (kind1:Int):Option zd :=
 ((stringsJoin path0 ([0]:zd)).bind λv1=>(yw ((v1).length+(([0]:zd)).length<=maxLen) ((yw (0<=kind1/\kind1 < 256) ((yw ((([(UInt8.ofNat kind1.toNat)]:List UInt8)).length<=maxLen) ((yw (((v1++([0]:zd))).length+(([(UInt8.ofNat kind1.toNat)]:List UInt8)).length<=maxLen) (some ((v1++([0]:zd))++([(UInt8.ofNat kind1.toNat)]:List UInt8)))))))))))
def wE (a0:(List GA)) (b1:(List GA)):Option ((List GC)×Int) :=
 ((vB a0).bind λv1=>((if ((!v1)==false)=true then vB b1 else some default).bind λv2=>(if ((!v1) || (!v2))=true then some (([]:List GC),(2:Int)) else ((vU a0).bind λv4=>(lp (zg (λ(n1:Nat) (x1:GH) (s1:List (zd×GC))=>(((xZ x1.path x1.leaf.typ).bind λv11=>some (.nxt (yC (λa b=>a==b) s1 v11 (GC.mk x1.path x1.leaf.typ true false x1.leaf zp)))):Option (Out _ (List (zd×GC))))) v4 0 ([]:List (zd×GC))) λ(s1:List (zd×GC))=>((vU b1).bind λv12=>(lp (zg (λ(n2:Nat) (x2:GH) (s2:List (zd×GC))=>(((xZ x2.path x2.leaf.typ).bind λv20=>((xZ x2.path x2.leaf.typ).bind λv21=>some (.nxt (yC (λa b=>a==b) s2 v21 (GC.mk x2.path x2.leaf.typ ((ze (λa b=>a==b) (GC.mk ([]:List zd) (0:Int) false false zp zp) s2 v20).had) true ((ze (λa b=>a==b) (GC.mk ([]:List zd) (0:Int) false false zp zp) s2 v20).was) x2.leaf))))):Option (Out _ (List (zd×GC))))) v12 0 s1) λ(s2:List (zd×GC))=>((xk s2).bind λv22=>some (v22,(0:Int))))))))))
def vY  : Option Bool :=
 ((wE ([]:List GA) ([(GA.mk ([97]:zd) ([(GE.mk (1:Int) (5:Int) (0:Int) (GF.mk (GJ.mk (0:Int) (0:Int)) (0:Int)) ([]:zd) ([]:List GI) ([]:List GF))]:List GE) ([]:List GA))]:List GA)).bind λv1=>((wE ([(GA.mk ([97]:zd) ([(GE.mk (1:Int) (5:Int) (0:Int) (GF.mk (GJ.mk (0:Int) (0:Int)) (0:Int)) ([]:zd) ([]:List GI) ([]:List GF))]:List GE) ([]:List GA))]:List GA) ([(GA.mk ([97]:zd) ([(GE.mk (1:Int) (5:Int) (0:Int) (GF.mk (GJ.mk (0:Int) (0:Int)) (0:Int)) ([]:zd) ([]:List GI) ([]:List GF))]:List GE) ([]:List GA))]:List GA)).bind λv2=>(yw (((((v1.2==(0:Int))&&(v2.2==(0:Int)))&&(((v1.1).length:Int)==(1:Int)))==true)=true->0<=(0:Int)/\(0:Int) < ((v1.1).length:Int)) ((yw ((((((v1.2==(0:Int))&&(v2.2==(0:Int)))&&(((v1.1).length:Int)==(1:Int)))&&(!((v1.1).getD (0:Int).toNat default).had))==true)=true->0<=(0:Int)/\(0:Int) < ((v1.1).length:Int)) ((yw (((((((v1.2==(0:Int))&&(v2.2==(0:Int)))&&(((v1.1).length:Int)==(1:Int)))&&(!((v1.1).getD (0:Int).toNat default).had))&&((v1.1).getD (0:Int).toNat default).has)==true)=true->0<=(0:Int)/\(0:Int) < ((v1.1).length:Int)) (some (((((((v1.2==(0:Int))&&(v2.2==(0:Int)))&&(((v1.1).length:Int)==(1:Int)))&&(!((v1.1).getD (0:Int).toNat default).had))&&((v1.1).getD (0:Int).toNat default).has)&&(((v1.1).getD (0:Int).toNat default).is.n==(5:Int)))&&(((v2.1).length:Int)==(0:Int)))))))))))
def vS (s0:zd):Option Bool :=
 (if ((decide (((s0).length:Int) < (1:Int))) || (decide (((s0).length:Int) > (12:Int))))=true then some false else (lp (zg (λ(n1:Nat) (x1:UInt8) (s1:Unit)=>((if (!((((decide ((x1.toNat:Int) >= (97:Int)))&&(decide ((x1.toNat:Int)<=(122:Int)))) || ((decide ((x1.toNat:Int) >= (65:Int)))&&(decide ((x1.toNat:Int)<=(90:Int))))) || ((decide ((x1.toNat:Int) >= (48:Int)))&&(decide ((x1.toNat:Int)<=(57:Int))))))=true then some (.ret false) else some (.nxt ())):Option (Out _ Unit))) s0 0 ()) λ(s1:Unit)=>some true))
def vr (a0:GJ):Option Bool :=
 some (((decide (a0.rep<=(15:Int)))&&(decide (a0.inc >= (1:Int))))&&(decide (a0.inc<=(4:Int))))
def ref03May (d0:GF):Option Bool :=
 ((vr d0.actor).bind λv1=>some ((v1&&(decide (d0.seq >= (1:Int))))&&(decide (d0.seq<=(1048576:Int)))))
def ref05Item (l0:(List GI)) (d1:GF):Option Int :=
 (lp (zg (λ(n1:Nat) (x1:GI) (s1:Unit)=>((if (x1.dot.actor.rep==d1.actor.rep&&(x1.dot.actor.inc==d1.actor.inc&&(x1.dot.seq==d1.seq&&true)))=true then some (.ret (n1:Int)) else some (.nxt ())):Option (Out _ Unit))) l0 0 ()) λ(s1:Unit)=>some (-1:Int))
def ref05Tomb (l0:(List GF)) (d1:GF):Option Bool :=
 (lp (zg (λ(n1:Nat) (x1:GF) (s1:Unit)=>((if (x1.actor.rep==d1.actor.rep&&(x1.actor.inc==d1.actor.inc&&(x1.seq==d1.seq&&true)))=true then some (.ret true) else some (.nxt ())):Option (Out _ Unit))) l0 0 ()) λ(s1:Unit)=>some false)
def ref03Less (a0:GF) (b1:GF):Option Bool :=
 (if (a0.actor.rep != b1.actor.rep)=true then some (decide (a0.actor.rep < b1.actor.rep)) else (if (a0.actor.inc != b1.actor.inc)=true then some (decide (a0.actor.inc < b1.actor.inc)) else some (decide (a0.seq < b1.seq))))
def ref05Ahead (time0:Int) (d1:GF) (other2:Int) (o3:GF):Option Bool :=
 (if (time0 != other2)=true then some (decide (time0 < other2)) else ((ref03Less d1 o3).bind λv2=>some v2))
def ref05May (l0:GE):Option Bool :=
 (if (((((decide (l0.typ < (1:Int))) || (decide (l0.typ > (4:Int)))) || ((l0.typ != (1:Int))&&(l0.n != (0:Int)))) || ((decide (l0.typ < (3:Int)))&&(decide (((l0.items).length:Int) > (0:Int))))) || ((l0.typ != (3:Int))&&(decide (((l0.tombs).length:Int) > (0:Int)))))=true then some false else (lp ((if ((l0.typ != (2:Int)) || (l0.time==(0:Int)))=true then (if (((l0.time != (0:Int)) || (!(l0.dot.actor.rep==(0:Int)&&(l0.dot.actor.inc==(0:Int)&&(l0.dot.seq==(0:Int)&&true))))) || (!(l0.text==([]:zd))))=true then some (.inl false) else some (.inr ())) else ((if ((decide (l0.time > (1099511627776:Int)))==false)=true then ref03May l0.dot else some default).bind λv11=>(if (((decide (l0.time > (1099511627776:Int))) || (!v11)) || (decide (((l0.text).length:Int) > (40:Int))))=true then some (.inl false) else some (.inr ())))):Option (_ ⊕ Unit)) λ(s1:Unit)=>(lp (zg (λ(n2:Nat) (x2:GI) (s2:Unit)=>(((ref03May x2.dot).bind λv41=>((if (((((!v41) || (decide (((x2.text).length:Int) > (40:Int)))) || ((l0.typ==(3:Int))&&(x2.time != (0:Int)))) || ((l0.typ==(4:Int))&&((decide (x2.time < (1:Int))) || (decide (x2.time > (1099511627776:Int))))))==false)=true then ref05Item l0.items x2.dot else some default).bind λv43=>((if ((((((!v41) || (decide (((x2.text).length:Int) > (40:Int)))) || ((l0.typ==(3:Int))&&(x2.time != (0:Int)))) || ((l0.typ==(4:Int))&&((decide (x2.time < (1:Int))) || (decide (x2.time > (1099511627776:Int)))))) || (v43 != (n2:Int)))==false)=true then ref05Tomb l0.tombs x2.dot else some default).bind λv44=>(if ((((((!v41) || (decide (((x2.text).length:Int) > (40:Int)))) || ((l0.typ==(3:Int))&&(x2.time != (0:Int)))) || ((l0.typ==(4:Int))&&((decide (x2.time < (1:Int))) || (decide (x2.time > (1099511627776:Int)))))) || (v43 != (n2:Int))) || v44)=true then some (.ret false) else (yw (((decide ((n2:Int) > (0:Int)))==true)=true->0<=(IntKind.wrap .i64 ((n2:Int) - (1:Int)))/\(IntKind.wrap .i64 ((n2:Int) - (1:Int))) < ((l0.items).length:Int)) ((yw (((decide ((n2:Int) > (0:Int)))==true)=true->0<=(IntKind.wrap .i64 ((n2:Int) - (1:Int)))/\(IntKind.wrap .i64 ((n2:Int) - (1:Int))) < ((l0.items).length:Int)) (((if ((decide ((n2:Int) > (0:Int)))==true)=true then ref05Ahead (((l0.items).getD (IntKind.wrap .i64 ((n2:Int) - (1:Int))).toNat default).time) (((l0.items).getD (IntKind.wrap .i64 ((n2:Int) - (1:Int))).toNat default).dot) x2.time x2.dot else some default).bind λv48=>(if ((decide ((n2:Int) > (0:Int)))&&(!v48))=true then some (.ret false) else some (.nxt ()))))))))))):Option (Out _ Unit))) l0.items 0 ()) λ(s2:Unit)=>(lp (zg (λ(n3:Nat) (x3:GF) (s3:Unit)=>(((ref03May x3).bind λv73=>(yw ((((!v73)==false)&&((decide ((n3:Int) > (0:Int)))==true))=true->0<=(IntKind.wrap .i64 ((n3:Int) - (1:Int)))/\(IntKind.wrap .i64 ((n3:Int) - (1:Int))) < ((l0.tombs).length:Int)) ((yw ((((!v73)==false)&&((decide ((n3:Int) > (0:Int)))==true))=true->0<=(n3:Int)/\(n3:Int) < ((l0.tombs).length:Int)) (((if (((!v73)==false)&&((decide ((n3:Int) > (0:Int)))==true))=true then ref03Less ((l0.tombs).getD (IntKind.wrap .i64 ((n3:Int) - (1:Int))).toNat default) ((l0.tombs).getD (n3:Int).toNat default) else some default).bind λv76=>(if ((!v73) || ((decide ((n3:Int) > (0:Int)))&&(!v76)))=true then some (.ret false) else some (.nxt ())))))))):Option (Out _ Unit))) l0.tombs 0 ()) λ(s3:Unit)=>some true))))
def wV:Nat->(t0:(List GA))->(deep1:Int)->Option Bool
 | 0,_,_=>none
 | n+1,t0,deep1=>(lp (zg (λ(n1:Nat) (x1:GA) (s1:Unit)=>(((if ((decide (deep1 >= (3:Int)))==false)=true then vS x1.name else some default).bind λv31=>(yw (((((decide (deep1 >= (3:Int))) || (!v31))==false)&&((decide ((n1:Int) > (0:Int)))==true))=true->0<=(IntKind.wrap .i64 ((n1:Int) - (1:Int)))/\(IntKind.wrap .i64 ((n1:Int) - (1:Int))) < ((t0).length:Int)) (((if (((((decide (deep1 >= (3:Int))) || (!v31)) || ((decide ((n1:Int) > (0:Int)))&&(!(Op.bytesLess (((t0).getD (IntKind.wrap .i64 ((n1:Int) - (1:Int))).toNat default).name) x1.name)))) || ((((x1.leaves).length:Int)==(0:Int))&&(((x1.subs).length:Int)==(0:Int))))==false)=true then wV n x1.subs (IntKind.wrap .i64 (deep1+(1:Int))) else some default).bind λv35=>(if (((((decide (deep1 >= (3:Int))) || (!v31)) || ((decide ((n1:Int) > (0:Int)))&&(!(Op.bytesLess (((t0).getD (IntKind.wrap .i64 ((n1:Int) - (1:Int))).toNat default).name) x1.name)))) || ((((x1.leaves).length:Int)==(0:Int))&&(((x1.subs).length:Int)==(0:Int)))) || (!v35))=true then some (.ret false) else (lp (zg (λ(n2:Nat) (x2:GE) (s2:Unit)=>(((ref05May x2).bind λv50=>(yw ((((!v50)==false)&&((decide ((n2:Int) > (0:Int)))==true))=true->0<=(IntKind.wrap .i64 ((n2:Int) - (1:Int)))/\(IntKind.wrap .i64 ((n2:Int) - (1:Int))) < ((x1.leaves).length:Int)) ((yw ((((!v50)==false)&&((decide ((n2:Int) > (0:Int)))==true))=true->0<=(n2:Int)/\(n2:Int) < ((x1.leaves).length:Int)) ((if ((!v50) || ((decide ((n2:Int) > (0:Int)))&&(decide (((x1.leaves).getD (IntKind.wrap .i64 ((n2:Int) - (1:Int))).toNat default).typ >= ((x1.leaves).getD (n2:Int).toNat default).typ))))=true then some (.ret (.ret false)) else some (.nxt ()))))))):Option (Out _ Unit))) x1.leaves 0 ()) λ(s2:Unit)=>some (.nxt ()))))))):Option (Out _ Unit))) t0 0 ()) λ(s1:Unit)=>some true)
def ref07Xmay (t0:(List GA)) (deep1:Int):Option Bool:=anyN λn=>wV n t0 deep1
def vq (t0:(List GA)):Option Bool :=
 ((ref07Xmay t0 (0:Int)).bind λv1=>some v1)
def wv:Nat->(t0:(List GA))->(ahead1:(List zd))->Option (List GK)
 | 0,_,_=>none
 | n+1,t0,ahead1=>(lp (zg (λ(n1:Nat) (x1:GA) (s1:(List GK))=>((yw ((([]:List zd)).length+(ahead1).length<=yN) ((yw (((([]:List zd)++ahead1)).length+(([x1.name]:List zd)).length<=yN) ((lp (zg (λ(n2:Nat) (x2:GE) (s2:(List GK))=>((yw ((s2).length+(([(GK.mk ((([]:List zd)++ahead1)++([x1.name]:List zd)) x2)]:List GK)).length<=yN) (some (.nxt (s2++([(GK.mk ((([]:List zd)++ahead1)++([x1.name]:List zd)) x2)]:List GK))))):Option (Out _ (List GK)))) x1.leaves 0 s1) λ(s2:(List GK))=>((wv n x1.subs ((([]:List zd)++ahead1)++([x1.name]:List zd))).bind λv44=>(yw ((s2).length+(v44).length<=yN) (some (.nxt (s2++v44)))))))))):Option (Out _ (List GK)))) t0 0 ([]:List GK)) λ(s1:(List GK))=>some s1)
def ref07Rows (t0:(List GA)) (ahead1:(List zd)):Option (List GK):=anyN λn=>wv n t0 ahead1
def vQ (t0:(List GA)):Option (List GH) :=
 ((vq t0).bind λv1=>(if (!v1)=true then some ([]:List GH) else ((ref07Rows t0 ([]:List zd)).bind λv3=>(lp (zg (λ(n1:Nat) (x1:GK) (s1:(List GH))=>((yw ((s1).length+(([(GH.mk x1.path x1.l)]:List GH)).length<=yN) (some (.nxt (s1++([(GH.mk x1.path x1.l)]:List GH))))):Option (Out _ (List GH)))) v3 0 ([]:List GH)) λ(s1:(List GH))=>some s1))))
def yT (a0:GC) (b1:GC):Option Bool :=
 (lp (yX (λ(s1:Int)=>((if ((decide (s1 < ((a0.path).length:Int)))&&(decide (s1 < ((b1.path).length:Int))))=true then ((xe a0.path s1).bind λy57=>((xe b1.path s1).bind λy58=>(if (!(y57==y58))=true then ((xe a0.path s1).bind λy60=>((xe b1.path s1).bind λy61=>some (.ret (Op.bytesLess y60 y61)))) else some (.nxt (IntKind.wrap .i64 (s1+(1:Int))))))) else some (.brk s1)):Option (Out _ Int))) (0:Int)) λ(s1:Int)=>(if (((a0.path).length:Int) != ((b1.path).length:Int))=true then some (decide (((a0.path).length:Int) < ((b1.path).length:Int))) else some (decide (a0.typ < b1.typ))))
def wI (l0:(List GC)) (e1:GC):Option (List GC) :=
 (lp (yX (λ(s1:Int)=>((yw (((decide (s1 < ((l0).length:Int)))==true)=true->0<=s1/\s1 < ((l0).length:Int)) (((if ((decide (s1 < ((l0).length:Int)))==true)=true then yT ((l0).getD s1.toNat default) e1 else some default).bind λv30=>(if ((decide (s1 < ((l0).length:Int)))&&v30)=true then some (.nxt (IntKind.wrap .i64 (s1+(1:Int)))) else some (.brk s1))))):Option (Out _ Int))) (0:Int)) λ(s1:Int)=>((slc l0 (0:Int) s1).bind λm32=>(yw ((([]:List GC)).length+(m32).length<=yN) ((yw (((([]:List GC)++m32)).length+(([e1]:List GC)).length<=yN) ((yw (((decide (s1 < ((l0).length:Int)))==true)=true->0<=s1/\s1 < ((l0).length:Int)) (((if ((decide (s1 < ((l0).length:Int)))==true)=true then yT e1 ((l0).getD s1.toNat default) else some default).bind λv37=>(if ((decide (s1 < ((l0).length:Int)))&&(!v37))=true then ((slc l0 (IntKind.wrap .i64 (s1+(1:Int))) ((l0).length:Int)).bind λm39=>(yw ((((([]:List GC)++m32)++([e1]:List GC))).length+(m39).length<=yN) (some (((([]:List GC)++m32)++([e1]:List GC))++m39)))) else ((slc l0 s1 ((l0).length:Int)).bind λm41=>(yw ((((([]:List GC)++m32)++([e1]:List GC))).length+(m41).length<=yN) (some (((([]:List GC)++m32)++([e1]:List GC))++m41))))))))))))))
def ref05New (kind0:Int):Option GE :=
 (if ((decide (kind0 >= (1:Int)))&&(decide (kind0<=(4:Int))))=true then some (GE.mk kind0 (0:Int) (0:Int) (GF.mk (GJ.mk (0:Int) (0:Int)) (0:Int)) ([]:zd) ([]:List GI) ([]:List GF)) else some zp)
def qC (t0:(List GA)) (name1:zd):Option (GA×Bool) :=
 (lp (zg (λ(n1:Nat) (x1:GA) (sL1:Unit)=>((if (x1.name==name1)=true then some (.ret (x1,true)) else some (.nxt ())):Option (Out _ Unit))) t0 0 ()) λ(sL1:Unit)=>some ((GA.mk ([]:zd) ([]:List GE) ([]:List GA)),false))
def wj (t0:(List GA)) (path1:(List zd)) (kind2:Int):Option (GE×Bool) :=
 ((ref05New kind2).bind λv1=>(lp (zg (λ(n1:Nat) (x1:zd) (s1:(List GA)×zd×(List GE)×(List GA))=>(((qC s1.1 x1).bind λv32=>(if (!v32.2)=true then some (.ret (v1,false)) else some (.nxt (v32.1.subs,v32.1.name,v32.1.leaves,v32.1.subs)))):Option (Out _ ((List GA)×zd×(List GE)×(List GA))))) path1 0 (t0,([]:zd),([]:List GE),([]:List GA))) λ(s1:(List GA)×zd×(List GE)×(List GA))=>(lp (yX (λ(s2:Int)=>((if (((decide (s2 < ((s1.2.2.1).length:Int)))&&(decide (kind2 >= (1:Int))))&&(decide (kind2<=(4:Int))))=true then ((xe s1.2.2.1 s2).bind λy63=>(if (y63.typ==kind2)=true then ((xe s1.2.2.1 s2).bind λy65=>some (.ret (y65,true))) else some (.nxt (IntKind.wrap .i64 (s2+(1:Int)))))) else some (.brk s2)):Option (Out _ Int))) (0:Int)) λ(s2:Int)=>some (v1,false))))
def ref31Xat (a0:(List GA)) (b1:(List GA)) (path2:(List zd)) (kind3:Int):Option GC :=
 ((wj a0 path2 kind3).bind λv1=>((wj b1 path2 kind3).bind λv2=>(if v1.2=true then (if v2.2=true then some (GC.mk path2 kind3 true true v1.1 v2.1) else some (GC.mk path2 kind3 true false v1.1 zp)) else (if v2.2=true then some (GC.mk path2 kind3 false true zp v2.1) else some (GC.mk path2 kind3 false false zp zp)))))
def yM (a0:GE) (b1:GE):Option Bool :=
 (if (((((((a0.typ != b1.typ) || (a0.n != b1.n)) || (a0.time != b1.time)) || (!(a0.dot.actor.rep==b1.dot.actor.rep&&(a0.dot.actor.inc==b1.dot.actor.inc&&(a0.dot.seq==b1.dot.seq&&true))))) || (!(a0.text==b1.text))) || (((a0.items).length:Int) != ((b1.items).length:Int))) || (((a0.tombs).length:Int) != ((b1.tombs).length:Int)))=true then some false else (lp (zg (λ(n1:Nat) (x1:GI) (s1:Unit)=>(((xe b1.items (n1:Int)).bind λy32=>(if (!(x1.time==y32.time&&(x1.dot.actor.rep==y32.dot.actor.rep&&(x1.dot.actor.inc==y32.dot.actor.inc&&(x1.dot.seq==y32.dot.seq&&(x1.text==y32.text&&true))))))=true then some (.ret false) else some (.nxt ()))):Option (Out _ Unit))) a0.items 0 ()) λ(s1:Unit)=>(lp (zg (λ(n2:Nat) (x2:GF) (s2:Unit)=>(((xe b1.tombs (n2:Int)).bind λy60=>(if (!(x2.actor.rep==y60.actor.rep&&(x2.actor.inc==y60.actor.inc&&(x2.seq==y60.seq&&true))))=true then some (.ret false) else some (.nxt ()))):Option (Out _ Unit))) a0.tombs 0 ()) λ(s2:Unit)=>some true)))
def x8 (e0:GC):Option Bool :=
 ((if ((e0.had==e0.has)==true)=true then yM e0.was e0.is else some default).bind λv1=>some ((e0.had==e0.has)&&v1))
def wT (l0:(List GC)):Option (List GC) :=
 (lp (zg (λ(n1:Nat) (x1:GC) (s1:(List GC))=>(((x8 x1).bind λv12=>(if (!v12)=true then (yw ((s1).length+(([x1]:List GC)).length<=yN) (some (.nxt (s1++([x1]:List GC))))) else some (.nxt s1))):Option (Out _ (List GC)))) l0 0 ([]:List GC)) λ(s1:(List GC))=>some s1)
def vP (a0:(List GA)) (b1:(List GA)):Option ((List GC)×Int) :=
 ((vq a0).bind λv1=>((if ((!v1)==false)=true then vq b1 else some default).bind λv2=>(if ((!v1) || (!v2))=true then some (([]:List GC),(2:Int)) else ((vQ a0).bind λv4=>((vQ b1).bind λv5=>(yw ((v4).length+(v5).length<=yN) ((lp (zg (λ(n1:Nat) (x1:GH) (s1:(List GC))=>(((ref31Xat a0 b1 x1.path x1.leaf.typ).bind λv17=>((wI s1 v17).bind λv18=>some (.nxt v18))):Option (Out _ (List GC)))) (v4++v5) 0 ([]:List GC)) λ(s1:(List GC))=>((wT s1).bind λv19=>some (v19,(0:Int)))))))))))
def x9 (a0:(List zd)) (b1:(List zd)):Option Bool :=
 (if (((a0).length:Int) != ((b1).length:Int))=true then some false else (lp (zg (λ(n1:Nat) (x1:zd) (s1:Unit)=>(((xe b1 (n1:Int)).bind λy12=>(if (!(x1==y12))=true then some (.ret false) else some (.nxt ()))):Option (Out _ Unit))) a0 0 ()) λ(s1:Unit)=>some true))
def vg (a0:(List GC)) (b1:(List GC)):Option Bool :=
 (if (((a0).length:Int) != ((b1).length:Int))=true then some false else (lp (zg (λ(n1:Nat) (x1:GC) (s1:Unit)=>(((xe b1 (n1:Int)).bind λy15=>((x9 x1.path y15.path).bind λv16=>((if (((((!v16) || (x1.typ != y15.typ)) || (!(x1.had==y15.had))) || (!(x1.has==y15.has)))==false)=true then yM x1.was y15.was else some default).bind λv17=>((if ((((((!v16) || (x1.typ != y15.typ)) || (!(x1.had==y15.had))) || (!(x1.has==y15.has))) || (!v17))==false)=true then yM x1.is y15.is else some default).bind λv18=>(if ((((((!v16) || (x1.typ != y15.typ)) || (!(x1.had==y15.had))) || (!(x1.has==y15.has))) || (!v17)) || (!v18))=true then some (.ret false) else some (.nxt ())))))):Option (Out _ Unit))) a0 0 ()) λ(s1:Unit)=>some true))
def xN (s0:(List zd)) (f1:(zd->Option Bool)):Option Int :=
 (lp (zg (λ(n1:Nat) (x1:zd) (s1:Unit)=>(((f1 x1).bind λv7=>(if v7=true then some (.ret (n1:Int)) else some (.nxt ()))):Option (Out _ Unit))) s0 0 ()) λ(s1:Unit)=>some (-1:Int))
def yz (s0:(List zd)) (f1:(zd->Option Bool)):Option Bool :=
 ((xN s0 f1).bind λv1=>some (decide (v1 >= (0:Int))))
def opMayPathC1 (s0:zd):Option Bool :=
 ((opIsName s0).bind λv1=>some (!v1))
def qE (p0:(List zd)):Option Bool :=
 ((if (((decide (((p0).length:Int) >= (1:Int)))&&(decide (((p0).length:Int)<=(3:Int))))==true)=true then yz p0 (λx0=>opMayPathC1 x0) else some default).bind λv3=>some (((decide (((p0).length:Int) >= (1:Int)))&&(decide (((p0).length:Int)<=(3:Int))))&&(!v3)))
def xH (there0:Bool) (l1:GE) (kind2:Int):Option Bool :=
 (if (!there0)=true then ((y6 l1 zp).bind λv2=>some v2) else ((if ((l1.typ==kind2)==true)=true then leafMay l1 else some default).bind λv3=>some ((l1.typ==kind2)&&v3)))
def wP (l0:(List GC)):Option Bool :=
 (lp (zg (λ(n1:Nat) (x1:GC) (s1:Unit)=>(((if ((x1.had&&x1.has)==true)=true then y6 x1.was x1.is else some default).bind λv13=>((qE x1.path).bind λv14=>((if (((((!v14) || (!((decide (x1.typ >= (1:Int)))&&(decide (x1.typ<=(4:Int)))))) || ((!x1.had)&&(!x1.has))) || ((x1.had&&x1.has)&&v13))==false)=true then xH x1.had x1.was x1.typ else some default).bind λv15=>((if ((((((!v14) || (!((decide (x1.typ >= (1:Int)))&&(decide (x1.typ<=(4:Int)))))) || ((!x1.had)&&(!x1.has))) || ((x1.had&&x1.has)&&v13)) || (!v15))==false)=true then xH x1.has x1.is x1.typ else some default).bind λv16=>(if ((((((!v14) || (!((decide (x1.typ >= (1:Int)))&&(decide (x1.typ<=(4:Int)))))) || ((!x1.had)&&(!x1.has))) || ((x1.had&&x1.has)&&v13)) || (!v15)) || (!v16))=true then some (.ret false) else (yw (((decide ((n1:Int) > (0:Int)))==true)=true->0<=(IntKind.wrap .i64 ((n1:Int) - (1:Int)))/\(IntKind.wrap .i64 ((n1:Int) - (1:Int))) < ((l0).length:Int)) (((if ((decide ((n1:Int) > (0:Int)))==true)=true then wz ((l0).getD (IntKind.wrap .i64 ((n1:Int) - (1:Int))).toNat default) x1 else some default).bind λv19=>(if ((decide ((n1:Int) > (0:Int)))&&(decide (v19 >= (0:Int))))=true then some (.ret false) else some (.nxt ())))))))))):Option (Out _ Unit))) l0 0 ()) λ(s1:Unit)=>some true)
def ref04MayPath (p0:(List zd)):Option Bool :=
 (lp (zg (λ(n1:Nat) (x1:zd) (s1:Unit)=>(((vS x1).bind λv9=>(if (!v9)=true then some (.ret false) else some (.nxt ()))):Option (Out _ Unit))) p0 0 ()) λ(s1:Unit)=>some ((decide (((p0).length:Int) >= (1:Int)))&&(decide (((p0).length:Int)<=(3:Int)))))
def qx (there0:Bool) (l1:GE) (kind2:Int):Option Bool :=
 (if there0=true then ((if ((l1.typ==kind2)==true)=true then ref05May l1 else some default).bind λv2=>some ((l1.typ==kind2)&&v2)) else ((yM l1 zp).bind λv3=>some v3))
def wU (l0:(List GC)):Option Bool :=
 (lp (zg (λ(n1:Nat) (x1:GC) (s1:Unit)=>(((ref04MayPath x1.path).bind λv15=>((if (((((!v15) || (decide (x1.typ < (1:Int)))) || (decide (x1.typ > (4:Int)))) || ((!x1.had)&&(!x1.has)))==false)=true then qx x1.had x1.was x1.typ else some default).bind λv16=>((if ((((((!v15) || (decide (x1.typ < (1:Int)))) || (decide (x1.typ > (4:Int)))) || ((!x1.had)&&(!x1.has))) || (!v16))==false)=true then qx x1.has x1.is x1.typ else some default).bind λv17=>((if (((((((!v15) || (decide (x1.typ < (1:Int)))) || (decide (x1.typ > (4:Int)))) || ((!x1.had)&&(!x1.has))) || (!v16)) || (!v17))==false)=true then x8 x1 else some default).bind λv18=>(if (((((((!v15) || (decide (x1.typ < (1:Int)))) || (decide (x1.typ > (4:Int)))) || ((!x1.had)&&(!x1.has))) || (!v16)) || (!v17)) || v18)=true then some (.ret false) else (yw (((decide ((n1:Int) > (0:Int)))==true)=true->0<=(IntKind.wrap .i64 ((n1:Int) - (1:Int)))/\(IntKind.wrap .i64 ((n1:Int) - (1:Int))) < ((l0).length:Int)) (((if ((decide ((n1:Int) > (0:Int)))==true)=true then yT ((l0).getD (IntKind.wrap .i64 ((n1:Int) - (1:Int))).toNat default) x1 else some default).bind λv21=>(if ((decide ((n1:Int) > (0:Int)))&&(!v21))=true then some (.ret false) else some (.nxt ())))))))))):Option (Out _ Unit))) l0 0 ()) λ(s1:Unit)=>some true)
def yY (s10:(List GC)) (s21:(List GC)) (eq2:(GC->GC->Option Bool)):Option Bool :=
 (if (((s10).length:Int) != ((s21).length:Int))=true then some false else (lp (zg (λ(n1:Nat) (x1:GC) (s1:Unit)=>(((xe s21 (n1:Int)).bind λy11=>((eq2 x1 y11).bind λv12=>(if (!v12)=true then some (.ret false) else some (.nxt ())))):Option (Out _ Unit))) s10 0 ()) λ(s1:Unit)=>some true))
def wN (s10:(List zd)) (s21:(List zd)):Option Bool :=
 (if (((s10).length:Int) != ((s21).length:Int))=true then some false else (lp (zg (λ(n1:Nat) (x1:zd) (s1:Unit)=>(((xe s21 (n1:Int)).bind λy10=>(if (!(x1==y10))=true then some (.ret false) else some (.nxt ()))):Option (Out _ Unit))) s10 0 ()) λ(s1:Unit)=>some true))
def diffSameC1 (x0:GC) (y1:GC):Option Bool :=
 ((wN x0.path y1.path).bind λv1=>((if ((((v1&&(x0.typ==y1.typ))&&(x0.had==y1.had))&&(x0.has==y1.has))==true)=true then y6 x0.was y1.was else some default).bind λv2=>((if (((((v1&&(x0.typ==y1.typ))&&(x0.had==y1.had))&&(x0.has==y1.has))&&v2)==true)=true then y6 x0.is y1.is else some default).bind λv3=>some (((((v1&&(x0.typ==y1.typ))&&(x0.had==y1.had))&&(x0.has==y1.has))&&v2)&&v3))))
def diffSame (a0:(List GC)) (b1:(List GC)):Option Bool :=
 ((yY a0 b1 (λx0 x1=>diffSameC1 x0 x1)).bind λv1=>some v1)
def wZ:Nat->(t0:(List GA))->(ahead1:(List zd))->(is2:((List zd)->Option Bool))->Option (List GA)
 | 0,_,_,_=>none
 | n+1,t0,ahead1,is2=>(lp (zg (λ(n1:Nat) (x1:GA) (s1:(List GA))=>(((yB ahead1).bind λv32=>(yw ((v32).length+(([x1.name]:List zd)).length<=yN) (((wZ n x1.subs (v32++([x1.name]:List zd)) is2).bind λv34=>(lp (zg (λ(n2:Nat) (x2:GE) (s2:(List GE))=>(((is2 (v32++([x1.name]:List zd))).bind λv49=>(if v49=true then ((pathsXown x2).bind λv51=>(yw ((s2).length+(([v51]:List GE)).length<=yN) (some (.nxt (s2++([v51]:List GE)))))) else some (.nxt s2))):Option (Out _ (List GE)))) x1.leaves 0 ([]:List GE)) λ(s2:(List GE))=>(if (decide ((IntKind.wrap .i64 (((s2).length:Int)+((v34).length:Int))) > (0:Int)))=true then (yw ((s1).length+(([(GA.mk x1.name s2 v34)]:List GA)).length<=yN) (some (.nxt (s1++([(GA.mk x1.name s2 v34)]:List GA))))) else some (.nxt s1))))))):Option (Out _ (List GA)))) t0 0 ([]:List GA)) λ(s1:(List GA))=>some s1)
def pathsXkept (t0:(List GA)) (ahead1:(List zd)) (is2:((List zd)->Option Bool)):Option (List GA):=anyN λn=>wZ n t0 ahead1 is2
def vT (p0:(List zd)):Option ((List zd)×Bool) :=
 (yw (((decide (((p0).length:Int) > (0:Int)))==true)=true->0<=(IntKind.wrap .i64 (((p0).length:Int) - (1:Int)))/\(IntKind.wrap .i64 (((p0).length:Int) - (1:Int))) < ((p0).length:Int)) ((if ((decide (((p0).length:Int) > (0:Int)))&&(((p0).getD (IntKind.wrap .i64 (((p0).length:Int) - (1:Int))).toNat default)==([42,42]:zd)))=true then ((slc p0 (0:Int) (IntKind.wrap .i64 (((p0).length:Int) - (1:Int)))).bind λm4=>some (m4,true)) else some (p0,false))))
def wO (s0:zd):Option Bool :=
 ((if ((!(s0==([42]:zd)))==true)=true then opIsName s0 else some default).bind λv1=>some ((!(s0==([42]:zd)))&&(!v1)))
def xT (p0:(List zd)):Option Bool :=
 ((vT p0).bind λv1=>((if ((((decide (((v1.1).length:Int) > (0:Int))) || v1.2)&&(decide (((v1.1).length:Int)<=(3:Int))))==true)=true then yz v1.1 (λx0=>wO x0) else some default).bind λv4=>some ((((decide (((v1.1).length:Int) > (0:Int))) || v1.2)&&(decide (((v1.1).length:Int)<=(3:Int))))&&(!v4))))
def pathsMatch (p0:(List zd)) (path1:(List zd)):Option Bool :=
 ((vT p0).bind λv1=>((xT p0).bind λv2=>((if ((!v2)==false)=true then qE path1 else some default).bind λv3=>(if ((((!v2) || (!v3)) || (decide (((path1).length:Int) < ((v1.1).length:Int)))) || ((decide (((path1).length:Int) > ((v1.1).length:Int)))&&(!v1.2)))=true then some false else (lp (zg (λ(n1:Nat) (x1:zd) (s1:Unit)=>((yw (((!(x1==([42]:zd)))==true)=true->0<=(n1:Int)/\(n1:Int) < ((path1).length:Int)) ((if ((!(x1==([42]:zd)))&&(!(x1==((path1).getD (n1:Int).toNat default))))=true then some (.ret false) else some (.nxt ())))):Option (Out _ Unit))) v1.1 0 ()) λ(s1:Unit)=>some true)))))
def qS (path0:(List zd)) (c0:(List zd)):Option Bool :=
 ((pathsMatch c0 path0).bind λv1=>some v1)
def w5 (t0:(List GA)) (p1:(List zd)):Option ((List GA)×Int) :=
 ((vB t0).bind λv1=>((if ((!v1)==false)=true then xT p1 else some default).bind λv2=>(if ((!v1) || (!v2))=true then some (([]:List GA),(2:Int)) else ((pathsXkept t0 ([]:List zd) (λx0=>qS x0 p1)).bind λv4=>some (v4,(0:Int))))))
def xl (s0:(List GA)) (f1:(GA->Option Bool)):Option Int :=
 (lp (zg (λ(n1:Nat) (x1:GA) (s1:Unit)=>(((f1 x1).bind λv7=>(if v7=true then some (.ret (n1:Int)) else some (.nxt ()))):Option (Out _ Unit))) s0 0 ()) λ(s1:Unit)=>some (-1:Int))
def qN (n0:GA) (c0:zd):Option Bool :=
 some (n0.name==c0)
def vN (t0:(List GA)) (name1:zd):Option (GA×Bool) :=
 ((xl t0 (λx0=>qN x0 name1)).bind λv1=>(if (decide (v1 < (0:Int)))=true then some ((GA.mk ([]:zd) ([]:List GE) ([]:List GA)),false) else ((xe t0 v1).bind λy3=>some (y3,true))))
def ya (s0:(List GE)) (f1:(GE->Option Bool)):Option Int :=
 (lp (zg (λ(n1:Nat) (x1:GE) (s1:Unit)=>(((f1 x1).bind λv7=>(if v7=true then some (.ret (n1:Int)) else some (.nxt ()))):Option (Out _ Unit))) s0 0 ()) λ(s1:Unit)=>some (-1:Int))
def treeLeafC1 (l0:GE) (c0:Int):Option Bool :=
 some (l0.typ==c0)
def qg (kind0:Int):Option GE :=
 (if ((decide (kind0 < (1:Int))) || (decide (kind0 > (4:Int))))=true then some zp else some (GE.mk kind0 (0:Int) (0:Int) (GF.mk (GJ.mk (0:Int) (0:Int)) (0:Int)) ([]:zd) ([]:List GI) ([]:List GF)))
def treeLeaf (t0:(List GA)) (path1:(List zd)) (kind2:Int):Option (GE×Bool) :=
 (lp ((lp (zg (λ(n2:Nat) (x2:zd) (s2:(List GA)×Bool×zd×(List GE)×(List GA))=>(((vN s2.1 x2).bind λv47=>(if (!v47.2)=true then some (.brk (s2.1,v47.2,v47.1.name,v47.1.leaves,v47.1.subs)) else some (.nxt (v47.1.subs,v47.2,v47.1.name,v47.1.leaves,v47.1.subs)))):Option (Out _ ((List GA)×Bool×zd×(List GE)×(List GA))))) path1 0 (t0,(decide (((path1).length:Int) > (0:Int))),([]:zd),([]:List GE),([]:List GA))) λ(s2:(List GA)×Bool×zd×(List GE)×(List GA))=>some (.inr (s2.2.1,s2.2.2.1,s2.2.2.2.1,s2.2.2.2.2))):Option (_ ⊕ (Bool×zd×(List GE)×(List GA)))) λ(s1:Bool×zd×(List GE)×(List GA))=>((ya s1.2.2.1 (λx0=>treeLeafC1 x0 kind2)).bind λv49=>((if (((!s1.1) || (decide (v49 < (0:Int))))==false)=true then qg kind2 else some default).bind λv50=>(if (((!s1.1) || (decide (v49 < (0:Int)))) || (v50.typ==(0:Int)))=true then ((qg kind2).bind λv52=>some (v52,false)) else ((xe s1.2.2.1 v49).bind λy53=>((yP y53.items).bind λv54=>((y4 y53.tombs).bind λv55=>some ((GE.mk y53.typ y53.n y53.time y53.dot y53.text v54 v55),true))))))))
def zt (x0:(List GA)) (target1:zd) (cmp2:(GA->zd->Option Int)):Option (Int×Bool) :=
 (lp (yX (λ(sL1:Int×Int)=>((if (decide (sL1.1 < sL1.2))=true then ((xe x0 (IntKind.wrap .i64 ((Int.fdiv (IntKind.wrap .u64 ((IntKind.wrap .i64 (sL1.1+sL1.2)))) (2 ^ (min (1:Int).toNat (IntKind.bits .u64))))))).bind λy9=>((cmp2 y9 target1).bind λv10=>(if (decide (v10 < (0:Int)))=true then some (.nxt ((IntKind.wrap .i64 ((IntKind.wrap .i64 ((Int.fdiv (IntKind.wrap .u64 ((IntKind.wrap .i64 (sL1.1+sL1.2)))) (2 ^ (min (1:Int).toNat (IntKind.bits .u64))))))+(1:Int))),sL1.2)) else some (.nxt (sL1.1,(IntKind.wrap .i64 ((Int.fdiv (IntKind.wrap .u64 ((IntKind.wrap .i64 (sL1.1+sL1.2)))) (2 ^ (min (1:Int).toNat (IntKind.bits .u64))))))))))) else some (.brk (sL1.1,sL1.2))):Option (Out _ (Int×Int)))) ((0:Int),((x0).length:Int))) λ(sL1:Int×Int)=>(yw (((decide (sL1.1 < ((x0).length:Int)))==true)=true->0<=sL1.1/\sL1.1 < ((x0).length:Int)) (((if ((decide (sL1.1 < ((x0).length:Int)))==true)=true then cmp2 ((x0).getD sL1.1.toNat default) target1 else some default).bind λv13=>some (sL1.1,((decide (sL1.1 < ((x0).length:Int)))&&(v13==(0:Int))))))))
/-- strings.Compare -/
def stringsCompare (p0:zd) (p1:zd):Option Int:=some (Go.Lib.compareBytes p0 p1)
def xy (n0:GA) (name1:zd):Option Int :=
 ((stringsCompare n0.name name1).bind λv1=>some v1)
def yL (s0:(List GE)) (del1:(GE->Option Bool)):Option (List GE) :=
 ((ya s0 del1).bind λv1=>(if (v1==(-1:Int))=true then some s0 else (lp (yX (λ(s1:Int×Int×(List GE))=>((yw ((s1.2.2).length=s0.length) ((if (decide (s1.2.1 < ((s0.length:Nat):Int)))=true then ((xe s1.2.2 s1.2.1).bind λy14=>((del1 y14).bind λv15=>(if (!v15)=true then ((xe s1.2.2 s1.1).bind λy17=>some (.nxt ((IntKind.wrap .i64 (s1.1+(1:Int))),(IntKind.wrap .i64 (s1.2.1+(1:Int))),(s1.2.2.set s1.1.toNat y14)))) else some (.nxt (s1.1,(IntKind.wrap .i64 (s1.2.1+(1:Int))),s1.2.2))))) else some (.brk (s1.1,s1.2.1,s1.2.2))))):Option (Out _ (Int×Int×(List GE))))) (v1,(IntKind.wrap .i64 (v1+(1:Int))),s0)) λ(s1:Int×Int×(List GE))=>(yw (0<=s1.1/\s1.1<=((s0.length:Nat):Int)) (((slc (s1.2.2.take s1.1.toNat++List.replicate (s0.length - s1.1.toNat) zp) (0:Int) s1.1).bind λm19=>some m19))))))
def wC (s0:(List GE)):Option (List GE) :=
 (nilq s0 λb1=>(if b1=true then some ([]:List GE) else (yw ((([]:List GE)).length+(s0).length<=yN) (some (([]:List GE)++s0)))))
def diffXlayC2 (x0:GE) (c0:Int):Option Bool :=
 some (x0.typ==c0)
/-- slices.SortFunc[[]varve/api.Leaf,varve/api.Leaf]: sortO -/
def slicesSortFuncLeafX:Unit:=()
def qM (x0:GE) (y1:GE):Option Int :=
 ((xA x0.typ y1.typ).bind λv1=>some v1)
def xC (s0:(List GA)):Option (List GA) :=
 (nilq s0 λb1=>(if b1=true then some ([]:List GA) else (yw ((([]:List GA)).length+(s0).length<=yN) (some (([]:List GA)++s0)))))
def xn:Nat->(t0:(List GA))->(path1:(List zd))->(kind2:Int)->(l3:GE)->(there4:Bool)->Option (List GA)
 | 0,_,_,_,_,_=>none
 | n+1,t0,path1,kind2,l3,there4=>((xe path1 (0:Int)).bind λy1=>((zt t0 y1 (λx0 x1=>xy x0 x1)).bind λv2=>((xe path1 (0:Int)).bind λy3=>(lp ((if v2.2=true then ((xe t0 v2.1).bind λy7=>some (.inr (y7.name,y7.leaves,y7.subs))) else some (.inr (y3,([]:List GE),([]:List GA)))):Option (_ ⊕ (zd×(List GE)×(List GA)))) λ(s1:zd×(List GE)×(List GA))=>(lp ((if (decide (((path1).length:Int) > (1:Int)))=true then ((slc path1 (1:Int) ((path1).length:Int)).bind λm20=>((xn n s1.2.2 m20 kind2 l3 there4).bind λv21=>some (.inr (s1.2.1,v21)))) else ((wC s1.2.1).bind λv22=>((yL v22 (λx0=>diffXlayC2 x0 kind2)).bind λv23=>(if there4=true then ((vz l3).bind λv25=>(yw ((v23).length+(([v25]:List GE)).length<=yN) (((sortO (λx y=>qM x y) (v23++([v25]:List GE))).bind λv27=>some (.inr (v27,s1.2.2)))))) else some (.inr (v23,s1.2.2)))))):Option (_ ⊕ ((List GE)×(List GA)))) λ(s2:(List GE)×(List GA))=>((slc t0 (0:Int) v2.1).bind λm28=>((xC m28).bind λv29=>(if (decide ((IntKind.wrap .i64 (((s2.1).length:Int)+((s2.2).length:Int))) > (0:Int)))=true then (yw ((v29).length+(([(GA.mk s1.1 s2.1 s2.2)]:List GA)).length<=yN) ((if v2.2=true then ((slc t0 (IntKind.wrap .i64 (v2.1+(1:Int))) ((t0).length:Int)).bind λm35=>(yw (((v29++([(GA.mk s1.1 s2.1 s2.2)]:List GA))).length+(m35).length<=yN) (some ((v29++([(GA.mk s1.1 s2.1 s2.2)]:List GA))++m35)))) else ((slc t0 v2.1 ((t0).length:Int)).bind λm37=>(yw (((v29++([(GA.mk s1.1 s2.1 s2.2)]:List GA))).length+(m37).length<=yN) (some ((v29++([(GA.mk s1.1 s2.1 s2.2)]:List GA))++m37))))))) else (if v2.2=true then ((slc t0 (IntKind.wrap .i64 (v2.1+(1:Int))) ((t0).length:Int)).bind λm40=>(yw ((v29).length+(m40).length<=yN) (some (v29++m40)))) else ((slc t0 v2.1 ((t0).length:Int)).bind λm42=>(yw ((v29).length+(m42).length<=yN) (some (v29++m42)))))))))))))
def diffXlay (t0:(List GA)) (path1:(List zd)) (kind2:Int) (l3:GE) (there4:Bool):Option (List GA):=anyN λn=>xn n t0 path1 kind2 l3 there4
def vl (t0:(List GA)) (l1:(List GC)):Option ((List GA)×Int) :=
 ((vB t0).bind λv1=>((if ((!v1)==false)=true then wP l1 else some default).bind λv2=>(if ((!v1) || (!v2))=true then some (([]:List GA),(2:Int)) else ((w5 t0 ([([42,42]:zd)]:List zd)).bind λv4=>(lp (zg (λ(n1:Nat) (x1:GC) (s1:(List GA))=>(((treeLeaf t0 x1.path x1.typ).bind λv14=>((if (((!(v14.2==x1.had))==false)&&(v14.2==true))=true then y6 v14.1 x1.was else some default).bind λv15=>(if ((!(v14.2==x1.had)) || (v14.2&&(!v15)))=true then some (.ret (([]:List GA),(16:Int))) else ((diffXlay s1 x1.path x1.typ x1.is x1.has).bind λv17=>some (.nxt v17))))):Option (Out _ (List GA)))) l1 0 v4.1) λ(s1:(List GA))=>some (s1,(0:Int)))))))
def xS:Nat->(t0:(List GA))->(path1:(List zd))->(l2:GE)->Option (List GA)
 | 0,_,_,_=>none
 | n+1,t0,path1,l2=>(lp (yX (λ(s1:(List GA)×Int)=>((yw (((decide (s1.2 < ((t0).length:Int)))==true)=true->0<=s1.2/\s1.2 < ((t0).length:Int)) ((yw (((decide (s1.2 < ((t0).length:Int)))==true)=true->0<=(0:Int)/\(0:Int) < ((path1).length:Int)) ((if ((decide (s1.2 < ((t0).length:Int)))&&(Op.bytesLess (((t0).getD s1.2.toNat default).name) ((path1).getD (0:Int).toNat default)))=true then ((xe t0 s1.2).bind λy22=>(yw ((s1.1).length+(([y22]:List GA)).length<=yN) (some (.nxt ((s1.1++([y22]:List GA)),(IntKind.wrap .i64 (s1.2+(1:Int)))))))) else some (.brk (s1.1,s1.2))))))):Option (Out _ ((List GA)×Int)))) (([]:List GA),(0:Int))) λ(s1:(List GA)×Int)=>((xe path1 (0:Int)).bind λy24=>(lp ((yw (((decide (s1.2 < ((t0).length:Int)))==true)=true->0<=s1.2/\s1.2 < ((t0).length:Int)) ((yw (((decide (s1.2 < ((t0).length:Int)))==true)=true->0<=(0:Int)/\(0:Int) < ((path1).length:Int)) ((if ((decide (s1.2 < ((t0).length:Int)))&&(((t0).getD s1.2.toNat default).name==((path1).getD (0:Int).toNat default)))=true then ((xe t0 s1.2).bind λy34=>some (.inr ((IntKind.wrap .i64 (s1.2+(1:Int))),y34.name,y34.leaves,y34.subs))) else some (.inr (s1.2,y24,([]:List GE),([]:List GA)))))))):Option (_ ⊕ (Int×zd×(List GE)×(List GA)))) λ(s2:Int×zd×(List GE)×(List GA))=>(if (decide (((path1).length:Int) > (1:Int)))=true then ((slc path1 (1:Int) ((path1).length:Int)).bind λm37=>((xS n s2.2.2.2 m37 l2).bind λv38=>(yw ((s1.1).length+(([(GA.mk s2.2.1 s2.2.2.1 v38)]:List GA)).length<=yN) (((slc t0 s2.1 ((t0).length:Int)).bind λm40=>(yw (((s1.1++([(GA.mk s2.2.1 s2.2.2.1 v38)]:List GA))).length+(m40).length<=yN) (some ((s1.1++([(GA.mk s2.2.1 s2.2.2.1 v38)]:List GA))++m40)))))))) else (lp (yX (λ(s3:(List GE)×Int)=>((yw (((decide (s3.2 < ((s2.2.2.1).length:Int)))==true)=true->0<=s3.2/\s3.2 < ((s2.2.2.1).length:Int)) ((if ((decide (s3.2 < ((s2.2.2.1).length:Int)))&&(decide (((s2.2.2.1).getD s3.2.toNat default).typ < l2.typ)))=true then ((xe s2.2.2.1 s3.2).bind λy64=>(yw ((s3.1).length+(([y64]:List GE)).length<=yN) (some (.nxt ((s3.1++([y64]:List GE)),(IntKind.wrap .i64 (s3.2+(1:Int)))))))) else some (.brk (s3.1,s3.2))))):Option (Out _ ((List GE)×Int)))) (([]:List GE),(0:Int))) λ(s3:(List GE)×Int)=>(yw (((decide (s3.2 < ((s2.2.2.1).length:Int)))==true)=true->0<=s3.2/\s3.2 < ((s2.2.2.1).length:Int)) ((if ((decide (s3.2 < ((s2.2.2.1).length:Int)))&&(((s2.2.2.1).getD s3.2.toNat default).typ==l2.typ))=true then (yw ((s3.1).length+(([l2]:List GE)).length<=yN) (((slc s2.2.2.1 (IntKind.wrap .i64 (s3.2+(1:Int))) ((s2.2.2.1).length:Int)).bind λm70=>(yw (((s3.1++([l2]:List GE))).length+(m70).length<=yN) ((yw ((s1.1).length+(([(GA.mk s2.2.1 ((s3.1++([l2]:List GE))++m70) s2.2.2.2)]:List GA)).length<=yN) (((slc t0 s2.1 ((t0).length:Int)).bind λm73=>(yw (((s1.1++([(GA.mk s2.2.1 ((s3.1++([l2]:List GE))++m70) s2.2.2.2)]:List GA))).length+(m73).length<=yN) (some ((s1.1++([(GA.mk s2.2.1 ((s3.1++([l2]:List GE))++m70) s2.2.2.2)]:List GA))++m73))))))))))) else (yw ((s3.1).length+(([l2]:List GE)).length<=yN) (((slc s2.2.2.1 s3.2 ((s2.2.2.1).length:Int)).bind λm76=>(yw (((s3.1++([l2]:List GE))).length+(m76).length<=yN) ((yw ((s1.1).length+(([(GA.mk s2.2.1 ((s3.1++([l2]:List GE))++m76) s2.2.2.2)]:List GA)).length<=yN) (((slc t0 s2.1 ((t0).length:Int)).bind λm79=>(yw (((s1.1++([(GA.mk s2.2.1 ((s3.1++([l2]:List GE))++m76) s2.2.2.2)]:List GA))).length+(m79).length<=yN) (some ((s1.1++([(GA.mk s2.2.1 ((s3.1++([l2]:List GE))++m76) s2.2.2.2)]:List GA))++m79)))))))))))))))))))
def ref07Lay (t0:(List GA)) (path1:(List zd)) (l2:GE):Option (List GA):=anyN λn=>xS n t0 path1 l2
def qB (l0:(List GH)):Option (List GA) :=
 (lp (zg (λ(n1:Nat) (x1:GH) (s1:(List GA))=>(((ref07Lay s1 x1.path x1.leaf).bind λv10=>some (.nxt v10)):Option (Out _ (List GA)))) l0 0 ([]:List GA)) λ(s1:(List GA))=>some s1)
def qy (t0:(List GA)) (l1:(List GC)):Option ((List GA)×Int) :=
 ((vq t0).bind λv1=>((if ((!v1)==false)=true then wU l1 else some default).bind λv2=>(if ((!v1) || (!v2))=true then some (([]:List GA),(2:Int)) else ((vQ t0).bind λv4=>(lp (zg (λ(n1:Nat) (x1:GC) (s1:(List GH))=>(((wj t0 x1.path x1.typ).bind λv65=>((if (((!(v65.2==x1.had))==false)&&(v65.2==true))=true then yM v65.1 x1.was else some default).bind λv66=>(if ((!(v65.2==x1.had)) || (v65.2&&(!v66)))=true then some (.ret (([]:List GA),(16:Int))) else (lp (zg (λ(n2:Nat) (x2:GH) (s2:(List GH))=>(((x9 x2.path x1.path).bind λv111=>(yw (((!v111)==false)=true->0<=(n2:Int)/\(n2:Int) < ((s1).length:Int)) ((if ((!v111) || (((s1).getD (n2:Int).toNat default).leaf.typ != x1.typ))=true then (yw ((s2).length+(([x2]:List GH)).length<=yN) (some (.nxt (s2++([x2]:List GH))))) else some (.nxt s2))))):Option (Out _ (List GH)))) s1 0 ([]:List GH)) λ(s2:(List GH))=>(if x1.has=true then (yw ((s2).length+(([(GH.mk x1.path x1.is)]:List GH)).length<=yN) (some (.nxt (s2++([(GH.mk x1.path x1.is)]:List GH))))) else some (.nxt s2)))))):Option (Out _ (List GH)))) l1 0 v4) λ(s1:(List GH))=>((qB s1).bind λv117=>some (v117,(0:Int))))))))
def diffChain (l0:(List GC)) (m1:(List GC)):Option ((List GC)×Int) :=
 ((wP l0).bind λv1=>((if ((!v1)==false)=true then wP m1 else some default).bind λv2=>(if ((!v1) || (!v2))=true then some (([]:List GC),(2:Int)) else (lp (zg (λ(n1:Nat) (x1:GC) (s1:List (zd×GC))=>(((xZ x1.path x1.typ).bind λv10=>some (.nxt (yC (λa b=>a==b) s1 v10 x1))):Option (Out _ (List (zd×GC))))) l0 0 ([]:List (zd×GC))) λ(s1:List (zd×GC))=>(lp (zg (λ(n2:Nat) (x2:GC) (s2:List (zd×GC))=>(((xZ x2.path x2.typ).bind λv20=>(if (ww (λa b=>a==b) s2 v20)=true then ((if ((!((ze (λa b=>a==b) (GC.mk ([]:List zd) (0:Int) false false zp zp) s2 v20).has==x2.had))==false)=true then y6 ((ze (λa b=>a==b) (GC.mk ([]:List zd) (0:Int) false false zp zp) s2 v20).is) x2.was else some default).bind λv22=>(if ((!((ze (λa b=>a==b) (GC.mk ([]:List zd) (0:Int) false false zp zp) s2 v20).has==x2.had)) || (!v22))=true then some (.ret (([]:List GC),(16:Int))) else some (.nxt (yC (λa b=>a==b) s2 v20 (GC.mk x2.path x2.typ ((ze (λa b=>a==b) (GC.mk ([]:List zd) (0:Int) false false zp zp) s2 v20).had) x2.has ((ze (λa b=>a==b) (GC.mk ([]:List zd) (0:Int) false false zp zp) s2 v20).was) x2.is))))) else some (.nxt (yC (λa b=>a==b) s2 v20 x2)))):Option (Out _ (List (zd×GC))))) m1 0 s1) λ(s2:List (zd×GC))=>((xk s2).bind λv24=>some (v24,(0:Int))))))))
def qA (l0:(List GC)) (m1:(List GC)):Option ((List GC)×Int) :=
 ((wU l0).bind λv1=>((if ((!v1)==false)=true then wU m1 else some default).bind λv2=>(if ((!v1) || (!v2))=true then some (([]:List GC),(2:Int)) else (lp (zg (λ(n1:Nat) (x1:GC) (s1:(List GC))=>((lp (zg (λ(n2:Nat) (x2:GC) (s2:Bool×Int×Int×Int×Int×Int×Int×zd×(List GI)×(List GF))=>(((yT x2 (GC.mk x1.path x1.typ s2.1 x1.has (GE.mk s2.2.1 s2.2.2.1 s2.2.2.2.1 (GF.mk (GJ.mk s2.2.2.2.2.1 s2.2.2.2.2.2.1) s2.2.2.2.2.2.2.1) s2.2.2.2.2.2.2.2.1 s2.2.2.2.2.2.2.2.2.1 s2.2.2.2.2.2.2.2.2.2) x1.is)).bind λv96=>(yw ((v96==false)=true->0<=(n2:Int)/\(n2:Int) < ((l0).length:Int)) (((if (v96==false)=true then yT (GC.mk x1.path x1.typ s2.1 x1.has (GE.mk s2.2.1 s2.2.2.1 s2.2.2.2.1 (GF.mk (GJ.mk s2.2.2.2.2.1 s2.2.2.2.2.2.1) s2.2.2.2.2.2.2.1) s2.2.2.2.2.2.2.2.1 s2.2.2.2.2.2.2.2.2.1 s2.2.2.2.2.2.2.2.2.2) x1.is) ((l0).getD (n2:Int).toNat default) else some default).bind λv98=>(if (v96 || v98)=true then some (.nxt (s2.1,s2.2.1,s2.2.2.1,s2.2.2.2.1,s2.2.2.2.2.1,s2.2.2.2.2.2.1,s2.2.2.2.2.2.2.1,s2.2.2.2.2.2.2.2.1,s2.2.2.2.2.2.2.2.2.1,s2.2.2.2.2.2.2.2.2.2)) else (yw (((!(x2.has==s2.1))==false)=true->0<=(n2:Int)/\(n2:Int) < ((l0).length:Int)) (((if ((!(x2.has==s2.1))==false)=true then yM (((l0).getD (n2:Int).toNat default).is) (GE.mk s2.2.1 s2.2.2.1 s2.2.2.2.1 (GF.mk (GJ.mk s2.2.2.2.2.1 s2.2.2.2.2.2.1) s2.2.2.2.2.2.2.1) s2.2.2.2.2.2.2.2.1 s2.2.2.2.2.2.2.2.2.1 s2.2.2.2.2.2.2.2.2.2) else some default).bind λv101=>(if ((!(x2.has==s2.1)) || (!v101))=true then some (.ret (.ret (([]:List GC),(16:Int)))) else some (.nxt (x2.had,x2.was.typ,x2.was.n,x2.was.time,x2.was.dot.actor.rep,x2.was.dot.actor.inc,x2.was.dot.seq,x2.was.text,x2.was.items,x2.was.tombs))))))))))):Option (Out _ (Bool×Int×Int×Int×Int×Int×Int×zd×(List GI)×(List GF))))) l0 0 (x1.had,x1.was.typ,x1.was.n,x1.was.time,x1.was.dot.actor.rep,x1.was.dot.actor.inc,x1.was.dot.seq,x1.was.text,x1.was.items,x1.was.tombs)) λ(s2:Bool×Int×Int×Int×Int×Int×Int×zd×(List GI)×(List GF))=>((wI s1 (GC.mk x1.path x1.typ s2.1 x1.has (GE.mk s2.2.1 s2.2.2.1 s2.2.2.2.1 (GF.mk (GJ.mk s2.2.2.2.2.1 s2.2.2.2.2.2.1) s2.2.2.2.2.2.2.1) s2.2.2.2.2.2.2.2.1 s2.2.2.2.2.2.2.2.2.1 s2.2.2.2.2.2.2.2.2.2) x1.is)).bind λv103=>some (.nxt v103))):Option (Out _ (List GC)))) m1 0 l0) λ(s1:(List GC))=>((wT s1).bind λv104=>some (v104,(0:Int)))))))
def xK:Nat->(a0:(List GA))->(b1:(List GA))->Option Bool
 | 0,_,_=>none
 | n+1,a0,b1=>(if (((a0).length:Int) != ((b1).length:Int))=true then some false else (lp (zg (λ(n1:Nat) (x1:GA) (s1:Unit)=>(((xe b1 (n1:Int)).bind λy41=>(yw (((!(x1.name==y41.name))==false)=true->0<=(n1:Int)/\(n1:Int) < ((a0).length:Int)) ((yw (((!(x1.name==y41.name))==false)=true->0<=(n1:Int)/\(n1:Int) < ((b1).length:Int)) ((yw ((((!(x1.name==y41.name)) || (((((a0).getD (n1:Int).toNat default).leaves).length:Int) != ((((b1).getD (n1:Int).toNat default).leaves).length:Int)))==false)=true->0<=(n1:Int)/\(n1:Int) < ((a0).length:Int)) ((yw ((((!(x1.name==y41.name)) || (((((a0).getD (n1:Int).toNat default).leaves).length:Int) != ((((b1).getD (n1:Int).toNat default).leaves).length:Int)))==false)=true->0<=(n1:Int)/\(n1:Int) < ((b1).length:Int)) (((if (((!(x1.name==y41.name)) || (((((a0).getD (n1:Int).toNat default).leaves).length:Int) != ((((b1).getD (n1:Int).toNat default).leaves).length:Int)))==false)=true then xK n (((a0).getD (n1:Int).toNat default).subs) (((b1).getD (n1:Int).toNat default).subs) else some default).bind λv48=>(if (((!(x1.name==y41.name)) || (((((a0).getD (n1:Int).toNat default).leaves).length:Int) != ((((b1).getD (n1:Int).toNat default).leaves).length:Int))) || (!v48))=true then some (.ret false) else (lp (zg (λ(n2:Nat) (x2:GE) (s2:Unit)=>(((xe b1 (n1:Int)).bind λy60=>((xe y60.leaves (n2:Int)).bind λy61=>((yM x2 y61).bind λv62=>(if (!v62)=true then some (.ret (.ret false)) else some (.nxt ()))))):Option (Out _ Unit))) x1.leaves 0 ()) λ(s2:Unit)=>some (.nxt ()))))))))))))):Option (Out _ Unit))) a0 0 ()) λ(s1:Unit)=>some true))
def ref07Same (a0:(List GA)) (b1:(List GA)):Option Bool:=anyN λn=>xK n a0 b1
def diffTurn (l0:(List GC)):Option (List GC) :=
 (lp (zg (λ(n1:Nat) (x1:GC) (s1:(List GC))=>(((x4 x1).bind λv8=>(yw ((s1).length+(([(GC.mk v8.path v8.typ v8.has v8.had v8.is v8.was)]:List GC)).length<=yN) (some (.nxt (s1++([(GC.mk v8.path v8.typ v8.has v8.had v8.is v8.was)]:List GC)))))):Option (Out _ (List GC)))) l0 0 ([]:List GC)) λ(s1:(List GC))=>some s1)
def ref31Turn (l0:(List GC)):Option (List GC) :=
 (lp (zg (λ(n1:Nat) (x1:GC) (s1:(List GC))=>((yw ((s1).length+(([(GC.mk x1.path x1.typ x1.has x1.had x1.is x1.was)]:List GC)).length<=yN) (some (.nxt (s1++([(GC.mk x1.path x1.typ x1.has x1.had x1.is x1.was)]:List GC))))):Option (Out _ (List GC)))) l0 0 ([]:List GC)) λ(s1:(List GC))=>some s1)
def w7 (a0:(List GA)) (b1:(List GA)) (l2:(List GC)) (m3:(List GC)):Option Bool :=
 ((law31Xgreat a0 b1 ([]:List GA) l2 m3).bind λv1=>(if v1=true then ((vY).bind λv3=>some v3) else ((wE a0 b1).bind λv4=>((vP a0 b1).bind λv5=>((vg v4.1 v5.1).bind λv6=>((if (((!v6) || (v4.2 != v5.2))==false)=true then wP l2 else some default).bind λv7=>((if (((!v6) || (v4.2 != v5.2))==false)=true then wU l2 else some default).bind λv8=>((if ((((!v6) || (v4.2 != v5.2)) || (!(v7==v8)))==false)=true then diffSame l2 m3 else some default).bind λv9=>((if ((((!v6) || (v4.2 != v5.2)) || (!(v7==v8)))==false)=true then vg l2 m3 else some default).bind λv10=>((if (((((!v6) || (v4.2 != v5.2)) || (!(v7==v8))) || (!(v9==v10)))==false)=true then diffSame l2 l2 else some default).bind λv11=>(if (((((!v6) || (v4.2 != v5.2)) || (!(v7==v8))) || (!(v9==v10))) || (!v11))=true then some false else ((vl a0 l2).bind λv13=>((qy a0 l2).bind λv14=>((diffChain l2 m3).bind λv15=>((qA l2 m3).bind λv16=>((ref07Same v13.1 v14.1).bind λv17=>((if (((!v17) || (v13.2 != v14.2))==false)=true then vg v15.1 v16.1 else some default).bind λv18=>((if (((((!v17) || (v13.2 != v14.2)) || (!v18)) || (v15.2 != v16.2))==false)=true then diffTurn l2 else some default).bind λv19=>((if (((((!v17) || (v13.2 != v14.2)) || (!v18)) || (v15.2 != v16.2))==false)=true then ref31Turn l2 else some default).bind λv20=>((if (((((!v17) || (v13.2 != v14.2)) || (!v18)) || (v15.2 != v16.2))==false)=true then vg v19 v20 else some default).bind λv21=>(if (((((!v17) || (v13.2 != v14.2)) || (!v18)) || (v15.2 != v16.2)) || (!v21))=true then some false else (yw ((((v4.1).length:Nat):Int)<=9223372036854775807) (lp (zg (λ(n1:Nat) (x1:Nat) (s1:Unit)=>(((xe v4.1 (n1:Int)).bind λy39=>((xe y39.path (0:Int)).bind λy40=>((xe v4.1 (n1:Int)).bind λy41=>(lp (zg (λ(n2:Nat) (x2:GI) (s2:Unit)=>(((xe v4.1 (n1:Int)).bind λy48=>((xe y48.was.items (n2:Int)).bind λy49=>some (.nxt ()))):Option (Out _ Unit))) y41.was.items 0 ()) λ(s2:Unit)=>some (.nxt ()))))):Option (Out _ Unit))) (List.range (((((v4.1).length:Nat):Int)).toNat)) 0 ()) λ(s1:Unit)=>((vP a0 b1).bind λv50=>((vg v5.1 v50.1).bind λv51=>((if (v51==true)=true then vY else some default).bind λv52=>some (v51&&v52)))))))))))))))))))))))))))
end
end Go.Vv
