/- What the functions compute, as plain functions; printed by a program from the code. -/
import Derived.Test.YtgaelgcadcmfnaaGreatDoorVvU
import Derived.Test.YtgaelgcadcmfnaaGreatDoorVvMr
import Derived.Test.YtgaelgcadcmfnaaGreatDoorVvRb
import Derived.Test.YtgaelgcadcmfnaaGreatDoorVvSo
import Derived.Test.YtgaelgcadcmfnaaGreatDoorVxeF
set_option linter.all false
namespace Go.Vv
noncomputable section
open Go
structure GI where
 rep:Int
 inc:Int
 deriving DecidableEq,Inhabited
def GI.eqb (a b:GI):Bool:=(a.rep==b.rep&&(a.inc==b.inc&&true))
structure GC where
 actor:GI
 seq:Int
 deriving DecidableEq,Inhabited
def GC.eqb (a b:GC):Bool:=(a.actor.rep==b.actor.rep&&(a.actor.inc==b.actor.inc&&(a.seq==b.seq&&true)))
structure GF where
 time:Int
 dot:GC
 text:zd
 deriving DecidableEq,Inhabited
def GF.eqb (a b:GF):Bool:=(a.time==b.time&&(a.dot.actor.rep==b.dot.actor.rep&&(a.dot.actor.inc==b.dot.actor.inc&&(a.dot.seq==b.dot.seq&&(a.text==b.text&&true)))))
structure GE where
 typ:Int
 n:Int
 time:Int
 dot:GC
 text:zd
 items:(List GF)
 tombs:(List GC)
 deriving DecidableEq,Inhabited
structure GA where
 name:zd
 leaves:(List GE)
 subs:(List GA)
 deriving Inhabited
structure GL where
 word:zd
 parts:Nat
 read:Nat
 deriving DecidableEq,Inhabited
structure GH where
 path:(List zd)
 leaf:GE
 deriving DecidableEq,Inhabited
structure GJ where
 path:(List zd)
 typ:Int
 had:Bool
 has:Bool
 was:GE
 is:GE
 deriving DecidableEq,Inhabited
structure GK where
 path:(List zd)
 l:GE
 deriving DecidableEq,Inhabited
def GI.wf (x:GI):Prop:=(InK .u8 x.rep)/\(InK .u32 x.inc)
def GC.wf (x:GC):Prop:=(GI.wf x.actor)/\(InK .u64 x.seq)
def GF.wf (x:GF):Prop:=(InK .u64 x.time)/\(GC.wf x.dot)/\(x.text.length<=maxLen)
def GE.wf (x:GE):Prop:=(InK .u8 x.typ)/\(InK .i64 x.n)/\(InK .u64 x.time)/\(GC.wf x.dot)/\(x.text.length<=maxLen)/\(x.items.length<=maxLen/\∀y ∈ x.items,GF.wf y)/\(x.tombs.length<=maxLen/\∀y ∈ x.tombs,GC.wf y)
mutual
def GA.wf:GA->Prop
 | ⟨name,leaves,subs⟩=>(name.length<=maxLen)/\(leaves.length<=maxLen/\∀y ∈ leaves,GE.wf y)/\(GA.wfs subs)
def GA.wfs:List GA->Prop
 | []=>True
 | x::r=>x.wf/\GA.wfs r
end
theorem GA.wfs_iff (l:List GA):GA.wfs l ↔ ∀y ∈ l,GA.wf y:=by
 induction l with
 | nil=>simp [GA.wfs]
 | cons x r ih=>simp [GA.wfs,ih]
def GH.wf (x:GH):Prop:=(x.path.length<=maxLen/\∀y ∈ x.path,y.length<=maxLen)/\(GE.wf x.leaf)
def GJ.wf (x:GJ):Prop:=(x.path.length<=maxLen/\∀y ∈ x.path,y.length<=maxLen)/\(InK .u8 x.typ)/\(True)/\(True)/\(GE.wf x.was)/\(GE.wf x.is)
def GK.wf (x:GK):Prop:=(x.path.length<=maxLen/\∀y ∈ x.path,y.length<=maxLen)/\(GE.wf x.l)
def GI.bk (x:GI):Nat:=(1+(1+0))+1
def GC.bk (x:GC):Nat:=(GI.bk x.actor+(1+0))+1
def GF.bk (x:GF):Nat:=(1+(GC.bk x.dot+((x.text.length+1)+0)))+1
def GE.bk (x:GE):Nat:=(1+(1+(1+(GC.bk x.dot+((x.text.length+1)+(((x.items.map GF.bk).sum+1)+(((x.tombs.map GC.bk).sum+1)+0)))))))+1
mutual
def GA.bk:GA->Nat
 | ⟨name,leaves,subs⟩=>((name.length+1)+(((leaves.map GE.bk).sum+1)+(((GA.bks subs)+1)+0)))+1
def GA.bks:List GA->Nat
 | []=>0
 | x::r=>x.bk+GA.bks r
end
theorem GA.bks_eq (l:List GA):GA.bks l=(l.map GA.bk).sum:=by
 induction l with
 | nil=>rfl
 | cons x r ih=>simp only [GA.bks,uu,tc,ih]
def GH.bk (x:GH):Nat:=(((x.path.map (λs=>s.length+1)).sum+1)+(GE.bk x.leaf+0))+1
def GJ.bk (x:GJ):Nat:=(((x.path.map (λs=>s.length+1)).sum+1)+(1+(1+(1+(GE.bk x.was+(GE.bk x.is+0))))))+1
def GK.bk (x:GK):Nat:=(((x.path.map (λs=>s.length+1)).sum+1)+(GE.bk x.l+0))+1
abbrev zLf:GE:=GE.mk (0:Int) (0:Int) (0:Int) (GC.mk (GI.mk (0:Int) (0:Int)) (0:Int)) ([]:zd) ([]:List GF) ([]:List GC)
def yH:Nat->(t0:(List GA))->(deep1:Int)->Option Int
 | 0,_,_=>none
 | n+1,t0,deep1=>(lp (yr (λ(s1:Int×Int)=>((if ((decide (s1.2 < ((t0).length:Int)))&&(decide (deep1 < (10:Int))))=true then ((wh t0 s1.2).bind λy68=>((wh t0 s1.2).bind λy70=>((yH n y70.subs (IntKind.wrap .i64 (deep1+(1:Int)))).bind λv71=>(lp (yr (λ(s2:Int×Int)=>(((wh t0 s1.2).bind λy102=>(if (decide (s2.2 < ((y102.leaves).length:Int)))=true then ((wh t0 s1.2).bind λy105=>((wh y105.leaves s2.2).bind λy106=>(lp (zq (λ(n3:Nat) (x3:GF) (s3:Int)=>(some (.nxt (IntKind.wrap .i64 ((IntKind.wrap .i64 (s3+(1:Int)))+((x3.text).length:Int)))):Option (Out _ Int))) y106.items 0 (IntKind.wrap .i64 ((IntKind.wrap .i64 ((IntKind.wrap .i64 (s2.1+(1:Int)))+((y106.text).length:Int)))+((y106.tombs).length:Int)))) λ(s3:Int)=>some (.nxt (s3,(IntKind.wrap .i64 (s2.2+(1:Int)))))))) else some (.brk (s2.1,s2.2)))):Option (Out _ (Int×Int)))) ((IntKind.wrap .i64 ((IntKind.wrap .i64 ((IntKind.wrap .i64 (s1.1+(1:Int)))+((y68.name).length:Int)))+v71)),(0:Int))) λ(s2:Int×Int)=>some (.nxt (s2.1,(IntKind.wrap .i64 (s1.2+(1:Int))))))))) else some (.brk (s1.1,s1.2))):Option (Out _ (Int×Int)))) ((0:Int),(0:Int))) λ(s1:Int×Int)=>some s1.1)
def ref07Xsize (t0:(List GA)) (deep1:Int):Option Int:=anyN λn=>yH n t0 deep1
def vi (t0:(List GA)):Option Bool :=
 ((ref07Xsize t0 (0:Int)).bind λv1=>some (decide (v1 > (1500:Int))))
def wZ (n0:Int):Option GC :=
 some (GC.mk (GI.mk (0:Int) (1:Int)) n0)
def qH (n0:Int):Option Bool :=
 some ((decide (n0 >= (1:Int)))&&(decide (n0<=(1099511627776:Int))))
def dotMayActor (a0:GI):Option Bool :=
 some (((decide (a0.rep < (16:Int)))&&(decide (a0.inc >= (1:Int))))&&(decide (a0.inc<=(4:Int))))
def dotMay (d0:GC):Option Bool :=
 ((dotMayActor d0.actor).bind λv1=>some ((v1&&(decide (d0.seq >= (1:Int))))&&(decide (d0.seq<=(1048576:Int)))))
def vB (s0:zd):Option Bool :=
 some (decide (((s0).length:Int)<=(40:Int)))
def vN (vals0:(List Int)):Option Int :=
 (lp (zq (λ(n1:Nat) (x1:Int) (s1:Unit)=>((if (x1 != (0:Int))=true then some (.ret x1) else some (.nxt ())):Option (Out _ Unit))) vals0 0 ()) λ(s1:Unit)=>some (0:Int))
def wl (x0:Int):Option Bool :=
 some (x0 != x0)
def xT (x0:Int) (y1:Int):Option Int :=
 ((wl x0).bind λv1=>((wl y1).bind λv2=>(if v1=true then (if v2=true then some (0:Int) else some (-1:Int)) else (if v2=true then some (1:Int) else (if (decide (x0 < y1))=true then some (-1:Int) else (if (decide (x0 > y1))=true then some (1:Int) else some (0:Int)))))))
def wI (x0:Int):Option Bool :=
 some (x0 != x0)
def yP (x0:Int) (y1:Int):Option Int :=
 ((wI x0).bind λv1=>((wI y1).bind λv2=>(if v1=true then (if v2=true then some (0:Int) else some (-1:Int)) else (if v2=true then some (1:Int) else (if (decide (x0 < y1))=true then some (-1:Int) else (if (decide (x0 > y1))=true then some (1:Int) else some (0:Int)))))))
def qM (a0:GI) (b1:GI):Option Int :=
 ((yP a0.rep b1.rep).bind λv1=>((xT a0.inc b1.inc).bind λv2=>((vN ([v1,v2]:List Int)).bind λv3=>some v3)))
def wj (x0:Int):Option Bool :=
 some (x0 != x0)
def xp (x0:Int) (y1:Int):Option Int :=
 ((wj x0).bind λv1=>((wj y1).bind λv2=>(if v1=true then (if v2=true then some (0:Int) else some (-1:Int)) else (if v2=true then some (1:Int) else (if (decide (x0 < y1))=true then some (-1:Int) else (if (decide (x0 > y1))=true then some (1:Int) else some (0:Int)))))))
def qi (a0:GC) (b1:GC):Option Int :=
 ((qM a0.actor b1.actor).bind λv1=>((xp a0.seq b1.seq).bind λv2=>((vN ([v1,v2]:List Int)).bind λv3=>some v3)))
def leafXcompare (a0:Int) (d1:GC) (b2:Int) (o3:GC):Option Int :=
 ((xp a0 b2).bind λv1=>((qi d1 o3).bind λv2=>((vN ([v1,v2]:List Int)).bind λv3=>some v3)))
def leafAhead (time0:Int) (d1:GC) (other2:Int) (o3:GC):Option Bool :=
 ((leafXcompare time0 d1 other2 o3).bind λv1=>some (decide (v1 < (0:Int))))
def leafXtwice (l0:(List GF)):Option Bool :=
 (lp (zq (λ(n1:Nat) (x1:GF) (s1:List (GC×Int))=>(some (.nxt (mput GC.eqb s1 x1.dot (IntKind.wrap .i64 ((xL GC.eqb (0:Int) s1 x1.dot)+(1:Int))))):Option (Out _ (List (GC×Int))))) l0 0 ([]:List (GC×Int))) λ(s1:List (GC×Int))=>some (decide (((s1).length:Int) < ((l0).length:Int))))
def qe (l0:(List GF)) (timed1:Bool):Option Bool :=
 (lp (zq (λ(n1:Nat) (x1:GF) (s1:Unit)=>(((dotMay x1.dot).bind λv13=>((if ((!v13)==false)=true then vB x1.text else some default).bind λv14=>((if (((!v13) || (!v14))==false)=true then qH x1.time else some default).bind λv15=>(if ((((!v13) || (!v14)) || (!(timed1==v15))) || ((!timed1)&&(x1.time != (0:Int))))=true then some (.ret false) else (ym (((decide ((n1:Int) > (0:Int)))==true)=true->0<=(IntKind.wrap .i64 ((n1:Int) - (1:Int)))/\(IntKind.wrap .i64 ((n1:Int) - (1:Int))) < ((l0).length:Int)) ((ym (((decide ((n1:Int) > (0:Int)))==true)=true->0<=(IntKind.wrap .i64 ((n1:Int) - (1:Int)))/\(IntKind.wrap .i64 ((n1:Int) - (1:Int))) < ((l0).length:Int)) (((if ((decide ((n1:Int) > (0:Int)))==true)=true then leafAhead (((l0).getD (IntKind.wrap .i64 ((n1:Int) - (1:Int))).toNat default).time) (((l0).getD (IntKind.wrap .i64 ((n1:Int) - (1:Int))).toNat default).dot) x1.time x1.dot else some default).bind λv19=>(if ((decide ((n1:Int) > (0:Int)))&&(!v19))=true then some (.ret false) else some (.nxt ()))))))))))):Option (Out _ Unit))) l0 0 ()) λ(s1:Unit)=>((leafXtwice l0).bind λv21=>some (!v21)))
def xO (s0:(List GF)) (f1:(GF->Option Bool)):Option Int :=
 (lp (zq (λ(n1:Nat) (x1:GF) (s1:Unit)=>(((f1 x1).bind λv7=>(if v7=true then some (.ret (n1:Int)) else some (.nxt ()))):Option (Out _ Unit))) s0 0 ()) λ(s1:Unit)=>some (-1:Int))
def yK (s0:(List GF)) (f1:(GF->Option Bool)):Option Bool :=
 ((xO s0 f1).bind λv1=>some (decide (v1 >= (0:Int))))
def leafXhasC1 (x0:GF) (c0:GC):Option Bool :=
 some (x0.dot.actor.rep==c0.actor.rep&&(x0.dot.actor.inc==c0.actor.inc&&(x0.dot.seq==c0.seq&&true)))
def leafXhas (l0:(List GF)) (d1:GC):Option Bool :=
 ((yK l0 (λx0=>leafXhasC1 x0 d1)).bind λv1=>some v1)
def leafXtombs (l0:GE):Option Bool :=
 (lp (zq (λ(n1:Nat) (x1:GC) (s1:Unit)=>(((dotMay x1).bind λv19=>(ym ((((!v19)==false)&&((decide ((n1:Int) > (0:Int)))==true))=true->0<=(IntKind.wrap .i64 ((n1:Int) - (1:Int)))/\(IntKind.wrap .i64 ((n1:Int) - (1:Int))) < ((l0.tombs).length:Int)) (((if (((!v19)==false)&&((decide ((n1:Int) > (0:Int)))==true))=true then qi ((l0.tombs).getD (IntKind.wrap .i64 ((n1:Int) - (1:Int))).toNat default) x1 else some default).bind λv21=>((if (((!v19) || ((decide ((n1:Int) > (0:Int)))&&(decide (v21 >= (0:Int)))))==false)=true then leafXhas l0.items x1 else some default).bind λv22=>(if (((!v19) || ((decide ((n1:Int) > (0:Int)))&&(decide (v21 >= (0:Int))))) || v22)=true then some (.ret false) else some (.nxt ()))))))):Option (Out _ Unit))) l0.tombs 0 ()) λ(s1:Unit)=>some true)
def wd (s10:(List GF)) (s21:(List GF)):Option Bool :=
 (if (((s10).length:Int) != ((s21).length:Int))=true then some false else (lp (zq (λ(n1:Nat) (x1:GF) (s1:Unit)=>(((wh s21 (n1:Int)).bind λy10=>(if (!(x1.time==y10.time&&(x1.dot.actor.rep==y10.dot.actor.rep&&(x1.dot.actor.inc==y10.dot.actor.inc&&(x1.dot.seq==y10.dot.seq&&(x1.text==y10.text&&true))))))=true then some (.ret false) else some (.nxt ()))):Option (Out _ Unit))) s10 0 ()) λ(s1:Unit)=>some true))
def wv (s10:(List GC)) (s21:(List GC)):Option Bool :=
 (if (((s10).length:Int) != ((s21).length:Int))=true then some false else (lp (zq (λ(n1:Nat) (x1:GC) (s1:Unit)=>(((wh s21 (n1:Int)).bind λy10=>(if (!(x1.actor.rep==y10.actor.rep&&(x1.actor.inc==y10.actor.inc&&(x1.seq==y10.seq&&true))))=true then some (.ret false) else some (.nxt ()))):Option (Out _ Unit))) s10 0 ()) λ(s1:Unit)=>some true))
def xR (a0:GE) (b1:GE):Option Bool :=
 ((if ((((((a0.typ==b1.typ)&&(a0.n==b1.n))&&(a0.time==b1.time))&&(a0.dot.actor.rep==b1.dot.actor.rep&&(a0.dot.actor.inc==b1.dot.actor.inc&&(a0.dot.seq==b1.dot.seq&&true))))&&(a0.text==b1.text))==true)=true then wd a0.items b1.items else some default).bind λv1=>((if (((((((a0.typ==b1.typ)&&(a0.n==b1.n))&&(a0.time==b1.time))&&(a0.dot.actor.rep==b1.dot.actor.rep&&(a0.dot.actor.inc==b1.dot.actor.inc&&(a0.dot.seq==b1.dot.seq&&true))))&&(a0.text==b1.text))&&v1)==true)=true then wv a0.tombs b1.tombs else some default).bind λv2=>some (((((((a0.typ==b1.typ)&&(a0.n==b1.n))&&(a0.time==b1.time))&&(a0.dot.actor.rep==b1.dot.actor.rep&&(a0.dot.actor.inc==b1.dot.actor.inc&&(a0.dot.seq==b1.dot.seq&&true))))&&(a0.text==b1.text))&&v1)&&v2)))
def leafMay (l0:GE):Option Bool :=
 (if (l0.typ==(1:Int))=true then ((xR l0 (GE.mk l0.typ l0.n (0:Int) (GC.mk (GI.mk (0:Int) (0:Int)) (0:Int)) ([]:zd) ([]:List GF) ([]:List GC))).bind λv2=>some v2) else (if (l0.typ==(2:Int))=true then ((if ((l0.time != (0:Int))==true)=true then qH l0.time else some default).bind λv4=>((if (((l0.time != (0:Int))==true)&&(v4==true))=true then dotMay l0.dot else some default).bind λv5=>((if (((l0.time != (0:Int))==true)&&((v4&&v5)==true))=true then vB l0.text else some default).bind λv6=>(if (((l0.time != (0:Int))&&(!((v4&&v5)&&v6))) || ((l0.time==(0:Int))&&((!(l0.dot.actor.rep==(0:Int)&&(l0.dot.actor.inc==(0:Int)&&(l0.dot.seq==(0:Int)&&true)))) || (!(l0.text==([]:zd))))))=true then some false else ((xR l0 (GE.mk l0.typ (0:Int) l0.time l0.dot l0.text ([]:List GF) ([]:List GC))).bind λv8=>some v8))))) else (if (l0.typ==(3:Int))=true then ((qe l0.items false).bind λv10=>((if ((!v10)==false)=true then leafXtombs l0 else some default).bind λv11=>(if ((!v10) || (!v11))=true then some false else ((xR l0 (GE.mk l0.typ (0:Int) (0:Int) (GC.mk (GI.mk (0:Int) (0:Int)) (0:Int)) ([]:zd) l0.items l0.tombs)).bind λv13=>some v13)))) else (if (l0.typ==(4:Int))=true then ((qe l0.items true).bind λv15=>(if (!v15)=true then some false else ((xR l0 (GE.mk l0.typ (0:Int) (0:Int) (GC.mk (GI.mk (0:Int) (0:Int)) (0:Int)) ([]:zd) l0.items ([]:List GC))).bind λv17=>some v17))) else some false))))
/-- strconv.FormatUint -/
def vF (p0 p1:Int):Option zd:=fmtU p0 p1
def yU (n0:Int):Option zd :=
 ((vF n0 (10:Int)).bind λv1=>some v1)
def yW (d0:GC):Option zd :=
 ((yU (IntKind.wrap .u64 (d0.actor.rep))).bind λv1=>(ym ((v1).length+(([46]:zd)).length<=maxLen) (((yU (IntKind.wrap .u64 (d0.actor.inc))).bind λv3=>(ym (((v1++([46]:zd))).length+(v3).length<=maxLen) ((ym ((((v1++([46]:zd))++v3)).length+(([46]:zd)).length<=maxLen) (((yU d0.seq).bind λv6=>(ym (((((v1++([46]:zd))++v3)++([46]:zd))).length+(v6).length<=maxLen) (some ((((v1++([46]:zd))++v3)++([46]:zd))++v6))))))))))))
/-- varve/export.hex -/
def qh (p0:zd):Option zd:=hexT p0
def exportXlog (l0:GE):Option (List zd) :=
 (lp (zq (λ(n1:Nat) (x1:GF) (s1:(List zd))=>(((yU x1.time).bind λv23=>(ym ((v23).length+(([64]:zd)).length<=maxLen) (((yW x1.dot).bind λv25=>(ym (((v23++([64]:zd))).length+(v25).length<=maxLen) ((ym ((((v23++([64]:zd))++v25)).length+(([61]:zd)).length<=maxLen) (((qh x1.text).bind λv28=>(ym (((((v23++([64]:zd))++v25)++([61]:zd))).length+(v28).length<=maxLen) ((ym ((s1).length+(([((((v23++([64]:zd))++v25)++([61]:zd))++v28)]:List zd)).length<=yS) (some (.nxt (s1++([((((v23++([64]:zd))++v25)++([61]:zd))++v28)]:List zd)))))))))))))))):Option (Out _ (List zd)))) l0.items 0 ([]:List zd)) λ(s1:(List zd))=>some s1)
/-- strconv.ParseUint -/
def zp (p0:zd) (p1 p2:Int):Option (Int×Bool):=parseU p0 p1 p2
/-- strings.Cut -/
def xb (p0 p1:zd):Option (zd×zd×Bool):=strCut p0 p1
/-- strings.Split -/
def ye (p0:zd) (p1:zd):Option (List zd):=strSplit p0 p1
/-- strconv.FormatInt -/
def vW (p0 p1:Int):Option zd:=fmtI p0 p1
def wE (l0:GE):Option (List zd) :=
 ((vW l0.n (10:Int)).bind λv1=>some ([v1]:List zd))
/-- strconv.ParseInt -/
def wc (p0:zd) (p1 p2:Int):Option (Int×Bool):=parseI p0 p1 p2
def xd (l0:GE):Option (List zd) :=
 (if (l0.time==(0:Int))=true then some ([([45]:zd)]:List zd) else ((yU l0.time).bind λv2=>((yW l0.dot).bind λv3=>((qh l0.text).bind λv4=>some ([v2,v3,v4]:List zd)))))
def exportXset (l0:GE):Option (List zd) :=
 (lp (zq (λ(n1:Nat) (x1:GF) (s1:(List zd))=>(((yW x1.dot).bind λv20=>(ym ((v20).length+(([61]:zd)).length<=maxLen) (((qh x1.text).bind λv22=>(ym (((v20++([61]:zd))).length+(v22).length<=maxLen) ((ym ((s1).length+(([((v20++([61]:zd))++v22)]:List zd)).length<=yS) (some (.nxt (s1++([((v20++([61]:zd))++v22)]:List zd))))))))))):Option (Out _ (List zd)))) l0.items 0 ([]:List zd)) λ(s1:(List zd))=>(lp (zq (λ(n2:Nat) (x2:GC) (s2:(List zd))=>(((yW x2).bind λv42=>(ym ((([33]:zd)).length+(v42).length<=maxLen) ((ym ((s2).length+(([(([33]:zd)++v42)]:List zd)).length<=yS) (some (.nxt (s2++([(([33]:zd)++v42)]:List zd)))))))):Option (Out _ (List zd)))) l0.tombs 0 s1) λ(s2:(List zd))=>some s2))
def yz (s0:zd) (prefix1:zd):Option Bool :=
 (ym (((decide (((s0).length:Int) >= ((prefix1).length:Int)))==true)=true->0<=(0:Int)/\(0:Int)<=((prefix1).length:Int)/\((prefix1).length:Int)<=((s0).length:Int)) (some ((decide (((s0).length:Int) >= ((prefix1).length:Int)))&&(((s0.take ((prefix1).length:Int).toNat).drop (0:Int).toNat)==prefix1))))
def yA (s0:zd) (prefix1:zd):Option (zd×Bool) :=
 ((yz s0 prefix1).bind λv1=>(if (!v1)=true then some (s0,false) else ((slc s0 ((prefix1).length:Int) ((s0).length:Int)).bind λm4=>some (m4,true))))
def xn (s0:zd) (prefix1:zd):Option (zd×Bool) :=
 ((yA s0 prefix1).bind λv1=>some (v1.1,v1.2))
def exportXkinds  : Option (GL×GL×GL×GL×GL) :=
 some ((GL.mk ([]:zd) 0 0),(GL.mk ([99,111,117,110,116,101,114]:zd) 1 1),(GL.mk ([114,101,103,105,115,116,101,114]:zd) 2 2),(GL.mk ([115,101,116]:zd) 3 3),(GL.mk ([108,111,103]:zd) 4 4))
/-- strings.Join -/
def xG (p0:List zd) (p1:zd):Option zd:=strJoin p0 p1
def xz (s0:(List zd)) (f1:(zd->Option Bool)):Option Int :=
 (lp (zq (λ(n1:Nat) (x1:zd) (s1:Unit)=>(((f1 x1).bind λv7=>(if v7=true then some (.ret (n1:Int)) else some (.nxt ()))):Option (Out _ Unit))) s0 0 ()) λ(s1:Unit)=>some (-1:Int))
def yh (s0:(List zd)) (f1:(zd->Option Bool)):Option Bool :=
 ((xz s0 f1).bind λv1=>some (decide (v1 >= (0:Int))))
def qb (r0:Int):Option Bool :=
 some ((((decide (r0 < (97:Int))) || (decide (r0 > (122:Int))))&&((decide (r0 < (65:Int))) || (decide (r0 > (90:Int)))))&&((decide (r0 < (48:Int))) || (decide (r0 > (57:Int)))))
def wo (s0:zd) (f1:(Int->Option Bool)) (truth2:Bool):Option Int :=
 (lp (yr (λ(s1:Nat)=>((if s1 < (s0).length then ((f1 ((dec s0 s1).1:Int)).bind λv6=>(if (v6==truth2)=true then some (.ret (s1:Int)) else some (.nxt (s1+(dec s0 s1).2)))) else some (.brk s1)):Option (Out _ Nat))) 0) λ(s1:Nat)=>some (-1:Int))
def wK (s0:zd) (f1:(Int->Option Bool)):Option Int :=
 ((wo s0 f1 true).bind λv1=>some v1)
def xg (s0:zd) (f1:(Int->Option Bool)):Option Bool :=
 ((wK s0 f1).bind λv1=>some (decide (v1 >= (0:Int))))
def opIsName (s0:zd):Option Bool :=
 ((if (((decide (((s0).length:Int) >= (1:Int)))&&(decide (((s0).length:Int)<=(12:Int))))==true)=true then xg s0 (λx0=>qb x0) else some default).bind λv3=>some (((decide (((s0).length:Int) >= (1:Int)))&&(decide (((s0).length:Int)<=(12:Int))))&&(!v3)))
def opMayPathC1 (s0:zd):Option Bool :=
 ((opIsName s0).bind λv1=>some (!v1))
def vz (p0:(List zd)):Option Bool :=
 ((if (((decide (((p0).length:Int) >= (1:Int)))&&(decide (((p0).length:Int)<=(3:Int))))==true)=true then yh p0 (λx0=>opMayPathC1 x0) else some default).bind λv3=>some (((decide (((p0).length:Int) >= (1:Int)))&&(decide (((p0).length:Int)<=(3:Int))))&&(!v3)))
def qm (c:Nat) (x0:GE):Option (List zd):=match c with
 | 1=>wE x0
 | 2=>xd x0
 | 3=>exportXset x0
 | 4=>exportXlog x0
 | _=>none
def zR (r0:GH):Option zd :=
 ((vz r0.path).bind λv1=>((if ((!v1)==false)=true then leafMay r0.leaf else some default).bind λv2=>(if ((!v1) || (!v2))=true then some ([]:zd) else ((exportXkinds).bind λv4=>((wh ([v4.1,v4.2.1,v4.2.2.1,v4.2.2.2.1,v4.2.2.2.2]:List GL) r0.leaf.typ).bind λy5=>((xG r0.path ([47]:zd)).bind λv6=>((qm y5.parts r0.leaf).bind λv7=>(ym ((([v6,y5.word]:List zd)).length+(v7).length<=yS) (((xG (([v6,y5.word]:List zd)++v7) ([32]:zd)).bind λv9=>some v9))))))))))
def vC  : Option Bool :=
 ((zR (GH.mk ([([97]:zd),([98]:zd)]:List zd) (GE.mk (1:Int) (-5:Int) (0:Int) (GC.mk (GI.mk (0:Int) (0:Int)) (0:Int)) ([]:zd) ([]:List GF) ([]:List GC)))).bind λv1=>((wZ (2:Int)).bind λv2=>((wZ (1:Int)).bind λv3=>((zR (GH.mk ([([97]:zd)]:List zd) (GE.mk (3:Int) (0:Int) (0:Int) (GC.mk (GI.mk (0:Int) (0:Int)) (0:Int)) ([]:zd) ([(GF.mk (0:Int) v2 ([117]:zd))]:List GF) ([v3]:List GC)))).bind λv4=>some ((v1==([97,47,98,32,99,111,117,110,116,101,114,32,45,53]:zd))&&(v4==([97,32,115,101,116,32,48,46,49,46,50,61,55,53,32,33,48,46,49,46,49]:zd)))))))
def yY (s0:(List zd)):Option (List zd) :=
 (nilq s0 λb1=>(if b1=true then some ([]:List zd) else (ym ((([]:List zd)).length+(s0).length<=yS) (some (([]:List zd)++s0)))))
def xc (s0:(List GF)):Option (List GF) :=
 (nilq s0 λb1=>(if b1=true then some ([]:List GF) else (ym ((([]:List GF)).length+(s0).length<=yS) (some (([]:List GF)++s0)))))
def xr (s0:(List GC)):Option (List GC) :=
 (nilq s0 λb1=>(if b1=true then some ([]:List GC) else (ym ((([]:List GC)).length+(s0).length<=yS) (some (([]:List GC)++s0)))))
def pathsXown (l0:GE):Option GE :=
 ((xc l0.items).bind λv1=>((xr l0.tombs).bind λv2=>some (GE.mk l0.typ l0.n l0.time l0.dot l0.text v1 v2)))
def vZ (t0:(List GA)) (ahead1:(List zd)):Option ((List GA)×(List zd)) :=
 some (t0,ahead1)
def xJ:Nat->(S:Type)->(yield0:S->GH->Option (Bool×S))->(c0:(List GA))->(c1:(List zd))->(s0:S)->Option S
 | 0,_,_,_,_,_=>none
 | n+1,S,yield0,c0,c1,s0=>(lp (zq (λ(n1:Nat) (x1:GA) (s1:S)=>(((yY c1).bind λv37=>(ym ((v37).length+(([x1.name]:List zd)).length<=yS) ((lp (zq (λ(n2:Nat) (x2:GE) (s2:S)=>(((yY (v37++([x1.name]:List zd))).bind λv51=>((pathsXown x2).bind λv52=>((yield0 s2 (GH.mk v51 v52)).bind λv53=>(if (!v53.1)=true then some (.ret (.ret v53.2)) else some (.nxt v53.2))))):Option (Out _ S))) x1.leaves 0 s1) λ(s2:S)=>((vZ x1.subs (v37++([x1.name]:List zd))).bind λv55=>(rng (xJ n _ (stp (λ(s3:S) (x3:GH)=>(((yield0 s3 x3).bind λv64=>(if (!v64.1)=true then some (false,(v64.2,some 0)) else some (true,(v64.2,none)))):Option (Bool×(S×Option Nat))))) v55.1 v55.2 (s2,none)) (λ(s3:S)=>some (.nxt s3)) (λ(j3:Nat) (s3:S)=>if j3=0 then some (.ret s3) else none))))))):Option (Out _ S))) c0 0 s0) λ(s1:S)=>some s1)
def pathsXrowsC1 (S:Type) (yield0:S->GH->Option (Bool×S)) (c0:(List GA)) (c1:(List zd)) (s0:S):Option S:=anyN λn=>xJ n S yield0 c0 c1 s0
def vq:Nat->(t0:(List GA))->(deep1:Int)->Option Bool
 | 0,_,_=>none
 | n+1,t0,deep1=>(if ((decide (((t0).length:Int) > (0:Int)))&&(deep1==(3:Int)))=true then some false else (lp (zq (λ(n1:Nat) (x1:GA) (s1:Unit)=>(((opIsName x1.name).bind λv27=>(ym ((((!v27)==false)&&((decide ((n1:Int) > (0:Int)))==true))=true->0<=(IntKind.wrap .i64 ((n1:Int) - (1:Int)))/\(IntKind.wrap .i64 ((n1:Int) - (1:Int))) < ((t0).length:Int)) (((if ((((!v27) || ((decide ((n1:Int) > (0:Int)))&&(!(Op.bytesLess (((t0).getD (IntKind.wrap .i64 ((n1:Int) - (1:Int))).toNat default).name) x1.name)))) || ((IntKind.wrap .i64 (((x1.leaves).length:Int)+((x1.subs).length:Int)))==(0:Int)))==false)=true then vq n x1.subs (IntKind.wrap .i64 (deep1+(1:Int))) else some default).bind λv31=>(if ((((!v27) || ((decide ((n1:Int) > (0:Int)))&&(!(Op.bytesLess (((t0).getD (IntKind.wrap .i64 ((n1:Int) - (1:Int))).toNat default).name) x1.name)))) || ((IntKind.wrap .i64 (((x1.leaves).length:Int)+((x1.subs).length:Int)))==(0:Int))) || (!v31))=true then some (.ret false) else (lp (zq (λ(n2:Nat) (x2:GE) (s2:Unit)=>(((leafMay x2).bind λv43=>(ym ((((!v43)==false)&&((decide ((n2:Int) > (0:Int)))==true))=true->0<=(IntKind.wrap .i64 ((n2:Int) - (1:Int)))/\(IntKind.wrap .i64 ((n2:Int) - (1:Int))) < ((x1.leaves).length:Int)) ((if ((!v43) || ((decide ((n2:Int) > (0:Int)))&&(decide (((x1.leaves).getD (IntKind.wrap .i64 ((n2:Int) - (1:Int))).toNat default).typ >= x2.typ))))=true then some (.ret (.ret false)) else some (.nxt ()))))):Option (Out _ Unit))) x1.leaves 0 ()) λ(s2:Unit)=>some (.nxt ()))))))):Option (Out _ Unit))) t0 0 ()) λ(s1:Unit)=>some true))
def treeXmay (t0:(List GA)) (deep1:Int):Option Bool:=anyN λn=>vq n t0 deep1
def treeMay (t0:(List GA)):Option Bool :=
 ((treeXmay t0 (0:Int)).bind λv1=>some v1)
def xY (s0:(List GH)) (seq1:(S:Type)->(S->GH->Option (Bool×S))->S->Option S):Option (List GH) :=
 (rng (seq1 _ (stp (λ(s1:(List GH)) (x1:GH)=>((ym ((s1).length+(([x1]:List GH)).length<=yS) (some (true,((s1++([x1]:List GH)),none)))):Option (Bool×((List GH)×Option Nat))))) (s0,none)) (λ(s1:(List GH))=>some s1) (λ_ _=>none))
def wL (seq0:(S:Type)->(S->GH->Option (Bool×S))->S->Option S):Option (List GH) :=
 ((xY ([]:List GH) seq0).bind λv1=>some v1)
def pathsRows (t0:(List GA)):Option (List GH) :=
 ((treeMay t0).bind λv1=>(if (!v1)=true then some ([]:List GH) else ((vZ t0 ([]:List zd)).bind λv3=>((wL (λS y s=>pathsXrowsC1 S y v3.1 v3.2 s)).bind λv4=>some v4))))
/-- varve/export.Text -/
def vl (t0:List GA):Option zd:=(pathsRows t0).bind λv=>linesO zR v
def qB (s0:zd):Option Bool :=
 (if ((decide (((s0).length:Int) < (1:Int))) || (decide (((s0).length:Int) > (12:Int))))=true then some false else (lp (zq (λ(n1:Nat) (x1:UInt8) (s1:Unit)=>((if (!((((decide ((x1.toNat:Int) >= (97:Int)))&&(decide ((x1.toNat:Int)<=(122:Int)))) || ((decide ((x1.toNat:Int) >= (65:Int)))&&(decide ((x1.toNat:Int)<=(90:Int))))) || ((decide ((x1.toNat:Int) >= (48:Int)))&&(decide ((x1.toNat:Int)<=(57:Int))))))=true then some (.ret false) else some (.nxt ())):Option (Out _ Unit))) s0 0 ()) λ(s1:Unit)=>some true))
def wW (a0:GI):Option Bool :=
 some (((decide (a0.rep<=(15:Int)))&&(decide (a0.inc >= (1:Int))))&&(decide (a0.inc<=(4:Int))))
def ref03May (d0:GC):Option Bool :=
 ((wW d0.actor).bind λv1=>some ((v1&&(decide (d0.seq >= (1:Int))))&&(decide (d0.seq<=(1048576:Int)))))
def ref05Item (l0:(List GF)) (d1:GC):Option Int :=
 (lp (zq (λ(n1:Nat) (x1:GF) (s1:Unit)=>((if (x1.dot.actor.rep==d1.actor.rep&&(x1.dot.actor.inc==d1.actor.inc&&(x1.dot.seq==d1.seq&&true)))=true then some (.ret (n1:Int)) else some (.nxt ())):Option (Out _ Unit))) l0 0 ()) λ(s1:Unit)=>some (-1:Int))
def ref05Tomb (l0:(List GC)) (d1:GC):Option Bool :=
 (lp (zq (λ(n1:Nat) (x1:GC) (s1:Unit)=>((if (x1.actor.rep==d1.actor.rep&&(x1.actor.inc==d1.actor.inc&&(x1.seq==d1.seq&&true)))=true then some (.ret true) else some (.nxt ())):Option (Out _ Unit))) l0 0 ()) λ(s1:Unit)=>some false)
def ref03Less (a0:GC) (b1:GC):Option Bool :=
 (if (a0.actor.rep != b1.actor.rep)=true then some (decide (a0.actor.rep < b1.actor.rep)) else (if (a0.actor.inc != b1.actor.inc)=true then some (decide (a0.actor.inc < b1.actor.inc)) else some (decide (a0.seq < b1.seq))))
def ref05Ahead (time0:Int) (d1:GC) (other2:Int) (o3:GC):Option Bool :=
 (if (time0 != other2)=true then some (decide (time0 < other2)) else ((ref03Less d1 o3).bind λv2=>some v2))
def ref05May (l0:GE):Option Bool :=
 (if (((((decide (l0.typ < (1:Int))) || (decide (l0.typ > (4:Int)))) || ((l0.typ != (1:Int))&&(l0.n != (0:Int)))) || ((decide (l0.typ < (3:Int)))&&(decide (((l0.items).length:Int) > (0:Int))))) || ((l0.typ != (3:Int))&&(decide (((l0.tombs).length:Int) > (0:Int)))))=true then some false else (lp ((if ((l0.typ != (2:Int)) || (l0.time==(0:Int)))=true then (if (((l0.time != (0:Int)) || (!(l0.dot.actor.rep==(0:Int)&&(l0.dot.actor.inc==(0:Int)&&(l0.dot.seq==(0:Int)&&true))))) || (!(l0.text==([]:zd))))=true then some (.inl false) else some (.inr ())) else ((if ((decide (l0.time > (1099511627776:Int)))==false)=true then ref03May l0.dot else some default).bind λv11=>(if (((decide (l0.time > (1099511627776:Int))) || (!v11)) || (decide (((l0.text).length:Int) > (40:Int))))=true then some (.inl false) else some (.inr ())))):Option (_ ⊕ Unit)) λ(s1:Unit)=>(lp (zq (λ(n2:Nat) (x2:GF) (s2:Unit)=>(((ref03May x2.dot).bind λv41=>((if (((((!v41) || (decide (((x2.text).length:Int) > (40:Int)))) || ((l0.typ==(3:Int))&&(x2.time != (0:Int)))) || ((l0.typ==(4:Int))&&((decide (x2.time < (1:Int))) || (decide (x2.time > (1099511627776:Int))))))==false)=true then ref05Item l0.items x2.dot else some default).bind λv43=>((if ((((((!v41) || (decide (((x2.text).length:Int) > (40:Int)))) || ((l0.typ==(3:Int))&&(x2.time != (0:Int)))) || ((l0.typ==(4:Int))&&((decide (x2.time < (1:Int))) || (decide (x2.time > (1099511627776:Int)))))) || (v43 != (n2:Int)))==false)=true then ref05Tomb l0.tombs x2.dot else some default).bind λv44=>(if ((((((!v41) || (decide (((x2.text).length:Int) > (40:Int)))) || ((l0.typ==(3:Int))&&(x2.time != (0:Int)))) || ((l0.typ==(4:Int))&&((decide (x2.time < (1:Int))) || (decide (x2.time > (1099511627776:Int)))))) || (v43 != (n2:Int))) || v44)=true then some (.ret false) else (ym (((decide ((n2:Int) > (0:Int)))==true)=true->0<=(IntKind.wrap .i64 ((n2:Int) - (1:Int)))/\(IntKind.wrap .i64 ((n2:Int) - (1:Int))) < ((l0.items).length:Int)) ((ym (((decide ((n2:Int) > (0:Int)))==true)=true->0<=(IntKind.wrap .i64 ((n2:Int) - (1:Int)))/\(IntKind.wrap .i64 ((n2:Int) - (1:Int))) < ((l0.items).length:Int)) (((if ((decide ((n2:Int) > (0:Int)))==true)=true then ref05Ahead (((l0.items).getD (IntKind.wrap .i64 ((n2:Int) - (1:Int))).toNat default).time) (((l0.items).getD (IntKind.wrap .i64 ((n2:Int) - (1:Int))).toNat default).dot) x2.time x2.dot else some default).bind λv48=>(if ((decide ((n2:Int) > (0:Int)))&&(!v48))=true then some (.ret false) else some (.nxt ()))))))))))):Option (Out _ Unit))) l0.items 0 ()) λ(s2:Unit)=>(lp (zq (λ(n3:Nat) (x3:GC) (s3:Unit)=>(((ref03May x3).bind λv73=>(ym ((((!v73)==false)&&((decide ((n3:Int) > (0:Int)))==true))=true->0<=(IntKind.wrap .i64 ((n3:Int) - (1:Int)))/\(IntKind.wrap .i64 ((n3:Int) - (1:Int))) < ((l0.tombs).length:Int)) ((ym ((((!v73)==false)&&((decide ((n3:Int) > (0:Int)))==true))=true->0<=(n3:Int)/\(n3:Int) < ((l0.tombs).length:Int)) (((if (((!v73)==false)&&((decide ((n3:Int) > (0:Int)))==true))=true then ref03Less ((l0.tombs).getD (IntKind.wrap .i64 ((n3:Int) - (1:Int))).toNat default) ((l0.tombs).getD (n3:Int).toNat default) else some default).bind λv76=>(if ((!v73) || ((decide ((n3:Int) > (0:Int)))&&(!v76)))=true then some (.ret false) else some (.nxt ())))))))):Option (Out _ Unit))) l0.tombs 0 ()) λ(s3:Unit)=>some true))))
def ww:Nat->(t0:(List GA))->(deep1:Int)->Option Bool
 | 0,_,_=>none
 | n+1,t0,deep1=>(lp (zq (λ(n1:Nat) (x1:GA) (s1:Unit)=>(((if ((decide (deep1 >= (3:Int)))==false)=true then qB x1.name else some default).bind λv31=>(ym (((((decide (deep1 >= (3:Int))) || (!v31))==false)&&((decide ((n1:Int) > (0:Int)))==true))=true->0<=(IntKind.wrap .i64 ((n1:Int) - (1:Int)))/\(IntKind.wrap .i64 ((n1:Int) - (1:Int))) < ((t0).length:Int)) (((if (((((decide (deep1 >= (3:Int))) || (!v31)) || ((decide ((n1:Int) > (0:Int)))&&(!(Op.bytesLess (((t0).getD (IntKind.wrap .i64 ((n1:Int) - (1:Int))).toNat default).name) x1.name)))) || ((((x1.leaves).length:Int)==(0:Int))&&(((x1.subs).length:Int)==(0:Int))))==false)=true then ww n x1.subs (IntKind.wrap .i64 (deep1+(1:Int))) else some default).bind λv35=>(if (((((decide (deep1 >= (3:Int))) || (!v31)) || ((decide ((n1:Int) > (0:Int)))&&(!(Op.bytesLess (((t0).getD (IntKind.wrap .i64 ((n1:Int) - (1:Int))).toNat default).name) x1.name)))) || ((((x1.leaves).length:Int)==(0:Int))&&(((x1.subs).length:Int)==(0:Int)))) || (!v35))=true then some (.ret false) else (lp (zq (λ(n2:Nat) (x2:GE) (s2:Unit)=>(((ref05May x2).bind λv50=>(ym ((((!v50)==false)&&((decide ((n2:Int) > (0:Int)))==true))=true->0<=(IntKind.wrap .i64 ((n2:Int) - (1:Int)))/\(IntKind.wrap .i64 ((n2:Int) - (1:Int))) < ((x1.leaves).length:Int)) ((ym ((((!v50)==false)&&((decide ((n2:Int) > (0:Int)))==true))=true->0<=(n2:Int)/\(n2:Int) < ((x1.leaves).length:Int)) ((if ((!v50) || ((decide ((n2:Int) > (0:Int)))&&(decide (((x1.leaves).getD (IntKind.wrap .i64 ((n2:Int) - (1:Int))).toNat default).typ >= ((x1.leaves).getD (n2:Int).toNat default).typ))))=true then some (.ret (.ret false)) else some (.nxt ()))))))):Option (Out _ Unit))) x1.leaves 0 ()) λ(s2:Unit)=>some (.nxt ()))))))):Option (Out _ Unit))) t0 0 ()) λ(s1:Unit)=>some true)
def ref07Xmay (t0:(List GA)) (deep1:Int):Option Bool:=anyN λn=>ww n t0 deep1
def ref07May (t0:(List GA)):Option Bool :=
 ((ref07Xmay t0 (0:Int)).bind λv1=>some v1)
def zY (k0:GL) (c0:(List zd)):Option Bool :=
 ((wh c0 (1:Int)).bind λy1=>some (k0.word==y1))
def xe (s0:zd):Option (GH×Bool) :=
 ((ye s0 ([32]:zd)).bind λv1=>(if (decide (((v1).length:Int) < (2:Int)))=true then some ((GH.mk ([]:List zd) zLf),false) else ((some ():Option Unit).bind λv4=>(((ym ((4:Int)<=9223372036854775807) (lp (zq (λ(n1:Nat) (x1:Nat) (s1:Unit)=>((if n1=0 then ((zY (GL.mk ([99,111,117,110,116,101,114]:zd) 1 1) v1).bind λv57=>(if v57=true then some (.ret ((0:Nat):Int)) else some (.nxt ()))) else (if n1=1 then ((zY (GL.mk ([114,101,103,105,115,116,101,114]:zd) 2 2) v1).bind λv59=>(if v59=true then some (.ret ((1:Nat):Int)) else some (.nxt ()))) else (if n1=2 then ((zY (GL.mk ([115,101,116]:zd) 3 3) v1).bind λv61=>(if v61=true then some (.ret ((2:Nat):Int)) else some (.nxt ()))) else ((zY (GL.mk ([108,111,103]:zd) 4 4) v1).bind λv63=>(if v63=true then some (.ret ((3:Nat):Int)) else some (.nxt ())))))):Option (Out _ Unit))) (List.range (((4:Int)).toNat)) 0 ()) λ(s1:Unit)=>some (-1:Int))):Option Int).bind λv5=>(if (decide (v5 < (0:Int)))=true then some ((GH.mk ([]:List zd) zLf),false) else ((wh v1 (0:Int)).bind λy66=>((ye y66 ([47]:zd)).bind λv67=>((slc v1 (2:Int) ((v1).length:Int)).bind λm68=>(if v5=0 then (lp (zq (λ(n1:Nat) (x1:zd) (s1:Int)=>(((((wc x1 (10:Int) (64:Int)).bind λv96=>some ((((n1:Int)==(0:Int))&&v96.2),v96.1)):Option (Bool×Int)).bind λv94=>(if (!v94.1)=true then some (.ret ((GH.mk v67 (GE.mk (IntKind.wrap .u8 ((IntKind.wrap .i64 ((0:Int)+(1:Int))))) v94.2 (0:Int) (GC.mk (GI.mk (0:Int) (0:Int)) (0:Int)) ([]:zd) ([]:List GF) ([]:List GC))),false)) else some (.nxt v94.2))):Option (Out _ Int))) m68 0 (0:Int)) λ(s1:Int)=>((zR (GH.mk v67 (GE.mk (IntKind.wrap .u8 ((IntKind.wrap .i64 ((0:Int)+(1:Int))))) s1 (0:Int) (GC.mk (GI.mk (0:Int) (0:Int)) (0:Int)) ([]:zd) ([]:List GF) ([]:List GC)))).bind λv98=>some ((GH.mk v67 (GE.mk (IntKind.wrap .u8 ((IntKind.wrap .i64 ((0:Int)+(1:Int))))) s1 (0:Int) (GC.mk (GI.mk (0:Int) (0:Int)) (0:Int)) ([]:zd) ([]:List GF) ([]:List GC))),(v98==s0)))) else (if v5=1 then (lp (zq (λ(n1:Nat) (x1:zd) (s1:Int×Int×Int×Int×zd)=>((((if (((n1:Int)==(0:Int))&&(x1==([45]:zd)))=true then some (true,s1.1,s1.2.1,s1.2.2.1,s1.2.2.2.1,s1.2.2.2.2) else (if ((n1:Int)==(0:Int))=true then ((((zp x1 (10:Int) (64:Int)).bind λv468=>some (v468.2,v468.1)):Option (Bool×Int)).bind λv466=>some (v466.1,v466.2,s1.2.1,s1.2.2.1,s1.2.2.2.1,s1.2.2.2.2)) else (if ((n1:Int)==(1:Int))=true then ((((ye x1 ([46]:zd)).bind λv486=>(ym (((((v486).length:Int) != (3:Int))==false)=true->0<=(0:Int)/\(0:Int) < ((v486).length:Int)) (((if ((((v486).length:Int) != (3:Int))==false)=true then ((zp ((v486).getD (0:Int).toNat default) (10:Int) (64:Int)).bind λv491=>some (v491.2,v491.1)) else some (default,(0:Int)):Option (Bool×Int)).bind λv489=>(ym ((((((v486).length:Int) != (3:Int)) || (!v489.1))==false)=true->0<=(1:Int)/\(1:Int) < ((v486).length:Int)) (((if (((((v486).length:Int) != (3:Int)) || (!v489.1))==false)=true then ((zp ((v486).getD (1:Int).toNat default) (10:Int) (64:Int)).bind λv495=>some (v495.2,v495.1)) else some (default,(0:Int)):Option (Bool×Int)).bind λv493=>(ym (((((((v486).length:Int) != (3:Int)) || (!v489.1)) || (!v493.1))==false)=true->0<=(2:Int)/\(2:Int) < ((v486).length:Int)) (((if ((((((v486).length:Int) != (3:Int)) || (!v489.1)) || (!v493.1))==false)=true then ((zp ((v486).getD (2:Int).toNat default) (10:Int) (64:Int)).bind λv499=>some (v499.2,v499.1)) else some (default,s1.2.2.2.1):Option (Bool×Int)).bind λv497=>(if ((((((((v486).length:Int) != (3:Int)) || (!v489.1)) || (!v493.1)) || (!v497.1)) || (decide (v489.2 >= (16:Int)))) || (decide (v493.2 > (4:Int))))=true then some (false,s1.2.1,s1.2.2.1,v497.2) else some (true,(IntKind.wrap .u8 (v489.2)),(IntKind.wrap .u32 (v493.2)),v497.2)))))))))))):Option (Bool×Int×Int×Int)).bind λv470=>some (v470.1,s1.1,v470.2.1,v470.2.2.1,v470.2.2.2,s1.2.2.2.2)) else ((if (((n1:Int)==(2:Int))==true)=true then (if (x1==([45]:zd))=true then some (true,([]:zd)) else (lp (yr (λ(s2:(List UInt8)×Int)=>((if (decide ((IntKind.wrap .i64 (s2.2+(1:Int))) < ((x1).length:Int)))=true then ((slc x1 s2.2 (IntKind.wrap .i64 (s2.2+(2:Int)))).bind λm568=>((zp m568 (16:Int) (8:Int)).bind λv569=>(if (!v569.2)=true then some (.ret (false,s1.2.2.2.2)) else (ym (0<=(IntKind.wrap .u8 (v569.1))/\(IntKind.wrap .u8 (v569.1)) < 256) ((ym ((s2.1).length+(([(UInt8.ofNat (IntKind.wrap .u8 (v569.1)).toNat)]:List UInt8)).length<=yS) (some (.nxt ((s2.1++([(UInt8.ofNat (IntKind.wrap .u8 (v569.1)).toNat)]:List UInt8)),(IntKind.wrap .i64 (s2.2+(2:Int)))))))))))) else some (.brk (s2.1,s2.2))):Option (Out _ ((List UInt8)×Int)))) (([]:List UInt8),(0:Int))) λ(s2:(List UInt8)×Int)=>(ym ((s2.1).length<=maxLen) (some ((decide (((x1).length:Int) > (0:Int))),s2.1))))) else some (default,s1.2.2.2.2):Option (Bool×zd)).bind λv501=>some ((((n1:Int)==(2:Int))&&v501.1),s1.1,s1.2.1,s1.2.2.1,s1.2.2.2.1,v501.2))))):Option (Bool×Int×Int×Int×Int×zd)).bind λv349=>(if (!v349.1)=true then some (.ret ((GH.mk v67 (GE.mk (IntKind.wrap .u8 ((IntKind.wrap .i64 ((1:Int)+(1:Int))))) (0:Int) v349.2.1 (GC.mk (GI.mk v349.2.2.1 v349.2.2.2.1) v349.2.2.2.2.1) v349.2.2.2.2.2 ([]:List GF) ([]:List GC))),false)) else some (.nxt (v349.2.1,v349.2.2.1,v349.2.2.2.1,v349.2.2.2.2.1,v349.2.2.2.2.2)))):Option (Out _ (Int×Int×Int×Int×zd)))) m68 0 ((0:Int),(0:Int),(0:Int),(0:Int),([]:zd))) λ(s1:Int×Int×Int×Int×zd)=>((zR (GH.mk v67 (GE.mk (IntKind.wrap .u8 ((IntKind.wrap .i64 ((1:Int)+(1:Int))))) (0:Int) s1.1 (GC.mk (GI.mk s1.2.1 s1.2.2.1) s1.2.2.2.1) s1.2.2.2.2 ([]:List GF) ([]:List GC)))).bind λv578=>some ((GH.mk v67 (GE.mk (IntKind.wrap .u8 ((IntKind.wrap .i64 ((1:Int)+(1:Int))))) (0:Int) s1.1 (GC.mk (GI.mk s1.2.1 s1.2.2.1) s1.2.2.2.1) s1.2.2.2.2 ([]:List GF) ([]:List GC))),(v578==s0)))) else (if v5=2 then (lp (zq (λ(n1:Nat) (x1:zd) (s1:(List GF)×(List GC))=>(((((xn x1 ([33]:zd)).bind λv1442=>(if v1442.2=true then (ym ((s1.2).length+(([(GC.mk (GI.mk (0:Int) (0:Int)) (0:Int))]:List GC)).length<=yS) (((wh (s1.2++([(GC.mk (GI.mk (0:Int) (0:Int)) (0:Int))]:List GC)) (IntKind.wrap .i64 (((((s1.2++([(GC.mk (GI.mk (0:Int) (0:Int)) (0:Int))]:List GC))).length:Nat):Int) - (1:Int)))).bind λy1446=>((((ye v1442.1 ([46]:zd)).bind λv1465=>(ym (((((v1465).length:Int) != (3:Int))==false)=true->0<=(0:Int)/\(0:Int) < ((v1465).length:Int)) (((if ((((v1465).length:Int) != (3:Int))==false)=true then ((zp ((v1465).getD (0:Int).toNat default) (10:Int) (64:Int)).bind λv1470=>some (v1470.2,v1470.1)) else some (default,(0:Int)):Option (Bool×Int)).bind λv1468=>(ym ((((((v1465).length:Int) != (3:Int)) || (!v1468.1))==false)=true->0<=(1:Int)/\(1:Int) < ((v1465).length:Int)) (((if (((((v1465).length:Int) != (3:Int)) || (!v1468.1))==false)=true then ((zp ((v1465).getD (1:Int).toNat default) (10:Int) (64:Int)).bind λv1474=>some (v1474.2,v1474.1)) else some (default,(0:Int)):Option (Bool×Int)).bind λv1472=>(ym (((((((v1465).length:Int) != (3:Int)) || (!v1468.1)) || (!v1472.1))==false)=true->0<=(2:Int)/\(2:Int) < ((v1465).length:Int)) (((if ((((((v1465).length:Int) != (3:Int)) || (!v1468.1)) || (!v1472.1))==false)=true then ((zp ((v1465).getD (2:Int).toNat default) (10:Int) (64:Int)).bind λv1478=>some (v1478.2,((s1.2++([(GC.mk (GI.mk (0:Int) (0:Int)) (0:Int))]:List GC)).set (IntKind.wrap .i64 (((((s1.2++([(GC.mk (GI.mk (0:Int) (0:Int)) (0:Int))]:List GC))).length:Nat):Int) - (1:Int))).toNat (GC.mk y1446.actor v1478.1)))) else some (default,(s1.2++([(GC.mk (GI.mk (0:Int) (0:Int)) (0:Int))]:List GC))):Option (Bool×(List GC))).bind λv1476=>(ym ((v1476.2).length=((s1.2++([(GC.mk (GI.mk (0:Int) (0:Int)) (0:Int))]:List GC))).length) (if ((((((((v1465).length:Int) != (3:Int)) || (!v1468.1)) || (!v1472.1)) || (!v1476.1)) || (decide (v1468.2 >= (16:Int)))) || (decide (v1472.2 > (4:Int))))=true then some (false,v1476.2) else ((wh v1476.2 (IntKind.wrap .i64 (((((s1.2++([(GC.mk (GI.mk (0:Int) (0:Int)) (0:Int))]:List GC))).length:Nat):Int) - (1:Int)))).bind λy1480=>((wh (v1476.2.set (IntKind.wrap .i64 (((((s1.2++([(GC.mk (GI.mk (0:Int) (0:Int)) (0:Int))]:List GC))).length:Nat):Int) - (1:Int))).toNat (GC.mk (GI.mk (IntKind.wrap .u8 (v1468.2)) y1480.actor.inc) y1480.seq)) (IntKind.wrap .i64 (((((s1.2++([(GC.mk (GI.mk (0:Int) (0:Int)) (0:Int))]:List GC))).length:Nat):Int) - (1:Int)))).bind λy1481=>some (true,((v1476.2.set (IntKind.wrap .i64 (((((s1.2++([(GC.mk (GI.mk (0:Int) (0:Int)) (0:Int))]:List GC))).length:Nat):Int) - (1:Int))).toNat (GC.mk (GI.mk (IntKind.wrap .u8 (v1468.2)) y1480.actor.inc) y1480.seq)).set (IntKind.wrap .i64 (((((s1.2++([(GC.mk (GI.mk (0:Int) (0:Int)) (0:Int))]:List GC))).length:Nat):Int) - (1:Int))).toNat (GC.mk (GI.mk y1481.actor.rep (IntKind.wrap .u32 (v1472.2))) y1481.seq))))))))))))))))):Option (Bool×(List GC))).bind λv1447=>(ym ((v1447.2).length=((s1.2++([(GC.mk (GI.mk (0:Int) (0:Int)) (0:Int))]:List GC))).length) (some (v1447.1,s1.1,v1447.2))))))) else ((((xb x1 ([61]:zd)).bind λv1602=>((if (v1602.2.2==true)=true then ((ye v1602.1 ([46]:zd)).bind λv1619=>(ym (((((v1619).length:Int) != (3:Int))==false)=true->0<=(0:Int)/\(0:Int) < ((v1619).length:Int)) (((if ((((v1619).length:Int) != (3:Int))==false)=true then ((zp ((v1619).getD (0:Int).toNat default) (10:Int) (64:Int)).bind λv1624=>some (v1624.2,v1624.1)) else some (default,(0:Int)):Option (Bool×Int)).bind λv1622=>(ym ((((((v1619).length:Int) != (3:Int)) || (!v1622.1))==false)=true->0<=(1:Int)/\(1:Int) < ((v1619).length:Int)) (((if (((((v1619).length:Int) != (3:Int)) || (!v1622.1))==false)=true then ((zp ((v1619).getD (1:Int).toNat default) (10:Int) (64:Int)).bind λv1628=>some (v1628.2,v1628.1)) else some (default,(0:Int)):Option (Bool×Int)).bind λv1626=>(ym (((((((v1619).length:Int) != (3:Int)) || (!v1622.1)) || (!v1626.1))==false)=true->0<=(2:Int)/\(2:Int) < ((v1619).length:Int)) (((if ((((((v1619).length:Int) != (3:Int)) || (!v1622.1)) || (!v1626.1))==false)=true then ((zp ((v1619).getD (2:Int).toNat default) (10:Int) (64:Int)).bind λv1632=>some (v1632.2,v1632.1)) else some (default,(0:Int)):Option (Bool×Int)).bind λv1630=>(if ((((((((v1619).length:Int) != (3:Int)) || (!v1622.1)) || (!v1626.1)) || (!v1630.1)) || (decide (v1622.2 >= (16:Int)))) || (decide (v1626.2 > (4:Int))))=true then some (false,(0:Int),(0:Int),v1630.2) else some (true,(IntKind.wrap .u8 (v1622.2)),(IntKind.wrap .u32 (v1626.2)),v1630.2)))))))))))) else some (default,(0:Int),(0:Int),(0:Int)):Option (Bool×Int×Int×Int)).bind λv1603=>((if ((v1602.2.2&&v1603.1)==true)=true then (if (v1602.2.1==([45]:zd))=true then some (true,([]:zd)) else (lp (yr (λ(s2:(List UInt8)×Int)=>((if (decide ((IntKind.wrap .i64 (s2.2+(1:Int))) < ((v1602.2.1).length:Int)))=true then ((slc v1602.2.1 s2.2 (IntKind.wrap .i64 (s2.2+(2:Int)))).bind λm1711=>((zp m1711 (16:Int) (8:Int)).bind λv1712=>(if (!v1712.2)=true then some (.ret (false,([]:zd))) else (ym (0<=(IntKind.wrap .u8 (v1712.1))/\(IntKind.wrap .u8 (v1712.1)) < 256) ((ym ((s2.1).length+(([(UInt8.ofNat (IntKind.wrap .u8 (v1712.1)).toNat)]:List UInt8)).length<=yS) (some (.nxt ((s2.1++([(UInt8.ofNat (IntKind.wrap .u8 (v1712.1)).toNat)]:List UInt8)),(IntKind.wrap .i64 (s2.2+(2:Int)))))))))))) else some (.brk (s2.1,s2.2))):Option (Out _ ((List UInt8)×Int)))) (([]:List UInt8),(0:Int))) λ(s2:(List UInt8)×Int)=>(ym ((s2.1).length<=maxLen) (some ((decide (((v1602.2.1).length:Int) > (0:Int))),s2.1))))) else some (default,([]:zd)):Option (Bool×zd)).bind λv1634=>some (((v1602.2.2&&v1603.1)&&v1634.1),v1603.2.1,v1603.2.2.1,v1603.2.2.2,v1634.2)))):Option (Bool×Int×Int×Int×zd)).bind λv1482=>(ym ((s1.1).length+(([(GF.mk (0:Int) (GC.mk (GI.mk v1482.2.1 v1482.2.2.1) v1482.2.2.2.1) v1482.2.2.2.2)]:List GF)).length<=yS) (some (v1482.1,(s1.1++([(GF.mk (0:Int) (GC.mk (GI.mk v1482.2.1 v1482.2.2.1) v1482.2.2.2.1) v1482.2.2.2.2)]:List GF)),s1.2)))))):Option (Bool×(List GF)×(List GC))).bind λv1161=>(if (!v1161.1)=true then some (.ret ((GH.mk v67 (GE.mk (IntKind.wrap .u8 ((IntKind.wrap .i64 ((2:Int)+(1:Int))))) (0:Int) (0:Int) (GC.mk (GI.mk (0:Int) (0:Int)) (0:Int)) ([]:zd) v1161.2.1 v1161.2.2)),false)) else some (.nxt (v1161.2.1,v1161.2.2)))):Option (Out _ ((List GF)×(List GC))))) m68 0 (([]:List GF),([]:List GC))) λ(s1:(List GF)×(List GC))=>((zR (GH.mk v67 (GE.mk (IntKind.wrap .u8 ((IntKind.wrap .i64 ((2:Int)+(1:Int))))) (0:Int) (0:Int) (GC.mk (GI.mk (0:Int) (0:Int)) (0:Int)) ([]:zd) s1.1 s1.2))).bind λv1722=>some ((GH.mk v67 (GE.mk (IntKind.wrap .u8 ((IntKind.wrap .i64 ((2:Int)+(1:Int))))) (0:Int) (0:Int) (GC.mk (GI.mk (0:Int) (0:Int)) (0:Int)) ([]:zd) s1.1 s1.2)),(v1722==s0)))) else (if v5=3 then (lp (zq (λ(n1:Nat) (x1:zd) (s1:(List GF))=>(((((xb x1 ([64]:zd)).bind λv2478=>((if (v2478.2.2==true)=true then ((zp v2478.1 (10:Int) (64:Int)).bind λv2481=>some (v2481.2,v2481.1)) else some (default,(0:Int)):Option (Bool×Int)).bind λv2479=>((if ((v2478.2.2&&v2479.1)==true)=true then ((xb v2478.2.1 ([61]:zd)).bind λv2602=>((if (v2602.2.2==true)=true then ((ye v2602.1 ([46]:zd)).bind λv2619=>(ym (((((v2619).length:Int) != (3:Int))==false)=true->0<=(0:Int)/\(0:Int) < ((v2619).length:Int)) (((if ((((v2619).length:Int) != (3:Int))==false)=true then ((zp ((v2619).getD (0:Int).toNat default) (10:Int) (64:Int)).bind λv2624=>some (v2624.2,v2624.1)) else some (default,(0:Int)):Option (Bool×Int)).bind λv2622=>(ym ((((((v2619).length:Int) != (3:Int)) || (!v2622.1))==false)=true->0<=(1:Int)/\(1:Int) < ((v2619).length:Int)) (((if (((((v2619).length:Int) != (3:Int)) || (!v2622.1))==false)=true then ((zp ((v2619).getD (1:Int).toNat default) (10:Int) (64:Int)).bind λv2628=>some (v2628.2,v2628.1)) else some (default,(0:Int)):Option (Bool×Int)).bind λv2626=>(ym (((((((v2619).length:Int) != (3:Int)) || (!v2622.1)) || (!v2626.1))==false)=true->0<=(2:Int)/\(2:Int) < ((v2619).length:Int)) (((if ((((((v2619).length:Int) != (3:Int)) || (!v2622.1)) || (!v2626.1))==false)=true then ((zp ((v2619).getD (2:Int).toNat default) (10:Int) (64:Int)).bind λv2632=>some (v2632.2,v2632.1)) else some (default,(0:Int)):Option (Bool×Int)).bind λv2630=>(if ((((((((v2619).length:Int) != (3:Int)) || (!v2622.1)) || (!v2626.1)) || (!v2630.1)) || (decide (v2622.2 >= (16:Int)))) || (decide (v2626.2 > (4:Int))))=true then some (false,(0:Int),(0:Int),v2630.2) else some (true,(IntKind.wrap .u8 (v2622.2)),(IntKind.wrap .u32 (v2626.2)),v2630.2)))))))))))) else some (default,(0:Int),(0:Int),(0:Int)):Option (Bool×Int×Int×Int)).bind λv2603=>((if ((v2602.2.2&&v2603.1)==true)=true then (if (v2602.2.1==([45]:zd))=true then some (true,([]:zd)) else (lp (yr (λ(s2:(List UInt8)×Int)=>((if (decide ((IntKind.wrap .i64 (s2.2+(1:Int))) < ((v2602.2.1).length:Int)))=true then ((slc v2602.2.1 s2.2 (IntKind.wrap .i64 (s2.2+(2:Int)))).bind λm2711=>((zp m2711 (16:Int) (8:Int)).bind λv2712=>(if (!v2712.2)=true then some (.ret (false,([]:zd))) else (ym (0<=(IntKind.wrap .u8 (v2712.1))/\(IntKind.wrap .u8 (v2712.1)) < 256) ((ym ((s2.1).length+(([(UInt8.ofNat (IntKind.wrap .u8 (v2712.1)).toNat)]:List UInt8)).length<=yS) (some (.nxt ((s2.1++([(UInt8.ofNat (IntKind.wrap .u8 (v2712.1)).toNat)]:List UInt8)),(IntKind.wrap .i64 (s2.2+(2:Int)))))))))))) else some (.brk (s2.1,s2.2))):Option (Out _ ((List UInt8)×Int)))) (([]:List UInt8),(0:Int))) λ(s2:(List UInt8)×Int)=>(ym ((s2.1).length<=maxLen) (some ((decide (((v2602.2.1).length:Int) > (0:Int))),s2.1))))) else some (default,([]:zd)):Option (Bool×zd)).bind λv2634=>some (((v2602.2.2&&v2603.1)&&v2634.1),v2603.2.1,v2603.2.2.1,v2603.2.2.2,v2634.2)))) else some (default,(0:Int),(0:Int),(0:Int),([]:zd)):Option (Bool×Int×Int×Int×zd)).bind λv2482=>(ym ((s1).length+(([(GF.mk v2479.2 (GC.mk (GI.mk v2482.2.1 v2482.2.2.1) v2482.2.2.2.1) v2482.2.2.2.2)]:List GF)).length<=yS) (some (((v2478.2.2&&v2479.1)&&v2482.1),(s1++([(GF.mk v2479.2 (GC.mk (GI.mk v2482.2.1 v2482.2.2.1) v2482.2.2.2.1) v2482.2.2.2.2)]:List GF)))))))):Option (Bool×(List GF))).bind λv2233=>(if (!v2233.1)=true then some (.ret ((GH.mk v67 (GE.mk (IntKind.wrap .u8 ((IntKind.wrap .i64 ((3:Int)+(1:Int))))) (0:Int) (0:Int) (GC.mk (GI.mk (0:Int) (0:Int)) (0:Int)) ([]:zd) v2233.2 ([]:List GC))),false)) else some (.nxt v2233.2))):Option (Out _ (List GF)))) m68 0 ([]:List GF)) λ(s1:(List GF))=>((zR (GH.mk v67 (GE.mk (IntKind.wrap .u8 ((IntKind.wrap .i64 ((3:Int)+(1:Int))))) (0:Int) (0:Int) (GC.mk (GI.mk (0:Int) (0:Int)) (0:Int)) ([]:zd) s1 ([]:List GC)))).bind λv2722=>some ((GH.mk v67 (GE.mk (IntKind.wrap .u8 ((IntKind.wrap .i64 ((3:Int)+(1:Int))))) (0:Int) (0:Int) (GC.mk (GI.mk (0:Int) (0:Int)) (0:Int)) ([]:zd) s1 ([]:List GC))),(v2722==s0)))) else none))))))))))))
def xf (x0:zd):Option Bool :=
 some (!(x0==x0))
def yi (x0:zd) (y1:zd):Option Int :=
 ((xf x0).bind λv1=>((xf y1).bind λv2=>(if v1=true then (if v2=true then some (0:Int) else some (-1:Int)) else (if v2=true then some (1:Int) else (if (Op.bytesLess x0 y1)=true then some (-1:Int) else (if (!(Op.bytesLess x0 y1 || x0==y1))=true then some (1:Int) else some (0:Int)))))))
def yk (s10:(List zd)) (s21:(List zd)):Option Int :=
 (lp (zq (λ(n1:Nat) (x1:zd) (s1:Unit)=>((if (decide ((n1:Int) >= ((s21).length:Int)))=true then some (.ret (1:Int)) else ((wh s21 (n1:Int)).bind λy12=>((yi x1 y12).bind λv13=>(if (v13 != (0:Int))=true then some (.ret v13) else some (.nxt ()))))):Option (Out _ Unit))) s10 0 ()) λ(s1:Unit)=>(if (decide (((s10).length:Int) < ((s21).length:Int)))=true then some (-1:Int) else some (0:Int)))
def vL (a0:GH) (b1:GH):Option Int :=
 ((yk a0.path b1.path).bind λv1=>((yP a0.leaf.typ b1.leaf.typ).bind λv2=>((vN ([v1,v2]:List Int)).bind λv3=>some v3)))
def xS (there0:Bool) (l1:GE) (kind2:Int):Option Bool :=
 (if (!there0)=true then ((xR l1 zLf).bind λv2=>some v2) else ((if ((l1.typ==kind2)==true)=true then leafMay l1 else some default).bind λv3=>some ((l1.typ==kind2)&&v3)))
def qj (a0:GJ) (b1:GJ):Option Int :=
 ((yk a0.path b1.path).bind λv1=>((yP a0.typ b1.typ).bind λv2=>((vN ([v1,v2]:List Int)).bind λv3=>some v3)))
def diffMay (l0:(List GJ)):Option Bool :=
 (lp (zq (λ(n1:Nat) (x1:GJ) (s1:Unit)=>(((if ((x1.had&&x1.has)==true)=true then xR x1.was x1.is else some default).bind λv13=>((vz x1.path).bind λv14=>((if (((((!v14) || (!((decide (x1.typ >= (1:Int)))&&(decide (x1.typ<=(4:Int)))))) || ((!x1.had)&&(!x1.has))) || ((x1.had&&x1.has)&&v13))==false)=true then xS x1.had x1.was x1.typ else some default).bind λv15=>((if ((((((!v14) || (!((decide (x1.typ >= (1:Int)))&&(decide (x1.typ<=(4:Int)))))) || ((!x1.had)&&(!x1.has))) || ((x1.had&&x1.has)&&v13)) || (!v15))==false)=true then xS x1.has x1.is x1.typ else some default).bind λv16=>(if ((((((!v14) || (!((decide (x1.typ >= (1:Int)))&&(decide (x1.typ<=(4:Int)))))) || ((!x1.had)&&(!x1.has))) || ((x1.had&&x1.has)&&v13)) || (!v15)) || (!v16))=true then some (.ret false) else (ym (((decide ((n1:Int) > (0:Int)))==true)=true->0<=(IntKind.wrap .i64 ((n1:Int) - (1:Int)))/\(IntKind.wrap .i64 ((n1:Int) - (1:Int))) < ((l0).length:Int)) (((if ((decide ((n1:Int) > (0:Int)))==true)=true then qj ((l0).getD (IntKind.wrap .i64 ((n1:Int) - (1:Int))).toNat default) x1 else some default).bind λv19=>(if ((decide ((n1:Int) > (0:Int)))&&(decide (v19 >= (0:Int))))=true then some (.ret false) else some (.nxt ())))))))))):Option (Out _ Unit))) l0 0 ()) λ(s1:Unit)=>some true)
def vw (p0:(List zd)):Option ((List zd)×Bool) :=
 (ym (((decide (((p0).length:Int) > (0:Int)))==true)=true->0<=(IntKind.wrap .i64 (((p0).length:Int) - (1:Int)))/\(IntKind.wrap .i64 (((p0).length:Int) - (1:Int))) < ((p0).length:Int)) ((if ((decide (((p0).length:Int) > (0:Int)))&&(((p0).getD (IntKind.wrap .i64 (((p0).length:Int) - (1:Int))).toNat default)==([42,42]:zd)))=true then ((slc p0 (0:Int) (IntKind.wrap .i64 (((p0).length:Int) - (1:Int)))).bind λm4=>some (m4,true)) else some (p0,false))))
def wq (s0:zd):Option Bool :=
 ((if ((!(s0==([42]:zd)))==true)=true then opIsName s0 else some default).bind λv1=>some ((!(s0==([42]:zd)))&&(!v1)))
def xE (p0:(List zd)):Option Bool :=
 ((vw p0).bind λv1=>((if ((((decide (((v1.1).length:Int) > (0:Int))) || v1.2)&&(decide (((v1.1).length:Int)<=(3:Int))))==true)=true then yh v1.1 (λx0=>wq x0) else some default).bind λv4=>some ((((decide (((v1.1).length:Int) > (0:Int))) || v1.2)&&(decide (((v1.1).length:Int)<=(3:Int))))&&(!v4))))
def wx:Nat->(t0:(List GA))->(ahead1:(List zd))->(is2:((List zd)->Option Bool))->Option (List GA)
 | 0,_,_,_=>none
 | n+1,t0,ahead1,is2=>(lp (zq (λ(n1:Nat) (x1:GA) (s1:(List GA))=>(((yY ahead1).bind λv32=>(ym ((v32).length+(([x1.name]:List zd)).length<=yS) (((wx n x1.subs (v32++([x1.name]:List zd)) is2).bind λv34=>(lp (zq (λ(n2:Nat) (x2:GE) (s2:(List GE))=>(((is2 (v32++([x1.name]:List zd))).bind λv49=>(if v49=true then ((pathsXown x2).bind λv51=>(ym ((s2).length+(([v51]:List GE)).length<=yS) (some (.nxt (s2++([v51]:List GE)))))) else some (.nxt s2))):Option (Out _ (List GE)))) x1.leaves 0 ([]:List GE)) λ(s2:(List GE))=>(if (decide ((IntKind.wrap .i64 (((s2).length:Int)+((v34).length:Int))) > (0:Int)))=true then (ym ((s1).length+(([(GA.mk x1.name s2 v34)]:List GA)).length<=yS) (some (.nxt (s1++([(GA.mk x1.name s2 v34)]:List GA))))) else some (.nxt s1))))))):Option (Out _ (List GA)))) t0 0 ([]:List GA)) λ(s1:(List GA))=>some s1)
def pathsXkept (t0:(List GA)) (ahead1:(List zd)) (is2:((List zd)->Option Bool)):Option (List GA):=anyN λn=>wx n t0 ahead1 is2
def pathsMatch (p0:(List zd)) (path1:(List zd)):Option Bool :=
 ((vw p0).bind λv1=>((xE p0).bind λv2=>((if ((!v2)==false)=true then vz path1 else some default).bind λv3=>(if ((((!v2) || (!v3)) || (decide (((path1).length:Int) < ((v1.1).length:Int)))) || ((decide (((path1).length:Int) > ((v1.1).length:Int)))&&(!v1.2)))=true then some false else (lp (zq (λ(n1:Nat) (x1:zd) (s1:Unit)=>((ym (((!(x1==([42]:zd)))==true)=true->0<=(n1:Int)/\(n1:Int) < ((path1).length:Int)) ((if ((!(x1==([42]:zd)))&&(!(x1==((path1).getD (n1:Int).toNat default))))=true then some (.ret false) else some (.nxt ())))):Option (Out _ Unit))) v1.1 0 ()) λ(s1:Unit)=>some true)))))
def qt (path0:(List zd)) (c0:(List zd)):Option Bool :=
 ((pathsMatch c0 path0).bind λv1=>some v1)
def wy (t0:(List GA)) (p1:(List zd)):Option ((List GA)×Int) :=
 ((treeMay t0).bind λv1=>((if ((!v1)==false)=true then xE p1 else some default).bind λv2=>(if ((!v1) || (!v2))=true then some (([]:List GA),(2:Int)) else ((pathsXkept t0 ([]:List zd) (λx0=>qt x0 p1)).bind λv4=>some (v4,(0:Int))))))
def vJ (kind0:Int):Option GE :=
 (if ((decide (kind0 < (1:Int))) || (decide (kind0 > (4:Int))))=true then some zLf else some (GE.mk kind0 (0:Int) (0:Int) (GC.mk (GI.mk (0:Int) (0:Int)) (0:Int)) ([]:zd) ([]:List GF) ([]:List GC)))
def yX (s0:(List GA)) (f1:(GA->Option Bool)):Option Int :=
 (lp (zq (λ(n1:Nat) (x1:GA) (s1:Unit)=>(((f1 x1).bind λv7=>(if v7=true then some (.ret (n1:Int)) else some (.nxt ()))):Option (Out _ Unit))) s0 0 ()) λ(s1:Unit)=>some (-1:Int))
def qp (n0:GA) (c0:zd):Option Bool :=
 some (n0.name==c0)
def vr (t0:(List GA)) (name1:zd):Option (GA×Bool) :=
 ((yX t0 (λx0=>qp x0 name1)).bind λv1=>(if (decide (v1 < (0:Int)))=true then some ((GA.mk ([]:zd) ([]:List GE) ([]:List GA)),false) else ((wh t0 v1).bind λy3=>some (y3,true))))
def zS (s0:(List GE)) (f1:(GE->Option Bool)):Option Int :=
 (lp (zq (λ(n1:Nat) (x1:GE) (s1:Unit)=>(((f1 x1).bind λv7=>(if v7=true then some (.ret (n1:Int)) else some (.nxt ()))):Option (Out _ Unit))) s0 0 ()) λ(s1:Unit)=>some (-1:Int))
def treeLeafC1 (l0:GE) (c0:Int):Option Bool :=
 some (l0.typ==c0)
def treeLeaf (t0:(List GA)) (path1:(List zd)) (kind2:Int):Option (GE×Bool) :=
 (lp ((lp (zq (λ(n2:Nat) (x2:zd) (s2:(List GA)×Bool×zd×(List GE)×(List GA))=>(((vr s2.1 x2).bind λv47=>(if (!v47.2)=true then some (.brk (s2.1,v47.2,v47.1.name,v47.1.leaves,v47.1.subs)) else some (.nxt (v47.1.subs,v47.2,v47.1.name,v47.1.leaves,v47.1.subs)))):Option (Out _ ((List GA)×Bool×zd×(List GE)×(List GA))))) path1 0 (t0,(decide (((path1).length:Int) > (0:Int))),([]:zd),([]:List GE),([]:List GA))) λ(s2:(List GA)×Bool×zd×(List GE)×(List GA))=>some (.inr (s2.2.1,s2.2.2.1,s2.2.2.2.1,s2.2.2.2.2))):Option (_ ⊕ (Bool×zd×(List GE)×(List GA)))) λ(s1:Bool×zd×(List GE)×(List GA))=>((zS s1.2.2.1 (λx0=>treeLeafC1 x0 kind2)).bind λv49=>((if (((!s1.1) || (decide (v49 < (0:Int))))==false)=true then vJ kind2 else some default).bind λv50=>(if (((!s1.1) || (decide (v49 < (0:Int)))) || (v50.typ==(0:Int)))=true then ((vJ kind2).bind λv52=>some (v52,false)) else ((wh s1.2.2.1 v49).bind λy53=>((xc y53.items).bind λv54=>((xr y53.tombs).bind λv55=>some ((GE.mk y53.typ y53.n y53.time y53.dot y53.text v54 v55),true))))))))
def zz (x0:(List GA)) (target1:zd) (cmp2:(GA->zd->Option Int)):Option (Int×Bool) :=
 (lp (yr (λ(sL1:Int×Int)=>((if (decide (sL1.1 < sL1.2))=true then ((wh x0 (IntKind.wrap .i64 ((Int.fdiv (IntKind.wrap .u64 ((IntKind.wrap .i64 (sL1.1+sL1.2)))) (2 ^ (min (1:Int).toNat (IntKind.bits .u64))))))).bind λy9=>((cmp2 y9 target1).bind λv10=>(if (decide (v10 < (0:Int)))=true then some (.nxt ((IntKind.wrap .i64 ((IntKind.wrap .i64 ((Int.fdiv (IntKind.wrap .u64 ((IntKind.wrap .i64 (sL1.1+sL1.2)))) (2 ^ (min (1:Int).toNat (IntKind.bits .u64))))))+(1:Int))),sL1.2)) else some (.nxt (sL1.1,(IntKind.wrap .i64 ((Int.fdiv (IntKind.wrap .u64 ((IntKind.wrap .i64 (sL1.1+sL1.2)))) (2 ^ (min (1:Int).toNat (IntKind.bits .u64))))))))))) else some (.brk (sL1.1,sL1.2))):Option (Out _ (Int×Int)))) ((0:Int),((x0).length:Int))) λ(sL1:Int×Int)=>(ym (((decide (sL1.1 < ((x0).length:Int)))==true)=true->0<=sL1.1/\sL1.1 < ((x0).length:Int)) (((if ((decide (sL1.1 < ((x0).length:Int)))==true)=true then cmp2 ((x0).getD sL1.1.toNat default) target1 else some default).bind λv13=>some (sL1.1,((decide (sL1.1 < ((x0).length:Int)))&&(v13==(0:Int))))))))
/-- strings.Compare -/
def stringsCompare (p0:zd) (p1:zd):Option Int:=some (Go.Lib.compareBytes p0 p1)
def wH (n0:GA) (name1:zd):Option Int :=
 ((stringsCompare n0.name name1).bind λv1=>some v1)
def yB (s0:(List GE)) (del1:(GE->Option Bool)):Option (List GE) :=
 ((zS s0 del1).bind λv1=>(if (v1==(-1:Int))=true then some s0 else (lp (yr (λ(s1:Int×Int×(List GE))=>((ym ((s1.2.2).length=s0.length) ((if (decide (s1.2.1 < ((s0.length:Nat):Int)))=true then ((wh s1.2.2 s1.2.1).bind λy14=>((del1 y14).bind λv15=>(if (!v15)=true then ((wh s1.2.2 s1.1).bind λy17=>some (.nxt ((IntKind.wrap .i64 (s1.1+(1:Int))),(IntKind.wrap .i64 (s1.2.1+(1:Int))),(s1.2.2.set s1.1.toNat y14)))) else some (.nxt (s1.1,(IntKind.wrap .i64 (s1.2.1+(1:Int))),s1.2.2))))) else some (.brk (s1.1,s1.2.1,s1.2.2))))):Option (Out _ (Int×Int×(List GE))))) (v1,(IntKind.wrap .i64 (v1+(1:Int))),s0)) λ(s1:Int×Int×(List GE))=>(ym (0<=s1.1/\s1.1<=((s0.length:Nat):Int)) (((slc (s1.2.2.take s1.1.toNat++List.replicate (s0.length - s1.1.toNat) zLf) (0:Int) s1.1).bind λm19=>some m19))))))
def we (s0:(List GE)):Option (List GE) :=
 (nilq s0 λb1=>(if b1=true then some ([]:List GE) else (ym ((([]:List GE)).length+(s0).length<=yS) (some (([]:List GE)++s0)))))
def diffXlayC2 (x0:GE) (c0:Int):Option Bool :=
 some (x0.typ==c0)
def diffXown (l0:GE):Option GE :=
 ((xc l0.items).bind λv1=>((xr l0.tombs).bind λv2=>some (GE.mk l0.typ l0.n l0.time l0.dot l0.text v1 v2)))
/-- slices.SortFunc[[]varve/api.Leaf,varve/api.Leaf]: sortO -/
def slicesSortFuncLeafX:Unit:=()
def qk (x0:GE) (y1:GE):Option Int :=
 ((yP x0.typ y1.typ).bind λv1=>some v1)
def xh (s0:(List GA)):Option (List GA) :=
 (nilq s0 λb1=>(if b1=true then some ([]:List GA) else (ym ((([]:List GA)).length+(s0).length<=yS) (some (([]:List GA)++s0)))))
def wP:Nat->(t0:(List GA))->(path1:(List zd))->(kind2:Int)->(l3:GE)->(there4:Bool)->Option (List GA)
 | 0,_,_,_,_,_=>none
 | n+1,t0,path1,kind2,l3,there4=>((wh path1 (0:Int)).bind λy1=>((zz t0 y1 (λx0 x1=>wH x0 x1)).bind λv2=>((wh path1 (0:Int)).bind λy3=>(lp ((if v2.2=true then ((wh t0 v2.1).bind λy7=>some (.inr (y7.name,y7.leaves,y7.subs))) else some (.inr (y3,([]:List GE),([]:List GA)))):Option (_ ⊕ (zd×(List GE)×(List GA)))) λ(s1:zd×(List GE)×(List GA))=>(lp ((if (decide (((path1).length:Int) > (1:Int)))=true then ((slc path1 (1:Int) ((path1).length:Int)).bind λm20=>((wP n s1.2.2 m20 kind2 l3 there4).bind λv21=>some (.inr (s1.2.1,v21)))) else ((we s1.2.1).bind λv22=>((yB v22 (λx0=>diffXlayC2 x0 kind2)).bind λv23=>(if there4=true then ((diffXown l3).bind λv25=>(ym ((v23).length+(([v25]:List GE)).length<=yS) (((sortO (λx y=>qk x y) (v23++([v25]:List GE))).bind λv27=>some (.inr (v27,s1.2.2)))))) else some (.inr (v23,s1.2.2)))))):Option (_ ⊕ ((List GE)×(List GA)))) λ(s2:(List GE)×(List GA))=>((slc t0 (0:Int) v2.1).bind λm28=>((xh m28).bind λv29=>(if (decide ((IntKind.wrap .i64 (((s2.1).length:Int)+((s2.2).length:Int))) > (0:Int)))=true then (ym ((v29).length+(([(GA.mk s1.1 s2.1 s2.2)]:List GA)).length<=yS) ((if v2.2=true then ((slc t0 (IntKind.wrap .i64 (v2.1+(1:Int))) ((t0).length:Int)).bind λm35=>(ym (((v29++([(GA.mk s1.1 s2.1 s2.2)]:List GA))).length+(m35).length<=yS) (some ((v29++([(GA.mk s1.1 s2.1 s2.2)]:List GA))++m35)))) else ((slc t0 v2.1 ((t0).length:Int)).bind λm37=>(ym (((v29++([(GA.mk s1.1 s2.1 s2.2)]:List GA))).length+(m37).length<=yS) (some ((v29++([(GA.mk s1.1 s2.1 s2.2)]:List GA))++m37))))))) else (if v2.2=true then ((slc t0 (IntKind.wrap .i64 (v2.1+(1:Int))) ((t0).length:Int)).bind λm40=>(ym ((v29).length+(m40).length<=yS) (some (v29++m40)))) else ((slc t0 v2.1 ((t0).length:Int)).bind λm42=>(ym ((v29).length+(m42).length<=yS) (some (v29++m42)))))))))))))
def diffXlay (t0:(List GA)) (path1:(List zd)) (kind2:Int) (l3:GE) (there4:Bool):Option (List GA):=anyN λn=>wP n t0 path1 kind2 l3 there4
def ql (t0:(List GA)) (l1:(List GJ)):Option ((List GA)×Int) :=
 ((treeMay t0).bind λv1=>((if ((!v1)==false)=true then diffMay l1 else some default).bind λv2=>(if ((!v1) || (!v2))=true then some (([]:List GA),(2:Int)) else ((wy t0 ([([42,42]:zd)]:List zd)).bind λv4=>(lp (zq (λ(n1:Nat) (x1:GJ) (s1:(List GA))=>(((treeLeaf t0 x1.path x1.typ).bind λv14=>((if (((!(v14.2==x1.had))==false)&&(v14.2==true))=true then xR v14.1 x1.was else some default).bind λv15=>(if ((!(v14.2==x1.had)) || (v14.2&&(!v15)))=true then some (.ret (([]:List GA),(16:Int))) else ((diffXlay s1 x1.path x1.typ x1.is x1.has).bind λv17=>some (.nxt v17))))):Option (Out _ (List GA)))) l1 0 v4.1) λ(s1:(List GA))=>some (s1,(0:Int)))))))
def vD (s0:zd):Option ((List GA)×Int×Int) :=
 (if (decide (((s0).length:Int) > (1048576:Int)))=true then some (([]:List GA),(0:Int),(3:Int)) else (lp (yr (λ(s1:zd×(List GJ)×Int×(List zd)×Int×Int×Int×Int×Int×Int×zd×(List GF)×(List GC))=>((if (!(s1.1==([]:zd)))=true then ((xb s1.1 ([10]:zd)).bind λv24=>((xe v24.1).bind λv25=>(if ((!v25.2) || (!v24.2.2))=true then some (.ret (([]:List GA),s1.2.2.1,(4:Int))) else ((if ((decide (s1.2.2.1 > (1:Int)))==true)=true then vL (GH.mk s1.2.2.2.1 (GE.mk s1.2.2.2.2.1 s1.2.2.2.2.2.1 s1.2.2.2.2.2.2.1 (GC.mk (GI.mk s1.2.2.2.2.2.2.2.1 s1.2.2.2.2.2.2.2.2.1) s1.2.2.2.2.2.2.2.2.2.1) s1.2.2.2.2.2.2.2.2.2.2.1 s1.2.2.2.2.2.2.2.2.2.2.2.1 s1.2.2.2.2.2.2.2.2.2.2.2.2)) v25.1 else some default).bind λv27=>(if ((decide (s1.2.2.1 > (1:Int)))&&(decide (v27 >= (0:Int))))=true then some (.ret (([]:List GA),s1.2.2.1,(16:Int))) else (ym ((s1.2.1).length+(([(GJ.mk v25.1.path v25.1.leaf.typ false true zLf v25.1.leaf)]:List GJ)).length<=yS) (some (.nxt (v24.2.1,(s1.2.1++([(GJ.mk v25.1.path v25.1.leaf.typ false true zLf v25.1.leaf)]:List GJ)),(IntKind.wrap .i64 (s1.2.2.1+(1:Int))),v25.1.path,v25.1.leaf.typ,v25.1.leaf.n,v25.1.leaf.time,v25.1.leaf.dot.actor.rep,v25.1.leaf.dot.actor.inc,v25.1.leaf.dot.seq,v25.1.leaf.text,v25.1.leaf.items,v25.1.leaf.tombs))))))))) else some (.brk (s1.1,s1.2.1,s1.2.2.1,s1.2.2.2.1,s1.2.2.2.2.1,s1.2.2.2.2.2.1,s1.2.2.2.2.2.2.1,s1.2.2.2.2.2.2.2.1,s1.2.2.2.2.2.2.2.2.1,s1.2.2.2.2.2.2.2.2.2.1,s1.2.2.2.2.2.2.2.2.2.2.1,s1.2.2.2.2.2.2.2.2.2.2.2.1,s1.2.2.2.2.2.2.2.2.2.2.2.2))):Option (Out _ (zd×(List GJ)×Int×(List zd)×Int×Int×Int×Int×Int×Int×zd×(List GF)×(List GC))))) (s0,([]:List GJ),(1:Int),([]:List zd),(0:Int),(0:Int),(0:Int),(0:Int),(0:Int),(0:Int),([]:zd),([]:List GF),([]:List GC))) λ(s1:zd×(List GJ)×Int×(List zd)×Int×Int×Int×Int×Int×Int×zd×(List GF)×(List GC))=>((ql ([]:List GA) s1.2.1).bind λv30=>some (v30.1,(0:Int),v30.2))))
def x4:Nat->(t0:(List GA))->(ahead1:(List zd))->Option (List GK)
 | 0,_,_=>none
 | n+1,t0,ahead1=>(lp (zq (λ(n1:Nat) (x1:GA) (s1:(List GK))=>((ym ((([]:List zd)).length+(ahead1).length<=yS) ((ym (((([]:List zd)++ahead1)).length+(([x1.name]:List zd)).length<=yS) ((lp (zq (λ(n2:Nat) (x2:GE) (s2:(List GK))=>((ym ((s2).length+(([(GK.mk ((([]:List zd)++ahead1)++([x1.name]:List zd)) x2)]:List GK)).length<=yS) (some (.nxt (s2++([(GK.mk ((([]:List zd)++ahead1)++([x1.name]:List zd)) x2)]:List GK))))):Option (Out _ (List GK)))) x1.leaves 0 s1) λ(s2:(List GK))=>((x4 n x1.subs ((([]:List zd)++ahead1)++([x1.name]:List zd))).bind λv44=>(ym ((s2).length+(v44).length<=yS) (some (.nxt (s2++v44)))))))))):Option (Out _ (List GK)))) t0 0 ([]:List GK)) λ(s1:(List GK))=>some s1)
def ref07Rows (t0:(List GA)) (ahead1:(List zd)):Option (List GK):=anyN λn=>x4 n t0 ahead1
def wO (t0:(List GA)) (att1:Int):Option Bool :=
 ((vi t0).bind λv1=>((if (v1==false)=true then ref07May t0 else some default).bind λv2=>(if (v1 || (!v2))=true then ((vC).bind λv4=>some v4) else ((vl t0).bind λv5=>(lp (yr (λ(s1:(List Int)×Nat)=>((if s1.2 < (v5).length then ((wh v5 (s1.2:Int)).bind λy13=>(if ((y13.toNat:Int)==(10:Int))=true then (ym ((s1.1).length+(([(IntKind.wrap .i64 ((s1.2:Int)+(1:Int)))]:List Int)).length<=yS) (some (.nxt ((s1.1++([(IntKind.wrap .i64 ((s1.2:Int)+(1:Int)))]:List Int)),(s1.2+(dec v5 s1.2).2))))) else some (.nxt (s1.1,(s1.2+(dec v5 s1.2).2))))) else some (.brk (s1.1,s1.2))):Option (Out _ ((List Int)×Nat)))) (([(0:Int)]:List Int),0)) λ(s1:(List Int)×Nat)=>(ym (¬ ((s1.1).length:Int)=0) (((wh s1.1 (Int.tmod (IntKind.wrap .i64 (att1)) ((s1.1).length:Int))).bind λy18=>((slc v5 (0:Int) y18).bind λm19=>((vD m19).bind λv20=>((slc v5 y18 ((v5).length:Int)).bind λm21=>((vD m21).bind λv22=>((if (((v20.2.2==(0:Int))&&(v22.2.2==(0:Int)))==true)=true then vl v20.1 else some default).bind λv23=>((if (((v20.2.2==(0:Int))&&(v22.2.2==(0:Int)))==true)=true then vl v22.1 else some default).bind λv24=>(ym ((((v20.2.2==(0:Int))&&(v22.2.2==(0:Int)))==true)=true->(v23).length+(v24).length<=maxLen) (((if ((((v20.2.2==(0:Int))&&(v22.2.2==(0:Int)))&&((v23++v24)==v5))==true)=true then ref07Rows v20.1 ([]:List zd) else some default).bind λv26=>((if ((((v20.2.2==(0:Int))&&(v22.2.2==(0:Int)))&&((v23++v24)==v5))==true)=true then ref07Rows v22.1 ([]:List zd) else some default).bind λv28=>((if ((((v20.2.2==(0:Int))&&(v22.2.2==(0:Int)))&&((v23++v24)==v5))==true)=true then ref07Rows t0 ([]:List zd) else some default).bind λv30=>((if (((((v20.2.2==(0:Int))&&(v22.2.2==(0:Int)))&&((v23++v24)==v5))&&((IntKind.wrap .i64 (((v26).length:Int)+((v28).length:Int)))==((v30).length:Int)))==true)=true then vC else some default).bind λv32=>some (((((v20.2.2==(0:Int))&&(v22.2.2==(0:Int)))&&((v23++v24)==v5))&&((IntKind.wrap .i64 (((v26).length:Int)+((v28).length:Int)))==((v30).length:Int)))&&v32)))))))))))))))))))))
end
end Go.Vv
