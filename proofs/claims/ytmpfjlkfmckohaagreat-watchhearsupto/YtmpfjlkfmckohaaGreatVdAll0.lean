/- What the functions compute, as plain functions; printed by a program from the code. -/
import Derived.Test.YtmpfjlkfmckohaaGreatVvU
import Derived.Test.YtmpfjlkfmckohaaGreatVvMl
import Derived.Test.YtmpfjlkfmckohaaGreatVvRb
import Derived.Test.YtmpfjlkfmckohaaGreatVvSo
import Derived.Test.YtmpfjlkfmckohaaGreatVvIn
set_option linter.all false
namespace Go.Vv
noncomputable section
open Go
structure GL where
 rep:Int
 inc:Int
 deriving DecidableEq,Inhabited
def GL.eqb (a b:GL):Bool:=(a.rep==b.rep&&(a.inc==b.inc&&true))
structure GF where
 actor:GL
 seq:Int
 deriving DecidableEq,Inhabited
def GF.eqb (a b:GF):Bool:=(a.actor.rep==b.actor.rep&&(a.actor.inc==b.actor.inc&&(a.seq==b.seq&&true)))
structure GJ where
 time:Int
 dot:GF
 text:zj
 deriving DecidableEq,Inhabited
def GJ.eqb (a b:GJ):Bool:=(a.time==b.time&&(a.dot.actor.rep==b.dot.actor.rep&&(a.dot.actor.inc==b.dot.actor.inc&&(a.dot.seq==b.dot.seq&&(a.text==b.text&&true)))))
structure GE where
 typ:Int
 n:Int
 time:Int
 dot:GF
 text:zj
 items:(List GJ)
 tombs:(List GF)
 deriving DecidableEq,Inhabited
structure GA where
 name:zj
 leaves:(List GE)
 subs:(List GA)
 deriving Inhabited
structure GK where
 path:(List zj)
 leaf:GE
 deriving DecidableEq,Inhabited
structure GC where
 path:(List zj)
 typ:Int
 had:Bool
 has:Bool
 was:GE
 is:GE
 deriving DecidableEq,Inhabited
structure GH where
 watch:Int
 num:Int
 edit:GC
 deriving DecidableEq,Inhabited
structure GI where
 p:(List zj)
 missed:Int
 deriving DecidableEq,Inhabited
def GL.wf (x:GL):Prop:=(InK .u8 x.rep)/\(InK .u32 x.inc)
def GF.wf (x:GF):Prop:=(GL.wf x.actor)/\(InK .u64 x.seq)
def GJ.wf (x:GJ):Prop:=(InK .u64 x.time)/\(GF.wf x.dot)/\(x.text.length<=maxLen)
def GE.wf (x:GE):Prop:=(InK .u8 x.typ)/\(InK .i64 x.n)/\(InK .u64 x.time)/\(GF.wf x.dot)/\(x.text.length<=maxLen)/\(x.items.length<=maxLen/\∀y ∈ x.items,GJ.wf y)/\(x.tombs.length<=maxLen/\∀y ∈ x.tombs,GF.wf y)
mutual
def GA.wf:GA->Prop
 | ⟨name,leaves,subs⟩=>(name.length<=maxLen)/\(leaves.length<=maxLen/\∀y ∈ leaves,GE.wf y)/\(GA.wfs subs)
def GA.wfs:List GA->Prop
 | []=>True
 | x::r=>x.wf/\GA.wfs r
end
theorem GA.wfs_iff (l:List GA):GA.wfs l ↔ ∀y ∈ l,GA.wf y:=by
 induction l with
 | nil=>simp [GA.wfs]
 | cons x r ih=>simp [GA.wfs,ih]
def GK.wf (x:GK):Prop:=(x.path.length<=maxLen/\∀y ∈ x.path,y.length<=maxLen)/\(GE.wf x.leaf)
def GC.wf (x:GC):Prop:=(x.path.length<=maxLen/\∀y ∈ x.path,y.length<=maxLen)/\(InK .u8 x.typ)/\(True)/\(True)/\(GE.wf x.was)/\(GE.wf x.is)
def GH.wf (x:GH):Prop:=(InK .i64 x.watch)/\(InK .u64 x.num)/\(GC.wf x.edit)
def GI.wf (x:GI):Prop:=(x.p.length<=maxLen/\∀y ∈ x.p,y.length<=maxLen)/\(InK .u64 x.missed)
def GL.bk (x:GL):Nat:=(1+(1+0))+1
def GF.bk (x:GF):Nat:=(GL.bk x.actor+(1+0))+1
def GJ.bk (x:GJ):Nat:=(1+(GF.bk x.dot+((x.text.length+1)+0)))+1
def GE.bk (x:GE):Nat:=(1+(1+(1+(GF.bk x.dot+((x.text.length+1)+(((x.items.map GJ.bk).sum+1)+(((x.tombs.map GF.bk).sum+1)+0)))))))+1
mutual
def GA.bk:GA->Nat
 | ⟨name,leaves,subs⟩=>((name.length+1)+(((leaves.map GE.bk).sum+1)+(((GA.bks subs)+1)+0)))+1
def GA.bks:List GA->Nat
 | []=>0
 | x::r=>x.bk+GA.bks r
end
theorem GA.bks_eq (l:List GA):GA.bks l=(l.map GA.bk).sum:=by
 induction l with
 | nil=>rfl
 | cons x r ih=>simp only [GA.bks,uy,rD,ih]
def GK.bk (x:GK):Nat:=(((x.path.map (λs=>s.length+1)).sum+1)+(GE.bk x.leaf+0))+1
def GC.bk (x:GC):Nat:=(((x.path.map (λs=>s.length+1)).sum+1)+(1+(1+(1+(GE.bk x.was+(GE.bk x.is+0))))))+1
def GH.bk (x:GH):Nat:=(1+(1+(GC.bk x.edit+0)))+1
def GI.bk (x:GI):Nat:=(((x.p.map (λs=>s.length+1)).sum+1)+(1+0))+1
abbrev zP:GE:=GE.mk (0:Int) (0:Int) (0:Int) (GF.mk (GL.mk (0:Int) (0:Int)) (0:Int)) ([]:zj) ([]:List GJ) ([]:List GF)
def vz (p0:(List zj)):Option ((List zj)×Bool) :=
 (wA (((decide (((p0).length:Int) > (0:Int)))==true)=true->0<=(IntKind.wrap .i64 (((p0).length:Int) - (1:Int)))/\(IntKind.wrap .i64 (((p0).length:Int) - (1:Int))) < ((p0).length:Int)) ((if ((decide (((p0).length:Int) > (0:Int)))&&(((p0).getD (IntKind.wrap .i64 (((p0).length:Int) - (1:Int))).toNat default)==([42,42]:zj)))=true then ((slc p0 (0:Int) (IntKind.wrap .i64 (((p0).length:Int) - (1:Int)))).bind λm4=>some (m4,true)) else some (p0,false))))
def ww (s0:zj) (f1:(Int->Option Bool)) (truth2:Bool):Option Int :=
 (lp (wU (λ(s1:Nat)=>((if s1 < (s0).length then ((f1 ((dec s0 s1).1:Int)).bind λv6=>(if (v6==truth2)=true then some (.ret (s1:Int)) else some (.nxt (s1+(dec s0 s1).2)))) else some (.brk s1)):Option (Out _ Nat))) 0) λ(s1:Nat)=>some (-1:Int))
def wN (s0:zj) (f1:(Int->Option Bool)):Option Int :=
 ((ww s0 f1 true).bind λv1=>some v1)
def xj (s0:zj) (f1:(Int->Option Bool)):Option Bool :=
 ((wN s0 f1).bind λv1=>some (decide (v1 >= (0:Int))))
def qd (r0:Int):Option Bool :=
 some ((((decide (r0 < (97:Int))) || (decide (r0 > (122:Int))))&&((decide (r0 < (65:Int))) || (decide (r0 > (90:Int)))))&&((decide (r0 < (48:Int))) || (decide (r0 > (57:Int)))))
def opIsName (s0:zj):Option Bool :=
 ((if (((decide (((s0).length:Int) >= (1:Int)))&&(decide (((s0).length:Int)<=(12:Int))))==true)=true then xj s0 (λx0=>qd x0) else some default).bind λv3=>some (((decide (((s0).length:Int) >= (1:Int)))&&(decide (((s0).length:Int)<=(12:Int))))&&(!v3)))
def wy (s0:zj):Option Bool :=
 ((if ((!(s0==([42]:zj)))==true)=true then opIsName s0 else some default).bind λv1=>some ((!(s0==([42]:zj)))&&(!v1)))
def xz (s0:(List zj)) (f1:(zj->Option Bool)):Option Int :=
 (lp (zy (λ(n1:Nat) (x1:zj) (s1:Unit)=>(((f1 x1).bind λv7=>(if v7=true then some (.ret (n1:Int)) else some (.nxt ()))):Option (Out _ Unit))) s0 0 ()) λ(s1:Unit)=>some (-1:Int))
def yx (s0:(List zj)) (f1:(zj->Option Bool)):Option Bool :=
 ((xz s0 f1).bind λv1=>some (decide (v1 >= (0:Int))))
def yG (p0:(List zj)):Option Bool :=
 ((vz p0).bind λv1=>((if ((((decide (((v1.1).length:Int) > (0:Int))) || v1.2)&&(decide (((v1.1).length:Int)<=(3:Int))))==true)=true then yx v1.1 (λx0=>wy x0) else some default).bind λv4=>some ((((decide (((v1.1).length:Int) > (0:Int))) || v1.2)&&(decide (((v1.1).length:Int)<=(3:Int))))&&(!v4))))
def z7 (s0:(List zj)):Option (List zj) :=
 (nilq s0 λb1=>(if b1=true then some ([]:List zj) else (wA ((([]:List zj)).length+(s0).length<=xO) (some (([]:List zj)++s0)))))
def yS (s0:(List GJ)):Option (List GJ) :=
 (nilq s0 λb1=>(if b1=true then some ([]:List GJ) else (wA ((([]:List GJ)).length+(s0).length<=xO) (some (([]:List GJ)++s0)))))
def yY (s0:(List GF)):Option (List GF) :=
 (nilq s0 λb1=>(if b1=true then some ([]:List GF) else (wA ((([]:List GF)).length+(s0).length<=xO) (some (([]:List GF)++s0)))))
def pathsXown (l0:GE):Option GE :=
 ((yS l0.items).bind λv1=>((yY l0.tombs).bind λv2=>some (GE.mk l0.typ l0.n l0.time l0.dot l0.text v1 v2)))
def qb (t0:(List GA)) (ahead1:(List zj)):Option ((List GA)×(List zj)) :=
 some (t0,ahead1)
def xS:Nat->(S:Type)->(yield0:S->GK->Option (Bool×S))->(c0:(List GA))->(c1:(List zj))->(s0:S)->Option S
 | 0,_,_,_,_,_=>none
 | n+1,S,yield0,c0,c1,s0=>(lp (zy (λ(n1:Nat) (x1:GA) (s1:S)=>(((z7 c1).bind λv37=>(wA ((v37).length+(([x1.name]:List zj)).length<=xO) ((lp (zy (λ(n2:Nat) (x2:GE) (s2:S)=>(((z7 (v37++([x1.name]:List zj))).bind λv51=>((pathsXown x2).bind λv52=>((yield0 s2 (GK.mk v51 v52)).bind λv53=>(if (!v53.1)=true then some (.ret (.ret v53.2)) else some (.nxt v53.2))))):Option (Out _ S))) x1.leaves 0 s1) λ(s2:S)=>((qb x1.subs (v37++([x1.name]:List zj))).bind λv55=>(rng (xS n _ (stp (λ(s3:S) (x3:GK)=>(((yield0 s3 x3).bind λv64=>(if (!v64.1)=true then some (false,(v64.2,some 0)) else some (true,(v64.2,none)))):Option (Bool×(S×Option Nat))))) v55.1 v55.2 (s2,none)) (λ(s3:S)=>some (.nxt s3)) (λ(j3:Nat) (s3:S)=>if j3=0 then some (.ret s3) else none))))))):Option (Out _ S))) c0 0 s0) λ(s1:S)=>some s1)
def pathsXrowsC1 (S:Type) (yield0:S->GK->Option (Bool×S)) (c0:(List GA)) (c1:(List zj)) (s0:S):Option S:=anyN λn=>xS n S yield0 c0 c1 s0
def wd (s0:(List GK)) (seq1:(S:Type)->(S->GK->Option (Bool×S))->S->Option S):Option (List GK) :=
 (rng (seq1 _ (stp (λ(s1:(List GK)) (x1:GK)=>((wA ((s1).length+(([x1]:List GK)).length<=xO) (some (true,((s1++([x1]:List GK)),none)))):Option (Bool×((List GK)×Option Nat))))) (s0,none)) (λ(s1:(List GK))=>some s1) (λ_ _=>none))
def wO (seq0:(S:Type)->(S->GK->Option (Bool×S))->S->Option S):Option (List GK) :=
 ((wd ([]:List GK) seq0).bind λv1=>some v1)
def qF (n0:Int):Option Bool :=
 some ((decide (n0 >= (1:Int)))&&(decide (n0<=(1099511627776:Int))))
def dotMayActor (a0:GL):Option Bool :=
 some (((decide (a0.rep < (16:Int)))&&(decide (a0.inc >= (1:Int))))&&(decide (a0.inc<=(4:Int))))
def dotMay (d0:GF):Option Bool :=
 ((dotMayActor d0.actor).bind λv1=>some ((v1&&(decide (d0.seq >= (1:Int))))&&(decide (d0.seq<=(1048576:Int)))))
def vB (s0:zj):Option Bool :=
 some (decide (((s0).length:Int)<=(40:Int)))
def leafXtwice (l0:(List GJ)):Option Bool :=
 (lp (zy (λ(n1:Nat) (x1:GJ) (s1:List (GF×Int))=>(some (.nxt (mput GF.eqb s1 x1.dot (IntKind.wrap .i64 ((zo GF.eqb (0:Int) s1 x1.dot)+(1:Int))))):Option (Out _ (List (GF×Int))))) l0 0 ([]:List (GF×Int))) λ(s1:List (GF×Int))=>some (decide (((s1).length:Int) < ((l0).length:Int))))
def qL (vals0:(List Int)):Option Int :=
 (lp (zy (λ(n1:Nat) (x1:Int) (s1:Unit)=>((if (x1 != (0:Int))=true then some (.ret x1) else some (.nxt ())):Option (Out _ Unit))) vals0 0 ()) λ(s1:Unit)=>some (0:Int))
def wq (x0:Int):Option Bool :=
 some (x0 != x0)
def xu (x0:Int) (y1:Int):Option Int :=
 ((wq x0).bind λv1=>((wq y1).bind λv2=>(if v1=true then (if v2=true then some (0:Int) else some (-1:Int)) else (if v2=true then some (1:Int) else (if (decide (x0 < y1))=true then some (-1:Int) else (if (decide (x0 > y1))=true then some (1:Int) else some (0:Int)))))))
def wr (x0:Int):Option Bool :=
 some (x0 != x0)
def x7 (x0:Int) (y1:Int):Option Int :=
 ((wr x0).bind λv1=>((wr y1).bind λv2=>(if v1=true then (if v2=true then some (0:Int) else some (-1:Int)) else (if v2=true then some (1:Int) else (if (decide (x0 < y1))=true then some (-1:Int) else (if (decide (x0 > y1))=true then some (1:Int) else some (0:Int)))))))
def wJ (x0:Int):Option Bool :=
 some (x0 != x0)
def xh (x0:Int) (y1:Int):Option Int :=
 ((wJ x0).bind λv1=>((wJ y1).bind λv2=>(if v1=true then (if v2=true then some (0:Int) else some (-1:Int)) else (if v2=true then some (1:Int) else (if (decide (x0 < y1))=true then some (-1:Int) else (if (decide (x0 > y1))=true then some (1:Int) else some (0:Int)))))))
def qI (a0:GL) (b1:GL):Option Int :=
 ((xh a0.rep b1.rep).bind λv1=>((x7 a0.inc b1.inc).bind λv2=>((qL ([v1,v2]:List Int)).bind λv3=>some v3)))
def ql (a0:GF) (b1:GF):Option Int :=
 ((qI a0.actor b1.actor).bind λv1=>((xu a0.seq b1.seq).bind λv2=>((qL ([v1,v2]:List Int)).bind λv3=>some v3)))
def leafXcompare (a0:Int) (d1:GF) (b2:Int) (o3:GF):Option Int :=
 ((xu a0 b2).bind λv1=>((ql d1 o3).bind λv2=>((qL ([v1,v2]:List Int)).bind λv3=>some v3)))
def leafAhead (time0:Int) (d1:GF) (other2:Int) (o3:GF):Option Bool :=
 ((leafXcompare time0 d1 other2 o3).bind λv1=>some (decide (v1 < (0:Int))))
def qh (l0:(List GJ)) (timed1:Bool):Option Bool :=
 (lp (zy (λ(n1:Nat) (x1:GJ) (s1:Unit)=>(((dotMay x1.dot).bind λv13=>((if ((!v13)==false)=true then vB x1.text else some default).bind λv14=>((if (((!v13) || (!v14))==false)=true then qF x1.time else some default).bind λv15=>(if ((((!v13) || (!v14)) || (!(timed1==v15))) || ((!timed1)&&(x1.time != (0:Int))))=true then some (.ret false) else (wA (((decide ((n1:Int) > (0:Int)))==true)=true->0<=(IntKind.wrap .i64 ((n1:Int) - (1:Int)))/\(IntKind.wrap .i64 ((n1:Int) - (1:Int))) < ((l0).length:Int)) ((wA (((decide ((n1:Int) > (0:Int)))==true)=true->0<=(IntKind.wrap .i64 ((n1:Int) - (1:Int)))/\(IntKind.wrap .i64 ((n1:Int) - (1:Int))) < ((l0).length:Int)) (((if ((decide ((n1:Int) > (0:Int)))==true)=true then leafAhead (((l0).getD (IntKind.wrap .i64 ((n1:Int) - (1:Int))).toNat default).time) (((l0).getD (IntKind.wrap .i64 ((n1:Int) - (1:Int))).toNat default).dot) x1.time x1.dot else some default).bind λv19=>(if ((decide ((n1:Int) > (0:Int)))&&(!v19))=true then some (.ret false) else some (.nxt ()))))))))))):Option (Out _ Unit))) l0 0 ()) λ(s1:Unit)=>((leafXtwice l0).bind λv21=>some (!v21)))
def xY (s0:(List GJ)) (f1:(GJ->Option Bool)):Option Int :=
 (lp (zy (λ(n1:Nat) (x1:GJ) (s1:Unit)=>(((f1 x1).bind λv7=>(if v7=true then some (.ret (n1:Int)) else some (.nxt ()))):Option (Out _ Unit))) s0 0 ()) λ(s1:Unit)=>some (-1:Int))
def yQ (s0:(List GJ)) (f1:(GJ->Option Bool)):Option Bool :=
 ((xY s0 f1).bind λv1=>some (decide (v1 >= (0:Int))))
def leafXhasC1 (x0:GJ) (c0:GF):Option Bool :=
 some (x0.dot.actor.rep==c0.actor.rep&&(x0.dot.actor.inc==c0.actor.inc&&(x0.dot.seq==c0.seq&&true)))
def leafXhas (l0:(List GJ)) (d1:GF):Option Bool :=
 ((yQ l0 (λx0=>leafXhasC1 x0 d1)).bind λv1=>some v1)
def leafXtombs (l0:GE):Option Bool :=
 (lp (zy (λ(n1:Nat) (x1:GF) (s1:Unit)=>(((dotMay x1).bind λv19=>(wA ((((!v19)==false)&&((decide ((n1:Int) > (0:Int)))==true))=true->0<=(IntKind.wrap .i64 ((n1:Int) - (1:Int)))/\(IntKind.wrap .i64 ((n1:Int) - (1:Int))) < ((l0.tombs).length:Int)) (((if (((!v19)==false)&&((decide ((n1:Int) > (0:Int)))==true))=true then ql ((l0.tombs).getD (IntKind.wrap .i64 ((n1:Int) - (1:Int))).toNat default) x1 else some default).bind λv21=>((if (((!v19) || ((decide ((n1:Int) > (0:Int)))&&(decide (v21 >= (0:Int)))))==false)=true then leafXhas l0.items x1 else some default).bind λv22=>(if (((!v19) || ((decide ((n1:Int) > (0:Int)))&&(decide (v21 >= (0:Int))))) || v22)=true then some (.ret false) else some (.nxt ()))))))):Option (Out _ Unit))) l0.tombs 0 ()) λ(s1:Unit)=>some true)
def wj (s10:(List GJ)) (s21:(List GJ)):Option Bool :=
 (if (((s10).length:Int) != ((s21).length:Int))=true then some false else (lp (zy (λ(n1:Nat) (x1:GJ) (s1:Unit)=>(((vm s21 (n1:Int)).bind λy10=>(if (!(x1.time==y10.time&&(x1.dot.actor.rep==y10.dot.actor.rep&&(x1.dot.actor.inc==y10.dot.actor.inc&&(x1.dot.seq==y10.dot.seq&&(x1.text==y10.text&&true))))))=true then some (.ret false) else some (.nxt ()))):Option (Out _ Unit))) s10 0 ()) λ(s1:Unit)=>some true))
def wB (s10:(List GF)) (s21:(List GF)):Option Bool :=
 (if (((s10).length:Int) != ((s21).length:Int))=true then some false else (lp (zy (λ(n1:Nat) (x1:GF) (s1:Unit)=>(((vm s21 (n1:Int)).bind λy10=>(if (!(x1.actor.rep==y10.actor.rep&&(x1.actor.inc==y10.actor.inc&&(x1.seq==y10.seq&&true))))=true then some (.ret false) else some (.nxt ()))):Option (Out _ Unit))) s10 0 ()) λ(s1:Unit)=>some true))
def y6 (a0:GE) (b1:GE):Option Bool :=
 ((if ((((((a0.typ==b1.typ)&&(a0.n==b1.n))&&(a0.time==b1.time))&&(a0.dot.actor.rep==b1.dot.actor.rep&&(a0.dot.actor.inc==b1.dot.actor.inc&&(a0.dot.seq==b1.dot.seq&&true))))&&(a0.text==b1.text))==true)=true then wj a0.items b1.items else some default).bind λv1=>((if (((((((a0.typ==b1.typ)&&(a0.n==b1.n))&&(a0.time==b1.time))&&(a0.dot.actor.rep==b1.dot.actor.rep&&(a0.dot.actor.inc==b1.dot.actor.inc&&(a0.dot.seq==b1.dot.seq&&true))))&&(a0.text==b1.text))&&v1)==true)=true then wB a0.tombs b1.tombs else some default).bind λv2=>some (((((((a0.typ==b1.typ)&&(a0.n==b1.n))&&(a0.time==b1.time))&&(a0.dot.actor.rep==b1.dot.actor.rep&&(a0.dot.actor.inc==b1.dot.actor.inc&&(a0.dot.seq==b1.dot.seq&&true))))&&(a0.text==b1.text))&&v1)&&v2)))
def leafMay (l0:GE):Option Bool :=
 (if (l0.typ==(1:Int))=true then ((y6 l0 (GE.mk l0.typ l0.n (0:Int) (GF.mk (GL.mk (0:Int) (0:Int)) (0:Int)) ([]:zj) ([]:List GJ) ([]:List GF))).bind λv2=>some v2) else (if (l0.typ==(2:Int))=true then ((if ((l0.time != (0:Int))==true)=true then qF l0.time else some default).bind λv4=>((if (((l0.time != (0:Int))==true)&&(v4==true))=true then dotMay l0.dot else some default).bind λv5=>((if (((l0.time != (0:Int))==true)&&((v4&&v5)==true))=true then vB l0.text else some default).bind λv6=>(if (((l0.time != (0:Int))&&(!((v4&&v5)&&v6))) || ((l0.time==(0:Int))&&((!(l0.dot.actor.rep==(0:Int)&&(l0.dot.actor.inc==(0:Int)&&(l0.dot.seq==(0:Int)&&true)))) || (!(l0.text==([]:zj))))))=true then some false else ((y6 l0 (GE.mk l0.typ (0:Int) l0.time l0.dot l0.text ([]:List GJ) ([]:List GF))).bind λv8=>some v8))))) else (if (l0.typ==(3:Int))=true then ((qh l0.items false).bind λv10=>((if ((!v10)==false)=true then leafXtombs l0 else some default).bind λv11=>(if ((!v10) || (!v11))=true then some false else ((y6 l0 (GE.mk l0.typ (0:Int) (0:Int) (GF.mk (GL.mk (0:Int) (0:Int)) (0:Int)) ([]:zj) l0.items l0.tombs)).bind λv13=>some v13)))) else (if (l0.typ==(4:Int))=true then ((qh l0.items true).bind λv15=>(if (!v15)=true then some false else ((y6 l0 (GE.mk l0.typ (0:Int) (0:Int) (GF.mk (GL.mk (0:Int) (0:Int)) (0:Int)) ([]:zj) l0.items ([]:List GF))).bind λv17=>some v17))) else some false))))
def vt:Nat->(t0:(List GA))->(deep1:Int)->Option Bool
 | 0,_,_=>none
 | n+1,t0,deep1=>(if ((decide (((t0).length:Int) > (0:Int)))&&(deep1==(3:Int)))=true then some false else (lp (zy (λ(n1:Nat) (x1:GA) (s1:Unit)=>(((opIsName x1.name).bind λv27=>(wA ((((!v27)==false)&&((decide ((n1:Int) > (0:Int)))==true))=true->0<=(IntKind.wrap .i64 ((n1:Int) - (1:Int)))/\(IntKind.wrap .i64 ((n1:Int) - (1:Int))) < ((t0).length:Int)) (((if ((((!v27) || ((decide ((n1:Int) > (0:Int)))&&(!(Op.bytesLess (((t0).getD (IntKind.wrap .i64 ((n1:Int) - (1:Int))).toNat default).name) x1.name)))) || ((IntKind.wrap .i64 (((x1.leaves).length:Int)+((x1.subs).length:Int)))==(0:Int)))==false)=true then vt n x1.subs (IntKind.wrap .i64 (deep1+(1:Int))) else some default).bind λv31=>(if ((((!v27) || ((decide ((n1:Int) > (0:Int)))&&(!(Op.bytesLess (((t0).getD (IntKind.wrap .i64 ((n1:Int) - (1:Int))).toNat default).name) x1.name)))) || ((IntKind.wrap .i64 (((x1.leaves).length:Int)+((x1.subs).length:Int)))==(0:Int))) || (!v31))=true then some (.ret false) else (lp (zy (λ(n2:Nat) (x2:GE) (s2:Unit)=>(((leafMay x2).bind λv43=>(wA ((((!v43)==false)&&((decide ((n2:Int) > (0:Int)))==true))=true->0<=(IntKind.wrap .i64 ((n2:Int) - (1:Int)))/\(IntKind.wrap .i64 ((n2:Int) - (1:Int))) < ((x1.leaves).length:Int)) ((if ((!v43) || ((decide ((n2:Int) > (0:Int)))&&(decide (((x1.leaves).getD (IntKind.wrap .i64 ((n2:Int) - (1:Int))).toNat default).typ >= x2.typ))))=true then some (.ret (.ret false)) else some (.nxt ()))))):Option (Out _ Unit))) x1.leaves 0 ()) λ(s2:Unit)=>some (.nxt ()))))))):Option (Out _ Unit))) t0 0 ()) λ(s1:Unit)=>some true))
def treeXmay (t0:(List GA)) (deep1:Int):Option Bool:=anyN λn=>vt n t0 deep1
def vg (t0:(List GA)):Option Bool :=
 ((treeXmay t0 (0:Int)).bind λv1=>some v1)
def vA (t0:(List GA)):Option (List GK) :=
 ((vg t0).bind λv1=>(if (!v1)=true then some ([]:List GK) else ((qb t0 ([]:List zj)).bind λv3=>((wO (λS y s=>pathsXrowsC1 S y v3.1 v3.2 s)).bind λv4=>some v4))))
/-- strings.Join -/
def stringsJoin (p0:List zj) (p1:zj):Option zj:=strJoin p0 p1
def xQ (path0:(List zj)) (kind1:Int):Option zj :=
 ((stringsJoin path0 ([0]:zj)).bind λv1=>(wA ((v1).length+(([0]:zj)).length<=maxLen) ((wA (0<=kind1/\kind1 < 256) ((wA ((([(UInt8.ofNat kind1.toNat)]:List UInt8)).length<=maxLen) ((wA (((v1++([0]:zj))).length+(([(UInt8.ofNat kind1.toNat)]:List UInt8)).length<=maxLen) (some ((v1++([0]:zj))++([(UInt8.ofNat kind1.toNat)]:List UInt8)))))))))))
def qJ (l0:GE):Option GE :=
 ((yS l0.items).bind λv1=>((yY l0.tombs).bind λv2=>some (GE.mk l0.typ l0.n l0.time l0.dot l0.text v1 v2)))
def vE (e0:GC):Option GC :=
 ((z7 e0.path).bind λv1=>((qJ e0.was).bind λv2=>((qJ e0.is).bind λv3=>some (GC.mk v1 e0.typ e0.had e0.has v2 v3))))
/-- slices.SortFunc[[]varve/api.Edit,varve/api.Edit]: sortO -/
def slicesSortFuncEditX:Unit:=()
def xg (x0:zj):Option Bool :=
 some (!(x0==x0))
def yy (x0:zj) (y1:zj):Option Int :=
 ((xg x0).bind λv1=>((xg y1).bind λv2=>(if v1=true then (if v2=true then some (0:Int) else some (-1:Int)) else (if v2=true then some (1:Int) else (if (Op.bytesLess x0 y1)=true then some (-1:Int) else (if (!(Op.bytesLess x0 y1 || x0==y1))=true then some (1:Int) else some (0:Int)))))))
def yJ (s10:(List zj)) (s21:(List zj)):Option Int :=
 (lp (zy (λ(n1:Nat) (x1:zj) (s1:Unit)=>((if (decide ((n1:Int) >= ((s21).length:Int)))=true then some (.ret (1:Int)) else ((vm s21 (n1:Int)).bind λy12=>((yy x1 y12).bind λv13=>(if (v13 != (0:Int))=true then some (.ret v13) else some (.nxt ()))))):Option (Out _ Unit))) s10 0 ()) λ(s1:Unit)=>(if (decide (((s10).length:Int) < ((s21).length:Int)))=true then some (-1:Int) else some (0:Int)))
def wH (a0:GC) (b1:GC):Option Int :=
 ((yJ a0.path b1.path).bind λv1=>((xh a0.typ b1.typ).bind λv2=>((qL ([v1,v2]:List Int)).bind λv3=>some v3)))
def wb (byy0:List (zj×GC)):Option (List GC) :=
 (allP byy0 λp1=>lp (zy (λ(_:Nat) (x1:(zj×GC)) (s1:(List GC))=>(((if ((x1.2.had==x1.2.has)==true)=true then y6 x1.2.was x1.2.is else some default).bind λv7=>(if (!((x1.2.had==x1.2.has)&&v7))=true then ((vE x1.2).bind λv9=>(wA ((s1).length+(([v9]:List GC)).length<=xO) (some (.nxt (s1++([v9]:List GC)))))) else some (.nxt s1))):Option (Out _ (List GC)))) p1 0 ([]:List GC)) λ(s1:(List GC))=>((sortO (λx y=>wH x y) s1).bind λv11=>some v11))
def vd (a0:(List GA)) (b1:(List GA)):Option ((List GC)×Int) :=
 ((vg a0).bind λv1=>((if ((!v1)==false)=true then vg b1 else some default).bind λv2=>(if ((!v1) || (!v2))=true then some (([]:List GC),(2:Int)) else ((vA a0).bind λv4=>(lp (zy (λ(n1:Nat) (x1:GK) (s1:List (zj×GC))=>(((xQ x1.path x1.leaf.typ).bind λv11=>some (.nxt (yn (λa b=>a==b) s1 v11 (GC.mk x1.path x1.leaf.typ true false x1.leaf zP)))):Option (Out _ (List (zj×GC))))) v4 0 ([]:List (zj×GC))) λ(s1:List (zj×GC))=>((vA b1).bind λv12=>(lp (zy (λ(n2:Nat) (x2:GK) (s2:List (zj×GC))=>(((xQ x2.path x2.leaf.typ).bind λv20=>((xQ x2.path x2.leaf.typ).bind λv21=>some (.nxt (yn (λa b=>a==b) s2 v21 (GC.mk x2.path x2.leaf.typ ((zo (λa b=>a==b) (GC.mk ([]:List zj) (0:Int) false false zP zP) s2 v20).had) true ((zo (λa b=>a==b) (GC.mk ([]:List zj) (0:Int) false false zP zP) s2 v20).was) x2.leaf))))):Option (Out _ (List (zj×GC))))) v12 0 s1) λ(s2:List (zj×GC))=>((wb s2).bind λv22=>some (v22,(0:Int))))))))))
/-- slices.Sorted[int]: keysSrt -/
def slicesSortedIntX:Unit:=()
/-- maps.Keys[map[int]varve/watch.one,int,varve/watch.one]: a closure over the map -/
def mapsKeysOneIntOneX:Unit:=()
def opMayPathC1 (s0:zj):Option Bool :=
 ((opIsName s0).bind λv1=>some (!v1))
def qc (p0:(List zj)):Option Bool :=
 ((if (((decide (((p0).length:Int) >= (1:Int)))&&(decide (((p0).length:Int)<=(3:Int))))==true)=true then yx p0 (λx0=>opMayPathC1 x0) else some default).bind λv3=>some (((decide (((p0).length:Int) >= (1:Int)))&&(decide (((p0).length:Int)<=(3:Int))))&&(!v3)))
def yV (p0:(List zj)) (path1:(List zj)):Option Bool :=
 ((vz p0).bind λv1=>((yG p0).bind λv2=>((if ((!v2)==false)=true then qc path1 else some default).bind λv3=>(if ((((!v2) || (!v3)) || (decide (((path1).length:Int) < ((v1.1).length:Int)))) || ((decide (((path1).length:Int) > ((v1.1).length:Int)))&&(!v1.2)))=true then some false else (lp (zy (λ(n1:Nat) (x1:zj) (s1:Unit)=>((wA (((!(x1==([42]:zj)))==true)=true->0<=(n1:Int)/\(n1:Int) < ((path1).length:Int)) ((if ((!(x1==([42]:zj)))&&(!(x1==((path1).getD (n1:Int).toNat default))))=true then some (.ret false) else some (.nxt ())))):Option (Out _ Unit))) v1.1 0 ()) λ(s1:Unit)=>some true)))))
def watchXown (l0:GE):Option GE :=
 ((yS l0.items).bind λv1=>((yY l0.tombs).bind λv2=>some (GE.mk l0.typ l0.n l0.time l0.dot l0.text v1 v2)))
def wc (e0:GC):Option GC :=
 ((z7 e0.path).bind λv1=>((watchXown e0.was).bind λv2=>((watchXown e0.is).bind λv3=>some (GC.mk v1 e0.typ e0.had e0.has v2 v3))))
def wE:Nat->(t0:(List GA))->(ahead1:(List zj))->(is2:((List zj)->Option Bool))->Option (List GA)
 | 0,_,_,_=>none
 | n+1,t0,ahead1,is2=>(lp (zy (λ(n1:Nat) (x1:GA) (s1:(List GA))=>(((z7 ahead1).bind λv32=>(wA ((v32).length+(([x1.name]:List zj)).length<=xO) (((wE n x1.subs (v32++([x1.name]:List zj)) is2).bind λv34=>(lp (zy (λ(n2:Nat) (x2:GE) (s2:(List GE))=>(((is2 (v32++([x1.name]:List zj))).bind λv49=>(if v49=true then ((pathsXown x2).bind λv51=>(wA ((s2).length+(([v51]:List GE)).length<=xO) (some (.nxt (s2++([v51]:List GE)))))) else some (.nxt s2))):Option (Out _ (List GE)))) x1.leaves 0 ([]:List GE)) λ(s2:(List GE))=>(if (decide ((IntKind.wrap .i64 (((s2).length:Int)+((v34).length:Int))) > (0:Int)))=true then (wA ((s1).length+(([(GA.mk x1.name s2 v34)]:List GA)).length<=xO) (some (.nxt (s1++([(GA.mk x1.name s2 v34)]:List GA))))) else some (.nxt s1))))))):Option (Out _ (List GA)))) t0 0 ([]:List GA)) λ(s1:(List GA))=>some s1)
def pathsXkept (t0:(List GA)) (ahead1:(List zj)) (is2:((List zj)->Option Bool)):Option (List GA):=anyN λn=>wE n t0 ahead1 is2
def qw (path0:(List zj)) (c0:(List zj)):Option Bool :=
 ((yV c0 path0).bind λv1=>some v1)
def xr (t0:(List GA)) (p1:(List zj)):Option ((List GA)×Int) :=
 ((vg t0).bind λv1=>((if ((!v1)==false)=true then yG p1 else some default).bind λv2=>(if ((!v1) || (!v2))=true then some (([]:List GA),(2:Int)) else ((pathsXkept t0 ([]:List zj) (λx0=>qw x0 p1)).bind λv4=>some (v4,(0:Int))))))
def yr (s0:(List GH)):Option (List GH) :=
 (nilq s0 λb1=>(if b1=true then some ([]:List GH) else (wA ((([]:List GH)).length+(s0).length<=xO) (some (([]:List GH)++s0)))))
def xP  : Option Bool :=
 ((some ([]:List (Int×GI)):Option (List (Int×GI))).bind λv1=>((((some ():Option Unit).bind λv9=>((yG ([([97]:zj),([42]:zj)]:List zj)).bind λv10=>(if (!v10)=true then some ((0:Int),(2:Int),v1,(0:Int)) else (if (decide (((v1).length:Int) >= (32:Int)))=true then some ((0:Int),(10:Int),v1,(0:Int)) else ((z7 ([([97]:zj),([42]:zj)]:List zj)).bind λv14=>some ((IntKind.wrap .i64 ((0:Int)+(1:Int))),(0:Int),(yn (λa b=>a==b) v1 (IntKind.wrap .i64 ((0:Int)+(1:Int))) (GI.mk v14 (0:Int))),(IntKind.wrap .i64 ((0:Int)+(1:Int))))))))):Option (Int×Int×List (Int×GI)×Int)).bind λv2=>((((some ():Option Unit).bind λv145=>((vd ([]:List GA) ([(GA.mk ([97]:zj) ([]:List GE) ([(GA.mk ([98]:zj) ([(GE.mk (1:Int) (5:Int) (0:Int) (GF.mk (GL.mk (0:Int) (0:Int)) (0:Int)) ([]:zj) ([]:List GJ) ([]:List GF))]:List GE) ([]:List GA))]:List GA))]:List GA)).bind λv146=>(if (v146.2 != (0:Int))=true then some ((0:Int),v146.2,v2.2.2.1,(0:Int),([]:List GA),([]:List GH)) else (lp (zy (λ(n1:Nat) (x1:GC) (s1:Int×List (Int×GI)×Int×(List GH))=>(((keysSrt s1.2.1).bind λv216=>(lp (zy (λ(n2:Nat) (x2:Int) (s2:Int×List (Int×GI)×Int×(List GH))=>(((yV ((zo (λa b=>a==b) (GI.mk ([]:List zj) (0:Int)) s2.2.1 x2).p) x1.path).bind λv260=>((if (v260==true)=true then (if (decide (((s2.2.2.2).length:Int) >= (256:Int)))=true then some (false,(yn (λa b=>a==b) s2.2.1 x2 (GI.mk ((zo (λa b=>a==b) (GI.mk ([]:List zj) (0:Int)) s2.2.1 x2).p) (IntKind.wrap .u64 ((zo (λa b=>a==b) (GI.mk ([]:List zj) (0:Int)) s2.2.1 x2).missed+(1:Int))))),s2.2.2.1,s2.2.2.2) else ((wc x1).bind λv268=>(wA ((s2.2.2.2).length+(([(GH.mk x2 (IntKind.wrap .u64 (s2.2.2.1+(1:Int))) v268)]:List GH)).length<=xO) (some (true,s2.2.1,(IntKind.wrap .u64 (s2.2.2.1+(1:Int))),(s2.2.2.2++([(GH.mk x2 (IntKind.wrap .u64 (s2.2.2.1+(1:Int))) v268)]:List GH))))))) else some (default,s2.2.1,s2.2.2.1,s2.2.2.2):Option (Bool×List (Int×GI)×Int×(List GH))).bind λv261=>(if (v260&&v261.1)=true then some (.nxt ((IntKind.wrap .i64 (s2.1+(1:Int))),v261.2.1,v261.2.2.1,v261.2.2.2)) else some (.nxt (s2.1,v261.2.1,v261.2.2.1,v261.2.2.2))))):Option (Out _ (Int×List (Int×GI)×Int×(List GH))))) v216 0 (s1.1,s1.2.1,s1.2.2.1,s1.2.2.2)) λ(s2:Int×List (Int×GI)×Int×(List GH))=>some (.nxt (s2.1,s2.2.1,s2.2.2.1,s2.2.2.2)))):Option (Out _ (Int×List (Int×GI)×Int×(List GH))))) v146.1 0 ((0:Int),v2.2.2.1,(0:Int),([]:List GH))) λ(s1:Int×List (Int×GI)×Int×(List GH))=>((xr ([(GA.mk ([97]:zj) ([]:List GE) ([(GA.mk ([98]:zj) ([(GE.mk (1:Int) (5:Int) (0:Int) (GF.mk (GL.mk (0:Int) (0:Int)) (0:Int)) ([]:zj) ([]:List GJ) ([]:List GF))]:List GE) ([]:List GA))]:List GA))]:List GA) ([([42,42]:zj)]:List zj)).bind λv271=>some (s1.1,(0:Int),s1.2.1,s1.2.2.1,v271.1,s1.2.2.2)))))):Option (Int×Int×List (Int×GI)×Int×(List GA)×(List GH))).bind λv15=>((((some ():Option Unit).bind λv279=>(if (decide ((5:Int) < (1:Int)))=true then some (([]:List GH),v15.2.2.2.2.2) else ((slc v15.2.2.2.2.2 (0:Int) (if ((v15.2.2.2.2.2).length:Int) < (5:Int) then ((v15.2.2.2.2.2).length:Int) else (5:Int))).bind λm282=>((slc v15.2.2.2.2.2 (if ((v15.2.2.2.2.2).length:Int) < (5:Int) then ((v15.2.2.2.2.2).length:Int) else (5:Int)) ((v15.2.2.2.2.2).length:Int)).bind λm283=>((yr m283).bind λv284=>some (m282,v284)))))):Option ((List GH)×(List GH))).bind λv272=>(wA (((((((v2.1==(1:Int))&&(v2.2.1==(0:Int)))&&(v15.1==(1:Int)))&&(v15.2.1==(0:Int)))&&(((v272.1).length:Int)==(1:Int)))==true)=true->0<=(0:Int)/\(0:Int) < ((v272.1).length:Int)) (some ((((((v2.1==(1:Int))&&(v2.2.1==(0:Int)))&&(v15.1==(1:Int)))&&(v15.2.1==(0:Int)))&&(((v272.1).length:Int)==(1:Int)))&&(((v272.1).getD (0:Int).toNat default).edit.is.n==(5:Int)))))))))
def y4:Nat->(t0:(List GA))->(deep1:Int)->Option Int
 | 0,_,_=>none
 | n+1,t0,deep1=>(lp (wU (λ(s1:Int×Int)=>((if ((decide (s1.2 < ((t0).length:Int)))&&(decide (deep1 < (10:Int))))=true then ((vm t0 s1.2).bind λy68=>((vm t0 s1.2).bind λy70=>((y4 n y70.subs (IntKind.wrap .i64 (deep1+(1:Int)))).bind λv71=>(lp (wU (λ(s2:Int×Int)=>(((vm t0 s1.2).bind λy102=>(if (decide (s2.2 < ((y102.leaves).length:Int)))=true then ((vm t0 s1.2).bind λy105=>((vm y105.leaves s2.2).bind λy106=>(lp (zy (λ(n3:Nat) (x3:GJ) (s3:Int)=>(some (.nxt (IntKind.wrap .i64 ((IntKind.wrap .i64 (s3+(1:Int)))+((x3.text).length:Int)))):Option (Out _ Int))) y106.items 0 (IntKind.wrap .i64 ((IntKind.wrap .i64 ((IntKind.wrap .i64 (s2.1+(1:Int)))+((y106.text).length:Int)))+((y106.tombs).length:Int)))) λ(s3:Int)=>some (.nxt (s3,(IntKind.wrap .i64 (s2.2+(1:Int)))))))) else some (.brk (s2.1,s2.2)))):Option (Out _ (Int×Int)))) ((IntKind.wrap .i64 ((IntKind.wrap .i64 ((IntKind.wrap .i64 (s1.1+(1:Int)))+((y68.name).length:Int)))+v71)),(0:Int))) λ(s2:Int×Int)=>some (.nxt (s2.1,(IntKind.wrap .i64 (s1.2+(1:Int))))))))) else some (.brk (s1.1,s1.2))):Option (Out _ (Int×Int)))) ((0:Int),(0:Int))) λ(s1:Int×Int)=>some s1.1)
def ref07Xsize (t0:(List GA)) (deep1:Int):Option Int:=anyN λn=>y4 n t0 deep1
def qa (t0:(List GA)):Option Bool :=
 ((ref07Xsize t0 (0:Int)).bind λv1=>some (decide (v1 > (1500:Int))))
def x6 (there0:Bool) (l1:GE) (kind2:Int):Option Bool :=
 (if (!there0)=true then ((y6 l1 zP).bind λv2=>some v2) else ((if ((l1.typ==kind2)==true)=true then leafMay l1 else some default).bind λv3=>some ((l1.typ==kind2)&&v3)))
def qA (l0:(List GC)):Option Bool :=
 (lp (zy (λ(n1:Nat) (x1:GC) (s1:Unit)=>(((if ((x1.had&&x1.has)==true)=true then y6 x1.was x1.is else some default).bind λv13=>((qc x1.path).bind λv14=>((if (((((!v14) || (!((decide (x1.typ >= (1:Int)))&&(decide (x1.typ<=(4:Int)))))) || ((!x1.had)&&(!x1.has))) || ((x1.had&&x1.has)&&v13))==false)=true then x6 x1.had x1.was x1.typ else some default).bind λv15=>((if ((((((!v14) || (!((decide (x1.typ >= (1:Int)))&&(decide (x1.typ<=(4:Int)))))) || ((!x1.had)&&(!x1.has))) || ((x1.had&&x1.has)&&v13)) || (!v15))==false)=true then x6 x1.has x1.is x1.typ else some default).bind λv16=>(if ((((((!v14) || (!((decide (x1.typ >= (1:Int)))&&(decide (x1.typ<=(4:Int)))))) || ((!x1.had)&&(!x1.has))) || ((x1.had&&x1.has)&&v13)) || (!v15)) || (!v16))=true then some (.ret false) else (wA (((decide ((n1:Int) > (0:Int)))==true)=true->0<=(IntKind.wrap .i64 ((n1:Int) - (1:Int)))/\(IntKind.wrap .i64 ((n1:Int) - (1:Int))) < ((l0).length:Int)) (((if ((decide ((n1:Int) > (0:Int)))==true)=true then wH ((l0).getD (IntKind.wrap .i64 ((n1:Int) - (1:Int))).toNat default) x1 else some default).bind λv19=>(if ((decide ((n1:Int) > (0:Int)))&&(decide (v19 >= (0:Int))))=true then some (.ret false) else some (.nxt ())))))))))):Option (Out _ Unit))) l0 0 ()) λ(s1:Unit)=>some true)
def diffChain (l0:(List GC)) (m1:(List GC)):Option ((List GC)×Int) :=
 ((qA l0).bind λv1=>((if ((!v1)==false)=true then qA m1 else some default).bind λv2=>(if ((!v1) || (!v2))=true then some (([]:List GC),(2:Int)) else (lp (zy (λ(n1:Nat) (x1:GC) (s1:List (zj×GC))=>(((xQ x1.path x1.typ).bind λv10=>some (.nxt (yn (λa b=>a==b) s1 v10 x1))):Option (Out _ (List (zj×GC))))) l0 0 ([]:List (zj×GC))) λ(s1:List (zj×GC))=>(lp (zy (λ(n2:Nat) (x2:GC) (s2:List (zj×GC))=>(((xQ x2.path x2.typ).bind λv20=>(if (xX (λa b=>a==b) s2 v20)=true then ((if ((!((zo (λa b=>a==b) (GC.mk ([]:List zj) (0:Int) false false zP zP) s2 v20).has==x2.had))==false)=true then y6 ((zo (λa b=>a==b) (GC.mk ([]:List zj) (0:Int) false false zP zP) s2 v20).is) x2.was else some default).bind λv22=>(if ((!((zo (λa b=>a==b) (GC.mk ([]:List zj) (0:Int) false false zP zP) s2 v20).has==x2.had)) || (!v22))=true then some (.ret (([]:List GC),(16:Int))) else some (.nxt (yn (λa b=>a==b) s2 v20 (GC.mk x2.path x2.typ ((zo (λa b=>a==b) (GC.mk ([]:List zj) (0:Int) false false zP zP) s2 v20).had) x2.has ((zo (λa b=>a==b) (GC.mk ([]:List zj) (0:Int) false false zP zP) s2 v20).was) x2.is))))) else some (.nxt (yn (λa b=>a==b) s2 v20 x2)))):Option (Out _ (List (zj×GC))))) m1 0 s1) λ(s2:List (zj×GC))=>((wb s2).bind λv24=>some (v24,(0:Int))))))))
def diffXlayC2 (x0:GE) (c0:Int):Option Bool :=
 some (x0.typ==c0)
def wl (s0:(List GE)):Option (List GE) :=
 (nilq s0 λb1=>(if b1=true then some ([]:List GE) else (wA ((([]:List GE)).length+(s0).length<=xO) (some (([]:List GE)++s0)))))
/-- slices.SortFunc[[]varve/api.Leaf,varve/api.Leaf]: sortO -/
def slicesSortFuncLeafX:Unit:=()
def qm (x0:GE) (y1:GE):Option Int :=
 ((xh x0.typ y1.typ).bind λv1=>some v1)
def xk (s0:(List GA)):Option (List GA) :=
 (nilq s0 λb1=>(if b1=true then some ([]:List GA) else (wA ((([]:List GA)).length+(s0).length<=xO) (some (([]:List GA)++s0)))))
def zD (x0:(List GA)) (target1:zj) (cmp2:(GA->zj->Option Int)):Option (Int×Bool) :=
 (lp (wU (λ(sL1:Int×Int)=>((if (decide (sL1.1 < sL1.2))=true then ((vm x0 (IntKind.wrap .i64 ((Int.fdiv (IntKind.wrap .u64 ((IntKind.wrap .i64 (sL1.1+sL1.2)))) (2 ^ (min (1:Int).toNat (IntKind.bits .u64))))))).bind λy9=>((cmp2 y9 target1).bind λv10=>(if (decide (v10 < (0:Int)))=true then some (.nxt ((IntKind.wrap .i64 ((IntKind.wrap .i64 ((Int.fdiv (IntKind.wrap .u64 ((IntKind.wrap .i64 (sL1.1+sL1.2)))) (2 ^ (min (1:Int).toNat (IntKind.bits .u64))))))+(1:Int))),sL1.2)) else some (.nxt (sL1.1,(IntKind.wrap .i64 ((Int.fdiv (IntKind.wrap .u64 ((IntKind.wrap .i64 (sL1.1+sL1.2)))) (2 ^ (min (1:Int).toNat (IntKind.bits .u64))))))))))) else some (.brk (sL1.1,sL1.2))):Option (Out _ (Int×Int)))) ((0:Int),((x0).length:Int))) λ(sL1:Int×Int)=>(wA (((decide (sL1.1 < ((x0).length:Int)))==true)=true->0<=sL1.1/\sL1.1 < ((x0).length:Int)) (((if ((decide (sL1.1 < ((x0).length:Int)))==true)=true then cmp2 ((x0).getD sL1.1.toNat default) target1 else some default).bind λv13=>some (sL1.1,((decide (sL1.1 < ((x0).length:Int)))&&(v13==(0:Int))))))))
/-- strings.Compare -/
def stringsCompare (p0:zj) (p1:zj):Option Int:=some (Go.Lib.compareBytes p0 p1)
def wI (n0:GA) (name1:zj):Option Int :=
 ((stringsCompare n0.name name1).bind λv1=>some v1)
def z2 (s0:(List GE)) (f1:(GE->Option Bool)):Option Int :=
 (lp (zy (λ(n1:Nat) (x1:GE) (s1:Unit)=>(((f1 x1).bind λv7=>(if v7=true then some (.ret (n1:Int)) else some (.nxt ()))):Option (Out _ Unit))) s0 0 ()) λ(s1:Unit)=>some (-1:Int))
def yM (s0:(List GE)) (del1:(GE->Option Bool)):Option (List GE) :=
 ((z2 s0 del1).bind λv1=>(if (v1==(-1:Int))=true then some s0 else (lp (wU (λ(s1:Int×Int×(List GE))=>((wA ((s1.2.2).length=s0.length) ((if (decide (s1.2.1 < ((s0.length:Nat):Int)))=true then ((vm s1.2.2 s1.2.1).bind λy14=>((del1 y14).bind λv15=>(if (!v15)=true then ((vm s1.2.2 s1.1).bind λy17=>some (.nxt ((IntKind.wrap .i64 (s1.1+(1:Int))),(IntKind.wrap .i64 (s1.2.1+(1:Int))),(s1.2.2.set s1.1.toNat y14)))) else some (.nxt (s1.1,(IntKind.wrap .i64 (s1.2.1+(1:Int))),s1.2.2))))) else some (.brk (s1.1,s1.2.1,s1.2.2))))):Option (Out _ (Int×Int×(List GE))))) (v1,(IntKind.wrap .i64 (v1+(1:Int))),s0)) λ(s1:Int×Int×(List GE))=>(wA (0<=s1.1/\s1.1<=((s0.length:Nat):Int)) (((slc (s1.2.2.take s1.1.toNat++List.replicate (s0.length - s1.1.toNat) zP) (0:Int) s1.1).bind λm19=>some m19))))))
def wS:Nat->(t0:(List GA))->(path1:(List zj))->(kind2:Int)->(l3:GE)->(there4:Bool)->Option (List GA)
 | 0,_,_,_,_,_=>none
 | n+1,t0,path1,kind2,l3,there4=>((vm path1 (0:Int)).bind λy1=>((zD t0 y1 (λx0 x1=>wI x0 x1)).bind λv2=>((vm path1 (0:Int)).bind λy3=>(lp ((if v2.2=true then ((vm t0 v2.1).bind λy7=>some (.inr (y7.name,y7.leaves,y7.subs))) else some (.inr (y3,([]:List GE),([]:List GA)))):Option (_ ⊕ (zj×(List GE)×(List GA)))) λ(s1:zj×(List GE)×(List GA))=>(lp ((if (decide (((path1).length:Int) > (1:Int)))=true then ((slc path1 (1:Int) ((path1).length:Int)).bind λm20=>((wS n s1.2.2 m20 kind2 l3 there4).bind λv21=>some (.inr (s1.2.1,v21)))) else ((wl s1.2.1).bind λv22=>((yM v22 (λx0=>diffXlayC2 x0 kind2)).bind λv23=>(if there4=true then ((qJ l3).bind λv25=>(wA ((v23).length+(([v25]:List GE)).length<=xO) (((sortO (λx y=>qm x y) (v23++([v25]:List GE))).bind λv27=>some (.inr (v27,s1.2.2)))))) else some (.inr (v23,s1.2.2)))))):Option (_ ⊕ ((List GE)×(List GA)))) λ(s2:(List GE)×(List GA))=>((slc t0 (0:Int) v2.1).bind λm28=>((xk m28).bind λv29=>(if (decide ((IntKind.wrap .i64 (((s2.1).length:Int)+((s2.2).length:Int))) > (0:Int)))=true then (wA ((v29).length+(([(GA.mk s1.1 s2.1 s2.2)]:List GA)).length<=xO) ((if v2.2=true then ((slc t0 (IntKind.wrap .i64 (v2.1+(1:Int))) ((t0).length:Int)).bind λm35=>(wA (((v29++([(GA.mk s1.1 s2.1 s2.2)]:List GA))).length+(m35).length<=xO) (some ((v29++([(GA.mk s1.1 s2.1 s2.2)]:List GA))++m35)))) else ((slc t0 v2.1 ((t0).length:Int)).bind λm37=>(wA (((v29++([(GA.mk s1.1 s2.1 s2.2)]:List GA))).length+(m37).length<=xO) (some ((v29++([(GA.mk s1.1 s2.1 s2.2)]:List GA))++m37))))))) else (if v2.2=true then ((slc t0 (IntKind.wrap .i64 (v2.1+(1:Int))) ((t0).length:Int)).bind λm40=>(wA ((v29).length+(m40).length<=xO) (some (v29++m40)))) else ((slc t0 v2.1 ((t0).length:Int)).bind λm42=>(wA ((v29).length+(m42).length<=xO) (some (v29++m42)))))))))))))
def diffXlay (t0:(List GA)) (path1:(List zj)) (kind2:Int) (l3:GE) (there4:Bool):Option (List GA):=anyN λn=>wS n t0 path1 kind2 l3 there4
def xb (s0:(List GA)) (f1:(GA->Option Bool)):Option Int :=
 (lp (zy (λ(n1:Nat) (x1:GA) (s1:Unit)=>(((f1 x1).bind λv7=>(if v7=true then some (.ret (n1:Int)) else some (.nxt ()))):Option (Out _ Unit))) s0 0 ()) λ(s1:Unit)=>some (-1:Int))
def qt (n0:GA) (c0:zj):Option Bool :=
 some (n0.name==c0)
def vu (t0:(List GA)) (name1:zj):Option (GA×Bool) :=
 ((xb t0 (λx0=>qt x0 name1)).bind λv1=>(if (decide (v1 < (0:Int)))=true then some ((GA.mk ([]:zj) ([]:List GE) ([]:List GA)),false) else ((vm t0 v1).bind λy3=>some (y3,true))))
def treeLeafC1 (l0:GE) (c0:Int):Option Bool :=
 some (l0.typ==c0)
def qx (kind0:Int):Option GE :=
 (if ((decide (kind0 < (1:Int))) || (decide (kind0 > (4:Int))))=true then some zP else some (GE.mk kind0 (0:Int) (0:Int) (GF.mk (GL.mk (0:Int) (0:Int)) (0:Int)) ([]:zj) ([]:List GJ) ([]:List GF)))
def treeLeaf (t0:(List GA)) (path1:(List zj)) (kind2:Int):Option (GE×Bool) :=
 (lp ((lp (zy (λ(n2:Nat) (x2:zj) (s2:(List GA)×Bool×zj×(List GE)×(List GA))=>(((vu s2.1 x2).bind λv47=>(if (!v47.2)=true then some (.brk (s2.1,v47.2,v47.1.name,v47.1.leaves,v47.1.subs)) else some (.nxt (v47.1.subs,v47.2,v47.1.name,v47.1.leaves,v47.1.subs)))):Option (Out _ ((List GA)×Bool×zj×(List GE)×(List GA))))) path1 0 (t0,(decide (((path1).length:Int) > (0:Int))),([]:zj),([]:List GE),([]:List GA))) λ(s2:(List GA)×Bool×zj×(List GE)×(List GA))=>some (.inr (s2.2.1,s2.2.2.1,s2.2.2.2.1,s2.2.2.2.2))):Option (_ ⊕ (Bool×zj×(List GE)×(List GA)))) λ(s1:Bool×zj×(List GE)×(List GA))=>((z2 s1.2.2.1 (λx0=>treeLeafC1 x0 kind2)).bind λv49=>((if (((!s1.1) || (decide (v49 < (0:Int))))==false)=true then qx kind2 else some default).bind λv50=>(if (((!s1.1) || (decide (v49 < (0:Int)))) || (v50.typ==(0:Int)))=true then ((qx kind2).bind λv52=>some (v52,false)) else ((vm s1.2.2.1 v49).bind λy53=>((yS y53.items).bind λv54=>((yY y53.tombs).bind λv55=>some ((GE.mk y53.typ y53.n y53.time y53.dot y53.text v54 v55),true))))))))
def qn (t0:(List GA)) (l1:(List GC)):Option ((List GA)×Int) :=
 ((vg t0).bind λv1=>((if ((!v1)==false)=true then qA l1 else some default).bind λv2=>(if ((!v1) || (!v2))=true then some (([]:List GA),(2:Int)) else ((xr t0 ([([42,42]:zj)]:List zj)).bind λv4=>(lp (zy (λ(n1:Nat) (x1:GC) (s1:(List GA))=>(((treeLeaf t0 x1.path x1.typ).bind λv14=>((if (((!(v14.2==x1.had))==false)&&(v14.2==true))=true then y6 v14.1 x1.was else some default).bind λv15=>(if ((!(v14.2==x1.had)) || (v14.2&&(!v15)))=true then some (.ret (([]:List GA),(16:Int))) else ((diffXlay s1 x1.path x1.typ x1.is x1.has).bind λv17=>some (.nxt v17))))):Option (Out _ (List GA)))) l1 0 v4.1) λ(s1:(List GA))=>some (s1,(0:Int)))))))
def ref05Same (a0:GE) (b1:GE):Option Bool :=
 (if (((((((a0.typ != b1.typ) || (a0.n != b1.n)) || (a0.time != b1.time)) || (!(a0.dot.actor.rep==b1.dot.actor.rep&&(a0.dot.actor.inc==b1.dot.actor.inc&&(a0.dot.seq==b1.dot.seq&&true))))) || (!(a0.text==b1.text))) || (((a0.items).length:Int) != ((b1.items).length:Int))) || (((a0.tombs).length:Int) != ((b1.tombs).length:Int)))=true then some false else (lp (zy (λ(n1:Nat) (x1:GJ) (s1:Unit)=>(((vm b1.items (n1:Int)).bind λy32=>(if (!(x1.time==y32.time&&(x1.dot.actor.rep==y32.dot.actor.rep&&(x1.dot.actor.inc==y32.dot.actor.inc&&(x1.dot.seq==y32.dot.seq&&(x1.text==y32.text&&true))))))=true then some (.ret false) else some (.nxt ()))):Option (Out _ Unit))) a0.items 0 ()) λ(s1:Unit)=>(lp (zy (λ(n2:Nat) (x2:GF) (s2:Unit)=>(((vm b1.tombs (n2:Int)).bind λy60=>(if (!(x2.actor.rep==y60.actor.rep&&(x2.actor.inc==y60.actor.inc&&(x2.seq==y60.seq&&true))))=true then some (.ret false) else some (.nxt ()))):Option (Out _ Unit))) a0.tombs 0 ()) λ(s2:Unit)=>some true)))
def vl:Nat->(a0:(List GA))->(b1:(List GA))->Option Bool
 | 0,_,_=>none
 | n+1,a0,b1=>(if (((a0).length:Int) != ((b1).length:Int))=true then some false else (lp (zy (λ(n1:Nat) (x1:GA) (s1:Unit)=>(((vm b1 (n1:Int)).bind λy41=>(wA (((!(x1.name==y41.name))==false)=true->0<=(n1:Int)/\(n1:Int) < ((a0).length:Int)) ((wA (((!(x1.name==y41.name))==false)=true->0<=(n1:Int)/\(n1:Int) < ((b1).length:Int)) ((wA ((((!(x1.name==y41.name)) || (((((a0).getD (n1:Int).toNat default).leaves).length:Int) != ((((b1).getD (n1:Int).toNat default).leaves).length:Int)))==false)=true->0<=(n1:Int)/\(n1:Int) < ((a0).length:Int)) ((wA ((((!(x1.name==y41.name)) || (((((a0).getD (n1:Int).toNat default).leaves).length:Int) != ((((b1).getD (n1:Int).toNat default).leaves).length:Int)))==false)=true->0<=(n1:Int)/\(n1:Int) < ((b1).length:Int)) (((if (((!(x1.name==y41.name)) || (((((a0).getD (n1:Int).toNat default).leaves).length:Int) != ((((b1).getD (n1:Int).toNat default).leaves).length:Int)))==false)=true then vl n (((a0).getD (n1:Int).toNat default).subs) (((b1).getD (n1:Int).toNat default).subs) else some default).bind λv48=>(if (((!(x1.name==y41.name)) || (((((a0).getD (n1:Int).toNat default).leaves).length:Int) != ((((b1).getD (n1:Int).toNat default).leaves).length:Int))) || (!v48))=true then some (.ret false) else (lp (zy (λ(n2:Nat) (x2:GE) (s2:Unit)=>(((vm b1 (n1:Int)).bind λy60=>((vm y60.leaves (n2:Int)).bind λy61=>((ref05Same x2 y61).bind λv62=>(if (!v62)=true then some (.ret (.ret false)) else some (.nxt ()))))):Option (Out _ Unit))) x1.leaves 0 ()) λ(s2:Unit)=>some (.nxt ()))))))))))))):Option (Out _ Unit))) a0 0 ()) λ(s1:Unit)=>some true))
def ref07Same (a0:(List GA)) (b1:(List GA)):Option Bool:=anyN λn=>vl n a0 b1
def wn (l0:(List (List GA))) (most1:(List UInt8)):Option Bool :=
 ((some ([]:List (Int×GI)):Option (List (Int×GI))).bind λv1=>((((some ():Option Unit).bind λv9=>((yG ([([42,42]:zj)]:List zj)).bind λv10=>(if (!v10)=true then some ((0:Int),(2:Int),v1,(0:Int)) else (if (decide (((v1).length:Int) >= (32:Int)))=true then some ((0:Int),(10:Int),v1,(0:Int)) else ((z7 ([([42,42]:zj)]:List zj)).bind λv14=>some ((IntKind.wrap .i64 ((0:Int)+(1:Int))),(0:Int),(yn (λa b=>a==b) v1 (IntKind.wrap .i64 ((0:Int)+(1:Int))) (GI.mk v14 (0:Int))),(IntKind.wrap .i64 ((0:Int)+(1:Int))))))))):Option (Int×Int×List (Int×GI)×Int)).bind λv2=>(if ((decide (((l0).length:Int) > (12:Int))) || (v2.2.1 != (0:Int)))=true then ((if ((v2.2.1==(0:Int))==true)=true then xP else some default).bind λv17=>some ((v2.2.1==(0:Int))&&v17)) else (lp (zy (λ(n1:Nat) (x1:(List GA)) (s1:(List GH)×(List GA)×List (Int×GI)×Int×(List GA)×(List GH))=>(((qa x1).bind λv326=>(if v326=true then ((xP).bind λv328=>some (.ret v328)) else ((((some ():Option Unit).bind λv459=>((vd s1.2.2.2.2.1 x1).bind λv460=>(if (v460.2 != (0:Int))=true then some ((0:Int),v460.2,s1.2.2.1,s1.2.2.2.1,s1.2.2.2.2.1,s1.2.2.2.2.2) else (lp (zy (λ(n2:Nat) (x2:GC) (s2:Int×List (Int×GI)×Int×(List GH))=>(((keysSrt s2.2.1).bind λv530=>(lp (zy (λ(n3:Nat) (x3:Int) (s3:Int×List (Int×GI)×Int×(List GH))=>(((yV ((zo (λa b=>a==b) (GI.mk ([]:List zj) (0:Int)) s3.2.1 x3).p) x2.path).bind λv574=>((if (v574==true)=true then (if (decide (((s3.2.2.2).length:Int) >= (256:Int)))=true then some (false,(yn (λa b=>a==b) s3.2.1 x3 (GI.mk ((zo (λa b=>a==b) (GI.mk ([]:List zj) (0:Int)) s3.2.1 x3).p) (IntKind.wrap .u64 ((zo (λa b=>a==b) (GI.mk ([]:List zj) (0:Int)) s3.2.1 x3).missed+(1:Int))))),s3.2.2.1,s3.2.2.2) else ((wc x2).bind λv582=>(wA ((s3.2.2.2).length+(([(GH.mk x3 (IntKind.wrap .u64 (s3.2.2.1+(1:Int))) v582)]:List GH)).length<=xO) (some (true,s3.2.1,(IntKind.wrap .u64 (s3.2.2.1+(1:Int))),(s3.2.2.2++([(GH.mk x3 (IntKind.wrap .u64 (s3.2.2.1+(1:Int))) v582)]:List GH))))))) else some (default,s3.2.1,s3.2.2.1,s3.2.2.2):Option (Bool×List (Int×GI)×Int×(List GH))).bind λv575=>(if (v574&&v575.1)=true then some (.nxt ((IntKind.wrap .i64 (s3.1+(1:Int))),v575.2.1,v575.2.2.1,v575.2.2.2)) else some (.nxt (s3.1,v575.2.1,v575.2.2.1,v575.2.2.2))))):Option (Out _ (Int×List (Int×GI)×Int×(List GH))))) v530 0 (s2.1,s2.2.1,s2.2.2.1,s2.2.2.2)) λ(s3:Int×List (Int×GI)×Int×(List GH))=>some (.nxt (s3.1,s3.2.1,s3.2.2.1,s3.2.2.2)))):Option (Out _ (Int×List (Int×GI)×Int×(List GH))))) v460.1 0 ((0:Int),s1.2.2.1,s1.2.2.2.1,s1.2.2.2.2.2)) λ(s2:Int×List (Int×GI)×Int×(List GH))=>((xr x1 ([([42,42]:zj)]:List zj)).bind λv585=>some (s2.1,(0:Int),s2.2.1,s2.2.2.1,v585.1,s2.2.2.2)))))):Option (Int×Int×List (Int×GI)×Int×(List GA)×(List GH))).bind λv329=>(if (v329.2.1==(0:Int))=true then (if (decide ((n1:Int) < ((most1).length:Int)))=true then ((vm most1 (n1:Int)).bind λy589=>((((some ():Option Unit).bind λv597=>(if (decide ((IntKind.wrap .i64 ((y589.toNat:Int))) < (1:Int)))=true then some (([]:List GH),v329.2.2.2.2.2) else ((slc v329.2.2.2.2.2 (0:Int) (if ((v329.2.2.2.2.2).length:Int) < (IntKind.wrap .i64 ((y589.toNat:Int))) then ((v329.2.2.2.2.2).length:Int) else (IntKind.wrap .i64 ((y589.toNat:Int))))).bind λm600=>((slc v329.2.2.2.2.2 (if ((v329.2.2.2.2.2).length:Int) < (IntKind.wrap .i64 ((y589.toNat:Int))) then ((v329.2.2.2.2.2).length:Int) else (IntKind.wrap .i64 ((y589.toNat:Int)))) ((v329.2.2.2.2.2).length:Int)).bind λm601=>((yr m601).bind λv602=>some (m600,v602)))))):Option ((List GH)×(List GH))).bind λv590=>(wA ((s1.1).length+(v590.1).length<=xO) (some (.nxt ((s1.1++v590.1),x1,v329.2.2.1,v329.2.2.2.1,v329.2.2.2.2.1,v590.2)))))) else some (.nxt (s1.1,x1,v329.2.2.1,v329.2.2.2.1,v329.2.2.2.2.1,v329.2.2.2.2.2))) else (if (decide ((n1:Int) < ((most1).length:Int)))=true then ((vm most1 (n1:Int)).bind λy606=>((((some ():Option Unit).bind λv614=>(if (decide ((IntKind.wrap .i64 ((y606.toNat:Int))) < (1:Int)))=true then some (([]:List GH),v329.2.2.2.2.2) else ((slc v329.2.2.2.2.2 (0:Int) (if ((v329.2.2.2.2.2).length:Int) < (IntKind.wrap .i64 ((y606.toNat:Int))) then ((v329.2.2.2.2.2).length:Int) else (IntKind.wrap .i64 ((y606.toNat:Int))))).bind λm617=>((slc v329.2.2.2.2.2 (if ((v329.2.2.2.2.2).length:Int) < (IntKind.wrap .i64 ((y606.toNat:Int))) then ((v329.2.2.2.2.2).length:Int) else (IntKind.wrap .i64 ((y606.toNat:Int)))) ((v329.2.2.2.2.2).length:Int)).bind λm618=>((yr m618).bind λv619=>some (m617,v619)))))):Option ((List GH)×(List GH))).bind λv607=>(wA ((s1.1).length+(v607.1).length<=xO) (some (.nxt ((s1.1++v607.1),s1.2.1,v329.2.2.1,v329.2.2.2.1,v329.2.2.2.2.1,v607.2)))))) else some (.nxt (s1.1,s1.2.1,v329.2.2.1,v329.2.2.2.1,v329.2.2.2.2.1,v329.2.2.2.2.2))))))):Option (Out _ ((List GH)×(List GA)×List (Int×GI)×Int×(List GA)×(List GH))))) l0 0 (([]:List GH),([]:List GA),v2.2.2.1,(0:Int),([]:List GA),([]:List GH))) λ(s1:(List GH)×(List GA)×List (Int×GI)×Int×(List GA)×(List GH))=>((((some ():Option Unit).bind λv628=>(if (decide ((1000:Int) < (1:Int)))=true then some (([]:List GH),s1.2.2.2.2.2) else ((slc s1.2.2.2.2.2 (0:Int) (if ((s1.2.2.2.2.2).length:Int) < (1000:Int) then ((s1.2.2.2.2.2).length:Int) else (1000:Int))).bind λm631=>((slc s1.2.2.2.2.2 (if ((s1.2.2.2.2.2).length:Int) < (1000:Int) then ((s1.2.2.2.2.2).length:Int) else (1000:Int)) ((s1.2.2.2.2.2).length:Int)).bind λm632=>((yr m632).bind λv633=>some (m631,v633)))))):Option ((List GH)×(List GH))).bind λv621=>(wA ((s1.1).length+(v621.1).length<=xO) (((((some ():Option Unit).bind λv638=>(if (!(xX (λa b=>a==b) s1.2.2.1 v2.1))=true then some ((0:Int),(7:Int),s1.2.2.1) else some ((zo (λa b=>a==b) (GI.mk ([]:List zj) (0:Int)) s1.2.2.1 v2.1).missed,(0:Int),(yn (λa b=>a==b) s1.2.2.1 v2.1 (GI.mk ((zo (λa b=>a==b) (GI.mk ([]:List zj) (0:Int)) s1.2.2.1 v2.1).p) (0:Int)))))):Option (Int×Int×List (Int×GI))).bind λv635=>(if ((v635.2.1 != (0:Int)) || (decide (v635.1 > (0:Int))))=true then ((if ((v635.2.1==(0:Int))==true)=true then xP else some default).bind λv641=>some ((v635.2.1==(0:Int))&&v641)) else (lp (zy (λ(n2:Nat) (x2:GH) (s2:(List GC))=>((if ((x2.watch != v2.1) || (x2.num != (IntKind.wrap .u64 ((IntKind.wrap .i64 ((n2:Int)+(1:Int)))))))=true then some (.ret false) else ((diffChain s2 ([x2.edit]:List GC)).bind λv656=>(if (v656.2 != (0:Int))=true then some (.ret false) else some (.nxt v656.1)))):Option (Out _ (List GC)))) (s1.1++v621.1) 0 ([]:List GC)) λ(s2:(List GC))=>((qn ([]:List GA) s2).bind λv658=>((if ((v658.2==(0:Int))==true)=true then ref07Same v658.1 s1.2.1 else some default).bind λv659=>((if (((v658.2==(0:Int))&&v659)==true)=true then ((some ():Option Unit).bind λv663=>some ((v621.2).length:Int)) else some default:Option Int).bind λv660=>((if ((((v658.2==(0:Int))&&v659)&&(v660==(0:Int)))==true)=true then xP else some default).bind λv665=>some ((((v658.2==(0:Int))&&v659)&&(v660==(0:Int)))&&v665)))))))))))))))
end
end Go.Vv
