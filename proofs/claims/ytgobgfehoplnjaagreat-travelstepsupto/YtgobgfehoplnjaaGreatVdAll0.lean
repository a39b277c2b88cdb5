/- What the functions compute, as plain functions; printed by a program from the code. -/
import Derived.Test.YtgobgfehoplnjaaGreatVvU
import Derived.Test.YtgobgfehoplnjaaGreatVvMr
import Derived.Test.YtgobgfehoplnjaaGreatVvSh
import Derived.Test.YtgobgfehoplnjaaGreatVvSo
import Derived.Test.YtgobgfehoplnjaaGreatVvSs
set_option linter.all false
namespace Go.Vv
noncomputable section
open Go
structure GH where
 fj:Int
 inc:Int
 deriving DecidableEq,Inhabited
def GH.fi (a b:GH):Bool:=(a.fj==b.fj&&(a.inc==b.inc&&true))
structure GA where
 zi:GH
 seq:Int
 deriving DecidableEq,Inhabited
def GA.fi (a b:GA):Bool:=(a.zi.fj==b.zi.fj&&(a.zi.inc==b.zi.inc&&(a.seq==b.seq&&true)))
structure GM where
 kind:Int
 path:(List zq)
 n:Int
 text:zq
 gX:(List GA)
 deriving DecidableEq,Inhabited
structure GJ where
 z6:GA
 time:Int
 op:GM
 deriving DecidableEq,Inhabited
structure GI where
 z6:GA
 z8:(List GA)
 vV:(List GA)
 time:Int
 op:GM
 deriving DecidableEq,Inhabited
structure GP where
 leaf:Int
 may:Nat
 deriving DecidableEq,Inhabited
structure GF where
 time:Int
 z6:GA
 text:zq
 deriving DecidableEq,Inhabited
def GF.fi (a b:GF):Bool:=(a.time==b.time&&(a.z6.zi.fj==b.z6.zi.fj&&(a.z6.zi.inc==b.z6.zi.inc&&(a.z6.seq==b.z6.seq&&(a.text==b.text&&true)))))
structure GE where
 w7:Int
 n:Int
 time:Int
 z6:GA
 text:zq
 y4:(List GF)
 x4:(List GA)
 deriving DecidableEq,Inhabited
structure GC where
 name:zq
 leaves:(List GE)
 w5:(List GC)
 deriving Inhabited
structure GL where
 num:Int
 f:(List GA)
 g9:(List GA)
 time:Int
 tree:(List GC)
 deriving Inhabited
structure GO where
 base:GL
 ff:(List (GA×GI))
 vv:(List GA)
 deriving Inhabited
structure GR where
 b:GL
 l:(List GI)
 deriving Inhabited
structure GK where
 e:GJ
 bX:Int
 deriving DecidableEq,Inhabited
def GH.wf (x:GH):Prop:=(dy .u8 x.fj)/\(dy .u32 x.inc)
def GA.wf (x:GA):Prop:=(GH.wf x.zi)/\(dy .u64 x.seq)
def GM.wf (x:GM):Prop:=(dy .u8 x.kind)/\(x.path.length<=maxLen/\∀y ∈ x.path,y.length<=maxLen)/\(dy .i64 x.n)/\(x.text.length<=maxLen)/\(x.gX.length<=maxLen/\∀y ∈ x.gX,GA.wf y)
def GJ.wf (x:GJ):Prop:=(GA.wf x.z6)/\(dy .u64 x.time)/\(GM.wf x.op)
def GI.wf (x:GI):Prop:=(GA.wf x.z6)/\(x.z8.length<=maxLen/\∀y ∈ x.z8,GA.wf y)/\(x.vV.length<=maxLen/\∀y ∈ x.vV,GA.wf y)/\(dy .u64 x.time)/\(GM.wf x.op)
def GF.wf (x:GF):Prop:=(dy .u64 x.time)/\(GA.wf x.z6)/\(x.text.length<=maxLen)
def GE.wf (x:GE):Prop:=(dy .u8 x.w7)/\(dy .i64 x.n)/\(dy .u64 x.time)/\(GA.wf x.z6)/\(x.text.length<=maxLen)/\(x.y4.length<=maxLen/\∀y ∈ x.y4,GF.wf y)/\(x.x4.length<=maxLen/\∀y ∈ x.x4,GA.wf y)
mutual
def GC.wf:GC->Prop
 | ⟨name,leaves,w5⟩=>(name.length<=maxLen)/\(leaves.length<=maxLen/\∀y ∈ leaves,GE.wf y)/\(GC.ce w5)
def GC.ce:List GC->Prop
 | []=>True
 | x::r=>x.wf/\GC.ce r
end
theorem GC.eH (l:List GC):GC.ce l ↔ ∀y ∈ l,GC.wf y:=by
 induction l with
 | nil=>simp [GC.ce]
 | cons x r ih=>simp [GC.ce,ih]
def GL.wf (x:GL):Prop:=(dy .u64 x.num)/\(x.f.length<=maxLen/\∀y ∈ x.f,GA.wf y)/\(x.g9.length<=maxLen/\∀y ∈ x.g9,GA.wf y)/\(dy .u64 x.time)/\(x.tree.length<=maxLen/\∀y ∈ x.tree,GC.wf y)
def GR.wf (x:GR):Prop:=(GL.wf x.b)/\(x.l.length<=maxLen/\∀y ∈ x.l,GI.wf y)
def GK.wf (x:GK):Prop:=(GJ.wf x.e)/\(dy .i64 x.bX)
def GH.bk (x:GH):Nat:=(1+(1+0))+1
def GA.bk (x:GA):Nat:=(GH.bk x.zi+(1+0))+1
def GM.bk (x:GM):Nat:=(1+(((x.path.map (λs=>s.length+1)).sum+1)+(1+((x.text.length+1)+(((x.gX.map GA.bk).sum+1)+0)))))+1
def GJ.bk (x:GJ):Nat:=(GA.bk x.z6+(1+(GM.bk x.op+0)))+1
def GI.bk (x:GI):Nat:=(GA.bk x.z6+(((x.z8.map GA.bk).sum+1)+(((x.vV.map GA.bk).sum+1)+(1+(GM.bk x.op+0)))))+1
def GF.bk (x:GF):Nat:=(1+(GA.bk x.z6+((x.text.length+1)+0)))+1
def GE.bk (x:GE):Nat:=(1+(1+(1+(GA.bk x.z6+((x.text.length+1)+(((x.y4.map GF.bk).sum+1)+(((x.x4.map GA.bk).sum+1)+0)))))))+1
mutual
def GC.bk:GC->Nat
 | ⟨name,leaves,w5⟩=>((name.length+1)+(((leaves.map GE.bk).sum+1)+(((GC.eV w5)+1)+0)))+1
def GC.eV:List GC->Nat
 | []=>0
 | x::r=>x.bk+GC.eV r
end
theorem GC.dQ (l:List GC):GC.eV l=(l.map GC.bk).sum:=by
 induction l with
 | nil=>rfl
 | cons x r ih=>simp only [GC.eV,ld,jO,ih]
def GL.bk (x:GL):Nat:=(1+(((x.f.map GA.bk).sum+1)+(((x.g9.map GA.bk).sum+1)+(1+(((x.tree.map GC.bk).sum+1)+0)))))+1
def GR.bk (x:GR):Nat:=(GL.bk x.b+(((x.l.map GI.bk).sum+1)+0))+1
def GK.bk (x:GK):Nat:=(GJ.bk x.e+(1+0))+1
abbrev bL:GE:=GE.mk (0:Int) (0:Int) (0:Int) (GA.mk (GH.mk (0:Int) (0:Int)) (0:Int)) ([]:zq) ([]:List GF) ([]:List GA)
def ri (cc0:GI):Option GJ :=
 some (GJ.mk cc0.z6 cc0.time cc0.op)
def mX (a0:GH):Option Bool :=
 some (((decide (a0.fj < 16))&&(decide (a0.inc >= 1)))&&(decide (a0.inc<=4)))
def pB (d0:GA):Option Bool :=
 ((mX d0.zi).bind λv1=>some ((v1&&(decide (d0.seq >= 1)))&&(decide (d0.seq<=1048576))))
def xn (vv0:(List GA)):Option (List (GH×Int)) :=
 (lp (zf (λ(n1:Nat) (x1:GA) (s1:List (GH×Int))=>(((pB x1).bind λv8=>(if v8 then some (.gV (wx GH.fi s1 x1.zi (if x1.seq > (zG GH.fi 0 s1 x1.zi) then x1.seq else (zG GH.fi 0 s1 x1.zi)))) else some (.gV s1))):Option (Out _ (List (GH×Int))))) vv0 0 ([]:List (GH×Int))) λ(s1:List (GH×Int))=>some s1)
def rj (vals0:(List Int)):Option Int :=
 (lp (zf (λ(n1:Nat) (x1:Int) (s1:Unit)=>((if (x1 != 0) then some (.ret x1) else some (.gV ())):Option (Out _ Unit))) vals0 0 ()) λ(s1:Unit)=>some 0)
def qU (xx0:Int):Option Bool :=
 some (xx0 != xx0)
def wr (xx0:Int) (yy1:Int):Option Int :=
 ((qU xx0).bind λv1=>((qU yy1).bind λv2=>(if v1 then (if v2 then some 0 else some (-1)) else (if v2 then some 1 else (if (decide (xx0 < yy1)) then some (-1) else (if (decide (xx0 > yy1)) then some 1 else some 0))))))
def qp (xx0:Int):Option Bool :=
 some (xx0 != xx0)
def vQ (xx0:Int) (yy1:Int):Option Int :=
 ((qp xx0).bind λv1=>((qp yy1).bind λv2=>(if v1 then (if v2 then some 0 else some (-1)) else (if v2 then some 1 else (if (decide (xx0 < yy1)) then some (-1) else (if (decide (xx0 > yy1)) then some 1 else some 0))))))
def qT (a0:GH) (b1:GH):Option Int :=
 ((wr a0.fj b1.fj).bind λv1=>((vQ a0.inc b1.inc).bind λv2=>((rj ([v1,v2]:List Int)).bind λv3=>some v3)))
def mo (ss0:(List GH)) (seq1:(S:Type)->(S->GH->Option (Bool×S))->S->Option S):Option (List GH) :=
 (rng (seq1 _ (am (λ(s1:(List GH)) (x1:GH)=>((zQ ((s1).length+(([x1]:List GH)).length<=lim) (some (true,((s1++([x1]:List GH)),none)))):Option (Bool×((List GH)×Option Nat))))) (ss0,none)) (λ(s1:(List GH))=>some s1) (λ_ _=>none))
def zij (seq0:(S:Type)->(S->GH->Option (Bool×S))->S->Option S):Option (List GH) :=
 ((mo ([]:List GH) seq0).bind λv1=>some v1)
/-- slices.SortFunc[[]varve/api.Actor,varve/api.Actor]: qA -/
def zgT:Unit:=()
def qd (mm0:List (GH×Int)):Option (List GA) :=
 (((zQ ((mm0).length<=lim) (c4 mm0 (λ(p8:List (GH×Int))=>((qA (λx y=>qT x y) (p8.map (λx=>x.1))).bind λv10=>some v10)))):Option (List GH)).bind λv2=>(zQ ((((v2).length:Nat):Int)<=9223372036854775807) (lp (zf (λ(n1:Nat) (x1:Nat) (s1:(List GA))=>(((zS v2 (n1:Int)).bind λy19=>(if (decide ((zG GH.fi 0 mm0 y19) > 0)) then (zQ ((s1).length+(([(GA.mk y19 (zG GH.fi 0 mm0 y19))]:List GA)).length<=lim) (some (.gV (s1++([(GA.mk y19 (zG GH.fi 0 mm0 y19))]:List GA))))) else some (.gV s1))):Option (Out _ (List GA)))) (List.range (((((v2).length:Nat):Int)).toNat)) 0 ([]:List GA)) λ(s1:(List GA))=>some s1)))
def rg (vv0:(List GA)):Option (List GA) :=
 ((xn vv0).bind λv1=>((qd v1).bind λv2=>some v2))
def zdW (vv0:(List GA)) (a1:GH):Option Int :=
 ((xn vv0).bind λv1=>some (zG GH.fi 0 v1 a1))
def xB (s10:(List GA)) (s21:(List GA)):Option Bool :=
 (if (((s10).length:Int) != ((s21).length:Int)) then some false else (lp (zf (λ(n1:Nat) (x1:GA) (s1:Unit)=>(((zS s21 (n1:Int)).bind λy10=>(if (!(x1.zi.fj==y10.zi.fj&&(x1.zi.inc==y10.zi.inc&&(x1.seq==y10.seq&&true)))) then some (.ret false) else some (.gV ()))):Option (Out _ Unit))) s10 0 ()) λ(s1:Unit)=>some true))
def qn (xx0:Int):Option Bool :=
 some (xx0 != xx0)
def x6 (xx0:Int) (yy1:Int):Option Int :=
 ((qn xx0).bind λv1=>((qn yy1).bind λv2=>(if v1 then (if v2 then some 0 else some (-1)) else (if v2 then some 1 else (if (decide (xx0 < yy1)) then some (-1) else (if (decide (xx0 > yy1)) then some 1 else some 0))))))
def xN (a0:GA) (b1:GA):Option Int :=
 ((qT a0.zi b1.zi).bind λv1=>((x6 a0.seq b1.seq).bind λv2=>((rj ([v1,v2]:List Int)).bind λv3=>some v3)))
def mE (oo0:GM):Option Bool :=
 (if (((oo0.n != 0) || (decide (((oo0.text).length:Int) > 40))) || (decide (((oo0.gX).length:Int) > 64))) then some false else (lp (zf (λ(n1:Nat) (x1:GA) (s1:Unit)=>(((pB x1).bind λv17=>(zQ ((((!v17)==false)&&((decide ((n1:Int) > 0))==true))=true->0<=(IntKind.wrap .i64 ((n1:Int) - 1))/\(IntKind.wrap .i64 ((n1:Int) - 1)) < ((oo0.gX).length:Int)) (((if (((!v17)==false)&&((decide ((n1:Int) > 0))==true)) then xN ((oo0.gX).getD (IntKind.wrap .i64 ((n1:Int) - 1)).toNat default) x1 else some default).bind λv19=>(if ((!v17) || ((decide ((n1:Int) > 0))&&(decide (v19 >= 0)))) then some (.ret false) else some (.gV ())))))):Option (Out _ Unit))) oo0.gX 0 ()) λ(s1:Unit)=>some true))
def zeK (oo0:GM):Option Bool :=
 some ((((decide (oo0.n >= (-1000000)))&&(decide (oo0.n<=1000000)))&&(oo0.text==([]:zq)))&&(((oo0.gX).length:Int)==0))
def zbC (oo0:GM):Option Bool :=
 some (((oo0.n==0)&&(decide (((oo0.text).length:Int)<=40)))&&(((oo0.gX).length:Int)==0))
def zjT (k0:Int):Option (GP×Bool) :=
 (if ((decide (k0 < 1)) || (decide (k0 > 5))) then some ((GP.mk 0 0),false) else ((zS ([(GP.mk 0 0),(GP.mk 1 1),(GP.mk 2 2),(GP.mk 3 2),(GP.mk 3 3),(GP.mk 4 2)]:List GP) k0).bind λy2=>some (y2,true)))
def wQ (ss0:(List zq)) (f1:(zq->Option Bool)):Option Int :=
 (lp (zf (λ(n1:Nat) (x1:zq) (s1:Unit)=>(((f1 x1).bind λv7=>(if v7 then some (.ret (n1:Int)) else some (.gV ()))):Option (Out _ Unit))) ss0 0 ()) λ(s1:Unit)=>some (-1))
def xr (ss0:(List zq)) (f1:(zq->Option Bool)):Option Bool :=
 ((wQ ss0 f1).bind λv1=>some (decide (v1 >= 0)))
def qz (ss0:zq) (f1:(Int->Option Bool)) (truth2:Bool):Option Int :=
 (lp (zY (λ(s1:Nat)=>((if s1 < (ss0).length then ((f1 ((dec ss0 s1).1:Int)).bind λv6=>(if (v6==truth2) then some (.ret (s1:Int)) else some (.gV (s1+(dec ss0 s1).2)))) else some (.brk s1)):Option (Out _ Nat))) 0) λ(s1:Nat)=>some (-1))
def qY (ss0:zq) (f1:(Int->Option Bool)):Option Int :=
 ((qz ss0 f1 true).bind λv1=>some v1)
def wu (ss0:zq) (f1:(Int->Option Bool)):Option Bool :=
 ((qY ss0 f1).bind λv1=>some (decide (v1 >= 0)))
def sn (rr0:Int):Option Bool :=
 some ((((decide (rr0 < 97)) || (decide (rr0 > 122)))&&((decide (rr0 < 65)) || (decide (rr0 > 90))))&&((decide (rr0 < 48)) || (decide (rr0 > 57))))
def oF (ss0:zq):Option Bool :=
 ((if (((decide (((ss0).length:Int) >= 1))&&(decide (((ss0).length:Int)<=12)))==true) then wu ss0 (λx0=>sn x0) else some default).bind λv3=>some (((decide (((ss0).length:Int) >= 1))&&(decide (((ss0).length:Int)<=12)))&&(!v3)))
def pL (ss0:zq):Option Bool :=
 ((oF ss0).bind λv1=>some (!v1))
def oE (pp0:(List zq)):Option Bool :=
 ((if (((decide (((pp0).length:Int) >= 1))&&(decide (((pp0).length:Int)<=3)))==true) then xr pp0 (λx0=>pL x0) else some default).bind λv3=>some (((decide (((pp0).length:Int) >= 1))&&(decide (((pp0).length:Int)<=3)))&&(!v3)))
def zd5 (c:Nat) (x0:GM):Option Bool:=match c with
 | 1=>zeK x0
 | 2=>zbC x0
 | 3=>mE x0
 | _=>none
def zll (oo0:GM):Option Bool :=
 ((zjT oo0.kind).bind λv1=>((if (v1.2==true) then oE oo0.path else some default).bind λv2=>((if ((v1.2&&v2)==true) then zd5 v1.1.may oo0 else some default).bind λv3=>some ((v1.2&&v2)&&v3))))
def qO (e0:GJ):Option Bool :=
 ((pB e0.z6).bind λv1=>((if (((v1&&(decide (e0.time >= 1)))&&(decide (e0.time<=1099511627776)))==true) then zll e0.op else some default).bind λv2=>some (((v1&&(decide (e0.time >= 1)))&&(decide (e0.time<=1099511627776)))&&v2)))
def tQ (vv0:(List GA)) (d1:GA):Option Bool :=
 ((pB d1).bind λv1=>((if (v1==true) then zdW vv0 d1.zi else some default).bind λv2=>some (v1&&(decide (d1.seq<=v2)))))
def qw (l0:(List GA)) (cc1:GI):Option Bool :=
 (lp (zf (λ(n1:Nat) (x1:GA) (s1:Unit)=>((zQ (((decide ((n1:Int) > 0))==true)=true->0<=(IntKind.wrap .i64 ((n1:Int) - 1))/\(IntKind.wrap .i64 ((n1:Int) - 1)) < ((l0).length:Int)) (((if ((decide ((n1:Int) > 0))==true) then xN ((l0).getD (IntKind.wrap .i64 ((n1:Int) - 1)).toNat default) x1 else some default).bind λv21=>((if ((((decide ((n1:Int) > 0))&&(decide (v21 >= 0))) || (x1.zi.fj==cc1.z6.zi.fj&&(x1.zi.inc==cc1.z6.zi.inc&&(x1.seq==cc1.z6.seq&&true))))==false) then tQ cc1.vV x1 else some default).bind λv22=>(if ((((decide ((n1:Int) > 0))&&(decide (v21 >= 0))) || (x1.zi.fj==cc1.z6.zi.fj&&(x1.zi.inc==cc1.z6.zi.inc&&(x1.seq==cc1.z6.seq&&true)))) || (!v22)) then some (.ret false) else some (.gV ())))))):Option (Out _ Unit))) l0 0 ()) λ(s1:Unit)=>some true)
def tj (cc0:GI):Option Bool :=
 ((ri cc0).bind λv1=>((qO v1).bind λv2=>((if (v2==true) then rg cc0.vV else some default).bind λv3=>((if (v2==true) then xB v3 cc0.vV else some default).bind λv4=>((if ((v2&&v4)==true) then zdW cc0.vV cc0.z6.zi else some default).bind λv5=>((if ((((v2&&v4)&&(v5==cc0.z6.seq))&&(decide (((cc0.z8).length:Int)<=64)))==true) then qw cc0.z8 cc0 else some default).bind λv7=>((if (((((v2&&v4)&&(v5==cc0.z6.seq))&&(decide (((cc0.z8).length:Int)<=64)))&&v7)==true) then qw cc0.op.gX cc0 else some default).bind λv8=>some (((((v2&&v4)&&(v5==cc0.z6.seq))&&(decide (((cc0.z8).length:Int)<=64)))&&v7)&&v8))))))))
def ya (g0:GO):Option Bool :=
 some false
def wE (g0:GO) (d1:GA):Option Bool :=
 ((ya g0).bind λv1=>(if v1 then some false else ((if ((vP GA.fi g0.ff d1)==false) then tQ g0.base.f d1 else some default).bind λv3=>some ((vP GA.fi g0.ff d1) || v3))))
def wN (a0:List (GH×Int)) (b1:List (GH×Int)) (of2:(Int->Int->Option Int)):Option (List (GH×Int)) :=
 (c4 a0 λp1=>lp (zf (λ(_:Nat) (x1:(GH×Int)) (s1:List (GH×Int))=>(((of2 x1.2 (zG GH.fi 0 b1 x1.1)).bind λv4=>some (.gV (wx GH.fi s1 x1.1 v4))):Option (Out _ (List (GH×Int))))) p1 0 ([]:List (GH×Int))) λ(s1:List (GH×Int))=>(c4 b1 λp2=>lp (zf (λ(_:Nat) (x2:(GH×Int)) (s2:List (GH×Int))=>(((of2 (zG GH.fi 0 a0 x2.1) x2.2).bind λv8=>some (.gV (wx GH.fi s2 x2.1 v8))):Option (Out _ (List (GH×Int))))) p2 0 s1) λ(s2:List (GH×Int))=>some (nrm s2)))
def zas (xx0:Int) (yy1:Int):Option Int :=
 some (if yy1 > xx0 then yy1 else xx0)
def qC (a0:(List GA)) (b1:(List GA)):Option (List GA) :=
 ((xn a0).bind λv1=>((xn b1).bind λv2=>((wN v1 v2 (λx0 x1=>zas x0 x1)).bind λv3=>c4 v3 (λ(p4:List (GH×Int))=>((qd p4).bind λv5=>some v5)))))
def zar (xx0:Int) (yy1:Int):Option Int :=
 some (if yy1 < xx0 then yy1 else xx0)
def zcL (a0:(List GA)) (b1:(List GA)):Option (List GA) :=
 ((xn a0).bind λv1=>((xn b1).bind λv2=>((wN v1 v2 (λx0 x1=>zar x0 x1)).bind λv3=>c4 v3 (λ(p4:List (GH×Int))=>((qd p4).bind λv5=>some v5)))))
def xY (g0:GO) (cc1:GI):Option (List GA) :=
 ((zcL cc1.vV g0.base.f).bind λv1=>(zQ ((([cc1.z6]:List GA)).length+(cc1.z8).length<=lim) (((qC v1 (([cc1.z6]:List GA)++cc1.z8)).bind λv3=>(lp (zf (λ(n1:Nat) (x1:GA) (s1:(List GA))=>(((qC s1 ((zG GA.fi (GI.mk (GA.mk (GH.mk 0 0) 0) ([]:List GA) ([]:List GA) 0 (GM.mk 0 ([]:List zq) 0 ([]:zq) ([]:List GA))) g0.ff x1).vV)).bind λv21=>some (.gV v21)):Option (Out _ (List GA)))) cc1.z8 0 v3) λ(s1:(List GA))=>some s1)))))
def yh (d0:GA) (c0:GO):Option Bool :=
 ((wE c0 d0).bind λv1=>some (!v1))
def vW (ss0:(List GA)) (f1:(GA->Option Bool)):Option Int :=
 (lp (zf (λ(n1:Nat) (x1:GA) (s1:Unit)=>(((f1 x1).bind λv7=>(if v7 then some (.ret (n1:Int)) else some (.gV ()))):Option (Out _ Unit))) ss0 0 ()) λ(s1:Unit)=>some (-1))
def yg (ss0:(List GA)) (f1:(GA->Option Bool)):Option Bool :=
 ((vW ss0 f1).bind λv1=>some (decide (v1 >= 0)))
def wj (a0:(List GA)) (b1:(List GA)):Option Bool :=
 ((xn b1).bind λv1=>((xn a0).bind λv2=>(c4 v2 λp1=>lp (zf (λ(_:Nat) (x1:(GH×Int)) (s1:Unit)=>((if (decide (x1.2 > (zG GH.fi 0 v1 x1.1))) then some (.ret false) else some (.gV ())):Option (Out _ Unit))) p1 0 ()) λ(s1:Unit)=>some true)))
def vk (qq0:GA) (c0:GA) (c1:GI):Option Bool :=
 ((if ((!(qq0.zi.fj==c0.zi.fj&&(qq0.zi.inc==c0.zi.inc&&(qq0.seq==c0.seq&&true))))==true) then tQ c1.vV qq0 else some default).bind λv1=>some ((!(qq0.zi.fj==c0.zi.fj&&(qq0.zi.inc==c0.zi.inc&&(qq0.seq==c0.seq&&true))))&&v1))
def xz (g0:GO) (cc1:GI) (ahead2:GA):Option Bool :=
 ((if ((cc1.z6.seq==1)==false) then tQ g0.base.f ahead2 else some default).bind λv1=>(lp (zf (λ(n1:Nat) (x1:GA) (s1:Bool)=>((if (!(vP GA.fi g0.ff x1)) then some (.gV s1) else ((if (s1==false) then tQ ((zG GA.fi (GI.mk (GA.mk (GH.mk 0 0) 0) ([]:List GA) ([]:List GA) 0 (GM.mk 0 ([]:List zq) 0 ([]:zq) ([]:List GA))) g0.ff x1).vV) ahead2 else some default).bind λv26=>((yg cc1.z8 (λx0=>vk x0 x1 (zG GA.fi (GI.mk (GA.mk (GH.mk 0 0) 0) ([]:List GA) ([]:List GA) 0 (GM.mk 0 ([]:List zq) 0 ([]:zq) ([]:List GA))) g0.ff x1))).bind λv27=>(if (v27 || (decide ((zG GA.fi (GI.mk (GA.mk (GH.mk 0 0) 0) ([]:List GA) ([]:List GA) 0 (GM.mk 0 ([]:List zq) 0 ([]:zq) ([]:List GA))) g0.ff x1).time >= cc1.time))) then some (.ret false) else some (.gV (s1 || v26)))))):Option (Out _ Bool))) cc1.z8 0 ((cc1.z6.seq==1) || v1)) λ(s1:Bool)=>some s1))
def vd (ss0:(List zq)):Option (List zq) :=
 (bF ss0 λb1=>(if b1 then some ([]:List zq) else (zQ ((([]:List zq)).length+(ss0).length<=lim) (some (([]:List zq)++ss0)))))
def yk (ss0:(List GA)):Option (List GA) :=
 (bF ss0 λb1=>(if b1 then some ([]:List GA) else (zQ ((([]:List GA)).length+(ss0).length<=lim) (some (([]:List GA)++ss0)))))
def yD (ss0:(List GA)):Option (List GA) :=
 (bF ss0 λb1=>(if b1 then some ([]:List GA) else (zQ ((([]:List GA)).length+(ss0).length<=lim) (some (([]:List GA)++ss0)))))
def tc (cc0:GI):Option GI :=
 ((yk cc0.z8).bind λv1=>((yD cc0.vV).bind λv2=>((vd cc0.op.path).bind λv3=>((yk cc0.op.gX).bind λv4=>some (GI.mk cc0.z6 v1 v2 cc0.time (GM.mk cc0.op.kind v3 cc0.op.n cc0.op.text v4))))))
def ux (a0:GH):Option Bool :=
 some (((decide (a0.fj<=15))&&(decide (a0.inc >= 1)))&&(decide (a0.inc<=4)))
def vg (d0:GA):Option Bool :=
 ((ux d0.zi).bind λv1=>some ((v1&&(decide (d0.seq >= 1)))&&(decide (d0.seq<=1048576))))
def uS (ss0:zq):Option Bool :=
 (if ((decide (((ss0).length:Int) < 1)) || (decide (((ss0).length:Int) > 12))) then some false else (lp (zf (λ(n1:Nat) (x1:UInt8) (s1:Unit)=>((if (!((((decide ((x1.toNat:Int) >= 97))&&(decide ((x1.toNat:Int)<=122))) || ((decide ((x1.toNat:Int) >= 65))&&(decide ((x1.toNat:Int)<=90)))) || ((decide ((x1.toNat:Int) >= 48))&&(decide ((x1.toNat:Int)<=57))))) then some (.ret false) else some (.gV ())):Option (Out _ Unit))) ss0 0 ()) λ(s1:Unit)=>some true))
def rC (pp0:(List zq)):Option Bool :=
 (lp (zf (λ(n1:Nat) (x1:zq) (s1:Unit)=>(((uS x1).bind λv9=>(if (!v9) then some (.ret false) else some (.gV ()))):Option (Out _ Unit))) pp0 0 ()) λ(s1:Unit)=>some ((decide (((pp0).length:Int) >= 1))&&(decide (((pp0).length:Int)<=3))))
def sj (kind0:Int):Option Int :=
 (if (kind0==1) then some 1 else (if (kind0==2) then some 2 else (if (kind0==3) then (if (kind0==3) then some 3 else (if (kind0==5) then some 4 else some 0)) else (if (kind0==4) then some 3 else (if (kind0==5) then some 4 else some 0)))))
def wg (a0:GA) (b1:GA):Option Bool :=
 (if (a0.zi.fj != b1.zi.fj) then some (decide (a0.zi.fj < b1.zi.fj)) else (if (a0.zi.inc != b1.zi.inc) then some (decide (a0.zi.inc < b1.zi.inc)) else some (decide (a0.seq < b1.seq))))
def my (oo0:GM):Option Bool :=
 ((sj oo0.kind).bind λv1=>((if ((v1==0)==false) then rC oo0.path else some default).bind λv2=>(if ((((v1==0) || (!v2)) || (decide (((oo0.text).length:Int) > 40))) || (decide (((oo0.gX).length:Int) > 64))) then some false else (if (oo0.kind==1) then some ((((decide (oo0.n >= (-1000000)))&&(decide (oo0.n<=1000000)))&&(oo0.text==([]:zq)))&&(((oo0.gX).length:Int)==0)) else (if ((oo0.n != 0) || ((oo0.kind != 4)&&(decide (((oo0.gX).length:Int) > 0)))) then some false else (lp (zf (λ(n1:Nat) (x1:GA) (s1:Unit)=>(((vg x1).bind λv26=>(zQ ((((!v26)==false)&&((decide ((n1:Int) > 0))==true))=true->0<=(IntKind.wrap .i64 ((n1:Int) - 1))/\(IntKind.wrap .i64 ((n1:Int) - 1)) < ((oo0.gX).length:Int)) ((zQ ((((!v26)==false)&&((decide ((n1:Int) > 0))==true))=true->0<=(n1:Int)/\(n1:Int) < ((oo0.gX).length:Int)) (((if (((!v26)==false)&&((decide ((n1:Int) > 0))==true)) then wg ((oo0.gX).getD (IntKind.wrap .i64 ((n1:Int) - 1)).toNat default) ((oo0.gX).getD (n1:Int).toNat default) else some default).bind λv29=>(if ((!v26) || ((decide ((n1:Int) > 0))&&(!v29))) then some (.ret false) else some (.gV ())))))))):Option (Out _ Unit))) oo0.gX 0 ()) λ(s1:Unit)=>some true))))))
def vu (e0:GJ):Option Bool :=
 ((vg e0.z6).bind λv1=>((if (((v1&&(decide (e0.time >= 1)))&&(decide (e0.time<=1099511627776)))==true) then my e0.op else some default).bind λv2=>some (((v1&&(decide (e0.time >= 1)))&&(decide (e0.time<=1099511627776)))&&v2)))
def uy (vv0:(List GA)) (a1:GH):Option Int :=
 (lp (zf (λ(n1:Nat) (x1:GA) (s1:Int)=>(((vg x1).bind λv15=>(zQ ((v15==true)=true->0<=(n1:Int)/\(n1:Int) < ((vv0).length:Int)) ((zQ (((v15&&(((vv0).getD (n1:Int).toNat default).zi.fj==a1.fj&&(((vv0).getD (n1:Int).toNat default).zi.inc==a1.inc&&true)))==true)=true->0<=(n1:Int)/\(n1:Int) < ((vv0).length:Int)) ((if ((v15&&(((vv0).getD (n1:Int).toNat default).zi.fj==a1.fj&&(((vv0).getD (n1:Int).toNat default).zi.inc==a1.inc&&true)))&&(decide (((vv0).getD (n1:Int).toNat default).seq > s1))) then some (.gV x1.seq) else some (.gV s1))))))):Option (Out _ Int))) vv0 0 0) λ(s1:Int)=>some s1)
def qN (vv0:(List GA)) (d1:GA):Option Bool :=
 ((vg d1).bind λv1=>((if (v1==true) then uy vv0 d1.zi else some default).bind λv2=>some (v1&&(decide (d1.seq<=v2)))))
def ua (l0:(List GA)) (own1:GA) (vv2:(List GA)):Option Bool :=
 (lp (zf (λ(n1:Nat) (x1:GA) (s1:Unit)=>((zQ (((decide ((n1:Int) > 0))==true)=true->0<=(IntKind.wrap .i64 ((n1:Int) - 1))/\(IntKind.wrap .i64 ((n1:Int) - 1)) < ((l0).length:Int)) ((zQ (((decide ((n1:Int) > 0))==true)=true->0<=(n1:Int)/\(n1:Int) < ((l0).length:Int)) (((if ((decide ((n1:Int) > 0))==true) then wg ((l0).getD (IntKind.wrap .i64 ((n1:Int) - 1)).toNat default) ((l0).getD (n1:Int).toNat default) else some default).bind λv19=>(if ((decide ((n1:Int) > 0))&&(!v19)) then some (.ret false) else (zQ (((x1.zi.fj==own1.zi.fj&&(x1.zi.inc==own1.zi.inc&&(x1.seq==own1.seq&&true)))==false)=true->0<=(n1:Int)/\(n1:Int) < ((l0).length:Int)) (((if ((x1.zi.fj==own1.zi.fj&&(x1.zi.inc==own1.zi.inc&&(x1.seq==own1.seq&&true)))==false) then qN vv2 ((l0).getD (n1:Int).toNat default) else some default).bind λv22=>(if ((x1.zi.fj==own1.zi.fj&&(x1.zi.inc==own1.zi.inc&&(x1.seq==own1.seq&&true))) || (!v22)) then some (.ret false) else some (.gV ()))))))))))):Option (Out _ Unit))) l0 0 ()) λ(s1:Unit)=>some true)
def vz (vv0:(List GA)):Option (List GA) :=
 (lp (zf (λ(n1:Nat) (x1:GA) (s1:(List GA))=>(((vg x1).bind λv39=>(zQ (((!v39)==false)=true->0<=(n1:Int)/\(n1:Int) < ((vv0).length:Int)) ((zQ (((!v39)==false)=true->0<=(n1:Int)/\(n1:Int) < ((vv0).length:Int)) (((if ((!v39)==false) then uy vv0 (((vv0).getD (n1:Int).toNat default).zi) else some default).bind λv42=>(zQ ((((!v39) || (((vv0).getD (n1:Int).toNat default).seq != v42))==false)=true->0<=(n1:Int)/\(n1:Int) < ((vv0).length:Int)) (((if (((!v39) || (((vv0).getD (n1:Int).toNat default).seq != v42))==false) then uy s1 (((vv0).getD (n1:Int).toNat default).zi) else some default).bind λv44=>(if (((!v39) || (((vv0).getD (n1:Int).toNat default).seq != v42)) || (decide (v44 > 0))) then some (.gV s1) else (lp (zY (λ(s2:Int)=>((zQ (((decide (s2 < ((s1).length:Int)))==true)=true->0<=s2/\s2 < ((s1).length:Int)) ((zQ (((decide (s2 < ((s1).length:Int)))==true)=true->0<=(n1:Int)/\(n1:Int) < ((vv0).length:Int)) (((if ((decide (s2 < ((s1).length:Int)))==true) then wg ((s1).getD s2.toNat default) ((vv0).getD (n1:Int).toNat default) else some default).bind λv55=>(if ((decide (s2 < ((s1).length:Int)))&&v55) then some (.gV (IntKind.wrap .i64 (s2+1))) else some (.brk s2))))))):Option (Out _ Int))) 0) λ(s2:Int)=>((fL s1 0 s2).bind λm57=>(zQ ((([]:List GA)).length+(m57).length<=lim) ((zQ (((([]:List GA)++m57)).length+(([x1]:List GA)).length<=lim) (((fL s1 s2 ((s1).length:Int)).bind λm60=>(zQ ((((([]:List GA)++m57)++([x1]:List GA))).length+(m60).length<=lim) (some (.gV (((([]:List GA)++m57)++([x1]:List GA))++m60))))))))))))))))))))):Option (Out _ (List GA)))) vv0 0 ([]:List GA)) λ(s1:(List GA))=>some s1)
def qs (a0:(List GA)) (b1:(List GA)):Option Bool :=
 (if (((a0).length:Int) != ((b1).length:Int)) then some false else (lp (zf (λ(n1:Nat) (x1:GA) (s1:Unit)=>(((zS b1 (n1:Int)).bind λy12=>(if (!(x1.zi.fj==y12.zi.fj&&(x1.zi.inc==y12.zi.inc&&(x1.seq==y12.seq&&true)))) then some (.ret false) else some (.gV ()))):Option (Out _ Unit))) a0 0 ()) λ(s1:Unit)=>some true))
def uH (cc0:GI):Option GJ :=
 some (GJ.mk cc0.z6 cc0.time cc0.op)
def ot (cc0:GI):Option Bool :=
 ((uH cc0).bind λv1=>((vu v1).bind λv2=>((if ((!v2)==false) then vz cc0.vV else some default).bind λv3=>((if ((!v2)==false) then qs v3 cc0.vV else some default).bind λv4=>((if (((!v2) || (!v4))==false) then uy cc0.vV cc0.z6.zi else some default).bind λv5=>(if (((!v2) || (!v4)) || (v5 != cc0.z6.seq)) then some false else ((if ((decide (((cc0.z8).length:Int)<=64))==true) then ua cc0.z8 cc0.z6 cc0.vV else some default).bind λv8=>((if (((decide (((cc0.z8).length:Int)<=64))&&v8)==true) then ua cc0.op.gX cc0.z6 cc0.vV else some default).bind λv9=>some (((decide (((cc0.z8).length:Int)<=64))&&v8)&&v9)))))))))
def xQ (g0:GR) (d1:GA):Option Int :=
 (lp (zf (λ(n1:Nat) (x1:GI) (s1:Unit)=>((if (x1.z6.zi.fj==d1.zi.fj&&(x1.z6.zi.inc==d1.zi.inc&&(x1.z6.seq==d1.seq&&true))) then some (.ret (n1:Int)) else some (.gV ())):Option (Out _ Unit))) g0.l 0 ()) λ(s1:Unit)=>some (-1))
def xb (g0:GR) (d1:GA):Option Bool :=
 ((xQ g0 d1).bind λv1=>((if ((decide (v1 >= 0))==false) then qN g0.b.f d1 else some default).bind λv2=>some ((decide (v1 >= 0)) || v2)))
def uT (a0:(List GA)) (b1:(List GA)):Option Bool :=
 (lp (zf (λ(n1:Nat) (x1:GA) (s1:Unit)=>(((vg x1).bind λv12=>(zQ ((v12==true)=true->0<=(n1:Int)/\(n1:Int) < ((a0).length:Int)) ((zQ ((v12==true)=true->0<=(n1:Int)/\(n1:Int) < ((a0).length:Int)) (((if (v12==true) then uy b1 (((a0).getD (n1:Int).toNat default).zi) else some default).bind λv15=>(if (v12&&(decide (((a0).getD (n1:Int).toNat default).seq > v15))) then some (.ret false) else some (.gV ())))))))):Option (Out _ Unit))) a0 0 ()) λ(s1:Unit)=>some true)
def uU (a0:(List GA)) (b1:(List GA)):Option (List GA) :=
 (zQ ((([]:List GA)).length+(a0).length<=lim) ((zQ (((([]:List GA)++a0)).length+(b1).length<=lim) (((vz ((([]:List GA)++a0)++b1)).bind λv3=>some v3)))))
def rO (a0:(List GA)) (b1:(List GA)):Option (List GA) :=
 ((vz a0).bind λv1=>(lp (zf (λ(n1:Nat) (x1:GA) (s1:(List GA))=>(((uy b1 x1.zi).bind λv17=>(if (decide (v17 > x1.seq)) then (zQ ((s1).length+(([x1]:List GA)).length<=lim) (some (.gV (s1++([x1]:List GA))))) else (zQ ((s1).length+(([(GA.mk x1.zi v17)]:List GA)).length<=lim) (some (.gV (s1++([(GA.mk x1.zi v17)]:List GA))))))):Option (Out _ (List GA)))) v1 0 ([]:List GA)) λ(s1:(List GA))=>((vz s1).bind λv21=>some v21)))
def xA (g0:GR) (cc1:GI):Option (List GA) :=
 ((rO cc1.vV g0.b.f).bind λv1=>((uU v1 ([cc1.z6]:List GA)).bind λv2=>(lp (zf (λ(n1:Nat) (x1:GA) (s1:(List GA))=>(((uU s1 ([x1]:List GA)).bind λv27=>((xQ g0 x1).bind λv28=>(if (decide (v28 >= 0)) then ((zS g0.l v28).bind λy30=>((uU v27 y30.vV).bind λv31=>some (.gV v31))) else some (.gV v27)))):Option (Out _ (List GA)))) cc1.z8 0 v2) λ(s1:(List GA))=>some s1)))
def xP (g0:GR) (cc1:GI) (ahead2:GA):Option Bool :=
 (lp (zf (λ(n1:Nat) (x1:GA) (s1:Unit)=>(((xb g0 x1).bind λv23=>(if (!v23) then some (.ret true) else some (.gV ()))):Option (Out _ Unit))) cc1.z8 0 ()) λ(s1:Unit)=>((if ((decide (cc1.z6.seq > 1))==true) then xb g0 ahead2 else some default).bind λv25=>((if (((decide (cc1.z6.seq > 1))&&(!v25))==false) then xA g0 cc1 else some default).bind λv26=>((if (((decide (cc1.z6.seq > 1))&&(!v25))==false) then uT cc1.vV v26 else some default).bind λv27=>some (((decide (cc1.z6.seq > 1))&&(!v25)) || (!v27))))))
def xp (g0:GR) (cc1:GI) (ahead2:GA):Option Bool :=
 ((if ((cc1.z6.seq==1)==false) then qN g0.b.f ahead2 else some default).bind λv1=>(lp (zf (λ(n1:Nat) (x1:GA) (s1:Bool)=>(((xQ g0 x1).bind λv62=>(if (decide (v62 < 0)) then some (.gV s1) else ((zS g0.l v62).bind λy64=>(if (decide (y64.time >= cc1.time)) then some (.ret true) else (lp (((zS g0.l v62).bind λy69=>((qN y69.vV ahead2).bind λv70=>(if v70 then some (.inr true) else some (.inr s1)))):Option (_ ⊕ Bool)) λ(s2:Bool)=>(lp (zf (λ(n3:Nat) (x3:GA) (s3:Unit)=>((zQ ((((n3:Int) != (n1:Int))==true)=true->0<=v62/\v62 < ((g0.l).length:Int)) ((zQ ((((n3:Int) != (n1:Int))==true)=true->0<=(n3:Int)/\(n3:Int) < ((cc1.z8).length:Int)) (((if (((n3:Int) != (n1:Int))==true) then qN (((g0.l).getD v62.toNat default).vV) ((cc1.z8).getD (n3:Int).toNat default) else some default).bind λv97=>(if (((n3:Int) != (n1:Int))&&v97) then some (.ret (.ret true)) else some (.gV ()))))))):Option (Out _ Unit))) cc1.z8 0 ()) λ(s3:Unit)=>some (.gV s2))))))):Option (Out _ Bool))) cc1.z8 0 ((cc1.z6.seq==1) || v1)) λ(s1:Bool)=>((if ((!s1)==false) then xA g0 cc1 else some default).bind λv99=>((if ((!s1)==false) then uT v99 cc1.vV else some default).bind λv100=>some ((!s1) || (!v100))))))
def xC:Nat->(t0:(List GC))->(deep1:Int)->Option Int
 | 0,_,_=>none
 | n+1,t0,deep1=>(lp (zY (λ(s1:Int×Int)=>((if ((decide (s1.2 < ((t0).length:Int)))&&(decide (deep1 < 10))) then ((zS t0 s1.2).bind λy68=>((zS t0 s1.2).bind λy70=>((xC n y70.w5 (IntKind.wrap .i64 (deep1+1))).bind λv71=>(lp (zY (λ(s2:Int×Int)=>(((zS t0 s1.2).bind λy102=>(if (decide (s2.2 < ((y102.leaves).length:Int))) then ((zS t0 s1.2).bind λy105=>((zS y105.leaves s2.2).bind λy106=>(lp (zf (λ(n3:Nat) (x3:GF) (s3:Int)=>(some (.gV (IntKind.wrap .i64 ((IntKind.wrap .i64 (s3+1))+((x3.text).length:Int)))):Option (Out _ Int))) y106.y4 0 (IntKind.wrap .i64 ((IntKind.wrap .i64 ((IntKind.wrap .i64 (s2.1+1))+((y106.text).length:Int)))+((y106.x4).length:Int)))) λ(s3:Int)=>some (.gV (s3,(IntKind.wrap .i64 (s2.2+1))))))) else some (.brk (s2.1,s2.2)))):Option (Out _ (Int×Int)))) ((IntKind.wrap .i64 ((IntKind.wrap .i64 ((IntKind.wrap .i64 (s1.1+1))+((y68.name).length:Int)))+v71)),0)) λ(s2:Int×Int)=>some (.gV (s2.1,(IntKind.wrap .i64 (s1.2+1)))))))) else some (.brk (s1.1,s1.2))):Option (Out _ (Int×Int)))) (0,0)) λ(s1:Int×Int)=>some s1.1)
def nk (t0:(List GC)) (deep1:Int):Option Int:=ba λn=>xC n t0 deep1
def qK (t0:(List GC)):Option Bool :=
 ((nk t0 0).bind λv1=>some (decide (v1 > 1500)))
def rL (l0:(List GF)) (d1:GA):Option Int :=
 (lp (zf (λ(n1:Nat) (x1:GF) (s1:Unit)=>((if (x1.z6.zi.fj==d1.zi.fj&&(x1.z6.zi.inc==d1.zi.inc&&(x1.z6.seq==d1.seq&&true))) then some (.ret (n1:Int)) else some (.gV ())):Option (Out _ Unit))) l0 0 ()) λ(s1:Unit)=>some (-1))
def qL (time0:Int) (d1:GA) (other2:Int) (oo3:GA):Option Bool :=
 (if (time0 != other2) then some (decide (time0 < other2)) else ((wg d1 oo3).bind λv2=>some v2))
def uf (l0:(List GA)) (d1:GA):Option Bool :=
 (lp (zf (λ(n1:Nat) (x1:GA) (s1:Unit)=>((if (x1.zi.fj==d1.zi.fj&&(x1.zi.inc==d1.zi.inc&&(x1.seq==d1.seq&&true))) then some (.ret true) else some (.gV ())):Option (Out _ Unit))) l0 0 ()) λ(s1:Unit)=>some false)
def ph (l0:GE):Option Bool :=
 (if (((((decide (l0.w7 < 1)) || (decide (l0.w7 > 4))) || ((l0.w7 != 1)&&(l0.n != 0))) || ((decide (l0.w7 < 3))&&(decide (((l0.y4).length:Int) > 0)))) || ((l0.w7 != 3)&&(decide (((l0.x4).length:Int) > 0)))) then some false else (lp ((if ((l0.w7 != 2) || (l0.time==0)) then (if (((l0.time != 0) || (!(l0.z6.zi.fj==0&&(l0.z6.zi.inc==0&&(l0.z6.seq==0&&true))))) || (!(l0.text==([]:zq)))) then some (.inl false) else some (.inr ())) else ((if ((decide (l0.time > 1099511627776))==false) then vg l0.z6 else some default).bind λv11=>(if (((decide (l0.time > 1099511627776)) || (!v11)) || (decide (((l0.text).length:Int) > 40))) then some (.inl false) else some (.inr ())))):Option (_ ⊕ Unit)) λ(s1:Unit)=>(lp (zf (λ(n2:Nat) (x2:GF) (s2:Unit)=>(((vg x2.z6).bind λv41=>((if (((((!v41) || (decide (((x2.text).length:Int) > 40))) || ((l0.w7==3)&&(x2.time != 0))) || ((l0.w7==4)&&((decide (x2.time < 1)) || (decide (x2.time > 1099511627776)))))==false) then rL l0.y4 x2.z6 else some default).bind λv43=>((if ((((((!v41) || (decide (((x2.text).length:Int) > 40))) || ((l0.w7==3)&&(x2.time != 0))) || ((l0.w7==4)&&((decide (x2.time < 1)) || (decide (x2.time > 1099511627776))))) || (v43 != (n2:Int)))==false) then uf l0.x4 x2.z6 else some default).bind λv44=>(if ((((((!v41) || (decide (((x2.text).length:Int) > 40))) || ((l0.w7==3)&&(x2.time != 0))) || ((l0.w7==4)&&((decide (x2.time < 1)) || (decide (x2.time > 1099511627776))))) || (v43 != (n2:Int))) || v44) then some (.ret false) else (zQ (((decide ((n2:Int) > 0))==true)=true->0<=(IntKind.wrap .i64 ((n2:Int) - 1))/\(IntKind.wrap .i64 ((n2:Int) - 1)) < ((l0.y4).length:Int)) ((zQ (((decide ((n2:Int) > 0))==true)=true->0<=(IntKind.wrap .i64 ((n2:Int) - 1))/\(IntKind.wrap .i64 ((n2:Int) - 1)) < ((l0.y4).length:Int)) (((if ((decide ((n2:Int) > 0))==true) then qL (((l0.y4).getD (IntKind.wrap .i64 ((n2:Int) - 1)).toNat default).time) (((l0.y4).getD (IntKind.wrap .i64 ((n2:Int) - 1)).toNat default).z6) x2.time x2.z6 else some default).bind λv48=>(if ((decide ((n2:Int) > 0))&&(!v48)) then some (.ret false) else some (.gV ()))))))))))):Option (Out _ Unit))) l0.y4 0 ()) λ(s2:Unit)=>(lp (zf (λ(n3:Nat) (x3:GA) (s3:Unit)=>(((vg x3).bind λv73=>(zQ ((((!v73)==false)&&((decide ((n3:Int) > 0))==true))=true->0<=(IntKind.wrap .i64 ((n3:Int) - 1))/\(IntKind.wrap .i64 ((n3:Int) - 1)) < ((l0.x4).length:Int)) ((zQ ((((!v73)==false)&&((decide ((n3:Int) > 0))==true))=true->0<=(n3:Int)/\(n3:Int) < ((l0.x4).length:Int)) (((if (((!v73)==false)&&((decide ((n3:Int) > 0))==true)) then wg ((l0.x4).getD (IntKind.wrap .i64 ((n3:Int) - 1)).toNat default) ((l0.x4).getD (n3:Int).toNat default) else some default).bind λv76=>(if ((!v73) || ((decide ((n3:Int) > 0))&&(!v76))) then some (.ret false) else some (.gV ())))))))):Option (Out _ Unit))) l0.x4 0 ()) λ(s3:Unit)=>some true))))
def qJ:Nat->(t0:(List GC))->(deep1:Int)->Option Bool
 | 0,_,_=>none
 | n+1,t0,deep1=>(lp (zf (λ(n1:Nat) (x1:GC) (s1:Unit)=>(((if ((decide (deep1 >= 3))==false) then uS x1.name else some default).bind λv31=>(zQ (((((decide (deep1 >= 3)) || (!v31))==false)&&((decide ((n1:Int) > 0))==true))=true->0<=(IntKind.wrap .i64 ((n1:Int) - 1))/\(IntKind.wrap .i64 ((n1:Int) - 1)) < ((t0).length:Int)) (((if (((((decide (deep1 >= 3)) || (!v31)) || ((decide ((n1:Int) > 0))&&(!(Op.bytesLess (((t0).getD (IntKind.wrap .i64 ((n1:Int) - 1)).toNat default).name) x1.name)))) || ((((x1.leaves).length:Int)==0)&&(((x1.w5).length:Int)==0)))==false) then qJ n x1.w5 (IntKind.wrap .i64 (deep1+1)) else some default).bind λv35=>(if (((((decide (deep1 >= 3)) || (!v31)) || ((decide ((n1:Int) > 0))&&(!(Op.bytesLess (((t0).getD (IntKind.wrap .i64 ((n1:Int) - 1)).toNat default).name) x1.name)))) || ((((x1.leaves).length:Int)==0)&&(((x1.w5).length:Int)==0))) || (!v35)) then some (.ret false) else (lp (zf (λ(n2:Nat) (x2:GE) (s2:Unit)=>(((ph x2).bind λv50=>(zQ ((((!v50)==false)&&((decide ((n2:Int) > 0))==true))=true->0<=(IntKind.wrap .i64 ((n2:Int) - 1))/\(IntKind.wrap .i64 ((n2:Int) - 1)) < ((x1.leaves).length:Int)) ((zQ ((((!v50)==false)&&((decide ((n2:Int) > 0))==true))=true->0<=(n2:Int)/\(n2:Int) < ((x1.leaves).length:Int)) ((if ((!v50) || ((decide ((n2:Int) > 0))&&(decide (((x1.leaves).getD (IntKind.wrap .i64 ((n2:Int) - 1)).toNat default).w7 >= ((x1.leaves).getD (n2:Int).toNat default).w7)))) then some (.ret (.ret false)) else some (.gV ()))))))):Option (Out _ Unit))) x1.leaves 0 ()) λ(s2:Unit)=>some (.gV ()))))))):Option (Out _ Unit))) t0 0 ()) λ(s1:Unit)=>some true)
def zb7 (t0:(List GC)) (deep1:Int):Option Bool:=ba λn=>qJ n t0 deep1
def ou (t0:(List GC)):Option Bool :=
 ((zb7 t0 0).bind λv1=>some v1)
def q9 (b0:GL):Option Bool :=
 ((vz b0.f).bind λv1=>((qs v1 b0.f).bind λv2=>((if ((((!v2) || (decide (((b0.g9).length:Int) > 64))) || (decide (b0.time > 1099511627776)))==false) then ou b0.tree else some default).bind λv4=>(if ((((!v2) || (decide (((b0.g9).length:Int) > 64))) || (decide (b0.time > 1099511627776))) || (!v4)) then some false else (lp (zf (λ(n1:Nat) (x1:GA) (s1:Unit)=>(((qN b0.f x1).bind λv22=>(zQ ((((!v22)==false)&&((decide ((n1:Int) > 0))==true))=true->0<=(IntKind.wrap .i64 ((n1:Int) - 1))/\(IntKind.wrap .i64 ((n1:Int) - 1)) < ((b0.g9).length:Int)) ((zQ ((((!v22)==false)&&((decide ((n1:Int) > 0))==true))=true->0<=(n1:Int)/\(n1:Int) < ((b0.g9).length:Int)) (((if (((!v22)==false)&&((decide ((n1:Int) > 0))==true)) then wg ((b0.g9).getD (IntKind.wrap .i64 ((n1:Int) - 1)).toNat default) ((b0.g9).getD (n1:Int).toNat default) else some default).bind λv25=>(if ((!v22) || ((decide ((n1:Int) > 0))&&(!v25))) then some (.ret false) else some (.gV ())))))))):Option (Out _ Unit))) b0.g9 0 ()) λ(s1:Unit)=>(if (((b0.f).length:Int)==0) then some ((b0.time==0)&&(((b0.g9).length:Int)==0)) else some ((decide (b0.time > 0))&&(decide (((b0.g9).length:Int) > 0)))))))))
def tK (l0:(List GA)):Option Bool :=
 (lp (zY (λ(s1:Int)=>((if (decide (s1 < ((l0).length:Int))) then ((zS l0 (IntKind.wrap .i64 (s1 - 1))).bind λy10=>((zS l0 s1).bind λy11=>((xN y10 y11).bind λv12=>(if (decide (v12 >= 0)) then some (.ret false) else some (.gV (IntKind.wrap .i64 (s1+1))))))) else some (.brk s1)):Option (Out _ Int))) 1) λ(s1:Int)=>some true)
def s9 (nn0:Int):Option Bool :=
 some ((decide (nn0 >= 1))&&(decide (nn0<=1099511627776)))
def uZ (ss0:zq):Option Bool :=
 some (decide (((ss0).length:Int)<=40))
def pn (l0:(List GF)):Option Bool :=
 (lp (zf (λ(n1:Nat) (x1:GF) (s1:List (GA×Int))=>(some (.gV (ut GA.fi s1 x1.z6 (IntKind.wrap .i64 ((zG GA.fi 0 s1 x1.z6)+1)))):Option (Out _ (List (GA×Int))))) l0 0 ([]:List (GA×Int))) λ(s1:List (GA×Int))=>some (decide (((s1).length:Int) < ((l0).length:Int))))
def ug (a0:Int) (d1:GA) (b2:Int) (oo3:GA):Option Int :=
 ((x6 a0 b2).bind λv1=>((xN d1 oo3).bind λv2=>((rj ([v1,v2]:List Int)).bind λv3=>some v3)))
def qt (time0:Int) (d1:GA) (other2:Int) (oo3:GA):Option Bool :=
 ((ug time0 d1 other2 oo3).bind λv1=>some (decide (v1 < 0)))
def su (l0:(List GF)) (timed1:Bool):Option Bool :=
 (lp (zf (λ(n1:Nat) (x1:GF) (s1:Unit)=>(((pB x1.z6).bind λv13=>((if ((!v13)==false) then uZ x1.text else some default).bind λv14=>((if (((!v13) || (!v14))==false) then s9 x1.time else some default).bind λv15=>(if ((((!v13) || (!v14)) || (!(timed1==v15))) || ((!timed1)&&(x1.time != 0))) then some (.ret false) else (zQ (((decide ((n1:Int) > 0))==true)=true->0<=(IntKind.wrap .i64 ((n1:Int) - 1))/\(IntKind.wrap .i64 ((n1:Int) - 1)) < ((l0).length:Int)) ((zQ (((decide ((n1:Int) > 0))==true)=true->0<=(IntKind.wrap .i64 ((n1:Int) - 1))/\(IntKind.wrap .i64 ((n1:Int) - 1)) < ((l0).length:Int)) (((if ((decide ((n1:Int) > 0))==true) then qt (((l0).getD (IntKind.wrap .i64 ((n1:Int) - 1)).toNat default).time) (((l0).getD (IntKind.wrap .i64 ((n1:Int) - 1)).toNat default).z6) x1.time x1.z6 else some default).bind λv19=>(if ((decide ((n1:Int) > 0))&&(!v19)) then some (.ret false) else some (.gV ()))))))))))):Option (Out _ Unit))) l0 0 ()) λ(s1:Unit)=>((pn l0).bind λv21=>some (!v21)))
def nB (xx0:GF) (c0:GA):Option Bool :=
 some (xx0.z6.zi.fj==c0.zi.fj&&(xx0.z6.zi.inc==c0.zi.inc&&(xx0.z6.seq==c0.seq&&true)))
def yw (ss0:(List GF)) (f1:(GF->Option Bool)):Option Int :=
 (lp (zf (λ(n1:Nat) (x1:GF) (s1:Unit)=>(((f1 x1).bind λv7=>(if v7 then some (.ret (n1:Int)) else some (.gV ()))):Option (Out _ Unit))) ss0 0 ()) λ(s1:Unit)=>some (-1))
def xK (ss0:(List GF)) (f1:(GF->Option Bool)):Option Bool :=
 ((yw ss0 f1).bind λv1=>some (decide (v1 >= 0)))
def ra (l0:(List GF)) (d1:GA):Option Bool :=
 ((xK l0 (λx0=>nB x0 d1)).bind λv1=>some v1)
def po (l0:GE):Option Bool :=
 (lp (zf (λ(n1:Nat) (x1:GA) (s1:Unit)=>(((pB x1).bind λv19=>(zQ ((((!v19)==false)&&((decide ((n1:Int) > 0))==true))=true->0<=(IntKind.wrap .i64 ((n1:Int) - 1))/\(IntKind.wrap .i64 ((n1:Int) - 1)) < ((l0.x4).length:Int)) (((if (((!v19)==false)&&((decide ((n1:Int) > 0))==true)) then xN ((l0.x4).getD (IntKind.wrap .i64 ((n1:Int) - 1)).toNat default) x1 else some default).bind λv21=>((if (((!v19) || ((decide ((n1:Int) > 0))&&(decide (v21 >= 0))))==false) then ra l0.y4 x1 else some default).bind λv22=>(if (((!v19) || ((decide ((n1:Int) > 0))&&(decide (v21 >= 0)))) || v22) then some (.ret false) else some (.gV ()))))))):Option (Out _ Unit))) l0.x4 0 ()) λ(s1:Unit)=>some true)
def qi (s10:(List GF)) (s21:(List GF)):Option Bool :=
 (if (((s10).length:Int) != ((s21).length:Int)) then some false else (lp (zf (λ(n1:Nat) (x1:GF) (s1:Unit)=>(((zS s21 (n1:Int)).bind λy10=>(if (!(x1.time==y10.time&&(x1.z6.zi.fj==y10.z6.zi.fj&&(x1.z6.zi.inc==y10.z6.zi.inc&&(x1.z6.seq==y10.z6.seq&&(x1.text==y10.text&&true)))))) then some (.ret false) else some (.gV ()))):Option (Out _ Unit))) s10 0 ()) λ(s1:Unit)=>some true))
def qI (s10:(List GA)) (s21:(List GA)):Option Bool :=
 (if (((s10).length:Int) != ((s21).length:Int)) then some false else (lp (zf (λ(n1:Nat) (x1:GA) (s1:Unit)=>(((zS s21 (n1:Int)).bind λy10=>(if (!(x1.zi.fj==y10.zi.fj&&(x1.zi.inc==y10.zi.inc&&(x1.seq==y10.seq&&true)))) then some (.ret false) else some (.gV ()))):Option (Out _ Unit))) s10 0 ()) λ(s1:Unit)=>some true))
def rb (a0:GE) (b1:GE):Option Bool :=
 ((if ((((((a0.w7==b1.w7)&&(a0.n==b1.n))&&(a0.time==b1.time))&&(a0.z6.zi.fj==b1.z6.zi.fj&&(a0.z6.zi.inc==b1.z6.zi.inc&&(a0.z6.seq==b1.z6.seq&&true))))&&(a0.text==b1.text))==true) then qi a0.y4 b1.y4 else some default).bind λv1=>((if (((((((a0.w7==b1.w7)&&(a0.n==b1.n))&&(a0.time==b1.time))&&(a0.z6.zi.fj==b1.z6.zi.fj&&(a0.z6.zi.inc==b1.z6.zi.inc&&(a0.z6.seq==b1.z6.seq&&true))))&&(a0.text==b1.text))&&v1)==true) then qI a0.x4 b1.x4 else some default).bind λv2=>some (((((((a0.w7==b1.w7)&&(a0.n==b1.n))&&(a0.time==b1.time))&&(a0.z6.zi.fj==b1.z6.zi.fj&&(a0.z6.zi.inc==b1.z6.zi.inc&&(a0.z6.seq==b1.z6.seq&&true))))&&(a0.text==b1.text))&&v1)&&v2)))
def tH (l0:GE):Option Bool :=
 (if (l0.w7==1) then ((rb l0 (GE.mk l0.w7 l0.n 0 (GA.mk (GH.mk 0 0) 0) ([]:zq) ([]:List GF) ([]:List GA))).bind λv2=>some v2) else (if (l0.w7==2) then ((if ((l0.time != 0)==true) then s9 l0.time else some default).bind λv4=>((if (((l0.time != 0)==true)&&(v4==true)) then pB l0.z6 else some default).bind λv5=>((if (((l0.time != 0)==true)&&((v4&&v5)==true)) then uZ l0.text else some default).bind λv6=>(if (((l0.time != 0)&&(!((v4&&v5)&&v6))) || ((l0.time==0)&&((!(l0.z6.zi.fj==0&&(l0.z6.zi.inc==0&&(l0.z6.seq==0&&true)))) || (!(l0.text==([]:zq)))))) then some false else ((rb l0 (GE.mk l0.w7 0 l0.time l0.z6 l0.text ([]:List GF) ([]:List GA))).bind λv8=>some v8))))) else (if (l0.w7==3) then ((su l0.y4 false).bind λv10=>((if ((!v10)==false) then po l0 else some default).bind λv11=>(if ((!v10) || (!v11)) then some false else ((rb l0 (GE.mk l0.w7 0 0 (GA.mk (GH.mk 0 0) 0) ([]:zq) l0.y4 l0.x4)).bind λv13=>some v13)))) else (if (l0.w7==4) then ((su l0.y4 true).bind λv15=>(if (!v15) then some false else ((rb l0 (GE.mk l0.w7 0 0 (GA.mk (GH.mk 0 0) 0) ([]:zq) l0.y4 ([]:List GA))).bind λv17=>some v17))) else some false))))
def uQ:Nat->(t0:(List GC))->(deep1:Int)->Option Bool
 | 0,_,_=>none
 | n+1,t0,deep1=>(if ((decide (((t0).length:Int) > 0))&&(deep1==3)) then some false else (lp (zf (λ(n1:Nat) (x1:GC) (s1:Unit)=>(((oF x1.name).bind λv27=>(zQ ((((!v27)==false)&&((decide ((n1:Int) > 0))==true))=true->0<=(IntKind.wrap .i64 ((n1:Int) - 1))/\(IntKind.wrap .i64 ((n1:Int) - 1)) < ((t0).length:Int)) (((if ((((!v27) || ((decide ((n1:Int) > 0))&&(!(Op.bytesLess (((t0).getD (IntKind.wrap .i64 ((n1:Int) - 1)).toNat default).name) x1.name)))) || ((IntKind.wrap .i64 (((x1.leaves).length:Int)+((x1.w5).length:Int)))==0))==false) then uQ n x1.w5 (IntKind.wrap .i64 (deep1+1)) else some default).bind λv31=>(if ((((!v27) || ((decide ((n1:Int) > 0))&&(!(Op.bytesLess (((t0).getD (IntKind.wrap .i64 ((n1:Int) - 1)).toNat default).name) x1.name)))) || ((IntKind.wrap .i64 (((x1.leaves).length:Int)+((x1.w5).length:Int)))==0)) || (!v31)) then some (.ret false) else (lp (zf (λ(n2:Nat) (x2:GE) (s2:Unit)=>(((tH x2).bind λv43=>(zQ ((((!v43)==false)&&((decide ((n2:Int) > 0))==true))=true->0<=(IntKind.wrap .i64 ((n2:Int) - 1))/\(IntKind.wrap .i64 ((n2:Int) - 1)) < ((x1.leaves).length:Int)) ((if ((!v43) || ((decide ((n2:Int) > 0))&&(decide (((x1.leaves).getD (IntKind.wrap .i64 ((n2:Int) - 1)).toNat default).w7 >= x2.w7)))) then some (.ret (.ret false)) else some (.gV ()))))):Option (Out _ Unit))) x1.leaves 0 ()) λ(s2:Unit)=>some (.gV ()))))))):Option (Out _ Unit))) t0 0 ()) λ(s1:Unit)=>some true))
def zei (t0:(List GC)) (deep1:Int):Option Bool:=ba λn=>uQ n t0 deep1
def uB (t0:(List GC)):Option Bool :=
 ((zei t0 0).bind λv1=>some v1)
def tL (d0:GA) (c0:GL):Option Bool :=
 ((tQ c0.f d0).bind λv1=>some (!v1))
def wB (b0:GL):Option Bool :=
 ((rg b0.f).bind λv1=>((xB v1 b0.f).bind λv2=>((if (((!v2) || (decide (((b0.g9).length:Int) > 64)))==false) then tK b0.g9 else some default).bind λv4=>((if ((((!v2) || (decide (((b0.g9).length:Int) > 64))) || (!v4))==false) then yg b0.g9 (λx0=>tL x0 b0) else some default).bind λv5=>(if ((((!v2) || (decide (((b0.g9).length:Int) > 64))) || (!v4)) || v5) then some false else ((if ((((decide (b0.time<=1099511627776))&&((decide (((b0.f).length:Int) > 0))==(decide (b0.time > 0))))&&((decide (((b0.f).length:Int) > 0))==(decide (((b0.g9).length:Int) > 0))))==true) then uB b0.tree else some default).bind λv9=>some ((((decide (b0.time<=1099511627776))&&((decide (((b0.f).length:Int) > 0))==(decide (b0.time > 0))))&&((decide (((b0.f).length:Int) > 0))==(decide (((b0.g9).length:Int) > 0))))&&v9)))))))
def yP (ss0:(List GC)):Option (List GC) :=
 (bF ss0 λb1=>(if b1 then some ([]:List GC) else (zQ ((([]:List GC)).length+(ss0).length<=lim) (some (([]:List GC)++ss0)))))
def xw (ss0:(List GE)):Option (List GE) :=
 (bF ss0 λb1=>(if b1 then some ([]:List GE) else (zQ ((([]:List GE)).length+(ss0).length<=lim) (some (([]:List GE)++ss0)))))
def yJ (ss0:(List GF)):Option (List GF) :=
 (bF ss0 λb1=>(if b1 then some ([]:List GF) else (zQ ((([]:List GF)).length+(ss0).length<=lim) (some (([]:List GF)++ss0)))))
def xX:Nat->(t0:(List GC))->Option (List GC)
 | 0,_=>none
 | n+1,t0=>((yP t0).bind λv1=>(zQ ((((v1).length:Nat):Int)<=9223372036854775807) (lp (zf (λ(n1:Nat) (x1:Nat) (s1:(List GC))=>((zQ ((s1).length=(v1).length) (((zS s1 (n1:Int)).bind λy30=>((xw y30.leaves).bind λv31=>(zQ ((((v31).length:Nat):Int)<=9223372036854775807) (lp (zf (λ(n2:Nat) (x2:Nat) (s2:(List GE))=>((zQ ((s2).length=(v31).length) (((zS s2 (n2:Int)).bind λy45=>((yJ y45.y4).bind λv46=>((zS s2 (n2:Int)).bind λy47=>((yk y47.x4).bind λv48=>((zS s2 (n2:Int)).bind λy49=>((zS (s2.set (n2:Int).toNat (GE.mk y49.w7 y49.n y49.time y49.z6 y49.text v46 y49.x4)) (n2:Int)).bind λy50=>some (.gV ((s2.set (n2:Int).toNat (GE.mk y49.w7 y49.n y49.time y49.z6 y49.text v46 y49.x4)).set (n2:Int).toNat (GE.mk y50.w7 y50.n y50.time y50.z6 y50.text y50.y4 v48))))))))))):Option (Out _ (List GE)))) (List.range (((((v31).length:Nat):Int)).toNat)) 0 v31) λ(s2:(List GE))=>(zQ ((s2).length=(v31).length) (((xX n y30.w5).bind λv51=>((zS s1 (n1:Int)).bind λy52=>some (.gV (s1.set (n1:Int).toNat (GC.mk y30.name s2 v51))))))))))))):Option (Out _ (List GC)))) (List.range (((((v1).length:Nat):Int)).toNat)) 0 v1) λ(s1:(List GC))=>(zQ ((s1).length=(v1).length) (some s1)))))
def rx (t0:(List GC)):Option (List GC):=ba λn=>xX n t0
def uz (t0:(List GC)):Option (List GC) :=
 ((rx t0).bind λv1=>some v1)
def yv (b0:GL):Option GL :=
 ((yD b0.f).bind λv1=>((yk b0.g9).bind λv2=>((uz b0.tree).bind λv3=>some (GL.mk b0.num v1 v2 b0.time v3))))
def yO (rep0:Int):Option GA :=
 some (GA.mk (GH.mk rep0 1) 1)
def rT (rep0:Int) (nn1:Int) (time2:Int) (vv3:(List GA)) (parents4:(List GA)):Option GI :=
 some (GI.mk (GA.mk (GH.mk rep0 1) 1) parents4 vv3 time2 (GM.mk 1 ([([97]:zq)]:List zq) nn1 ([]:zq) ([]:List GA)))
def ow (kind0:Int):Option GE :=
 (if ((decide (kind0 >= 1))&&(decide (kind0<=4))) then some (GE.mk kind0 0 0 (GA.mk (GH.mk 0 0) 0) ([]:zq) ([]:List GF) ([]:List GA)) else some bL)
def si (t0:(List GC)) (name1:zq):Option (GC×Bool) :=
 (lp (zf (λ(n1:Nat) (x1:GC) (sL1:Unit)=>((if (x1.name==name1) then some (.ret (x1,true)) else some (.gV ())):Option (Out _ Unit))) t0 0 ()) λ(sL1:Unit)=>some ((GC.mk ([]:zq) ([]:List GE) ([]:List GC)),false))
def ud (t0:(List GC)) (path1:(List zq)) (kind2:Int):Option (GE×Bool) :=
 ((ow kind2).bind λv1=>(lp (zf (λ(n1:Nat) (x1:zq) (s1:(List GC)×zq×(List GE)×(List GC))=>(((si s1.1 x1).bind λv32=>(if (!v32.2) then some (.ret (v1,false)) else some (.gV (v32.1.w5,v32.1.name,v32.1.leaves,v32.1.w5)))):Option (Out _ ((List GC)×zq×(List GE)×(List GC))))) path1 0 (t0,([]:zq),([]:List GE),([]:List GC))) λ(s1:(List GC)×zq×(List GE)×(List GC))=>(lp (zY (λ(s2:Int)=>((if (((decide (s2 < ((s1.2.2.1).length:Int)))&&(decide (kind2 >= 1)))&&(decide (kind2<=4))) then ((zS s1.2.2.1 s2).bind λy63=>(if (y63.w7==kind2) then ((zS s1.2.2.1 s2).bind λy65=>some (.ret (y65,true))) else some (.gV (IntKind.wrap .i64 (s2+1))))) else some (.brk s2)):Option (Out _ Int))) 0) λ(s2:Int)=>some (v1,false))))
def qb (g0:GO):Option (List GA) :=
 ((ya g0).bind λv1=>(if v1 then some ([]:List GA) else ((yD g0.vv).bind λv3=>some v3)))
def sN (g0:GO):Option Bool :=
 ((((ya g0).bind λv6=>(if v6 then some 1 else ((tj (GI.mk (GA.mk (GH.mk 0 0) 0) ([]:List GA) ([]:List GA) 0 (GM.mk 0 ([]:List zq) 0 ([]:zq) ([]:List GA)))).bind λv8=>(if (!v8) then some 4 else none)))):Option Int).bind λv1=>some (v1==1))
def wM (g0:GO):Option GL :=
 ((ya g0).bind λv1=>(if v1 then some (GL.mk 0 ([]:List GA) ([]:List GA) 0 ([]:List GC)) else ((yv g0.base).bind λv3=>some v3)))
def nY (ss0:(List GI)) (seq1:(S:Type)->(S->GI->Option (Bool×S))->S->Option S):Option (List GI) :=
 (rng (seq1 _ (am (λ(s1:(List GI)) (x1:GI)=>((zQ ((s1).length+(([x1]:List GI)).length<=lim) (some (true,((s1++([x1]:List GI)),none)))):Option (Bool×((List GI)×Option Nat))))) (ss0,none)) (λ(s1:(List GI))=>some s1) (λ_ _=>none))
def zg4 (seq0:(S:Type)->(S->GI->Option (Bool×S))->S->Option S):Option (List GI) :=
 ((nY ([]:List GI) seq0).bind λv1=>some v1)
/-- slices.SortFunc[[]varve/api.Commit,varve/api.Commit]: qA -/
def zfE:Unit:=()
def xR (a0:GI) (b1:GI):Option Int :=
 ((x6 a0.time b1.time).bind λv1=>((xN a0.z6 b1.z6).bind λv2=>((rj ([v1,v2]:List Int)).bind λv3=>some v3)))
def xL (g0:GO):Option (List GI) :=
 ((ya g0).bind λv1=>(if (v1 || (((g0.ff).length:Int)==0)) then some ([]:List GI) else (((zQ ((g0.ff).length<=lim) (c4 g0.ff (λ(p11:List (GA×GI))=>((qA (λx y=>xR x y) (p11.map (λx=>x.2))).bind λv13=>some v13)))):Option (List GI)).bind λv5=>(zQ ((((v5).length:Nat):Int)<=9223372036854775807) (lp (zf (λ(n1:Nat) (x1:Nat) (s1:(List GI))=>((zQ ((s1).length=(v5).length) (((zS s1 (n1:Int)).bind λy21=>((tc y21).bind λv22=>((zS s1 (n1:Int)).bind λy23=>some (.gV (s1.set (n1:Int).toNat v22))))))):Option (Out _ (List GI)))) (List.range (((((v5).length:Nat):Int)).toNat)) 0 v5) λ(s1:(List GI))=>(zQ ((s1).length=(v5).length) (some s1)))))))
def sO (cc0:GI) (c0:(List GA)):Option Bool :=
 ((tQ c0 cc0.z6).bind λv1=>((if (v1==true) then wj cc0.vV c0 else some default).bind λv2=>some (v1&&(!v2))))
def wR (ss0:(List GI)) (f1:(GI->Option Bool)):Option Int :=
 (lp (zf (λ(n1:Nat) (x1:GI) (s1:Unit)=>(((f1 x1).bind λv7=>(if v7 then some (.ret (n1:Int)) else some (.gV ()))):Option (Out _ Unit))) ss0 0 ()) λ(s1:Unit)=>some (-1))
def xu (ss0:(List GI)) (f1:(GI->Option Bool)):Option Bool :=
 ((wR ss0 f1).bind λv1=>some (decide (v1 >= 0)))
def qX (g0:GO) (vv1:(List GA)):Option Int :=
 ((sN g0).bind λv1=>(if v1 then some 1 else ((rg vv1).bind λv3=>((xB v3 vv1).bind λv4=>(if (!v4) then some 2 else ((wM g0).bind λv6=>((wj v6.f vv1).bind λv7=>(if (!v7) then some 13 else ((qb g0).bind λv9=>((wj vv1 v9).bind λv10=>(if (!v10) then some 14 else ((xL g0).bind λv12=>((xu v12 (λx0=>sO x0 vv1)).bind λv13=>(if v13 then some 9 else some 0))))))))))))))
def va (ss0:(List GJ)) (f1:(GJ->Option Bool)):Option Int :=
 (lp (zf (λ(n1:Nat) (x1:GJ) (s1:Unit)=>(((f1 x1).bind λv7=>(if v7 then some (.ret (n1:Int)) else some (.gV ()))):Option (Out _ Unit))) ss0 0 ()) λ(s1:Unit)=>some (-1))
def yY (ss0:(List GJ)) (f1:(GJ->Option Bool)):Option Bool :=
 ((va ss0 f1).bind λv1=>some (decide (v1 >= 0)))
def pr (e0:GJ):Option Bool :=
 ((qO e0).bind λv1=>some (!v1))
/-- slices.Sort[[]string,string]: zc7 -/
def zjG:Unit:=()
def wd (ss0:(List GC)) (f1:(GC->Option Bool)):Option Int :=
 (lp (zf (λ(n1:Nat) (x1:GC) (s1:Unit)=>(((f1 x1).bind λv7=>(if v7 then some (.ret (n1:Int)) else some (.gV ()))):Option (Out _ Unit))) ss0 0 ()) λ(s1:Unit)=>some (-1))
def sH (nn0:GC) (c0:zq):Option Bool :=
 some (nn0.name==c0)
def xT (t0:(List GC)) (name1:zq):Option (GC×Bool) :=
 ((wd t0 (λx0=>sH x0 name1)).bind λv1=>(if (decide (v1 < 0)) then some ((GC.mk ([]:zq) ([]:List GE) ([]:List GC)),false) else ((zS t0 v1).bind λy3=>some (y3,true))))
def oc (t0:(List GC)) (path1:(List zq)):Option (List zq) :=
 (lp (zf (λ(n1:Nat) (x1:zq) (s1:(List GC))=>(((xT s1 x1).bind λv7=>some (.gV v7.1.w5)):Option (Out _ (List GC)))) path1 0 t0) λ(s1:(List GC))=>(lp (zf (λ(n2:Nat) (x2:GC) (s2:(List zq))=>((zQ ((s2).length+(([x2.name]:List zq)).length<=lim) (some (.gV (s2++([x2.name]:List zq))))):Option (Out _ (List zq)))) s1 0 ([]:List zq)) λ(s2:(List zq))=>((ak s2).bind λv15=>some v15)))
def wb (ss0:(List zq)):Option (List zq) :=
 (if (decide (((ss0).length:Int) < 2)) then some ss0 else (lp (zY (λ(s1:Int)=>((if (decide (s1 < ((ss0).length:Int))) then ((zS ss0 s1).bind λy35=>((zS ss0 (IntKind.wrap .i64 (s1 - 1))).bind λy36=>(if (y35==y36) then (zQ (0<=s1/\s1<=((ss0.length:Nat):Int)) ((lp (zY (λ(s2:Int×Int×(List zq))=>((zQ ((s2.2.2).length=ss0.length) ((if (decide (s2.2.1 < ((ss0.length - s1.toNat:Nat):Int))) then ((zS (s2.2.2.drop s1.toNat) s2.2.1).bind λy51=>((zS (s2.2.2.drop s1.toNat) (IntKind.wrap .i64 (s2.2.1 - 1))).bind λy52=>(if (!(y51==y52)) then ((zS (s2.2.2.drop s1.toNat) s2.2.1).bind λy54=>((zS s2.2.2 s2.1).bind λy55=>some (.gV ((IntKind.wrap .i64 (s2.1+1)),(IntKind.wrap .i64 (s2.2.1+1)),(s2.2.2.set s2.1.toNat y54))))) else some (.gV (s2.1,(IntKind.wrap .i64 (s2.2.1+1)),s2.2.2))))) else some (.brk (s2.1,s2.2.1,s2.2.2))))):Option (Out _ (Int×Int×(List zq))))) (s1,1,ss0)) λ(s2:Int×Int×(List zq))=>(zQ (0<=s2.1/\s2.1<=((ss0.length:Nat):Int)) (((fL (s2.2.2.take s2.1.toNat++List.replicate (ss0.length - s2.1.toNat) ([]:zq)) 0 s2.1).bind λm57=>some (.ret m57))))))) else some (.gV (IntKind.wrap .i64 (s1+1)))))) else some (.brk s1)):Option (Out _ Int))) 1) λ(s1:Int)=>some ss0))
def r6 (l0:(List (List GC))):Option (List zq) :=
 (lp (zf (λ(n1:Nat) (x1:(List GC)) (s1:(List zq))=>(((oc x1 ([]:List zq)).bind λv8=>(zQ ((s1).length+(v8).length<=lim) (some (.gV (s1++v8))))):Option (Out _ (List zq)))) l0 0 ([]:List zq)) λ(s1:(List zq))=>((ak s1).bind λv10=>((wb v10).bind λv11=>some v11)))
def yo (ss0:(List GE)) (f1:(GE->Option Bool)):Option Int :=
 (lp (zf (λ(n1:Nat) (x1:GE) (s1:Unit)=>(((f1 x1).bind λv7=>(if v7 then some (.ret (n1:Int)) else some (.gV ()))):Option (Out _ Unit))) ss0 0 ()) λ(s1:Unit)=>some (-1))
def sa (l0:GE) (c0:Int):Option Bool :=
 some (l0.w7==c0)
def uD (kind0:Int):Option GE :=
 (if ((decide (kind0 < 1)) || (decide (kind0 > 4))) then some bL else some (GE.mk kind0 0 0 (GA.mk (GH.mk 0 0) 0) ([]:zq) ([]:List GF) ([]:List GA)))
def uu (t0:(List GC)) (path1:(List zq)) (kind2:Int):Option (GE×Bool) :=
 (lp ((lp (zf (λ(n2:Nat) (x2:zq) (s2:(List GC)×Bool×zq×(List GE)×(List GC))=>(((xT s2.1 x2).bind λv47=>(if (!v47.2) then some (.brk (s2.1,v47.2,v47.1.name,v47.1.leaves,v47.1.w5)) else some (.gV (v47.1.w5,v47.2,v47.1.name,v47.1.leaves,v47.1.w5)))):Option (Out _ ((List GC)×Bool×zq×(List GE)×(List GC))))) path1 0 (t0,(decide (((path1).length:Int) > 0)),([]:zq),([]:List GE),([]:List GC))) λ(s2:(List GC)×Bool×zq×(List GE)×(List GC))=>some (.inr (s2.2.1,s2.2.2.1,s2.2.2.2.1,s2.2.2.2.2))):Option (_ ⊕ (Bool×zq×(List GE)×(List GC)))) λ(s1:Bool×zq×(List GE)×(List GC))=>((yo s1.2.2.1 (λx0=>sa x0 kind2)).bind λv49=>((if (((!s1.1) || (decide (v49 < 0)))==false) then uD kind2 else some default).bind λv50=>(if (((!s1.1) || (decide (v49 < 0))) || (v50.w7==0)) then ((uD kind2).bind λv52=>some (v52,false)) else ((zS s1.2.2.1 v49).bind λy53=>((yJ y53.y4).bind λv54=>((yk y53.x4).bind λv55=>some ((GE.mk y53.w7 y53.n y53.time y53.z6 y53.text v54 v55),true))))))))
def x7 (nn0:GC) (kind1:Int):Option (GE×Bool) :=
 ((uu ([nn0]:List GC) ([nn0.name]:List zq) kind1).bind λv1=>some (v1.1,v1.2))
def ui (l0:GE) (a1:GE) (b2:GE):Option GE :=
 some (GE.mk a1.w7 (IntKind.wrap .i64 (a1.n+(IntKind.wrap .i64 (b2.n - l0.n)))) a1.time a1.z6 a1.text a1.y4 a1.x4)
def qu (pp0:GE) (a1:GE) (b2:GE):Option GE :=
 ((if (((a1.time==0)==false)&&((b2.time != 0)==true)) then qt b2.time b2.z6 a1.time a1.z6 else some default).bind λv1=>(if ((a1.time==0) || ((b2.time != 0)&&(!v1))) then some b2 else some a1))
def uw (_ss0:(List GA)) (nn1:Int):Option (List GA) :=
 (if (decide (nn1 < 0)) then none else (if (decide ((IntKind.wrap .i64 (nn1 - (IntKind.wrap .i64 (0 - ((0:Nat):Int))))) > 0)) then (zQ (0 < (IntKind.wrap .i64 (nn1 - (IntKind.wrap .i64 (0 - ((0:Nat):Int)))))/\(IntKind.wrap .i64 (nn1 - (IntKind.wrap .i64 (0 - ((0:Nat):Int)))))<=(lim:Int)) (((fL (List.replicate (IntKind.wrap .i64 (nn1 - (IntKind.wrap .i64 (0 - ((0:Nat):Int))))).toNat (GA.mk (GH.mk 0 0) 0)) 0 ((0:Nat):Int)).bind λm6=>some m6))) else some ([]:List GA)))
def qj (slices0:(List (List GA))):Option (List GA) :=
 (lp (zf (λ(n1:Nat) (x1:(List GA)) (s1:Int)=>((if (decide ((IntKind.wrap .i64 (s1+((x1).length:Int))) < 0)) then none else some (.gV (IntKind.wrap .i64 (s1+((x1).length:Int))))):Option (Out _ Int))) slices0 0 0) λ(s1:Int)=>((uw ([]:List GA) s1).bind λv10=>(lp (zf (λ(n2:Nat) (x2:(List GA)) (s2:(List GA))=>((zQ ((s2).length+(x2).length<=lim) (some (.gV (s2++x2)))):Option (Out _ (List GA)))) slices0 0 v10) λ(s2:(List GA))=>some s2)))
def tz (ss0:(List GA)) (vv1:GA):Option Int :=
 (lp (zf (λ(n1:Nat) (x1:GA) (s1:Unit)=>((if (vv1.zi.fj==x1.zi.fj&&(vv1.zi.inc==x1.zi.inc&&(vv1.seq==x1.seq&&true))) then some (.ret (n1:Int)) else some (.gV ())):Option (Out _ Unit))) ss0 0 ()) λ(s1:Unit)=>some (-1))
def xl (ss0:(List GA)) (vv1:GA):Option Bool :=
 ((tz ss0 vv1).bind λv1=>some (decide (v1 >= 0)))
def qH (_ss0:(List GF)) (nn1:Int):Option (List GF) :=
 (if (decide (nn1 < 0)) then none else (if (decide ((IntKind.wrap .i64 (nn1 - (IntKind.wrap .i64 (0 - ((0:Nat):Int))))) > 0)) then (zQ (0 < (IntKind.wrap .i64 (nn1 - (IntKind.wrap .i64 (0 - ((0:Nat):Int)))))/\(IntKind.wrap .i64 (nn1 - (IntKind.wrap .i64 (0 - ((0:Nat):Int)))))<=(lim:Int)) (((fL (List.replicate (IntKind.wrap .i64 (nn1 - (IntKind.wrap .i64 (0 - ((0:Nat):Int))))).toNat (GF.mk 0 (GA.mk (GH.mk 0 0) 0) ([]:zq))) 0 ((0:Nat):Int)).bind λm6=>some m6))) else some ([]:List GF)))
def wH (slices0:(List (List GF))):Option (List GF) :=
 (lp (zf (λ(n1:Nat) (x1:(List GF)) (s1:Int)=>((if (decide ((IntKind.wrap .i64 (s1+((x1).length:Int))) < 0)) then none else some (.gV (IntKind.wrap .i64 (s1+((x1).length:Int))))):Option (Out _ Int))) slices0 0 0) λ(s1:Int)=>((qH ([]:List GF) s1).bind λv10=>(lp (zf (λ(n2:Nat) (x2:(List GF)) (s2:(List GF))=>((zQ ((s2).length+(x2).length<=lim) (some (.gV (s2++x2)))):Option (Out _ (List GF)))) slices0 0 v10) λ(s2:(List GF))=>some s2)))
/-- slices.SortFunc[[]varve/api.Item,varve/api.Item]: qA -/
def zg3:Unit:=()
def te (xx0:GF) (yy1:GF):Option Int :=
 ((qt xx0.time xx0.z6 yy1.time yy1.z6).bind λv1=>(if v1 then some (-1) else some 1))
def rU (a0:(List GF)) (b1:(List GF)) (tombs2:(List GA)):Option (List GF) :=
 ((wH ([a0,b1]:List (List GF))).bind λv1=>(zQ ((((v1).length:Nat):Int)<=9223372036854775807) (lp (zf (λ(n1:Nat) (x1:Nat) (s1:List (GA×Int)×(List GF))=>(((zS v1 (n1:Int)).bind λy17=>((((if (((zG GA.fi 0 (ut GA.fi s1.1 y17.z6 (IntKind.wrap .i64 ((zG GA.fi 0 s1.1 y17.z6)+1))) y17.z6)==1)==true) then xl tombs2 y17.z6 else some default).bind λv22=>(if (((zG GA.fi 0 (ut GA.fi s1.1 y17.z6 (IntKind.wrap .i64 ((zG GA.fi 0 s1.1 y17.z6)+1))) y17.z6)==1)&&(!v22)) then (zQ ((s1.2).length+(([y17]:List GF)).length<=lim) (some ((ut GA.fi s1.1 y17.z6 (IntKind.wrap .i64 ((zG GA.fi 0 s1.1 y17.z6)+1))),(s1.2++([y17]:List GF))))) else some ((ut GA.fi s1.1 y17.z6 (IntKind.wrap .i64 ((zG GA.fi 0 s1.1 y17.z6)+1))),s1.2))):Option (List (GA×Int)×(List GF))).bind λv18=>some (.gV (v18.1,v18.2)))):Option (Out _ (List (GA×Int)×(List GF))))) (List.range (((((v1).length:Nat):Int)).toNat)) 0 (([]:List (GA×Int)),([]:List GF))) λ(s1:List (GA×Int)×(List GF))=>((qA (λx y=>te x y) s1.2).bind λv25=>some v25))))
/-- slices.SortFunc[[]varve/api.Dot,varve/api.Dot]: qA -/
def zii:Unit:=()
def we (ss0:(List GA)):Option (List GA) :=
 (if (decide (((ss0).length:Int) < 2)) then some ss0 else (lp (zY (λ(s1:Int)=>((if (decide (s1 < ((ss0).length:Int))) then ((zS ss0 s1).bind λy35=>((zS ss0 (IntKind.wrap .i64 (s1 - 1))).bind λy36=>(if (y35.zi.fj==y36.zi.fj&&(y35.zi.inc==y36.zi.inc&&(y35.seq==y36.seq&&true))) then (zQ (0<=s1/\s1<=((ss0.length:Nat):Int)) ((lp (zY (λ(s2:Int×Int×(List GA))=>((zQ ((s2.2.2).length=ss0.length) ((if (decide (s2.2.1 < ((ss0.length - s1.toNat:Nat):Int))) then ((zS (s2.2.2.drop s1.toNat) s2.2.1).bind λy51=>((zS (s2.2.2.drop s1.toNat) (IntKind.wrap .i64 (s2.2.1 - 1))).bind λy52=>(if (!(y51.zi.fj==y52.zi.fj&&(y51.zi.inc==y52.zi.inc&&(y51.seq==y52.seq&&true)))) then ((zS (s2.2.2.drop s1.toNat) s2.2.1).bind λy54=>((zS s2.2.2 s2.1).bind λy55=>some (.gV ((IntKind.wrap .i64 (s2.1+1)),(IntKind.wrap .i64 (s2.2.1+1)),(s2.2.2.set s2.1.toNat y54))))) else some (.gV (s2.1,(IntKind.wrap .i64 (s2.2.1+1)),s2.2.2))))) else some (.brk (s2.1,s2.2.1,s2.2.2))))):Option (Out _ (Int×Int×(List GA))))) (s1,1,ss0)) λ(s2:Int×Int×(List GA))=>(zQ (0<=s2.1/\s2.1<=((ss0.length:Nat):Int)) (((fL (s2.2.2.take s2.1.toNat++List.replicate (ss0.length - s2.1.toNat) (GA.mk (GH.mk 0 0) 0)) 0 s2.1).bind λm57=>some (.ret m57))))))) else some (.gV (IntKind.wrap .i64 (s1+1)))))) else some (.brk s1)):Option (Out _ Int))) 1) λ(s1:Int)=>some ss0))
def oM (pp0:GE) (a1:GE) (b2:GE):Option GE :=
 ((qj ([a1.x4,b2.x4]:List (List GA))).bind λv1=>((qA (λx y=>xN x y) v1).bind λv2=>((we v2).bind λv3=>((rU a1.y4 b2.y4 v3).bind λv4=>some (GE.mk 3 0 0 (GA.mk (GH.mk 0 0) 0) ([]:zq) v4 v3)))))
def oN (pp0:GE) (a1:GE) (b2:GE):Option GE :=
 ((rU a1.y4 b2.y4 ([]:List GA)).bind λv1=>some (GE.mk 4 0 0 (GA.mk (GH.mk 0 0) 0) ([]:zq) v1 ([]:List GA)))
def m5 (c:Nat) (x0:GE) (x1:GE) (x2:GE):Option GE:=match c with
 | 1=>ui x0 x1 x2
 | 2=>qu x0 x1 x2
 | 3=>oM x0 x1 x2
 | 4=>oN x0 x1 x2
 | _=>none
def uj (l0:GE) (a1:GE) (b2:GE):Option (GE×Int) :=
 ((tH l0).bind λv1=>((if ((!v1)==false) then tH a1 else some default).bind λv2=>((if (((!v1) || (!v2))==false) then tH b2 else some default).bind λv3=>(if (((!v1) || (!v2)) || (!v3)) then some (bL,2) else (if ((l0.w7 != a1.w7) || (l0.w7 != b2.w7)) then some (bL,15) else ((zS ([0,1,2,3,4]:List Nat) l0.w7).bind λy6=>((m5 y6 l0 a1 b2).bind λv7=>some (v7,0))))))))
def rZ (l0:GC) (a1:GC) (b2:GC):Option (List GE) :=
 (lp (zY (λ(s1:(List GE)×Int)=>((if (decide (s1.2<=4)) then ((x7 l0 s1.2).bind λv20=>((x7 a1 s1.2).bind λv21=>((x7 b2 s1.2).bind λv22=>(if ((v20.2 || v21.2) || v22.2) then ((uj v20.1 v21.1 v22.1).bind λv24=>(zQ ((s1.1).length+(([v24.1]:List GE)).length<=lim) (some (.gV ((s1.1++([v24.1]:List GE)),(IntKind.wrap .u8 (s1.2+1))))))) else some (.gV (s1.1,(IntKind.wrap .u8 (s1.2+1)))))))) else some (.brk (s1.1,s1.2))):Option (Out _ ((List GE)×Int)))) (([]:List GE),1)) λ(s1:(List GE)×Int)=>some s1.1)
def wz:Nat->(l0:(List GC))->(a1:(List GC))->(b2:(List GC))->Option (List GC)
 | 0,_,_,_=>none
 | n+1,l0,a1,b2=>((r6 ([l0,a1,b2]:List (List GC))).bind λv1=>(lp (zf (λ(n1:Nat) (x1:zq) (s1:(List GC))=>(((xT l0 x1).bind λv13=>((xT a1 x1).bind λv14=>((xT b2 x1).bind λv15=>((rZ v13.1 v14.1 v15.1).bind λv16=>((wz n v13.1.w5 v14.1.w5 v15.1.w5).bind λv17=>(zQ ((s1).length+(([(GC.mk x1 v16 v17)]:List GC)).length<=lim) (some (.gV (s1++([(GC.mk x1 v16 v17)]:List GC)))))))))):Option (Out _ (List GC)))) v1 0 ([]:List GC)) λ(s1:(List GC))=>some s1))
def mh (l0:(List GC)) (a1:(List GC)) (b2:(List GC)):Option (List GC):=ba λn=>wz n l0 a1 b2
def rJ (l0:(List GC)) (a1:(List GC)) (b2:(List GC)):Option ((List GC)×Int) :=
 ((uB l0).bind λv1=>((if ((!v1)==false) then uB a1 else some default).bind λv2=>((if (((!v1) || (!v2))==false) then uB b2 else some default).bind λv3=>(if (((!v1) || (!v2)) || (!v3)) then some (([]:List GC),2) else ((mh l0 a1 b2).bind λv5=>some (v5,0))))))
def yx (hh0:(List GK)) (ii1:Int) (k2:Int):Option Bool :=
 ((zS hh0 ii1).bind λy1=>((zS hh0 k2).bind λy2=>(if ((y1.e.time==y2.e.time)&&(y1.e.z6.zi.fj==y2.e.z6.zi.fj&&(y1.e.z6.zi.inc==y2.e.z6.zi.inc&&(y1.e.z6.seq==y2.e.z6.seq&&true)))) then some (decide (y1.bX < y2.bX)) else ((qt y1.e.time y1.e.z6 y2.e.time y2.e.z6).bind λv4=>some v4))))
def oO (e0:GJ):Option GJ :=
 ((vd e0.op.path).bind λv1=>((yk e0.op.gX).bind λv2=>some (GJ.mk e0.z6 e0.time (GM.mk e0.op.kind v1 e0.op.n e0.op.text v2))))
def tf (l0:(List GJ)):Option (List GJ) :=
 (lp (zf (λ(n1:Nat) (x1:GJ) (s1:(List GK))=>(((oO x1).bind λv158=>(((((zQ ((s1).length+(([(GK.mk v158 (n1:Int))]:List GK)).length<=lim) (some (s1++([(GK.mk v158 (n1:Int))]:List GK)))):Option (List GK)).bind λv235=>((some (((v235).length:Nat):Int):Option Int).bind λv238=>(((lp (zY (λ(s2:Int×(List GK))=>((zQ ((s2.2).length=(v235).length) (((if (((IntKind.wrap .i64 (Int.tdiv (IntKind.wrap .i64 (s2.1 - 1)) 2))==s2.1)==false) then yx s2.2 s2.1 (IntKind.wrap .i64 (Int.tdiv (IntKind.wrap .i64 (s2.1 - 1)) 2)) else some default).bind λv298=>(if (((IntKind.wrap .i64 (Int.tdiv (IntKind.wrap .i64 (s2.1 - 1)) 2))==s2.1) || (!v298)) then some (.brk (s2.1,s2.2)) else ((((zS s2.2 s2.1).bind λy305=>((zS s2.2 (IntKind.wrap .i64 (Int.tdiv (IntKind.wrap .i64 (s2.1 - 1)) 2))).bind λy306=>((zS s2.2 (IntKind.wrap .i64 (Int.tdiv (IntKind.wrap .i64 (s2.1 - 1)) 2))).bind λy307=>((zS (s2.2.set (IntKind.wrap .i64 (Int.tdiv (IntKind.wrap .i64 (s2.1 - 1)) 2)).toNat y305) s2.1).bind λy308=>some ((s2.2.set (IntKind.wrap .i64 (Int.tdiv (IntKind.wrap .i64 (s2.1 - 1)) 2)).toNat y305).set s2.1.toNat y306))))):Option (List GK)).bind λv300=>(zQ ((v300).length=(v235).length) (some (.gV ((IntKind.wrap .i64 (Int.tdiv (IntKind.wrap .i64 (s2.1 - 1)) 2)),v300))))))))):Option (Out _ (Int×(List GK))))) ((IntKind.wrap .i64 (v238 - 1)),v235)) λ(s2:Int×(List GK))=>some s2.2):Option (List GK)).bind λv241=>(zQ ((v241).length=(v235).length) (some v241))))):Option (List GK)).bind λv159=>some (.gV v159))):Option (Out _ (List GK)))) l0 0 ([]:List GK)) λ(s1:(List GK))=>(((lp (zY (λ(s2:(List GJ)×(List GK))=>(((some (((s2.2).length:Nat):Int):Option Int).bind λv1089=>(if (decide (v1089 > 0)) then ((((some (((s2.2).length:Nat):Int):Option Int).bind λv1220=>((((zS s2.2 (IntKind.wrap .i64 (v1220 - 1))).bind λy1228=>((zS s2.2 0).bind λy1229=>((zS s2.2 0).bind λy1230=>((zS (s2.2.set (0:Int).toNat y1228) (IntKind.wrap .i64 (v1220 - 1))).bind λy1231=>some ((s2.2.set (0:Int).toNat y1228).set (IntKind.wrap .i64 (v1220 - 1)).toNat y1229))))):Option (List GK)).bind λv1223=>(zQ ((v1223).length=(s2.2).length) (((lp (zY (λ(s3:Int×(List GK))=>((zQ ((s3.2).length=(s2.2).length) ((if ((decide ((IntKind.wrap .i64 ((IntKind.wrap .i64 (2 * s3.1))+1)) >= (IntKind.wrap .i64 (v1220 - 1)))) || (decide ((IntKind.wrap .i64 ((IntKind.wrap .i64 (2 * s3.1))+1)) < 0))) then some (.brk (s3.1,s3.2)) else ((if ((decide ((IntKind.wrap .i64 ((IntKind.wrap .i64 ((IntKind.wrap .i64 (2 * s3.1))+1))+1)) < (IntKind.wrap .i64 (v1220 - 1))))==true) then yx s3.2 (IntKind.wrap .i64 ((IntKind.wrap .i64 ((IntKind.wrap .i64 (2 * s3.1))+1))+1)) (IntKind.wrap .i64 ((IntKind.wrap .i64 (2 * s3.1))+1)) else some default).bind λv1314=>(if ((decide ((IntKind.wrap .i64 ((IntKind.wrap .i64 ((IntKind.wrap .i64 (2 * s3.1))+1))+1)) < (IntKind.wrap .i64 (v1220 - 1))))&&v1314) then ((yx s3.2 (IntKind.wrap .i64 ((IntKind.wrap .i64 ((IntKind.wrap .i64 (2 * s3.1))+1))+1)) s3.1).bind λv1316=>(if (!v1316) then some (.brk (s3.1,s3.2)) else ((((zS s3.2 (IntKind.wrap .i64 ((IntKind.wrap .i64 ((IntKind.wrap .i64 (2 * s3.1))+1))+1))).bind λy1323=>((zS s3.2 s3.1).bind λy1324=>((zS s3.2 s3.1).bind λy1325=>((zS (s3.2.set s3.1.toNat y1323) (IntKind.wrap .i64 ((IntKind.wrap .i64 ((IntKind.wrap .i64 (2 * s3.1))+1))+1))).bind λy1326=>some ((s3.2.set s3.1.toNat y1323).set (IntKind.wrap .i64 ((IntKind.wrap .i64 ((IntKind.wrap .i64 (2 * s3.1))+1))+1)).toNat y1324))))):Option (List GK)).bind λv1318=>(zQ ((v1318).length=(s2.2).length) (some (.gV ((IntKind.wrap .i64 ((IntKind.wrap .i64 ((IntKind.wrap .i64 (2 * s3.1))+1))+1)),v1318))))))) else ((yx s3.2 (IntKind.wrap .i64 ((IntKind.wrap .i64 (2 * s3.1))+1)) s3.1).bind λv1327=>(if (!v1327) then some (.brk (s3.1,s3.2)) else ((((zS s3.2 (IntKind.wrap .i64 ((IntKind.wrap .i64 (2 * s3.1))+1))).bind λy1334=>((zS s3.2 s3.1).bind λy1335=>((zS s3.2 s3.1).bind λy1336=>((zS (s3.2.set s3.1.toNat y1334) (IntKind.wrap .i64 ((IntKind.wrap .i64 (2 * s3.1))+1))).bind λy1337=>some ((s3.2.set s3.1.toNat y1334).set (IntKind.wrap .i64 ((IntKind.wrap .i64 (2 * s3.1))+1)).toNat y1335))))):Option (List GK)).bind λv1329=>(zQ ((v1329).length=(s2.2).length) (some (.gV ((IntKind.wrap .i64 ((IntKind.wrap .i64 (2 * s3.1))+1)),v1329)))))))))))):Option (Out _ (Int×(List GK))))) (0,v1223)) λ(s3:Int×(List GK))=>some ((decide (s3.1 > 0)),s3.2)):Option (Bool×(List GK))).bind λv1232=>(zQ ((v1232.2).length=(s2.2).length) ((((zS v1232.2 (IntKind.wrap .i64 ((((s2.2).length:Nat):Int) - 1))).bind λy1343=>((fL v1232.2 0 (IntKind.wrap .i64 ((((s2.2).length:Nat):Int) - 1))).bind λm1344=>some (y1343,m1344))):Option (GK×(List GK))).bind λv1338=>some (v1338.1,v1338.2))))))):Option (GK×(List GK))).bind λv1093=>(zQ ((s2.1).length+(([v1093.1.e]:List GJ)).length<=lim) (some (.gV ((s2.1++([v1093.1.e]:List GJ)),v1093.2))))) else some (.brk (s2.1,s2.2)))):Option (Out _ ((List GJ)×(List GK))))) (([]:List GJ),s1)) λ(s2:(List GJ)×(List GK))=>some (s2.1,s2.2)):Option ((List GJ)×(List GK))).bind λv309=>some v309.1))
def x8:Nat->(t0:(List GC))->(byy1:(GE->Option GE))->Option (List GC)
 | 0,_,_=>none
 | n+1,t0,byy1=>(lp (zf (λ(n1:Nat) (x1:GC) (s1:(List GC))=>(((x8 n x1.w5 byy1).bind λv23=>(lp (zf (λ(n2:Nat) (x2:GE) (s2:(List GE))=>(((byy1 x2).bind λv36=>(zQ ((s2).length+(([v36]:List GE)).length<=lim) (some (.gV (s2++([v36]:List GE)))))):Option (Out _ (List GE)))) x1.leaves 0 ([]:List GE)) λ(s2:(List GE))=>(zQ ((s1).length+(([(GC.mk x1.name s2 v23)]:List GC)).length<=lim) (some (.gV (s1++([(GC.mk x1.name s2 v23)]:List GC))))))):Option (Out _ (List GC)))) t0 0 ([]:List GC)) λ(s1:(List GC))=>some s1)
def na (t0:(List GC)) (byy1:(GE->Option GE)):Option (List GC):=ba λn=>x8 n t0 byy1
def uF (l0:GE):Option GE :=
 ((yJ l0.y4).bind λv1=>((yk l0.x4).bind λv2=>some (GE.mk l0.w7 l0.n l0.time l0.z6 l0.text v1 v2)))
def mg (t0:(List GC)):Option (List GC) :=
 ((na t0 (λx0=>uF x0)).bind λv1=>some v1)
def zdw (k0:Int):Option Int :=
 ((zjT k0).bind λv1=>some v1.1.leaf)
def zR (xx0:(List GF)) (target1:GF) (cmp2:(GF->GF->Option Int)):Option (Int×Bool) :=
 (lp (zY (λ(s1:Int×Int)=>((if (decide (s1.1 < s1.2)) then ((zS xx0 (IntKind.wrap .i64 ((Int.fdiv (IntKind.wrap .u64 ((IntKind.wrap .i64 (s1.1+s1.2)))) (2 ^ (min (1:Int).toNat (IntKind.bits .u64))))))).bind λy14=>((cmp2 y14 target1).bind λv15=>(if (decide (v15 < 0)) then some (.gV ((IntKind.wrap .i64 ((IntKind.wrap .i64 ((Int.fdiv (IntKind.wrap .u64 ((IntKind.wrap .i64 (s1.1+s1.2)))) (2 ^ (min (1:Int).toNat (IntKind.bits .u64))))))+1)),s1.2)) else some (.gV (s1.1,(IntKind.wrap .i64 ((Int.fdiv (IntKind.wrap .u64 ((IntKind.wrap .i64 (s1.1+s1.2)))) (2 ^ (min (1:Int).toNat (IntKind.bits .u64))))))))))) else some (.brk (s1.1,s1.2))):Option (Out _ (Int×Int)))) (0,((xx0).length:Int))) λ(s1:Int×Int)=>(zQ (((decide (s1.1 < ((xx0).length:Int)))==true)=true->0<=s1.1/\s1.1 < ((xx0).length:Int)) (((if ((decide (s1.1 < ((xx0).length:Int)))==true) then cmp2 ((xx0).getD s1.1.toNat default) target1 else some default).bind λv18=>some (s1.1,((decide (s1.1 < ((xx0).length:Int)))&&(v18==0)))))))
def yV (a0:GF) (b1:GF):Option Int :=
 ((ug a0.time a0.z6 b1.time b1.z6).bind λv1=>some v1)
/-- slices.Insert[[]varve/api.Item,varve/api.Item]: mQ -/
def zjI:Unit:=()
def xV (ss0:(List GF)) (del1:(GF->Option Bool)):Option (List GF) :=
 ((yw ss0 del1).bind λv1=>(if (v1==(-1)) then some ss0 else (lp (zY (λ(s1:Int×Int×(List GF))=>((zQ ((s1.2.2).length=ss0.length) ((if (decide (s1.2.1 < ((ss0.length:Nat):Int))) then ((zS s1.2.2 s1.2.1).bind λy14=>((del1 y14).bind λv15=>(if (!v15) then ((zS s1.2.2 s1.1).bind λy17=>some (.gV ((IntKind.wrap .i64 (s1.1+1)),(IntKind.wrap .i64 (s1.2.1+1)),(s1.2.2.set s1.1.toNat y14)))) else some (.gV (s1.1,(IntKind.wrap .i64 (s1.2.1+1)),s1.2.2))))) else some (.brk (s1.1,s1.2.1,s1.2.2))))):Option (Out _ (Int×Int×(List GF))))) (v1,(IntKind.wrap .i64 (v1+1)),ss0)) λ(s1:Int×Int×(List GF))=>(zQ (0<=s1.1/\s1.1<=((ss0.length:Nat):Int)) (((fL (s1.2.2.take s1.1.toNat++List.replicate (ss0.length - s1.1.toNat) (GF.mk 0 (GA.mk (GH.mk 0 0) 0) ([]:zq))) 0 s1.1).bind λm19=>some m19))))))
def wL (xx0:GF) (c0:GJ):Option Bool :=
 ((xl c0.op.gX xx0.z6).bind λv1=>some v1)
def oI (l0:GE) (e1:GJ):Option (GE×Int) :=
 ((tH l0).bind λv1=>((if ((!v1)==false) then qO e1 else some default).bind λv2=>(if ((!v1) || (!v2)) then some (bL,2) else ((zdw e1.op.kind).bind λv4=>(if (v4 != l0.w7) then some (bL,15) else ((yJ l0.y4).bind λv6=>((yk l0.x4).bind λv7=>(if e1.op.kind=1 then ((some (IntKind.wrap .i64 (l0.n+e1.op.n)):Option Int).bind λv9=>some ((GE.mk l0.w7 v9 l0.time l0.z6 l0.text v6 v7),0)) else (if e1.op.kind=2 then ((((if ((l0.time==0)==false) then qt l0.time l0.z6 e1.time e1.z6 else some default).bind λv14=>(if ((l0.time==0) || v14) then some (e1.time,e1.z6.zi.fj,e1.z6.zi.inc,e1.z6.seq,e1.op.text) else some (l0.time,l0.z6.zi.fj,l0.z6.zi.inc,l0.z6.seq,l0.text))):Option (Int×Int×Int×Int×zq)).bind λv11=>some ((GE.mk l0.w7 l0.n v11.1 (GA.mk (GH.mk v11.2.1 v11.2.2.1) v11.2.2.2.1) v11.2.2.2.2 v6 v7),0)) else (if e1.op.kind=3 then ((((xl v7 e1.z6).bind λv29=>(if (!v29) then ((((ra v6 e1.z6).bind λv36=>(if v36 then some v6 else ((zR v6 (GF.mk 0 e1.z6 e1.op.text) (λx0 x1=>yV x0 x1)).bind λv38=>((mQ v6 v38.1 ([(GF.mk 0 e1.z6 e1.op.text)]:List GF)).bind λv39=>some v39)))):Option (List GF)).bind λv31=>some v31) else some v6)):Option (List GF)).bind λv17=>some ((GE.mk l0.w7 l0.n l0.time l0.z6 l0.text v17 v7),0)) else (if e1.op.kind=4 then (((zQ ((v7).length+(e1.op.gX).length<=lim) (((qA (λx y=>xN x y) (v7++e1.op.gX)).bind λv47=>((we v47).bind λv48=>((xV v6 (λx0=>wL x0 e1)).bind λv49=>some (v48,v49)))))):Option ((List GA)×(List GF))).bind λv41=>some ((GE.mk l0.w7 l0.n l0.time l0.z6 l0.text v41.2 v41.1),0)) else (if e1.op.kind=5 then ((((((ra v6 e1.z6).bind λv66=>(if v66 then some v6 else ((zR v6 (GF.mk e1.time e1.z6 e1.op.text) (λx0 x1=>yV x0 x1)).bind λv68=>((mQ v6 v68.1 ([(GF.mk e1.time e1.z6 e1.op.text)]:List GF)).bind λv69=>some v69)))):Option (List GF)).bind λv61=>some v61):Option (List GF)).bind λv51=>some ((GE.mk l0.w7 l0.n l0.time l0.z6 l0.text v51 v7),0)) else some ((GE.mk l0.w7 l0.n l0.time l0.z6 l0.text v6 v7),0)))))))))))))
/-- slices.Insert[varve/api.Tree,varve/api.Node]: mQ -/
def zfF:Unit:=()
def zg (xx0:(List GC)) (target1:zq) (cmp2:(GC->zq->Option Int)):Option (Int×Bool) :=
 (lp (zY (λ(sL1:Int×Int)=>((if (decide (sL1.1 < sL1.2)) then ((zS xx0 (IntKind.wrap .i64 ((Int.fdiv (IntKind.wrap .u64 ((IntKind.wrap .i64 (sL1.1+sL1.2)))) (2 ^ (min (1:Int).toNat (IntKind.bits .u64))))))).bind λy9=>((cmp2 y9 target1).bind λv10=>(if (decide (v10 < 0)) then some (.gV ((IntKind.wrap .i64 ((IntKind.wrap .i64 ((Int.fdiv (IntKind.wrap .u64 ((IntKind.wrap .i64 (sL1.1+sL1.2)))) (2 ^ (min (1:Int).toNat (IntKind.bits .u64))))))+1)),sL1.2)) else some (.gV (sL1.1,(IntKind.wrap .i64 ((Int.fdiv (IntKind.wrap .u64 ((IntKind.wrap .i64 (sL1.1+sL1.2)))) (2 ^ (min (1:Int).toNat (IntKind.bits .u64))))))))))) else some (.brk (sL1.1,sL1.2))):Option (Out _ (Int×Int)))) (0,((xx0).length:Int))) λ(sL1:Int×Int)=>(zQ (((decide (sL1.1 < ((xx0).length:Int)))==true)=true->0<=sL1.1/\sL1.1 < ((xx0).length:Int)) (((if ((decide (sL1.1 < ((xx0).length:Int)))==true) then cmp2 ((xx0).getD sL1.1.toNat default) target1 else some default).bind λv13=>some (sL1.1,((decide (sL1.1 < ((xx0).length:Int)))&&(v13==0)))))))
/-- strings.Compare -/
def r7 (p0:zq) (p1:zq):Option Int:=some (Go.Lib.compareBytes p0 p1)
def mi (nn0:GC) (ss1:zq):Option Int :=
 ((r7 nn0.name ss1).bind λv1=>some v1)
def ob (t0:(List GC)) (name1:zq):Option (Int×Bool) :=
 ((zg t0 name1 (λx0 x1=>mi x0 x1)).bind λv1=>some (v1.1,v1.2))
def zL (xx0:(List GE)) (target1:Int) (cmp2:(GE->Int->Option Int)):Option (Int×Bool) :=
 (lp (zY (λ(s1:Int×Int)=>((if (decide (s1.1 < s1.2)) then ((zS xx0 (IntKind.wrap .i64 ((Int.fdiv (IntKind.wrap .u64 ((IntKind.wrap .i64 (s1.1+s1.2)))) (2 ^ (min (1:Int).toNat (IntKind.bits .u64))))))).bind λy9=>((cmp2 y9 target1).bind λv10=>(if (decide (v10 < 0)) then some (.gV ((IntKind.wrap .i64 ((IntKind.wrap .i64 ((Int.fdiv (IntKind.wrap .u64 ((IntKind.wrap .i64 (s1.1+s1.2)))) (2 ^ (min (1:Int).toNat (IntKind.bits .u64))))))+1)),s1.2)) else some (.gV (s1.1,(IntKind.wrap .i64 ((Int.fdiv (IntKind.wrap .u64 ((IntKind.wrap .i64 (s1.1+s1.2)))) (2 ^ (min (1:Int).toNat (IntKind.bits .u64))))))))))) else some (.brk (s1.1,s1.2))):Option (Out _ (Int×Int)))) (0,((xx0).length:Int))) λ(s1:Int×Int)=>(zQ (((decide (s1.1 < ((xx0).length:Int)))==true)=true->0<=s1.1/\s1.1 < ((xx0).length:Int)) (((if ((decide (s1.1 < ((xx0).length:Int)))==true) then cmp2 ((xx0).getD s1.1.toNat default) target1 else some default).bind λv13=>some (s1.1,((decide (s1.1 < ((xx0).length:Int)))&&(v13==0)))))))
def vU (xx0:GE) (kind1:Int):Option Int :=
 ((wr xx0.w7 kind1).bind λv1=>some v1)
/-- slices.Insert[[]varve/api.Leaf,varve/api.Leaf]: mQ -/
def zjH:Unit:=()
def wG:Nat->(t0:(List GC))->(path1:(List zq))->(l2:GE)->Option (List GC)
 | 0,_,_,_=>none
 | n+1,t0,path1,l2=>((yP t0).bind λv1=>((zS path1 0).bind λy2=>((ob v1 y2).bind λv3=>(if (!v3.2) then ((zS path1 0).bind λy5=>((mQ v1 v3.1 ([(GC.mk y5 ([]:List GE) ([]:List GC))]:List GC)).bind λv6=>((zS v6 v3.1).bind λy7=>(if (decide (((path1).length:Int) > 1)) then ((fL path1 1 ((path1).length:Int)).bind λm10=>((wG n y7.w5 m10 l2).bind λv11=>((zS v6 v3.1).bind λy12=>some (v6.set v3.1.toNat (GC.mk y7.name y7.leaves v11))))) else ((xw y7.leaves).bind λv13=>((zL v13 l2.w7 (λx0 x1=>vU x0 x1)).bind λv14=>(if (!v14.2) then ((mQ v13 v14.1 ([l2]:List GE)).bind λv16=>((zS v16 v14.1).bind λy17=>((zS v6 v3.1).bind λy18=>some (v6.set v3.1.toNat (GC.mk y7.name (v16.set v14.1.toNat l2) y7.w5))))) else ((zS v13 v14.1).bind λy19=>((zS v6 v3.1).bind λy20=>some (v6.set v3.1.toNat (GC.mk y7.name (v13.set v14.1.toNat l2) y7.w5))))))))))) else ((zS v1 v3.1).bind λy21=>(if (decide (((path1).length:Int) > 1)) then ((fL path1 1 ((path1).length:Int)).bind λm24=>((wG n y21.w5 m24 l2).bind λv25=>((zS v1 v3.1).bind λy26=>some (v1.set v3.1.toNat (GC.mk y21.name y21.leaves v25))))) else ((xw y21.leaves).bind λv27=>((zL v27 l2.w7 (λx0 x1=>vU x0 x1)).bind λv28=>(if (!v28.2) then ((mQ v27 v28.1 ([l2]:List GE)).bind λv30=>((zS v30 v28.1).bind λy31=>((zS v1 v3.1).bind λy32=>some (v1.set v3.1.toNat (GC.mk y21.name (v30.set v28.1.toNat l2) y21.w5))))) else ((zS v27 v28.1).bind λy33=>((zS v1 v3.1).bind λy34=>some (v1.set v3.1.toNat (GC.mk y21.name (v27.set v28.1.toNat l2) y21.w5)))))))))))))
def zeh (t0:(List GC)) (path1:(List zq)) (l2:GE):Option (List GC):=ba λn=>wG n t0 path1 l2
def fR (t0:(List GC)) (e1:GJ):Option ((List GC)×Int) :=
 ((uB t0).bind λv1=>((if ((!v1)==false) then qO e1 else some default).bind λv2=>(if ((!v1) || (!v2)) then some (([]:List GC),2) else ((zdw e1.op.kind).bind λv4=>((uu t0 e1.op.path v4).bind λv5=>((oI v5.1 e1).bind λv6=>(if (v6.2 != 0) then some (([]:List GC),v6.2) else ((zeh t0 e1.op.path v6.1).bind λv8=>((mg v8).bind λv9=>some (v9,0))))))))))
def mT (t0:(List GC)) (l1:(List GJ)):Option ((List GC)×Int) :=
 ((uB t0).bind λv1=>((if ((!v1)==false) then yY l1 (λx0=>pr x0) else some default).bind λv2=>(if ((!v1) || v2) then some (([]:List GC),2) else (lp (zf (λ(n1:Nat) (x1:GJ) (s1:List (GA×Int))=>(some (.gV (ut GA.fi s1 x1.z6 (IntKind.wrap .i64 ((zG GA.fi 0 s1 x1.z6)+1)))):Option (Out _ (List (GA×Int))))) l1 0 ([]:List (GA×Int))) λ(s1:List (GA×Int))=>(if (decide (((s1).length:Int) < ((l1).length:Int))) then some (([]:List GC),8) else ((rJ t0 t0 t0).bind λv12=>((tf l1).bind λv13=>(lp (zf (λ(n2:Nat) (x2:GJ) (s2:(List GC))=>(((fR s2 x2).bind λv22=>(if (v22.2 != 0) then some (.ret (([]:List GC),v22.2)) else some (.gV v22.1))):Option (Out _ (List GC)))) v13 0 v12.1) λ(s2:(List GC))=>some (s2,0)))))))))
def tw (g0:GO) (vv1:(List GA)):Option ((List GC)×Int) :=
 ((qX g0 vv1).bind λv1=>(if (v1 != 0) then some (([]:List GC),v1) else ((xL g0).bind λv3=>(lp (zf (λ(n1:Nat) (x1:GI) (s1:(List GJ))=>(((tQ vv1 x1.z6).bind λv13=>(if v13 then ((ri x1).bind λv15=>(zQ ((s1).length+(([v15]:List GJ)).length<=lim) (some (.gV (s1++([v15]:List GJ)))))) else some (.gV s1))):Option (Out _ (List GJ)))) v3 0 ([]:List GJ)) λ(s1:(List GJ))=>((wM g0).bind λv17=>((mT v17.tree s1).bind λv18=>some (v18.1,v18.2)))))))
def vj  : Option Bool :=
 ((((wB (GL.mk (0:Int) ([]:List GA) ([]:List GA) (0:Int) ([]:List GC))).bind λv5=>(if (!v5) then none else ((yv (GL.mk (0:Int) ([]:List GA) ([]:List GA) (0:Int) ([]:List GC))).bind λv7=>some (([]:List (GA×GI)),v7.num,v7.f,v7.g9,v7.time,v7.tree,v7.f)))):Option (List (GA×GI)×Int×(List GA)×(List GA)×Int×(List GC)×(List GA))).bind λv1=>(if ((0:Int) != (0:Int)) then some false else ((yO (0:Int)).bind λv9=>((rT (0:Int) (5:Int) (1:Int) ([v9]:List GA) ([]:List GA)).bind λv10=>((yO (0:Int)).bind λv11=>((yO (1:Int)).bind λv12=>((yO (0:Int)).bind λv13=>((rT (1:Int) (3:Int) (2:Int) ([v11,v12]:List GA) ([v13]:List GA)).bind λv14=>((yO (0:Int)).bind λv15=>((yO (2:Int)).bind λv16=>((yO (0:Int)).bind λv17=>((rT (2:Int) (4:Int) (2:Int) ([v15,v16]:List GA) ([v17]:List GA)).bind λv18=>(zQ ((3:Int)<=9223372036854775807) (lp (zf (λ(n1:Nat) (x1:Nat) (s1:List (GA×GI)×(List GA))=>(((zS ([v10,v14,v18]:List GI) (n1:Int)).bind λy117=>((((ya (GO.mk (GL.mk v1.2.1 v1.2.2.1 v1.2.2.2.1 v1.2.2.2.2.1 v1.2.2.2.2.2.1) s1.1 s1.2)).bind λv162=>(if v162 then some ((1:Int),s1.1,s1.2) else ((tj y117).bind λv164=>(if (!v164) then some ((4:Int),s1.1,s1.2) else ((wE (GO.mk (GL.mk v1.2.1 v1.2.2.1 v1.2.2.2.1 v1.2.2.2.2.1 v1.2.2.2.2.2.1) s1.1 s1.2) y117.z6).bind λv166=>(if v166 then some ((8:Int),s1.1,s1.2) else ((xY (GO.mk (GL.mk v1.2.1 v1.2.2.1 v1.2.2.2.1 v1.2.2.2.2.1 v1.2.2.2.2.2.1) s1.1 s1.2) y117).bind λv168=>(lp (((yg y117.z8 (λx0=>yh x0 (GO.mk (GL.mk v1.2.1 v1.2.2.1 v1.2.2.2.1 v1.2.2.2.2.1 v1.2.2.2.2.2.1) s1.1 s1.2))).bind λv191=>(if v191 then some (.inr v191) else ((if ((decide (y117.z6.seq > (1:Int)))==true) then yh (GA.mk y117.z6.zi (IntKind.wrap .u64 (y117.z6.seq - (1:Int)))) (GO.mk (GL.mk v1.2.1 v1.2.2.1 v1.2.2.2.1 v1.2.2.2.2.1 v1.2.2.2.2.2.1) s1.1 s1.2) else some default).bind λv193=>(if ((decide (y117.z6.seq > (1:Int)))&&v193) then some (.inr ((decide (y117.z6.seq > (1:Int)))&&v193)) else ((wj y117.vV v168).bind λv195=>some (.inr (!v195))))))):Option (_ ⊕ Bool)) λ(s2:Bool)=>(if s2 then some ((9:Int),s1.1,s1.2) else ((wj v168 y117.vV).bind λv197=>((if ((!v197)==false) then xz (GO.mk (GL.mk v1.2.1 v1.2.2.1 v1.2.2.2.1 v1.2.2.2.2.1 v1.2.2.2.2.2.1) s1.1 s1.2) y117 (GA.mk y117.z6.zi (IntKind.wrap .u64 (y117.z6.seq - (1:Int)))) else some default).bind λv198=>(if ((!v197) || (!v198)) then some ((4:Int),s1.1,s1.2) else (if (decide (((s1.1).length:Int) >= (200:Int))) then some ((10:Int),s1.1,s1.2) else ((tc y117).bind λv202=>((qC s1.2 y117.vV).bind λv203=>some ((0:Int),(wx GA.fi s1.1 y117.z6 v202),v203)))))))))))))))):Option (Int×List (GA×GI)×(List GA))).bind λv118=>(if (v118.1 != (0:Int)) then some (.ret false) else some (.gV (v118.2.1,v118.2.2))))):Option (Out _ (List (GA×GI)×(List GA))))) (List.range (((3:Int)).toNat)) 0 (v1.1,v1.2.2.2.2.2.2)) λ(s1:List (GA×GI)×(List GA))=>((yO (0:Int)).bind λv205=>((yO (1:Int)).bind λv206=>((tw (GO.mk (GL.mk v1.2.1 v1.2.2.1 v1.2.2.2.1 v1.2.2.2.2.1 v1.2.2.2.2.2.1) s1.1 s1.2) ([v205,v206]:List GA)).bind λv207=>((ud v207.1 ([([97]:zq)]:List zq) (1:Int)).bind λv208=>((if (((v207.2==(0:Int))&&(v208.1.n==(8:Int)))==true) then yO (1:Int) else some default).bind λv209=>((if (((v207.2==(0:Int))&&(v208.1.n==(8:Int)))==true) then qX (GO.mk (GL.mk v1.2.1 v1.2.2.1 v1.2.2.2.1 v1.2.2.2.2.1 v1.2.2.2.2.2.1) s1.1 s1.2) ([v209]:List GA) else some default).bind λv210=>some (((v207.2==(0:Int))&&(v208.1.n==(8:Int)))&&(v210==(9:Int)))))))))))))))))))))))
def uC (S:Type) (yield0:S->(List GA)->Option (Bool×S)) (cg0:S->(List GA)) (cp0:S->(List GA)->S) (c1:(List GI)) (s0:S):Option S :=
 (lp (zY (λ(s1:Int×S)=>(((yD (cg0 s1.2)).bind λv9=>((yield0 s1.2 v9).bind λv10=>(if (v10.1&&(decide (s1.1 < ((c1).length:Int)))) then ((zS c1 s1.1).bind λy13=>((qC (cg0 v10.2) ([y13.z6]:List GA)).bind λv14=>some (.gV ((IntKind.wrap .i64 (s1.1+1)),cp0 v10.2 v14)))) else some (.brk (s1.1,v10.2))))):Option (Out _ (Int×S)))) (0,s0)) λ(s1:Int×S)=>some s1.2)
def sI (vv0:(List GA)) (l1:(List GI)):Option ((List GA)×(List GI)) :=
 some (vv0,l1)
def vK (g0:GO):Option (List (List GA)) :=
 ((sN g0).bind λv1=>(if v1 then some ([]:List (List GA)) else ((wM g0).bind λv3=>((xL g0).bind λv4=>((sI v3.f v4).bind λv5=>(((((rng (uC _ (am (λ(s1:(List (List GA))×(List GA)) (x1:(List GA))=>((zQ ((s1.1).length+(([x1]:List (List GA))).length<=lim) (some (true,(((s1.1++([x1]:List (List GA))),s1.2),none)))):Option (Bool×(((List (List GA))×(List GA))×Option Nat))))) (λs=>s.1.2) (λs y=>((s.1.1,y),s.2)) v5.2 ((([]:List (List GA)),v5.1),none)) (λ(s1:(List (List GA))×(List GA))=>some (s1.1,s1.2)) (λ_ _=>none)):Option ((List (List GA))×(List GA))).bind λv20=>some (v20.1,v20.2)):Option ((List (List GA))×(List GA))).bind λv6=>some v6.1))))))
def oC (l0:(List GF)) (xx1:GF):Option (List GF) :=
 ((rL l0 xx1.z6).bind λv1=>(if (decide (v1 >= 0)) then (zQ ((([]:List GF)).length+(l0).length<=lim) (some (([]:List GF)++l0))) else (lp (zY (λ(s1:(List GF)×Int)=>((zQ (((decide (s1.2 < ((l0).length:Int)))==true)=true->0<=s1.2/\s1.2 < ((l0).length:Int)) ((zQ (((decide (s1.2 < ((l0).length:Int)))==true)=true->0<=s1.2/\s1.2 < ((l0).length:Int)) (((if ((decide (s1.2 < ((l0).length:Int)))==true) then qL (((l0).getD s1.2.toNat default).time) (((l0).getD s1.2.toNat default).z6) xx1.time xx1.z6 else some default).bind λv21=>(if ((decide (s1.2 < ((l0).length:Int)))&&v21) then ((zS l0 s1.2).bind λy23=>(zQ ((s1.1).length+(([y23]:List GF)).length<=lim) (some (.gV ((s1.1++([y23]:List GF)),(IntKind.wrap .i64 (s1.2+1))))))) else some (.brk (s1.1,s1.2)))))))):Option (Out _ ((List GF)×Int)))) (([]:List GF),0)) λ(s1:(List GF)×Int)=>(zQ ((s1.1).length+(([xx1]:List GF)).length<=lim) (((fL l0 s1.2 ((l0).length:Int)).bind λm26=>(zQ (((s1.1++([xx1]:List GF))).length+(m26).length<=lim) (some ((s1.1++([xx1]:List GF))++m26)))))))))
def rM (l0:(List GA)) (d1:GA):Option (List GA) :=
 ((uf l0 d1).bind λv1=>(if v1 then some l0 else (lp (zY (λ(s1:(List GA)×Int)=>((zQ (((decide (s1.2 < ((l0).length:Int)))==true)=true->0<=s1.2/\s1.2 < ((l0).length:Int)) (((if ((decide (s1.2 < ((l0).length:Int)))==true) then wg ((l0).getD s1.2.toNat default) d1 else some default).bind λv16=>(if ((decide (s1.2 < ((l0).length:Int)))&&v16) then ((zS l0 s1.2).bind λy18=>(zQ ((s1.1).length+(([y18]:List GA)).length<=lim) (some (.gV ((s1.1++([y18]:List GA)),(IntKind.wrap .i64 (s1.2+1))))))) else some (.brk (s1.1,s1.2)))))):Option (Out _ ((List GA)×Int)))) (([]:List GA),0)) λ(s1:(List GA)×Int)=>(zQ ((s1.1).length+(([d1]:List GA)).length<=lim) (((fL l0 s1.2 ((l0).length:Int)).bind λm21=>(zQ (((s1.1++([d1]:List GA))).length+(m21).length<=lim) (some ((s1.1++([d1]:List GA))++m21)))))))))
def oz (l0:(List GF)) (tombs1:(List GA)):Option (List GF) :=
 (lp (zf (λ(n1:Nat) (x1:GF) (s1:(List GF))=>(((uf tombs1 x1.z6).bind λv12=>(if (!v12) then (zQ ((s1).length+(([x1]:List GF)).length<=lim) (some (.gV (s1++([x1]:List GF))))) else some (.gV s1))):Option (Out _ (List GF)))) l0 0 ([]:List GF)) λ(s1:(List GF))=>some s1)
def pi (l0:GE) (e1:GJ):Option (GE×Int) :=
 ((ph l0).bind λv1=>((if ((!v1)==false) then vu e1 else some default).bind λv2=>(if ((!v1) || (!v2)) then some (bL,2) else ((sj e1.op.kind).bind λv4=>(if (v4 != l0.w7) then some (bL,15) else (if (e1.op.kind==1) then some ((GE.mk l0.w7 (IntKind.wrap .i64 (l0.n+e1.op.n)) l0.time l0.z6 l0.text l0.y4 l0.x4),0) else (if (e1.op.kind==2) then ((if ((l0.time==0)==false) then qL l0.time l0.z6 e1.time e1.z6 else some default).bind λv8=>(if ((l0.time==0) || v8) then some ((GE.mk l0.w7 l0.n e1.time e1.z6 e1.op.text l0.y4 l0.x4),0) else some (l0,0))) else (if (e1.op.kind==3) then ((uf l0.x4 e1.z6).bind λv11=>(if (!v11) then ((oC l0.y4 (GF.mk 0 e1.z6 e1.op.text)).bind λv13=>some ((GE.mk l0.w7 l0.n l0.time l0.z6 l0.text v13 l0.x4),0)) else some (l0,0))) else (if (e1.op.kind==4) then (lp (zf (λ(n1:Nat) (x1:GA) (s1:(List GA))=>(((rM s1 x1).bind λv49=>some (.gV v49)):Option (Out _ (List GA)))) e1.op.gX 0 l0.x4) λ(s1:(List GA))=>((oz l0.y4 s1).bind λv50=>some ((GE.mk l0.w7 l0.n l0.time l0.z6 l0.text v50 s1),0))) else (if (e1.op.kind==5) then ((oC l0.y4 (GF.mk e1.time e1.z6 e1.op.text)).bind λv52=>some ((GE.mk l0.w7 l0.n l0.time l0.z6 l0.text v52 l0.x4),0)) else some (l0,0)))))))))))
def wZ:Nat->(t0:(List GC))->(path1:(List zq))->(l2:GE)->Option (List GC)
 | 0,_,_,_=>none
 | n+1,t0,path1,l2=>(lp (zY (λ(s1:(List GC)×Int)=>((zQ (((decide (s1.2 < ((t0).length:Int)))==true)=true->0<=s1.2/\s1.2 < ((t0).length:Int)) ((zQ (((decide (s1.2 < ((t0).length:Int)))==true)=true->0<=(0:Int)/\(0:Int) < ((path1).length:Int)) ((if ((decide (s1.2 < ((t0).length:Int)))&&(Op.bytesLess (((t0).getD s1.2.toNat default).name) ((path1).getD (0:Int).toNat default))) then ((zS t0 s1.2).bind λy22=>(zQ ((s1.1).length+(([y22]:List GC)).length<=lim) (some (.gV ((s1.1++([y22]:List GC)),(IntKind.wrap .i64 (s1.2+(1:Int)))))))) else some (.brk (s1.1,s1.2))))))):Option (Out _ ((List GC)×Int)))) (([]:List GC),(0:Int))) λ(s1:(List GC)×Int)=>((zS path1 (0:Int)).bind λy24=>(lp ((zQ (((decide (s1.2 < ((t0).length:Int)))==true)=true->0<=s1.2/\s1.2 < ((t0).length:Int)) ((zQ (((decide (s1.2 < ((t0).length:Int)))==true)=true->0<=(0:Int)/\(0:Int) < ((path1).length:Int)) ((if ((decide (s1.2 < ((t0).length:Int)))&&(((t0).getD s1.2.toNat default).name==((path1).getD (0:Int).toNat default))) then ((zS t0 s1.2).bind λy34=>some (.inr ((IntKind.wrap .i64 (s1.2+(1:Int))),y34.name,y34.leaves,y34.w5))) else some (.inr (s1.2,y24,([]:List GE),([]:List GC)))))))):Option (_ ⊕ (Int×zq×(List GE)×(List GC)))) λ(s2:Int×zq×(List GE)×(List GC))=>(if (decide (((path1).length:Int) > (1:Int))) then ((fL path1 (1:Int) ((path1).length:Int)).bind λm37=>((wZ n s2.2.2.2 m37 l2).bind λv38=>(zQ ((s1.1).length+(([(GC.mk s2.2.1 s2.2.2.1 v38)]:List GC)).length<=lim) (((fL t0 s2.1 ((t0).length:Int)).bind λm40=>(zQ (((s1.1++([(GC.mk s2.2.1 s2.2.2.1 v38)]:List GC))).length+(m40).length<=lim) (some ((s1.1++([(GC.mk s2.2.1 s2.2.2.1 v38)]:List GC))++m40)))))))) else (lp (zY (λ(s3:(List GE)×Int)=>((zQ (((decide (s3.2 < ((s2.2.2.1).length:Int)))==true)=true->0<=s3.2/\s3.2 < ((s2.2.2.1).length:Int)) ((if ((decide (s3.2 < ((s2.2.2.1).length:Int)))&&(decide (((s2.2.2.1).getD s3.2.toNat default).w7 < l2.w7))) then ((zS s2.2.2.1 s3.2).bind λy64=>(zQ ((s3.1).length+(([y64]:List GE)).length<=lim) (some (.gV ((s3.1++([y64]:List GE)),(IntKind.wrap .i64 (s3.2+(1:Int)))))))) else some (.brk (s3.1,s3.2))))):Option (Out _ ((List GE)×Int)))) (([]:List GE),(0:Int))) λ(s3:(List GE)×Int)=>(zQ (((decide (s3.2 < ((s2.2.2.1).length:Int)))==true)=true->0<=s3.2/\s3.2 < ((s2.2.2.1).length:Int)) ((if ((decide (s3.2 < ((s2.2.2.1).length:Int)))&&(((s2.2.2.1).getD s3.2.toNat default).w7==l2.w7)) then (zQ ((s3.1).length+(([l2]:List GE)).length<=lim) (((fL s2.2.2.1 (IntKind.wrap .i64 (s3.2+(1:Int))) ((s2.2.2.1).length:Int)).bind λm70=>(zQ (((s3.1++([l2]:List GE))).length+(m70).length<=lim) ((zQ ((s1.1).length+(([(GC.mk s2.2.1 ((s3.1++([l2]:List GE))++m70) s2.2.2.2)]:List GC)).length<=lim) (((fL t0 s2.1 ((t0).length:Int)).bind λm73=>(zQ (((s1.1++([(GC.mk s2.2.1 ((s3.1++([l2]:List GE))++m70) s2.2.2.2)]:List GC))).length+(m73).length<=lim) (some ((s1.1++([(GC.mk s2.2.1 ((s3.1++([l2]:List GE))++m70) s2.2.2.2)]:List GC))++m73))))))))))) else (zQ ((s3.1).length+(([l2]:List GE)).length<=lim) (((fL s2.2.2.1 s3.2 ((s2.2.2.1).length:Int)).bind λm76=>(zQ (((s3.1++([l2]:List GE))).length+(m76).length<=lim) ((zQ ((s1.1).length+(([(GC.mk s2.2.1 ((s3.1++([l2]:List GE))++m76) s2.2.2.2)]:List GC)).length<=lim) (((fL t0 s2.1 ((t0).length:Int)).bind λm79=>(zQ (((s1.1++([(GC.mk s2.2.1 ((s3.1++([l2]:List GE))++m76) s2.2.2.2)]:List GC))).length+(m79).length<=lim) (some ((s1.1++([(GC.mk s2.2.1 ((s3.1++([l2]:List GE))++m76) s2.2.2.2)]:List GC))++m79)))))))))))))))))))
def zez (t0:(List GC)) (path1:(List zq)) (l2:GE):Option (List GC):=ba λn=>wZ n t0 path1 l2
def vY (t0:(List GC)) (e1:GJ):Option ((List GC)×Int) :=
 ((ou t0).bind λv1=>((if ((!v1)==false) then vu e1 else some default).bind λv2=>(if ((!v1) || (!v2)) then some (([]:List GC),2) else ((sj e1.op.kind).bind λv4=>((ud t0 e1.op.path v4).bind λv5=>((pi v5.1 e1).bind λv6=>(if (v6.2 != 0) then some (([]:List GC),v6.2) else ((zez t0 e1.op.path v6.1).bind λv8=>some (v8,0)))))))))
def ov (a0:GE) (b1:GE):Option Bool :=
 (if (((((((a0.w7 != b1.w7) || (a0.n != b1.n)) || (a0.time != b1.time)) || (!(a0.z6.zi.fj==b1.z6.zi.fj&&(a0.z6.zi.inc==b1.z6.zi.inc&&(a0.z6.seq==b1.z6.seq&&true))))) || (!(a0.text==b1.text))) || (((a0.y4).length:Int) != ((b1.y4).length:Int))) || (((a0.x4).length:Int) != ((b1.x4).length:Int))) then some false else (lp (zf (λ(n1:Nat) (x1:GF) (s1:Unit)=>(((zS b1.y4 (n1:Int)).bind λy32=>(if (!(x1.time==y32.time&&(x1.z6.zi.fj==y32.z6.zi.fj&&(x1.z6.zi.inc==y32.z6.zi.inc&&(x1.z6.seq==y32.z6.seq&&(x1.text==y32.text&&true)))))) then some (.ret false) else some (.gV ()))):Option (Out _ Unit))) a0.y4 0 ()) λ(s1:Unit)=>(lp (zf (λ(n2:Nat) (x2:GA) (s2:Unit)=>(((zS b1.x4 (n2:Int)).bind λy60=>(if (!(x2.zi.fj==y60.zi.fj&&(x2.zi.inc==y60.zi.inc&&(x2.seq==y60.seq&&true)))) then some (.ret false) else some (.gV ()))):Option (Out _ Unit))) a0.x4 0 ()) λ(s2:Unit)=>some true)))
def uI:Nat->(a0:(List GC))->(b1:(List GC))->Option Bool
 | 0,_,_=>none
 | n+1,a0,b1=>(if (((a0).length:Int) != ((b1).length:Int)) then some false else (lp (zf (λ(n1:Nat) (x1:GC) (s1:Unit)=>(((zS b1 (n1:Int)).bind λy41=>(zQ (((!(x1.name==y41.name))==false)=true->0<=(n1:Int)/\(n1:Int) < ((a0).length:Int)) ((zQ (((!(x1.name==y41.name))==false)=true->0<=(n1:Int)/\(n1:Int) < ((b1).length:Int)) ((zQ ((((!(x1.name==y41.name)) || (((((a0).getD (n1:Int).toNat default).leaves).length:Int) != ((((b1).getD (n1:Int).toNat default).leaves).length:Int)))==false)=true->0<=(n1:Int)/\(n1:Int) < ((a0).length:Int)) ((zQ ((((!(x1.name==y41.name)) || (((((a0).getD (n1:Int).toNat default).leaves).length:Int) != ((((b1).getD (n1:Int).toNat default).leaves).length:Int)))==false)=true->0<=(n1:Int)/\(n1:Int) < ((b1).length:Int)) (((if (((!(x1.name==y41.name)) || (((((a0).getD (n1:Int).toNat default).leaves).length:Int) != ((((b1).getD (n1:Int).toNat default).leaves).length:Int)))==false) then uI n (((a0).getD (n1:Int).toNat default).w5) (((b1).getD (n1:Int).toNat default).w5) else some default).bind λv48=>(if (((!(x1.name==y41.name)) || (((((a0).getD (n1:Int).toNat default).leaves).length:Int) != ((((b1).getD (n1:Int).toNat default).leaves).length:Int))) || (!v48)) then some (.ret false) else (lp (zf (λ(n2:Nat) (x2:GE) (s2:Unit)=>(((zS b1 (n1:Int)).bind λy60=>((zS y60.leaves (n2:Int)).bind λy61=>((ov x2 y61).bind λv62=>(if (!v62) then some (.ret (.ret false)) else some (.gV ()))))):Option (Out _ Unit))) x1.leaves 0 ()) λ(s2:Unit)=>some (.gV ()))))))))))))):Option (Out _ Unit))) a0 0 ()) λ(s1:Unit)=>some true))
def uc (a0:(List GC)) (b1:(List GC)):Option Bool:=ba λn=>uI n a0 b1
def xi (b0:GL) (l1:(List GI)):Option Bool :=
 ((((if (((decide (((l1).length:Int) > (12:Int))) || (decide (((b0.f).length:Int) > (64:Int))))==false) then qK b0.tree else some default).bind λv556=>((if ((((decide (((l1).length:Int) > (12:Int))) || (decide (((b0.f).length:Int) > (64:Int)))) || v556)==false) then q9 b0 else some default).bind λv557=>(if ((((decide (((l1).length:Int) > (12:Int))) || (decide (((b0.f).length:Int) > (64:Int)))) || v556) || (!v557)) then some (.inl ()) else ((((wB b0).bind λv563=>(if (!v563) then none else ((yv b0).bind λv565=>some (([]:List (GA×GI)),v565.num,v565.f,v565.g9,v565.time,v565.tree,v565.f)))):Option (List (GA×GI)×Int×(List GA)×(List GA)×Int×(List GC)×(List GA))).bind λv559=>(lp (zf (λ(n1:Nat) (x1:GI) (s1:List (GA×GI)×(List GA)×(List GI))=>((if (((decide (((x1.z8).length:Int) > (64:Int))) || (decide (((x1.vV).length:Int) > (64:Int)))) || (decide (((x1.op.gX).length:Int) > (100:Int)))) then some (.ret (.inl ())) else ((((ya (GO.mk (GL.mk v559.2.1 v559.2.2.1 v559.2.2.2.1 v559.2.2.2.2.1 v559.2.2.2.2.2.1) s1.1 s1.2.1)).bind λv897=>(if v897 then some ((1:Int),s1.1,s1.2.1) else ((tj x1).bind λv899=>(if (!v899) then some ((4:Int),s1.1,s1.2.1) else ((wE (GO.mk (GL.mk v559.2.1 v559.2.2.1 v559.2.2.2.1 v559.2.2.2.2.1 v559.2.2.2.2.2.1) s1.1 s1.2.1) x1.z6).bind λv901=>(if v901 then some ((8:Int),s1.1,s1.2.1) else ((xY (GO.mk (GL.mk v559.2.1 v559.2.2.1 v559.2.2.2.1 v559.2.2.2.2.1 v559.2.2.2.2.2.1) s1.1 s1.2.1) x1).bind λv903=>(lp (((yg x1.z8 (λx0=>yh x0 (GO.mk (GL.mk v559.2.1 v559.2.2.1 v559.2.2.2.1 v559.2.2.2.2.1 v559.2.2.2.2.2.1) s1.1 s1.2.1))).bind λv926=>(if v926 then some (.inr v926) else ((if ((decide (x1.z6.seq > (1:Int)))==true) then yh (GA.mk x1.z6.zi (IntKind.wrap .u64 (x1.z6.seq - (1:Int)))) (GO.mk (GL.mk v559.2.1 v559.2.2.1 v559.2.2.2.1 v559.2.2.2.2.1 v559.2.2.2.2.2.1) s1.1 s1.2.1) else some default).bind λv928=>(if ((decide (x1.z6.seq > (1:Int)))&&v928) then some (.inr ((decide (x1.z6.seq > (1:Int)))&&v928)) else ((wj x1.vV v903).bind λv930=>some (.inr (!v930))))))):Option (_ ⊕ Bool)) λ(s2:Bool)=>(if s2 then some ((9:Int),s1.1,s1.2.1) else ((wj v903 x1.vV).bind λv932=>((if ((!v932)==false) then xz (GO.mk (GL.mk v559.2.1 v559.2.2.1 v559.2.2.2.1 v559.2.2.2.2.1 v559.2.2.2.2.2.1) s1.1 s1.2.1) x1 (GA.mk x1.z6.zi (IntKind.wrap .u64 (x1.z6.seq - (1:Int)))) else some default).bind λv933=>(if ((!v932) || (!v933)) then some ((4:Int),s1.1,s1.2.1) else (if (decide (((s1.1).length:Int) >= (200:Int))) then some ((10:Int),s1.1,s1.2.1) else ((tc x1).bind λv937=>((qC s1.2.1 x1.vV).bind λv938=>some ((0:Int),(wx GA.fi s1.1 x1.z6 v937),v938)))))))))))))))):Option (Int×List (GA×GI)×(List GA))).bind λv853=>((((ot x1).bind λv1022=>(if (!v1022) then some ((4:Int),s1.2.2) else ((xb (GR.mk b0 s1.2.2) x1.z6).bind λv1024=>(if v1024 then some ((8:Int),s1.2.2) else ((xP (GR.mk b0 s1.2.2) x1 (GA.mk x1.z6.zi (IntKind.wrap .u64 (x1.z6.seq - (1:Int))))).bind λv1026=>(if v1026 then some ((9:Int),s1.2.2) else ((xp (GR.mk b0 s1.2.2) x1 (GA.mk x1.z6.zi (IntKind.wrap .u64 (x1.z6.seq - (1:Int))))).bind λv1028=>(if v1028 then some ((4:Int),s1.2.2) else (if (decide (((s1.2.2).length:Int) >= (200:Int))) then some ((10:Int),s1.2.2) else (lp (zY (λ(s2:Int)=>((zQ (((decide (s2 < ((s1.2.2).length:Int)))==true)=true->0<=s2/\s2 < ((s1.2.2).length:Int)) ((zQ ((((decide (s2 < ((s1.2.2).length:Int)))==true)&&((decide (((s1.2.2).getD s2.toNat default).time < x1.time))==false))=true->0<=s2/\s2 < ((s1.2.2).length:Int)) ((zQ (((((decide (s2 < ((s1.2.2).length:Int)))==true)&&((decide (((s1.2.2).getD s2.toNat default).time < x1.time))==false))&&((((s1.2.2).getD s2.toNat default).time==x1.time)==true))=true->0<=s2/\s2 < ((s1.2.2).length:Int)) (((if ((((decide (s2 < ((s1.2.2).length:Int)))==true)&&((decide (((s1.2.2).getD s2.toNat default).time < x1.time))==false))&&((((s1.2.2).getD s2.toNat default).time==x1.time)==true)) then wg (((s1.2.2).getD s2.toNat default).z6) x1.z6 else some default).bind λv1091=>(if ((decide (s2 < ((s1.2.2).length:Int)))&&((decide (((s1.2.2).getD s2.toNat default).time < x1.time)) || ((((s1.2.2).getD s2.toNat default).time==x1.time)&&v1091))) then some (.gV (IntKind.wrap .i64 (s2+(1:Int)))) else some (.brk s2))))))))):Option (Out _ Int))) (0:Int)) λ(s2:Int)=>((fL s1.2.2 (0:Int) s2).bind λm1093=>(zQ ((([]:List GI)).length+(m1093).length<=lim) ((zQ (((([]:List GI)++m1093)).length+(([x1]:List GI)).length<=lim) (((fL s1.2.2 s2 ((s1.2.2).length:Int)).bind λm1096=>(zQ ((((([]:List GI)++m1093)++([x1]:List GI))).length+(m1096).length<=lim) (some ((0:Int),(((([]:List GI)++m1093)++([x1]:List GI))++m1096)))))))))))))))))))):Option (Int×(List GI))).bind λv939=>some (.gV (v853.2.1,v853.2.2,v939.2))))):Option (Out _ (List (GA×GI)×(List GA)×(List GI))))) l1 0 (v559.1,v559.2.2.2.2.2.2,([]:List GI))) λ(s1:List (GA×GI)×(List GA)×(List GI))=>some (.inr (s1.1,v559.2.1,v559.2.2.1,v559.2.2.2.1,v559.2.2.2.2.1,v559.2.2.2.2.2.1,s1.2.1,b0.num,b0.f,b0.g9,b0.time,b0.tree,s1.2.2))))))):Option (Unit ⊕ (List (GA×GI)×Int×(List GA)×(List GA)×Int×(List GC)×(List GA)×Int×(List GA)×(List GA)×Int×(List GC)×(List GI)))).bind λv1=>Sum.elim (λv1a=>((vj).bind λv1103=>some v1103)) (λv1b=>((vK (GO.mk (GL.mk v1b.2.1 v1b.2.2.1 v1b.2.2.2.1 v1b.2.2.2.2.1 v1b.2.2.2.2.2.1) v1b.1 v1b.2.2.2.2.2.2.1)).bind λv1104=>(zQ (((((v1104).length:Int) != (IntKind.wrap .i64 (((v1b.2.2.2.2.2.2.2.2.2.2.2.2).length:Int)+(1:Int))))==false)=true->0<=(0:Int)/\(0:Int) < ((v1104).length:Int)) (((if ((((v1104).length:Int) != (IntKind.wrap .i64 (((v1b.2.2.2.2.2.2.2.2.2.2.2.2).length:Int)+(1:Int))))==false) then qs ((v1104).getD (0:Int).toNat default) b0.f else some default).bind λv1108=>(zQ ((((((v1104).length:Int) != (IntKind.wrap .i64 (((v1b.2.2.2.2.2.2.2.2.2.2.2.2).length:Int)+(1:Int)))) || (!v1108))==false)=true->0<=((v1b.2.2.2.2.2.2.2.2.2.2.2.2).length:Int)/\((v1b.2.2.2.2.2.2.2.2.2.2.2.2).length:Int) < ((v1104).length:Int)) (((if (((((v1104).length:Int) != (IntKind.wrap .i64 (((v1b.2.2.2.2.2.2.2.2.2.2.2.2).length:Int)+(1:Int)))) || (!v1108))==false) then qb (GO.mk (GL.mk v1b.2.1 v1b.2.2.1 v1b.2.2.2.1 v1b.2.2.2.2.1 v1b.2.2.2.2.2.1) v1b.1 v1b.2.2.2.2.2.2.1) else some default).bind λv1111=>((if (((((v1104).length:Int) != (IntKind.wrap .i64 (((v1b.2.2.2.2.2.2.2.2.2.2.2.2).length:Int)+(1:Int)))) || (!v1108))==false) then qs ((v1104).getD ((v1b.2.2.2.2.2.2.2.2.2.2.2.2).length:Int).toNat default) v1111 else some default).bind λv1112=>(if (((((v1104).length:Int) != (IntKind.wrap .i64 (((v1b.2.2.2.2.2.2.2.2.2.2.2.2).length:Int)+(1:Int)))) || (!v1108)) || (!v1112)) then some false else (lp (zf (λ(n1:Nat) (x1:(List GA)) (s1:(List GC))=>(((tw (GO.mk (GL.mk v1b.2.1 v1b.2.2.1 v1b.2.2.2.1 v1b.2.2.2.2.1 v1b.2.2.2.2.2.1) v1b.1 v1b.2.2.2.2.2.2.1) x1).bind λv1146=>(if (decide ((n1:Int) > (0:Int))) then ((zS v1b.2.2.2.2.2.2.2.2.2.2.2.2 (IntKind.wrap .i64 ((n1:Int) - (1:Int)))).bind λy1148=>((uH y1148).bind λv1149=>((vY s1 v1149).bind λv1150=>((if ((v1146.2 != (0:Int))==false) then uc v1146.1 v1150.1 else some default).bind λv1151=>(if ((v1146.2 != (0:Int)) || (!v1151)) then some (.ret false) else some (.gV v1150.1)))))) else ((if ((v1146.2 != (0:Int))==false) then uc v1146.1 s1 else some default).bind λv1153=>(if ((v1146.2 != (0:Int)) || (!v1153)) then some (.ret false) else some (.gV s1))))):Option (Out _ (List GC)))) v1104 0 b0.tree) λ(s1:(List GC))=>((vj).bind λv1155=>some v1155)))))))))))) v1)
end
end Go.Vv
