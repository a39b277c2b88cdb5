/- What the functions compute, as plain functions; printed by a program from the code. -/
import Derived.Test.YtcdgimmdofbjdaaGreatVvU
import Derived.Test.YtcdgimmdofbjdaaGreatVvMr
import Derived.Test.YtcdgimmdofbjdaaGreatVvSh
import Derived.Test.YtcdgimmdofbjdaaGreatVvSo
import Derived.Test.YtcdgimmdofbjdaaGreatVvSs
set_option linter.all false
open Option renaming some→aa
open Option renaming none→ac
open Decidable renaming decide→ae
open Inhabited renaming default→af
open Go.IntKind renaming wrap→ai
open List renaming length→ak
namespace Go.Vv
noncomputable section
open Go
structure GH where
 fk:Int
 inc:Int
 deriving DecidableEq,Inhabited
def GH.fh(a b:GH):Bool:=(a.fk==b.fk&&(a.inc==b.inc&&true))
structure GA where
 zi:GH
 seq:Int
 deriving DecidableEq,Inhabited
def GA.fh(a b:GA):Bool:=(a.zi.fk==b.zi.fk&&(a.zi.inc==b.zi.inc&&(a.seq==b.seq&&true)))
structure GF where
 time:Int
 z6:GA
 text:zp
 deriving DecidableEq,Inhabited
def GF.fh(a b:GF):Bool:=(a.time==b.time&&(a.z6.zi.fk==b.z6.zi.fk&&(a.z6.zi.inc==b.z6.zi.inc&&(a.z6.seq==b.z6.seq&&(a.text==b.text&&true)))))
structure GE where
 x4:Int
 n:Int
 time:Int
 z6:GA
 text:zp
 z8:(List GF)
 y4:(List GA)
 deriving DecidableEq,Inhabited
structure GC where
 name:zp
 leaves:(List GE)
 wa:(List GC)
 deriving Inhabited
structure GL where
 num:Int
 f:(List GA)
 fb:(List GA)
 time:Int
 tree:(List GC)
 deriving Inhabited
structure GN where
 kind:Int
 path:(List zp)
 n:Int
 text:zp
 gZ:(List GA)
 deriving DecidableEq,Inhabited
structure GI where
 z6:GA
 xo:(List GA)
 vV:(List GA)
 time:Int
 op:GN
 deriving DecidableEq,Inhabited
structure GJ where
 z6:GA
 time:Int
 op:GN
 deriving DecidableEq,Inhabited
structure GR where
 leaf:Int
 may:Nat
 deriving DecidableEq,Inhabited
structure GP where
 base:GL
 g9:(List (GA×GI))
 vv:(List GA)
 deriving Inhabited
structure GS where
 b:GL
 l:(List GI)
 deriving Inhabited
structure GK where
 e:GJ
 aF:Int
 deriving DecidableEq,Inhabited
structure GO where
 path:(List zp)
 l:GE
 deriving DecidableEq,Inhabited
def GH.wf(x:GH):Prop:=(dc .u8 x.fk)/\(dc .u32 x.inc)
def GA.wf(x:GA):Prop:=(GH.wf x.zi)/\(dc .u64 x.seq)
def GF.wf(x:GF):Prop:=(dc .u64 x.time)/\(GA.wf x.z6)/\(ak x.text<=maxLen)
def GE.wf(x:GE):Prop:=(dc .u8 x.x4)/\(dc .i64 x.n)/\(dc .u64 x.time)/\(GA.wf x.z6)/\(ak x.text<=maxLen)/\(ak x.z8<=maxLen/\∀y∈x.z8,GF.wf y)/\(ak x.y4<=maxLen/\∀y∈x.y4,GA.wf y)
mutual
def GC.wf:GC->Prop
 |⟨name,leaves,wa⟩=>(ak name<=maxLen)/\(ak leaves<=maxLen/\∀y∈leaves,GE.wf y)/\(GC.cz wa)
def GC.cz:List GC->Prop
 |[]=>True
 |x::r=>x.wf/\GC.cz r
end
theorem GC.eM(l:List GC):GC.cz l↔∀y∈l,GC.wf y:=by
 induction l with
 |nil=>simp[GC.cz]
 |cons x r ih=>simp[GC.cz,ih]
def GL.wf(x:GL):Prop:=(dc .u64 x.num)/\(ak x.f<=maxLen/\∀y∈x.f,GA.wf y)/\(ak x.fb<=maxLen/\∀y∈x.fb,GA.wf y)/\(dc .u64 x.time)/\(ak x.tree<=maxLen/\∀y∈x.tree,GC.wf y)
def GN.wf(x:GN):Prop:=(dc .u8 x.kind)/\(ak x.path<=maxLen/\∀y∈x.path,ak y<=maxLen)/\(dc .i64 x.n)/\(ak x.text<=maxLen)/\(ak x.gZ<=maxLen/\∀y∈x.gZ,GA.wf y)
def GI.wf(x:GI):Prop:=(GA.wf x.z6)/\(ak x.xo<=maxLen/\∀y∈x.xo,GA.wf y)/\(ak x.vV<=maxLen/\∀y∈x.vV,GA.wf y)/\(dc .u64 x.time)/\(GN.wf x.op)
def GJ.wf(x:GJ):Prop:=(GA.wf x.z6)/\(dc .u64 x.time)/\(GN.wf x.op)
def GS.wf(x:GS):Prop:=(GL.wf x.b)/\(ak x.l<=maxLen/\∀y∈x.l,GI.wf y)
def GK.wf(x:GK):Prop:=(GJ.wf x.e)/\(dc .i64 x.aF)
def GO.wf(x:GO):Prop:=(ak x.path<=maxLen/\∀y∈x.path,ak y<=maxLen)/\(GE.wf x.l)
def GH.bk(x:GH):Nat:=(1+(1+0))+1
def GA.bk(x:GA):Nat:=(GH.bk x.zi+(1+0))+1
def GF.bk(x:GF):Nat:=(1+(GA.bk x.z6+((ak x.text+1)+0)))+1
def GE.bk(x:GE):Nat:=(1+(1+(1+(GA.bk x.z6+((ak x.text+1)+(((x.z8.map GF.bk).sum+1)+(((x.y4.map GA.bk).sum+1)+0)))))))+1
mutual
def GC.bk:GC->Nat
 |⟨name,leaves,wa⟩=>((ak name+1)+(((leaves.map GE.bk).sum+1)+(((GC.e6 wa)+1)+0)))+1
def GC.e6:List GC->Nat
 |[]=>0
 |x::r=>x.bk+GC.e6 r
end
theorem GC.d9(l:List GC):GC.e6 l=(l.map GC.bk).sum:=by
 induction l with
 |nil=>rfl
 |cons x r ih=>simp only[GC.e6,m4,jQ,ih]
def GL.bk(x:GL):Nat:=(1+(((x.f.map GA.bk).sum+1)+(((x.fb.map GA.bk).sum+1)+(1+(((x.tree.map GC.bk).sum+1)+0)))))+1
def GN.bk(x:GN):Nat:=(1+(((x.path.map (λs=>ak s+1)).sum+1)+(1+((ak x.text+1)+(((x.gZ.map GA.bk).sum+1)+0)))))+1
def GI.bk(x:GI):Nat:=(GA.bk x.z6+(((x.xo.map GA.bk).sum+1)+(((x.vV.map GA.bk).sum+1)+(1+(GN.bk x.op+0)))))+1
def GJ.bk(x:GJ):Nat:=(GA.bk x.z6+(1+(GN.bk x.op+0)))+1
def GS.bk(x:GS):Nat:=(GL.bk x.b+(((x.l.map GI.bk).sum+1)+0))+1
def GK.bk(x:GK):Nat:=(GJ.bk x.e+(1+0))+1
def GO.bk(x:GO):Nat:=(((x.path.map (λs=>ak s+1)).sum+1)+(GE.bk x.l+0))+1
abbrev bQ:GE:=GE.mk (0:Int) (0:Int) (0:Int) (GA.mk (GH.mk (0:Int) (0:Int)) (0:Int)) ([]:zp) ([]:List GF) ([]:List GA)
def xK:Nat->(t0:(List GC))->(deep1:Int)->Option Int
 |0,_,_=>ac
 |n+1,t0,deep1=>(lp (ya (λ(s1:Int×Int)=>((if((ae (s1.2<(ak (t0):Int)))&&(ae (deep1<10)))then((zR t0 s1.2).bind λy68=>((zR t0 s1.2).bind λy70=>((xK n y70.wa (ai .i64 (deep1+1))).bind λv71=>(lp (ya (λ(s2:Int×Int)=>(((zR t0 s1.2).bind λy102=>(if(ae (s2.2<(ak (y102.leaves):Int)))then((zR t0 s1.2).bind λy105=>((zR y105.leaves s2.2).bind λy106=>(lp (zf (λ(n3:Nat)(x3:GF) (s3:Int)=>(aa (.gV (ai .i64 ((ai .i64 (s3+1))+(ak (x3.text):Int)))):Option (Out _ Int))) y106.z8 0 (ai .i64 ((ai .i64 ((ai .i64 (s2.1+1))+(ak (y106.text):Int)))+(ak (y106.y4):Int)))) λ(s3:Int)=>aa (.gV (s3,(ai .i64 (s2.2+1)))))))else aa (.brk (s2.1,s2.2)))):Option (Out _ (Int×Int)))) ((ai .i64 ((ai .i64 ((ai .i64 (s1.1+1))+(ak (y68.name):Int)))+v71)),0)) λ(s2:Int×Int)=>aa (.gV (s2.1,(ai .i64 (s1.2+1))))))))else aa (.brk (s1.1,s1.2))):Option (Out _ (Int×Int)))) (0,0)) λ(s1:Int×Int)=>aa s1.1)
def mh(t0:(List GC))(deep1:Int):Option Int:=br λn=>xK n t0 deep1
def uh(t0:(List GC)):Option Bool :=
 ((mh t0 0).bind λv1=>aa (ae (v1 > 1500)))
def pu(a0:(List GA))(b1:(List GA)):Option Bool :=
 (if((ak (a0):Int) != (ak (b1):Int))then aa false else(lp (zf (λ(n1:Nat)(x1:GA) (s1:Unit)=>(((zR b1 (n1:Int)).bind λy12=>(if(!(x1.zi.fk==y12.zi.fk&&(x1.zi.inc==y12.zi.inc&&(x1.seq==y12.seq&&true))))then aa (.ret false)else aa (.gV ()))):Option (Out _ Unit))) a0 0 ()) λ(s1:Unit)=>aa true))
def uS(a0:GH):Option Bool :=
 aa (((ae (a0.fk<=15))&&(ae (a0.inc >= 1)))&&(ae (a0.inc<=4)))
def vz(d0:GA):Option Bool :=
 ((uS d0.zi).bind λv1=>aa ((v1&&(ae (d0.seq >= 1)))&&(ae (d0.seq<=1048576))))
def wy(a0:GA)(b1:GA):Option Bool :=
 (if(a0.zi.fk != b1.zi.fk)then aa (ae (a0.zi.fk<b1.zi.fk))else(if(a0.zi.inc != b1.zi.inc)then aa (ae (a0.zi.inc<b1.zi.inc))else aa (ae (a0.seq<b1.seq))))
def uT(vv0:(List GA))(a1:GH):Option Int :=
 (lp (zf (λ(n1:Nat)(x1:GA) (s1:Int)=>(((vz x1).bind λv15=>(zN ((v15==true)=true->0<=(n1:Int)/\(n1:Int)<(ak (vv0):Int)) ((zN (((v15&&(((vv0).getD (n1:Int).toNat af).zi.fk==a1.fk&&(((vv0).getD (n1:Int).toNat af).zi.inc==a1.inc&&true)))==true)=true->0<=(n1:Int)/\(n1:Int)<(ak (vv0):Int)) ((if((v15&&(((vv0).getD (n1:Int).toNat af).zi.fk==a1.fk&&(((vv0).getD (n1:Int).toNat af).zi.inc==a1.inc&&true)))&&(ae (((vv0).getD (n1:Int).toNat af).seq > s1)))then aa (.gV x1.seq)else aa (.gV s1))))))):Option (Out _ Int))) vv0 0 0) λ(s1:Int)=>aa s1)
def vN(vv0:(List GA)):Option (List GA) :=
 (lp (zf (λ(n1:Nat)(x1:GA) (s1:(List GA))=>(((vz x1).bind λv39=>(zN (((!v39)==false)=true->0<=(n1:Int)/\(n1:Int)<(ak (vv0):Int)) ((zN (((!v39)==false)=true->0<=(n1:Int)/\(n1:Int)<(ak (vv0):Int)) (((if((!v39)==false)then uT vv0 (((vv0).getD (n1:Int).toNat af).zi)else aa af).bind λv42=>(zN ((((!v39) || (((vv0).getD (n1:Int).toNat af).seq != v42))==false)=true->0<=(n1:Int)/\(n1:Int)<(ak (vv0):Int)) (((if(((!v39) || (((vv0).getD (n1:Int).toNat af).seq != v42))==false)then uT s1 (((vv0).getD (n1:Int).toNat af).zi)else aa af).bind λv44=>(if(((!v39) || (((vv0).getD (n1:Int).toNat af).seq != v42)) || (ae (v44 > 0)))then aa (.gV s1)else(lp (ya (λ(s2:Int)=>((zN (((ae (s2<(ak (s1):Int)))==true)=true->0<=s2/\s2<(ak (s1):Int)) ((zN (((ae (s2<(ak (s1):Int)))==true)=true->0<=(n1:Int)/\(n1:Int)<(ak (vv0):Int)) (((if((ae (s2<(ak (s1):Int)))==true)then wy ((s1).getD s2.toNat af) ((vv0).getD (n1:Int).toNat af)else aa af).bind λv55=>(if((ae (s2<(ak (s1):Int)))&&v55)then aa (.gV (ai .i64 (s2+1)))else aa (.brk s2))))))):Option (Out _ Int))) 0) λ(s2:Int)=>((fP s1 0 s2).bind λm57=>(zN (ak (([]:List GA))+ak (m57)<=lim) ((zN (ak ((([]:List GA)++m57))+ak (([x1]:List GA))<=lim) (((fP s1 s2 (ak (s1):Int)).bind λm60=>(zN (ak (((([]:List GA)++m57)++([x1]:List GA)))+ak (m60)<=lim) (aa (.gV (((([]:List GA)++m57)++([x1]:List GA))++m60))))))))))))))))))))):Option (Out _ (List GA)))) vv0 0 ([]:List GA)) λ(s1:(List GA))=>aa s1)
def tK(ss0:zp):Option Bool :=
 (if((ae ((ak (ss0):Int)<1)) || (ae ((ak (ss0):Int) > 12)))then aa false else(lp (zf (λ(n1:Nat)(x1:UInt8) (s1:Unit)=>((if(!((((ae ((x1.toNat:Int) >= 97))&&(ae ((x1.toNat:Int)<=122))) || ((ae ((x1.toNat:Int) >= 65))&&(ae ((x1.toNat:Int)<=90)))) || ((ae ((x1.toNat:Int) >= 48))&&(ae ((x1.toNat:Int)<=57)))))then aa (.ret false)else aa (.gV ())):Option (Out _ Unit))) ss0 0 ()) λ(s1:Unit)=>aa true))
def uB(l0:(List GA))(d1:GA):Option Bool :=
 (lp (zf (λ(n1:Nat)(x1:GA) (s1:Unit)=>((if(x1.zi.fk==d1.zi.fk&&(x1.zi.inc==d1.zi.inc&&(x1.seq==d1.seq&&true)))then aa (.ret true)else aa (.gV ())):Option (Out _ Unit))) l0 0 ()) λ(s1:Unit)=>aa false)
def pt(l0:(List GF))(d1:GA):Option Int :=
 (lp (zf (λ(n1:Nat)(x1:GF) (s1:Unit)=>((if(x1.z6.zi.fk==d1.zi.fk&&(x1.z6.zi.inc==d1.zi.inc&&(x1.z6.seq==d1.seq&&true)))then aa (.ret (n1:Int))else aa (.gV ())):Option (Out _ Unit))) l0 0 ()) λ(s1:Unit)=>aa (-1))
def qp(time0:Int)(d1:GA)(other2:Int)(oo3:GA):Option Bool :=
 (if(time0 != other2)then aa (ae (time0<other2))else((wy d1 oo3).bind λv2=>aa v2))
def vY(l0:GE):Option Bool :=
 (if(((((ae (l0.x4<1)) || (ae (l0.x4 > 4))) || ((l0.x4 != 1)&&(l0.n != 0))) || ((ae (l0.x4<3))&&(ae ((ak (l0.z8):Int) > 0)))) || ((l0.x4 != 3)&&(ae ((ak (l0.y4):Int) > 0))))then aa false else(lp ((if((l0.x4 != 2) || (l0.time==0))then(if(((l0.time != 0) || (!(l0.z6.zi.fk==0&&(l0.z6.zi.inc==0&&(l0.z6.seq==0&&true))))) || (!(l0.text==([]:zp))))then aa (.inl false)else aa (.inr ()))else((if((ae (l0.time > 1099511627776))==false)then vz l0.z6 else aa af).bind λv11=>(if(((ae (l0.time > 1099511627776)) || (!v11)) || (ae ((ak (l0.text):Int) > 40)))then aa (.inl false)else aa (.inr ())))):Option (_ ⊕ Unit)) λ(s1:Unit)=>(lp (zf (λ(n2:Nat)(x2:GF) (s2:Unit)=>(((vz x2.z6).bind λv41=>((if(((((!v41) || (ae ((ak (x2.text):Int) > 40))) || ((l0.x4==3)&&(x2.time != 0))) || ((l0.x4==4)&&((ae (x2.time<1)) || (ae (x2.time > 1099511627776)))))==false)then pt l0.z8 x2.z6 else aa af).bind λv43=>((if((((((!v41) || (ae ((ak (x2.text):Int) > 40))) || ((l0.x4==3)&&(x2.time != 0))) || ((l0.x4==4)&&((ae (x2.time<1)) || (ae (x2.time > 1099511627776))))) || (v43 != (n2:Int)))==false)then uB l0.y4 x2.z6 else aa af).bind λv44=>(if((((((!v41) || (ae ((ak (x2.text):Int) > 40))) || ((l0.x4==3)&&(x2.time != 0))) || ((l0.x4==4)&&((ae (x2.time<1)) || (ae (x2.time > 1099511627776))))) || (v43 != (n2:Int))) || v44)then aa (.ret false)else(zN (((ae ((n2:Int) > 0))==true)=true->0<=(ai .i64 ((n2:Int)-1))/\(ai .i64 ((n2:Int)-1))<(ak (l0.z8):Int)) ((zN (((ae ((n2:Int) > 0))==true)=true->0<=(ai .i64 ((n2:Int)-1))/\(ai .i64 ((n2:Int)-1))<(ak (l0.z8):Int)) (((if((ae ((n2:Int) > 0))==true)then qp (((l0.z8).getD (ai .i64 ((n2:Int)-1)).toNat af).time) (((l0.z8).getD (ai .i64 ((n2:Int)-1)).toNat af).z6) x2.time x2.z6 else aa af).bind λv48=>(if((ae ((n2:Int) > 0))&&(!v48))then aa (.ret false)else aa (.gV ()))))))))))):Option (Out _ Unit))) l0.z8 0 ()) λ(s2:Unit)=>(lp (zf (λ(n3:Nat)(x3:GA) (s3:Unit)=>(((vz x3).bind λv73=>(zN ((((!v73)==false)&&((ae ((n3:Int) > 0))==true))=true->0<=(ai .i64 ((n3:Int)-1))/\(ai .i64 ((n3:Int)-1))<(ak (l0.y4):Int)) ((zN ((((!v73)==false)&&((ae ((n3:Int) > 0))==true))=true->0<=(n3:Int)/\(n3:Int)<(ak (l0.y4):Int)) (((if(((!v73)==false)&&((ae ((n3:Int) > 0))==true))then wy ((l0.y4).getD (ai .i64 ((n3:Int)-1)).toNat af) ((l0.y4).getD (n3:Int).toNat af)else aa af).bind λv76=>(if((!v73) || ((ae ((n3:Int) > 0))&&(!v76)))then aa (.ret false)else aa (.gV ())))))))):Option (Out _ Unit))) l0.y4 0 ()) λ(s3:Unit)=>aa true))))
def ue:Nat->(t0:(List GC))->(deep1:Int)->Option Bool
 |0,_,_=>ac
 |n+1,t0,deep1=>(lp (zf (λ(n1:Nat)(x1:GC) (s1:Unit)=>(((if((ae (deep1 >= 3))==false)then tK x1.name else aa af).bind λv31=>(zN (((((ae (deep1 >= 3)) || (!v31))==false)&&((ae ((n1:Int) > 0))==true))=true->0<=(ai .i64 ((n1:Int)-1))/\(ai .i64 ((n1:Int)-1))<(ak (t0):Int)) (((if(((((ae (deep1 >= 3)) || (!v31)) || ((ae ((n1:Int) > 0))&&(!(Op.bytesLess (((t0).getD (ai .i64 ((n1:Int)-1)).toNat af).name) x1.name)))) || (((ak (x1.leaves):Int)==0)&&((ak (x1.wa):Int)==0)))==false)then ue n x1.wa (ai .i64 (deep1+1))else aa af).bind λv35=>(if(((((ae (deep1 >= 3)) || (!v31)) || ((ae ((n1:Int) > 0))&&(!(Op.bytesLess (((t0).getD (ai .i64 ((n1:Int)-1)).toNat af).name) x1.name)))) || (((ak (x1.leaves):Int)==0)&&((ak (x1.wa):Int)==0))) || (!v35))then aa (.ret false)else(lp (zf (λ(n2:Nat)(x2:GE) (s2:Unit)=>(((vY x2).bind λv50=>(zN ((((!v50)==false)&&((ae ((n2:Int) > 0))==true))=true->0<=(ai .i64 ((n2:Int)-1))/\(ai .i64 ((n2:Int)-1))<(ak (x1.leaves):Int)) ((zN ((((!v50)==false)&&((ae ((n2:Int) > 0))==true))=true->0<=(n2:Int)/\(n2:Int)<(ak (x1.leaves):Int)) ((if((!v50) || ((ae ((n2:Int) > 0))&&(ae (((x1.leaves).getD (ai .i64 ((n2:Int)-1)).toNat af).x4 >= ((x1.leaves).getD (n2:Int).toNat af).x4))))then aa (.ret (.ret false))else aa (.gV ()))))))):Option (Out _ Unit))) x1.leaves 0 ()) λ(s2:Unit)=>aa (.gV ()))))))):Option (Out _ Unit))) t0 0 ()) λ(s1:Unit)=>aa true)
def zcQ(t0:(List GC))(deep1:Int):Option Bool:=br λn=>ue n t0 deep1
def se(t0:(List GC)):Option Bool :=
 ((zcQ t0 0).bind λv1=>aa v1)
def uj(vv0:(List GA))(d1:GA):Option Bool :=
 ((vz d1).bind λv1=>((if(v1==true)then uT vv0 d1.zi else aa af).bind λv2=>aa (v1&&(ae (d1.seq<=v2)))))
def uy(b0:GL):Option Bool :=
 ((vN b0.f).bind λv1=>((pu v1 b0.f).bind λv2=>((if((((!v2) || (ae ((ak (b0.fb):Int) > 64))) || (ae (b0.time > 1099511627776)))==false)then se b0.tree else aa af).bind λv4=>(if((((!v2) || (ae ((ak (b0.fb):Int) > 64))) || (ae (b0.time > 1099511627776))) || (!v4))then aa false else(lp (zf (λ(n1:Nat)(x1:GA) (s1:Unit)=>(((uj b0.f x1).bind λv22=>(zN ((((!v22)==false)&&((ae ((n1:Int) > 0))==true))=true->0<=(ai .i64 ((n1:Int)-1))/\(ai .i64 ((n1:Int)-1))<(ak (b0.fb):Int)) ((zN ((((!v22)==false)&&((ae ((n1:Int) > 0))==true))=true->0<=(n1:Int)/\(n1:Int)<(ak (b0.fb):Int)) (((if(((!v22)==false)&&((ae ((n1:Int) > 0))==true))then wy ((b0.fb).getD (ai .i64 ((n1:Int)-1)).toNat af) ((b0.fb).getD (n1:Int).toNat af)else aa af).bind λv25=>(if((!v22) || ((ae ((n1:Int) > 0))&&(!v25)))then aa (.ret false)else aa (.gV ())))))))):Option (Out _ Unit))) b0.fb 0 ()) λ(s1:Unit)=>(if((ak (b0.f):Int)==0)then aa ((b0.time==0)&&((ak (b0.fb):Int)==0))else aa ((ae (b0.time > 0))&&(ae ((ak (b0.fb):Int) > 0)))))))))
def qm(ss0:(List GA))(f1:(GA->Option Bool)):Option Int :=
 (lp (zf (λ(n1:Nat)(x1:GA) (s1:Unit)=>(((f1 x1).bind λv7=>(if v7 then aa (.ret (n1:Int))else aa (.gV ()))):Option (Out _ Unit))) ss0 0 ()) λ(s1:Unit)=>aa (-1))
def yh(ss0:(List GA))(f1:(GA->Option Bool)):Option Bool :=
 ((qm ss0 f1).bind λv1=>aa (ae (v1 >= 0)))
def zaz(a0:GH):Option Bool :=
 aa (((ae (a0.fk<16))&&(ae (a0.inc >= 1)))&&(ae (a0.inc<=4)))
def om(d0:GA):Option Bool :=
 ((zaz d0.zi).bind λv1=>aa ((v1&&(ae (d0.seq >= 1)))&&(ae (d0.seq<=1048576))))
def xr(vv0:(List GA)):Option (List (GH×Int)) :=
 (lp (zf (λ(n1:Nat)(x1:GA) (s1:List (GH×Int))=>(((om x1).bind λv8=>(if v8 then aa (.gV (wM GH.fh s1 x1.zi (if x1.seq > (zG GH.fh 0 s1 x1.zi)then x1.seq else(zG GH.fh 0 s1 x1.zi))))else aa (.gV s1))):Option (Out _ (List (GH×Int))))) vv0 0 ([]:List (GH×Int))) λ(s1:List (GH×Int))=>aa s1)
def zeN(vv0:(List GA))(a1:GH):Option Int :=
 ((xr vv0).bind λv1=>aa (zG GH.fh 0 v1 a1))
def sH(vv0:(List GA))(d1:GA):Option Bool :=
 ((om d1).bind λv1=>((if(v1==true)then zeN vv0 d1.zi else aa af).bind λv2=>aa (v1&&(ae (d1.seq<=v2)))))
def sB(d0:GA)(c0:GL):Option Bool :=
 ((sH c0.f d0).bind λv1=>aa (!v1))
def qH(xx0:Int):Option Bool :=
 aa (xx0 != xx0)
def wg(xx0:Int)(yy1:Int):Option Int :=
 ((qH xx0).bind λv1=>((qH yy1).bind λv2=>(if v1 then(if v2 then aa 0 else aa (-1))else(if v2 then aa 1 else(if(ae (xx0<yy1))then aa (-1)else(if(ae (xx0 > yy1))then aa 1 else aa 0))))))
def r7(vals0:(List Int)):Option Int :=
 (lp (zf (λ(n1:Nat)(x1:Int) (s1:Unit)=>((if(x1 != 0)then aa (.ret x1)else aa (.gV ())):Option (Out _ Unit))) vals0 0 ()) λ(s1:Unit)=>aa 0)
def uq(xx0:Int):Option Bool :=
 aa (xx0 != xx0)
def wJ(xx0:Int)(yy1:Int):Option Int :=
 ((uq xx0).bind λv1=>((uq yy1).bind λv2=>(if v1 then(if v2 then aa 0 else aa (-1))else(if v2 then aa 1 else(if(ae (xx0<yy1))then aa (-1)else(if(ae (xx0 > yy1))then aa 1 else aa 0))))))
def qI(xx0:Int):Option Bool :=
 aa (xx0 != xx0)
def qe(xx0:Int)(yy1:Int):Option Int :=
 ((qI xx0).bind λv1=>((qI yy1).bind λv2=>(if v1 then(if v2 then aa 0 else aa (-1))else(if v2 then aa 1 else(if(ae (xx0<yy1))then aa (-1)else(if(ae (xx0 > yy1))then aa 1 else aa 0))))))
def uo(a0:GH)(b1:GH):Option Int :=
 ((wJ a0.fk b1.fk).bind λv1=>((qe a0.inc b1.inc).bind λv2=>((r7 ([v1,v2]:List Int)).bind λv3=>aa v3)))
def xR(a0:GA)(b1:GA):Option Int :=
 ((uo a0.zi b1.zi).bind λv1=>((wg a0.seq b1.seq).bind λv2=>((r7 ([v1,v2]:List Int)).bind λv3=>aa v3)))
def sA(l0:(List GA)):Option Bool :=
 (lp (ya (λ(s1:Int)=>((if(ae (s1<(ak (l0):Int)))then((zR l0 (ai .i64 (s1-1))).bind λy10=>((zR l0 s1).bind λy11=>((xR y10 y11).bind λv12=>(if(ae (v12 >= 0))then aa (.ret false)else aa (.gV (ai .i64 (s1+1)))))))else aa (.brk s1)):Option (Out _ Int))) 1) λ(s1:Int)=>aa true)
def rT(nn0:Int):Option Bool :=
 aa ((ae (nn0 >= 1))&&(ae (nn0<=1099511627776)))
def tP(ss0:zp):Option Bool :=
 aa (ae ((ak (ss0):Int)<=40))
def pY(l0:(List GF)):Option Bool :=
 (lp (zf (λ(n1:Nat)(x1:GF) (s1:List (GA×Int))=>(aa (.gV (uN GA.fh s1 x1.z6 (ai .i64 ((zG GA.fh 0 s1 x1.z6)+1)))):Option (Out _ (List (GA×Int))))) l0 0 ([]:List (GA×Int))) λ(s1:List (GA×Int))=>aa (ae ((ak (s1):Int)<(ak (l0):Int))))
def uE(a0:Int)(d1:GA)(b2:Int)(oo3:GA):Option Int :=
 ((wg a0 b2).bind λv1=>((xR d1 oo3).bind λv2=>((r7 ([v1,v2]:List Int)).bind λv3=>aa v3)))
def qM(time0:Int)(d1:GA)(other2:Int)(oo3:GA):Option Bool :=
 ((uE time0 d1 other2 oo3).bind λv1=>aa (ae (v1<0)))
def rf(l0:(List GF))(timed1:Bool):Option Bool :=
 (lp (zf (λ(n1:Nat)(x1:GF) (s1:Unit)=>(((om x1.z6).bind λv13=>((if((!v13)==false)then tP x1.text else aa af).bind λv14=>((if(((!v13) || (!v14))==false)then rT x1.time else aa af).bind λv15=>(if((((!v13) || (!v14)) || (!(timed1==v15))) || ((!timed1)&&(x1.time != 0)))then aa (.ret false)else(zN (((ae ((n1:Int) > 0))==true)=true->0<=(ai .i64 ((n1:Int)-1))/\(ai .i64 ((n1:Int)-1))<(ak (l0):Int)) ((zN (((ae ((n1:Int) > 0))==true)=true->0<=(ai .i64 ((n1:Int)-1))/\(ai .i64 ((n1:Int)-1))<(ak (l0):Int)) (((if((ae ((n1:Int) > 0))==true)then qM (((l0).getD (ai .i64 ((n1:Int)-1)).toNat af).time) (((l0).getD (ai .i64 ((n1:Int)-1)).toNat af).z6) x1.time x1.z6 else aa af).bind λv19=>(if((ae ((n1:Int) > 0))&&(!v19))then aa (.ret false)else aa (.gV ()))))))))))):Option (Out _ Unit))) l0 0 ()) λ(s1:Unit)=>((pY l0).bind λv21=>aa (!v21)))
def yA(ss0:(List GF))(f1:(GF->Option Bool)):Option Int :=
 (lp (zf (λ(n1:Nat)(x1:GF) (s1:Unit)=>(((f1 x1).bind λv7=>(if v7 then aa (.ret (n1:Int))else aa (.gV ()))):Option (Out _ Unit))) ss0 0 ()) λ(s1:Unit)=>aa (-1))
def xQ(ss0:(List GF))(f1:(GF->Option Bool)):Option Bool :=
 ((yA ss0 f1).bind λv1=>aa (ae (v1 >= 0)))
def mu(xx0:GF)(c0:GA):Option Bool :=
 aa (xx0.z6.zi.fk==c0.zi.fk&&(xx0.z6.zi.inc==c0.zi.inc&&(xx0.z6.seq==c0.seq&&true)))
def rU(l0:(List GF))(d1:GA):Option Bool :=
 ((xQ l0 (λx0=>mu x0 d1)).bind λv1=>aa v1)
def pZ(l0:GE):Option Bool :=
 (lp (zf (λ(n1:Nat)(x1:GA) (s1:Unit)=>(((om x1).bind λv19=>(zN ((((!v19)==false)&&((ae ((n1:Int) > 0))==true))=true->0<=(ai .i64 ((n1:Int)-1))/\(ai .i64 ((n1:Int)-1))<(ak (l0.y4):Int)) (((if(((!v19)==false)&&((ae ((n1:Int) > 0))==true))then xR ((l0.y4).getD (ai .i64 ((n1:Int)-1)).toNat af) x1 else aa af).bind λv21=>((if(((!v19) || ((ae ((n1:Int) > 0))&&(ae (v21 >= 0))))==false)then rU l0.z8 x1 else aa af).bind λv22=>(if(((!v19) || ((ae ((n1:Int) > 0))&&(ae (v21 >= 0)))) || v22)then aa (.ret false)else aa (.gV ()))))))):Option (Out _ Unit))) l0.y4 0 ()) λ(s1:Unit)=>aa true)
def qz(s10:(List GF))(s21:(List GF)):Option Bool :=
 (if((ak (s10):Int) != (ak (s21):Int))then aa false else(lp (zf (λ(n1:Nat)(x1:GF) (s1:Unit)=>(((zR s21 (n1:Int)).bind λy10=>(if(!(x1.time==y10.time&&(x1.z6.zi.fk==y10.z6.zi.fk&&(x1.z6.zi.inc==y10.z6.zi.inc&&(x1.z6.seq==y10.z6.seq&&(x1.text==y10.text&&true))))))then aa (.ret false)else aa (.gV ()))):Option (Out _ Unit))) s10 0 ()) λ(s1:Unit)=>aa true))
def ud(s10:(List GA))(s21:(List GA)):Option Bool :=
 (if((ak (s10):Int) != (ak (s21):Int))then aa false else(lp (zf (λ(n1:Nat)(x1:GA) (s1:Unit)=>(((zR s21 (n1:Int)).bind λy10=>(if(!(x1.zi.fk==y10.zi.fk&&(x1.zi.inc==y10.zi.inc&&(x1.seq==y10.seq&&true))))then aa (.ret false)else aa (.gV ()))):Option (Out _ Unit))) s10 0 ()) λ(s1:Unit)=>aa true))
def rW(a0:GE)(b1:GE):Option Bool :=
 ((if((((((a0.x4==b1.x4)&&(a0.n==b1.n))&&(a0.time==b1.time))&&(a0.z6.zi.fk==b1.z6.zi.fk&&(a0.z6.zi.inc==b1.z6.zi.inc&&(a0.z6.seq==b1.z6.seq&&true))))&&(a0.text==b1.text))==true)then qz a0.z8 b1.z8 else aa af).bind λv1=>((if(((((((a0.x4==b1.x4)&&(a0.n==b1.n))&&(a0.time==b1.time))&&(a0.z6.zi.fk==b1.z6.zi.fk&&(a0.z6.zi.inc==b1.z6.zi.inc&&(a0.z6.seq==b1.z6.seq&&true))))&&(a0.text==b1.text))&&v1)==true)then ud a0.y4 b1.y4 else aa af).bind λv2=>aa (((((((a0.x4==b1.x4)&&(a0.n==b1.n))&&(a0.time==b1.time))&&(a0.z6.zi.fk==b1.z6.zi.fk&&(a0.z6.zi.inc==b1.z6.zi.inc&&(a0.z6.seq==b1.z6.seq&&true))))&&(a0.text==b1.text))&&v1)&&v2)))
def sq(l0:GE):Option Bool :=
 (if(l0.x4==1)then((rW l0 (GE.mk l0.x4 l0.n 0 (GA.mk (GH.mk 0 0) 0) ([]:zp) ([]:List GF) ([]:List GA))).bind λv2=>aa v2)else(if(l0.x4==2)then((if((l0.time != 0)==true)then rT l0.time else aa af).bind λv4=>((if(((l0.time != 0)==true)&&(v4==true))then om l0.z6 else aa af).bind λv5=>((if(((l0.time != 0)==true)&&((v4&&v5)==true))then tP l0.text else aa af).bind λv6=>(if(((l0.time != 0)&&(!((v4&&v5)&&v6))) || ((l0.time==0)&&((!(l0.z6.zi.fk==0&&(l0.z6.zi.inc==0&&(l0.z6.seq==0&&true)))) || (!(l0.text==([]:zp))))))then aa false else((rW l0 (GE.mk l0.x4 0 l0.time l0.z6 l0.text ([]:List GF) ([]:List GA))).bind λv8=>aa v8)))))else(if(l0.x4==3)then((rf l0.z8 false).bind λv10=>((if((!v10)==false)then pZ l0 else aa af).bind λv11=>(if((!v10) || (!v11))then aa false else((rW l0 (GE.mk l0.x4 0 0 (GA.mk (GH.mk 0 0) 0) ([]:zp) l0.z8 l0.y4)).bind λv13=>aa v13))))else(if(l0.x4==4)then((rf l0.z8 true).bind λv15=>(if(!v15)then aa false else((rW l0 (GE.mk l0.x4 0 0 (GA.mk (GH.mk 0 0) 0) ([]:zp) l0.z8 ([]:List GA))).bind λv17=>aa v17)))else aa false))))
def s9(rr0:Int):Option Bool :=
 aa ((((ae (rr0<97)) || (ae (rr0 > 122)))&&((ae (rr0<65)) || (ae (rr0 > 90))))&&((ae (rr0<48)) || (ae (rr0 > 57))))
def qS(ss0:zp)(f1:(Int->Option Bool))(truth2:Bool):Option Int :=
 (lp (ya (λ(s1:Nat)=>((if s1<(ak (ss0))then((f1 ((dec ss0 s1).1:Int)).bind λv6=>(if(v6==truth2)then aa (.ret (s1:Int))else aa (.gV (s1+(dec ss0 s1).2))))else aa (.brk s1)):Option (Out _ Nat))) 0) λ(s1:Nat)=>aa (-1))
def uv(ss0:zp)(f1:(Int->Option Bool)):Option Int :=
 ((qS ss0 f1 true).bind λv1=>aa v1)
def wL(ss0:zp)(f1:(Int->Option Bool)):Option Bool :=
 ((uv ss0 f1).bind λv1=>aa (ae (v1 >= 0)))
def nA(ss0:zp):Option Bool :=
 ((if(((ae ((ak (ss0):Int) >= 1))&&(ae ((ak (ss0):Int)<=12)))==true)then wL ss0 (λx0=>s9 x0)else aa af).bind λv3=>aa (((ae ((ak (ss0):Int) >= 1))&&(ae ((ak (ss0):Int)<=12)))&&(!v3)))
def tF:Nat->(t0:(List GC))->(deep1:Int)->Option Bool
 |0,_,_=>ac
 |n+1,t0,deep1=>(if((ae ((ak (t0):Int) > 0))&&(deep1==3))then aa false else(lp (zf (λ(n1:Nat)(x1:GC) (s1:Unit)=>(((nA x1.name).bind λv27=>(zN ((((!v27)==false)&&((ae ((n1:Int) > 0))==true))=true->0<=(ai .i64 ((n1:Int)-1))/\(ai .i64 ((n1:Int)-1))<(ak (t0):Int)) (((if((((!v27) || ((ae ((n1:Int) > 0))&&(!(Op.bytesLess (((t0).getD (ai .i64 ((n1:Int)-1)).toNat af).name) x1.name)))) || ((ai .i64 ((ak (x1.leaves):Int)+(ak (x1.wa):Int)))==0))==false)then tF n x1.wa (ai .i64 (deep1+1))else aa af).bind λv31=>(if((((!v27) || ((ae ((n1:Int) > 0))&&(!(Op.bytesLess (((t0).getD (ai .i64 ((n1:Int)-1)).toNat af).name) x1.name)))) || ((ai .i64 ((ak (x1.leaves):Int)+(ak (x1.wa):Int)))==0)) || (!v31))then aa (.ret false)else(lp (zf (λ(n2:Nat)(x2:GE) (s2:Unit)=>(((sq x2).bind λv43=>(zN ((((!v43)==false)&&((ae ((n2:Int) > 0))==true))=true->0<=(ai .i64 ((n2:Int)-1))/\(ai .i64 ((n2:Int)-1))<(ak (x1.leaves):Int)) ((if((!v43) || ((ae ((n2:Int) > 0))&&(ae (((x1.leaves).getD (ai .i64 ((n2:Int)-1)).toNat af).x4 >= x2.x4))))then aa (.ret (.ret false))else aa (.gV ()))))):Option (Out _ Unit))) x1.leaves 0 ()) λ(s2:Unit)=>aa (.gV ()))))))):Option (Out _ Unit))) t0 0 ()) λ(s1:Unit)=>aa true))
def zfc(t0:(List GC))(deep1:Int):Option Bool:=br λn=>tF n t0 deep1
def uZ(t0:(List GC)):Option Bool :=
 ((zfc t0 0).bind λv1=>aa v1)
def xG(s10:(List GA))(s21:(List GA)):Option Bool :=
 (if((ak (s10):Int) != (ak (s21):Int))then aa false else(lp (zf (λ(n1:Nat)(x1:GA) (s1:Unit)=>(((zR s21 (n1:Int)).bind λy10=>(if(!(x1.zi.fk==y10.zi.fk&&(x1.zi.inc==y10.zi.inc&&(x1.seq==y10.seq&&true))))then aa (.ret false)else aa (.gV ()))):Option (Out _ Unit))) s10 0 ()) λ(s1:Unit)=>aa true))
def zaa(ss0:(List GH))(seq1:(S:Type)->(S->GH->Option (Bool×S))->S->Option S):Option (List GH) :=
 (rng (seq1 _ (stp (λ(s1:(List GH)) (x1:GH)=>((zN (ak (s1)+ak (([x1]:List GH))<=lim) (aa (true,((s1++([x1]:List GH)),ac)))):Option (Bool×((List GH)×Option Nat))))) (ss0,ac)) (λ(s1:(List GH))=>aa s1) (λ_ _=>ac))
def zjt(seq0:(S:Type)->(S->GH->Option (Bool×S))->S->Option S):Option (List GH) :=
 ((zaa ([]:List GH) seq0).bind λv1=>aa v1)
/-- slices.SortFunc[[]varve/api.Actor,varve/api.Actor]: qT -/
def zhZ:Unit:=()
def qv(mm0:List (GH×Int)):Option (List GA) :=
 (((zN (ak (mm0)<=lim) (bq mm0 (λ(p8:List (GH×Int))=>((qT (λx y=>uo x y) (p8.map (λx=>x.1))).bind λv10=>aa v10)))):Option (List GH)).bind λv2=>(zN (((ak (v2):Nat):Int)<=9223372036854775807) (lp (zf (λ(n1:Nat)(x1:Nat) (s1:(List GA))=>(((zR v2 (n1:Int)).bind λy19=>(if(ae ((zG GH.fh 0 mm0 y19) > 0))then(zN (ak (s1)+ak (([(GA.mk y19 (zG GH.fh 0 mm0 y19))]:List GA))<=lim) (aa (.gV (s1++([(GA.mk y19 (zG GH.fh 0 mm0 y19))]:List GA)))))else aa (.gV s1))):Option (Out _ (List GA)))) (List.range ((((ak (v2):Nat):Int)).toNat)) 0 ([]:List GA)) λ(s1:(List GA))=>aa s1)))
def rY(vv0:(List GA)):Option (List GA) :=
 ((xr vv0).bind λv1=>((qv v1).bind λv2=>aa v2))
def wQ(b0:GL):Option Bool :=
 ((rY b0.f).bind λv1=>((xG v1 b0.f).bind λv2=>((if(((!v2) || (ae ((ak (b0.fb):Int) > 64)))==false)then sA b0.fb else aa af).bind λv4=>((if((((!v2) || (ae ((ak (b0.fb):Int) > 64))) || (!v4))==false)then yh b0.fb (λx0=>sB x0 b0)else aa af).bind λv5=>(if((((!v2) || (ae ((ak (b0.fb):Int) > 64))) || (!v4)) || v5)then aa false else((if((((ae (b0.time<=1099511627776))&&((ae ((ak (b0.f):Int) > 0))==(ae (b0.time > 0))))&&((ae ((ak (b0.f):Int) > 0))==(ae ((ak (b0.fb):Int) > 0))))==true)then uZ b0.tree else aa af).bind λv9=>aa ((((ae (b0.time<=1099511627776))&&((ae ((ak (b0.f):Int) > 0))==(ae (b0.time > 0))))&&((ae ((ak (b0.f):Int) > 0))==(ae ((ak (b0.fb):Int) > 0))))&&v9)))))))
def ym(ss0:(List GA)):Option (List GA) :=
 (b5 ss0 λb1=>(if b1 then aa ([]:List GA)else(zN (ak (([]:List GA))+ak (ss0)<=lim) (aa (([]:List GA)++ss0)))))
def yR(ss0:(List GC)):Option (List GC) :=
 (b5 ss0 λb1=>(if b1 then aa ([]:List GC)else(zN (ak (([]:List GC))+ak (ss0)<=lim) (aa (([]:List GC)++ss0)))))
def xB(ss0:(List GE)):Option (List GE) :=
 (b5 ss0 λb1=>(if b1 then aa ([]:List GE)else(zN (ak (([]:List GE))+ak (ss0)<=lim) (aa (([]:List GE)++ss0)))))
def yN(ss0:(List GF)):Option (List GF) :=
 (b5 ss0 λb1=>(if b1 then aa ([]:List GF)else(zN (ak (([]:List GF))+ak (ss0)<=lim) (aa (([]:List GF)++ss0)))))
def x9:Nat->(t0:(List GC))->Option (List GC)
 |0,_=>ac
 |n+1,t0=>((yR t0).bind λv1=>(zN (((ak (v1):Nat):Int)<=9223372036854775807) (lp (zf (λ(n1:Nat)(x1:Nat) (s1:(List GC))=>((zN (ak (s1)=ak (v1)) (((zR s1 (n1:Int)).bind λy30=>((xB y30.leaves).bind λv31=>(zN (((ak (v31):Nat):Int)<=9223372036854775807) (lp (zf (λ(n2:Nat)(x2:Nat) (s2:(List GE))=>((zN (ak (s2)=ak (v31)) (((zR s2 (n2:Int)).bind λy45=>((yN y45.z8).bind λv46=>((zR s2 (n2:Int)).bind λy47=>((ym y47.y4).bind λv48=>((zR s2 (n2:Int)).bind λy49=>((zR (s2.set (n2:Int).toNat (GE.mk y49.x4 y49.n y49.time y49.z6 y49.text v46 y49.y4)) (n2:Int)).bind λy50=>aa (.gV ((s2.set (n2:Int).toNat (GE.mk y49.x4 y49.n y49.time y49.z6 y49.text v46 y49.y4)).set (n2:Int).toNat (GE.mk y50.x4 y50.n y50.time y50.z6 y50.text y50.z8 v48))))))))))):Option (Out _ (List GE)))) (List.range ((((ak (v31):Nat):Int)).toNat)) 0 v31) λ(s2:(List GE))=>(zN (ak (s2)=ak (v31)) (((x9 n y30.wa).bind λv51=>((zR s1 (n1:Int)).bind λy52=>aa (.gV (s1.set (n1:Int).toNat (GC.mk y30.name s2 v51))))))))))))):Option (Out _ (List GC)))) (List.range ((((ak (v1):Nat):Int)).toNat)) 0 v1) λ(s1:(List GC))=>(zN (ak (s1)=ak (v1)) (aa s1)))))
def pf(t0:(List GC)):Option (List GC):=br λn=>x9 n t0
def uX(t0:(List GC)):Option (List GC) :=
 ((pf t0).bind λv1=>aa v1)
def xH(ss0:(List GA)):Option (List GA) :=
 (b5 ss0 λb1=>(if b1 then aa ([]:List GA)else(zN (ak (([]:List GA))+ak (ss0)<=lim) (aa (([]:List GA)++ss0)))))
def yk(b0:GL):Option GL :=
 ((xH b0.f).bind λv1=>((ym b0.fb).bind λv2=>((uX b0.tree).bind λv3=>aa (GL.mk b0.num v1 v2 b0.time v3))))
def vu(ss0:(List zp)):Option (List zp) :=
 (b5 ss0 λb1=>(if b1 then aa ([]:List zp)else(zN (ak (([]:List zp))+ak (ss0)<=lim) (aa (([]:List zp)++ss0)))))
def uG(cc0:GI):Option GI :=
 ((ym cc0.xo).bind λv1=>((xH cc0.vV).bind λv2=>((vu cc0.op.path).bind λv3=>((ym cc0.op.gZ).bind λv4=>aa (GI.mk cc0.z6 v1 v2 cc0.time (GN.mk cc0.op.kind v3 cc0.op.n cc0.op.text v4))))))
def w8(a0:List (GH×Int))(b1:List (GH×Int))(of2:(Int->Int->Option Int)):Option (List (GH×Int)) :=
 (bq a0 λp1=>lp (zf (λ(_:Nat)(x1:(GH×Int)) (s1:List (GH×Int))=>(((of2 x1.2 (zG GH.fh 0 b1 x1.1)).bind λv4=>aa (.gV (wM GH.fh s1 x1.1 v4))):Option (Out _ (List (GH×Int))))) p1 0 ([]:List (GH×Int))) λ(s1:List (GH×Int))=>(bq b1 λp2=>lp (zf (λ(_:Nat)(x2:(GH×Int)) (s2:List (GH×Int))=>(((of2 (zG GH.fh 0 a0 x2.1) x2.2).bind λv8=>aa (.gV (wM GH.fh s2 x2.1 v8))):Option (Out _ (List (GH×Int))))) p2 0 s1) λ(s2:List (GH×Int))=>aa (nrm s2)))
def zaY(xx0:Int)(yy1:Int):Option Int :=
 aa (if yy1 > xx0 then yy1 else xx0)
def vW(a0:(List GA))(b1:(List GA)):Option (List GA) :=
 ((xr a0).bind λv1=>((xr b1).bind λv2=>((w8 v1 v2 (λx0 x1=>zaY x0 x1)).bind λv3=>bq v3 (λ(p4:List (GH×Int))=>((qv p4).bind λv5=>aa v5)))))
def r6(cc0:GI):Option GJ :=
 aa (GJ.mk cc0.z6 cc0.time cc0.op)
def qP(l0:(List GA))(cc1:GI):Option Bool :=
 (lp (zf (λ(n1:Nat)(x1:GA) (s1:Unit)=>((zN (((ae ((n1:Int) > 0))==true)=true->0<=(ai .i64 ((n1:Int)-1))/\(ai .i64 ((n1:Int)-1))<(ak (l0):Int)) (((if((ae ((n1:Int) > 0))==true)then xR ((l0).getD (ai .i64 ((n1:Int)-1)).toNat af) x1 else aa af).bind λv21=>((if((((ae ((n1:Int) > 0))&&(ae (v21 >= 0))) || (x1.zi.fk==cc1.z6.zi.fk&&(x1.zi.inc==cc1.z6.zi.inc&&(x1.seq==cc1.z6.seq&&true))))==false)then sH cc1.vV x1 else aa af).bind λv22=>(if((((ae ((n1:Int) > 0))&&(ae (v21 >= 0))) || (x1.zi.fk==cc1.z6.zi.fk&&(x1.zi.inc==cc1.z6.zi.inc&&(x1.seq==cc1.z6.seq&&true)))) || (!v22))then aa (.ret false)else aa (.gV ())))))):Option (Out _ Unit))) l0 0 ()) λ(s1:Unit)=>aa true)
def vd(ss0:(List zp))(f1:(zp->Option Bool)):Option Int :=
 (lp (zf (λ(n1:Nat)(x1:zp) (s1:Unit)=>(((f1 x1).bind λv7=>(if v7 then aa (.ret (n1:Int))else aa (.gV ()))):Option (Out _ Unit))) ss0 0 ()) λ(s1:Unit)=>aa (-1))
def xz(ss0:(List zp))(f1:(zp->Option Bool)):Option Bool :=
 ((vd ss0 f1).bind λv1=>aa (ae (v1 >= 0)))
def oJ(ss0:zp):Option Bool :=
 ((nA ss0).bind λv1=>aa (!v1))
def nz(pp0:(List zp)):Option Bool :=
 ((if(((ae ((ak (pp0):Int) >= 1))&&(ae ((ak (pp0):Int)<=3)))==true)then xz pp0 (λx0=>oJ x0)else aa af).bind λv3=>aa (((ae ((ak (pp0):Int) >= 1))&&(ae ((ak (pp0):Int)<=3)))&&(!v3)))
def zaR(oo0:GN):Option Bool :=
 (if(((oo0.n != 0) || (ae ((ak (oo0.text):Int) > 40))) || (ae ((ak (oo0.gZ):Int) > 64)))then aa false else(lp (zf (λ(n1:Nat)(x1:GA) (s1:Unit)=>(((om x1).bind λv17=>(zN ((((!v17)==false)&&((ae ((n1:Int) > 0))==true))=true->0<=(ai .i64 ((n1:Int)-1))/\(ai .i64 ((n1:Int)-1))<(ak (oo0.gZ):Int)) (((if(((!v17)==false)&&((ae ((n1:Int) > 0))==true))then xR ((oo0.gZ).getD (ai .i64 ((n1:Int)-1)).toNat af) x1 else aa af).bind λv19=>(if((!v17) || ((ae ((n1:Int) > 0))&&(ae (v19 >= 0))))then aa (.ret false)else aa (.gV ())))))):Option (Out _ Unit))) oo0.gZ 0 ()) λ(s1:Unit)=>aa true))
def zfA(oo0:GN):Option Bool :=
 aa ((((ae (oo0.n >= (-1000000)))&&(ae (oo0.n<=1000000)))&&(oo0.text==([]:zp)))&&((ak (oo0.gZ):Int)==0))
def zck(oo0:GN):Option Bool :=
 aa (((oo0.n==0)&&(ae ((ak (oo0.text):Int)<=40)))&&((ak (oo0.gZ):Int)==0))
def zk0(k0:Int):Option (GR×Bool) :=
 (if((ae (k0<1)) || (ae (k0 > 5)))then aa ((GR.mk 0 0),false)else((zR ([(GR.mk 0 0),(GR.mk 1 1),(GR.mk 2 2),(GR.mk 3 2),(GR.mk 3 3),(GR.mk 4 2)]:List GR) k0).bind λy2=>aa (y2,true)))
def zeX(c:Nat)(x0:GN):Option Bool:=match c with
 |1=>zfA x0
 |2=>zck x0
 |3=>zaR x0
 |_=>ac
def zms(oo0:GN):Option Bool :=
 ((zk0 oo0.kind).bind λv1=>((if(v1.2==true)then nz oo0.path else aa af).bind λv2=>((if((v1.2&&v2)==true)then zeX v1.1.may oo0 else aa af).bind λv3=>aa ((v1.2&&v2)&&v3))))
def uk(e0:GJ):Option Bool :=
 ((om e0.z6).bind λv1=>((if(((v1&&(ae (e0.time >= 1)))&&(ae (e0.time<=1099511627776)))==true)then zms e0.op else aa af).bind λv2=>aa (((v1&&(ae (e0.time >= 1)))&&(ae (e0.time<=1099511627776)))&&v2)))
def tU(cc0:GI):Option Bool :=
 ((r6 cc0).bind λv1=>((uk v1).bind λv2=>((if(v2==true)then rY cc0.vV else aa af).bind λv3=>((if(v2==true)then xG v3 cc0.vV else aa af).bind λv4=>((if((v2&&v4)==true)then zeN cc0.vV cc0.z6.zi else aa af).bind λv5=>((if((((v2&&v4)&&(v5==cc0.z6.seq))&&(ae ((ak (cc0.xo):Int)<=64)))==true)then qP cc0.xo cc0 else aa af).bind λv7=>((if(((((v2&&v4)&&(v5==cc0.z6.seq))&&(ae ((ak (cc0.xo):Int)<=64)))&&v7)==true)then qP cc0.op.gZ cc0 else aa af).bind λv8=>aa (((((v2&&v4)&&(v5==cc0.z6.seq))&&(ae ((ak (cc0.xo):Int)<=64)))&&v7)&&v8))))))))
def zV(g0:GP):Option Bool :=
 aa false
def wU(g0:GP)(d1:GA):Option Bool :=
 ((zV g0).bind λv1=>(if v1 then aa false else((if((vR GA.fh g0.g9 d1)==false)then sH g0.base.f d1 else aa af).bind λv3=>aa ((vR GA.fh g0.g9 d1) || v3))))
def zaX(xx0:Int)(yy1:Int):Option Int :=
 aa (if yy1<xx0 then yy1 else xx0)
def zdx(a0:(List GA))(b1:(List GA)):Option (List GA) :=
 ((xr a0).bind λv1=>((xr b1).bind λv2=>((w8 v1 v2 (λx0 x1=>zaX x0 x1)).bind λv3=>bq v3 (λ(p4:List (GH×Int))=>((qv p4).bind λv5=>aa v5)))))
def wc(g0:GP)(cc1:GI):Option (List GA) :=
 ((zdx cc1.vV g0.base.f).bind λv1=>(zN (ak (([cc1.z6]:List GA))+ak (cc1.xo)<=lim) (((vW v1 (([cc1.z6]:List GA)++cc1.xo)).bind λv3=>(lp (zf (λ(n1:Nat)(x1:GA) (s1:(List GA))=>(((vW s1 ((zG GA.fh (GI.mk (GA.mk (GH.mk 0 0) 0) ([]:List GA) ([]:List GA) 0 (GN.mk 0 ([]:List zp) 0 ([]:zp) ([]:List GA))) g0.g9 x1).vV)).bind λv21=>aa (.gV v21)):Option (Out _ (List GA)))) cc1.xo 0 v3) λ(s1:(List GA))=>aa s1)))))
def yi(d0:GA)(c0:GP):Option Bool :=
 ((wU c0 d0).bind λv1=>aa (!v1))
def wD(a0:(List GA))(b1:(List GA)):Option Bool :=
 ((xr b1).bind λv1=>((xr a0).bind λv2=>(bq v2 λp1=>lp (zf (λ(_:Nat)(x1:(GH×Int)) (s1:Unit)=>((if(ae (x1.2 > (zG GH.fh 0 v1 x1.1)))then aa (.ret false)else aa (.gV ())):Option (Out _ Unit))) p1 0 ()) λ(s1:Unit)=>aa true)))
def vF(qq0:GA)(c0:GA)(c1:GI):Option Bool :=
 ((if((!(qq0.zi.fk==c0.zi.fk&&(qq0.zi.inc==c0.zi.inc&&(qq0.seq==c0.seq&&true))))==true)then sH c1.vV qq0 else aa af).bind λv1=>aa ((!(qq0.zi.fk==c0.zi.fk&&(qq0.zi.inc==c0.zi.inc&&(qq0.seq==c0.seq&&true))))&&v1))
def xD(g0:GP)(cc1:GI)(ahead2:GA):Option Bool :=
 ((if((cc1.z6.seq==1)==false)then sH g0.base.f ahead2 else aa af).bind λv1=>(lp (zf (λ(n1:Nat)(x1:GA) (s1:Bool)=>((if(!(vR GA.fh g0.g9 x1))then aa (.gV s1)else((if(s1==false)then sH ((zG GA.fh (GI.mk (GA.mk (GH.mk 0 0) 0) ([]:List GA) ([]:List GA) 0 (GN.mk 0 ([]:List zp) 0 ([]:zp) ([]:List GA))) g0.g9 x1).vV) ahead2 else aa af).bind λv26=>((yh cc1.xo (λx0=>vF x0 x1 (zG GA.fh (GI.mk (GA.mk (GH.mk 0 0) 0) ([]:List GA) ([]:List GA) 0 (GN.mk 0 ([]:List zp) 0 ([]:zp) ([]:List GA))) g0.g9 x1))).bind λv27=>(if(v27 || (ae ((zG GA.fh (GI.mk (GA.mk (GH.mk 0 0) 0) ([]:List GA) ([]:List GA) 0 (GN.mk 0 ([]:List zp) 0 ([]:zp) ([]:List GA))) g0.g9 x1).time >= cc1.time)))then aa (.ret false)else aa (.gV (s1 || v26)))))):Option (Out _ Bool))) cc1.xo 0 ((cc1.z6.seq==1) || v1)) λ(s1:Bool)=>aa s1))
def mg(cc0:GI):Option GJ :=
 aa (GJ.mk cc0.z6 cc0.time cc0.op)
def s7(kind0:Int):Option Int :=
 (if(kind0==1)then aa 1 else(if(kind0==2)then aa 2 else(if(kind0==3)then(if(kind0==3)then aa 3 else(if(kind0==5)then aa 4 else aa 0))else(if(kind0==4)then aa 3 else(if(kind0==5)then aa 4 else aa 0)))))
def pj(pp0:(List zp)):Option Bool :=
 (lp (zf (λ(n1:Nat)(x1:zp) (s1:Unit)=>(((tK x1).bind λv9=>(if(!v9)then aa (.ret false)else aa (.gV ()))):Option (Out _ Unit))) pp0 0 ()) λ(s1:Unit)=>aa ((ae ((ak (pp0):Int) >= 1))&&(ae ((ak (pp0):Int)<=3))))
def zaO(oo0:GN):Option Bool :=
 ((s7 oo0.kind).bind λv1=>((if((v1==0)==false)then pj oo0.path else aa af).bind λv2=>(if((((v1==0) || (!v2)) || (ae ((ak (oo0.text):Int) > 40))) || (ae ((ak (oo0.gZ):Int) > 64)))then aa false else(if(oo0.kind==1)then aa ((((ae (oo0.n >= (-1000000)))&&(ae (oo0.n<=1000000)))&&(oo0.text==([]:zp)))&&((ak (oo0.gZ):Int)==0))else(if((oo0.n != 0) || ((oo0.kind != 4)&&(ae ((ak (oo0.gZ):Int) > 0))))then aa false else(lp (zf (λ(n1:Nat)(x1:GA) (s1:Unit)=>(((vz x1).bind λv26=>(zN ((((!v26)==false)&&((ae ((n1:Int) > 0))==true))=true->0<=(ai .i64 ((n1:Int)-1))/\(ai .i64 ((n1:Int)-1))<(ak (oo0.gZ):Int)) ((zN ((((!v26)==false)&&((ae ((n1:Int) > 0))==true))=true->0<=(n1:Int)/\(n1:Int)<(ak (oo0.gZ):Int)) (((if(((!v26)==false)&&((ae ((n1:Int) > 0))==true))then wy ((oo0.gZ).getD (ai .i64 ((n1:Int)-1)).toNat af) ((oo0.gZ).getD (n1:Int).toNat af)else aa af).bind λv29=>(if((!v26) || ((ae ((n1:Int) > 0))&&(!v29)))then aa (.ret false)else aa (.gV ())))))))):Option (Out _ Unit))) oo0.gZ 0 ()) λ(s1:Unit)=>aa true))))))
def vM(e0:GJ):Option Bool :=
 ((vz e0.z6).bind λv1=>((if(((v1&&(ae (e0.time >= 1)))&&(ae (e0.time<=1099511627776)))==true)then zaO e0.op else aa af).bind λv2=>aa (((v1&&(ae (e0.time >= 1)))&&(ae (e0.time<=1099511627776)))&&v2)))
def uz(l0:(List GA))(own1:GA)(vv2:(List GA)):Option Bool :=
 (lp (zf (λ(n1:Nat)(x1:GA) (s1:Unit)=>((zN (((ae ((n1:Int) > 0))==true)=true->0<=(ai .i64 ((n1:Int)-1))/\(ai .i64 ((n1:Int)-1))<(ak (l0):Int)) ((zN (((ae ((n1:Int) > 0))==true)=true->0<=(n1:Int)/\(n1:Int)<(ak (l0):Int)) (((if((ae ((n1:Int) > 0))==true)then wy ((l0).getD (ai .i64 ((n1:Int)-1)).toNat af) ((l0).getD (n1:Int).toNat af)else aa af).bind λv19=>(if((ae ((n1:Int) > 0))&&(!v19))then aa (.ret false)else(zN (((x1.zi.fk==own1.zi.fk&&(x1.zi.inc==own1.zi.inc&&(x1.seq==own1.seq&&true)))==false)=true->0<=(n1:Int)/\(n1:Int)<(ak (l0):Int)) (((if((x1.zi.fk==own1.zi.fk&&(x1.zi.inc==own1.zi.inc&&(x1.seq==own1.seq&&true)))==false)then uj vv2 ((l0).getD (n1:Int).toNat af)else aa af).bind λv22=>(if((x1.zi.fk==own1.zi.fk&&(x1.zi.inc==own1.zi.inc&&(x1.seq==own1.seq&&true))) || (!v22))then aa (.ret false)else aa (.gV ()))))))))))):Option (Out _ Unit))) l0 0 ()) λ(s1:Unit)=>aa true)
def nq(cc0:GI):Option Bool :=
 ((mg cc0).bind λv1=>((vM v1).bind λv2=>((if((!v2)==false)then vN cc0.vV else aa af).bind λv3=>((if((!v2)==false)then pu v3 cc0.vV else aa af).bind λv4=>((if(((!v2) || (!v4))==false)then uT cc0.vV cc0.z6.zi else aa af).bind λv5=>(if(((!v2) || (!v4)) || (v5 != cc0.z6.seq))then aa false else((if((ae ((ak (cc0.xo):Int)<=64))==true)then uz cc0.xo cc0.z6 cc0.vV else aa af).bind λv8=>((if(((ae ((ak (cc0.xo):Int)<=64))&&v8)==true)then uz cc0.op.gZ cc0.z6 cc0.vV else aa af).bind λv9=>aa (((ae ((ak (cc0.xo):Int)<=64))&&v8)&&v9)))))))))
def xU(g0:GS)(d1:GA):Option Int :=
 (lp (zf (λ(n1:Nat)(x1:GI) (s1:Unit)=>((if(x1.z6.zi.fk==d1.zi.fk&&(x1.z6.zi.inc==d1.zi.inc&&(x1.z6.seq==d1.seq&&true)))then aa (.ret (n1:Int))else aa (.gV ())):Option (Out _ Unit))) g0.l 0 ()) λ(s1:Unit)=>aa (-1))
def xc(g0:GS)(d1:GA):Option Bool :=
 ((xU g0 d1).bind λv1=>((if((ae (v1 >= 0))==false)then uj g0.b.f d1 else aa af).bind λv2=>aa ((ae (v1 >= 0)) || v2)))
def uC(a0:(List GA))(b1:(List GA)):Option (List GA) :=
 ((vN a0).bind λv1=>(lp (zf (λ(n1:Nat)(x1:GA) (s1:(List GA))=>(((uT b1 x1.zi).bind λv17=>(if(ae (v17 > x1.seq))then(zN (ak (s1)+ak (([x1]:List GA))<=lim) (aa (.gV (s1++([x1]:List GA)))))else(zN (ak (s1)+ak (([(GA.mk x1.zi v17)]:List GA))<=lim) (aa (.gV (s1++([(GA.mk x1.zi v17)]:List GA))))))):Option (Out _ (List GA)))) v1 0 ([]:List GA)) λ(s1:(List GA))=>((vN s1).bind λv21=>aa v21)))
def vq(a0:(List GA))(b1:(List GA)):Option (List GA) :=
 (zN (ak (([]:List GA))+ak (a0)<=lim) ((zN (ak ((([]:List GA)++a0))+ak (b1)<=lim) (((vN ((([]:List GA)++a0)++b1)).bind λv3=>aa v3)))))
def xE(g0:GS)(cc1:GI):Option (List GA) :=
 ((uC cc1.vV g0.b.f).bind λv1=>((vq v1 ([cc1.z6]:List GA)).bind λv2=>(lp (zf (λ(n1:Nat)(x1:GA) (s1:(List GA))=>(((vq s1 ([x1]:List GA)).bind λv27=>((xU g0 x1).bind λv28=>(if(ae (v28 >= 0))then((zR g0.l v28).bind λy30=>((vq v27 y30.vV).bind λv31=>aa (.gV v31)))else aa (.gV v27)))):Option (Out _ (List GA)))) cc1.xo 0 v2) λ(s1:(List GA))=>aa s1)))
def tL(a0:(List GA))(b1:(List GA)):Option Bool :=
 (lp (zf (λ(n1:Nat)(x1:GA) (s1:Unit)=>(((vz x1).bind λv12=>(zN ((v12==true)=true->0<=(n1:Int)/\(n1:Int)<(ak (a0):Int)) ((zN ((v12==true)=true->0<=(n1:Int)/\(n1:Int)<(ak (a0):Int)) (((if(v12==true)then uT b1 (((a0).getD (n1:Int).toNat af).zi)else aa af).bind λv15=>(if(v12&&(ae (((a0).getD (n1:Int).toNat af).seq > v15)))then aa (.ret false)else aa (.gV ())))))))):Option (Out _ Unit))) a0 0 ()) λ(s1:Unit)=>aa true)
def xT(g0:GS)(cc1:GI)(ahead2:GA):Option Bool :=
 (lp (zf (λ(n1:Nat)(x1:GA) (s1:Unit)=>(((xc g0 x1).bind λv23=>(if(!v23)then aa (.ret true)else aa (.gV ()))):Option (Out _ Unit))) cc1.xo 0 ()) λ(s1:Unit)=>((if((ae (cc1.z6.seq > 1))==true)then xc g0 ahead2 else aa af).bind λv25=>((if(((ae (cc1.z6.seq > 1))&&(!v25))==false)then xE g0 cc1 else aa af).bind λv26=>((if(((ae (cc1.z6.seq > 1))&&(!v25))==false)then tL cc1.vV v26 else aa af).bind λv27=>aa (((ae (cc1.z6.seq > 1))&&(!v25)) || (!v27))))))
def xw(g0:GS)(cc1:GI)(ahead2:GA):Option Bool :=
 ((if((cc1.z6.seq==1)==false)then uj g0.b.f ahead2 else aa af).bind λv1=>(lp (zf (λ(n1:Nat)(x1:GA) (s1:Bool)=>(((xU g0 x1).bind λv62=>(if(ae (v62<0))then aa (.gV s1)else((zR g0.l v62).bind λy64=>(if(ae (y64.time >= cc1.time))then aa (.ret true)else(lp (((zR g0.l v62).bind λy69=>((uj y69.vV ahead2).bind λv70=>(if v70 then aa (.inr true)else aa (.inr s1)))):Option (_ ⊕ Bool)) λ(s2:Bool)=>(lp (zf (λ(n3:Nat)(x3:GA) (s3:Unit)=>((zN ((((n3:Int) != (n1:Int))==true)=true->0<=v62/\v62<(ak (g0.l):Int)) ((zN ((((n3:Int) != (n1:Int))==true)=true->0<=(n3:Int)/\(n3:Int)<(ak (cc1.xo):Int)) (((if(((n3:Int) != (n1:Int))==true)then uj (((g0.l).getD v62.toNat af).vV) ((cc1.xo).getD (n3:Int).toNat af)else aa af).bind λv97=>(if(((n3:Int) != (n1:Int))&&v97)then aa (.ret (.ret true))else aa (.gV ()))))))):Option (Out _ Unit))) cc1.xo 0 ()) λ(s3:Unit)=>aa (.gV s2))))))):Option (Out _ Bool))) cc1.xo 0 ((cc1.z6.seq==1) || v1)) λ(s1:Bool)=>((if((!s1)==false)then xE g0 cc1 else aa af).bind λv99=>((if((!s1)==false)then tL v99 cc1.vV else aa af).bind λv100=>aa ((!s1) || (!v100))))))
def yQ(rep0:Int):Option GA :=
 aa (GA.mk (GH.mk rep0 1) 1)
def pB(rep0:Int)(nn1:Int)(time2:Int)(vv3:(List GA))(parents4:(List GA)):Option GI :=
 aa (GI.mk (GA.mk (GH.mk rep0 1) 1) parents4 vv3 time2 (GN.mk 1 ([([97]:zp)]:List zp) nn1 ([]:zp) ([]:List GA)))
def sX(t0:(List GC))(name1:zp):Option (GC×Bool) :=
 (lp (zf (λ(n1:Nat)(x1:GC) (sL1:Unit)=>((if(x1.name==name1)then aa (.ret (x1,true))else aa (.gV ())):Option (Out _ Unit))) t0 0 ()) λ(sL1:Unit)=>aa ((GC.mk ([]:zp) ([]:List GE) ([]:List GC)),false))
def nx(kind0:Int):Option GE :=
 (if((ae (kind0 >= 1))&&(ae (kind0<=4)))then aa (GE.mk kind0 0 0 (GA.mk (GH.mk 0 0) 0) ([]:zp) ([]:List GF) ([]:List GA))else aa bQ)
def xV(t0:(List GC))(path1:(List zp))(ff:Int):Option (GE×Bool) :=
 ((nx ff).bind λv1=>(lp (zf (λ(n1:Nat)(x1:zp) (s1:(List GC)×zp×(List GE)×(List GC))=>(((sX s1.1 x1).bind λv32=>(if(!v32.2)then aa (.ret (v1,false))else aa (.gV (v32.1.wa,v32.1.name,v32.1.leaves,v32.1.wa)))):Option (Out _ ((List GC)×zp×(List GE)×(List GC))))) path1 0 (t0,([]:zp),([]:List GE),([]:List GC))) λ(s1:(List GC)×zp×(List GE)×(List GC))=>(lp (ya (λ(s2:Int)=>((if(((ae (s2<(ak (s1.2.2.1):Int)))&&(ae (ff >= 1)))&&(ae (ff<=4)))then((zR s1.2.2.1 s2).bind λy63=>(if(y63.x4==ff)then((zR s1.2.2.1 s2).bind λy65=>aa (.ret (y65,true)))else aa (.gV (ai .i64 (s2+1)))))else aa (.brk s2)):Option (Out _ Int))) 0) λ(s2:Int)=>aa (v1,false))))
def nM(e0:GJ):Option GJ :=
 ((vu e0.op.path).bind λv1=>((ym e0.op.gZ).bind λv2=>aa (GJ.mk e0.z6 e0.time (GN.mk e0.op.kind v1 e0.op.n e0.op.text v2))))
def yC(hh0:(List GK))(ii1:Int)(k2:Int):Option Bool :=
 ((zR hh0 ii1).bind λy1=>((zR hh0 k2).bind λy2=>(if((y1.e.time==y2.e.time)&&(y1.e.z6.zi.fk==y2.e.z6.zi.fk&&(y1.e.z6.zi.inc==y2.e.z6.zi.inc&&(y1.e.z6.seq==y2.e.z6.seq&&true))))then aa (ae (y1.aF<y2.aF))else((qM y1.e.time y1.e.z6 y2.e.time y2.e.z6).bind λv4=>aa v4))))
def uJ(l0:(List GJ)):Option (List GJ) :=
 (lp (zf (λ(n1:Nat)(x1:GJ) (s1:(List GK))=>(((nM x1).bind λv158=>(((((zN (ak (s1)+ak (([(GK.mk v158 (n1:Int))]:List GK))<=lim) (aa (s1++([(GK.mk v158 (n1:Int))]:List GK)))):Option (List GK)).bind λv235=>((aa ((ak (v235):Nat):Int):Option Int).bind λv238=>(((lp (ya (λ(s2:Int×(List GK))=>((zN (ak (s2.2)=ak (v235)) (((if(((ai .i64 (Int.tdiv (ai .i64 (s2.1-1)) 2))==s2.1)==false)then yC s2.2 s2.1 (ai .i64 (Int.tdiv (ai .i64 (s2.1-1)) 2))else aa af).bind λv298=>(if(((ai .i64 (Int.tdiv (ai .i64 (s2.1-1)) 2))==s2.1) || (!v298))then aa (.brk (s2.1,s2.2))else((((zR s2.2 s2.1).bind λy305=>((zR s2.2 (ai .i64 (Int.tdiv (ai .i64 (s2.1-1)) 2))).bind λy306=>((zR s2.2 (ai .i64 (Int.tdiv (ai .i64 (s2.1-1)) 2))).bind λy307=>((zR (s2.2.set (ai .i64 (Int.tdiv (ai .i64 (s2.1-1)) 2)).toNat y305) s2.1).bind λy308=>aa ((s2.2.set (ai .i64 (Int.tdiv (ai .i64 (s2.1-1)) 2)).toNat y305).set s2.1.toNat y306))))):Option (List GK)).bind λv300=>(zN (ak (v300)=ak (v235)) (aa (.gV ((ai .i64 (Int.tdiv (ai .i64 (s2.1-1)) 2)),v300))))))))):Option (Out _ (Int×(List GK))))) ((ai .i64 (v238-1)),v235)) λ(s2:Int×(List GK))=>aa s2.2):Option (List GK)).bind λv241=>(zN (ak (v241)=ak (v235)) (aa v241))))):Option (List GK)).bind λv159=>aa (.gV v159))):Option (Out _ (List GK)))) l0 0 ([]:List GK)) λ(s1:(List GK))=>(((lp (ya (λ(s2:(List GJ)×(List GK))=>(((aa ((ak (s2.2):Nat):Int):Option Int).bind λv1089=>(if(ae (v1089 > 0))then((((aa ((ak (s2.2):Nat):Int):Option Int).bind λv1220=>((((zR s2.2 (ai .i64 (v1220-1))).bind λy1228=>((zR s2.2 0).bind λy1229=>((zR s2.2 0).bind λy1230=>((zR (s2.2.set (0:Int).toNat y1228) (ai .i64 (v1220-1))).bind λy1231=>aa ((s2.2.set (0:Int).toNat y1228).set (ai .i64 (v1220-1)).toNat y1229))))):Option (List GK)).bind λv1223=>(zN (ak (v1223)=ak (s2.2)) (((lp (ya (λ(s3:Int×(List GK))=>((zN (ak (s3.2)=ak (s2.2)) ((if((ae ((ai .i64 ((ai .i64 (2*s3.1))+1)) >= (ai .i64 (v1220-1)))) || (ae ((ai .i64 ((ai .i64 (2*s3.1))+1))<0)))then aa (.brk (s3.1,s3.2))else((if((ae ((ai .i64 ((ai .i64 ((ai .i64 (2*s3.1))+1))+1))<(ai .i64 (v1220-1))))==true)then yC s3.2 (ai .i64 ((ai .i64 ((ai .i64 (2*s3.1))+1))+1)) (ai .i64 ((ai .i64 (2*s3.1))+1))else aa af).bind λv1314=>(if((ae ((ai .i64 ((ai .i64 ((ai .i64 (2*s3.1))+1))+1))<(ai .i64 (v1220-1))))&&v1314)then((yC s3.2 (ai .i64 ((ai .i64 ((ai .i64 (2*s3.1))+1))+1)) s3.1).bind λv1316=>(if(!v1316)then aa (.brk (s3.1,s3.2))else((((zR s3.2 (ai .i64 ((ai .i64 ((ai .i64 (2*s3.1))+1))+1))).bind λy1323=>((zR s3.2 s3.1).bind λy1324=>((zR s3.2 s3.1).bind λy1325=>((zR (s3.2.set s3.1.toNat y1323) (ai .i64 ((ai .i64 ((ai .i64 (2*s3.1))+1))+1))).bind λy1326=>aa ((s3.2.set s3.1.toNat y1323).set (ai .i64 ((ai .i64 ((ai .i64 (2*s3.1))+1))+1)).toNat y1324))))):Option (List GK)).bind λv1318=>(zN (ak (v1318)=ak (s2.2)) (aa (.gV ((ai .i64 ((ai .i64 ((ai .i64 (2*s3.1))+1))+1)),v1318)))))))else((yC s3.2 (ai .i64 ((ai .i64 (2*s3.1))+1)) s3.1).bind λv1327=>(if(!v1327)then aa (.brk (s3.1,s3.2))else((((zR s3.2 (ai .i64 ((ai .i64 (2*s3.1))+1))).bind λy1334=>((zR s3.2 s3.1).bind λy1335=>((zR s3.2 s3.1).bind λy1336=>((zR (s3.2.set s3.1.toNat y1334) (ai .i64 ((ai .i64 (2*s3.1))+1))).bind λy1337=>aa ((s3.2.set s3.1.toNat y1334).set (ai .i64 ((ai .i64 (2*s3.1))+1)).toNat y1335))))):Option (List GK)).bind λv1329=>(zN (ak (v1329)=ak (s2.2)) (aa (.gV ((ai .i64 ((ai .i64 (2*s3.1))+1)),v1329)))))))))))):Option (Out _ (Int×(List GK))))) (0,v1223)) λ(s3:Int×(List GK))=>aa ((ae (s3.1 > 0)),s3.2)):Option (Bool×(List GK))).bind λv1232=>(zN (ak (v1232.2)=ak (s2.2)) ((((zR v1232.2 (ai .i64 (((ak (s2.2):Nat):Int)-1))).bind λy1343=>((fP v1232.2 0 (ai .i64 (((ak (s2.2):Nat):Int)-1))).bind λm1344=>aa (y1343,m1344))):Option (GK×(List GK))).bind λv1338=>aa (v1338.1,v1338.2))))))):Option (GK×(List GK))).bind λv1093=>(zN (ak (s2.1)+ak (([v1093.1.e]:List GJ))<=lim) (aa (.gV ((s2.1++([v1093.1.e]:List GJ)),v1093.2)))))else aa (.brk (s2.1,s2.2)))):Option (Out _ ((List GJ)×(List GK))))) (([]:List GJ),s1)) λ(s2:(List GJ)×(List GK))=>aa (s2.1,s2.2)):Option ((List GJ)×(List GK))).bind λv309=>aa v309.1))
def u7(kind0:Int):Option GE :=
 (if((ae (kind0<1)) || (ae (kind0 > 4)))then aa bQ else aa (GE.mk kind0 0 0 (GA.mk (GH.mk 0 0) 0) ([]:zp) ([]:List GF) ([]:List GA)))
def sS(l0:GE)(c0:Int):Option Bool :=
 aa (l0.x4==c0)
def ww(ss0:(List GC))(f1:(GC->Option Bool)):Option Int :=
 (lp (zf (λ(n1:Nat)(x1:GC) (s1:Unit)=>(((f1 x1).bind λv7=>(if v7 then aa (.ret (n1:Int))else aa (.gV ()))):Option (Out _ Unit))) ss0 0 ()) λ(s1:Unit)=>aa (-1))
def ru(nn0:GC)(c0:zp):Option Bool :=
 aa (nn0.name==c0)
def xY(t0:(List GC))(name1:zp):Option (GC×Bool) :=
 ((ww t0 (λx0=>ru x0 name1)).bind λv1=>(if(ae (v1<0))then aa ((GC.mk ([]:zp) ([]:List GE) ([]:List GC)),false)else((zR t0 v1).bind λy3=>aa (y3,true))))
def yp(ss0:(List GE))(f1:(GE->Option Bool)):Option Int :=
 (lp (zf (λ(n1:Nat)(x1:GE) (s1:Unit)=>(((f1 x1).bind λv7=>(if v7 then aa (.ret (n1:Int))else aa (.gV ()))):Option (Out _ Unit))) ss0 0 ()) λ(s1:Unit)=>aa (-1))
def uO(t0:(List GC))(path1:(List zp))(ff:Int):Option (GE×Bool) :=
 (lp ((lp (zf (λ(n2:Nat)(x2:zp) (s2:(List GC)×Bool×zp×(List GE)×(List GC))=>(((xY s2.1 x2).bind λv47=>(if(!v47.2)then aa (.brk (s2.1,v47.2,v47.1.name,v47.1.leaves,v47.1.wa))else aa (.gV (v47.1.wa,v47.2,v47.1.name,v47.1.leaves,v47.1.wa)))):Option (Out _ ((List GC)×Bool×zp×(List GE)×(List GC))))) path1 0 (t0,(ae ((ak (path1):Int) > 0)),([]:zp),([]:List GE),([]:List GC))) λ(s2:(List GC)×Bool×zp×(List GE)×(List GC))=>aa (.inr (s2.2.1,s2.2.2.1,s2.2.2.2.1,s2.2.2.2.2))):Option (_ ⊕ (Bool×zp×(List GE)×(List GC)))) λ(s1:Bool×zp×(List GE)×(List GC))=>((yp s1.2.2.1 (λx0=>sS x0 ff)).bind λv49=>((if(((!s1.1) || (ae (v49<0)))==false)then u7 ff else aa af).bind λv50=>(if(((!s1.1) || (ae (v49<0))) || (v50.x4==0))then((u7 ff).bind λv52=>aa (v52,false))else((zR s1.2.2.1 v49).bind λy53=>((yN y53.z8).bind λv54=>((ym y53.y4).bind λv55=>aa ((GE.mk y53.x4 y53.n y53.time y53.z6 y53.text v54 v55),true))))))))
def zek(k0:Int):Option Int :=
 ((zk0 k0).bind λv1=>aa v1.1.leaf)
def sa(ss0:(List GA))(vv1:GA):Option Int :=
 (lp (zf (λ(n1:Nat)(x1:GA) (s1:Unit)=>((if(vv1.zi.fk==x1.zi.fk&&(vv1.zi.inc==x1.zi.inc&&(vv1.seq==x1.seq&&true)))then aa (.ret (n1:Int))else aa (.gV ())):Option (Out _ Unit))) ss0 0 ()) λ(s1:Unit)=>aa (-1))
def xq(ss0:(List GA))(vv1:GA):Option Bool :=
 ((sa ss0 vv1).bind λv1=>aa (ae (v1 >= 0)))
/-- slices.Insert[[]varve/api.Item,varve/api.Item]: zhn -/
def zkQ:Unit:=()
def zS(xx0:(List GF))(target1:GF)(cmp2:(GF->GF->Option Int)):Option (Int×Bool) :=
 (lp (ya (λ(s1:Int×Int)=>((if(ae (s1.1<s1.2))then((zR xx0 (ai .i64 ((Int.fdiv (ai .u64 ((ai .i64 (s1.1+s1.2)))) (2 ^ (min (1:Int).toNat (IntKind.bits .u64))))))).bind λy14=>((cmp2 y14 target1).bind λv15=>(if(ae (v15<0))then aa (.gV ((ai .i64 ((ai .i64 ((Int.fdiv (ai .u64 ((ai .i64 (s1.1+s1.2)))) (2 ^ (min (1:Int).toNat (IntKind.bits .u64))))))+1)),s1.2))else aa (.gV (s1.1,(ai .i64 ((Int.fdiv (ai .u64 ((ai .i64 (s1.1+s1.2)))) (2 ^ (min (1:Int).toNat (IntKind.bits .u64)))))))))))else aa (.brk (s1.1,s1.2))):Option (Out _ (Int×Int)))) (0,(ak (xx0):Int))) λ(s1:Int×Int)=>(zN (((ae (s1.1<(ak (xx0):Int)))==true)=true->0<=s1.1/\s1.1<(ak (xx0):Int)) (((if((ae (s1.1<(ak (xx0):Int)))==true)then cmp2 ((xx0).getD s1.1.toNat af) target1 else aa af).bind λv18=>aa (s1.1,((ae (s1.1<(ak (xx0):Int)))&&(v18==0)))))))
def yW(a0:GF)(b1:GF):Option Int :=
 ((uE a0.time a0.z6 b1.time b1.z6).bind λv1=>aa v1)
def x7(ss0:(List GF))(del1:(GF->Option Bool)):Option (List GF) :=
 ((yA ss0 del1).bind λv1=>(if(v1==(-1))then aa ss0 else(lp (ya (λ(s1:Int×Int×(List GF))=>((zN (ak (s1.2.2)=ak ss0) ((if(ae (s1.2.1<((ak ss0:Nat):Int)))then((zR s1.2.2 s1.2.1).bind λy14=>((del1 y14).bind λv15=>(if(!v15)then((zR s1.2.2 s1.1).bind λy17=>aa (.gV ((ai .i64 (s1.1+1)),(ai .i64 (s1.2.1+1)),(s1.2.2.set s1.1.toNat y14))))else aa (.gV (s1.1,(ai .i64 (s1.2.1+1)),s1.2.2)))))else aa (.brk (s1.1,s1.2.1,s1.2.2))))):Option (Out _ (Int×Int×(List GF))))) (v1,(ai .i64 (v1+1)),ss0)) λ(s1:Int×Int×(List GF))=>(zN (0<=s1.1/\s1.1<=((ak ss0:Nat):Int)) (((fP (s1.2.2.take s1.1.toNat++List.replicate ((ak ss0)-s1.1.toNat) (GF.mk 0 (GA.mk (GH.mk 0 0) 0) ([]:zp))) 0 s1.1).bind λm19=>aa m19))))))
def wY(xx0:GF)(c0:GJ):Option Bool :=
 ((xq c0.op.gZ xx0.z6).bind λv1=>aa v1)
/-- slices.SortFunc[[]varve/api.Dot,varve/api.Dot]: qT -/
def zjs:Unit:=()
def wx(ss0:(List GA)):Option (List GA) :=
 (if(ae ((ak (ss0):Int)<2))then aa ss0 else(lp (ya (λ(s1:Int)=>((if(ae (s1<(ak (ss0):Int)))then((zR ss0 s1).bind λy35=>((zR ss0 (ai .i64 (s1-1))).bind λy36=>(if(y35.zi.fk==y36.zi.fk&&(y35.zi.inc==y36.zi.inc&&(y35.seq==y36.seq&&true)))then(zN (0<=s1/\s1<=((ak ss0:Nat):Int)) ((lp (ya (λ(s2:Int×Int×(List GA))=>((zN (ak (s2.2.2)=ak ss0) ((if(ae (s2.2.1<(((ak ss0)-s1.toNat:Nat):Int)))then((zR (s2.2.2.drop s1.toNat) s2.2.1).bind λy51=>((zR (s2.2.2.drop s1.toNat) (ai .i64 (s2.2.1-1))).bind λy52=>(if(!(y51.zi.fk==y52.zi.fk&&(y51.zi.inc==y52.zi.inc&&(y51.seq==y52.seq&&true))))then((zR (s2.2.2.drop s1.toNat) s2.2.1).bind λy54=>((zR s2.2.2 s2.1).bind λy55=>aa (.gV ((ai .i64 (s2.1+1)),(ai .i64 (s2.2.1+1)),(s2.2.2.set s2.1.toNat y54)))))else aa (.gV (s2.1,(ai .i64 (s2.2.1+1)),s2.2.2)))))else aa (.brk (s2.1,s2.2.1,s2.2.2))))):Option (Out _ (Int×Int×(List GA))))) (s1,1,ss0)) λ(s2:Int×Int×(List GA))=>(zN (0<=s2.1/\s2.1<=((ak ss0:Nat):Int)) (((fP (s2.2.2.take s2.1.toNat++List.replicate ((ak ss0)-s2.1.toNat) (GA.mk (GH.mk 0 0) 0)) 0 s2.1).bind λm57=>aa (.ret m57)))))))else aa (.gV (ai .i64 (s1+1))))))else aa (.brk s1)):Option (Out _ Int))) 1) λ(s1:Int)=>aa ss0))
def nE(l0:GE)(e1:GJ):Option (GE×Int) :=
 ((sq l0).bind λv1=>((if((!v1)==false)then uk e1 else aa af).bind λv2=>(if((!v1) || (!v2))then aa (bQ,2)else((zek e1.op.kind).bind λv4=>(if(v4 != l0.x4)then aa (bQ,15)else((yN l0.z8).bind λv6=>((ym l0.y4).bind λv7=>(if e1.op.kind=1 then((aa (ai .i64 (l0.n+e1.op.n)):Option Int).bind λv9=>aa ((GE.mk l0.x4 v9 l0.time l0.z6 l0.text v6 v7),0))else(if e1.op.kind=2 then((((if((l0.time==0)==false)then qM l0.time l0.z6 e1.time e1.z6 else aa af).bind λv14=>(if((l0.time==0) || v14)then aa (e1.time,e1.z6.zi.fk,e1.z6.zi.inc,e1.z6.seq,e1.op.text)else aa (l0.time,l0.z6.zi.fk,l0.z6.zi.inc,l0.z6.seq,l0.text))):Option (Int×Int×Int×Int×zp)).bind λv11=>aa ((GE.mk l0.x4 l0.n v11.1 (GA.mk (GH.mk v11.2.1 v11.2.2.1) v11.2.2.2.1) v11.2.2.2.2 v6 v7),0))else(if e1.op.kind=3 then((((xq v7 e1.z6).bind λv29=>(if(!v29)then((((rU v6 e1.z6).bind λv36=>(if v36 then aa v6 else((zS v6 (GF.mk 0 e1.z6 e1.op.text) (λx0 x1=>yW x0 x1)).bind λv38=>((cS v6 v38.1 ([(GF.mk 0 e1.z6 e1.op.text)]:List GF)).bind λv39=>aa v39)))):Option (List GF)).bind λv31=>aa v31)else aa v6)):Option (List GF)).bind λv17=>aa ((GE.mk l0.x4 l0.n l0.time l0.z6 l0.text v17 v7),0))else(if e1.op.kind=4 then(((zN (ak (v7)+ak (e1.op.gZ)<=lim) (((qT (λx y=>xR x y) (v7++e1.op.gZ)).bind λv47=>((wx v47).bind λv48=>((x7 v6 (λx0=>wY x0 e1)).bind λv49=>aa (v48,v49)))))):Option ((List GA)×(List GF))).bind λv41=>aa ((GE.mk l0.x4 l0.n l0.time l0.z6 l0.text v41.2 v41.1),0))else(if e1.op.kind=5 then((((((rU v6 e1.z6).bind λv66=>(if v66 then aa v6 else((zS v6 (GF.mk e1.time e1.z6 e1.op.text) (λx0 x1=>yW x0 x1)).bind λv68=>((cS v6 v68.1 ([(GF.mk e1.time e1.z6 e1.op.text)]:List GF)).bind λv69=>aa v69)))):Option (List GF)).bind λv61=>aa v61):Option (List GF)).bind λv51=>aa ((GE.mk l0.x4 l0.n l0.time l0.z6 l0.text v51 v7),0))else aa ((GE.mk l0.x4 l0.n l0.time l0.z6 l0.text v6 v7),0)))))))))))))
def wi:Nat->(t0:(List GC))->(byy1:(GE->Option GE))->Option (List GC)
 |0,_,_=>ac
 |n+1,t0,byy1=>(lp (zf (λ(n1:Nat)(x1:GC) (s1:(List GC))=>(((wi n x1.wa byy1).bind λv23=>(lp (zf (λ(n2:Nat)(x2:GE) (s2:(List GE))=>(((byy1 x2).bind λv36=>(zN (ak (s2)+ak (([v36]:List GE))<=lim) (aa (.gV (s2++([v36]:List GE)))))):Option (Out _ (List GE)))) x1.leaves 0 ([]:List GE)) λ(s2:(List GE))=>(zN (ak (s1)+ak (([(GC.mk x1.name s2 v23)]:List GC))<=lim) (aa (.gV (s1++([(GC.mk x1.name s2 v23)]:List GC))))))):Option (Out _ (List GC)))) t0 0 ([]:List GC)) λ(s1:(List GC))=>aa s1)
def n9(t0:(List GC))(byy1:(GE->Option GE)):Option (List GC):=br λn=>wi n t0 byy1
def tg(l0:GE):Option GE :=
 ((yN l0.z8).bind λv1=>((ym l0.y4).bind λv2=>aa (GE.mk l0.x4 l0.n l0.time l0.z6 l0.text v1 v2)))
def zaD(t0:(List GC)):Option (List GC) :=
 ((n9 t0 (λx0=>tg x0)).bind λv1=>aa v1)
def zg(xx0:(List GC))(target1:zp)(cmp2:(GC->zp->Option Int)):Option (Int×Bool) :=
 (lp (ya (λ(sL1:Int×Int)=>((if(ae (sL1.1<sL1.2))then((zR xx0 (ai .i64 ((Int.fdiv (ai .u64 ((ai .i64 (sL1.1+sL1.2)))) (2 ^ (min (1:Int).toNat (IntKind.bits .u64))))))).bind λy9=>((cmp2 y9 target1).bind λv10=>(if(ae (v10<0))then aa (.gV ((ai .i64 ((ai .i64 ((Int.fdiv (ai .u64 ((ai .i64 (sL1.1+sL1.2)))) (2 ^ (min (1:Int).toNat (IntKind.bits .u64))))))+1)),sL1.2))else aa (.gV (sL1.1,(ai .i64 ((Int.fdiv (ai .u64 ((ai .i64 (sL1.1+sL1.2)))) (2 ^ (min (1:Int).toNat (IntKind.bits .u64)))))))))))else aa (.brk (sL1.1,sL1.2))):Option (Out _ (Int×Int)))) (0,(ak (xx0):Int))) λ(sL1:Int×Int)=>(zN (((ae (sL1.1<(ak (xx0):Int)))==true)=true->0<=sL1.1/\sL1.1<(ak (xx0):Int)) (((if((ae (sL1.1<(ak (xx0):Int)))==true)then cmp2 ((xx0).getD sL1.1.toNat af) target1 else aa af).bind λv13=>aa (sL1.1,((ae (sL1.1<(ak (xx0):Int)))&&(v13==0)))))))
/-- strings.Compare -/
def pJ(p0:zp)(p1:zp):Option Int:=aa (Go.Lib.compareBytes p0 p1)
def zao(nn0:GC)(ss1:zp):Option Int :=
 ((pJ nn0.name ss1).bind λv1=>aa v1)
def na(t0:(List GC))(name1:zp):Option (Int×Bool) :=
 ((zg t0 name1 (λx0 x1=>zao x0 x1)).bind λv1=>aa (v1.1,v1.2))
/-- slices.Insert[varve/api.Tree,varve/api.Node]: zhn -/
def zgC:Unit:=()
def zL(xx0:(List GE))(target1:Int)(cmp2:(GE->Int->Option Int)):Option (Int×Bool) :=
 (lp (ya (λ(s1:Int×Int)=>((if(ae (s1.1<s1.2))then((zR xx0 (ai .i64 ((Int.fdiv (ai .u64 ((ai .i64 (s1.1+s1.2)))) (2 ^ (min (1:Int).toNat (IntKind.bits .u64))))))).bind λy9=>((cmp2 y9 target1).bind λv10=>(if(ae (v10<0))then aa (.gV ((ai .i64 ((ai .i64 ((Int.fdiv (ai .u64 ((ai .i64 (s1.1+s1.2)))) (2 ^ (min (1:Int).toNat (IntKind.bits .u64))))))+1)),s1.2))else aa (.gV (s1.1,(ai .i64 ((Int.fdiv (ai .u64 ((ai .i64 (s1.1+s1.2)))) (2 ^ (min (1:Int).toNat (IntKind.bits .u64)))))))))))else aa (.brk (s1.1,s1.2))):Option (Out _ (Int×Int)))) (0,(ak (xx0):Int))) λ(s1:Int×Int)=>(zN (((ae (s1.1<(ak (xx0):Int)))==true)=true->0<=s1.1/\s1.1<(ak (xx0):Int)) (((if((ae (s1.1<(ak (xx0):Int)))==true)then cmp2 ((xx0).getD s1.1.toNat af) target1 else aa af).bind λv13=>aa (s1.1,((ae (s1.1<(ak (xx0):Int)))&&(v13==0)))))))
def ql(xx0:GE)(eY:Int):Option Int :=
 ((wJ xx0.x4 eY).bind λv1=>aa v1)
/-- slices.Insert[[]varve/api.Leaf,varve/api.Leaf]: zhn -/
def zkP:Unit:=()
def wW:Nat->(t0:(List GC))->(path1:(List zp))->(l2:GE)->Option (List GC)
 |0,_,_,_=>ac
 |n+1,t0,path1,l2=>((yR t0).bind λv1=>((zR path1 0).bind λy2=>((na v1 y2).bind λv3=>(if(!v3.2)then((zR path1 0).bind λy5=>((cS v1 v3.1 ([(GC.mk y5 ([]:List GE) ([]:List GC))]:List GC)).bind λv6=>((zR v6 v3.1).bind λy7=>(if(ae ((ak (path1):Int) > 1))then((fP path1 1 (ak (path1):Int)).bind λm10=>((wW n y7.wa m10 l2).bind λv11=>((zR v6 v3.1).bind λy12=>aa (v6.set v3.1.toNat (GC.mk y7.name y7.leaves v11)))))else((xB y7.leaves).bind λv13=>((zL v13 l2.x4 (λx0 x1=>ql x0 x1)).bind λv14=>(if(!v14.2)then((cS v13 v14.1 ([l2]:List GE)).bind λv16=>((zR v16 v14.1).bind λy17=>((zR v6 v3.1).bind λy18=>aa (v6.set v3.1.toNat (GC.mk y7.name (v16.set v14.1.toNat l2) y7.wa)))))else((zR v13 v14.1).bind λy19=>((zR v6 v3.1).bind λy20=>aa (v6.set v3.1.toNat (GC.mk y7.name (v13.set v14.1.toNat l2) y7.wa)))))))))))else((zR v1 v3.1).bind λy21=>(if(ae ((ak (path1):Int) > 1))then((fP path1 1 (ak (path1):Int)).bind λm24=>((wW n y21.wa m24 l2).bind λv25=>((zR v1 v3.1).bind λy26=>aa (v1.set v3.1.toNat (GC.mk y21.name y21.leaves v25)))))else((xB y21.leaves).bind λv27=>((zL v27 l2.x4 (λx0 x1=>ql x0 x1)).bind λv28=>(if(!v28.2)then((cS v27 v28.1 ([l2]:List GE)).bind λv30=>((zR v30 v28.1).bind λy31=>((zR v1 v3.1).bind λy32=>aa (v1.set v3.1.toNat (GC.mk y21.name (v30.set v28.1.toNat l2) y21.wa)))))else((zR v27 v28.1).bind λy33=>((zR v1 v3.1).bind λy34=>aa (v1.set v3.1.toNat (GC.mk y21.name (v27.set v28.1.toNat l2) y21.wa)))))))))))))
def zfb(t0:(List GC))(path1:(List zp))(l2:GE):Option (List GC):=br λn=>wW n t0 path1 l2
def fQ(t0:(List GC))(e1:GJ):Option ((List GC)×Int) :=
 ((uZ t0).bind λv1=>((if((!v1)==false)then uk e1 else aa af).bind λv2=>(if((!v1) || (!v2))then aa (([]:List GC),2)else((zek e1.op.kind).bind λv4=>((uO t0 e1.op.path v4).bind λv5=>((nE v5.1 e1).bind λv6=>(if(v6.2 != 0)then aa (([]:List GC),v6.2)else((zfb t0 e1.op.path v6.1).bind λv8=>((zaD v8).bind λv9=>aa (v9,0))))))))))
def vt(ss0:(List GJ))(f1:(GJ->Option Bool)):Option Int :=
 (lp (zf (λ(n1:Nat)(x1:GJ) (s1:Unit)=>(((f1 x1).bind λv7=>(if v7 then aa (.ret (n1:Int))else aa (.gV ()))):Option (Out _ Unit))) ss0 0 ()) λ(s1:Unit)=>aa (-1))
def yZ(ss0:(List GJ))(f1:(GJ->Option Bool)):Option Bool :=
 ((vt ss0 f1).bind λv1=>aa (ae (v1 >= 0)))
def rg(e0:GJ):Option Bool :=
 ((uk e0).bind λv1=>aa (!v1))
/-- slices.Sort[[]string,string]: zdT -/
def zkO:Unit:=()
def nc(t0:(List GC))(path1:(List zp)):Option (List zp) :=
 (lp (zf (λ(n1:Nat)(x1:zp) (s1:(List GC))=>(((xY s1 x1).bind λv7=>aa (.gV v7.1.wa)):Option (Out _ (List GC)))) path1 0 t0) λ(s1:(List GC))=>(lp (zf (λ(n2:Nat)(x2:GC) (s2:(List zp))=>((zN (ak (s2)+ak (([x2.name]:List zp))<=lim) (aa (.gV (s2++([x2.name]:List zp))))):Option (Out _ (List zp)))) s1 0 ([]:List zp)) λ(s2:(List zp))=>((aR s2).bind λv15=>aa v15)))
def wo(ss0:(List zp)):Option (List zp) :=
 (if(ae ((ak (ss0):Int)<2))then aa ss0 else(lp (ya (λ(s1:Int)=>((if(ae (s1<(ak (ss0):Int)))then((zR ss0 s1).bind λy35=>((zR ss0 (ai .i64 (s1-1))).bind λy36=>(if(y35==y36)then(zN (0<=s1/\s1<=((ak ss0:Nat):Int)) ((lp (ya (λ(s2:Int×Int×(List zp))=>((zN (ak (s2.2.2)=ak ss0) ((if(ae (s2.2.1<(((ak ss0)-s1.toNat:Nat):Int)))then((zR (s2.2.2.drop s1.toNat) s2.2.1).bind λy51=>((zR (s2.2.2.drop s1.toNat) (ai .i64 (s2.2.1-1))).bind λy52=>(if(!(y51==y52))then((zR (s2.2.2.drop s1.toNat) s2.2.1).bind λy54=>((zR s2.2.2 s2.1).bind λy55=>aa (.gV ((ai .i64 (s2.1+1)),(ai .i64 (s2.2.1+1)),(s2.2.2.set s2.1.toNat y54)))))else aa (.gV (s2.1,(ai .i64 (s2.2.1+1)),s2.2.2)))))else aa (.brk (s2.1,s2.2.1,s2.2.2))))):Option (Out _ (Int×Int×(List zp))))) (s1,1,ss0)) λ(s2:Int×Int×(List zp))=>(zN (0<=s2.1/\s2.1<=((ak ss0:Nat):Int)) (((fP (s2.2.2.take s2.1.toNat++List.replicate ((ak ss0)-s2.1.toNat) ([]:zp)) 0 s2.1).bind λm57=>aa (.ret m57)))))))else aa (.gV (ai .i64 (s1+1))))))else aa (.brk s1)):Option (Out _ Int))) 1) λ(s1:Int)=>aa ss0))
def pH(l0:(List (List GC))):Option (List zp) :=
 (lp (zf (λ(n1:Nat)(x1:(List GC)) (s1:(List zp))=>(((nc x1 ([]:List zp)).bind λv8=>(zN (ak (s1)+ak (v8)<=lim) (aa (.gV (s1++v8))))):Option (Out _ (List zp)))) l0 0 ([]:List zp)) λ(s1:(List zp))=>((aR s1).bind λv10=>((wo v10).bind λv11=>aa v11)))
def wh(nn0:GC)(eY:Int):Option (GE×Bool) :=
 ((uO ([nn0]:List GC) ([nn0.name]:List zp) eY).bind λv1=>aa (v1.1,v1.2))
def uH(l0:GE)(a1:GE)(b2:GE):Option GE :=
 aa (GE.mk a1.x4 (ai .i64 (a1.n+(ai .i64 (b2.n-l0.n)))) a1.time a1.z6 a1.text a1.z8 a1.y4)
def qO(pp0:GE)(a1:GE)(b2:GE):Option GE :=
 ((if(((a1.time==0)==false)&&((b2.time != 0)==true))then qM b2.time b2.z6 a1.time a1.z6 else aa af).bind λv1=>(if((a1.time==0) || ((b2.time != 0)&&(!v1)))then aa b2 else aa a1))
def uQ(_ss0:(List GA))(nn1:Int):Option (List GA) :=
 (if(ae (nn1<0))then ac else(if(ae ((ai .i64 (nn1-(ai .i64 (0-((0:Nat):Int))))) > 0))then(zN (0<(ai .i64 (nn1-(ai .i64 (0-((0:Nat):Int)))))/\(ai .i64 (nn1-(ai .i64 (0-((0:Nat):Int)))))<=(lim:Int)) (((fP (List.replicate (ai .i64 (nn1-(ai .i64 (0-((0:Nat):Int))))).toNat (GA.mk (GH.mk 0 0) 0)) 0 ((0:Nat):Int)).bind λm6=>aa m6)))else aa ([]:List GA)))
def qA(slices0:(List (List GA))):Option (List GA) :=
 (lp (zf (λ(n1:Nat)(x1:(List GA)) (s1:Int)=>((if(ae ((ai .i64 (s1+(ak (x1):Int)))<0))then ac else aa (.gV (ai .i64 (s1+(ak (x1):Int))))):Option (Out _ Int))) slices0 0 0) λ(s1:Int)=>((uQ ([]:List GA) s1).bind λv10=>(lp (zf (λ(n2:Nat)(x2:(List GA)) (s2:(List GA))=>((zN (ak (s2)+ak (x2)<=lim) (aa (.gV (s2++x2)))):Option (Out _ (List GA)))) slices0 0 v10) λ(s2:(List GA))=>aa s2)))
def uc(_ss0:(List GF))(nn1:Int):Option (List GF) :=
 (if(ae (nn1<0))then ac else(if(ae ((ai .i64 (nn1-(ai .i64 (0-((0:Nat):Int))))) > 0))then(zN (0<(ai .i64 (nn1-(ai .i64 (0-((0:Nat):Int)))))/\(ai .i64 (nn1-(ai .i64 (0-((0:Nat):Int)))))<=(lim:Int)) (((fP (List.replicate (ai .i64 (nn1-(ai .i64 (0-((0:Nat):Int))))).toNat (GF.mk 0 (GA.mk (GH.mk 0 0) 0) ([]:zp))) 0 ((0:Nat):Int)).bind λm6=>aa m6)))else aa ([]:List GF)))
def wX(slices0:(List (List GF))):Option (List GF) :=
 (lp (zf (λ(n1:Nat)(x1:(List GF)) (s1:Int)=>((if(ae ((ai .i64 (s1+(ak (x1):Int)))<0))then ac else aa (.gV (ai .i64 (s1+(ak (x1):Int))))):Option (Out _ Int))) slices0 0 0) λ(s1:Int)=>((uc ([]:List GF) s1).bind λv10=>(lp (zf (λ(n2:Nat)(x2:(List GF)) (s2:(List GF))=>((zN (ak (s2)+ak (x2)<=lim) (aa (.gV (s2++x2)))):Option (Out _ (List GF)))) slices0 0 v10) λ(s2:(List GF))=>aa s2)))
/-- slices.SortFunc[[]varve/api.Item,varve/api.Item]: qT -/
def zh9:Unit:=()
def tR(xx0:GF)(yy1:GF):Option Int :=
 ((qM xx0.time xx0.z6 yy1.time yy1.z6).bind λv1=>(if v1 then aa (-1)else aa 1))
def pC(a0:(List GF))(b1:(List GF))(tombs2:(List GA)):Option (List GF) :=
 ((wX ([a0,b1]:List (List GF))).bind λv1=>(zN (((ak (v1):Nat):Int)<=9223372036854775807) (lp (zf (λ(n1:Nat)(x1:Nat) (s1:List (GA×Int)×(List GF))=>(((zR v1 (n1:Int)).bind λy17=>((((if(((zG GA.fh 0 (uN GA.fh s1.1 y17.z6 (ai .i64 ((zG GA.fh 0 s1.1 y17.z6)+1))) y17.z6)==1)==true)then xq tombs2 y17.z6 else aa af).bind λv22=>(if(((zG GA.fh 0 (uN GA.fh s1.1 y17.z6 (ai .i64 ((zG GA.fh 0 s1.1 y17.z6)+1))) y17.z6)==1)&&(!v22))then(zN (ak (s1.2)+ak (([y17]:List GF))<=lim) (aa ((uN GA.fh s1.1 y17.z6 (ai .i64 ((zG GA.fh 0 s1.1 y17.z6)+1))),(s1.2++([y17]:List GF)))))else aa ((uN GA.fh s1.1 y17.z6 (ai .i64 ((zG GA.fh 0 s1.1 y17.z6)+1))),s1.2))):Option (List (GA×Int)×(List GF))).bind λv18=>aa (.gV (v18.1,v18.2)))):Option (Out _ (List (GA×Int)×(List GF))))) (List.range ((((ak (v1):Nat):Int)).toNat)) 0 (([]:List (GA×Int)),([]:List GF))) λ(s1:List (GA×Int)×(List GF))=>((qT (λx y=>tR x y) s1.2).bind λv25=>aa v25))))
def nI(pp0:GE)(a1:GE)(b2:GE):Option GE :=
 ((qA ([a1.y4,b2.y4]:List (List GA))).bind λv1=>((qT (λx y=>xR x y) v1).bind λv2=>((wx v2).bind λv3=>((pC a1.z8 b2.z8 v3).bind λv4=>aa (GE.mk 3 0 0 (GA.mk (GH.mk 0 0) 0) ([]:zp) v4 v3)))))
def nJ(pp0:GE)(a1:GE)(b2:GE):Option GE :=
 ((pC a1.z8 b2.z8 ([]:List GA)).bind λv1=>aa (GE.mk 4 0 0 (GA.mk (GH.mk 0 0) 0) ([]:zp) v1 ([]:List GA)))
def za2(c:Nat)(x0:GE)(x1:GE)(x2:GE):Option GE:=match c with
 |1=>uH x0 x1 x2
 |2=>qO x0 x1 x2
 |3=>nI x0 x1 x2
 |4=>nJ x0 x1 x2
 |_=>ac
def uI(l0:GE)(a1:GE)(b2:GE):Option (GE×Int) :=
 ((sq l0).bind λv1=>((if((!v1)==false)then sq a1 else aa af).bind λv2=>((if(((!v1) || (!v2))==false)then sq b2 else aa af).bind λv3=>(if(((!v1) || (!v2)) || (!v3))then aa (bQ,2)else(if((l0.x4 != a1.x4) || (l0.x4 != b2.x4))then aa (bQ,15)else((zR ([0,1,2,3,4]:List Nat) l0.x4).bind λy6=>((za2 y6 l0 a1 b2).bind λv7=>aa (v7,0))))))))
def pG(l0:GC)(a1:GC)(b2:GC):Option (List GE) :=
 (lp (ya (λ(s1:(List GE)×Int)=>((if(ae (s1.2<=4))then((wh l0 s1.2).bind λv20=>((wh a1 s1.2).bind λv21=>((wh b2 s1.2).bind λv22=>(if((v20.2 || v21.2) || v22.2)then((uI v20.1 v21.1 v22.1).bind λv24=>(zN (ak (s1.1)+ak (([v24.1]:List GE))<=lim) (aa (.gV ((s1.1++([v24.1]:List GE)),(ai .u8 (s1.2+1)))))))else aa (.gV (s1.1,(ai .u8 (s1.2+1))))))))else aa (.brk (s1.1,s1.2))):Option (Out _ ((List GE)×Int)))) (([]:List GE),1)) λ(s1:(List GE)×Int)=>aa s1.1)
def wO:Nat->(l0:(List GC))->(a1:(List GC))->(b2:(List GC))->Option (List GC)
 |0,_,_,_=>ac
 |n+1,l0,a1,b2=>((pH ([l0,a1,b2]:List (List GC))).bind λv1=>(lp (zf (λ(n1:Nat)(x1:zp) (s1:(List GC))=>(((xY l0 x1).bind λv13=>((xY a1 x1).bind λv14=>((xY b2 x1).bind λv15=>((pG v13.1 v14.1 v15.1).bind λv16=>((wO n v13.1.wa v14.1.wa v15.1.wa).bind λv17=>(zN (ak (s1)+ak (([(GC.mk x1 v16 v17)]:List GC))<=lim) (aa (.gV (s1++([(GC.mk x1 v16 v17)]:List GC)))))))))):Option (Out _ (List GC)))) v1 0 ([]:List GC)) λ(s1:(List GC))=>aa s1))
def zan(l0:(List GC))(a1:(List GC))(b2:(List GC)):Option (List GC):=br λn=>wO n l0 a1 b2
def pr(l0:(List GC))(a1:(List GC))(b2:(List GC)):Option ((List GC)×Int) :=
 ((uZ l0).bind λv1=>((if((!v1)==false)then uZ a1 else aa af).bind λv2=>((if(((!v1) || (!v2))==false)then uZ b2 else aa af).bind λv3=>(if(((!v1) || (!v2)) || (!v3))then aa (([]:List GC),2)else((zan l0 a1 b2).bind λv5=>aa (v5,0))))))
def nN(t0:(List GC))(l1:(List GJ)):Option ((List GC)×Int) :=
 ((uZ t0).bind λv1=>((if((!v1)==false)then yZ l1 (λx0=>rg x0)else aa af).bind λv2=>(if((!v1) || v2)then aa (([]:List GC),2)else(lp (zf (λ(n1:Nat)(x1:GJ) (s1:List (GA×Int))=>(aa (.gV (uN GA.fh s1 x1.z6 (ai .i64 ((zG GA.fh 0 s1 x1.z6)+1)))):Option (Out _ (List (GA×Int))))) l1 0 ([]:List (GA×Int))) λ(s1:List (GA×Int))=>(if(ae ((ak (s1):Int)<(ak (l1):Int)))then aa (([]:List GC),8)else((pr t0 t0 t0).bind λv12=>((uJ l1).bind λv13=>(lp (zf (λ(n2:Nat)(x2:GJ) (s2:(List GC))=>(((fQ s2 x2).bind λv22=>(if(v22.2 != 0)then aa (.ret (([]:List GC),v22.2))else aa (.gV v22.1))):Option (Out _ (List GC)))) v13 0 v12.1) λ(s2:(List GC))=>aa (s2,0)))))))))
def mW(ss0:(List GI))(seq1:(S:Type)->(S->GI->Option (Bool×S))->S->Option S):Option (List GI) :=
 (rng (seq1 _ (stp (λ(s1:(List GI)) (x1:GI)=>((zN (ak (s1)+ak (([x1]:List GI))<=lim) (aa (true,((s1++([x1]:List GI)),ac)))):Option (Bool×((List GI)×Option Nat))))) (ss0,ac)) (λ(s1:(List GI))=>aa s1) (λ_ _=>ac))
def zia(seq0:(S:Type)->(S->GI->Option (Bool×S))->S->Option S):Option (List GI) :=
 ((mW ([]:List GI) seq0).bind λv1=>aa v1)
/-- slices.SortFunc[[]varve/api.Commit,varve/api.Commit]: qT -/
def zgB:Unit:=()
def xW(a0:GI)(b1:GI):Option Int :=
 ((wg a0.time b1.time).bind λv1=>((xR a0.z6 b1.z6).bind λv2=>((r7 ([v1,v2]:List Int)).bind λv3=>aa v3)))
def wB(g0:GP):Option (List GI) :=
 ((zV g0).bind λv1=>(if(v1 || ((ak (g0.g9):Int)==0))then aa ([]:List GI)else(((zN (ak (g0.g9)<=lim) (bq g0.g9 (λ(p11:List (GA×GI))=>((qT (λx y=>xW x y) (p11.map (λx=>x.2))).bind λv13=>aa v13)))):Option (List GI)).bind λv5=>(zN (((ak (v5):Nat):Int)<=9223372036854775807) (lp (zf (λ(n1:Nat)(x1:Nat) (s1:(List GI))=>((zN (ak (s1)=ak (v5)) (((zR s1 (n1:Int)).bind λy21=>((uG y21).bind λv22=>((zR s1 (n1:Int)).bind λy23=>aa (.gV (s1.set (n1:Int).toNat v22))))))):Option (Out _ (List GI)))) (List.range ((((ak (v5):Nat):Int)).toNat)) 0 v5) λ(s1:(List GI))=>(zN (ak (s1)=ak (v5)) (aa s1)))))))
def wZ(g0:GP):Option GL :=
 ((zV g0).bind λv1=>(if v1 then aa (GL.mk 0 ([]:List GA) ([]:List GA) 0 ([]:List GC))else((yk g0.base).bind λv3=>aa v3)))
def rF(g0:GP):Option Bool :=
 ((((zV g0).bind λv6=>(if v6 then aa 1 else((tU (GI.mk (GA.mk (GH.mk 0 0) 0) ([]:List GA) ([]:List GA) 0 (GN.mk 0 ([]:List zp) 0 ([]:zp) ([]:List GA)))).bind λv8=>(if(!v8)then aa 4 else ac)))):Option Int).bind λv1=>aa (v1==1))
def sC(g0:GP):Option (List GA) :=
 ((zV g0).bind λv1=>(if v1 then aa ([]:List GA)else((xH g0.vv).bind λv3=>aa v3)))
def tG(cc0:GI)(c0:(List GA)):Option Bool :=
 ((sH c0 cc0.z6).bind λv1=>((if(v1==true)then wD cc0.vV c0 else aa af).bind λv2=>aa (v1&&(!v2))))
def ve(ss0:(List GI))(f1:(GI->Option Bool)):Option Int :=
 (lp (zf (λ(n1:Nat)(x1:GI) (s1:Unit)=>(((f1 x1).bind λv7=>(if v7 then aa (.ret (n1:Int))else aa (.gV ()))):Option (Out _ Unit))) ss0 0 ()) λ(s1:Unit)=>aa (-1))
def xA(ss0:(List GI))(f1:(GI->Option Bool)):Option Bool :=
 ((ve ss0 f1).bind λv1=>aa (ae (v1 >= 0)))
def vX(g0:GP)(vv1:(List GA)):Option Int :=
 ((rF g0).bind λv1=>(if v1 then aa 1 else((rY vv1).bind λv3=>((xG v3 vv1).bind λv4=>(if(!v4)then aa 2 else((wZ g0).bind λv6=>((wD v6.f vv1).bind λv7=>(if(!v7)then aa 13 else((sC g0).bind λv9=>((wD vv1 v9).bind λv10=>(if(!v10)then aa 14 else((wB g0).bind λv12=>((xA v12 (λx0=>tG x0 vv1)).bind λv13=>(if v13 then aa 9 else aa 0))))))))))))))
def x6(g0:GP)(vv1:(List GA)):Option ((List GC)×Int) :=
 ((vX g0 vv1).bind λv1=>(if(v1 != 0)then aa (([]:List GC),v1)else((wB g0).bind λv3=>(lp (zf (λ(n1:Nat)(x1:GI) (s1:(List GJ))=>(((sH vv1 x1.z6).bind λv13=>(if v13 then((r6 x1).bind λv15=>(zN (ak (s1)+ak (([v15]:List GJ))<=lim) (aa (.gV (s1++([v15]:List GJ))))))else aa (.gV s1))):Option (Out _ (List GJ)))) v3 0 ([]:List GJ)) λ(s1:(List GJ))=>((wZ g0).bind λv17=>((nN v17.tree s1).bind λv18=>aa (v18.1,v18.2)))))))
def wu  : Option Bool :=
 ((((wQ (GL.mk (0:Int) ([]:List GA) ([]:List GA) (0:Int) ([]:List GC))).bind λv5=>(if(!v5)then ac else((yk (GL.mk (0:Int) ([]:List GA) ([]:List GA) (0:Int) ([]:List GC))).bind λv7=>aa (([]:List (GA×GI)),v7.num,v7.f,v7.fb,v7.time,v7.tree,v7.f)))):Option (List (GA×GI)×Int×(List GA)×(List GA)×Int×(List GC)×(List GA))).bind λv1=>(if((0:Int) != (0:Int))then aa false else((yQ (0:Int)).bind λv9=>((pB (0:Int) (5:Int) (1:Int) ([v9]:List GA) ([]:List GA)).bind λv10=>((yQ (0:Int)).bind λv11=>((yQ (1:Int)).bind λv12=>((yQ (0:Int)).bind λv13=>((pB (1:Int) (3:Int) (2:Int) ([v11,v12]:List GA) ([v13]:List GA)).bind λv14=>((yQ (0:Int)).bind λv15=>((yQ (2:Int)).bind λv16=>((yQ (0:Int)).bind λv17=>((pB (2:Int) (4:Int) (2:Int) ([v15,v16]:List GA) ([v17]:List GA)).bind λv18=>(zN ((3:Int)<=9223372036854775807) (lp (zf (λ(n1:Nat)(x1:Nat) (s1:List (GA×GI)×(List GA))=>(((zR ([v10,v14,v18]:List GI) (n1:Int)).bind λy117=>((((zV (GP.mk (GL.mk v1.2.1 v1.2.2.1 v1.2.2.2.1 v1.2.2.2.2.1 v1.2.2.2.2.2.1) s1.1 s1.2)).bind λv162=>(if v162 then aa ((1:Int),s1.1,s1.2)else((tU y117).bind λv164=>(if(!v164)then aa ((4:Int),s1.1,s1.2)else((wU (GP.mk (GL.mk v1.2.1 v1.2.2.1 v1.2.2.2.1 v1.2.2.2.2.1 v1.2.2.2.2.2.1) s1.1 s1.2) y117.z6).bind λv166=>(if v166 then aa ((8:Int),s1.1,s1.2)else((wc (GP.mk (GL.mk v1.2.1 v1.2.2.1 v1.2.2.2.1 v1.2.2.2.2.1 v1.2.2.2.2.2.1) s1.1 s1.2) y117).bind λv168=>(lp (((yh y117.xo (λx0=>yi x0 (GP.mk (GL.mk v1.2.1 v1.2.2.1 v1.2.2.2.1 v1.2.2.2.2.1 v1.2.2.2.2.2.1) s1.1 s1.2))).bind λv191=>(if v191 then aa (.inr v191)else((if((ae (y117.z6.seq > (1:Int)))==true)then yi (GA.mk y117.z6.zi (ai .u64 (y117.z6.seq-(1:Int)))) (GP.mk (GL.mk v1.2.1 v1.2.2.1 v1.2.2.2.1 v1.2.2.2.2.1 v1.2.2.2.2.2.1) s1.1 s1.2)else aa af).bind λv193=>(if((ae (y117.z6.seq > (1:Int)))&&v193)then aa (.inr ((ae (y117.z6.seq > (1:Int)))&&v193))else((wD y117.vV v168).bind λv195=>aa (.inr (!v195))))))):Option (_ ⊕ Bool)) λ(s2:Bool)=>(if s2 then aa ((9:Int),s1.1,s1.2)else((wD v168 y117.vV).bind λv197=>((if((!v197)==false)then xD (GP.mk (GL.mk v1.2.1 v1.2.2.1 v1.2.2.2.1 v1.2.2.2.2.1 v1.2.2.2.2.2.1) s1.1 s1.2) y117 (GA.mk y117.z6.zi (ai .u64 (y117.z6.seq-(1:Int))))else aa af).bind λv198=>(if((!v197) || (!v198))then aa ((4:Int),s1.1,s1.2)else(if(ae ((ak (s1.1):Int) >= (200:Int)))then aa ((10:Int),s1.1,s1.2)else((uG y117).bind λv202=>((vW s1.2 y117.vV).bind λv203=>aa ((0:Int),(wM GA.fh s1.1 y117.z6 v202),v203)))))))))))))))):Option (Int×List (GA×GI)×(List GA))).bind λv118=>(if(v118.1 != (0:Int))then aa (.ret false)else aa (.gV (v118.2.1,v118.2.2))))):Option (Out _ (List (GA×GI)×(List GA))))) (List.range (((3:Int)).toNat)) 0 (v1.1,v1.2.2.2.2.2.2)) λ(s1:List (GA×GI)×(List GA))=>((yQ (0:Int)).bind λv205=>((yQ (1:Int)).bind λv206=>((x6 (GP.mk (GL.mk v1.2.1 v1.2.2.1 v1.2.2.2.1 v1.2.2.2.2.1 v1.2.2.2.2.2.1) s1.1 s1.2) ([v205,v206]:List GA)).bind λv207=>((xV v207.1 ([([97]:zp)]:List zp) (1:Int)).bind λv208=>((if(((v207.2==(0:Int))&&(v208.1.n==(8:Int)))==true)then yQ (1:Int)else aa af).bind λv209=>((if(((v207.2==(0:Int))&&(v208.1.n==(8:Int)))==true)then vX (GP.mk (GL.mk v1.2.1 v1.2.2.1 v1.2.2.2.1 v1.2.2.2.2.1 v1.2.2.2.2.2.1) s1.1 s1.2) ([v209]:List GA)else aa af).bind λv210=>aa (((v207.2==(0:Int))&&(v208.1.n==(8:Int)))&&(v210==(9:Int)))))))))))))))))))))))
def rD(g0:GP)(d1:GA):Option (GI×Bool) :=
 ((zV g0).bind λv1=>(if v1 then aa ((GI.mk (GA.mk (GH.mk 0 0) 0) ([]:List GA) ([]:List GA) 0 (GN.mk 0 ([]:List zp) 0 ([]:zp) ([]:List GA))),false)else((uG (zG GA.fh (GI.mk (GA.mk (GH.mk 0 0) 0) ([]:List GA) ([]:List GA) 0 (GN.mk 0 ([]:List zp) 0 ([]:zp) ([]:List GA))) g0.g9 d1)).bind λv3=>aa (v3,(vR GA.fh g0.g9 d1)))))
def qh(g0:GP)(d1:GA):Option ((List GA)×Int) :=
 ((rF g0).bind λv1=>(if v1 then aa (([]:List GA),1)else((rD g0 d1).bind λv3=>(if(!v3.2)then aa (([]:List GA),7)else((wZ g0).bind λv5=>((vW v5.f v3.1.vV).bind λv6=>aa (v6,0)))))))
def nw(a0:GE)(b1:GE):Option Bool :=
 (if(((((((a0.x4 != b1.x4) || (a0.n != b1.n)) || (a0.time != b1.time)) || (!(a0.z6.zi.fk==b1.z6.zi.fk&&(a0.z6.zi.inc==b1.z6.zi.inc&&(a0.z6.seq==b1.z6.seq&&true))))) || (!(a0.text==b1.text))) || ((ak (a0.z8):Int) != (ak (b1.z8):Int))) || ((ak (a0.y4):Int) != (ak (b1.y4):Int)))then aa false else(lp (zf (λ(n1:Nat)(x1:GF) (s1:Unit)=>(((zR b1.z8 (n1:Int)).bind λy32=>(if(!(x1.time==y32.time&&(x1.z6.zi.fk==y32.z6.zi.fk&&(x1.z6.zi.inc==y32.z6.zi.inc&&(x1.z6.seq==y32.z6.seq&&(x1.text==y32.text&&true))))))then aa (.ret false)else aa (.gV ()))):Option (Out _ Unit))) a0.z8 0 ()) λ(s1:Unit)=>(lp (zf (λ(n2:Nat)(x2:GA) (s2:Unit)=>(((zR b1.y4 (n2:Int)).bind λy60=>(if(!(x2.zi.fk==y60.zi.fk&&(x2.zi.inc==y60.zi.inc&&(x2.seq==y60.seq&&true))))then aa (.ret false)else aa (.gV ()))):Option (Out _ Unit))) a0.y4 0 ()) λ(s2:Unit)=>aa true)))
def tj:Nat->(a0:(List GC))->(b1:(List GC))->Option Bool
 |0,_,_=>ac
 |n+1,a0,b1=>(if((ak (a0):Int) != (ak (b1):Int))then aa false else(lp (zf (λ(n1:Nat)(x1:GC) (s1:Unit)=>(((zR b1 (n1:Int)).bind λy41=>(zN (((!(x1.name==y41.name))==false)=true->0<=(n1:Int)/\(n1:Int)<(ak (a0):Int)) ((zN (((!(x1.name==y41.name))==false)=true->0<=(n1:Int)/\(n1:Int)<(ak (b1):Int)) ((zN ((((!(x1.name==y41.name)) || ((ak (((a0).getD (n1:Int).toNat af).leaves):Int) != (ak (((b1).getD (n1:Int).toNat af).leaves):Int)))==false)=true->0<=(n1:Int)/\(n1:Int)<(ak (a0):Int)) ((zN ((((!(x1.name==y41.name)) || ((ak (((a0).getD (n1:Int).toNat af).leaves):Int) != (ak (((b1).getD (n1:Int).toNat af).leaves):Int)))==false)=true->0<=(n1:Int)/\(n1:Int)<(ak (b1):Int)) (((if(((!(x1.name==y41.name)) || ((ak (((a0).getD (n1:Int).toNat af).leaves):Int) != (ak (((b1).getD (n1:Int).toNat af).leaves):Int)))==false)then tj n (((a0).getD (n1:Int).toNat af).wa) (((b1).getD (n1:Int).toNat af).wa)else aa af).bind λv48=>(if(((!(x1.name==y41.name)) || ((ak (((a0).getD (n1:Int).toNat af).leaves):Int) != (ak (((b1).getD (n1:Int).toNat af).leaves):Int))) || (!v48))then aa (.ret false)else(lp (zf (λ(n2:Nat)(x2:GE) (s2:Unit)=>(((zR b1 (n1:Int)).bind λy60=>((zR y60.leaves (n2:Int)).bind λy61=>((nw x2 y61).bind λv62=>(if(!v62)then aa (.ret (.ret false))else aa (.gV ()))))):Option (Out _ Unit))) x1.leaves 0 ()) λ(s2:Unit)=>aa (.gV ()))))))))))))):Option (Out _ Unit))) a0 0 ()) λ(s1:Unit)=>aa true))
def sY(a0:(List GC))(b1:(List GC)):Option Bool:=br λn=>tj n a0 b1
def uf:Nat->(t0:(List GC))->(ahead1:(List zp))->Option (List GO)
 |0,_,_=>ac
 |n+1,t0,ahead1=>(lp (zf (λ(n1:Nat)(x1:GC) (s1:(List GO))=>((zN (ak (([]:List zp))+ak (ahead1)<=lim) ((zN (ak ((([]:List zp)++ahead1))+ak (([x1.name]:List zp))<=lim) ((lp (zf (λ(n2:Nat)(x2:GE) (s2:(List GO))=>((zN (ak (s2)+ak (([(GO.mk ((([]:List zp)++ahead1)++([x1.name]:List zp)) x2)]:List GO))<=lim) (aa (.gV (s2++([(GO.mk ((([]:List zp)++ahead1)++([x1.name]:List zp)) x2)]:List GO))))):Option (Out _ (List GO)))) x1.leaves 0 s1) λ(s2:(List GO))=>((uf n x1.wa ((([]:List zp)++ahead1)++([x1.name]:List zp))).bind λv44=>(zN (ak (s2)+ak (v44)<=lim) (aa (.gV (s2++v44)))))))))):Option (Out _ (List GO)))) t0 0 ([]:List GO)) λ(s1:(List GO))=>aa s1)
def ns(t0:(List GC))(ahead1:(List zp)):Option (List GO):=br λn=>uf n t0 ahead1
def qL(l0:(List GA))(d1:GA):Option (List GA) :=
 ((uB l0 d1).bind λv1=>(if v1 then aa l0 else(lp (ya (λ(s1:(List GA)×Int)=>((zN (((ae (s1.2<(ak (l0):Int)))==true)=true->0<=s1.2/\s1.2<(ak (l0):Int)) (((if((ae (s1.2<(ak (l0):Int)))==true)then wy ((l0).getD s1.2.toNat af) d1 else aa af).bind λv16=>(if((ae (s1.2<(ak (l0):Int)))&&v16)then((zR l0 s1.2).bind λy18=>(zN (ak (s1.1)+ak (([y18]:List GA))<=lim) (aa (.gV ((s1.1++([y18]:List GA)),(ai .i64 (s1.2+1)))))))else aa (.brk (s1.1,s1.2)))))):Option (Out _ ((List GA)×Int)))) (([]:List GA),0)) λ(s1:(List GA)×Int)=>(zN (ak (s1.1)+ak (([d1]:List GA))<=lim) (((fP l0 s1.2 (ak (l0):Int)).bind λm21=>(zN (ak ((s1.1++([d1]:List GA)))+ak (m21)<=lim) (aa ((s1.1++([d1]:List GA))++m21)))))))))
def sf(l0:(List GF))(xx1:GF):Option (List GF) :=
 ((pt l0 xx1.z6).bind λv1=>(if(ae (v1 >= 0))then(zN (ak (([]:List GF))+ak (l0)<=lim) (aa (([]:List GF)++l0)))else(lp (ya (λ(s1:(List GF)×Int)=>((zN (((ae (s1.2<(ak (l0):Int)))==true)=true->0<=s1.2/\s1.2<(ak (l0):Int)) ((zN (((ae (s1.2<(ak (l0):Int)))==true)=true->0<=s1.2/\s1.2<(ak (l0):Int)) (((if((ae (s1.2<(ak (l0):Int)))==true)then qp (((l0).getD s1.2.toNat af).time) (((l0).getD s1.2.toNat af).z6) xx1.time xx1.z6 else aa af).bind λv21=>(if((ae (s1.2<(ak (l0):Int)))&&v21)then((zR l0 s1.2).bind λy23=>(zN (ak (s1.1)+ak (([y23]:List GF))<=lim) (aa (.gV ((s1.1++([y23]:List GF)),(ai .i64 (s1.2+1)))))))else aa (.brk (s1.1,s1.2)))))))):Option (Out _ ((List GF)×Int)))) (([]:List GF),0)) λ(s1:(List GF)×Int)=>(zN (ak (s1.1)+ak (([xx1]:List GF))<=lim) (((fP l0 s1.2 (ak (l0):Int)).bind λm26=>(zN (ak ((s1.1++([xx1]:List GF)))+ak (m26)<=lim) (aa ((s1.1++([xx1]:List GF))++m26)))))))))
def s6(l0:(List GF))(tombs1:(List GA)):Option (List GF) :=
 (lp (zf (λ(n1:Nat)(x1:GF) (s1:(List GF))=>(((uB tombs1 x1.z6).bind λv12=>(if(!v12)then(zN (ak (s1)+ak (([x1]:List GF))<=lim) (aa (.gV (s1++([x1]:List GF)))))else aa (.gV s1))):Option (Out _ (List GF)))) l0 0 ([]:List GF)) λ(s1:(List GF))=>aa s1)
def tn(l0:GE)(a1:GE)(b2:GE):Option (GE×Int) :=
 ((vY l0).bind λv1=>((if((!v1)==false)then vY a1 else aa af).bind λv2=>((if(((!v1) || (!v2))==false)then vY b2 else aa af).bind λv3=>(if(((!v1) || (!v2)) || (!v3))then aa (bQ,2)else(if((l0.x4 != a1.x4) || (a1.x4 != b2.x4))then aa (bQ,15)else(if(l0.x4==1)then aa ((GE.mk l0.x4 (ai .i64 ((ai .i64 (a1.n-l0.n))+b2.n)) 0 (GA.mk (GH.mk 0 0) 0) ([]:zp) ([]:List GF) ([]:List GA)),0)else(if(l0.x4==2)then((if(((b2.time==0)==false)&&((a1.time != 0)==true))then qp b2.time b2.z6 a1.time a1.z6 else aa af).bind λv8=>(if((b2.time==0) || ((a1.time != 0)&&v8))then(if(a1.time==0)then aa ((GE.mk l0.x4 0 b2.time b2.z6 b2.text ([]:List GF) ([]:List GA)),0)else aa ((GE.mk l0.x4 0 a1.time a1.z6 a1.text ([]:List GF) ([]:List GA)),0))else(if(a1.time==0)then aa ((GE.mk l0.x4 0 b2.time b2.z6 b2.text ([]:List GF) ([]:List GA)),0)else aa ((GE.mk l0.x4 0 b2.time b2.z6 b2.text ([]:List GF) ([]:List GA)),0))))else(lp (zf (λ(n1:Nat)(x1:GA) (s1:(List GA))=>(((qL s1 x1).bind λv64=>aa (.gV v64)):Option (Out _ (List GA)))) a1.y4 0 ([]:List GA)) λ(s1:(List GA))=>(lp (zf (λ(n2:Nat)(x2:GA) (s2:(List GA))=>(((qL s2 x2).bind λv117=>aa (.gV v117)):Option (Out _ (List GA)))) b2.y4 0 s1) λ(s2:(List GA))=>(zN (ak (([]:List GF))+ak (a1.z8)<=lim) ((lp (zf (λ(n3:Nat)(x3:GF) (s3:(List GF))=>(((sf s3 x3).bind λv172=>aa (.gV v172)):Option (Out _ (List GF)))) b2.z8 0 (([]:List GF)++a1.z8)) λ(s3:(List GF))=>((s6 s3 s2).bind λv173=>aa ((GE.mk l0.x4 0 0 (GA.mk (GH.mk 0 0) 0) ([]:zp) v173 s2),0))))))))))))))
def vp:Nat->(t0:(List GC))->(path1:(List zp))->(l2:GE)->Option (List GC)
 |0,_,_,_=>ac
 |n+1,t0,path1,l2=>(lp (ya (λ(s1:(List GC)×Int)=>((zN (((ae (s1.2<(ak (t0):Int)))==true)=true->0<=s1.2/\s1.2<(ak (t0):Int)) ((zN (((ae (s1.2<(ak (t0):Int)))==true)=true->0<=(0:Int)/\(0:Int)<(ak (path1):Int)) ((if((ae (s1.2<(ak (t0):Int)))&&(Op.bytesLess (((t0).getD s1.2.toNat af).name) ((path1).getD (0:Int).toNat af)))then((zR t0 s1.2).bind λy22=>(zN (ak (s1.1)+ak (([y22]:List GC))<=lim) (aa (.gV ((s1.1++([y22]:List GC)),(ai .i64 (s1.2+(1:Int))))))))else aa (.brk (s1.1,s1.2))))))):Option (Out _ ((List GC)×Int)))) (([]:List GC),(0:Int))) λ(s1:(List GC)×Int)=>((zR path1 (0:Int)).bind λy24=>(lp ((zN (((ae (s1.2<(ak (t0):Int)))==true)=true->0<=s1.2/\s1.2<(ak (t0):Int)) ((zN (((ae (s1.2<(ak (t0):Int)))==true)=true->0<=(0:Int)/\(0:Int)<(ak (path1):Int)) ((if((ae (s1.2<(ak (t0):Int)))&&(((t0).getD s1.2.toNat af).name==((path1).getD (0:Int).toNat af)))then((zR t0 s1.2).bind λy34=>aa (.inr ((ai .i64 (s1.2+(1:Int))),y34.name,y34.leaves,y34.wa)))else aa (.inr (s1.2,y24,([]:List GE),([]:List GC)))))))):Option (_ ⊕ (Int×zp×(List GE)×(List GC)))) λ(s2:Int×zp×(List GE)×(List GC))=>(if(ae ((ak (path1):Int) > (1:Int)))then((fP path1 (1:Int) (ak (path1):Int)).bind λm37=>((vp n s2.2.2.2 m37 l2).bind λv38=>(zN (ak (s1.1)+ak (([(GC.mk s2.2.1 s2.2.2.1 v38)]:List GC))<=lim) (((fP t0 s2.1 (ak (t0):Int)).bind λm40=>(zN (ak ((s1.1++([(GC.mk s2.2.1 s2.2.2.1 v38)]:List GC)))+ak (m40)<=lim) (aa ((s1.1++([(GC.mk s2.2.1 s2.2.2.1 v38)]:List GC))++m40))))))))else(lp (ya (λ(s3:(List GE)×Int)=>((zN (((ae (s3.2<(ak (s2.2.2.1):Int)))==true)=true->0<=s3.2/\s3.2<(ak (s2.2.2.1):Int)) ((if((ae (s3.2<(ak (s2.2.2.1):Int)))&&(ae (((s2.2.2.1).getD s3.2.toNat af).x4<l2.x4)))then((zR s2.2.2.1 s3.2).bind λy64=>(zN (ak (s3.1)+ak (([y64]:List GE))<=lim) (aa (.gV ((s3.1++([y64]:List GE)),(ai .i64 (s3.2+(1:Int))))))))else aa (.brk (s3.1,s3.2))))):Option (Out _ ((List GE)×Int)))) (([]:List GE),(0:Int))) λ(s3:(List GE)×Int)=>(zN (((ae (s3.2<(ak (s2.2.2.1):Int)))==true)=true->0<=s3.2/\s3.2<(ak (s2.2.2.1):Int)) ((if((ae (s3.2<(ak (s2.2.2.1):Int)))&&(((s2.2.2.1).getD s3.2.toNat af).x4==l2.x4))then(zN (ak (s3.1)+ak (([l2]:List GE))<=lim) (((fP s2.2.2.1 (ai .i64 (s3.2+(1:Int))) (ak (s2.2.2.1):Int)).bind λm70=>(zN (ak ((s3.1++([l2]:List GE)))+ak (m70)<=lim) ((zN (ak (s1.1)+ak (([(GC.mk s2.2.1 ((s3.1++([l2]:List GE))++m70) s2.2.2.2)]:List GC))<=lim) (((fP t0 s2.1 (ak (t0):Int)).bind λm73=>(zN (ak ((s1.1++([(GC.mk s2.2.1 ((s3.1++([l2]:List GE))++m70) s2.2.2.2)]:List GC)))+ak (m73)<=lim) (aa ((s1.1++([(GC.mk s2.2.1 ((s3.1++([l2]:List GE))++m70) s2.2.2.2)]:List GC))++m73)))))))))))else(zN (ak (s3.1)+ak (([l2]:List GE))<=lim) (((fP s2.2.2.1 s3.2 (ak (s2.2.2.1):Int)).bind λm76=>(zN (ak ((s3.1++([l2]:List GE)))+ak (m76)<=lim) ((zN (ak (s1.1)+ak (([(GC.mk s2.2.1 ((s3.1++([l2]:List GE))++m76) s2.2.2.2)]:List GC))<=lim) (((fP t0 s2.1 (ak (t0):Int)).bind λm79=>(zN (ak ((s1.1++([(GC.mk s2.2.1 ((s3.1++([l2]:List GE))++m76) s2.2.2.2)]:List GC)))+ak (m79)<=lim) (aa ((s1.1++([(GC.mk s2.2.1 ((s3.1++([l2]:List GE))++m76) s2.2.2.2)]:List GC))++m79)))))))))))))))))))
def nu(t0:(List GC))(path1:(List zp))(l2:GE):Option (List GC):=br λn=>vp n t0 path1 l2
def ug(l0:(List GC))(a1:(List GC))(b2:(List GC)):Option ((List GC)×Int) :=
 ((se l0).bind λv1=>((if((!v1)==false)then se a1 else aa af).bind λv2=>((if(((!v1) || (!v2))==false)then se b2 else aa af).bind λv3=>(if(((!v1) || (!v2)) || (!v3))then aa (([]:List GC),2)else((ns l0 ([]:List zp)).bind λv5=>((ns a1 ([]:List zp)).bind λv6=>(zN (ak (v5)+ak (v6)<=lim) (((ns b2 ([]:List zp)).bind λv8=>(zN (ak ((v5++v6))+ak (v8)<=lim) ((lp (zf (λ(n1:Nat)(x1:GO) (s1:(List GC))=>(((xV l0 x1.path x1.l.x4).bind λv23=>((xV a1 x1.path x1.l.x4).bind λv24=>((xV b2 x1.path x1.l.x4).bind λv25=>((tn v23.1 v24.1 v25.1).bind λv26=>((nu s1 x1.path v26.1).bind λv27=>aa (.gV v27)))))):Option (Out _ (List GC)))) ((v5++v6)++v8) 0 ([]:List GC)) λ(s1:(List GC))=>aa (s1,0)))))))))))))
def xi(b0:GL)(l1:(List GI))(ii2:Int)(k3:Int):Option Bool :=
 ((((if(((ae ((ak (l1):Int) > 12)) || (ae ((ak (b0.f):Int) > 64)))==false)then uh b0.tree else aa af).bind λv556=>((if((((ae ((ak (l1):Int) > 12)) || (ae ((ak (b0.f):Int) > 64))) || v556)==false)then uy b0 else aa af).bind λv557=>(if((((ae ((ak (l1):Int) > 12)) || (ae ((ak (b0.f):Int) > 64))) || v556) || (!v557))then aa (.inl ())else((((wQ b0).bind λv563=>(if(!v563)then ac else((yk b0).bind λv565=>aa (([]:List (GA×GI)),v565.num,v565.f,v565.fb,v565.time,v565.tree,v565.f)))):Option (List (GA×GI)×Int×(List GA)×(List GA)×Int×(List GC)×(List GA))).bind λv559=>(lp (zf (λ(n1:Nat)(x1:GI) (s1:List (GA×GI)×(List GA)×(List GI))=>((if(((ae ((ak (x1.xo):Int) > 64)) || (ae ((ak (x1.vV):Int) > 64))) || (ae ((ak (x1.op.gZ):Int) > 100)))then aa (.ret (.inl ()))else((((zV (GP.mk (GL.mk v559.2.1 v559.2.2.1 v559.2.2.2.1 v559.2.2.2.2.1 v559.2.2.2.2.2.1) s1.1 s1.2.1)).bind λv897=>(if v897 then aa (1,s1.1,s1.2.1)else((tU x1).bind λv899=>(if(!v899)then aa (4,s1.1,s1.2.1)else((wU (GP.mk (GL.mk v559.2.1 v559.2.2.1 v559.2.2.2.1 v559.2.2.2.2.1 v559.2.2.2.2.2.1) s1.1 s1.2.1) x1.z6).bind λv901=>(if v901 then aa (8,s1.1,s1.2.1)else((wc (GP.mk (GL.mk v559.2.1 v559.2.2.1 v559.2.2.2.1 v559.2.2.2.2.1 v559.2.2.2.2.2.1) s1.1 s1.2.1) x1).bind λv903=>(lp (((yh x1.xo (λx0=>yi x0 (GP.mk (GL.mk v559.2.1 v559.2.2.1 v559.2.2.2.1 v559.2.2.2.2.1 v559.2.2.2.2.2.1) s1.1 s1.2.1))).bind λv926=>(if v926 then aa (.inr v926)else((if((ae (x1.z6.seq > 1))==true)then yi (GA.mk x1.z6.zi (ai .u64 (x1.z6.seq-1))) (GP.mk (GL.mk v559.2.1 v559.2.2.1 v559.2.2.2.1 v559.2.2.2.2.1 v559.2.2.2.2.2.1) s1.1 s1.2.1)else aa af).bind λv928=>(if((ae (x1.z6.seq > 1))&&v928)then aa (.inr ((ae (x1.z6.seq > 1))&&v928))else((wD x1.vV v903).bind λv930=>aa (.inr (!v930))))))):Option (_ ⊕ Bool)) λ(s2:Bool)=>(if s2 then aa (9,s1.1,s1.2.1)else((wD v903 x1.vV).bind λv932=>((if((!v932)==false)then xD (GP.mk (GL.mk v559.2.1 v559.2.2.1 v559.2.2.2.1 v559.2.2.2.2.1 v559.2.2.2.2.2.1) s1.1 s1.2.1) x1 (GA.mk x1.z6.zi (ai .u64 (x1.z6.seq-1)))else aa af).bind λv933=>(if((!v932) || (!v933))then aa (4,s1.1,s1.2.1)else(if(ae ((ak (s1.1):Int) >= 200))then aa (10,s1.1,s1.2.1)else((uG x1).bind λv937=>((vW s1.2.1 x1.vV).bind λv938=>aa (0,(wM GA.fh s1.1 x1.z6 v937),v938)))))))))))))))):Option (Int×List (GA×GI)×(List GA))).bind λv853=>((((nq x1).bind λv1022=>(if(!v1022)then aa (4,s1.2.2)else((xc (GS.mk b0 s1.2.2) x1.z6).bind λv1024=>(if v1024 then aa (8,s1.2.2)else((xT (GS.mk b0 s1.2.2) x1 (GA.mk x1.z6.zi (ai .u64 (x1.z6.seq-1)))).bind λv1026=>(if v1026 then aa (9,s1.2.2)else((xw (GS.mk b0 s1.2.2) x1 (GA.mk x1.z6.zi (ai .u64 (x1.z6.seq-1)))).bind λv1028=>(if v1028 then aa (4,s1.2.2)else(if(ae ((ak (s1.2.2):Int) >= 200))then aa (10,s1.2.2)else(lp (ya (λ(s2:Int)=>((zN (((ae (s2<(ak (s1.2.2):Int)))==true)=true->0<=s2/\s2<(ak (s1.2.2):Int)) ((zN ((((ae (s2<(ak (s1.2.2):Int)))==true)&&((ae (((s1.2.2).getD s2.toNat af).time<x1.time))==false))=true->0<=s2/\s2<(ak (s1.2.2):Int)) ((zN (((((ae (s2<(ak (s1.2.2):Int)))==true)&&((ae (((s1.2.2).getD s2.toNat af).time<x1.time))==false))&&((((s1.2.2).getD s2.toNat af).time==x1.time)==true))=true->0<=s2/\s2<(ak (s1.2.2):Int)) (((if((((ae (s2<(ak (s1.2.2):Int)))==true)&&((ae (((s1.2.2).getD s2.toNat af).time<x1.time))==false))&&((((s1.2.2).getD s2.toNat af).time==x1.time)==true))then wy (((s1.2.2).getD s2.toNat af).z6) x1.z6 else aa af).bind λv1091=>(if((ae (s2<(ak (s1.2.2):Int)))&&((ae (((s1.2.2).getD s2.toNat af).time<x1.time)) || ((((s1.2.2).getD s2.toNat af).time==x1.time)&&v1091)))then aa (.gV (ai .i64 (s2+1)))else aa (.brk s2))))))))):Option (Out _ Int))) 0) λ(s2:Int)=>((fP s1.2.2 0 s2).bind λm1093=>(zN (ak (([]:List GI))+ak (m1093)<=lim) ((zN (ak ((([]:List GI)++m1093))+ak (([x1]:List GI))<=lim) (((fP s1.2.2 s2 (ak (s1.2.2):Int)).bind λm1096=>(zN (ak (((([]:List GI)++m1093)++([x1]:List GI)))+ak (m1096)<=lim) (aa (0,(((([]:List GI)++m1093)++([x1]:List GI))++m1096)))))))))))))))))))):Option (Int×(List GI))).bind λv939=>aa (.gV (v853.2.1,v853.2.2,v939.2))))):Option (Out _ (List (GA×GI)×(List GA)×(List GI))))) l1 0 (v559.1,v559.2.2.2.2.2.2,([]:List GI))) λ(s1:List (GA×GI)×(List GA)×(List GI))=>aa (.inr (s1.1,v559.2.1,v559.2.2.1,v559.2.2.2.1,v559.2.2.2.2.1,v559.2.2.2.2.2.1,s1.2.1,b0.num,b0.f,b0.fb,b0.time,b0.tree,s1.2.2))))))):Option (Unit ⊕ (List (GA×GI)×Int×(List GA)×(List GA)×Int×(List GC)×(List GA)×Int×(List GA)×(List GA)×Int×(List GC)×(List GI)))).bind λv1=>Sum.elim (λv1a=>((wu).bind λv1103=>aa v1103)) (λv1b=>(if((ak (v1b.2.2.2.2.2.2.2.2.2.2.2.2):Int)==0)then((wu).bind λv1106=>aa v1106)else(zN (¬(ak (v1b.2.2.2.2.2.2.2.2.2.2.2.2):Int)=0) (((zR v1b.2.2.2.2.2.2.2.2.2.2.2.2 (Int.tmod (ai .i64 (ii2)) (ak (v1b.2.2.2.2.2.2.2.2.2.2.2.2):Int))).bind λy1109=>((qh (GP.mk (GL.mk v1b.2.1 v1b.2.2.1 v1b.2.2.2.1 v1b.2.2.2.2.1 v1b.2.2.2.2.2.1) v1b.1 v1b.2.2.2.2.2.2.1) y1109.z6).bind λv1110=>(zN (¬(ak (v1b.2.2.2.2.2.2.2.2.2.2.2.2):Int)=0) (((zR v1b.2.2.2.2.2.2.2.2.2.2.2.2 (Int.tmod (ai .i64 (k3)) (ak (v1b.2.2.2.2.2.2.2.2.2.2.2.2):Int))).bind λy1113=>((qh (GP.mk (GL.mk v1b.2.1 v1b.2.2.1 v1b.2.2.2.1 v1b.2.2.2.2.1 v1b.2.2.2.2.2.1) v1b.1 v1b.2.2.2.2.2.2.1) y1113.z6).bind λv1114=>(if((v1110.2 != 0) || (v1114.2 != 0))then aa false else((x6 (GP.mk (GL.mk v1b.2.1 v1b.2.2.1 v1b.2.2.2.1 v1b.2.2.2.2.1 v1b.2.2.2.2.2.1) v1b.1 v1b.2.2.2.2.2.2.1) v1110.1).bind λv1116=>((x6 (GP.mk (GL.mk v1b.2.1 v1b.2.2.1 v1b.2.2.2.1 v1b.2.2.2.2.1 v1b.2.2.2.2.2.1) v1b.1 v1b.2.2.2.2.2.2.1) v1114.1).bind λv1117=>((uC v1110.1 v1114.1).bind λv1118=>((x6 (GP.mk (GL.mk v1b.2.1 v1b.2.2.1 v1b.2.2.2.1 v1b.2.2.2.2.1 v1b.2.2.2.2.2.1) v1b.1 v1b.2.2.2.2.2.2.1) v1118).bind λv1119=>((vq v1110.1 v1114.1).bind λv1120=>((x6 (GP.mk (GL.mk v1b.2.1 v1b.2.2.1 v1b.2.2.2.1 v1b.2.2.2.2.1 v1b.2.2.2.2.2.1) v1b.1 v1b.2.2.2.2.2.2.1) v1120).bind λv1121=>(if((((v1116.2 != 0) || (v1117.2 != 0)) || (v1119.2 != 0)) || (v1121.2 != 0))then aa false else((ug v1119.1 v1116.1 v1117.1).bind λv1123=>((if((v1123.2==0)==true)then sY v1123.1 v1121.1 else aa af).bind λv1124=>((if(((v1123.2==0)&&v1124)==true)then wu else aa af).bind λv1125=>aa (((v1123.2==0)&&v1124)&&v1125)))))))))))))))))))))) v1)
def zbh(l0:GE)(e1:GJ):Option (GE×Int) :=
 ((vY l0).bind λv1=>((if((!v1)==false)then vM e1 else aa af).bind λv2=>(if((!v1) || (!v2))then aa (bQ,2)else((s7 e1.op.kind).bind λv4=>(if(v4 != l0.x4)then aa (bQ,15)else(if(e1.op.kind==1)then aa ((GE.mk l0.x4 (ai .i64 (l0.n+e1.op.n)) l0.time l0.z6 l0.text l0.z8 l0.y4),0)else(if(e1.op.kind==2)then((if((l0.time==0)==false)then qp l0.time l0.z6 e1.time e1.z6 else aa af).bind λv8=>(if((l0.time==0) || v8)then aa ((GE.mk l0.x4 l0.n e1.time e1.z6 e1.op.text l0.z8 l0.y4),0)else aa (l0,0)))else(if(e1.op.kind==3)then((uB l0.y4 e1.z6).bind λv11=>(if(!v11)then((sf l0.z8 (GF.mk 0 e1.z6 e1.op.text)).bind λv13=>aa ((GE.mk l0.x4 l0.n l0.time l0.z6 l0.text v13 l0.y4),0))else aa (l0,0)))else(if(e1.op.kind==4)then(lp (zf (λ(n1:Nat)(x1:GA) (s1:(List GA))=>(((qL s1 x1).bind λv49=>aa (.gV v49)):Option (Out _ (List GA)))) e1.op.gZ 0 l0.y4) λ(s1:(List GA))=>((s6 l0.z8 s1).bind λv50=>aa ((GE.mk l0.x4 l0.n l0.time l0.z6 l0.text v50 s1),0)))else(if(e1.op.kind==5)then((sf l0.z8 (GF.mk e1.time e1.z6 e1.op.text)).bind λv52=>aa ((GE.mk l0.x4 l0.n l0.time l0.z6 l0.text v52 l0.y4),0))else aa (l0,0)))))))))))
def sZ(t0:(List GC))(e1:GJ):Option ((List GC)×Int) :=
 ((se t0).bind λv1=>((if((!v1)==false)then vM e1 else aa af).bind λv2=>(if((!v1) || (!v2))then aa (([]:List GC),2)else((s7 e1.op.kind).bind λv4=>((xV t0 e1.op.path v4).bind λv5=>((zbh v5.1 e1).bind λv6=>(if(v6.2 != 0)then aa (([]:List GC),v6.2)else((nu t0 e1.op.path v6.1).bind λv8=>aa (v8,0)))))))))
end
end Go.Vv
