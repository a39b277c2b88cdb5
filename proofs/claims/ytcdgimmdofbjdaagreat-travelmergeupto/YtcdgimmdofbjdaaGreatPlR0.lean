/- Plain laws, as far as they are leaned on. -/
import Derived.Test.YtcdgimmdofbjdaaGreatD
import Derived.Test.YtcdgimmdofbjdaaGreatVvMr
set_option linter.all false
open Option renaming some→aa
open Decidable renaming decide→ae
open Inhabited renaming default→af
open Go.IntKind renaming wrap→ai
open List renaming length→ak
namespace Go.Vv
open Go
variable{i c n d:Nat}{b:UInt8}{σ:Type}{L:List GF}{f there:Bool}{q:GF->Bool}{l x:GE}{a:List UInt8}{ls L0 A B:List GE}{ds:List GA}{del:GE->Option Bool}{cmp:GF->GF->Option Int}{e:GJ}
structure GM where
 path:(List zp)
 leaf:GE
 deriving DecidableEq,Inhabited
structure GU where
 path:(List zp)
 x4:Int
 had:Bool
 has:Bool
 was:GE
 is:GE
 deriving DecidableEq,Inhabited
def GM.wf(x:GM):Prop:=(ak x.path<=maxLen/\∀y∈x.path,ak y<=maxLen)/\(GE.wf x.leaf)
def GU.wf(x:GU):Prop:=(ak x.path<=maxLen/\∀y∈x.path,ak y<=maxLen)/\(dc .u8 x.x4)/\(True)/\(True)/\(GE.wf x.was)/\(GE.wf x.is)
def GM.bk(x:GM):Nat:=(((x.path.map (λs=>ak s+1)).sum+1)+(GE.bk x.leaf+0))+1
def GU.bk(x:GU):Nat:=(((x.path.map (λs=>ak s+1)).sum+1)+(1+(1+(1+(GE.bk x.was+(GE.bk x.is+0))))))+1
noncomputable def we(n0:GC)(name1:zp):Option Int :=
 ((pJ n0.name name1).bind λv1=>aa v1)
noncomputable def vg(s0:(List GE))(del1:(GE->Option Bool)):Option (List GE) :=
 ((yp s0 del1).bind λv1=>(if(v1==(-1:Int))=true then aa s0 else(lp (ya (λ(s1:Int×Int×(List GE))=>((zN (ak (s1.2.2)=ak s0) ((if(ae (s1.2.1<((ak s0:Nat):Int)))=true then((zR s1.2.2 s1.2.1).bind λy14=>((del1 y14).bind λv15=>(if(!v15)=true then((zR s1.2.2 s1.1).bind λy17=>aa (.gV ((ai .i64 (s1.1+(1:Int))),(ai .i64 (s1.2.1+(1:Int))),(s1.2.2.set s1.1.toNat y14))))else aa (.gV (s1.1,(ai .i64 (s1.2.1+(1:Int))),s1.2.2)))))else aa (.brk (s1.1,s1.2.1,s1.2.2))))):Option (Out _ (Int×Int×(List GE))))) (v1,(ai .i64 (v1+(1:Int))),s0)) λ(s1:Int×Int×(List GE))=>(zN (0<=s1.1/\s1.1<=((ak s0:Nat):Int)) (((fP (s1.2.2.take s1.1.toNat++List.replicate ((ak s0)-s1.1.toNat) bQ) (0:Int) s1.1).bind λm19=>aa m19))))))
noncomputable def zeQ(x0:GE)(c0:Int):Option Bool :=
 aa (x0.x4==c0)
noncomputable def zcv(l0:GE):Option GE :=
 ((yN l0.z8).bind λv1=>((ym l0.y4).bind λv2=>aa (GE.mk l0.x4 l0.n l0.time l0.z6 l0.text v1 v2)))
noncomputable def mC(x0:GE)(y1:GE):Option Int :=
 ((wJ x0.x4 y1.x4).bind λv1=>aa v1)
noncomputable def wE:Nat->(t0:(List GC))->(path1:(List zp))->(ff:Int)->(l3:GE)->(there4:Bool)->Option (List GC)
 |0,_,_,_,_,_=>none
 |n+1,t0,path1,ff,l3,there4=>((zR path1 (0:Int)).bind λy1=>((zg t0 y1 (λx0 x1=>we x0 x1)).bind λv2=>((zR path1 (0:Int)).bind λy3=>(lp ((if v2.2=true then((zR t0 v2.1).bind λy7=>aa (.inr (y7.name,y7.leaves,y7.wa)))else aa (.inr (y3,([]:List GE),([]:List GC)))):Option (_ ⊕ (zp×(List GE)×(List GC)))) λ(s1:zp×(List GE)×(List GC))=>(lp ((if(ae ((ak (path1):Int) > (1:Int)))=true then((fP path1 (1:Int) (ak (path1):Int)).bind λm20=>((wE n s1.2.2 m20 ff l3 there4).bind λv21=>aa (.inr (s1.2.1,v21))))else((xB s1.2.1).bind λv22=>((vg v22 (λx0=>zeQ x0 ff)).bind λv23=>(if there4=true then((zcv l3).bind λv25=>(zN (ak (v23)+ak (([v25]:List GE))<=lim) (((qT (λx y=>mC x y) (v23++([v25]:List GE))).bind λv27=>aa (.inr (v27,s1.2.2))))))else aa (.inr (v23,s1.2.2)))))):Option (_ ⊕ ((List GE)×(List GC)))) λ(s2:(List GE)×(List GC))=>((fP t0 (0:Int) v2.1).bind λm28=>((yR m28).bind λv29=>(if(ae ((ai .i64 ((ak (s2.1):Int)+(ak (s2.2):Int))) > (0:Int)))=true then(zN (ak (v29)+ak (([(GC.mk s1.1 s2.1 s2.2)]:List GC))<=lim) ((if v2.2=true then((fP t0 (ai .i64 (v2.1+(1:Int))) (ak (t0):Int)).bind λm35=>(zN (ak ((v29++([(GC.mk s1.1 s2.1 s2.2)]:List GC)))+ak (m35)<=lim) (aa ((v29++([(GC.mk s1.1 s2.1 s2.2)]:List GC))++m35))))else((fP t0 v2.1 (ak (t0):Int)).bind λm37=>(zN (ak ((v29++([(GC.mk s1.1 s2.1 s2.2)]:List GC)))+ak (m37)<=lim) (aa ((v29++([(GC.mk s1.1 s2.1 s2.2)]:List GC))++m37)))))))else(if v2.2=true then((fP t0 (ai .i64 (v2.1+(1:Int))) (ak (t0):Int)).bind λm40=>(zN (ak (v29)+ak (m40)<=lim) (aa (v29++m40))))else((fP t0 v2.1 (ak (t0):Int)).bind λm42=>(zN (ak (v29)+ak (m42)<=lim) (aa (v29++m42)))))))))))))
noncomputable def zpm(t0:(List GC))(path1:(List zp))(ff:Int)(l3:GE)(there4:Bool):Option (List GC):=br λn=>wE n t0 path1 ff l3 there4
def mT(b:UInt8):Bool:=(ae (97<=b.toNat)&&ae (b.toNat<=122)) || (ae (65<=b.toNat)&&ae (b.toNat<=90)) || (ae (48<=b.toNat)&&ae (b.toNat<=57))
def other(r:Int):Bool:=!((ae (97<=r)&&ae (r<=122)) || (ae (65<=r)&&ae (r<=90)) || (ae (48<=r)&&ae (r<=57)))
def eP(q:Int->Bool)(s:List UInt8)(i:Nat):Int :=
 if h:i<(ak s)then(if q (dec s i).1 then i else if(dec s i).2=0 then -1 else eP q s (i+(dec s i).2))else -1
termination_by (ak s)-i
decreasing_by omega
theorem znz(s:List UInt8)(i:Nat)(h:i<(ak s)):1<=(dec s i).2:=by
 have hs:i<(⟨s.toArray⟩:ByteArray).size:=by simpa[ByteArray.size]using h
 by_cases ha:((⟨s.toArray⟩:ByteArray)[i]'hs).toNat<128
 ·unfold dec;rw[decode_ascii _ i hs ha];exact ob _
 ·exact(decode_high _ i hs (by omega)).2
theorem znA{s:List UInt8}(j:s[i]?=aa b)(h:b.toNat<128):dec s i=(b.toNat,1):=by
 have g:i<(ak s):=(tu.1 j).1;have hs:i<(⟨s.toArray⟩:ByteArray).size:=by simpa[ByteArray.size]using g
 have e:((⟨s.toArray⟩:ByteArray)[i]'hs)=b:=by
  have k:((⟨s.toArray⟩:ByteArray)[i]'hs)=s[i]:=rfl
  simp_all
 unfold dec;rw[decode_ascii _ i hs (by simp_all),e]
theorem zuf{s:List UInt8}(j:s[i]?=aa b)(h:128<=b.toNat):128<=(dec s i).1:=by
 have g:i<(ak s):=(tu.1 j).1;have hs:i<(⟨s.toArray⟩:ByteArray).size:=by simpa[ByteArray.size]using g
 have e:((⟨s.toArray⟩:ByteArray)[i]'hs)=b:=by
  have k:((⟨s.toArray⟩:ByteArray)[i]'hs)=s[i]:=rfl
  simp_all
 exact(decode_high _ i hs (by simp_all)).1
theorem zcV:other (b.toNat:Int)=!mT b:=by
 unfold other mT;congr 1
 grind
theorem zjz{s:List UInt8}(h:s.all mT=true):∀(n i:Nat),(ak s)-i=n->eP other s i=-1
 |n,i,hn=>by
  rw[eP.eq_def];by_cases hi:i<(ak s)
  ·rw[gF hi];have k:s[i]?=aa s[i]:=rk hi;have j:mT s[i]=true:=by simp_all
   have g:s[i].toNat<128:=by
    unfold mT at j
    grind
   rw[znA k g];simp only[zcV,j,ly,s5,mb,Nat.one_ne_zero];exact zjz h ((ak s)-(i+1)) (i+1) rfl
  ·grind
 termination_by n=>n
 decreasing_by omega
theorem zgH{s:List UInt8}{k:Nat}{b:UInt8}(h:s[k]?=aa b)(o:mT b=false):∀(n i:Nat),k-i=n->i<=k->0<=eP other s i
 |n,i,hn,hik=>by
  have p:k<(ak s):=(tu.1 h).1;have hi:i<(ak s):=by omega
  rw[eP.eq_def,gF hi];by_cases ho:other ((dec s i).1:Nat)=true
  ·simp_all
  ·rw[n4 ho];have j:s[i]?=aa s[i]:=rk hi;have g:s[i].toNat<128:=by
    refine Decidable.byContradiction λhh=>ho ?_;have:=zuf j (by omega);unfold other;simp;omega
   rw[znA j g]at ho ⊢;rw[zcV]at ho;have m:i≠k:=by
    grind
   simp only[Nat.one_ne_zero,mb];exact zgH h o (k-(i+1)) (i+1) rfl (by omega)
 termination_by n=>n
 decreasing_by omega

def fL(s:zp):Bool:=ae (1<=ak s)&&ae (ak s<=12)&&s.all mT
def sO(p:List zp):Bool:=ae (1<=ak p)&&ae (ak p<=3)&&p.all fL
theorem zxe(n:Nat):ae ((n:Int) >= 1)=ae (1<=n):=kP.2 (by omega)
theorem zxd(n:Nat):ae ((n:Int)<=12)=ae (n<=12):=kP.2 (by omega)
theorem zyl(n:Nat):ae ((n:Int)<=3)=ae (n<=3):=kP.2 (by omega)
theorem zad(s:zp):tK s=aa (fL s):=by
 unfold tK fL;rw[zc6 mT false]
 ·split
  ·grind
  ·rename_i h;simp only[lN,so]at h;have j:1<=ak s:=by omega
   have g:ak s<=12:=by omega
   cases ha:s.all mT<;>simp[j,g]
 ·intro i x _;unfold mT
  grind
theorem zgI(q:Int->Bool)(s:zp){f:Nat->Option (Out Int Nat)}(g:∀i,f i=if i<(ak s)then(if q (dec s i).1=true then aa (.ret (i:Int))else aa (.gV (i+(dec s i).2)))else aa (.brk i)) :
  ∀(k i:Nat),(ak s)-i=k->lp (ya f i) (λ_=>aa (-1:Int))=aa (eP q s i)
 |k,i,hk=>by
  rw[yK,eP.eq_def,g];by_cases h:i<(ak s)
  ·have j:=znz s i h;rw[nK h,gF h];by_cases hq:q (dec s i).1=true
   ·simp[hq]
   ·have h0:¬(dec s i).2=0:=by omega
    simp only[n4 hq,n4 h0];exact zgI q s g ((ak s)-(i+(dec s i).2)) _ rfl
  ·rw[n4 h,dif_neg h];rfl
 termination_by k=>k
 decreasing_by omega
theorem mV(s:zp):wL s (λx=>s9 x)=aa (!s.all mT):=by
 have e:(λx=>s9 x)=λx=>aa (other x):=by
  funext x;unfold s9 other;congr 1
  grind
 unfold wL uv qS;rw[e,zgI other s (λi=>by simp) _ 0 rfl];simp only[tb];congr 1;cases h:s.all mT with
 |true=>rw[zjz h _ 0 rfl];rfl
 |false =>
  rw[List.all_eq_false]at h;obtain⟨b,j,m⟩:=h;obtain⟨k,g,rfl⟩:=je j;have:=zgH (rk g) (by simp_all) _ 0 rfl (lV _);simp[this]
theorem zcZ(s:zp):nA s=aa (fL s):=by
 unfold nA fL;rw[mV,zxe,zxd];cases h1:ae (1<=ak s)<;>cases h2:ae (ak s<=12)<;>simp
theorem ziY{f:zp->Option Bool}{q:zp->Bool}(p:List zp)(g:∀x∈p,f x=aa (q x)):xz p f=aa (p.any q):=by
 unfold xz vd;rw[rh p g];simp only[tb,ri]
theorem zgY(p:List zp):nz p=aa (sO p):=by
 unfold nz sO;rw[ziY (q:=λs=>!fL s) p (λx _=>by unfold oJ;rw[zcZ];rfl),zxe,zyl];have e:p.any (λs=>!fL s)=!p.all fL:=by grind
 rw[e];cases h1:ae (1<=ak p)<;>cases h2:ae (ak p<=3)<;>simp
def zkD(a:GH):Bool:=ae (a.fk<16)&&ae (a.inc >= 1)&&ae (a.inc<=4)
def fa(d:GA):Bool:=zkD d.zi&&ae (d.seq >= 1)&&ae (d.seq<=1048576)
theorem rq(d:GA):om d=aa (fa d):=rfl
theorem zb4(a:GH):uS a=aa (zkD a):=by
 unfold uS zkD
 grind
theorem ui(d:GA):vz d=aa (fa d):=by unfold vz;rw[zb4];rfl
def w6(a b:GA):Bool:=if a.zi.fk≠b.zi.fk then ae (a.zi.fk<b.zi.fk)else if a.zi.inc≠b.zi.inc then ae (a.zi.inc<b.zi.inc)else ae (a.seq<b.seq)
theorem vC(a b:GA):wy a b=aa (w6 a b):=by
 unfold wy w6
 grind
def sM(a b:Int):Int:=if a<b then -1 else if b<a then 1 else 0
theorem zi1(a b:Int):wJ a b=aa (sM a b):=by
 unfold wJ uq sM;simp only[kI,tb,s5,mb,so,gU]
 grind
theorem zps(a b:Int):qe a b=aa (sM a b):=by
 unfold qe qI sM;simp only[kI,tb,s5,mb,so,gU]
 grind
theorem zgk(a b:Int):wg a b=aa (sM a b):=by
 unfold wg qH sM;simp only[kI,tb,s5,mb,so,gU]
 grind
def aU(a b:Int):Int:=if a≠0 then a else b
theorem za0(a b:Int):r7 [a,b]=aa (aU a b):=by
 unfold r7 aU;by_cases h1:a=0<;>by_cases h2:b=0<;>simp[zf,h1,h2]
def nW(a b:GH):Int:=aU (sM a.fk b.fk) (sM a.inc b.inc)
def zdy(a b:GA):Int:=aU (nW a.zi b.zi) (sM a.seq b.seq)
theorem zal(a b:GH):uo a b=aa (nW a b):=by
 unfold uo;rw[zi1,zps];simp only[tb];rw[za0];rfl
theorem vP(a b:GA):xR a b=aa (zdy a b):=by
 unfold xR;rw[zal,zgk];simp only[tb];rw[za0];rfl
theorem nS(a b:GA):ae (zdy a b >= 0)=!w6 a b:=by
 unfold zdy nW w6 sM aU
 grind

def wG:List GA->Bool
 |a::b::r=>w6 a b&&wG (b::r)
 |_=>true
def yG(ds:List GA)(i:Nat)(x:GA):Bool:=ae (i=0) || w6 (ds.getD (i-1) af) x
theorem zaq(ds:List GA){g:Nat->GA->Unit->Option (Out Bool Unit)}
  (r:∀i x,ds[i]?=aa x->g i x ()=if(fa x&&yG ds i x)=true then aa (.gV ())else aa (.ret false)) :
  lp (zf g ds 0 ()) (λ_=>aa true)=aa (ds.all fa&&wG ds):=by
 have key:∀(L pre:List GA),ds=pre++L->lp (zf g L (ak pre) ()) (λ_=>aa true)=aa (L.all fa&&wG (match pre.getLast? with|some y=>y::L|none=>L)):=by
  intro L
  induction L with
  |nil=>intro pre h;cases hp:pre.getLast?<;>simp[zf,wG]
  |cons x t ih =>
   intro pre h;have s:ds[ak pre]?=aa x:=by rw[h];simp
   have j:=ih (pre++[x]) (by rw[h];simp);simp only[oA,nr,lC,l8,List.getLast?_append,gC,iO]at j;simp only[zf,r _ _ s];cases hp:pre.getLast? with
   |none =>
    have k:pre=[]:=gm.1 hp;subst k;simp only[lC,l8]at j ⊢;cases hd:fa x<;>simp[yG,hd,j]
   |some y =>
    have m:pre≠[]:=by grind
    have h0:0<(ak pre):=jX.2 m;have o:ds.getD ((ak pre)-1) af=y:=by
     grind
    have p:yG ds (ak pre) x=w6 y x:=by
     unfold yG;rw[o]
     simp_all
    rw[p];cases hd:fa x<;>cases hlt:w6 y x<;>simp[hd,hlt,j,wG]
 have:=key ds [] rfl
 simp_all
theorem zaK{α:Type}[DecidableEq α](M:List α){eq:α->α->Bool}(g:∀a b,eq a b=ae (a=b)){f:Nat->α->Unit->Option (Out Bool Unit)} :
  ∀(L:List α)(i:Nat),ak L+i=ak M->(∀j x,L[j]?=aa x->f (i+j) x ()=(zR M ((i+j:Nat):Int)).bind λy=>if(!eq x y)=true then aa (.ret false)else aa (.gV ())) ->
  zf f L i ()=if L=M.drop i then aa (.inr ())else aa (.inl false)
 |[],i,hl,_=>by
  rw[lW (by simp_all)];rfl
 |x::t,i,hl,h=>by
  simp only[nr]at hl;have hi:i<(ak M):=by omega
  have h0:=h 0 x rfl;simp only[ja]at h0;rw[su hi]at h0;have m:=zaK M g (f:=f) t (i+1) (by omega) (λj y k=>by have:=h (j+1) y k;rw[show i+1+j=i+(j+1) by omega];exact this);have e:M.drop i=M[i]::M.drop (i+1):=(j8 hi).symm;simp only[zf,h0,tb,g,e]
  grind
theorem tT(a b:GA):(a.zi.fk==b.zi.fk&&(a.zi.inc==b.zi.inc&&(a.seq==b.seq&&true)))=ae (a=b):=by
 rcases a with⟨⟨j,h⟩,a3⟩;rcases b with⟨⟨g,k⟩,m⟩
 grind
theorem oH(L M:List GA):ud L M=aa (ae (L=M)):=by
 unfold ud;by_cases hl:ak L=(ak M)
 ·have e:((ak L:Int) != (ak M:Int))=false:=by simp;omega
  rw[e,zaK M tT L 0 (by omega) (λj x g=>by simp)];by_cases h:L=M<;>simp[h]
 ·have e:((ak L:Int) != (ak M:Int))=true:=by simp;omega
  rw[e,lL (λh=>hl (by rw[h]))];rfl
section
variable{α ρ:Type}
def allI(g:Nat->α->Bool)(L:List α):Bool:=L.zipIdx.all λp=>g p.2 p.1
theorem fg{g:Nat->α->Bool}{L:List α}:allI g L=true↔∀i x,L[i]?=aa x->g i x=true:=by
 unfold allI;rw[oB];constructor
 ·intro h i x j;exact h (x,i) (jy.2 j)
 ·grind
theorem zep(g:Nat->α->Bool){r:ρ}{f:Nat->α->Unit->Option (Out ρ Unit)}:∀(L:List α)(k:Nat),(∀i x,L[i]?=aa x->f (k+i) x ()=if g (k+i) x=true then aa (.gV ())else aa (.ret r)) ->
  zf f L k ()=if((L.zipIdx k).all λp=>g p.2 p.1)=true then aa (.inr ())else aa (.inl r)
 |[],_,_=>rfl
 |x::t,k,h=>by
  have h0:=h 0 x rfl;simp only[ja]at h0;have j:=zep g (f:=f) (r:=r) t (k+1) (λi y m=>by have:=h (i+1) y (by simp_all);rw[show k+1+i=k+(i+1) by omega];exact this);simp only[zf,h0,iU,l7]
  grind
theorem ul(g:Nat->α->Bool){r:σ}{L:List α}{f:Nat->α->Unit->Option (Out σ Unit)}{rest:Unit->Option σ}(h:∀i x,L[i]?=aa x->f i x ()=if g i x=true then aa (.gV ())else aa (.ret r)) :
  lp (zf f L 0 ()) rest=if allI g L=true then rest ()else aa r:=by
 rw[zep g L 0 (λi x j=>by simpa using h i x j)];unfold allI;split<;>rfl
theorem ziw(g:α->Bool){r:σ}{L:List α}{f:Nat->α->Unit->Option (Out σ Unit)}{rest:Unit->Option σ}(k:∀i x,L[i]?=aa x->f i x ()=if g x=true then aa (.gV ())else aa (.ret r)) :
  lp (zf f L 0 ()) rest=if L.all g=true then rest ()else aa r:=by
 rw[ul (λ_=>g) k];have:allI (λ_=>g) L=L.all g:=by
  rw[lI,fg,oB];exact⟨λh x j=>by obtain⟨i,hi⟩:=lz.1 j;exact h i x hi,λh i x j=>h x (lc j)⟩
 rw[this]
end
theorem tD{j:Nat}(g:j+1<=maxLen):ai .i64 (((j+1:Nat):Int)-1)=(j:Int):=by
 simp only[maxLen]at g;rw[vj (by omega)];omega
theorem zlB{j:Nat}(g:j+1<=maxLen):ai .i64 ((j:Int)+1)=((j+1:Nat):Int):=by
 simp only[maxLen]at g;rw[vj (by omega)];omega
theorem rO(j:Nat):ae (((j+1:Nat):Int) > 0)=true:=lJ (by omega)
def t8(n:Int):Bool:=ae (n >= 1)&&ae (n<=1099511627776)
def zQ(a b:GF):Bool:=if a.time≠b.time then ae (a.time<b.time)else w6 a.z6 b.z6
theorem zaf(n:Int):rT n=aa (t8 n):=rfl
theorem zag(s:zp):tP s=aa (ae (ak s<=40)):=by unfold tP;rw[kP.2 (show((ak s:Int)<=40)↔(ak s)<=40 by omega)]
theorem zeO(a b:GA):ae (zdy a b<0)=w6 a b:=by
 have h:=nS a b
 grind
theorem uF(a:Int)(d:GA)(b:Int)(o:GA):qM a d b o=aa (if a≠b then ae (a<b)else w6 d o):=by
 unfold qM uE;rw[zgk,vP];simp only[tb,za0];congr 1;by_cases h:a=b
 ·subst h;have:sM a a=0:=by unfold sM;simp
  simp[aU,this,zeO]
 ·have:sM a b≠0:=by unfold sM;split<;>(try split)<;>omega
  simp only[aU,this,gP,iP,oS,h];unfold sM;rw[lI];simp only[so];split<;>(try split)<;>omega
theorem rB(a:Int)(d:GA)(b:Int)(o:GA):qp a d b o=aa (if a≠b then ae (a<b)else w6 d o):=by
 unfold qp;by_cases h:a=b<;>simp[h,vC]
def zfw{α:Type}[Inhabited α](L:List α)(i:Nat):α:=L.getD (i-1) af
def qV(timed:Bool)(x:GF):Bool:=fa x.z6&&ae (ak x.text<=40)&&(if timed then t8 x.time else ae (x.time=0))
def fV(L:List GF):Bool:=allI (λi x=>ae (i=0) || zQ (zfw L i) x) L
def fG(L:List GF):Bool:=ae ((L.map (·.z6)).Nodup)
theorem zbx(a b:GA):GA.fh a b=ae (a=b):=by unfold GA.fh;exact tT a b
def sr(m:List (GA×Int)):List GA:=m.map (·.1)
theorem zmA(m:List (GA×Int))(k:GA)(v:Int):sr (uN GA.fh m k v)=if k∈sr m then sr m else sr m++[k]:=by
 induction m with
 |nil=>simp[uN,sr]
 |cons e r ih =>
  simp only[uN,zbx];by_cases h:k=e.1
  ·simp[h,sr]
  ·simp only[lL h,s5,mb,sr,m4,lx]at ih ⊢
   grind
theorem n8:∀(L:List GF)(m:List (GA×Int)),(sr m).Nodup ->
  (ak (L.foldl (λs x=>uN GA.fh s x.z6 (ai .i64 ((zG GA.fh 0 s x.z6)+1))) m))<=ak m+(ak L) /\
  (ak (L.foldl (λs x=>uN GA.fh s x.z6 (ai .i64 ((zG GA.fh 0 s x.z6)+1))) m)=ak m+(ak L)↔(sr m++L.map (·.z6)).Nodup)
 |[],m,h=>by simp[h]
 |x::t,m,h=>by
  simp only[kS];have g:=zmA m x.z6 (ai .i64 ((zG GA.fh 0 m x.z6)+1));generalize hm:uN GA.fh m x.z6 (ai .i64 ((zG GA.fh 0 m x.z6)+1))=m' at g;have p:ak m'=ak (sr m'):=by simp[sr]
  have k:ak m=ak (sr m):=by simp[sr]
  by_cases hx:x.z6∈sr m
  ·rw[nK hx]at g;have j:=n8 t m' (by simp_all)
   grind
  ·rw[n4 hx]at g;have o:(sr m++[x.z6]).Nodup:=by
    grind
   have j:=n8 t m' (by simp_all)
   grind
theorem zfM(L:List GF):pY L=aa (!fG L):=by
 unfold pY;rw[mt (λs x=>uN GA.fh s x.z6 (ai .i64 ((zG GA.fh 0 s x.z6)+1))) L 0 [] (λ_ _ _ _=>rfl)];have h:=n8 L [] (by simp[sr]);simp only[lC,l8,sr,l9,ll]at h;simp only[yw,fG];congr 1
 grind
theorem zfO(t:ak L<=maxLen)(g:Bool):rf L g=aa (L.all (qV g)&&fV L&&fG L):=by
 unfold rf;rw[ul (r:=false) (λi x=>qV g x&&(ae (i=0) || zQ (zfw L i) x))]
 ·rw[zfM];have e:allI (λi x=>qV g x&&(ae (i=0) || zQ (zfw L i) x)) L=(L.all (qV g)&&fV L):=by
   rw[lI,tx,fV,fg,fg,oB];constructor
   ·intro h;exact⟨λx k=>by obtain⟨i,hi⟩:=lz.1 k;have:=h i x hi;simp only[tx]at this;exact this.1,λi x k=>by simp_all⟩
   ·grind
  grind
 ·intro i x k;have hi:i<(ak L):=(tu.1 k).1;simp only[rq,zag,zaf,tb,uF];have p:qV g x=(fa x.z6&&ae (ak x.text<=40)&&(g==t8 x.time)&&(g || ae (x.time=0))):=by
   unfold qV;cases g
   ·by_cases h0:x.time=0
    ·simp[h0,show t8 0=false from rfl]
    ·simp[h0]
   ·simp
  rw[p];cases hd:fa x.z6
  ·simp
  cases ht:ae (ak x.text<=40)
  ·simp
  by_cases htt:g=t8 x.time
  ·have s:(x.time != 0)=!ae (x.time=0):=by rw[lI];simp
   have m:(g==t8 x.time)=true:=by simp_all
   rw[s,m];cases hzz:(g || ae (x.time=0))
   ·simp_all
   have:(!g&&!ae (x.time=0))=false:=by grind
   rw[this];rcases i with _|j
   ·simp[zN,htt]
   ·rw[tD (by omega),rO];have o:(j:Int)<(ak L:Int):=by omega
    simp[zN,o,zfw,zQ,htt]
    grind
  ·grind

theorem zqb(a b:GF):(a.time==b.time&&(a.z6.zi.fk==b.z6.zi.fk&&(a.z6.zi.inc==b.z6.zi.inc&&(a.z6.seq==b.z6.seq&&(a.text==b.text&&true)))))=ae (a=b):=by
 rcases a with⟨a0,⟨⟨j,h⟩,a3⟩,a4⟩;rcases b with⟨b0,⟨⟨g,k⟩,o⟩,m⟩
 grind
theorem zaJ(L M:List GF):qz L M=aa (ae (L=M)):=by
 unfold qz;by_cases hl:ak L=(ak M)
 ·have e:((ak L:Int) != (ak M:Int))=false:=by simp;omega
  rw[e,zaK M zqb L 0 (by omega) (λj x g=>by simp)];by_cases h:L=M<;>simp[h]
 ·have e:((ak L:Int) != (ak M:Int))=true:=by simp;omega
  rw[e,lL (λh=>hl (by rw[h]))];rfl
theorem ziB(a b:GE):rW a b=aa (ae (a=b)):=by
 unfold rW;simp only[zaJ,oH,tT];rcases a with⟨a0,k,j,a3,a4,a5,s⟩;rcases b with⟨b0,g,o,r,p,h,m⟩
 simp only[GE.mk.injEq]
 grind
def cT:GA:=⟨⟨0,0⟩,0⟩
def tY(l:GE):Bool:=ae (l.time=0)&&ae (l.z6=cT)&&ae (l.text=[])
def th(l:GE):Bool:=l.y4.all fa&&wG l.y4&&l.y4.all (λd=>!l.z8.any λx=>ae (x.z6=d))
def w7(l:GE):Bool :=
 if l.x4=1 then tY l&&ae (l.z8=[])&&ae (l.y4=[])
 else if l.x4=2 then ae (l.n=0)&&ae (l.z8=[])&&ae (l.y4=[])&&(if l.time=0 then ae (l.z6=cT)&&ae (l.text=[])else t8 l.time&&fa l.z6&&ae (ak l.text<=40))
 else if l.x4=3 then ae (l.n=0)&&tY l&&(l.z8.all (qV false)&&fV l.z8&&fG l.z8)&&th l
 else if l.x4=4 then ae (l.n=0)&&tY l&&ae (l.y4=[])&&(l.z8.all (qV true)&&fV l.z8&&fG l.z8)
 else false
theorem zdA{f:GF->Option Bool}(p:List GF)(g:∀x∈p,f x=aa (q x)):xQ p f=aa (p.any q):=by
 unfold xQ yA;rw[rh p g,tb,ri]
theorem zda(L:List GF)(d:GA):rU L d=aa (L.any λx=>ae (x.z6=d)):=by
 unfold rU;rw[zdA (q:=λx=>ae (x.z6=d)) L (λx _=>by unfold mu;rw[tT]),tb]
theorem rH(ds:List GA):wG ds=allI (λi x=>yG ds i x) ds:=by
 have h:=zaq ds (g:=λi x _=>if(fa x&&yG ds i x)=true then aa (.gV ())else aa (.ret false)) (λ_ _ _=>rfl);have key:∀(L pre:List GA),ds=pre++L->wG (match pre.getLast? with|some y=>y::L|none=>L)=(L.zipIdx (ak pre)).all λp=>yG ds p.2 p.1:=by
  intro L
  induction L with
  |nil=>intro pre _;cases pre.getLast?<;>simp[wG]
  |cons x t ih =>
   intro pre hd;have j:=ih (pre++[x]) (by rw[hd];simp);simp only[oA,nr,lC,l8,List.getLast?_append,gC,iO]at j;simp only[iU,l7];cases hp:pre.getLast? with
   |none =>
    have k:pre=[]:=gm.1 hp;subst k;simp only[lC,l8]at j ⊢;rw[j];simp[yG]
   |some y =>
    have m:pre≠[]:=by grind
    have h0:0<(ak pre):=jX.2 m;have o:ds.getD ((ak pre)-1) af=y:=by
     grind
    have r:yG ds (ak pre) x=w6 y x:=by
     unfold yG;rw[o,lL (by omega)];rfl
    rw[r,<- j];simp[wG]
 simpa[allI]using key ds [] rfl
theorem zfN(m:ak l.y4<=maxLen):pZ l=aa (th l):=by
 unfold pZ;rw[ul (r:=false) (λi x=>fa x&&yG l.y4 i x&&!(l.z8.any λy=>ae (y.z6=x)))]
 ·have e:allI (λi x=>fa x&&yG l.y4 i x&&!(l.z8.any λy=>ae (y.z6=x))) l.y4=th l:=by
   unfold th;rw[lI,rH,tx,tx,fg,fg,oB,oB];constructor
   ·intro h;refine⟨⟨λx g=>?_,λi x g=>?_⟩,λx g=>?_⟩
    ·obtain⟨i,hi⟩:=lz.1 g;have:=h i x hi;simp only[tx]at this;exact this.1.1
    ·simp_all
    ·obtain⟨i,hi⟩:=lz.1 g;have:=h i x hi;simp only[tx]at this;exact this.2
   ·grind
  grind
 ·intro i x g;have hi:i<(ak l.y4):=(tu.1 g).1;simp only[rq,tb,vP,zda];cases hd:fa x
  ·rfl
  rcases i with _|j
  ·cases hh:(l.z8.any λy=>ae (y.z6=x))<;>simp[zN,yG]
  ·rw[tD (by omega),rO];have o:(j:Int)<(ak l.y4:Int):=by omega
   have k:yG l.y4 (j+1) x=w6 (l.y4.getD j af) x:=by rfl
   have e:=nS (l.y4.getD j af) x;rw[ze (by omega),k,o5]
   grind
theorem zbu(hi:ak l.z8<=maxLen)(m:ak l.y4<=maxLen):sq l=aa (w7 l):=by
 unfold sq w7;simp only[ziB,zaf,rq,zag,zfO hi,zfN m,tT,tb];rcases l with⟨t,n,h,d,j,g,k⟩
 simp only[GE.mk.injEq,tY,jo,cT];by_cases h1:t=1
 ·simp only[h1,oS];congr 1;rw[lI];simp[jN]
  grind
 by_cases h2:t=2
 ·subst h2;by_cases h0:h=0
  ·subst h0;by_cases hd:d=⟨⟨0,0⟩,0⟩
   ·by_cases hx:j=[]
    ·simp[hd,hx];rw[lI];simp[jN]
    ·simp_all
   ·have u:((0:Int)==0&&!ae (d=⟨⟨0,0⟩,0⟩))=true:=by simp[hd]
    simp[hd];intro p;rcases d with⟨⟨s,o⟩,r⟩
    simp_all
  ·cases htt:t8 h<;>cases hdd:fa d<;>cases hxx:ae (ak j<=40)<;>simp_all[jN]
   grind
 by_cases h3:t=3
 ·subst h3;cases ha:(g.all (qV false)&&fV g&&fG g)<;>cases hb:th ⟨3,n,h,d,j,g,k⟩<;>simp[jN]
  grind
 by_cases h4:t=4
 ·subst h4;cases ha:(g.all (qV true)&&fV g&&fG g)<;>simp[jN]
  grind
 simp_all

theorem zbR(L:List GF)(d:GA):pt L d=aa (sF (λx=>ae (x.z6=d)) L):=by
 unfold pt;rw[zax (λx:GF=>ae (x.z6=d)) (λi _=>(i:Int)) _ _ (λi x _=>by rw[tT])];unfold sF;cases h:L.findIdx? (λx=>ae (x.z6=d))with
 |none=>simp
 |some j =>
  obtain⟨g,_⟩:=jK.1 h
  simp_all
theorem uA(L:List GA)(d:GA):uB L d=aa (L.any λx=>ae (x=d)):=by
 unfold uB;rw[ziw (r:=true) (λx:GA=>!ae (x=d)) (λi x _=>by rw[tT];cases ae (x=d)<;>rfl)]
 grind
theorem ziO(L:List GF):(∀(i:Nat)(x:GF),L[i]?=aa x->sF (λy:GF=>ae (y.z6=x.z6)) L=(i:Int))↔(L.map (·.z6)).Nodup:=by
 constructor
 ·intro h;rw[kE,lF];intro i j hi g k e;simp only[oa]at hi g;simp only[List.getElem_map]at e;have r:=h i _ (rk hi);have p:=h j _ (rk g)
  grind
 ·intro h i x o;obtain⟨hi,rfl⟩:=tu.1 o;unfold sF;have:L.findIdx? (λy=>ae (y.z6=L[i].z6))=aa i:=by
   rw[jK];refine⟨hi,by simp,λj g=>?_⟩;have m:j<(ak L):=by omega
   simp only[so];intro e;rw[kE,lF]at h
   simp_all
  rw[this]
def nH(t:Int)(x:GF):Bool:=fa x.z6&&ae (ak x.text<=40)&&(ae (t≠3) || ae (x.time=0))&&(ae (t≠4) || t8 x.time)
def aS(l:GE):Bool:=l.z8.all (nH l.x4)&&fG l.z8&&l.z8.all (λx=>!(l.y4.any λy=>ae (y=x.z6)))&&fV l.z8&&(l.y4.all fa&&wG l.y4)
theorem zle(l:GE):allI (λi x=>nH l.x4 x&&(ae (sF (λy:GF=>ae (y.z6=x.z6)) l.z8=(i:Int))&&(!(l.y4.any λy=>ae (y=x.z6))&&(ae (i=0) || zQ (zfw l.z8 i) x)))) l.z8 =
  (l.z8.all (nH l.x4)&&fG l.z8&&l.z8.all (λx=>!(l.y4.any λy=>ae (y=x.z6)))&&fV l.z8):=by
 rw[lI,fg];simp only[tx,so,fG,fV,fg,oB,<- ziO];constructor
 ·intro h;refine⟨⟨⟨λx g=>?_,λi x g=>(h i x g).2.1⟩,λx g=>?_⟩,λi x g=>(h i x g).2.2.2⟩
  ·obtain⟨i,hi⟩:=lz.1 g;exact(h i x hi).1
  ·obtain⟨i,hi⟩:=lz.1 g;exact(h i x hi).2.2.1
 ·grind
theorem zkI(ds:List GA):allI (λi x=>fa x&&yG ds i x) ds=(ds.all fa&&wG ds):=by
 rw[lI,fg,rH];simp only[tx,fg,oB];constructor
 ·intro h;exact⟨λx g=>by obtain⟨i,hi⟩:=lz.1 g;exact(h i x hi).1,λi x g=>(h i x g).2⟩
 ·grind
theorem rJ(hi:ak l.z8<=maxLen)(N:ak l.y4<=maxLen)(h0:0<=l.time):vY l=aa (w7 l):=by
 unfold vY;simp only[ui,zbR,uA,rB,vC,tb,tT];generalize hT:lp (zf _ l.z8 0 ()) _=T;have J:ae ((ak l.z8:Int) > 0)=!ae (l.z8=[]):=by cases l.z8<;>simp
 have K:ae ((ak l.y4:Int) > 0)=!ae (l.y4=[]):=by cases l.y4<;>simp
 have o:T=aa (aS l):=by
  rw[<- hT,ul (r:=false) (λi x=>nH l.x4 x&&(ae (sF (λy:GF=>ae (y.z6=x.z6)) l.z8=(i:Int))&&(!(l.y4.any λy=>ae (y=x.z6))&&(ae (i=0) || zQ (zfw l.z8 i) x))))]
  ·rw[ul (r:=false) (λi x=>fa x&&yG l.y4 i x)]
   ·rw[zle,zkI];unfold aS;cases(l.z8.all (nH l.x4)&&fG l.z8&&l.z8.all (λx=>!(l.y4.any λy=>ae (y=x.z6)))&&fV l.z8)<;>cases(l.y4.all fa&&wG l.y4)<;>simp
   ·intro i x u;have t:i<(ak l.y4):=(tu.1 u).1;have m:l.y4.getD i af=x:=by grind
    rcases i with _|j
    ·cases hd:fa x<;>simp[zN,yG]
    ·rw[tD (by omega),rO,o5,o5,m];have w:yG l.y4 (j+1) x=w6 (l.y4.getD j af) x:=by rfl
     rw[ze (by omega),ze (by omega),w]
     grind
  ·intro i x u;have t:i<(ak l.z8):=(tu.1 u).1;have C:ae ((ak x.text:Int) > 40)=!ae (ak x.text<=40):=by grind
   have H:(((l.x4==4)&&(ae (x.time<1) || ae (x.time > 1099511627776))))=!(ae (l.x4≠4) || t8 x.time):=by
    rw[lI];simp[t8]
   have D:((l.x4==3)&&(x.time != 0))=!(ae (l.x4≠3) || ae (x.time=0)):=by grind
   rw[C,H,D];have M:(((!fa x.z6 || !ae (ak x.text<=40)) || !(ae (l.x4≠3) || ae (x.time=0))) || !(ae (l.x4≠4) || t8 x.time))=!nH l.x4 x:=by unfold nH;simp only[Bool.not_and]
   rw[M];have I:(sF (λy:GF=>ae (y.z6=x.z6)) l.z8 != (i:Int))=!ae (sF (λy:GF=>ae (y.z6=x.z6)) l.z8=(i:Int)):=by rfl
   cases hr:nH l.x4 x
   ·simp
   simp only[ly,jJ,oS,tb,lM];rw[I];cases hf:ae (sF (λy:GF=>ae (y.z6=x.z6)) l.z8=(i:Int))
   ·simp
   cases htb:l.y4.any λy=>ae (y=x.z6)
   ·rcases i with _|j
    ·rfl
    ·rw[tD (by omega),rO,o5];rw[ze (by omega),ze (by omega)];have w:(if(l.z8.getD j af).time≠x.time then ae ((l.z8.getD j af).time<x.time)else w6 (l.z8.getD j af).z6 x.z6)=zQ (zfw l.z8 (j+1)) x:=rfl
     grind
   ·simp
 subst o;clear hT;rw[J,K];have F:(l.time != 0)=!ae (l.time=0):=by rfl
 have E:(l.time==0)=ae (l.time=0):=by rfl
 have z3:(l.text==([]:zp))=ae (l.text=[]):=by grind
 have z4:ae (l.time > 1099511627776)=!ae (l.time<=1099511627776):=by grind
 have z5:ae ((ak l.text:Int) > 40)=!ae (ak l.text<=40):=by grind
 have s:tY l=(ae (l.time=0)&&ae (l.z6=cT)&&ae (l.text=[])):=rfl;have G:(l.z6.zi.fk==0&&(l.z6.zi.inc==0&&(l.z6.seq==0&&true)))=ae (l.z6=cT):=tT l.z6 cT;rw[F,E,z3,z4,z5,G];by_cases h1:l.x4=1
 ·have hi:ae (l.z8=[])=true->aS l=(l.y4.all fa&&wG l.y4):=by
   intro h;have:=lX h;unfold aS;rw[this];simp[fG,fV,allI]
  unfold w7;simp only[h1,oS,s];cases hi2:ae (l.z8=[])
  ·simp
  ·rw[hi hi2];cases ht2:ae (l.y4=[])
   ·simp
   ·have:=lX ht2;rw[this];cases ae (l.time=0)<;>cases ae (l.z6=cT)<;>cases ae (l.text=[])<;>simp[wG]
 by_cases h2:l.x4=2
 ·have hi:ae (l.z8=[])=true->aS l=(l.y4.all fa&&wG l.y4):=by
   intro h;have:=lX h;unfold aS;rw[this];simp[fG,fV,allI]
  unfold w7;have k:t8 l.time=(!ae (l.time=0)&&ae (l.time<=1099511627776)):=by
   unfold t8;rw[lI];simp;omega
  simp only[h2,oS,k];cases hn:ae (l.n=0)
  ·simp_all
  ·have g:l.n=0:=lX hn;cases hi2:ae (l.z8=[])
   ·simp[g]
   ·rw[hi hi2];cases ht2:ae (l.y4=[])
    ·simp[g]
    ·have:=lX ht2;rw[this];by_cases ht0:l.time=0
     ·cases hdd:ae (l.z6=cT)<;>cases htx:ae (l.text=[])<;>simp[g,ht0,wG]
     ·cases hm:ae (l.time<=1099511627776)<;>cases hdd:fa l.z6<;>cases htx:ae (ak l.text<=40)<;>simp[g,ht0,wG]
 by_cases h3:l.x4=3
 ·have v:(λx=>nH 3 x)=qV false:=by
   funext x;unfold nH qV;simp
  have p:aS l=(l.z8.all (qV false)&&fV l.z8&&fG l.z8&&th l):=by
   unfold aS th
   grind
  unfold w7;simp only[h3,p,s];cases hn:ae (l.n=0)
  ·simp_all
  ·have g:l.n=0:=lX hn;cases ae (l.time=0)<;>cases ae (l.z6=cT)<;>cases ae (l.text=[])<;>simp[g]
 by_cases h4:l.x4=4
 ·have v:(λx=>nH 4 x)=qV true:=by
   funext x;unfold nH qV;simp
  have p:ae (l.y4=[])=true->aS l=(l.z8.all (qV true)&&fV l.z8&&fG l.z8):=by
   intro h;have:=lX h;unfold aS;rw[h4,show nH 4=qV true from v,this];cases l.z8.all (qV true)<;>cases fG l.z8<;>cases fV l.z8<;>simp[wG]
  unfold w7;simp only[h4,s];cases hn:ae (l.n=0)
  ·simp_all
  ·have g:l.n=0:=lX hn;cases ht2:ae (l.y4=[])
   ·simp[g]
   ·rw[p ht2];cases ae (l.time=0)<;>cases ae (l.z6=cT)<;>cases ae (l.text=[])<;>simp[g]
 have z:l.x4<1 \/ 4<l.x4:=by omega
 have:(ae (l.x4<1) || ae (l.x4 > 4))=true:=by simp;omega
 unfold w7
 simp_all

mutual
def GC.dep:GC->Nat
 |⟨_,_,sb⟩=>GC.fB sb+1
def GC.fB:List GC->Nat
 |[]=>0
 |x::r=>max x.dep (GC.fB r)
end
theorem te{x:GC}:∀{t:List GC},x∈t->x.dep<=GC.fB t
 |[],h=>by cases h
 |y::r,h=>by
  simp only[GC.fB];rcases lx.1 h with rfl|h
  ·omega
  ·have:=te h;omega
theorem w9(x:GC):GC.fB x.wa+1=x.dep:=by cases x;simp[GC.dep]
def Small(t:List GC):Prop:=GC.cz t/\GC.e6 t<=16777216
theorem zum(x:GC):1<=x.bk:=by cases x;simp only[GC.bk];omega
theorem ziz:∀t:List GC,ak t<=GC.e6 t
 |[]=>by simp_all
 |x::r=>by have:=ziz r;have:=zum x;simp only[GC.e6,nr];omega
theorem zhK{x:GC}:∀{t:List GC},x∈t->x.bk<=GC.e6 t
 |[],h=>by cases h
 |y::r,h=>by
  simp only[GC.e6];rcases lx.1 h with rfl|h
  ·omega
  ·have:=zhK h;omega
theorem zbc{α:Type}{f:α->Nat}(h:∀x,1<=f x):∀l:List α,ak l<=(l.map f).sum
 |[]=>by simp
 |x::r=>by have:=zbc h r;have:=h x;simp only[nr,m4,jQ];omega
theorem zfi{α:Type}{f:α->Nat}{x:α}:∀{l:List α},x∈l->f x<=(l.map f).sum
 |[],h=>by cases h
 |y::r,h=>by
  simp only[m4,jQ];rcases lx.1 h with rfl|h
  ·omega
  ·have:=zfi (f:=f) h;omega
theorem zbE(x:GC):ak x.name+1+((x.leaves.map GE.bk).sum+1)+(GC.e6 x.wa+1)<=x.bk:=by cases x;simp only[GC.bk];omega
theorem Small.wa{t:List GC}(h:Small t){x:GC}(g:x∈t):Small x.wa:=by
 refine⟨?_,by have:=zhK g;have:=zbE x;have:=h.2;omega⟩;have:=(GC.eM t).1 h.1 x g;cases x;simp only[GC.wf]at this;exact this.2.2
theorem Small.len{t:List GC}(h:Small t):ak t<=16777216:=lg (ziz t) h.2
structure fv(l:GE):Prop where
 z8:ak l.z8<=16777216
 y4:ak l.y4<=16777216
 time:0<=l.time
theorem Small.leaf{t:List GC}(h:Small t){x:GC}(j:x∈t){l:GE}(g:l∈x.leaves):fv l:=by
 have p:=zhK j;have m:=zbE x;have u:=h.2;have o:l.bk<=_:=zfi (f:=GE.bk) g;have s:(l.z8.map GF.bk).sum+1+((l.y4.map GA.bk).sum+1)<=l.bk:=by unfold GE.bk;omega
 have k:=zbc (f:=GF.bk) (λx=>by unfold GF.bk;omega) l.z8;have r:=zbc (f:=GA.bk) (λx=>by unfold GA.bk;omega) l.y4;refine⟨by omega,by omega,?_⟩;have:=(GC.eM t).1 h.1 x j;cases x;simp only[GC.wf]at this;have:=this.2.1.2 l g;unfold GE.wf at this;have:=this.2.2.1;unfold dc at this;simp[IntKind.min,IntKind.max,IntKind.signed,IntKind.bits]at this;omega
theorem Small.leaves{t:List GC}(h:Small t){x:GC}(g:x∈t):ak x.leaves<=16777216:=by
 have m:=zhK g;have k:=zbE x;have o:=h.2;have j:=zbc (f:=GE.bk) (λx=>by unfold GE.bk;omega) x.leaves;omega
def bj(t:List GC):Bool:=allI (λi x=>ae (i=0) || Op.bytesLess (t.getD (i-1) af).name x.name) t
def fR(ls:List GE):Bool:=allI (λi l=>w7 l&&(ae (i=0) || ae ((ls.getD (i-1) af).x4<l.x4))) ls
mutual
def pV(d:Nat):GC->Bool
 |⟨nm,ls,sb⟩=>fL nm&&!(ls.isEmpty&&sb.isEmpty)&&((sb.isEmpty || ae (d+1<3))&&bj sb&&tv (d+1) sb)&&fR ls
def tv(d:Nat):List GC->Bool
 |[]=>true
 |x::r=>pV d x&&tv d r
end
def gX(d:Nat)(t:List GC):Bool:=(t.isEmpty || ae (d<3))&&bj t&&tv d t
theorem xe(d:Nat):∀t,tv d t=t.all (pV d)
 |[]=>rfl
 |x::r=>by simp only[tv,l7,xe d r]
theorem rQ(d:Nat)(x:GC):pV d x=(fL x.name&&!(x.leaves.isEmpty&&x.wa.isEmpty)&&gX (d+1) x.wa&&fR x.leaves):=by cases x;rfl
theorem zjg(d:Nat)(t:List GC):allI (λi x=>pV d x&&(ae (i=0) || Op.bytesLess (t.getD (i-1) af).name x.name)) t=(bj t&&tv d t):=by
 rw[lI,fg,xe];simp only[tx,bj,fg,oB];constructor
 ·intro h;exact⟨λi x g=>(h i x g).2,λx g=>by obtain⟨i,hi⟩:=lz.1 g;exact(h i x hi).1⟩
 ·grind
theorem zxJ{α:Type}(l:List α):((ak l:Int)==0)=l.isEmpty:=by cases l<;>simp;omega
theorem zbL:∀(n:Nat)(t:List GC) (d:Nat),GC.fB t<n->d<=3->Small t->tF n t (d:Int)=aa (gX d t)
 |0,_,_,h,_,_=>by omega
 |n+1,t,d,h,hd,hs=>by
  unfold tF;by_cases hc:(ae ((ak t:Int) > 0)&&((d:Int)==3))=true
  ·rw[nK hc];simp only[tx,so,jo]at hc;have:t.isEmpty=false:=by grind
   have g:ae (d<3)=false:=lL (by omega);simp[gX,this,g]
  ·rw[n4 hc];have u:(t.isEmpty || ae (d<3))=true:=by
    simp only[tx,so,jo]at hc;cases t with
    |nil=>rfl
    |cons x r=>simp at hc ⊢;omega
   have K:=hs.len;rw[ul (r:=false) (λi x=>pV d x&&(ae (i=0) || Op.bytesLess (t.getD (i-1) af).name x.name)),zjg]
   ·unfold gX;rw[u,lq]
    grind
   ·intro i x y;have hi:i<(ak t):=(tu.1 y).1;have o:=lc y;have z:=te o;have E:=w9 x;have C:0<(ak t):=by omega
    have g:d<3:=by
     grind
    have H:ai .i64 ((d:Int)+1)=((d+1:Nat):Int):=by rw[vj (by omega)];omega
    have J:=zbL n x.wa (d+1) (by omega) (by omega) (hs.wa o);have D:=hs.leaves o;have F:=(hs.wa o).len;have s:ai .i64 ((ak x.leaves:Int)+(ak x.wa:Int))=((ak x.leaves+ak x.wa:Nat):Int):=by rw[vj (by omega)];omega
    have G:((((ak x.leaves+ak x.wa:Nat):Int))==0)=(x.leaves.isEmpty&&x.wa.isEmpty):=by
     cases h1:x.leaves<;>cases h2:x.wa<;>simp<;>omega
    rw[zcZ,H,J,s,G,rQ];have v:lp (zf (λ(n2:Nat)(w:GE) (s2:Unit)=>(((sq w).bind λm=>(zN ((((!m)==false)&&((ae ((n2:Int) > (0:Int)))==true))=true->0<=(ai .i64 ((n2:Int)-(1:Int)))/\(ai .i64 ((n2:Int)-(1:Int)))<(ak (x.leaves):Int)) ((if((!m) || ((ae ((n2:Int) > (0:Int)))&&(ae (((x.leaves).getD (ai .i64 ((n2:Int)-(1:Int))).toNat af).x4 >= w.x4))))=true then aa (.ret (.ret false))else aa (.gV ()))))):Option (Out (Out Bool Unit) Unit))) x.leaves 0 ()) (λ(s2:Unit)=>aa (.gV ()))=if fR x.leaves=true then aa (.gV ())else aa (.ret false):=by
     rw[ul (r:=.ret false) (λi l=>w7 l&&(ae (i=0) || ae ((x.leaves.getD (i-1) af).x4<l.x4)))]
     ·rfl
     ·intro j l k;have I:j<(ak x.leaves):=(tu.1 k).1;have p:=hs.leaf o (lc k);rw[zbu (by have:=p.z8;simp only[maxLen];omega) (by have:=p.y4;simp only[maxLen];omega)];simp only[tb];rcases j with _|j
      ·cases w7 l<;>simp[zN]
      ·rw[tD (by simp only[maxLen];omega),rO,o5,ze (by omega)]
       grind
    rw[v];simp only[tb];rcases i with _|j
    ·cases fL x.name<;>cases(x.leaves.isEmpty&&x.wa.isEmpty)<;>cases gX (d+1) x.wa<;>cases fR x.leaves<;>simp[zN]
    ·rw[tD (by simp only[maxLen];omega),rO,o5,ze (by omega),iG]
     grind
theorem pI{t:List GC}(h:Small t):uZ t=aa (gX 0 t):=by
 unfold uZ zfc;have:=tf (g:=λn=>tF n t 0) (r:=gX 0 t) (GC.fB t+1) (λn j=>by have:=zbL n t 0 (by omega) (by omega) h;simpa using this)
 simp_all
theorem zaN:∀(n:Nat)(t:List GC) (d:Nat),GC.fB t<n->d<=3->Small t->ue n t (d:Int)=aa (gX d t)
 |0,_,_,h,_,_=>by omega
 |n+1,t,d,h,hd,hs=>by
  unfold ue;have F:=hs.len;rw[ul (r:=false) (λi x=>ae (d<3)&&(pV d x&&(ae (i=0) || Op.bytesLess (t.getD (i-1) af).name x.name)))]
  ·have e:allI (λi x=>ae (d<3)&&(pV d x&&(ae (i=0) || Op.bytesLess (t.getD (i-1) af).name x.name))) t=gX d t:=by
    unfold gX;rw[Bool.and_assoc,<- zjg];cases hd3:ae (d<3)
    ·cases t with
     |nil=>rfl
     |cons x r=>simp[allI]
    ·simp
   grind
  ·intro i x u;have hi:i<(ak t):=(tu.1 u).1;have m:=lc u;have v:=te m;have y:=w9 x;have o:ae ((d:Int) >= 3)=!ae (d<3):=by grind
   rw[o];by_cases hd3:d<3
   ·have z:ai .i64 ((d:Int)+1)=((d+1:Nat):Int):=by rw[vj (by omega)];omega
    have E:=zaN n x.wa (d+1) (by omega) (by omega) (hs.wa m);have w:=hs.leaves m;rw[zad,z,E,rQ,zxJ,zxJ];have s:lp (zf (λ(n2:Nat)(C:GE) (s2:Unit)=>(((vY C).bind λv50=>(zN ((((!v50)==false)&&((ae ((n2:Int) > (0:Int)))==true))=true->0<=(ai .i64 ((n2:Int)-(1:Int)))/\(ai .i64 ((n2:Int)-(1:Int)))<(ak (x.leaves):Int)) ((zN ((((!v50)==false)&&((ae ((n2:Int) > (0:Int)))==true))=true->0<=(n2:Int)/\(n2:Int)<(ak (x.leaves):Int)) ((if((!v50) || ((ae ((n2:Int) > (0:Int)))&&(ae (((x.leaves).getD (ai .i64 ((n2:Int)-(1:Int))).toNat af).x4 >= ((x.leaves).getD (n2:Int).toNat af).x4))))=true then aa (.ret (.ret false))else aa (.gV ()))))))):Option (Out (Out Bool Unit) Unit))) x.leaves 0 ()) (λ(s2:Unit)=>aa (.gV ()))=if fR x.leaves=true then aa (.gV ())else aa (.ret false):=by
     rw[ul (r:=.ret false) (λi l=>w7 l&&(ae (i=0) || ae ((x.leaves.getD (i-1) af).x4<l.x4)))]
     ·rfl
     ·intro j l k;have D:j<(ak x.leaves):=(tu.1 k).1;have p:x.leaves.getD j af=l:=by simp_all
      have g:=hs.leaf m (lc k);rw[rJ (by have:=g.z8;simp only[maxLen];omega) (by have:=g.y4;simp only[maxLen];omega) g.time];simp only[tb];rcases j with _|j
      ·cases w7 l<;>simp[zN]
      ·rw[tD (by simp only[maxLen];omega),rO,o5,o5,p,ze (by omega),ze (by omega)]
       grind
    rw[s,lJ hd3];simp only[tb,ly,lM,lq,jJ,oS];rcases i with _|j
    ·cases fL x.name<;>cases(x.leaves.isEmpty&&x.wa.isEmpty)<;>cases gX (d+1) x.wa<;>cases fR x.leaves<;>simp[zN]
    ·rw[tD (by simp only[maxLen];omega),rO,o5,ze (by omega),iG]
     grind
   ·rw[lL hd3];rfl
theorem rI{t:List GC}(h:Small t):se t=aa (gX 0 t):=by
 unfold se zcQ;have:=tf (g:=λn=>ue n t 0) (r:=gX 0 t) (GC.fB t+1) (λn j=>by have:=zaN n t 0 (by omega) (by omega) h;simpa using this)
 simp_all

theorem zhb{ρ:Type}{f:σ->Option (Out ρ σ)}(j:σ->Prop)(m:σ->Nat)(h:∀s,j s->(∃g,f s=aa (.brk g)) \/ ∃g,f s=aa (.gV g)/\j g/\m g<m s):∀(k:Nat)(s:σ),m s=k->j s->∃g,ya f s=aa (.inr g):=by
 intro k
 induction k using Nat.strongRecOn with
 |_ k ih =>
  intro s o hi;rw[yK];rcases h s hi with⟨g,e⟩|⟨g,e,r,p⟩
  ·simp_all
  ·grind
theorem zrr{ρ:Type}{f:σ->Option (Out ρ σ)}{rest:σ->Option ρ}(g:σ->Prop)(k:σ->Nat)(o:∀s,∃v,rest s=aa v)(m:σ)(hi:g m)(h:∀s,g s->(∃j,f s=aa (.brk j)) \/ ∃j,f s=aa (.gV j)/\g j/\k j<k s):∃v,lp (ya f m) rest=aa v:=by
 obtain⟨j,e⟩:=zhb g k h _ m rfl hi
 simp_all
theorem zrE{α:Type}{L:List α}{i:Int}{x:α}(h:zR L i=aa x):x∈L:=by
 unfold zR at h
 grind
theorem zju:∀(n:Nat)(t:List GC) (d:Int),GC.fB t<n->Small t->∃v,xK n t d=aa v
 |0,_,_,h,_=>by omega
 |n+1,t,d,h,hs=>by
  unfold xK;have G:=hs.len;refine zrr (λs=>0<=s.2/\s.2<=(ak t:Int)) (λs=>((ak t)-s.2.toNat)) (λ_=>⟨_,rfl⟩) _ ⟨by simp,by simp⟩ (λs hi=>?_);rcases s with⟨a,i⟩
  obtain⟨k,rfl⟩:∃k:Nat,i=(k:Int):=⟨i.toNat,by have:=hi.1;simp at this;omega⟩
  by_cases hc:(ae ((k:Int)<(ak t:Int))&&ae (d<10))=true
  ·right;simp only[tx,so]at hc;have r:k<(ak t):=by omega
   have w:t[k]∈t:=jF r;have z:=te w;have D:=w9 t[k];obtain⟨v,E⟩:=zju n t[k].wa (ai .i64 (d+1)) (by omega) (hs.wa w);have C:=hs.leaves w;obtain⟨s2,y⟩:=zhb (ρ:=Out Int (Int×Int)) (σ:=Int×Int) (f:=λs2:Int×Int=>(((zR t (k:Int)).bind λp=>(if ae (s2.2<(ak (p.leaves):Int))=true then((zR t (k:Int)).bind λm=>((zR m.leaves s2.2).bind λg=>(lp (zf (λ(F:Nat)(u:GF) (o:Int)=>(aa (.gV (ai .i64 ((ai .i64 (o+(1:Int)))+(ak (u.text):Int)))):Option (Out _ Int))) g.z8 0 (ai .i64 ((ai .i64 ((ai .i64 (s2.1+(1:Int)))+(ak (g.text):Int)))+(ak (g.y4):Int)))) λ(o:Int)=>aa (.gV (o,(ai .i64 (s2.2+(1:Int))))))))else aa (.brk (s2.1,s2.2)))):Option (Out (Out Int (Int×Int)) (Int×Int))))
    (λs=>0<=s.2/\s.2<=(t[k].leaves.length:Int)) (λs=>(t[k].leaves.length-s.2.toNat)) (λs hi=>by
     rcases s with⟨b,i⟩
     obtain⟨q,rfl⟩:∃q:Nat,i=(q:Int):=⟨i.toNat,by have:=hi.1;simp at this;omega⟩
     simp only[su r,tb];by_cases hq:q<t[k].leaves.length
     ·right;have j:ae ((q:Int)<(t[k].leaves.length:Int))=true:=by simpa using hq
      simp only[j,oS,su hq,tb];rw[mt (λ(o:Int)(u:GF)=>ai .i64 ((ai .i64 (o+(1:Int)))+(ak (u.text):Int))) _ 0 _ (λ_ _ _ _=>rfl),yw];refine⟨_,rfl,?_,?_⟩
      ·simp only;rw[vj (by omega)];omega
      ·simp only;rw[vj (by omega)];omega
     ·left;have j:ae ((q:Int)<(t[k].leaves.length:Int))=false:=by simp;omega
      simp only[j];exact⟨_,rfl⟩) _ ((ai .i64 ((ai .i64 ((ai .i64 (a+(1:Int)))+(ak (t[k].name):Int)))+v)),(0:Int)) rfl ⟨by simp,by simp⟩
   refine⟨(s2.1,ai .i64 ((k:Int)+1)),?_,?_,?_⟩
   ·simp only[hc,jB,lB,oS,su r,tb,E];simp only[su r,tb]at y;rw[y];rfl
   ·simp only;rw[vj (by omega)];omega
   ·simp only;rw[vj (by omega)];omega
  ·left;refine⟨(a,(k:Int)),?_⟩;simp only at hc ⊢
   grind
theorem zcJ:∀(n m:Nat)(t:List GC) (d:Int),GC.fB t<n->GC.fB t<m->xK n t d=xK m t d
 |0,_,_,_,h,_=>by omega
 |_+1,0,_,_,_,h=>by omega
 |n+1,m+1,t,d,h1,h2=>by
  unfold xK;congr 2;funext s;split
  ·cases hx:zR t s.2 with
   |none=>rfl
   |some y =>
    have g:=te (zrE hx);have j:=w9 y;simp only[tb];rw[zcJ n m y.wa _ (by omega) (by omega)]
  ·rfl
theorem zd0{t:List GC}(h:Small t):∃b,uh t=aa b:=by
 unfold uh mh;obtain⟨v,g⟩:∃v,∀n,GC.fB t+1<=n->xK n t 0=aa v:=by
  obtain⟨v,g⟩:=zju (GC.fB t+1) t 0 (by omega) h;exact⟨v,λn j=>by rw[zcJ n (GC.fB t+1) t 0 (by omega) (by omega)];exact g⟩
 rw[tf (GC.fB t+1) g]
 simp_all

theorem nU{α:Type}{L:List α}(h:ak L<=lim):(b5 L λg=>(if g=true then aa ([]:List α)else(zN (ak (([]:List α))+ak L<=lim) (aa (([]:List α)++L)))))=aa L:=by
 refine zrk ?_ λe=>by subst e;rfl
 rw[ze (by simpa using h)];simp
theorem zam{L:List zp}(h:ak L<=lim):vu L=aa L:=nU h
theorem uL(h:ak L<=lim):yN L=aa L:=nU h
theorem wV{L:List GA}(h:ak L<=lim):ym L=aa L:=nU h
mutual
def pR(a:List zp):GC->List GM
 |⟨nm,ls,sb⟩=>ls.map (λl=>GM.mk (a++[nm]) l)++zk (a++[nm]) sb
def zk(a:List zp):List GC->List GM
 |[]=>[]
 |x::r=>pR a x++zk a r
end
mutual
def ziJ(is:List zp->Bool)(a:List zp):GC->GC
 |⟨nm,ls,sb⟩=>⟨nm,if is (a++[nm])=true then ls else [],ziK is (a++[nm]) sb⟩
def ziK(is:List zp->Bool)(a:List zp):List GC->List GC
 |[]=>[]
 |x::r=>if(ziJ is a x).leaves.isEmpty&&(ziJ is a x).wa.isEmpty then ziK is a r else ziJ is a x::ziK is a r
end
theorem wq(a:List zp)(x:GC):pR a x=x.leaves.map (λl=>GM.mk (a++[x.name]) l)++zk (a++[x.name]) x.wa:=by cases x;rfl
theorem xd(a:List zp):∀t,zk a t=t.flatMap (pR a)
 |[]=>rfl
 |x::r=>by simp only[zk,jf,xd a r]
theorem rd{α β ρ:Type}(p:α->Bool)(g:α->β){f:Nat->α->List β->Option (Out ρ (List β))}:∀(L:List α)(i:Nat) (s:List β),ak s+ak L<=lim->(∀i x s,x∈L->ak s+1<=lim->f i x s=if p x=true then aa (.gV (s++[g x]))else aa (.gV s)) ->
  zf f L i s=aa (.inr (s++(L.filter p).map g))
 |[],_,s,_,_=>by simp[zf]
 |x::t,i,s,hl,h=>by
  simp only[nr]at hl;simp only[zf,h i x s (k8 ..) (by omega),kT];cases hp:p x
  ·simp only[s5,mb];exact rd p g t (i+1) s (by omega) λi x s j=>h i x s (kQ _ j)
  ·simp only[oS];rw[rd p g t (i+1) (s++[g x]) (by simp;omega) λi x s j=>h i x s (kQ _ j)];simp
theorem zpn:∀(n:Nat)(t:List GC),GC.fB t<=n->GC.fB t<=GC.e6 t:=by
 intro n
 induction n with
 |zero=>intro t g;omega
 |succ n ih =>
  intro t
  induction t with
  |nil=>intro _;simp[GC.fB]
  |cons x r ihr =>
   intro g;simp only[GC.fB]at g ⊢;simp only[GC.e6];have k:=ihr (by omega);have h:=w9 x;have m:=ih x.wa (by omega);have j:=zbE x;omega
theorem Small.dep{t:List GC}(h:Small t):GC.fB t<=16777216:=lg (zpn _ t (ob _)) h.2
theorem x8:∀{a b c:List UInt8},Op.bytesLess a b=true->Op.bytesLess b c=true->Op.bytesLess a c=true
 |_,[],_,h,_=>by cases ‹List UInt8›<;>simp[Op.bytesLess]at h
 |a,b::y,[],_,h=>by simp[Op.bytesLess]at h
 |[],b::y,c::z,_,_=>rfl
 |a::x,b::y,c::z,j,g=>by
  simp only[Op.bytesLess,lN,so,tx,jo]at j g ⊢;rcases j with j|⟨rfl,j⟩
  ·grind
  ·rcases g with g|⟨rfl,g⟩
   ·simp_all
   ·right;exact⟨rfl,x8 j g⟩
theorem t7(t:List GC):bj t=true↔t.Pairwise (λx y=>Op.bytesLess x.name y.name=true):=by
 unfold bj;rw[fg];constructor
 ·intro h;rw[lF];intro i j hi g m;obtain⟨k,rfl⟩:∃k,j=i+1+k:=⟨j-i-1,by omega⟩
  induction k with
  |zero =>
   have:=h (i+1) _ (rk g)
   simp_all
  |succ k ih =>
   have o:=ih (by omega) (by omega);have:=h (i+1+(k+1)) _ (rk g);simp only[lN,so]at this;rcases this with h0|h0
   ·omega
   ·rw[show i+1+(k+1)-1=i+1+k by omega,lu,rk (by omega)]at h0;exact x8 o h0
 ·intro h i x p;rcases i with _|i
  ·rfl
  ·rw[lF]at h
   grind
section
variable(is:List zp->Bool)
theorem qZ{M:List GC->Prop}(h0:M [])(g:∀x r,M x.wa->M r->M (x::r)):∀t,M t:=by
 have key:∀(n:Nat)(t:List GC),GC.fB t<=n->M t:=by
  intro n
  induction n with
  |zero =>
   intro t h;cases t with
   |nil=>exact h0
   |cons x r=>simp only[GC.fB]at h;have:=w9 x;omega
  |succ n ih =>
   intro t
   induction t with
   |nil=>intro _;exact h0
   |cons x r ihr =>
    intro h;simp only[GC.fB]at h;have:=w9 x
    grind
 exact λt=>key _ t (ob _)
theorem zez:∀(t:List GC)(a:List zp),(GC.cz t->GC.cz (ziK is a t))/\GC.e6 (ziK is a t)<=GC.e6 t:=by
 refine qZ (λa=>⟨λh=>h,ob _⟩) ?_;intro x r j g a;have m:(ziJ is a x).bk<=x.bk:=by
  have:=(j (a++[x.name])).2;cases x with
  |mk nm ls sb =>
   simp only[ziJ,GC.bk]at this ⊢
   grind
 have k:x.wf->(ziJ is a x).wf:=by
  have:=(j (a++[x.name])).1;cases x with
  |mk nm ls sb =>
   simp only[ziJ,GC.wf]at this ⊢
   grind
 simp only[ziK];split
 ·refine⟨λh=>(g a).1 (by simp only[GC.cz]at h;exact h.2),?_⟩;have:=(g a).2;simp only[GC.e6];omega
 ·refine⟨λh=>?_,?_⟩
  ·simp only[GC.cz]at h ⊢;exact⟨k h.1,(g a).1 h.2⟩
  ·have:=(g a).2;simp only[GC.e6];omega
theorem Small.g8{t:List GC}(h:Small t)(a:List zp):Small (ziK is a t):=⟨(zez is t a).1 h.1,lg (zez is t a).2 h.2⟩
end
theorem zd1(l:GE):nw l l=aa true:=by
 unfold nw;simp only[tT,zqb];rw[n4 (by simp),ul (r:=false) (λ_ _=>true),ul (r:=false) (λ_ _=>true)]
 ·simp[allI]
 ·intro i x g;have hi:=(tu.1 g).1;have h:l.y4[i]=x:=(tu.1 g).2;rw[su hi,h];simp
 ·intro i x g;have hi:=(tu.1 g).1;have h:l.z8[i]=x:=(tu.1 g).2;rw[su hi,h];simp
theorem mN:∀(n:Nat)(t:List GC),GC.fB t<n->tj n t t=aa true
 |0,_,h=>by omega
 |n+1,t,h=>by
  unfold tj;rw[n4 (by simp),ul (r:=false) (λ_ _=>true)]
  ·simp[allI]
  ·intro i x k;have hi:=(tu.1 k).1;have p:t[i]=x:=(tu.1 k).2;have hd:t.getD i af=x:=by simp_all
   have o:=te (lc k);have u:=w9 x;rw[su hi,p];simp only[tb,o5,hd,mN n x.wa (by omega)];rw[ze (by omega),ze (by omega),ze (by omega),ze (by omega)];rw[ul (r:=.ret false) (λ_ _=>true)]
   ·simp[allI]
   ·intro j l m;have s:=(tu.1 m).1;have g:x.leaves[j]=l:=(tu.1 m).2;rw[su s,g];simp[zd1]
theorem zdZ(t:List GC):sY t t=aa true:=by
 unfold sY;exact tf (GC.fB t+1) λn g=>mN n t (by omega)

theorem zfZ{lo hi:Nat}(h:lo<hi)(o:hi<=4611686018427387904):ai .i64 (Int.fdiv (ai .u64 (ai .i64 ((lo:Int)+(hi:Int)))) (2 ^ (min (1:Int).toNat (IntKind.bits .u64))))=(((lo+hi) / 2:Nat):Int):=by
 have g:ai .i64 ((lo:Int)+(hi:Int))=((lo+hi:Nat):Int):=by rw[vj (by omega)];omega
 have m:ai .u64 (((lo+hi:Nat):Int))=((lo+hi:Nat):Int):=by rw[IntKind.wrap_u64];omega
 have j:(2:Int) ^ (min (1:Int).toNat (IntKind.bits .u64))=2:=by decide
 rw[g,m,j,Int.fdiv_eq_ediv_of_nonneg _ (by decide)];have k:((lo+hi:Nat):Int) / 2=(((lo+hi) / 2:Nat):Int):=by omega
 rw[k,vj (by omega)]
theorem zr6{cmp:GC->zp->Option Int}{x:List GC}{s:zp}(z:ak x<=16777216)(t:∀i n,x[i]?=aa n->∃v,cmp n s=aa v/\(i<c->v<0)/\(c<=i->0<=v)) :
  ∀(k lo hi:Nat),hi-lo<=k->lo<=c->c<=hi->hi<=ak x->ya (ρ:=Int×Bool) (λ(g:Int×Int)=>((if(ae (g.1<g.2))=true then((zR x (ai .i64 ((Int.fdiv (ai .u64 ((ai .i64 (g.1+g.2)))) (2 ^ (min (1:Int).toNat (IntKind.bits .u64))))))).bind λu=>((cmp u s).bind λh=>(if(ae (h<(0:Int)))=true then aa (.gV ((ai .i64 ((ai .i64 ((Int.fdiv (ai .u64 ((ai .i64 (g.1+g.2)))) (2 ^ (min (1:Int).toNat (IntKind.bits .u64))))))+(1:Int))),g.2))else aa (.gV (g.1,(ai .i64 ((Int.fdiv (ai .u64 ((ai .i64 (g.1+g.2)))) (2 ^ (min (1:Int).toNat (IntKind.bits .u64)))))))))))else aa (.brk (g.1,g.2))):Option (Out _ (Int×Int)))) ((lo:Int),(hi:Int))=aa (.inr ((c:Int),(c:Int))):=by
 intro k
 induction k with
 |zero =>
  intro lo hi r j o hh;obtain rfl:lo=hi:=by omega
  obtain rfl:lo=c:=by omega
  rw[yK];simp
 |succ k ih =>
  intro lo hi r j o hh;rw[yK];by_cases hlt:lo<hi
  ·have hd:ae ((lo:Int)<(hi:Int))=true:=lJ (by omega);simp only[hd,oS,zfZ hlt (by omega)];have m:(lo+hi) / 2<(ak x):=by omega
   rw[su m,tb];obtain⟨v,w,p,y⟩:=t ((lo+hi) / 2) _ (rk m);rw[w,tb];by_cases hcm:(lo+hi) / 2<c
   ·rw[lJ (p hcm),nK rfl];simp only;have e:ai .i64 ((((lo+hi) / 2:Nat):Int)+1)=(((lo+hi) / 2+1:Nat):Int):=by rw[vj (by omega)];omega
    rw[e];exact ih _ _ (by omega) (by omega) o hh
   ·rw[lL (by omega)];simp only[s5,mb];exact ih _ _ (by omega) j (by omega) (by omega)
  ·grind
theorem zuk{cmp:GC->zp->Option Int}{x:List GC}{s:zp}(k:ak x<=16777216)(j:c<=ak x)(g:∀i n,x[i]?=aa n->∃v,cmp n s=aa v/\(i<c->v<0)/\(c<=i->0<=v)) :
  zg x s cmp=(if c<(ak x)then cmp (x.getD c af) s else aa 1).bind λv=>aa ((c:Int),(ae (c<(ak x))&&(v==0))):=by
 unfold zg;have:=zr6 k g (ak x) 0 (ak x) (by omega) (lV _) j (ob _);simp only[io]at this;rw[show((0:Int),(ak x:Int))=(((0:Nat):Int),(ak x:Int))from rfl]at *;rw[this];simp only[lp];by_cases h:c<(ak x)
 ·have hd:ae ((c:Int)<(ak x:Int))=true:=lJ (by omega);simp only[hd,h,oS,o5,lG,jB,lq];rw[ze (by omega)]
 ·have hd:ae ((c:Int)<(ak x:Int))=false:=lL (by omega);simp only[hd,h,mb,jc,j3,tb];rfl
theorem c4{b:List UInt8}:Lib.compareBytes a b<0↔Op.bytesLess a b=true:=by
 induction a generalizing b with
 |nil=>cases b<;>simp[Lib.compareBytes,Op.bytesLess]
 |cons x a ih =>
  cases b with
  |nil=>simp[Lib.compareBytes,Op.bytesLess]
  |cons y b =>
   simp only[Lib.compareBytes,Op.bytesLess]
   grind
theorem zkt(a:List UInt8):Lib.compareBytes a a=0:=by
 induction a with
 |nil=>rfl
 |cons x a ih=>simp[Lib.compareBytes,ih]
theorem zcs(n:GC)(s:zp):we n s=aa (Lib.compareBytes n.name s):=rfl
theorem mE{L:List GE}(h:ak L<=lim):xB L=aa L:=nU h
theorem po{L:List GC}(h:ak L<=lim):yR L=aa L:=nU h
theorem yO(h:n<=16777217):n<=lim:=lg h (by decide)
theorem zsL(h:fv l):zcv l=aa l:=by
 unfold zcv;rw[uL (yO (jO h.z8)),tb,wV (yO (jO h.y4)),tb]
def zxu(a:List zp)(r:GM):GM:=⟨a++r.path,r.leaf⟩
theorem zce:∀(t:List GC)(a b:List zp),zk (a++b) t=(zk b t).map (zxu a):=by
 refine qZ (λ_ _=>rfl) ?_;intro x r h g a b;rw[xd,xd,jf,jf,<- xd,<- xd,g,lZ];congr 1;rw[wq,wq,lf,h,lZ,kY];rfl
theorem nk:∀(t:List GC)(a:List zp) (r:GM),r∈zk a t->(ak a)<(ak r.path)/\(ak r.path)<=ak a+GC.fB t:=by
 refine qZ (λ_ _ h=>by simp[zk]at h) ?_;intro x r p k a q g;rw[xd,jf,ma,<- xd]at g;have m:x.dep<=GC.fB (x::r):=te (by simp);have j:=w9 x;have o:GC.fB r<=GC.fB (x::r):=by
  simp only[GC.fB];omega
 rcases g with g|g
 ·rw[wq,ma,lH]at g
  grind
 ·grind
theorem tO(h:fR ls=true):ls.Pairwise (λx y=>x.x4<y.x4)/\∀l∈ls,w7 l=true:=by
 unfold fR at h;rw[fg]at h;have p:∀l∈ls,w7 l=true:=λl o=>by
  obtain⟨i,hi⟩:=lz.1 o
  grind
 refine⟨?_,p⟩;have step:∀i,(hi:i+1<(ak ls))->ls[i].x4<ls[i+1].x4:=λi hi=>by
  have:=h (i+1) _ (rk hi)
  grind
 rw[lF];intro i j hi m g;obtain⟨k,rfl⟩:∃k,j=i+1+k:=⟨j-(i+1),by omega⟩
 clear g
 induction k with
 |zero=>exact step i m
 |succ k ih=>exact Int.lt_trans (ih (by omega)) (step (i+1+k) m)
theorem Small.tail{x:GC}{r:List GC}(h:Small (x::r)):Small r:=by
 refine⟨(GC.eM r).2 λy g=>(GC.eM _).1 h.1 y (by simp[g]),?_⟩;have:=h.2;simp only[GC.e6]at this;omega
def zmo(a b:List zp):Prop:=(∃y q,b=a++y::q) \/ ∃p x y a' b',a=p++x::a'/\b=p++y::b'/\Op.bytesLess x y=true
theorem um:∀(a:List UInt8),Op.bytesLess a a=false
 |[]=>rfl
 |x::a=>by simp[Op.bytesLess,um a]
theorem zc8{b:List UInt8}(h:Op.bytesLess a b=true):a≠b:=by
 rintro rfl;rw[um]at h;cases h
def zqL(r q:GM):Prop:=zmo r.path q.path \/ (r.path=q.path/\r.leaf.x4<q.leaf.x4)
theorem sW{t:List GC}{a:List zp}{r:GM}(h:r∈zk a t):∃x∈t,∃w,r.path=a++x.name::w:=by
 rw[xd,ip]at h;obtain⟨x,g,h⟩:=h;refine⟨x,g,?_⟩;rw[wq,ma,lH]at h;rcases h with⟨l,_,rfl⟩|h
 ·simp_all
 ·have:=zce x.wa (a++[x.name]) [];rw[ko]at this;rw[this,lH]at h;obtain⟨q,_,rfl⟩:=h;exact⟨q.path,by simp[zxu]⟩
theorem zqJ:∀(t:List GC)(d:Nat) (a:List zp),bj t=true->tv d t=true->(zk a t).Pairwise zqL:=by
 refine qZ (λ_ _ _ _=>List.Pairwise.nil) ?_;intro x r G F d a s v;rw[xd,jf,<- xd];rw[t7,ld]at s;simp only[tv,tx]at v;obtain⟨j,p⟩:=v;rw[rQ]at j;simp only[tx]at j;obtain⟨⟨⟨_,_⟩,g⟩,u⟩:=j;simp only[gX,tx]at g;obtain⟨o,_⟩:=tO u;rw[kg];refine⟨?_,F d a (t7 r |>.2 s.2) p,λq m I k=>?_⟩
 ·rw[wq,kg];refine⟨?_,G (d+1) _ g.1.2 g.2,λq m I k=>?_⟩
  ·rw[kz];exact o.imp λh=>.inr ⟨rfl,h⟩
  ·rw[lH]at m;obtain⟨l,_,rfl⟩:=m;obtain⟨y,_,w,e⟩:=sW k;exact .inl (.inl ⟨y.name,w,e⟩)
 ·have C:∃w,q.path=a++x.name::w:=by
   have:q∈zk a [x]:=by rw[xd];simpa using m
   obtain⟨z,J,w,e⟩:=sW this
   simp_all
  obtain⟨w,H⟩:=C;obtain⟨y,E,w',D⟩:=sW k;exact .inl (.inr ⟨a,x.name,y.name,w,w',H,D,s.1 y E⟩)
structure dH(r:GM):Prop where
 path:sO r.path=true
 leaf:w7 r.leaf=true
 ok:fv r.leaf
theorem zig:∀(t:List GC)(d:Nat) (a:List zp),Small t->gX d t=true->ak a=d->a.all fL=true->∀r∈zk a t,dH r:=by
 have key:∀(t:List GC),(∀(d:Nat)(a:List zp),Small t->tv d t=true->d<3->ak a=d->a.all fL=true->∀r∈zk a t,dH r):=by
  refine qZ (λ_ _ _ _ _ _ _ _ h=>by simp[zk]at h) ?_;intro x r C p d a hs y hd u z q g;rw[xd,jf,ma,<- xd]at g;simp only[tv,tx]at y;obtain⟨k,s⟩:=y;rcases g with g|g
  ·rw[rQ]at k;simp only[tx]at k;obtain⟨⟨⟨D,_⟩,j⟩,v⟩:=k;have o:(a++[x.name]).all fL=true:=by simp_all
   rw[wq,ma,lH]at g;rcases g with⟨l,m,rfl⟩|g
   ·refine⟨?_,(tO v).2 l m,hs.leaf (by simp) m⟩;simp only[sO,o,k9,oA,nr,lC,tx,so];omega
   ·simp only[gX,tx,lN,List.isEmpty_iff,so]at j;rcases j.1.1 with h0|h0
    ·rw[h0]at g;simp[zk]at g
    ·exact C (d+1) _ (hs.wa (by simp)) j.2 h0 (by simp[u]) o q g
  ·exact p d a hs.tail s hd u z q g
 intro t d a hs w u z r p;simp only[gX,tx,lN,List.isEmpty_iff,so]at w;rcases w.1.1 with h0|h0
 ·rw[h0]at p;simp[zk]at p
 ·grind
theorem zb8(d:Nat):gX d []=true:=by rfl
theorem ziD(k:Int):∃v,u7 k=aa v:=by unfold u7;split<;>exact⟨_,rfl⟩
theorem zoC{p:List zp}(h:sO p=true):p≠[]:=by
 rintro rfl
 simp[sO]at h
theorem zq2{p:List zp}{f:zp->Option Bool}(j:∀x,f x=aa (fL x)):(lp (zf (λ(_:Nat)(g:zp) (_:Unit)=>(((f g).bind λv9=>(if(!v9)=true then aa (.ret false)else aa (.gV ()))):Option (Out _ Unit))) p 0 ()) λ(_:Unit)=>aa ((ae ((ak (p):Int) >= (1:Int)))&&(ae ((ak (p):Int)<=(3:Int)))))=aa (sO p):=by
 rw[zc6 fL false _ _ (λi x _=>by grind),zxe,zyl];unfold sO;cases h:p.all fL<;>simp
theorem zcR(p:List zp):pj p=aa (sO p):=zq2 zad
def xF(k:Int):Int:=if k=1 then 1 else if k=2 then 2 else if k=3 \/ k=4 then 3 else if k=5 then 4 else 0
def opB(o:GN):Bool:=ae (1<=o.kind)&&ae (o.kind<=5)&&sO o.path&&ae (ak o.text<=40)&&ae (ak o.gZ<=64) &&
 (if o.kind=1 then ae (-1000000<=o.n)&&ae (o.n<=1000000)&&(o.text==[])&&ae (ak o.gZ=0)
   else ae (o.n=0)&&(ae (o.kind=4) || ae (ak o.gZ=0))&&(o.gZ.all fa&&wG o.gZ))
theorem mi(k:Int):s7 k=aa (xF k):=by unfold s7 xF;grind
theorem zgX(k:Int):zek k=aa (xF k):=by
 unfold zek zk0 xF;by_cases h:k<1 \/ 5<k
 ·grind
 ·have g:¬(ae (k<1) || ae (k > 5))=true:=by simp;omega
  rw[n4 g];rcases(show k=1 \/ k=2 \/ k=3 \/ k=4 \/ k=5 by omega)with rfl|rfl|rfl|rfl|rfl<;>rfl
theorem sR(h0:0<i)(g:i<=9223372036854775807):(ai .i64 ((i:Int)-1))=((i-1:Nat):Int):=by rw[vj (by omega)];omega
theorem zis(o:GN):zaR o=aa (ae (o.n=0)&&ae (ak o.text<=40)&&ae (ak o.gZ<=64)&&(o.gZ.all fa&&wG o.gZ)):=by
 unfold zaR;by_cases hc:o.n≠0 \/ 40<(ak o.text) \/ 64<(ak o.gZ)
 ·grind
 ·have h:¬((o.n != 0 || ae ((ak (o.text):Int) > 40)) || ae ((ak (o.gZ):Int) > 64))=true:=by simp;omega
  rw[n4 h,zaq]
  ·simp_all
  ·intro i x m;have hi:i<(ak o.gZ):=(tu.1 m).1;simp only[rq,tb];by_cases h0:i=0
   ·subst h0;cases hd:fa x<;>simp[zN,yG,hd]
   ·have k:ae ((i:Int) > 0)=true:=by simp;omega
    have g:=sR (i:=i) (by omega) (by omega);rw[g,o5];have j:yG o.gZ i x=w6 (o.gZ.getD (i-1) af) x:=by unfold yG;rw[lL h0];rfl
    rw[ze (by omega),k,j];generalize o.gZ.getD (i-1) af=y;cases hd:fa x
    ·simp
    ·have e:=nS y x;simp only[vP,ly,lM,lq,jJ,oS,tb,e]
     grind
theorem zg4(h:ak ds=0):(ds.all fa&&wG ds)=true:=by
 have:ds=[]:=lA h;subst this;rfl
theorem zxK{α:Type}(l:List α):((ak l:Int)==0)=ae (ak l=0):=by
 grind
theorem zoI(o:GN):zms o=aa (opB o):=by
 unfold zms zk0 opB;by_cases h:o.kind<1 \/ 5<o.kind
 ·grind
 ·have k:¬(ae (o.kind<1) || ae (o.kind > 5))=true:=by simp;omega
  rw[n4 k,zgY];have j:=zg4 (ds:=o.gZ);rcases(show o.kind=1 \/ o.kind=2 \/ o.kind=3 \/ o.kind=4 \/ o.kind=5 by omega)with g|g|g|g|g<;>rw[g]<;>
   simp only[zR,Int.toNat,tb,zeX,zfA,zck,zis,zxK]<;>generalize (o.gZ.all fa&&wG o.gZ)=R at j ⊢<;>cases hp:sO o.path<;>simp[g]<;>grind
theorem zii(o:GN):zaO o=aa (opB o):=by
 unfold zaO opB;rw[mi];simp only[tb,zcR];have C:=zg4 (ds:=o.gZ);by_cases h:o.kind<1 \/ 5<o.kind
 ·have D:(ae (1<=o.kind)&&ae (o.kind<=5))=false:=by rw[Bool.and_eq_false_iff];simp;omega
  have j:xF o.kind=0:=by unfold xF;grind
  grind
 ·have j:(xF o.kind==0)=false:=by unfold xF;grind
  have s:(ae (1<=o.kind)&&ae (o.kind<=5))=true:=by simp;omega
  by_cases hb:40<(ak o.text) \/ 64<(ak o.gZ)
  ·grind
  ·rw[zaq]
   ·have p:ae ((ak o.text:Int) > 40)=false:=lL (by omega);have w:ae ((ak o.gZ:Int) > 64)=false:=lL (by omega);have r:ae (ak o.text<=40)=true:=lJ (by omega);have u:ae (ak o.gZ<=64)=true:=lJ (by omega);have m:ae ((ak o.gZ:Int) > 0)=!ae (ak o.gZ=0):=by
     grind
    rw[j,s,p,w,r,u,m,zxK]
    grind
   ·intro i x z;have hi:i<(ak o.gZ):=(tu.1 z).1;simp only[ui,tb];by_cases h0:i=0
    ·subst h0;cases hd:fa x<;>simp[zN,yG]
    ·have v:ae ((i:Int) > 0)=true:=by simp;omega
     have k:=sR (i:=i) (by omega) (by omega);rw[k,o5,o5];have t:yG o.gZ i x=w6 (o.gZ.getD (i-1) af) x:=by unfold yG;rw[lL h0];rfl
     have g:o.gZ.getD i af=x:=by simp_all
     rw[ze (by omega),ze (by omega),v,t,g];generalize o.gZ.getD (i-1) af=y;cases hd:fa x
     ·simp
     ·simp only[vC,ly,lM,lq,jJ,oS,tb]
      grind
def yz(e:GJ):Bool:=fa e.z6&&ae (e.time >= 1)&&ae (e.time<=1099511627776)&&opB e.op
theorem uV(e:GJ):uk e=aa (yz e):=by
 unfold uk yz;rw[rq,zoI];simp only[tb]
 grind
theorem s8(e:GJ):vM e=aa (yz e):=by
 unfold vM yz;rw[ui,zii];simp only[tb]
 grind
theorem qb{ρ:Type}{f:σ->Option (Out ρ σ)}(m j:σ->Prop)(o:σ->Nat)(h:∀s,m s->(∃g,f s=aa (.brk g)/\j g) \/ ∃g,f s=aa (.gV g)/\m g/\o g<o s):∀(k:Nat)(s:σ),o s=k->m s->∃g,ya f s=aa (.inr g)/\j g:=by
 intro k
 induction k using Nat.strongRecOn with
 |_ k ih =>
  intro s p hi;rw[yK]
  grind
theorem bL{q:GE->Bool}{del:GE->Option Bool}:∀(L:List GE)(n:Nat),(∀x∈L,del x=aa (q x)) ->
  (zf (λ(g:Nat)(j:GE) (_:Unit)=>(((del j).bind λm=>(if m=true then aa (.ret (g:Int))else aa (.gV ()))):Option (Out Int Unit))) L n ()=aa (.inr ())/\∀x∈L,q x=false) \/
  ∃A x B,L=A++x::B/\q x=true/\(∀y∈A,q y=false)/\zf (λ(g:Nat)(j:GE) (_:Unit)=>(((del j).bind λm=>(if m=true then aa (.ret (g:Int))else aa (.gV ()))):Option (Out Int Unit))) L n ()=aa (.inl ((n+ak A:Nat):Int))
 |[],n,_=>.inl ⟨rfl,by simp⟩
 |x::r,n,h=>by
  have k:=h x (by simp);cases hq:q x with
  |true=>exact .inr ⟨[],x,r,rfl,hq,by simp,by simp[zf,k,hq]⟩
  |false =>
   rcases bL r (n+1) (λy o=>h y (by simp[o]))with⟨e,p⟩|⟨A,y,B,rfl,s,p,e⟩
   ·refine .inl ⟨by simp only[zf,k,hq,tb];exact e,?_⟩
    simp_all
   ·refine .inr ⟨x::A,y,B,rfl,s,?_,?_⟩
    ·simp_all
    ·simp only[zf,k,hq,tb]
     grind
theorem xZ{a:Nat}(h:a<=16777216):ai .i64 ((a:Int)+1)=((a+1:Nat):Int):=zlB (lg (gB h) (by decide))
noncomputable def zuJ(del:GE->Option Bool)(n:Nat):Int×Int×(List GE)->Option (Out (List GE) (Int×Int×(List GE))):=λs1=>((zN (ak (s1.2.2)=n) ((if(ae (s1.2.1<((n:Nat):Int)))=true then((zR s1.2.2 s1.2.1).bind λy14=>((del y14).bind λv15=>(if(!v15)=true then((zR s1.2.2 s1.1).bind λy17=>aa (.gV ((ai .i64 (s1.1+(1:Int))),(ai .i64 (s1.2.1+(1:Int))),(s1.2.2.set s1.1.toNat y14))))else aa (.gV (s1.1,(ai .i64 (s1.2.1+(1:Int))),s1.2.2)))))else aa (.brk (s1.1,s1.2.1,s1.2.2))))))
theorem zr0(h:List GE)(g:GE->Option Bool):vg h g=((yp h g).bind λm=>(if(m==(-1:Int))=true then aa h else(lp (ya (zuJ g (ak h)) (m,(ai .i64 (m+(1:Int))),h)) λ(j:Int×Int×(List GE))=>(zN (0<=j.1/\j.1<=((ak h:Nat):Int)) (((fP (j.2.2.take j.1.toNat++List.replicate ((ak h)-j.1.toNat) bQ) (0:Int) j.1).bind λk=>aa k)))))):=rfl
theorem zpq{q:GE->Bool}(w:ak L0<=16777216)(h:∀x∈L0,del x=aa (q x)){a0 b0:Nat}(C:a0<b0)(z:b0<=ak L0)(F:L0.take a0=(L0.take b0).filter λx=>!q x) :
  ∃m,ya (zuJ del (ak L0)) ((a0:Int),(b0:Int),L0)=aa (.inr m)/\∃a:Nat,m.1=(a:Int)/\a<(ak L0)/\m.2.2.length=(ak L0)/\m.2.2.take a=L0.filter λx=>!q x:=by
 refine qb (f:=zuJ del (ak L0)) (λs=>∃a b:Nat,s.1=(a:Int)/\s.2.1=(b:Int)/\a<b/\b<=(ak L0)/\s.2.2.length=(ak L0)/\s.2.2.take a=(L0.take b).filter (λx=>!q x)/\s.2.2.drop b=L0.drop b)
  _ (λs=>(ak L0)-s.2.1.toNat) ?_ _ _ rfl ⟨a0,b0,rfl,rfl,C,z,rfl,F,rfl⟩
 rintro⟨i,j,M⟩ ⟨a,b,u,y,H,v,r,t,o⟩
 simp only at u y r t o;subst u y;simp only[zuJ,zN,r,oS];by_cases hb:b<(ak L0)
 ·right;have E:M[b]?=L0[b]?:=by
   have:=congrArg (λl=>l[0]?) o
   grind
  have D:L0[b]?=aa L0[b]:=rk hb;have hd:=h L0[b] (jF hb);have k:zR M (b:Int)=aa L0[b]:=by simp[zR,E]
  have g:zR M (a:Int)=aa (M[a]'(by omega)):=by simp[zR]
  rw[nK (by simp;omega),k,tb,hd,tb];have p:L0.take (b+1)=L0.take b++[L0[b]]:=by simp_all
  cases hq:q L0[b]with
  |true =>
   refine⟨((a:Int),((b+1:Nat):Int),M),by simp[xZ (lg v w)],⟨a,b+1,rfl,rfl,by omega,by omega,r,?_,?_⟩,by simp;omega⟩
   ·grind
   ·have:=congrArg (λl=>l.drop 1) o;simpa[kf]using this
  |false =>
   refine⟨(((a+1:Nat):Int),((b+1:Nat):Int),M.set a L0[b]),by simp[g,xZ (lg v w),xZ (show a<=16777216 by omega)],⟨a+1,b+1,rfl,rfl,by omega,by omega,by simp_all,?_,?_⟩,by simp;omega⟩
   ·rw[l6,jS (ob _),t,p,kK,li (by omega)];simp[hq]
   ·have:=congrArg (λl=>l.drop 1) o;rw[jT (by omega)];simpa[kf]using this
 ·left;have G:b=ak L0:=by omega
  rw[n4 (by simp;omega)]
  grind
theorem zlk{q:GE->Bool}(r:ak L0<=16777216)(h:∀x∈L0,del x=aa (q x)):vg L0 del=aa (L0.filter λx=>!q x):=by
 rw[zr0];unfold yp;rcases bL L0 0 h with⟨e,k⟩|⟨A,x,B,p,o,k,e⟩
 ·rw[e];simp only[lp,tb,lG,oS];rw[kq.2 (λx w=>by simp_all)]
 ·rw[e];have j:ak L0=ak A+1+ak B:=by grind
  simp only[lp,tb,l8];rw[n4 (by simp_all),xZ (by omega)];obtain⟨g,s,a,m,z,t,u⟩:=zpq r h (a0:=ak A) (b0:=ak A+1) (by omega) (by omega) (by
   rw[p,hY,kx,lh (by omega),show(ak A)+1-(ak A)=1 by omega,kK];simp only[jR,gM,kT,o,List.filter_nil];rw[kq.2 (λy v=>by simp_all)];simp)
  rw[s];simp only[zN];rw[nK (by omega),m];have hs:fP (g.2.2.take ((a:Int)).toNat++List.replicate ((ak L0)-((a:Int)).toNat) bQ) (0:Int) (a:Int)=aa (g.2.2.take a):=by
   unfold fP
   grind
  simp_all

theorem eH:∀(a b:List UInt8),a=b \/ Op.bytesLess a b=true \/ Op.bytesLess b a=true
 |[],[]=>.inl rfl
 |[],_::_=>.inr (.inl rfl)
 |_::_,[]=>.inr (.inr rfl)
 |x::a,y::b=>by
  by_cases h:x=y
  ·subst h;rcases eH a b with rfl|h|h
   ·simp_all
   ·exact .inr (.inl (by simp[Op.bytesLess,h]))
   ·exact .inr (.inr (by simp[Op.bytesLess,h]))
  ·have g:x.toNat≠y.toNat:=λe=>h (UInt8.toNat_inj.1 e);rcases Nat.lt_or_gt_of_ne g with h|h
   ·exact .inr (.inl (by simp[Op.bytesLess,iS,h]))
   ·exact .inr (.inr (by simp[Op.bytesLess,iS,h]))
def cU:List zp->List zp->Bool
 |_,[]=>false
 |[],_::_=>true
 |x::a,y::b=>Op.bytesLess x y || (ae (x=y)&&cU a b)
theorem zmn:∀a,cU a a=false
 |[]=>rfl
 |x::a=>by simp[cU,um,zmn a]
theorem zgU:∀{a b c:List zp},cU a b=true->cU b c=true->cU a c=true
 |_,[],_,h,_=>by cases ‹List zp›<;>simp[cU]at h
 |_,_::_,[],_,h=>by simp[cU]at h
 |[],_::_,_::_,_,_=>rfl
 |x::a,y::b,z::c,j,g=>by
  simp only[cU,lN,tx,so]at *;rcases j with j|⟨rfl,j⟩
  ·rcases g with g|⟨rfl,g⟩
   ·exact .inl (x8 j g)
   ·simp_all
  ·rcases g with g|⟨rfl,g⟩
   ·simp_all
   ·exact .inr ⟨rfl,zgU j g⟩
theorem cZ:∀{a b:List zp},cU a b=true->zmo a b
 |_,[],h=>by cases ‹List zp›<;>simp[cU]at h
 |[],y::b,_=>.inl ⟨y,b,rfl⟩
 |x::a,y::b,h=>by
  simp only[cU,lN,tx,so]at h;rcases h with h|⟨rfl,h⟩
  ·exact .inr ⟨[],x,y,a,b,rfl,rfl,h⟩
  ·rcases cZ h with⟨z,q,rfl⟩|⟨p,u,v,a',g,rfl,rfl,j⟩
   ·exact .inl ⟨z,q,rfl⟩
   ·exact .inr ⟨x::p,u,v,a',g,rfl,rfl,j⟩
theorem zoB{a b:List zp}(h:zmo a b):cU a b=true:=by
 rcases h with⟨y,q,rfl⟩|⟨p,x,y,a',g,rfl,rfl,h⟩
 ·induction a with
  |nil=>rfl
  |cons x a ih=>simp[cU,ih]
 ·induction p with
  |nil=>simp[cU,h]
  |cons x a ih=>simp[cU,ih]
def Key:=List zp×Int
def bO(a b:Key):Bool:=cU a.1 b.1 || (ae (a.1=b.1)&&ae (a.2<b.2))
theorem zde(a:Key):bO a a=false:=by simp[bO,zmn]
theorem zmW{a b c:Key}(h:bO a b=true)(g:bO b c=true):bO a c=true:=by
 simp only[bO,lN,tx,so]at *;rcases h with h|⟨j,h⟩
 ·rcases g with g|⟨k,g⟩
  ·exact .inl (zgU h g)
  ·simp_all
 ·grind
def xu(r:GM):Key:=(r.path,r.leaf.x4)
theorem zcd{α:Type}{c:α->α->Option Int}{cf:α->α->Int}{lt:α->α->Prop}{L R:List α}(F:∀x∈L,∀y∈L,c x y=aa (cf x y))(u:∀x y,cf x y<0↔lt x y)(o:∀x,¬lt x x)(tr:∀x y z,lt x y->lt y z->lt x z)
  (w:∀x∈L,∀y∈L,x=y \/ lt x y \/ lt y x) (s:R.Perm L) (hs:R.Pairwise lt) (C:ak L<=lim):qT c L=aa R:=by
 unfold qT;rw[nK (λx g y j=>by simp_all)];have hd:∀x∈L,∀y∈L,(c x y).getD 0<0↔lt x y:=λx g y j=>by simp_all
 have p:∀x y,lt x y->¬lt y x:=λx y m k=>o x (tr _ _ _ m k);have t:R.Pairwise λa b=>¬(c b a).getD 0<0:=by
  have:R.Pairwise λa b=>a∈L/\b∈L/\lt a b:=by
   refine gt ?_ hs
   grind
  refine this.imp ?_
  simp_all
 refine zjq ⟨λx g h=>o x ((hd x g x g).1 h),λx y z g j r m k=>(hd x g z r).2 (tr _ _ _ ((hd x g y j).1 m) ((hd y j z r).1 k)),λx y z g j r m k E=>?_⟩ C ⟨s,t⟩ ?_
 ·grind
 ·rintro M ⟨D,v⟩
  refine pM (D.trans s.symm) v t λx y g j m k=>?_
  grind
theorem zgj:∀{a b:List UInt8},Op.bytesLess b a=true->0<Lib.compareBytes a b
 |[],b,h=>by cases b<;>simp[Op.bytesLess]at h
 |_::_,[],_=>by simp[Lib.compareBytes]
 |x::a,y::b,h=>by
  simp only[Op.bytesLess,lN,tx,so,jo]at h;rcases h with h|⟨rfl,h⟩
  ·have j:y.toNat<x.toNat:=iS.1 h;have g:¬x<y:=λe=>by grind
   simp[Lib.compareBytes,h,g]
  ·have:=zgj h;simp[Lib.compareBytes,this]
def aX(s:zp)(A:List GC):Prop:=∀y∈A,Op.bytesLess y.name s=true
def aY(s:zp)(B:List GC):Prop:=∀y∈B,Op.bytesLess s y.name=true
theorem di{t:List GC}(s:zp)(h:bj t=true):(∃A B,t=A++B/\aX s A/\aY s B) \/ ∃A x B,t=A++x::B/\x.name=s/\aX s A/\aY s B:=by
 rw[t7]at h
 induction t with
 |nil=>exact .inl ⟨[],[],rfl,λ_ h=>by simp at h,λ_ h=>by simp at h⟩
 |cons x t ih =>
  obtain⟨o,m⟩:=ld.1 h;rcases eH x.name s with e|e|e
  ·exact .inr ⟨[],x,t,rfl,e,λ_ h=>by simp at h,λy g=>by simp_all⟩
  ·rcases ih m with⟨A,B,rfl,k,j⟩|⟨A,z,B,rfl,p,k,j⟩
   ·refine .inl ⟨x::A,B,rfl,λy g=>?_,j⟩;rcases lx.1 g with rfl|g
    ·exact e
    ·exact k y g
   ·refine .inr ⟨x::A,z,B,rfl,p,λy g=>?_,j⟩
    grind
  ·refine .inl ⟨[],x::t,rfl,λ_ h=>by simp at h,λy g=>?_⟩;rcases lx.1 g with rfl|g
   ·exact e
   ·exact x8 e (o y g)
theorem zi8{A B:List GC}{s:zp}(r:ak (A++B)<=16777216)(k:aX s A)(h:aY s B):zg (A++B) s (λj p=>we j p)=aa ((ak A:Int),false):=by
 rw[zuk (c:=ak A) r (by simp) λi m hi=>⟨_,zcs m s,λg=>by
   rw[ol g]at hi;exact c4.2 (k m (lc hi)),λg=>by
   rw[pa g]at hi;exact gT (zgj (h m (lc hi)))⟩]
 cases B with
 |nil=>simp
 |cons y B =>
  have e:(A++y::B).getD (ak A) af=y:=by simp
  have:=zgj (h y (by simp));rw[nK (by simp),e,zcs];have o:(Lib.compareBytes y.name s==0)=false:=by simp;omega
  simp[o]
theorem zi7{A B:List GC}{x:GC}{s:zp}(r:ak (A++x::B)<=16777216)(hs:x.name=s)(k:aX s A)(p:aY s B):zg (A++x::B) s (λh o=>we h o)=aa ((ak A:Int),true):=by
 subst hs;rw[zuk (c:=ak A) r (by simp) λi m hi=>⟨_,zcs m x.name,λg=>by
   rw[ol g]at hi;exact c4.2 (k m (lc hi)),λg=>by
   rw[pa g]at hi;rcases lx.1 (lc hi)with rfl|j
   ·rw[zkt];exact kp _
   ·exact gT (zgj (p m j))⟩]
 have e:(A++x::B).getD (ak A) af=x:=by simp
 rw[nK (by simp),e,zcs,zkt];simp
noncomputable def zmM(n:Nat)(path1:List zp)(ff:Int)(l3:GE)(there4:Bool)(s1:zp×(List GE)×(List GC)):Option (List GC ⊕ ((List GE)×(List GC))):=((if(ae ((ak (path1):Int) > (1:Int)))=true then((fP path1 (1:Int) (ak (path1):Int)).bind λm20=>((wE n s1.2.2 m20 ff l3 there4).bind λv21=>aa (.inr (s1.2.1,v21))))else((xB s1.2.1).bind λv22=>((vg v22 (λx0=>zeQ x0 ff)).bind λv23=>(if there4=true then((zcv l3).bind λv25=>(zN (ak (v23)+ak (([v25]:List GE))<=lim) (((qT (λx y=>mC x y) (v23++([v25]:List GE))).bind λv27=>aa (.inr (v27,s1.2.2))))))else aa (.inr (v23,s1.2.2)))))):Option (_ ⊕ ((List GE)×(List GC))))
noncomputable def ziE(t0:List GC)(i:Int)(f:Bool)(nm:zp)(s2:(List GE)×(List GC)):Option (List GC):=((fP t0 (0:Int) i).bind λm28=>((yR m28).bind λv29=>(if(ae ((ai .i64 ((ak (s2.1):Int)+(ak (s2.2):Int))) > (0:Int)))=true then(zN (ak (v29)+ak (([(GC.mk nm s2.1 s2.2)]:List GC))<=lim) ((if f=true then((fP t0 (ai .i64 (i+(1:Int))) (ak (t0):Int)).bind λm35=>(zN (ak ((v29++([(GC.mk nm s2.1 s2.2)]:List GC)))+ak (m35)<=lim) (aa ((v29++([(GC.mk nm s2.1 s2.2)]:List GC))++m35))))else((fP t0 i (ak (t0):Int)).bind λm37=>(zN (ak ((v29++([(GC.mk nm s2.1 s2.2)]:List GC)))+ak (m37)<=lim) (aa ((v29++([(GC.mk nm s2.1 s2.2)]:List GC))++m37)))))))else(if f=true then((fP t0 (ai .i64 (i+(1:Int))) (ak (t0):Int)).bind λm40=>(zN (ak (v29)+ak (m40)<=lim) (aa (v29++m40))))else((fP t0 i (ak (t0):Int)).bind λm42=>(zN (ak (v29)+ak (m42)<=lim) (aa (v29++m42))))))))
theorem ziG(n:Nat)(t0:List GC)(g:List zp)(ff:Int)(o:GE)(h:Bool):wE (n+1) t0 g ff o h=((zR g (0:Int)).bind λt=>((zg t0 t (λp s=>we p s)).bind λj=>((zR g (0:Int)).bind λr=>(lp ((if j.2=true then((zR t0 j.1).bind λk=>aa (.inr (k.name,k.leaves,k.wa)))else aa (.inr (r,([]:List GE),([]:List GC)))):Option (_ ⊕ (zp×(List GE)×(List GC)))) λ(m:zp×(List GE)×(List GC))=>(lp (zmM n g ff o h m) λ(s2:(List GE)×(List GC))=>ziE t0 j.1 j.2 m.1 s2))))):=rfl
def tQ(k:Int)(l:GE)(there:Bool)(ls:List GE):List GE:=if there=true then ls.filter (λx=>ae (x.x4<k))++[l]++ls.filter (λx=>ae (k<x.x4))else ls.filter (λx=>!ae (x.x4=k))
theorem zlG(h:ls.Pairwise λx y=>x.x4<y.x4){x y:GE}(g:x∈ls)(j:y∈ls)(e:x.x4=y.x4):x=y:=by
 induction ls with
 |nil=>simp at g
 |cons z r ih =>
  obtain⟨m,k⟩:=ld.1 h
  grind
theorem zj4{k:Int}(g:there=true->l.x4=k)(h:ls.Pairwise λx y=>x.x4<y.x4):(tQ k l there ls).Pairwise λx y=>x.x4<y.x4:=by
 unfold tQ;split
 ·rename_i m;have g:=g m;rw[kg,kg];refine⟨⟨h.filter _,by simp,λx o y j=>?_⟩,h.filter _,λx o y j=>?_⟩
  ·simp_all
  ·grind
 ·grind
theorem zlS{k:Int}(m:l.x4=k)(r:ak ls<=16777216)(h:ls.Pairwise λx y=>x.x4<y.x4):qT (λx y=>mC x y) (ls.filter (λx=>!ae (x.x4=k))++[l])=aa (tQ k l true ls):=by
 have p:=jh (λx:GE=>!ae (x.x4=k)) ls;refine zcd (α:=GE) (cf:=λx y=>sM x.x4 y.x4) (lt:=λx y=>x.x4<y.x4) (λx _ y _=>by unfold mC;rw[zi1];rfl) (λx y=>by unfold sM;split<;>(try split)<;>omega) (λx h=>by omega) (λx y z o s=>by omega) ?_ ?_ (zj4 (λ_=>m) h) (yO (by simp;omega))
 ·intro x j y g;rcases Int.lt_trichotomy x.x4 y.x4 with e|e|e
  ·omega
  ·left;rcases ma.1 j with j|j<;>rcases ma.1 g with g|g
   ·exact zlG h (lQ.1 j).1 (lQ.1 g).1 e
   ·simp_all
   ·simp_all
   ·simp_all
  ·omega
 ·unfold tQ;rw[nK rfl];have o:(ls.filter (λx=>ae (x.x4<k))++ls.filter (λx=>ae (k<x.x4))).Perm (ls.filter λx=>!ae (x.x4=k)):=by
   have:=iK (λx:GE=>ae (x.x4<k)) (ls.filter λx=>!ae (x.x4=k));rw[jG,jG]at this;refine List.Perm.trans (.of_eq ?_) this;congr 1<;>refine jw λx _=>?_<;>rw[lI]<;>simp<;>omega
  grind
theorem zey{s:zp}{k:Int}{m:zp}{sb:List GC}(j:there=true->l.x4=k/\fv l)(g:ak ls<=16777216)(h:ls.Pairwise λx y=>x.x4<y.x4) :
  zmM n [s] k l there (m,ls,sb)=aa (.inr (tQ k l there ls,sb)):=by
 unfold zmM;have o:ae (((ak ([s]:List zp):Int)) > 1)=false:=rfl;have t:=jh (λx:GE=>!ae (x.x4=k)) ls;simp only[o,s5,mb];rw[mE (yO (by omega)),tb,zlk (q:=λx=>ae (x.x4=k)) g (λx _=>by rfl),tb];cases there with
 |false=>simp[tQ]
 |true =>
  obtain⟨r,p⟩:=j rfl;simp only[oS];rw[zsL p,tb,ze (yO (by simp;omega)),zlS r g h,tb]
theorem zhl{s a:zp}{r:List zp}{k:Int}{j:zp}{sb g:List GC}(o:ak (s::a::r)<=16777216)(h:wE n sb (a::r) k l there=aa g):zmM n (s::a::r) k l there (j,ls,sb)=aa (.inr (ls,g)):=by
 unfold zmM;have m:ae (((ak (s::a::r):Int)) > 1)=true:=lJ (by grind);simp only[m,oS];rw[pO ⟨by omega,by grind,kp _⟩,tb];have p:((s::a::r).take ((ak (s::a::r):Int)).toNat).drop (1:Int).toNat=a::r:=by rw[o5,j6];rfl
 simp_all
def bt(nm:zp)(ls:List GE)(sb:List GC):List GC:=if(ak ls)+ak sb=0 then []else [⟨nm,ls,sb⟩]
theorem mw{A B:List GC}{m:List GC}{k:zp}{sb:List GC}(j:ak m=if f=true then 1 else 0)(r:ak (A++m++B)<=16777216)(u:ak ls<=16777216)(t:ak sb<=16777217) :
  ziE (A++m++B) (ak A:Int) f k (ls,sb)=aa (A++bt k ls sb++B):=by
 simp only[oA]at r;unfold ziE;rw[pO ⟨kp _,by omega,by simp;omega⟩,tb];have p:((A++m++B).take ((ak A:Int)).toNat).drop (0:Int).toNat=A:=by simp
 rw[p,po (yO (by omega)),tb];have s:∀(c:List GC),ak c<=ak A+1->((if f=true then((fP (A++m++B) (ai .i64 ((ak A:Int)+(1:Int))) (ak (A++m++B):Int)).bind λh=>(zN (ak c+ak (h)<=lim) (aa (c++h))))else((fP (A++m++B) (ak A:Int) (ak (A++m++B):Int)).bind λg=>(zN (ak c+ak (g)<=lim) (aa (c++g))))):Option (List GC))=aa (c++B):=by
  intro c v;cases f with
  |true =>
   simp only[oS]at j ⊢;rw[vj (by omega),pO ⟨by omega,by simp;omega,kp _⟩,tb];have e:((A++m++B).take ((ak (A++m++B):Int)).toNat).drop ((ak A:Int)+1).toNat=B:=by
    rw[o5,j6,show((ak A:Int)+1).toNat=(ak (A++m)) by simp;omega,jZ]
   rw[e,ze (yO (by omega))]
  |false =>
   simp only[s5,mb]at j ⊢;obtain rfl:=lA j;rw[pO ⟨by omega,by simp;omega,kp _⟩,tb];have e:((A++[]++B).take ((ak (A++[]++B):Int)).toNat).drop ((ak A:Int)).toNat=B:=by
    grind
   rw[e,ze (yO (by omega))]
 unfold bt;have o:ai .i64 ((ak ls:Int)+(ak sb:Int))=(ak ls:Int)+(ak sb:Int):=vj (by omega);simp only[o];by_cases h0:ak ls+ak sb=0
 ·simp_all
 ·rw[n4 h0,nK (by simp;omega),ze (yO (by simp;omega))]
  grind

theorem zmF(h:ls.Pairwise λx y=>x.x4<y.x4)(k:∀l∈ls,w7 l=true):fR ls=true:=by
 unfold fR;rw[fg];intro i x g;have j:=k x (lc g);simp only[j,lq];rcases i with _|i
 ·rfl
 ·obtain⟨hi,rfl⟩:=tu.1 g;have:=lF.1 h i (i+1) (by omega) hi (by omega)
  grind
theorem ux(a:List zp)(A B:List GC):zk a (A++B)=zk a A++zk a B:=by rw[xd,xd,xd,jY]
theorem ek{a:List zp}{x:GC}{r:GM}:r∈pR a x↔(∃l∈x.leaves,r=⟨a++[x.name],l⟩) \/ r∈zk (a++[x.name]) x.wa:=by
 rw[wq,ma,lH]
 grind
theorem uR{a:List zp}{x:GC}:zk a [x]=pR a x:=by simp[zk]
theorem zne{a:List zp}{g:zp}{sb:List GC}{r:GM}:r∈zk a (bt g ls sb)↔(∃l∈ls,r=⟨a++[g],l⟩) \/ r∈zk (a++[g]) sb:=by
 unfold bt;split
 ·rename_i h;have k:ls=[]:=lA (by omega);have j:sb=[]:=lA (by omega);subst k j;simp[zk]
 ·rw[uR,ek]
theorem pW(t:List GC)(a b:List zp):ak (zk a t)=ak (zk b t):=by
 have h:=zce t a [];have g:=zce t b []
 simp_all
theorem qB:∀(t:List GC)(d:Nat),tv d t=true->ak t<=ak (zk [] t):=by
 refine qZ (λ_ _=>lV _) ?_;intro x r o m d j;simp only[tv,tx]at j;have p:=m d j.2;have g:=j.1;rw[rQ]at g;simp only[tx,gX,kb,Bool.and_eq_false_iff]at g;have k:=o (d+1) g.1.2.2;rw[show x::r=[x]++r from rfl,ux,uR,wq];simp only[oA,oa,nr,lC];rw[pW x.wa ([]++[x.name]) []];rcases g.1.1.2 with h|h
 ·cases hl:x.leaves with
  |nil=>rw[hl]at h;cases h
  |cons l ls=>simp only[nr];omega
 ·cases hl:x.wa with
  |nil=>rw[hl]at h;cases h
  |cons l ls=>rw[hl]at k;simp only[nr]at k;omega
theorem uD{t:List GC}{x:GC}(g:x∈t):ak x.leaves+ak (zk [] x.wa)<=ak (zk [] t):=by
 obtain⟨A,B,rfl⟩:=gj g;rw[ux,show x::B=[x]++B from rfl,ux,uR,wq];simp only[oA,oa];rw[pW x.wa ([]++[x.name]) []];omega
theorem zP{t:List GC}(h:gX d t=true):bj t=true/\∀x∈t,pV d x=true:=by
 simp only[gX,tx,xe,oB]at h
 simp_all
theorem zn6{t:List GC}(hd:d<3)(h:bj t=true)(g:∀x∈t,pV d x=true):gX d t=true:=by
 simp only[gX,tx,xe,oB,h,hd,jB,im,iY];exact g
theorem wT{x:GC}(h:pV d x=true):fL x.name=true/\gX (d+1) x.wa=true/\fR x.leaves=true:=by
 rw[rQ]at h
 simp_all
theorem znf{t:List GC}(s:zp)(h:gX d t=true)(y:ak (zk [] t)<=16777215):∃A m B f ls sb,t=A++m++B/\aX s A/\aY s B/\(ak m)=(if f=true then 1 else 0)/\zg t s (λu z=>we u z)=aa ((ak A:Int),f) /\
  ((if f=true then((zR t (ak A:Int)).bind λk=>aa (.inr (k.name,k.leaves,k.wa)))else aa (.inr (s,([]:List GE),([]:List GC)))):Option (List GC ⊕ (zp×(List GE)×(List GC))))=aa (.inr (s,ls,sb))/\gX (d+1) sb=true/\fR ls=true /\
  (ak ls)+ak (zk [] sb)<=(ak (zk [] t))/\∀a r,r∈zk a m↔(∃l∈ls,r=⟨a++[s],l⟩) \/ r∈zk (a++[s]) sb:=by
 obtain⟨w,p⟩:=zP h;have C:ak t<=16777215:=lg (qB t d (by rw[xe];exact oB.2 p)) y;rcases di s w with⟨A,B,rfl,j,g⟩|⟨A,x,B,rfl,o,j,g⟩
 ·refine⟨A,[],B,false,[],[],by simp,j,g,rfl,zi8 (by omega) j g,rfl,zb8 _,rfl,by simp[zk],λa r=>by simp[zk]⟩
 ·obtain⟨D,n2,v⟩:=wT (p x (by simp));refine⟨A,[x],B,true,x.leaves,x.wa,by simp,j,g,rfl,zi7 (by omega) o j g,?_,n2,v,uD (by simp),λa r=>?_⟩
  ·rw[nK rfl,zu (x:=x) (by simp),tb,o]
  ·rw[uR,ek,o]
theorem pQ{s:zp}{A:List GC}(h:∀y∈A,y.name≠s){a q:List zp}{r:GM}(g:r∈zk a A):r.path≠a++s::q:=by
 obtain⟨x,j,w,e⟩:=sW g
 simp_all
theorem aX.ne{s:zp}{A:List GC}(h:aX s A):∀y∈A,y.name≠s:=λy g=>zc8 (h y g)
theorem aY.ne{s:zp}{A:List GC}(h:aY s A):∀y∈A,y.name≠s:=λy g=>(zc8 (h y g)).symm
theorem zmJ{A m B:List GC}{s:zp}{sb:List GC}(hd:d<3)(h:gX d (A++m++B)=true)(p:aX s A)(o:aY s B)(hs:fL s=true)(v:fR ls=true)(t:gX (d+1) sb=true):gX d (A++bt s ls sb++B)=true:=by
 obtain⟨u,n⟩:=zP h;rw[t7,kg,kg]at u;have r:∀x∈A,∀y∈B,Op.bytesLess x.name y.name=true:=λx g y j=>x8 (p x g) (o y j);have k:∀x∈bt s ls sb,x=⟨s,ls,sb⟩/\¬(ak ls)+ak sb=0:=λx g=>by
  unfold bt at g
  simp_all
 refine zn6 hd ?_ ?_
 ·rw[t7,kg,kg];refine⟨⟨u.1.1,?_,λx g y j=>by rw[(k y j).1];exact p x g⟩,u.2.1,λx g y j=>?_⟩
  ·unfold bt;split<;>simp
  ·rcases ma.1 g with g|g
   ·simp_all
   ·rw[(k x g).1];exact o y j
 ·intro x g;rcases ma.1 g with g|g
  ·rcases ma.1 g with g|g
   ·simp_all
   ·obtain⟨rfl,h0⟩:=k x g;rw[rQ]
    grind
  ·simp_all
theorem zrN(s:zp)(ls:List GE)(sb:List GC):ak (bt s ls sb)<=1:=by unfold bt;split<;>simp
theorem eI{k:Int}:x∈tQ k l there ls↔(x∈ls/\x.x4≠k) \/ (there=true/\x=l):=by
 unfold tQ
 grind
theorem zev{k:Int}{l:GE}{there:Bool}(F:there=true->l.x4=k/\w7 l=true/\fv l):∀(p:List zp)(t:List GC) (d n:Nat),p≠[]->p.all fL=true->d+ak p<=3->gX d t=true->ak (zk [] t)<=16777215->(ak p)<n ->
  ∃t',wE n t p k l there=aa t'/\gX d t'=true/\(ak t')<=ak t+1/\∀a r,r∈zk a t'↔(r∈zk a t/\xu r≠(a++p,k)) \/ (there=true/\r=⟨a++p,l⟩)
 |[],_,_,_,h,_,_,_,_,_=>absurd rfl h
 |_::_,_,_,0,_,_,_,_,_,h=>by omega
 |s::q,t,d,n+1,_,hp,hd,ht,hw,hn=>by
  simp only[l7,tx,nr]at hp hd hn;obtain⟨A,m,B,f,ls,sb,rfl,G,E,M,I,J,u,C,K,v⟩:=znf s ht hw;have H:zR (s::q) (0:Int)=aa s:=rfl;obtain⟨y,X⟩:=tO C;have S:ak (A++m++B)<=16777215:=lg (qB _ d (by rw[xe];exact oB.2 (zP ht).2)) hw;have R:=λo g=>zrN s o g;have j:∀o g,ak (A++bt s o g++B)<=ak (A++m++B)+1:=λo g=>by
   grind
  rw[ziG,H,tb,I,tb,tb];simp only[];rw[J,yw];cases q with
  |nil =>
   rw[zey (λh=>⟨(F h).1,(F h).2.2⟩) (by omega) y,yw,mw M (by omega) (by
    have:ak (tQ k l there ls)<=ak ls+1:=by
     unfold tQ;split
     ·have w:=iK (λx:GE=>ae (x.x4<k)) ls;have D:=w.length_eq;have Y:ak (ls.filter λx=>ae (k<x.x4))<=ak (ls.filter λx=>!ae (x.x4<k)):=by
       have:(ls.filter λx=>ae (k<x.x4))=(ls.filter λx=>!ae (x.x4<k)).filter (λx=>ae (k<x.x4)):=by
        rw[jG];refine jw λx _=>?_;rw[lI];simp;omega
       grind
      grind
     ·grind
    omega) (by have:=qB sb (d+1) (by rw[xe];exact oB.2 (zP u).2);omega)]
   refine⟨_,rfl,zmJ (by omega) ht G E hp.1 (zmF (zj4 (λh=>(F h).1) y) λx z=>?_) u,j _ _,λa r=>?_⟩
   ·rcases eI.1 z with h|⟨h,rfl⟩
    ·simp_all
    ·simp_all
   ·simp only[ux,ma,zne,v];have N:r∈zk a A->xu r≠(a++[s],k):=λh e=>pQ G.ne h (congrArg Prod.fst e);have W:r∈zk a B->xu r≠(a++[s],k):=λh e=>pQ E.ne h (congrArg Prod.fst e);have Q:r∈zk (a++[s]) sb->xu r≠(a++[s],k):=λh e=>by
     have:=(nk sb _ r h).1;rw[show r.path=a++[s]from congrArg Prod.fst e]at this;omega
    constructor
    ·rintro((h|⟨x,z,rfl⟩|h)|h)
     ·grind
     ·rcases eI.1 z with⟨w,D⟩|⟨w,rfl⟩
      ·exact .inl ⟨.inl (.inr (.inl ⟨x,w,rfl⟩)),λe=>D (congrArg Prod.snd e)⟩
      ·simp_all
     ·grind
     ·grind
    ·rintro(⟨(h|⟨x,z,rfl⟩|h)|h,D⟩|⟨w,rfl⟩)
     ·simp_all
     ·exact .inl (.inr (.inl ⟨x,eI.2 (.inl ⟨z,λe=>D (by rw[<- e];rfl)⟩),rfl⟩))
     ·simp_all
     ·simp_all
     ·exact .inl (.inr (.inl ⟨l,eI.2 (.inr ⟨w,rfl⟩),rfl⟩))
  |cons c q =>
   obtain⟨g,T,P,Z,U⟩:=zev F (c::q) sb (d+1) n (by simp) hp.2 (by omega) u (by omega) (by omega);have O:=qB sb (d+1) (by rw[xe];exact oB.2 (zP u).2);rw[zhl (by grind) T,yw,mw M (by omega) (by omega) (by omega)];refine⟨_,rfl,zmJ (by omega) ht G E hp.1 C P,j _ _,λa r=>?_⟩;simp only[ux,ma,zne,v,U];have V:a++[s]++c::q=a++s::c::q:=by simp
   rw[V];have N:r∈zk a A->xu r≠(a++s::c::q,k):=λh e=>pQ G.ne h (congrArg Prod.fst e);have W:r∈zk a B->xu r≠(a++s::c::q,k):=λh e=>pQ E.ne h (congrArg Prod.fst e);have Q:∀x,r=⟨a++[s],x⟩->xu r≠(a++s::c::q,k):=λx h e=>by
    rw[h]at e;have:=congrArg List.length (congrArg Prod.fst e);simp[xu]at this
   grind

theorem bR{r q:GM}:zqL r q↔bO (xu r) (xu q)=true:=by
 unfold zqL bO xu;simp only[lN,tx,so];constructor
 ·rintro(h|h)
  ·exact .inl (zoB h)
  ·simp_all
 ·rintro(h|h)
  ·exact .inl (cZ h)
  ·simp_all
theorem zd8{α:Type}{lt:α->α->Prop}(g:∀x,¬lt x x)(tr:∀x y z,lt x y->lt y z->lt x z):∀{L M:List α},L.Pairwise lt->M.Pairwise lt->(∀x,x∈L↔x∈M)->L=M
 |[],[],_,_,_=>rfl
 |[],y::M,_,_,h=>by have:=(h y).2 (by simp);simp at this
 |x::L,[],_,_,h=>by have:=(h x).1 (by simp);simp at this
 |x::L,y::M,h1,h2,h=>by
  obtain⟨o,j⟩:=ld.1 h1;obtain⟨m,k⟩:=ld.1 h2;have e:x=y:=by
   rcases lx.1 ((h x).1 (by simp))with e|r
   ·exact e
   ·rcases lx.1 ((h y).2 (by simp))with e|p
    ·simp_all
    ·grind
  subst e;rw[zd8 g tr j k λz=>?_]
  grind
theorem mR{α:Type}{P:α->Bool}{A B:List α}(h:∀x∈A,P x=true)(j:∀x∈B,P x=false):(A++B).filter P=A/\(A++B).filter (λx=>!P x)=B:=by
 rw[kK,kK,kq.2 h,kH.2 (λx g=>by simp_all),kH.2 (λx g=>by simp_all),kq.2 (λx g=>by simp_all)];simp
theorem zhQ{α:Type}{P:α->Bool}{A B C D:List α}(h:A++B=C++D)(k:∀x∈A,P x=true)(g:∀x∈B,P x=false)(m:∀x∈C,P x=true)(j:∀x∈D,P x=false):A=C/\B=D:=by
 obtain⟨a,b⟩:=mR k g;obtain⟨c,d⟩:=mR m j
 simp_all
theorem mf{a:List zp}{x:GC}{r:GM}(h:r∈pR a x):∃w,r.path=a++x.name::w:=by
 rw[<- uR]at h;obtain⟨y,g,w,e⟩:=sW h
 simp_all
theorem zcf{x:GC}(h:pV d x=true)(a:List zp):∃r L,pR a x=r::L:=by
 have g:=qB [x] d (by simp[tv,h]);rw[pW [x] [] a,uR]at g;cases e:pR a x with
 |nil=>rw[e]at g;simp at g
 |cons r L=>exact⟨r,L,rfl⟩
def zwR(n:Nat)(s:zp)(r:GM):Bool:=ae ((r.path.drop n).head?=aa s)
theorem zfY(a w:List zp)(s g:zp){r:GM}(h:r.path=a++g::w):zwR (ak a) s r=ae (g=s):=by
 unfold zwR;rw[h,jZ];simp
theorem zok:∀(t:List GC)(d:Nat) (a:List zp) (t':List GC),gX d t=true->gX d t'=true->zk a t=zk a t'->t=t':=by
 have key:∀(t:List GC)(d:Nat) (a:List zp) (t':List GC),(∀x∈t,pV d x=true)->bj t=true->(∀x∈t',pV d x=true)->bj t'=true->zk a t=zk a t'->t=t':=by
  refine qZ ?_ ?_
  ·intro d a t' _ _ h _ e;cases t' with
   |nil=>rfl
   |cons y r =>
    obtain⟨q,L,m⟩:=zcf (h y (by simp)) a;rw[zk,zk,m]at e;simp at e
  ·intro x r Q O d a t' o D n2 u e;cases t' with
   |nil =>
    obtain⟨q,L,m⟩:=zcf (o x (by simp)) a;rw[zk,zk,m]at e;simp at e
   |cons y s =>
    rw[t7,ld]at D u;have e:pR a x++zk a r=pR a y++zk a s:=e;have k:x.name=y.name:=by
     obtain⟨q,L,m⟩:=zcf (o x (by simp)) a;obtain⟨S,L',G⟩:=zcf (n2 y (by simp)) a;have H:=e;rw[m,G]at H;injection H with K _;subst K;obtain⟨w,v⟩:=mf (a:=a) (x:=x) (r:=q) (by rw[m];simp);obtain⟨w',p⟩:=mf (a:=a) (x:=y) (r:=q) (by rw[G];simp)
     simp_all
    obtain⟨F,M⟩:=zhQ (P:=zwR (ak a) x.name) e
     (λq g=>by obtain⟨w,h⟩:=mf g;rw[zfY a w _ _ h];simp)
     (λq g=>by
      obtain⟨z,j,w,h⟩:=sW g;rw[zfY a w _ _ h];exact lL (zc8 (D.1 z j)).symm)
     (λq g=>by obtain⟨w,h⟩:=mf g;rw[zfY a w _ _ h,k];simp)
     (λq g=>by
      obtain⟨z,j,w,h⟩:=sW g;rw[zfY a w _ _ h,k];exact lL (zc8 (u.1 z j)).symm)
    have T:=O d a s (λz j=>o z (by simp[j])) ((t7 r).2 D.2) (λz j=>n2 z (by simp[j])) ((t7 s).2 u.2) M;rw[wq,wq,<- k]at F;obtain⟨N,C⟩:=zhQ (P:=λq=>ae (ak q.path=ak a+1)) F
     (λq g=>by grind)
     (λq g=>by have:=(nk _ _ q g).1;simp at this;exact lL (by omega))
     (λq g=>by grind)
     (λq g=>by have:=(nk _ _ q g).1;simp at this;exact lL (by omega))
    have J:x.leaves=y.leaves:=by
     have:=congrArg (List.map (·.leaf)) N;simpa[kY,ig]using this
    obtain⟨_,E,_⟩:=wT (o x (by simp));obtain⟨_,I,_⟩:=wT (n2 y (by simp));have R:=Q (d+1) (a++[x.name]) y.wa (zP E).2 (zP E).1 (zP I).2 (zP I).1 C;cases x;cases y
    simp_all
 intro t d a t' v p e;exact key t d a t' (zP v).2 (zP v).1 (zP p).2 (zP p).1 e
theorem tJ{t:List GC}(h:gX d t=true)(a:List zp):(zk a t).Pairwise λr q=>bO (xu r) (xu q)=true:=by
 have:=zqJ t d a (zP h).1 (by rw[xe];exact oB.2 (zP h).2);exact this.imp λh=>bR.1 h
theorem zfp{t t':List GC}(j:gX 0 t=true)(g:gX 0 t'=true)(h:∀r,r∈zk [] t↔r∈zk [] t'):t=t' :=
 zok t 0 [] t' j g (zd8 (lt:=λr q=>bO (xu r) (xu q)=true) (λx h=>by rw[zde]at h;cases h) (λ_ _ _=>zmW) (tJ j []) (tJ g []) h)
theorem zd7{α:Type}{key:α->Key}{L:List α}(h:L.Pairwise λr q=>bO (key r) (key q)=true){x y:α}(p:x∈L)(s:y∈L)(e:key x=key y):x=y:=by
 induction L with
 |nil=>simp at p
 |cons z r ih =>
  obtain⟨o,t⟩:=ld.1 h;rcases lx.1 p with k|g<;>rcases lx.1 s with m|j
  ·rw[k,m]
  ·have:=o y j;rw[<- k,e,zde]at this;cases this
  ·have:=o x g;rw[<- m,e,zde]at this;cases this
  ·simp_all

theorem dp{α:Type}{q:α->Bool}{del:α->Option Bool}:∀(L:List α)(n:Nat),(∀x∈L,del x=aa (q x)) ->
  (zf (λ(g:Nat)(j:α) (_:Unit)=>(((del j).bind λm=>(if m=true then aa (.ret (g:Int))else aa (.gV ()))):Option (Out Int Unit))) L n ()=aa (.inr ())/\∀x∈L,q x=false) \/
  ∃A x B,L=A++x::B/\q x=true/\(∀y∈A,q y=false)/\zf (λ(g:Nat)(j:α) (_:Unit)=>(((del j).bind λm=>(if m=true then aa (.ret (g:Int))else aa (.gV ()))):Option (Out Int Unit))) L n ()=aa (.inl ((n+ak A:Nat):Int))
 |[],n,_=>.inl ⟨rfl,by simp⟩
 |x::r,n,h=>by
  have k:=h x (by simp);cases hq:q x with
  |true=>exact .inr ⟨[],x,r,rfl,hq,by simp,by simp[zf,k,hq]⟩
  |false =>
   rcases dp r (n+1) (λy o=>h y (by simp[o]))with⟨e,p⟩|⟨A,y,B,rfl,s,p,e⟩
   ·refine .inl ⟨by simp only[zf,k,hq,tb];exact e,?_⟩
    simp_all
   ·refine .inr ⟨x::A,y,B,rfl,s,?_,?_⟩
    ·simp_all
    ·simp only[zf,k,hq,tb]
     grind
def ztI:GC:=GC.mk ([]:zp) ([]:List GE) ([]:List GC)
def fx(t:List GC)(s:zp):Option GC:=t.find? λx=>x.name==s
theorem nB(t:List GC)(s:zp):xY t s=aa (match fx t s with|some x=>(x,true)|none=>(ztI,false)):=by
 unfold xY ww;rcases dp (q:=λx:GC=>x.name==s) (del:=λg=>ru g s) t 0 (λx _=>rfl)with⟨e,h⟩|⟨A,x,B,rfl,k,j,e⟩
 ·rw[e];have:fx t s=none:=js.2 λx m=>by simp_all
  rw[this];rfl
 ·rw[e];have:fx (A++x::B) s=aa x:=by
   unfold fx
   grind
  rw[this];simp only[lp,tb,l8];rw[n4 (by simp),zu (x:=x) (by simp)];rfl
def qa:List GC->List zp->Option GC
 |_,[]=>none
 |t,[s]=>fx t s
 |t,s::c::q=>(fx t s).bind λx=>qa x.wa (c::q)
noncomputable def tlF:Nat->zp->(List GC)×Bool×zp×(List GE)×(List GC)->Option (Out ((GE×Bool) ⊕ (Bool×zp×(List GE)×(List GC))) ((List GC)×Bool×zp×(List GE)×(List GC))):=(λ(_:Nat)(x2:zp) (s2:(List GC)×Bool×zp×(List GE)×(List GC))=>(((xY s2.1 x2).bind λv47=>(if(!v47.2)=true then aa (.brk (s2.1,v47.2,v47.1.name,v47.1.leaves,v47.1.wa))else aa (.gV (v47.1.wa,v47.2,v47.1.name,v47.1.leaves,v47.1.wa))))))
noncomputable def tlR(ff:Int)(s1:Bool×zp×(List GE)×(List GC)):Option (GE×Bool):=((yp s1.2.2.1 (λx0=>sS x0 ff)).bind λv49=>((if(((!s1.1) || (ae (v49<(0:Int))))==false)=true then u7 ff else aa af).bind λv50=>(if(((!s1.1) || (ae (v49<(0:Int)))) || (v50.x4==(0:Int)))=true then((u7 ff).bind λv52=>aa (v52,false))else((zR s1.2.2.1 v49).bind λy53=>((yN y53.z8).bind λv54=>((ym y53.y4).bind λv55=>aa ((GE.mk y53.x4 y53.n y53.time y53.z6 y53.text v54 v55),true)))))))
theorem zqB(t0:List GC)(g:List zp)(ff:Int):uO t0 g ff=(lp ((lp (zf tlF g 0 (t0,(ae ((ak (g):Int) > (0:Int))),([]:zp),([]:List GE),([]:List GC))) λ(s2:(List GC)×Bool×zp×(List GE)×(List GC))=>aa (.inr (s2.2.1,s2.2.2.1,s2.2.2.2.1,s2.2.2.2.2))):Option ((GE×Bool) ⊕ (Bool×zp×(List GE)×(List GC)))) (tlR ff)):=rfl
theorem zfd:∀(p:List zp)(n:Nat) (t:List GC) (z:Bool×zp×(List GE)×(List GC)),p≠[] ->
  match qa t p with
  |some x=>zf tlF p n (t,z)=aa (.inr (x.wa,true,x.name,x.leaves,x.wa))
  |none=>∃u,zf tlF p n (t,z)=aa (.inr (u,false,([]:zp),([]:List GE),([]:List GC)))
 |[],_,_,_,h=>absurd rfl h
 |[s],n,t,z,_=>by
  simp only[qa,zf,tlF,nB,tb];cases fx t s with
  |none=>exact⟨t,rfl⟩
  |some x=>rfl
 |s::c::q,n,t,z,_=>by
  have g:=λu z=>zfd (c::q) (n+1) u z (by simp);simp only[qa];cases e:fx t s with
  |none=>exact⟨t,by rw[zf];simp only[tlF,nB,e,tb];rfl⟩
  |some x =>
   have j:tlF n s (t,z)=aa (.gV (x.wa,true,x.name,x.leaves,x.wa)):=by simp only[tlF,nB,e,tb];rfl
   have:=g x.wa (true,x.name,x.leaves,x.wa);rw[zf,j,tb];omega
theorem cC{t:List GC}(s:zp)(h:bj t=true):(fx t s=none/\∀y∈t,y.name≠s) \/ ∃A x B,t=A++x::B/\fx t s=aa x/\x.name=s/\(∀y∈A,y.name≠s)/\∀y∈B,y.name≠s:=by
 rcases di s h with⟨A,B,rfl,j,k⟩|⟨A,x,B,rfl,m,j,k⟩
 ·left;have:∀y∈A++B,y.name≠s:=λy g=>by
   rcases ma.1 g with g|g
   ·exact j.ne y g
   ·exact k.ne y g
  exact⟨js.2 λy g=>by simp_all,this⟩
 ·refine .inr ⟨A,x,B,rfl,?_,m,j.ne,k.ne⟩;unfold fx;rw[List.find?_append,js.2 (λy g=>by simp[j.ne y g]),gL];simp[m]
theorem zl4:∀(p:List zp)(t:List GC) (d:Nat) (a:List zp) (l:GE),p≠[]->gX d t=true->(GM.mk (a++p) l∈zk a t↔∃x,qa t p=aa x/\l∈x.leaves)
 |[],_,_,_,_,h,_=>absurd rfl h
 |s::q,t,d,a,l,_,h=>by
  obtain⟨r,v⟩:=zP h;rcases cC s r with⟨e,o⟩|⟨A,x,B,rfl,e,u,y,m⟩
  ·have k:qa t (s::q)=none:=by cases q<;>simp[qa,e]
   rw[k];constructor
   ·intro g;exact(pQ o g rfl).elim
   ·simp_all
  ·rw[ux,show x::B=[x]++B from rfl,ux,uR,ma,ma,ek,u];have C:¬GM.mk (a++s::q) l∈zk a A:=λg=>pQ y g rfl;have F:¬GM.mk (a++s::q) l∈zk a B:=λg=>pQ m g rfl;have j:=(wT (v x (by simp))).2.1;cases q with
   |nil =>
    have D:¬GM.mk (a++[s]) l∈zk (a++[s]) x.wa:=λg=>by
     have:=(nk _ _ _ g).1;simp at this
    have k:qa (A++x::B) [s]=aa x:=e
    simp_all
   |cons c q =>
    have w:=zl4 (c::q) x.wa (d+1) (a++[s]) l (by simp) j;have z:a++[s]++c::q=a++s::c::q:=by simp
    rw[z]at w;have E:qa (A++([x]++B)) (s::c::q)=qa x.wa (c::q):=by
     show(fx (A++x::B) s).bind _=_;rw[e];rfl
    simp_all
theorem zl3{r:GM}{p:List zp}{k:Int}(h:xu r=(p,k)):r=GM.mk ([]++p) r.leaf:=by
 have e:r.path=p:=congrArg Prod.fst h;cases r;simp only at e;rw[e];rfl
theorem ziC{k:Int}(h:1<=k/\k<=4):∃v,u7 k=aa v/\v.x4=k:=by
 unfold u7;rw[n4 (by simp;omega)]
 simp_all
theorem zn7{k:Int}(s:zp):∃v,tlR k (false,s,([]:List GE),([]:List GC))=aa (v,false):=by
 obtain⟨v,e⟩:=ziD k;refine⟨v,?_⟩;unfold tlR yp;simp[zf,lp,e]
theorem cY{t:List GC}(h:gX 0 t=true)(z:∀r∈zk [] t,fv r.leaf){p:List zp}(E:p≠[]){k:Int}(J:1<=k/\k<=4) :
  (∃l,GM.mk p l∈zk [] t/\l.x4=k/\uO t p k=aa (l,true)) \/ ((∀r∈zk [] t,xu r≠(p,k))/\∃v,uO t p k=aa (v,false)):=by
 have m:=zfd p 0 t (ae ((ak p:Int) > 0),([]:zp),([]:List GE),([]:List GC)) E;have G:=λl=>zl4 p t 0 [] l E h;rw[zqB];cases e:qa t p with
 |none =>
  rw[e]at m;obtain⟨u,m⟩:=m;right;refine⟨λr j o=>?_,?_⟩
  ·have:=zl3 o
   grind
  ·rw[m];exact zn7 []
 |some x =>
  rw[e]at m;simp only at m;rw[m];simp only[yw];obtain⟨v0,N,n2⟩:=ziC J;unfold tlR yp;rcases dp (q:=λy:GE=>y.x4==k) (del:=λI=>sS I k) x.leaves 0 (λx _=>rfl)with⟨H,D⟩|⟨A,y,B,w,D,O,H⟩
  ·right;refine⟨λr j o=>?_,v0,?_⟩
   ·have:=zl3 o;rw[this]at j;obtain⟨P,s,K⟩:=(G _).1 j;rw[e]at s;injection s with s;subst s;have:=D _ K;simp only[beq_eq_false_iff_ne]at this;exact this (congrArg Prod.snd o)
   ·simp_all
  ·left;have M:y∈x.leaves:=by simp_all
   have g:GM.mk ([]++p) y∈zk [] t:=(G y).2 ⟨x,e,M⟩;have C:y.x4=k:=by simp_all
   have F:=z _ g;refine⟨y,g,C,?_⟩;simp only[];rw[H];simp only[lp,tb,l8];have c1:((!true) || (ae (((ak A:Nat):Int)<(0:Int))))=false:=by simp
   rw[c1];simp only[lG,oS,N,tb,lM,n2];rw[n4 (by simp;omega),w,zu (x:=y) (by simp),tb,uL (yO (jO F.z8)),tb,wV (yO (jO F.y4)),tb]

theorem zh4{α:Type}{lt:α->α->Prop}(g:∀x,¬lt x x):∀(L M:List α),L.Pairwise lt->(∀x∈L,x∈M)->ak L<=(ak M)
 |[],_,_,_=>lV _
 |x::L,M,h,hs=>by
  obtain⟨m,j⟩:=ld.1 h;obtain⟨A,B,rfl⟩:=gj (hs x (by simp));have:=zh4 g L (A++B) j λy k=>by
   grind
  grind
theorem vD{p:List zp}(h:sO p=true):p≠[]/\(ak p)<=3/\p.all fL=true:=by
 refine⟨zoC h,?_⟩;simp only[sO,tx,so]at h
 simp_all
theorem zmK{k:Int}{p:List zp}{t:List GC}(v:there=true->l.x4=k/\w7 l=true/\fv l)(C:sO p=true)(s:gX 0 t=true)(w:ak (zk [] t)<=16777215) :
  ∃t',zpm t p k l there=aa t'/\gX 0 t'=true/\(ak (zk [] t'))<=ak (zk [] t)+1/\∀r,r∈zk [] t'↔(r∈zk [] t/\xu r≠(p,k)) \/ (there=true/\r=⟨p,l⟩):=by
 obtain⟨y,E,o⟩:=vD C;obtain⟨t',H,m,_,g⟩:=zev v p t 0 (ak p+1) y o (by omega) s w (by omega);have g:=g [];simp only[ll]at g;refine⟨t',tf (ak p+1) λn G=>?_,m,?_,g⟩
 ·obtain⟨u,z,D,_,j⟩:=zev v p t 0 n y o (by omega) s w (by omega);have j:=j [];simp only[ll]at j;rw[z,zfp D m λr=>by rw[j,g]]
 ·have:=zh4 (lt:=λr q=>bO (xu r) (xu q)=true) (λx h=>by rw[zde]at h;cases h) (zk [] t') (zk [] t++[⟨p,l⟩]) (tJ m []) λr F=>by
   grind
  simp_all
theorem bK{q:GF->Bool}{del:GF->Option Bool}:∀(L:List GF)(n:Nat),(∀x∈L,del x=aa (q x)) ->
  (zf (λ(g:Nat)(j:GF) (_:Unit)=>(((del j).bind λm=>(if m=true then aa (.ret (g:Int))else aa (.gV ()))):Option (Out Int Unit))) L n ()=aa (.inr ())/\∀x∈L,q x=false) \/
  ∃A x B,L=A++x::B/\q x=true/\(∀y∈A,q y=false)/\zf (λ(g:Nat)(j:GF) (_:Unit)=>(((del j).bind λm=>(if m=true then aa (.ret (g:Int))else aa (.gV ()))):Option (Out Int Unit))) L n ()=aa (.inl ((n+ak A:Nat):Int))
 |[],n,_=>.inl ⟨rfl,by simp⟩
 |x::r,n,h=>by
  have k:=h x (by simp);cases hq:q x with
  |true=>exact .inr ⟨[],x,r,rfl,hq,by simp,by simp[zf,k,hq]⟩
  |false =>
   rcases bK r (n+1) (λy o=>h y (by simp[o]))with⟨e,p⟩|⟨A,y,B,rfl,s,p,e⟩
   ·refine .inl ⟨by simp only[zf,k,hq,tb];exact e,?_⟩
    simp_all
   ·refine .inr ⟨x::A,y,B,rfl,s,?_,?_⟩
    ·simp_all
    ·simp only[zf,k,hq,tb]
     grind
noncomputable def zuI(del:GF->Option Bool)(n:Nat):Int×Int×(List GF)->Option (Out (List GF) (Int×Int×(List GF))):=λs1=>((zN (ak (s1.2.2)=n) ((if(ae (s1.2.1<((n:Nat):Int)))=true then((zR s1.2.2 s1.2.1).bind λy14=>((del y14).bind λv15=>(if(!v15)=true then((zR s1.2.2 s1.1).bind λy17=>aa (.gV ((ai .i64 (s1.1+(1:Int))),(ai .i64 (s1.2.1+(1:Int))),(s1.2.2.set s1.1.toNat y14))))else aa (.gV (s1.1,(ai .i64 (s1.2.1+(1:Int))),s1.2.2)))))else aa (.brk (s1.1,s1.2.1,s1.2.2))))))
theorem zpo(h:List GF)(g:GF->Option Bool):x7 h g=((yA h g).bind λm=>(if(m==(-1:Int))=true then aa h else(lp (ya (zuI g (ak h)) (m,(ai .i64 (m+(1:Int))),h)) λ(j:Int×Int×(List GF))=>(zN (0<=j.1/\j.1<=((ak h:Nat):Int)) (((fP (j.2.2.take j.1.toNat++List.replicate ((ak h)-j.1.toNat) (GF.mk (0:Int) (GA.mk (GH.mk (0:Int) (0:Int)) (0:Int)) ([]:zp))) (0:Int) j.1).bind λk=>aa k)))))):=rfl
theorem zpp{del:GF->Option Bool}{L0:List GF}(w:ak L0<=16777216)(h:∀x∈L0,del x=aa (q x)){a0 b0:Nat}(C:a0<b0)(z:b0<=ak L0)(F:L0.take a0=(L0.take b0).filter λx=>!q x) :
  ∃m,ya (zuI del (ak L0)) ((a0:Int),(b0:Int),L0)=aa (.inr m)/\∃a:Nat,m.1=(a:Int)/\a<(ak L0)/\m.2.2.length=(ak L0)/\m.2.2.take a=L0.filter λx=>!q x:=by
 refine qb (f:=zuI del (ak L0)) (λs=>∃a b:Nat,s.1=(a:Int)/\s.2.1=(b:Int)/\a<b/\b<=(ak L0)/\s.2.2.length=(ak L0)/\s.2.2.take a=(L0.take b).filter (λx=>!q x)/\s.2.2.drop b=L0.drop b)
  _ (λs=>(ak L0)-s.2.1.toNat) ?_ _ _ rfl ⟨a0,b0,rfl,rfl,C,z,rfl,F,rfl⟩
 rintro⟨i,j,M⟩ ⟨a,b,u,y,H,v,r,t,o⟩
 simp only at u y r t o;subst u y;simp only[zuI,zN,r,oS];by_cases hb:b<(ak L0)
 ·right;have E:M[b]?=L0[b]?:=by
   have:=congrArg (λl=>l[0]?) o
   grind
  have D:L0[b]?=aa L0[b]:=rk hb;have hd:=h L0[b] (jF hb);have k:zR M (b:Int)=aa L0[b]:=by simp[zR,E]
  have g:zR M (a:Int)=aa (M[a]'(by omega)):=by simp[zR]
  rw[nK (by simp;omega),k,tb,hd,tb];have p:L0.take (b+1)=L0.take b++[L0[b]]:=by simp_all
  cases hq:q L0[b]with
  |true =>
   refine⟨((a:Int),((b+1:Nat):Int),M),by simp[xZ (lg v w)],⟨a,b+1,rfl,rfl,by omega,by omega,r,?_,?_⟩,by simp;omega⟩
   ·grind
   ·have:=congrArg (λl=>l.drop 1) o;simpa[kf]using this
  |false =>
   refine⟨(((a+1:Nat):Int),((b+1:Nat):Int),M.set a L0[b]),by simp[g,xZ (lg v w),xZ (show a<=16777216 by omega)],⟨a+1,b+1,rfl,rfl,by omega,by omega,by simp_all,?_,?_⟩,by simp;omega⟩
   ·rw[l6,jS (ob _),t,p,kK,li (by omega)];simp[hq]
   ·have:=congrArg (λl=>l.drop 1) o;rw[jT (by omega)];simpa[kf]using this
 ·left;have G:b=ak L0:=by omega
  rw[n4 (by simp;omega)]
  grind
theorem zll{del:GF->Option Bool}{L0:List GF}(r:ak L0<=16777216)(h:∀x∈L0,del x=aa (q x)):x7 L0 del=aa (L0.filter λx=>!q x):=by
 rw[zpo];unfold yA;rcases bK L0 0 h with⟨e,k⟩|⟨A,x,B,p,o,k,e⟩
 ·rw[e];simp only[lp,tb,lG,oS];rw[kq.2 (λx w=>by simp_all)]
 ·rw[e];have j:ak L0=ak A+1+ak B:=by grind
  simp only[lp,tb,l8];rw[n4 (by simp_all),xZ (by omega)];obtain⟨g,s,a,m,z,t,u⟩:=zpp r h (a0:=ak A) (b0:=ak A+1) (by omega) (by omega) (by
   rw[p,hY,kx,lh (by omega),show(ak A)+1-(ak A)=1 by omega,kK];simp only[jR,gM,kT,o,List.filter_nil];rw[kq.2 (λy v=>by simp_all)];simp)
  rw[s];simp only[zN];rw[nK (by omega),m];have hs:fP (g.2.2.take ((a:Int)).toNat++List.replicate ((ak L0)-((a:Int)).toNat) (GF.mk (0:Int) (GA.mk (GH.mk (0:Int) (0:Int)) (0:Int)) ([]:zp))) (0:Int) (a:Int)=aa (g.2.2.take a):=by
   unfold fP
   grind
  simp_all
theorem zpB{x:List GF}{s:GF}(z:ak x<=1048576)(t:∀i n,x[i]?=aa n->∃v,cmp n s=aa v/\(i<c->v<0)/\(c<=i->0<=v)) :
  ∀(k lo hi:Nat),hi-lo<=k->lo<=c->c<=hi->hi<=ak x->ya (ρ:=Int×Bool) (λ(g:Int×Int)=>((if(ae (g.1<g.2))=true then((zR x (ai .i64 ((Int.fdiv (ai .u64 ((ai .i64 (g.1+g.2)))) (2 ^ (min (1:Int).toNat (IntKind.bits .u64))))))).bind λu=>((cmp u s).bind λh=>(if(ae (h<(0:Int)))=true then aa (.gV ((ai .i64 ((ai .i64 ((Int.fdiv (ai .u64 ((ai .i64 (g.1+g.2)))) (2 ^ (min (1:Int).toNat (IntKind.bits .u64))))))+(1:Int))),g.2))else aa (.gV (g.1,(ai .i64 ((Int.fdiv (ai .u64 ((ai .i64 (g.1+g.2)))) (2 ^ (min (1:Int).toNat (IntKind.bits .u64)))))))))))else aa (.brk (g.1,g.2))):Option (Out _ (Int×Int)))) ((lo:Int),(hi:Int))=aa (.inr ((c:Int),(c:Int))):=by
 intro k
 induction k with
 |zero =>
  intro lo hi r j o hh;obtain rfl:lo=hi:=by omega
  obtain rfl:lo=c:=by omega
  rw[yK];simp
 |succ k ih =>
  intro lo hi r j o hh;rw[yK];by_cases hlt:lo<hi
  ·have hd:ae ((lo:Int)<(hi:Int))=true:=lJ (by omega);simp only[hd,oS,zfZ hlt (by omega)];have m:(lo+hi) / 2<(ak x):=by omega
   rw[su m,tb];obtain⟨v,w,p,y⟩:=t ((lo+hi) / 2) _ (rk m);rw[w,tb];by_cases hcm:(lo+hi) / 2<c
   ·rw[lJ (p hcm),nK rfl];simp only;have e:ai .i64 ((((lo+hi) / 2:Nat):Int)+1)=(((lo+hi) / 2+1:Nat):Int):=by rw[vj (by omega)];omega
    rw[e];exact ih _ _ (by omega) (by omega) o hh
   ·rw[lL (by omega)];simp only[s5,mb];exact ih _ _ (by omega) j (by omega) (by omega)
  ·grind
theorem zul{x:List GF}{s:GF}(k:ak x<=1048576)(j:c<=ak x)(g:∀i n,x[i]?=aa n->∃v,cmp n s=aa v/\(i<c->v<0)/\(c<=i->0<=v)) :
  zS x s cmp=(if c<(ak x)then cmp (x.getD c af) s else aa 1).bind λv=>aa ((c:Int),(ae (c<(ak x))&&(v==0))):=by
 unfold zS;have:=zpB k g (ak x) 0 (ak x) (by omega) (lV _) j (ob _);simp only[io]at this;rw[show((0:Int),(ak x:Int))=(((0:Nat):Int),(ak x:Int))from rfl]at *;rw[this];simp only[lp];by_cases h:c<(ak x)
 ·have hd:ae ((c:Int)<(ak x:Int))=true:=lJ (by omega);simp only[hd,h,oS,o5,lG,jB,lq];rw[ze (by omega)]
 ·have hd:ae ((c:Int)<(ak x:Int))=false:=lL (by omega);simp only[hd,h,mb,jc,j3,tb];rfl

def dd:List GA->List GA
 |[]=>[]
 |[x]=>[x]
 |x::y::r=>if x=y then dd (y::r)else x::dd (y::r)
theorem znB:∀(A:List GA)(x y:GA),dd (A++[x,y])=if x=y then dd (A++[x])else dd (A++[x])++[y]
 |[],x,y=>by by_cases h:x=y<;>simp[dd,h]
 |[a],x,y=>by
  by_cases h:x=y
  ·subst h;by_cases h2:a=x<;>simp[dd,h2]
  ·by_cases h2:a=x<;>simp[dd,h2,h]
 |a::b::A,x,y=>by
  have g:=znB (b::A) x y;simp only[kc]at g ⊢;simp only[dd]
  grind
theorem zhE:∀(L:List GA)(d:GA),d∈dd L↔d∈L
 |[],_=>by simp[dd]
 |[x],_=>by simp[dd]
 |x::y::r,d=>by
  simp only[dd];split
  ·rename_i h;subst h;rw[zhE (x::r) d];simp
  ·rw[lx,zhE (y::r) d];simp
theorem zdz{lt:GA->GA->Prop}(g:∀a b,¬lt b a->a=b \/ lt a b)(tr:∀a b c,lt a b->lt b c->lt a c):∀(L:List GA),L.Pairwise (λa b=>¬lt b a)->(dd L).Pairwise lt
 |[],_=>by simp[dd]
 |[x],_=>by simp[dd]
 |x::y::r,h=>by
  have o:=(ld.1 h).2;have m:=zdz g tr (y::r) o;simp only[dd];split
  ·exact m
  ·rename_i k;refine ld.2 ⟨λz j=>?_,m⟩;rw[zhE]at j;have p:lt x y:=(g x y ((ld.1 h).1 y (by simp))).resolve_left k;rcases lx.1 j with rfl|j
   ·omega
   ·rcases g y z ((ld.1 o).1 z j)with rfl|s
    ·omega
    ·grind
theorem zkK{L:List GA}{a b:GA}(g:L[n]?=aa a)(h:L[n+1]?=aa b):L.take (n+2)=L.take n++[a,b]:=by
 rw[l6,l6,g,h];simp
theorem ziX{L:List GA}{a b:GA}(g:L[n]?=aa a)(h:L[n+1]?=aa b):dd (L.take (n+2))=if a=b then dd (L.take (n+1))else dd (L.take (n+1))++[b]:=by
 rw[zkK g h,znB,l6,g];rfl
noncomputable def zpt(n:Nat)(s1:Int):Int×Int×(List GA)->Option (Out (Out (List GA) Int) (Int×Int×(List GA))):=λ(s2:Int×Int×(List GA))=>((zN (ak (s2.2.2)=n) ((if(ae (s2.2.1<((n-s1.toNat:Nat):Int)))=true then((zR (s2.2.2.drop s1.toNat) s2.2.1).bind λy51=>((zR (s2.2.2.drop s1.toNat) (ai .i64 (s2.2.1-(1:Int)))).bind λy52=>(if(!(y51.zi.fk==y52.zi.fk&&(y51.zi.inc==y52.zi.inc&&(y51.seq==y52.seq&&true))))=true then((zR (s2.2.2.drop s1.toNat) s2.2.1).bind λy54=>((zR s2.2.2 s2.1).bind λy55=>aa (.gV ((ai .i64 (s2.1+(1:Int))),(ai .i64 (s2.2.1+(1:Int))),(s2.2.2.set s2.1.toNat y54)))))else aa (.gV (s2.1,(ai .i64 (s2.2.1+(1:Int))),s2.2.2)))))else aa (.brk (s2.1,s2.2.1,s2.2.2))))))
theorem ze7(h0:0<i)(g:i<=9223372036854775807):(ai .i64 ((i:Int)-1))=((i-1:Nat):Int):=sR h0 g
theorem znG{L:List GA}(Q:ak L<=16777216){k0:Nat}(E:0<k0)(K:k0<(ak L)){a:GA}(F:L[k0-1]?=aa a)(C:L[k0]?=aa a)(R:dd (L.take k0)=L.take k0) :
  ∃k,ya (zpt (ak L) (k0:Int)) ((k0:Int),1,L)=aa (.inr k)/\∃m:Nat,k.1=(m:Int)/\m<=(ak L)/\k.2.2.length=(ak L)/\k.2.2.take m=dd L:=by
 refine qb (f:=zpt (ak L) (k0:Int)) (λs=>∃m b:Nat,s.1=(m:Int)/\s.2.1=(b:Int)/\1<=b/\k0+b<=(ak L)/\m+1<=k0+b/\s.2.2.length=(ak L)/\s.2.2.take m=dd (L.take (k0+b))/\s.2.2.drop (k0+b-1)=L.drop (k0+b-1))
  _ (λs=>(ak L)-s.2.1.toNat) ?_ _ _ rfl ⟨k0,1,rfl,rfl,ob _,by omega,by omega,rfl,?_,by simp⟩
 ·rintro⟨i,j,M⟩ ⟨m,b,v,z,N,P,O,p,u,r⟩
  simp only at v z p u r;subst v z;simp only[zpt,zN,p,oS,o5];by_cases hb:k0+b<(ak L)
  ·right;have o:∀t,k0+b-1<=t->M[t]?=L[t]?:=λt J=>by
    have:=congrArg (λl=>l[t-(k0+b-1)]?) r
    grind
   have y:L[k0+b]?=aa L[k0+b]:=rk hb;have hb1:k0+b-1<(ak L):=by omega
   have G:L[k0+b-1]?=aa (L[k0+b-1]'hb1):=rk hb1;have w:zR (M.drop k0) (b:Int)=aa L[k0+b]:=by simp only[zR,o5,lj];rw[nK (by omega),o _ (by omega),y]
   have D:zR (M.drop k0) (ai .i64 ((b:Int)-1))=aa (L[k0+b-1]'hb1):=by
    rw[ze7 (by omega) (by omega)];simp only[zR,o5,lj]
    grind
   have H:zR M (m:Int)=aa (M[m]'(by omega)):=by simp[zR]
   have g:=ziX (L:=L) (n:=k0+b-1) G (by rw[show k0+b-1+1=k0+b by omega];exact y);rw[show k0+b-1+2=k0+(b+1) by omega,show k0+b-1+1=k0+b by omega]at g;have h:M.drop (k0+(b+1)-1)=L.drop (k0+(b+1)-1):=by
    have:=congrArg (λl=>l.drop 1) r;simp only[kf]at this
    rwa[show k0+b-1+1=k0+(b+1)-1 by omega]at this
   rw[nK (by simp;omega),w,tb,D,tb];rw[tT];by_cases he:L[k0+b]=L[k0+b-1]'hb1
   ·refine⟨((m:Int),((b+1:Nat):Int),M),by simp[he,xZ (show b<=16777216 by omega)],⟨m,b+1,rfl,rfl,by omega,by omega,by omega,p,?_,h⟩,by simp;omega⟩
    simp_all
   ·refine⟨(((m+1:Nat):Int),((b+1:Nat):Int),M.set m L[k0+b]),?_,⟨m+1,b+1,rfl,rfl,by omega,by omega,by omega,by simp_all,?_,?_⟩,by simp;omega⟩
    ·simp[he,w,H,xZ (show b<=16777216 by omega),xZ (show m<=16777216 by omega)]
    ·rw[g,n4 (λe=>he e.symm),<- u,l6,jS (ob _),li (by omega)];rfl
    ·rw[jT (by omega)];exact h
  ·left;have I:k0+b=ak L:=by omega
   rw[n4 (by simp;omega)]
   grind
 ·have:=ziX (L:=L) (n:=k0-1) F (by rw[show k0-1+1=k0 by omega];exact C)
  grind
noncomputable def zdB(s0:List GA):Int->Option (Out (List GA) Int):=λ(s1:Int)=>((if(ae (s1<(ak (s0):Int)))=true then((zR s0 s1).bind λy35=>((zR s0 (ai .i64 (s1-(1:Int)))).bind λy36=>(if(y35.zi.fk==y36.zi.fk&&(y35.zi.inc==y36.zi.inc&&(y35.seq==y36.seq&&true)))=true then(zN (0<=s1/\s1<=((ak s0:Nat):Int)) ((lp (ya (zpt (ak s0) s1) (s1,(1:Int),s0)) λ(s2:Int×Int×(List GA))=>(zN (0<=s2.1/\s2.1<=((ak s0:Nat):Int)) (((fP (s2.2.2.take s2.1.toNat++List.replicate ((ak s0)-s2.1.toNat) (GA.mk (GH.mk (0:Int) (0:Int)) (0:Int))) (0:Int) s2.1).bind λm57=>aa (.ret m57)))))))else aa (.gV (ai .i64 (s1+(1:Int)))))))else aa (.brk s1)))
theorem zlm(g:List GA):wx g=(if(ae ((ak (g):Int)<(2:Int)))=true then aa g else(lp (ya (zdB g) (1:Int)) λ(_:Int)=>aa g)):=rfl
theorem zln{L:List GA}(v:ak L<=16777216):∀(n k:Nat),(ak L)-k=n->0<k->k<=ak L->dd (L.take k)=L.take k->lp (ya (zdB L) (k:Int)) (λ(_:Int)=>aa L)=aa (dd L):=by
 intro n
 induction n with
 |zero =>
  intro k w h0 hk hd;have:k=ak L:=by omega
  subst this;rw[yK];simp only[zdB]
  simp_all
 |succ n ih =>
  intro k w h0 hk hd;have g:k<(ak L):=by omega
  have j:L[k]?=aa L[k]:=rk g;have hk1:k-1<(ak L):=by omega
  have r:L[k-1]?=aa (L[k-1]'hk1):=rk hk1;rw[yK];have s:zR L (k:Int)=aa L[k]:=by simp[zR]
  have p:zR L (ai .i64 ((k:Int)-1))=aa (L[k-1]'hk1):=by
   rw[ze7 h0 (by omega)];simp only[zR,o5];rw[nK (by omega),r]
  have h:=ziX (L:=L) (n:=k-1) r (by rw[show k-1+1=k by omega];exact j);rw[show k-1+2=k+1 by omega,show k-1+1=k by omega]at h;by_cases he:L[k]=L[k-1]'hk1
  ·obtain⟨o,t,m,y,z,C,u⟩:=znG v h0 g (a:=L[k]) (by simp_all) j hd;have hs:fP (o.2.2.take ((m:Int)).toNat++List.replicate ((ak L)-((m:Int)).toNat) (GA.mk (GH.mk (0:Int) (0:Int)) (0:Int))) (0:Int) (m:Int)=aa (o.2.2.take m):=by
    unfold fP;rw[nK (by simp;omega)];simp only[o5,gl,kZ]
    grind
   have:zdB L (k:Int)=aa (.ret (dd L)):=by
    simp only[zdB];rw[nK (by simp;omega),s,tb,p,tb,tT,nK (by simp[he])];rw[ze (by omega),t];simp only[lp];rw[ze (by omega),y,hs,tb,u]
   simp_all
  ·have:zdB L (k:Int)=aa (.gV ((k+1:Nat):Int)):=by
    simp only[zdB];rw[nK (by simp;omega),s,tb,p,tb,tT,n4 (by simp[he]),xZ (by omega)]
   rw[this];refine ih (k+1) (by omega) (by omega) (by omega) ?_;rw[h,n4 (λe=>he e.symm),hd,l6,j];rfl
theorem zeS{L:List GA}(g:ak L<=16777216):wx L=aa (dd L):=by
 rw[zlm];by_cases h:(ak L)<2
 ·rw[nK (by simp;omega)]
  match L,h with
  |[],_=>rfl
  |[x],_=>rfl
  |_::_::_,h=>simp at h;omega
 ·rw[n4 (by simp;omega)];have:=zln g ((ak L)-1) 1 rfl (by omega) (by omega) (by
   match L,h with
   |x::y::r,_=>rfl
   |[],h=>simp at h
   |[x],h=>simp at h)
  omega

theorem wR(a:GA):w6 a a=false:=by simp[w6]
theorem up{a b c:GA}(h:w6 a b=true)(g:w6 b c=true):w6 a c=true:=by
 unfold w6 at *;grind
theorem f7(a b:GA):a=b \/ w6 a b=true \/ w6 b a=true:=by
 rcases a with⟨⟨j,h⟩,a3⟩;rcases b with⟨⟨g,k⟩,m⟩
 simp only[w6,GA.mk.injEq,GH.mk.injEq];grind
theorem zm5(a:GF):zQ a a=false:=by simp[zQ,wR]
theorem zho{a b c:GF}(h:zQ a b=true)(g:zQ b c=true):zQ a c=true:=by
 unfold zQ w6 at *;grind
theorem zdN{α:Type}{lt:α->α->Bool}(tr:∀a b c,lt a b=true->lt b c=true->lt a c=true)(x:α):∀(L:List α),L.Pairwise (λa b=>lt a b=true)->∀(i:Nat)(y:α),L[i]?=aa y->(lt y x=true↔i<(ak (L.takeWhile λy=>lt y x)))
 |[],_,i,y,h=>by simp at h
 |z::r,hs,i,y,h=>by
  obtain⟨k,j⟩:=ld.1 hs;cases i with
  |zero =>
   simp only[gy,p5]at h;subst h;cases hz:lt z x<;>simp[ku,hz]
  |succ i =>
   simp only[iJ]at h;have g:=zdN tr x r j i y h;cases hz:lt z x with
   |true=>simp[ku,hz,g]
   |false =>
    simp only[ku,hz,s5,mb,lC,Nat.not_lt_zero,iff_false]
    grind
theorem zh2{α:Type}(p:α->Bool):∀L:List α,L.take (ak (L.takeWhile p))=L.takeWhile p
 |[]=>rfl
 |x::r=>by cases h:p x<;>simp[ku,h,zh2 p r]
theorem zdv{α:Type}(p:α->Bool):∀L:List α,L.drop (ak (L.takeWhile p))=L.dropWhile p
 |[]=>rfl
 |x::r=>by cases h:p x<;>simp[ku,List.dropWhile_cons,h,zdv p r]
theorem zkH{α:Type}(p:α->Bool):∀L:List α,ak (L.takeWhile p)<=(ak L)
 |[]=>by simp
 |x::r=>by have:=zkH p r;cases h:p x<;>simp[ku,h]<;>omega
theorem zlL{α:Type}(p:α->Bool)(L:List α):ak (L.takeWhile p)+ak (L.dropWhile p)=ak L:=by
 rw[<- oA,lD]
theorem zlK{α:Type}(p:α->Bool):∀(L:List α),∀y∈L.takeWhile p,p y=true
 |[],y,h=>by simp at h
 |x::r,y,h=>by
  cases hx:p x with
  |true =>
   rw[ku,nK hx]at h;rcases lx.1 h with rfl|h
   ·exact hx
   ·exact zlK p r y h
  |false=>rw[ku,n4 (by simp[hx])]at h;simp at h
theorem zbl{α:Type}{lt:α->α->Prop}(tr:∀a b c,lt a b->lt b c->lt a c):∀(L:List α),(∀i a b,L[i]?=aa a->L[i+1]?=aa b->lt a b)->L.Pairwise lt
 |[],_=>.nil
 |[x],_=>by simp
 |x::y::r,h=>by
  have j:=zbl tr (y::r) λi a b m k=>h (i+1) a b (by simp_all) (by simp_all);have h0:=h 0 x y rfl rfl;refine ld.2 ⟨λz g=>?_,j⟩;rcases lx.1 g with rfl|g
  ·exact h0
  ·exact tr _ _ _ h0 ((ld.1 j).1 z g)
theorem zbf(h:fV L=true):L.Pairwise λa b=>zQ a b=true:=by
 refine zbl (lt:=λa b=>zQ a b=true) (λ_ _ _=>zho) L λi a b j g=>?_;have:=fg.1 h (i+1) b g;simp only[Nat.succ_ne_zero,jc,lM,zfw,iG,lu,j,jq]at this;omega
theorem zaM{L:List GA}(h:wG L=true):L.Pairwise λa b=>w6 a b=true:=by
 rw[rH]at h;refine zbl (lt:=λa b=>w6 a b=true) (λ_ _ _=>up) L λi a b j g=>?_;have:=fg.1 h (i+1) b g;simp only[yG,Nat.succ_ne_zero,jc,lM,iG,lu,j,jq]at this;omega
theorem vL{α:Type}{lt:α->α->Prop}(j:∀a,¬lt a a)(tr:∀a b c,lt a b->lt b c->lt a c):∀(A B:List α),A.Pairwise lt->B.Pairwise lt->(∀x,x∈A↔x∈B)->A=B
 |[],[],_,_,_=>rfl
 |[],b::B,_,_,h=>by have:=(h b).2 (by simp);simp at this
 |a::A,[],_,_,h=>by have:=(h a).1 (by simp);simp at this
 |a::A,b::B,hA,hB,h=>by
  obtain⟨p,k⟩:=ld.1 hA;obtain⟨o,m⟩:=ld.1 hB;have g:a=b:=by
   rcases lx.1 ((h a).1 (by simp))with e|s
   ·exact e
   ·rcases lx.1 ((h b).2 (by simp))with e|r
    ·simp_all
    ·grind
  subst g;rw[vL j tr A B k m λx=>?_]
  grind
def uW(L:List GF)(x:GF):List GF:=if(L.any λy=>ae (y.z6=x.z6))=true then L else L.takeWhile (λy=>zQ y x)++([x]++L.dropWhile λy=>zQ y x)
def bX(L:List GA)(d:GA):List GA:=if(L.any λy=>ae (y=d))=true then L else L.takeWhile (λy=>w6 y d)++([d]++L.dropWhile λy=>w6 y d)
theorem zeG{α:Type}(p:α->Bool)(L:List α):ae (sF p L >= 0)=L.any p:=ri p L
theorem zuv{α:Type}(L:List α)(n:Nat)(h:n<=ak L):fP L (n:Int) (ak L:Int)=aa (L.drop n):=by
 unfold fP
 simp_all
theorem zlJ{α:Type}{L:List α}(p:α->Bool){f:List α×Int->Option (Out (List α) (List α×Int))}(o:∀(A:List α)(i:Nat) (y:α),ak A=i->L[i]?=aa y->f (A,(i:Int))=if p y=true then aa (.gV (A++[y],((i+1:Nat):Int)))else aa (.brk (A,(i:Int))))
  (r:∀A:List α,f (A,(ak L:Int))=aa (.brk (A,(ak L:Int)))):∀(n i:Nat),(ak L)-i=n->i<=(ak (L.takeWhile p)) ->
  ya f (L.take i,(i:Int))=aa (.inr (L.takeWhile p,(ak (L.takeWhile p):Int))):=by
 intro n
 induction n with
 |zero =>
  intro i v hi;have t:=zkH p L;have m:i=ak L:=by omega
  subst m;rw[yK,r];have z:ak (L.takeWhile p)=ak L:=by omega
  have w:=zh2 p L
  grind
 |succ n ih =>
  intro i v hi;have g:i<(ak L):=by omega
  have s:L[i]?=aa L[i]:=rk g;have h:L.takeWhile p=L.take i++(L.drop i).takeWhile p:=by
   have o:L.take i=(L.takeWhile p).take i:=by
    conv=>lhs;rw[<- lD (p:=p) (l:=L)]
    grind
   have r:∀y∈L.take i,p y=true:=by
    rw[o];intro y u;exact zlK _ _ _ (List.mem_of_mem_take u)
   conv=>lhs;rw[<- kW i L]
   simp_all
  have k:L.drop i=L[i]::L.drop (i+1):=(j8 g).symm;have j:ak (L.take i)=i:=by simp;omega
  rw[yK,o _ _ _ j s];cases ha:p L[i]with
  |true =>
   simp only[oS];have e:L.take i++[L[i]]=L.take (i+1):=by grind
   rw[e];refine ih (i+1) (by omega) ?_;rw[h,k,ku,nK ha]
   grind
  |false =>
   simp only[s5,mb];have e:L.takeWhile p=L.take i:=by rw[h,k,ku,n4 (by simp[ha])];simp
   grind
noncomputable def ztP(L:List GF)(x:GF):(List GF)×Int->Option (Out (List GF) ((List GF)×Int)):=(λ(s1:(List GF)×Int)=>((zN (((ae (s1.2<(ak (L):Int)))==true)=true->0<=s1.2/\s1.2<(ak (L):Int)) ((zN (((ae (s1.2<(ak (L):Int)))==true)=true->0<=s1.2/\s1.2<(ak (L):Int)) (((if((ae (s1.2<(ak (L):Int)))==true)=true then qp (((L).getD s1.2.toNat af).time) (((L).getD s1.2.toNat af).z6) x.time x.z6 else aa af).bind λv21=>(if((ae (s1.2<(ak (L):Int)))&&v21)=true then((zR L s1.2).bind λy23=>(zN (ak (s1.1)+ak (([y23]:List GF))<=lim) (aa (.gV ((s1.1++([y23]:List GF)),(ai .i64 (s1.2+(1:Int))))))))else aa (.brk (s1.1,s1.2)))))))):Option (Out _ ((List GF)×Int))))
theorem zo0(o:ak L<=16777216)(x:GF):ya (ztP L x) ([],0)=aa (.inr (L.takeWhile (λy=>zQ y x),(ak (L.takeWhile λy=>zQ y x):Int))):=by
 refine zlJ (λy=>zQ y x) (f:=ztP L x) (λA i y p k=>?_) (λA=>?_) (ak L) 0 (by omega) (lV _)
 ·have m:i<(ak L):=(tu.1 k).1;have hd:ae ((i:Int)<(ak L:Int))=true:=lJ (by omega);have g:L.getD i af=y:=by simp_all
  have h:zR L (i:Int)=aa y:=by simp[zR,k]
  simp only[ztP,hd];rw[ze (by omega),ze (by omega)];simp only[lG,oS,o5,g,rB,tb,lq];have j:(if y.time≠x.time then ae (y.time<x.time)else w6 y.z6 x.z6)=zQ y x:=rfl;rw[j];cases ha:zQ y x with
  |true=>simp only[oS];rw[h,tb,ze (by simp[lim];omega),xZ (by omega)]
  |false=>rfl
 ·have hd:ae ((ak L:Int)<(ak L:Int))=false:=lL (by omega);simp only[ztP,hd];rfl
theorem zcO(k:ak L<=16777215)(x:GF):sf L x=aa (uW L x):=by
 unfold sf;rw[zbR,tb,zeG];unfold uW;cases h:L.any λy=>ae (y.z6=x.z6)with
 |true=>simp only[oS];rw[ze (by simp[lim];omega)];rfl
 |false =>
  simp only[s5,mb];have g:=zo0 (L:=L) (by omega) x;unfold ztP at g;have j:=zkH (λy=>zQ y x) L;have m:=zlL (λy=>zQ y x) L;rw[g];simp only[lp];rw[ze (by simp[lim];omega),zuv _ _ j,tb,zdv,ze (by simp[lim];omega)];simp
noncomputable def zuj(L:List GA)(x:GA):(List GA)×Int->Option (Out (List GA) ((List GA)×Int)):=(λ(s1:(List GA)×Int)=>((zN (((ae (s1.2<(ak (L):Int)))==true)=true->0<=s1.2/\s1.2<(ak (L):Int)) (((if((ae (s1.2<(ak (L):Int)))==true)=true then wy ((L).getD s1.2.toNat af) x else aa af).bind λv16=>(if((ae (s1.2<(ak (L):Int)))&&v16)=true then((zR L s1.2).bind λy18=>(zN (ak (s1.1)+ak (([y18]:List GA))<=lim) (aa (.gV ((s1.1++([y18]:List GA)),(ai .i64 (s1.2+(1:Int))))))))else aa (.brk (s1.1,s1.2)))))):Option (Out _ ((List GA)×Int))))
theorem znJ{L:List GA}(m:ak L<=16777216)(x:GA):ya (zuj L x) ([],0)=aa (.inr (L.takeWhile (λy=>w6 y x),(ak (L.takeWhile λy=>w6 y x):Int))):=by
 refine zlJ (λy=>w6 y x) (f:=zuj L x) (λA i y o j=>?_) (λA=>?_) (ak L) 0 (by omega) (lV _)
 ·have k:i<(ak L):=(tu.1 j).1;have hd:ae ((i:Int)<(ak L:Int))=true:=lJ (by omega);have g:L.getD i af=y:=by simp_all
  have h:zR L (i:Int)=aa y:=by simp[zR,j]
  simp only[zuj,hd];rw[ze (by omega)];simp only[lG,oS,o5,g,vC,tb,lq];cases ha:w6 y x with
  |true=>simp only[oS];rw[h,tb,ze (by simp[lim];omega),xZ (by omega)]
  |false=>rfl
 ·have hd:ae ((ak L:Int)<(ak L:Int))=false:=lL (by omega);simp only[zuj,hd];rfl
theorem zkU{L:List GA}(k:ak L<=16777215)(x:GA):qL L x=aa (bX L x):=by
 unfold qL;rw[uA,tb];unfold bX;cases h:L.any λy=>ae (y=x)with
 |true=>simp only[oS]
 |false =>
  simp only[s5,mb];have g:=znJ (L:=L) (by omega) x;unfold zuj at g;have j:=zkH (λy=>w6 y x) L;have m:=zlL (λy=>w6 y x) L;rw[g];simp only[lp];rw[ze (by simp[lim];omega),zuv _ _ j,tb,zdv,ze (by simp[lim];omega)];simp

theorem zob{α:Type}{c:α->α->Option Int}{cf:α->α->Int}{lt:α->α->Prop}{L R:List α}(F:∀x∈L,∀y∈L,c x y=aa (cf x y))(u:∀x y,cf x y<0↔lt x y)(o:∀x,¬lt x x)(tr:∀x y z,lt x y->lt y z->lt x z)
  (w:∀x∈L,∀y∈L,x=y \/ lt x y \/ lt y x) (s:R.Perm L) (hs:R.Pairwise λa b=>¬lt b a) (C:ak L<=lim):qT c L=aa R:=by
 unfold qT;rw[nK (λx g y j=>by simp_all)];have hd:∀x∈L,∀y∈L,(c x y).getD 0<0↔lt x y:=λx g y j=>by simp_all
 have p:∀x y,lt x y->¬lt y x:=λx y m k=>o x (tr _ _ _ m k);have t:R.Pairwise λa b=>¬(c b a).getD 0<0:=by
  have:R.Pairwise λa b=>a∈L/\b∈L/\¬lt b a:=by
   refine gt ?_ hs
   grind
  refine this.imp ?_
  simp_all
 refine zjq ⟨λx g h=>o x ((hd x g x g).1 h),λx y z g j r m k=>(hd x g z r).2 (tr _ _ _ ((hd x g y j).1 m) ((hd y j z r).1 k)),λx y z g j r m k E=>?_⟩ C ⟨s,t⟩ ?_
 ·grind
 ·rintro M ⟨D,v⟩
  refine pM (D.trans s.symm) v t λx y g j m k=>?_
  grind
theorem zeP(a b:GA):zdy a b<0↔w6 a b=true:=by rw[<- zeO];simp
def srt(L:List GA):List GA:=L.mergeSort λa b=>!w6 b a
theorem zlP(L:List GA):(srt L).Pairwise λa b=>¬w6 b a=true:=by
 have:=gD (le:=λa b=>!w6 b a) (λa b c k g=>by
  simp only[kb]at *;cases h:w6 c a with
  |false=>rfl
  |true =>
   rcases f7 a b with rfl|j|j
   ·rw[g]at h;cases h
   ·rw[up h j]at g;cases g
   ·rw[k]at j;cases j) (λa b=>by
  cases h:w6 b a with
  |false=>rfl
  |true =>
   cases g:w6 a b with
   |false=>rfl
   |true=>have:=up h g;rw[wR]at this;cases this) L
 refine this.imp λ{a b} h=>?_;simpa using h
theorem zaH(L:List GA):(srt L).Perm L:=hJ ..
theorem zcE{L:List GA}(g:ak L<=lim):qT (λx y=>xR x y) L=aa (srt L) :=
 zob (cf:=zdy) (lt:=λa b=>w6 a b=true) (λx _ y _=>vP x y) zeP (λx=>by simp[wR]) (λ_ _ _=>up) (λx _ y _=>f7 x y) (zaH L) (zlP L) g
theorem zr5(L:List GA)(d x:GA):x∈bX L d↔x=d \/ x∈L:=by
 unfold bX;split
 ·simp_all
 ·have h:x∈L↔x∈L.takeWhile (λy=>w6 y d) \/ x∈L.dropWhile (λy=>w6 y d):=by
   rw[<- ma,lD]
  grind
theorem zue{α:Type}{lt:α->α->Bool}(tr:∀a b c,lt a b=true->lt b c=true->lt a c=true)(x:α){L:List α}(hs:L.Pairwise (λa b=>lt a b=true)):∀y∈L.dropWhile (λy=>lt y x),lt y x=false:=by
 intro y h;rw[<- zdv]at h;obtain⟨j,g⟩:=lz.1 h;rw[lj]at g;have:=zdN tr x L hs _ y g
 grind
theorem zm1{α:Type}{lt:α->α->Bool}(tr:∀a b c,lt a b=true->lt b c=true->lt a c=true){x:α}{L:List α}(hs:L.Pairwise (λa b=>lt a b=true))(s:∀y∈L,lt y x=true \/ lt x y=true):(L.takeWhile (λy=>lt y x)++([x]++L.dropWhile λy=>lt y x)).Pairwise λa b=>lt a b=true:=by
 have j:=hs;rw[<- lD (p:=λy=>lt y x) (l:=L)]at j;obtain⟨r,o,t⟩:=kg.1 j;have hd:∀y∈L.dropWhile (λy=>lt y x),lt x y=true:=λy k=>by
  rcases s y (gH _ |>.subset k)with h|h
  ·rw[zue tr x hs y k]at h;cases h
  ·exact h
 refine kg.2 ⟨r,kg.2 ⟨by simp,o,λa m b g=>?_⟩,λa m b g=>?_⟩
 ·simp_all
 ·rcases ma.1 g with g|g
  ·rw[la]at g;subst g;exact zlK (λy=>lt y b) _ _ m
  ·simp_all
theorem zui{L:List GA}(d:GA)(h:L.Pairwise λa b=>w6 a b=true):(bX L d).Pairwise λa b=>w6 a b=true:=by
 unfold bX;split
 ·exact h
 ·rename_i k;refine zm1 (lt:=w6) (λ_ _ _=>up) h λy j=>?_;rcases f7 y d with rfl|g|g
  ·simp_all
  ·simp_all
  ·simp_all
theorem znK(L:List GA)(d:GA):ak (bX L d)<=ak L+1:=by
 unfold bX;split
 ·omega
 ·have:=zlL (λy=>w6 y d) L
  grind
def oG(L ds:List GA):List GA:=ds.foldl bX L
theorem ur:∀(ds L:List GA)(x:GA),x∈oG L ds↔x∈ds \/ x∈L
 |[],L,x=>by simp[oG]
 |d::ds,L,x=>by
  have:=ur ds (bX L d) x;simp only[oG,kS]at this ⊢;rw[this,zr5]
  grind
theorem zbB:∀(ds:List GA){L:List GA},L.Pairwise (λa b=>w6 a b=true)->(oG L ds).Pairwise λa b=>w6 a b=true
 |[],_,h=>h
 |d::ds,_,h=>zbB ds (zui d h)
theorem za4:∀(ds L:List GA),ak (oG L ds)<=ak L+(ak ds)
 |[],L=>by simp[oG]
 |d::ds,L=>by
  have g:=za4 ds (bX L d);have h:=znK L d;simp only[oG,kS,nr]at g ⊢;omega
theorem zr4{L:List GA}(h:L.Pairwise λa b=>w6 a b=true):dd (srt (L++ds))=oG L ds:=by
 refine vL (lt:=λa b=>w6 a b=true) (λa=>by simp[wR]) (λ_ _ _=>up) _ _ (zdz (lt:=λa b=>w6 a b=true) (λa b g=>?_) (λ_ _ _=>up) _ (zlP _)) (zbB ds h) λx=>?_
 ·rcases f7 a b with e|e|e
  ·simp_all
  ·simp_all
  ·simp_all
 ·rw[zhE,(zaH _).mem_iff,ur,ma]
  grind
theorem zmN(a b:GF):∃v,yW a b=aa v/\(v<0↔zQ a b=true):=by
 have h:=uF a.time a.z6 b.time b.z6;unfold qM at h;unfold yW;cases hc:uE a.time a.z6 b.time b.z6 with
 |none=>rw[hc]at h;cases h
 |some v =>
  rw[hc]at h;simp only[tb,p5]at h;refine⟨v,rfl,?_⟩;have:zQ a b=ae (v<0):=h.symm
  grind
theorem zqF(j:ak L<=1048576)(hs:L.Pairwise λa b=>zQ a b=true)(x:GF):∃b,zS L x (λg m=>yW g m)=aa ((ak (L.takeWhile λy=>zQ y x):Int),b):=by
 have o:=zkH (λy=>zQ y x) L;have k:∀i n,L[i]?=aa n->∃v,yW n x=aa v/\(i<(ak (L.takeWhile λy=>zQ y x))->v<0)/\(ak (L.takeWhile λy=>zQ y x)<=i->0<=v):=λi n hi=>by
  obtain⟨v,e,r⟩:=zmN n x;have p:=zdN (lt:=zQ) (λ_ _ _=>zho) x L hs i n hi
  grind
 rw[zul j o k];by_cases h:(ak (L.takeWhile λy=>zQ y x))<(ak L)
 ·rw[nK h];obtain⟨v,e,_⟩:=zmN (L.getD (ak (L.takeWhile λy=>zQ y x)) af) x
  simp_all
 ·rw[n4 h];exact⟨_,rfl⟩
theorem zrD(h:ak L<=1048576)(x:GF){n:Nat}(g:n<=ak L):cS L (n:Int) [x]=aa (L.take n++([x]++L.drop n)):=by
 unfold cS;rw[nK ⟨⟨by omega,by omega⟩,by simp,by simp[lim];omega⟩,o5]
theorem zeg(k:ak L<=1048576)(hs:L.Pairwise λa b=>zQ a b=true)(x:GF) :
  ((rU L x.z6).bind λg=>(if g=true then aa L else((zS L x (λm o=>yW m o)).bind λj=>((cS L j.1 ([x]:List GF)).bind λv39=>aa v39))))=aa (uW L x):=by
 rw[zda,tb];unfold uW;cases h:L.any λy=>ae (y.z6=x.z6)with
 |true=>rfl
 |false =>
  simp only[s5,mb];obtain⟨b,e⟩:=zqF k hs x;rw[e,tb,zrD k x (zkH _ _),tb,zh2,zdv]
theorem ot(L:List GA)(d:GA):xq L d=aa (L.any λy=>ae (y=d)):=by
 unfold xq sa;have:=rh (α:=GA) (f:=λx=>aa (ae (x=d))) (q:=λx=>ae (x=d)) L (λ_ _=>rfl);have e:∀(h:Nat)(g:GA),(if(d.zi.fk==g.zi.fk&&(d.zi.inc==g.zi.inc&&(d.seq==g.seq&&true)))=true then aa (.ret (h:Int))else aa (.gV ()):Option (Out Int Unit))=((aa (ae (g=d)):Option Bool).bind λv=>if v=true then aa (.ret (h:Int))else aa (.gV ())):=λh g=>by
  rw[tT,tb]
  grind
 simp only[e];rw[this,tb,zeG]
theorem zpk(x:GF)(e:GJ):wY x e=aa (e.op.gZ.any λy=>ae (y=x.z6)):=by
 unfold wY;rw[ot];rfl

def yx(l:GE)(e:GJ):GE :=
 if e.op.kind=1 then { l with n:=ai .i64 (l.n+e.op.n) }
 else if e.op.kind=2 then(if(ae (l.time=0) || (if l.time≠e.time then ae (l.time<e.time)else w6 l.z6 e.z6))=true then { l with time:=e.time,z6:=e.z6,text:=e.op.text }else l)
 else if e.op.kind=3 then(if(l.y4.any λy=>ae (y=e.z6))=true then l else { l with z8:=uW l.z8 ⟨0,e.z6,e.op.text⟩ })
 else if e.op.kind=4 then { l with z8:=l.z8.filter (λx=>!(e.op.gZ.any λy=>ae (y=x.z6))),y4:=oG l.y4 e.op.gZ }
 else { l with z8:=uW l.z8 ⟨e.time,e.z6,e.op.text⟩ }
def m7:GE:=GE.mk (0:Int) (0:Int) (0:Int) (GA.mk (GH.mk (0:Int) (0:Int)) (0:Int)) ([]:zp) ([]:List GF) ([]:List GA)
def ze0(l:GE)(e:GJ):GE×Int:=if(!w7 l || !yz e)=true then(m7,2)else if xF e.op.kind≠l.x4 then(m7,15)else(yx l e,0)
theorem zfr(h:w7 l=true):l.z8.Pairwise λa b=>zQ a b=true:=by
 unfold w7 at h;split at h
 ·simp_all
 ·split at h
  ·simp_all
  ·split at h
   ·simp only[tx]at h;exact zbf h.1.2.1.2
   ·split at h
    ·simp only[tx]at h;exact zbf h.2.1.2
    ·cases h
theorem zji(h:w7 l=true):l.y4.Pairwise λa b=>w6 a b=true:=by
 unfold w7 at h;split at h
 ·simp_all
 ·split at h
  ·simp_all
  ·split at h
   ·simp only[tx,th]at h;exact zaM h.2.1.2
   ·simp_all
theorem za6(h:w7 l=true):∀x∈l.z8,∀d∈l.y4,d≠x.z6:=by
 intro x g d hd;unfold w7 at h;split at h
 ·simp_all
 ·split at h
  ·simp_all
  ·split at h
   ·simp only[tx,th]at h
    grind
   ·simp_all
theorem ziH(h:yz e=true):1<=e.op.kind/\e.op.kind<=5:=by
 simp only[yz,opB,tx,so]at h;omega
theorem ziW(h:yz e=true):ak e.op.gZ<=64:=by
 simp only[yz,opB,tx,so]at h;omega
theorem zhj(e:GJ)(hi:ak l.z8<=1048576)(k:ak l.y4<=1048576):nE l e=aa (ze0 l e):=by
 unfold nE ze0;rw[zbu (by unfold maxLen;omega) (by unfold maxLen;omega),tb];cases hl:w7 l with
 |false=>simp[m7]
 |true =>
  simp only[ly,lM,lG,oS,uV,tb];cases he:yz e with
  |false=>simp[m7]
  |true =>
   simp only[ly,s5,mb,zgX,tb];by_cases hk:xF e.op.kind=l.x4
   ·rw[n4 (show ¬(xF e.op.kind != l.x4)=true by simp[hk]),n4 (show ¬xF e.op.kind≠l.x4 by simp[hk])];rw[uL (by unfold lim;omega),tb,wV (by unfold lim;omega),tb];unfold yx;by_cases h1:e.op.kind=1
    ·simp_all
    simp only[h1,mb];by_cases h2:e.op.kind=2
    ·simp only[h2,oS,uF,tb];have h:(l.time==(0:Int))=ae (l.time=0):=by rfl
     rw[h];cases h0:ae (l.time=0)with
     |true=>simp
     |false =>
      simp only[lG,oS,tb,lM];generalize (if l.time≠e.time then ae (l.time<e.time)else w6 l.z6 e.z6)=b;cases b<;>rfl
    simp only[h2,mb];by_cases h3:e.op.kind=3
    ·simp only[h3,oS,ot,tb];have:=zeg hi (zfr hl) ⟨0,e.z6,e.op.text⟩;simp only at this;rw[this];cases l.y4.any (λy=>ae (y=e.z6))<;>rfl
    simp only[h3,mb];have hd:=ziW he;by_cases h4:e.op.kind=4
    ·simp only[h4,oS];rw[ze (by unfold lim;omega),zcE (by simp[lim];omega),tb,zeS (by rw[(zaH _).length_eq];simp;omega),tb,
      zll (q:=λx=>e.op.gZ.any λy=>ae (y=x.z6)) (by omega) (λx _=>zpk x e),tb,zr4 (zji hl)]
     rfl
    simp only[h4,mb];have j:e.op.kind=5:=by have:=ziH he;omega
    simp only[j,oS];have:=zeg hi (zfr hl) ⟨e.time,e.z6,e.op.text⟩
    simp_all
   ·have g:(xF e.op.kind != l.x4)=true:=by simp[hk]
    simp only[g,oS,hk,gP,iP,s5,mb,m7]
theorem rz:∀(ds L:List GA)(n:Nat),ak L+ak ds<=16777215->zf (λ(m:Nat)(j:GA) (k:(List GA))=>(((qL k j).bind λg=>aa (.gV g)):Option (Out (GE×Int) (List GA)))) ds n L=aa (.inr (oG L ds))
 |[],L,n,_=>rfl
 |d::ds,L,n,h=>by
  simp only[nr]at h;have o:=znK L d;simp only[zf];rw[zkU (by omega),tb];exact rz ds (bX L d) (n+1) (by omega)
theorem zed(L:List GF)(T:List GA)(m:ak L<=16777215):s6 L T=aa (L.filter λx=>!(T.any λy=>ae (y=x.z6))):=by
 unfold s6;have:∀(L s:List GF)(n:Nat),ak s+ak L<=16777215->zf (λ(o:Nat)(j:GF) (k:(List GF))=>(((uB T j.z6).bind λg=>(if(!g)=true then(zN (ak (k)+ak (([j]:List GF))<=lim) (aa (.gV (k++([j]:List GF)))))else aa (.gV k))):Option (Out (List GF) (List GF)))) L n s=aa (.inr (s++L.filter λx=>!(T.any λy=>ae (y=x.z6)))):=by
  intro L
  induction L with
  |nil=>intro s n _;simp[zf]
  |cons x r ih =>
   intro s n h;simp only[nr]at h;simp only[zf,uA,tb];cases hx:T.any λy=>ae (y=x.z6)with
   |true =>
    simp only[ly,s5,mb];rw[kT,n4 (by simp[hx])];have:=ih s (n+1) (by omega);simp only[uA,tb]at this;omega
   |false =>
    simp only[jk,oS];rw[ze (by simp[lim];omega),kT,nK (by simp[hx])];have:=ih (s++[x]) (n+1) (by simp;omega);simp only[uA,tb,lf,ic]at this;omega
 simp_all
theorem zih(e:GJ)(hi:ak l.z8<=1048576)(s:ak l.y4<=1048576)(h0:0<=l.time):zbh l e=aa (ze0 l e):=by
 unfold zbh ze0;rw[rJ (by unfold maxLen;omega) (by unfold maxLen;omega) h0,tb];cases hl:w7 l with
 |false=>simp[m7]
 |true =>
  simp only[ly,lM,lG,oS,s8,tb];cases he:yz e with
  |false=>simp[m7]
  |true =>
   simp only[ly,s5,mb,mi,tb];by_cases hk:xF e.op.kind=l.x4
   ·rw[n4 (show ¬(xF e.op.kind != l.x4)=true by simp[hk]),n4 (show ¬xF e.op.kind≠l.x4 by simp[hk])];unfold yx;by_cases h1:e.op.kind=1
    ·simp_all
    have k:(e.op.kind==(1:Int))=false:=by simp[h1]
    simp only[h1,k,s5,mb];by_cases h2:e.op.kind=2
    ·simp only[h2,lG,oS,rB,tb]
     grind
    have n2:(e.op.kind==(2:Int))=false:=by simp[h2]
    simp only[h2,n2,s5,mb];by_cases g:e.op.kind=3
    ·simp only[g,lG,oS,uA,tb];cases l.y4.any (λy=>ae (y=e.z6))with
     |true=>rfl
     |false=>simp only[jk,oS,s5,mb];rw[zcO (by omega)];rfl
    have p:(e.op.kind==(3:Int))=false:=by simp[g]
    simp only[g,p,s5,mb];have hd:=ziW he;by_cases h4:e.op.kind=4
    ·simp only[h4,lG,oS];rw[rz _ _ _ (by omega)];simp only[lp];rw[zed _ _ (by omega),tb];congr 3;refine jw λx o=>?_;congr 1;rw[lI,jt,jt];constructor
     ·rintro⟨d,hd,h⟩
      have h:=lX h;rcases(ur _ _ _).1 hd with g|g
      ·simp_all
      ·exact(za6 hl x o d g h).elim
     ·rintro⟨d,hd,h⟩
      exact⟨d,(ur _ _ _).2 (.inl hd),h⟩
    have r:(e.op.kind==(4:Int))=false:=by simp[h4]
    simp only[h4,r,s5,mb];have m:e.op.kind=5:=by have:=ziH he;omega
    simp only[m,lG,oS];rw[zcO (by omega)];rfl
   ·have j:(xF e.op.kind != l.x4)=true:=by simp[hk]
    simp only[j,oS,hk,gP,iP,s5,mb,m7]


theorem zpA{cmp:GE->Int->Option Int}{x:List GE}{s:Int}(z:ak x<=16777216)(t:∀i n,x[i]?=aa n->∃v,cmp n s=aa v/\(i<c->v<0)/\(c<=i->0<=v)) :
  ∀(k lo hi:Nat),hi-lo<=k->lo<=c->c<=hi->hi<=ak x->ya (ρ:=Int×Bool) (λ(g:Int×Int)=>((if(ae (g.1<g.2))=true then((zR x (ai .i64 ((Int.fdiv (ai .u64 ((ai .i64 (g.1+g.2)))) (2 ^ (min (1:Int).toNat (IntKind.bits .u64))))))).bind λu=>((cmp u s).bind λh=>(if(ae (h<(0:Int)))=true then aa (.gV ((ai .i64 ((ai .i64 ((Int.fdiv (ai .u64 ((ai .i64 (g.1+g.2)))) (2 ^ (min (1:Int).toNat (IntKind.bits .u64))))))+(1:Int))),g.2))else aa (.gV (g.1,(ai .i64 ((Int.fdiv (ai .u64 ((ai .i64 (g.1+g.2)))) (2 ^ (min (1:Int).toNat (IntKind.bits .u64)))))))))))else aa (.brk (g.1,g.2))):Option (Out _ (Int×Int)))) ((lo:Int),(hi:Int))=aa (.inr ((c:Int),(c:Int))):=by
 intro k
 induction k with
 |zero =>
  intro lo hi r j o hh;obtain rfl:lo=hi:=by omega
  obtain rfl:lo=c:=by omega
  rw[yK];simp
 |succ k ih =>
  intro lo hi r j o hh;rw[yK];by_cases hlt:lo<hi
  ·have hd:ae ((lo:Int)<(hi:Int))=true:=lJ (by omega);simp only[hd,oS,zfZ hlt (by omega)];have m:(lo+hi) / 2<(ak x):=by omega
   rw[su m,tb];obtain⟨v,w,p,y⟩:=t ((lo+hi) / 2) _ (rk m);rw[w,tb];by_cases hcm:(lo+hi) / 2<c
   ·rw[lJ (p hcm),nK rfl];simp only;have e:ai .i64 ((((lo+hi) / 2:Nat):Int)+1)=(((lo+hi) / 2+1:Nat):Int):=by rw[vj (by omega)];omega
    rw[e];exact ih _ _ (by omega) (by omega) o hh
   ·rw[lL (by omega)];simp only[s5,mb];exact ih _ _ (by omega) j (by omega) (by omega)
  ·grind
theorem zql{cmp:GE->Int->Option Int}{x:List GE}{s:Int}(k:ak x<=16777216)(j:c<=ak x)(g:∀i n,x[i]?=aa n->∃v,cmp n s=aa v/\(i<c->v<0)/\(c<=i->0<=v)) :
  zL x s cmp=(if c<(ak x)then cmp (x.getD c af) s else aa 1).bind λv=>aa ((c:Int),(ae (c<(ak x))&&(v==0))):=by
 unfold zL;have:=zpA k g (ak x) 0 (ak x) (by omega) (lV _) j (ob _);simp only[io]at this;rw[show((0:Int),(ak x:Int))=(((0:Nat):Int),(ak x:Int))from rfl]at *;rw[this];simp only[lp];by_cases h:c<(ak x)
 ·have hd:ae ((c:Int)<(ak x:Int))=true:=lJ (by omega);simp only[hd,h,oS,o5,lG,jB,lq];rw[ze (by omega)]
 ·have hd:ae ((c:Int)<(ak x:Int))=false:=lL (by omega);simp only[hd,h,mb,jc,j3,tb];rfl

theorem zfv(x:GE)(k:Int):ql x k=aa (sM x.x4 k):=by unfold ql;rw[zi1];rfl
theorem dt{a b:Int}:sM a b<0↔a<b:=by unfold sM;split<;>(try split)<;>omega
theorem cx{a b:Int}:sM a b=0↔a=b:=by unfold sM;split<;>(try split)<;>omega
theorem co(k:Int)(h:ls.Pairwise λx y=>x.x4<y.x4):(∃A B,ls=A++B/\(∀y∈A,y.x4<k)/\∀y∈B,k<y.x4) \/ ∃A x B,ls=A++x::B/\x.x4=k/\(∀y∈A,y.x4<k)/\∀y∈B,k<y.x4:=by
 induction ls with
 |nil=>exact .inl ⟨[],[],rfl,λ_ h=>by simp at h,λ_ h=>by simp at h⟩
 |cons x t ih =>
  obtain⟨m,j⟩:=ld.1 h;rcases Int.lt_trichotomy x.x4 k with e|e|e
  ·grind
  ·exact .inr ⟨[],x,t,rfl,e,λ_ h=>by simp at h,λy g=>by simp_all⟩
  ·refine .inl ⟨[],x::t,rfl,λ_ h=>by simp at h,λy g=>?_⟩
   grind
theorem zex(h:∀y∈A,y.x4<l.x4)(j:∀y∈B,l.x4<y.x4):tQ l.x4 l true (A++B)=A++l::B:=by
 unfold tQ;rw[nK rfl,kK,kK];rw[kq.2 (λy g=>lJ (h y g)),kH.2 (λy g=>by grind),
  kH.2 (λy g=>by grind),kq.2 (λy g=>lJ (j y g))]
 simp
theorem zew(k:x.x4=l.x4)(h:∀y∈A,y.x4<l.x4)(j:∀y∈B,l.x4<y.x4):tQ l.x4 l true (A++x::B)=A++l::B:=by
 unfold tQ;rw[nK rfl,kK,kK,kT,kT];rw[n4 (by simp;omega),n4 (by simp;omega)];rw[kq.2 (λy g=>lJ (h y g)),kH.2 (λy g=>by grind),
  kH.2 (λy g=>by grind),kq.2 (λy g=>lJ (j y g))]
 simp
theorem zpz{k:Int}(t:ak (A++B)<=16777216)(p:∀y∈A,y.x4<k)(j:∀y∈B,k<y.x4):zL (A++B) k (λo s=>ql o s)=aa ((ak A:Int),false):=by
 rw[zql (c:=ak A) t (by simp) λi m hi=>⟨_,zfv m k,λg=>by
   rw[ol g]at hi;exact dt.2 (p m (lc hi)),λg=>by
   rw[pa g]at hi;have:=j m (lc hi);have u:¬sM m.x4 k<0:=λh=>by rw[dt]at h;omega
   omega⟩]
 cases B with
 |nil=>simp
 |cons y B =>
  have e:(A++y::B).getD (ak A) af=y:=by simp
  have:=j y (by simp);rw[nK (by simp),e,zfv];have r:(sM y.x4 k==0)=false:=by
   rw[beq_eq_false_iff_ne,Ne,cx];omega
  simp[r]
theorem zpy{k:Int}(r:ak (A++x::B)<=16777216)(hs:x.x4=k)(o:∀y∈A,y.x4<k)(u:∀y∈B,k<y.x4):zL (A++x::B) k (λj p=>ql j p)=aa ((ak A:Int),true):=by
 rw[zql (c:=ak A) r (by simp) λi m hi=>⟨_,zfv m k,λg=>by
   rw[ol g]at hi;exact dt.2 (o m (lc hi)),λg=>by
   rw[pa g]at hi;have t:¬m.x4<k:=by
    grind
   have s:¬sM m.x4 k<0:=λh=>by rw[dt]at h;omega
   omega⟩]
 have e:(A++x::B).getD (ak A) af=x:=by simp
 rw[nK (by simp),e,zfv,cx.2 hs];simp
theorem zm3{α:Type}{A B:List α}(x:α)(h:ak (A++B)<=16777216):cS (A++B) (ak A:Int) [x]=aa (A++x::B):=by
 unfold cS;rw[nK ⟨⟨by omega,by simp;omega⟩,by simp,yO (by simp_all)⟩];simp
noncomputable def zpX(n:Nat)(p:List zp)(l2:GE)(y7:GC)(v6:List GC)(i:Int):Option (List GC) :=
 (if(ae ((ak (p):Int) > (1:Int)))=true then((fP p (1:Int) (ak (p):Int)).bind λm10=>((wW n y7.wa m10 l2).bind λv11=>((zR v6 i).bind λy12=>aa (v6.set i.toNat (GC.mk y7.name y7.leaves v11)))))else((xB y7.leaves).bind λv13=>((zL v13 l2.x4 (λx0 x1=>ql x0 x1)).bind λv14=>(if(!v14.2)=true then((cS v13 v14.1 ([l2]:List GE)).bind λv16=>((zR v16 v14.1).bind λy17=>((zR v6 i).bind λy18=>aa (v6.set i.toNat (GC.mk y7.name (v16.set v14.1.toNat l2) y7.wa)))))else((zR v13 v14.1).bind λy19=>((zR v6 i).bind λy20=>aa (v6.set i.toNat (GC.mk y7.name (v13.set v14.1.toNat l2) y7.wa))))))))
theorem zml(n:Nat)(t0:List GC)(g:List zp)(k:GE):wW (n+1) t0 g k=((yR t0).bind λh=>((zR g (0:Int)).bind λp=>((na h p).bind λv3=>(if(!v3.2)=true then((zR g (0:Int)).bind λr=>((cS h v3.1 ([(GC.mk r ([]:List GE) ([]:List GC))]:List GC)).bind λm=>((zR m v3.1).bind λo=>zpX n g k o m v3.1)))else((zR h v3.1).bind λj=>zpX n g k j h v3.1))))):=rfl
theorem zgS{s:zp}{A B:List GC}{x:GC}(o:ak x.leaves<=16777215)(h:x.leaves.Pairwise λx y=>x.x4<y.x4):zpX n [s] l x (A++x::B) (ak A:Int)=aa (A++⟨x.name,tQ l.x4 l true x.leaves,x.wa⟩::B):=by
 unfold zpX;have m:ae (((ak ([s]:List zp):Int)) > 1)=false:=rfl;have j:zR (A++x::B) (ak A:Int)=aa x:=zu (by simp);simp only[m,s5,mb];rw[mE (yO (by omega)),tb];rcases co l.x4 h with⟨C,D,e,g,hd⟩|⟨C,z,D,e,k,g,hd⟩
 ·rw[e,zpz (by grind) g hd,tb];simp only[jk,oS];rw[zm3 _ (by grind),tb,zu (x:=l) (by simp),tb,j,tb,zex g hd];simp
 ·rw[e,zpy (by grind) k g hd,tb];simp only[ly,s5,mb];rw[zu (x:=z) (by simp),tb,j,tb,zew k g hd];simp
theorem zjJ{s a:zp}{r:List zp}{A B:List GC}{x:GC}{g:List GC}(m:ak (s::a::r)<=16777216)(h:wW n x.wa (a::r) l=aa g):zpX n (s::a::r) l x (A++x::B) (ak A:Int)=aa (A++⟨x.name,x.leaves,g⟩::B):=by
 unfold zpX;have j:ae (((ak (s::a::r):Int)) > 1)=true:=lJ (by grind);have k:zR (A++x::B) (ak A:Int)=aa x:=zu (by simp);simp only[j,oS];rw[pO ⟨by omega,by grind,kp _⟩,tb];have o:((s::a::r).take ((ak (s::a::r):Int)).toNat).drop (1:Int).toNat=a::r:=by rw[o5,j6];rfl
 simp_all
theorem zng(t:List GC)(s:zp):na t s=(zg t s (λh j=>we h j)).bind λg=>aa (g.1,g.2):=rfl

theorem zmL{k:Int}:ak (tQ k l there ls)<=ak ls+1:=by
 unfold tQ;split
 ·have g:=iK (λx:GE=>ae (x.x4<k)) ls;have h:=g.length_eq;have j:ak (ls.filter λx=>ae (k<x.x4))<=ak (ls.filter λx=>!ae (x.x4<k)):=by
   have:(ls.filter λx=>ae (k<x.x4))=(ls.filter λx=>!ae (x.x4<k)).filter (λx=>ae (k<x.x4)):=by
    rw[jG];refine jw λx _=>?_;rw[lI];simp;omega
   grind
  grind
 ·grind
theorem zcp{s:zp}{A m B:List GC}{sb:List GC}(u:fv l)(t:ak m=if f=true then 1 else 0)(o:zg (A++m++B) s (λr v=>we r v)=aa ((ak A:Int),f))
  (g:((if f=true then((zR (A++m++B) (ak A:Int)).bind λj=>aa (.inr (j.name,j.leaves,j.wa)))else aa (.inr (s,([]:List GE),([]:List GC)))):Option (List GC ⊕ (zp×(List GE)×(List GC))))=aa (.inr (s,ls,sb)))
  (C:ak (A++m++B)<=16777216) (z:ak ls<=16777215) (w:ak sb<=16777217) (h:ls.Pairwise λx y=>x.x4<y.x4) :
  wE (n+1) (A++m++B) [s] l.x4 l true=aa (A++bt s (tQ l.x4 l true ls) sb++B):=by
 have p:zR [s] (0:Int)=aa s:=rfl;have:=zmL (k:=l.x4) (l:=l) (there:=true) (ls:=ls);rw[ziG,p,tb,o,tb,tb];simp only[];rw[g,yw,zey (λ_=>⟨rfl,u⟩) (by omega) h,yw,mw t (by omega) (by omega) (by omega)]
theorem zfS{s a:zp}{r:List zp}{k:Int}{A m B:List GC}{sb g:List GC}(w:ak m=if f=true then 1 else 0)(p:zg (A++m++B) s (λu y=>we u y)=aa ((ak A:Int),f))
  (t:((if f=true then((zR (A++m++B) (ak A:Int)).bind λo=>aa (.inr (o.name,o.leaves,o.wa)))else aa (.inr (s,([]:List GE),([]:List GC)))):Option (List GC ⊕ (zp×(List GE)×(List GC))))=aa (.inr (s,ls,sb)))
  (C:ak (A++m++B)<=16777216) (D:ak ls<=16777215) (z:ak g<=16777217) (v:ak (s::a::r)<=16777216) (h:wE n sb (a::r) k l there=aa g) :
  wE (n+1) (A++m++B) (s::a::r) k l there=aa (A++bt s ls g++B):=by
 have j:zR (s::a::r) (0:Int)=aa s:=rfl;rw[ziG,j,tb,p,tb,tb];simp only[];rw[t,yw,zhl v h,yw,mw w (by omega) (by omega) (by omega)]
theorem oK{g:zp}{sb:List GC}(h:ls≠[] \/ sb≠[]):bt g ls sb=[⟨g,ls,sb⟩]:=by
 unfold bt;rw[n4];rcases h with h|h
 ·simp_all
 ·simp_all
theorem zcr:tQ l.x4 l true ls≠[]:=List.ne_nil_of_mem (eI.2 (.inr ⟨rfl,rfl⟩))
theorem zmj{l:GE}(S:w7 l=true)(G:fv l):∀(p:List zp)(t:List GC) (d n:Nat),p≠[]->p.all fL=true->d+ak p<=3->gX d t=true->ak (zk [] t)<=16777214->(ak p)<n ->
  wW n t p l=wE n t p l.x4 l true
 |[],_,_,_,h,_,_,_,_,_=>absurd rfl h
 |_::_,_,_,0,_,_,_,_,_,h=>by omega
 |s::q,t,d,n+1,_,hp,hd,ht,hw,hn=>by
  simp only[l7,tx,nr]at hp hd hn;obtain⟨V,R⟩:=zP ht;have D:ak t<=16777214:=lg (qB _ d (by rw[xe];exact oB.2 R)) hw;have w:zR (s::q) (0:Int)=aa s:=rfl
  -- what is below
  have below:∀(sb:List GC)(c:zp) (m:List zp),q=c::m->gX (d+1) sb=true->ak (zk [] sb)<=16777214->∃g,wW n sb q l=aa g/\wE n sb q l.x4 l true=aa g/\g≠[]/\(ak g)<=16777215:=by
   intro sb c m r u M;subst r;obtain⟨g,U,Z,e3,Y⟩:=zev (k:=l.x4) (l:=l) (there:=true) (λ_=>⟨rfl,S,G⟩) (c::m) sb (d+1) n (by simp) hp.2 (by omega) u (by omega) (by omega);have N:=qB sb (d+1) (by rw[xe];exact oB.2 (zP u).2);refine⟨g,?_,U,?_,by omega⟩
   ·rw[<- U];exact zmj S G (c::m) sb (d+1) n (by simp) hp.2 (by omega) u M (by omega)
   ·intro e;have:=(Y [] ⟨[]++(c::m),l⟩).2 (.inr ⟨rfl,rfl⟩);rw[e]at this;simp[zk]at this
  rcases di s V with⟨A,B,e,P,v⟩|⟨A,x,B,e,H,P,v⟩
  ·have O:ak (A++B)<=16777214:=by rw[<- e];exact D
   have o:=zi8 (by omega) P v;have j:zg (A++[]++B) s (λI Q=>we I Q)=aa ((ak A:Int),false):=by simp_all
   have y:A++B=A++[]++B:=by simp
   have L:wW (n+1) t (s::q) l=zpX n (s::q) l ⟨s,[],[]⟩ (A++⟨s,[],[]⟩::B) (ak A:Int):=by
    rw[zml,po (yO (by omega)),tb,w,tb,zng,e,o,tb,tb];simp only[jk,oS,tb];rw[zm3 _ (by omega),tb,zu (x:=⟨s,[],[]⟩) (by simp),tb]
   rw[L];cases r:q with
   |nil =>
    rw[zgS (x:=⟨s,[],[]⟩) (by simp) (by simp),e,y,zcp (ls:=[]) (sb:=[]) G (by simp) j rfl (by grind) (by simp) (by simp) (by simp),oK (.inl zcr)];simp
   |cons c m =>
    obtain⟨g,z,E,K,X⟩:=below [] c m r (zb8 _) (by simp[zk]);rw[r]at z E;rw[zjJ (x:=⟨s,[],[]⟩) (by grind) z,e,y,zfS (ls:=[]) (sb:=[]) (f:=false) (by simp) j rfl (by grind) (by simp) (by omega) (by grind) E,oK (.inr K)];simp
  ·have O:ak (A++x::B)<=16777214:=by rw[<- e];exact D
   have o:=zi7 (by omega) H P v;have j:zg (A++[x]++B) s (λI Q=>we I Q)=aa ((ak A:Int),true):=by simp_all
   have y:A++x::B=A++[x]++B:=by simp
   have F:x∈t:=by rw[e];simp
   obtain⟨n1,n2,T⟩:=wT (R x F);have W:=uD F;have N:=qB x.wa (d+1) (by rw[xe];exact oB.2 (zP n2).2);have C:((if true=true then((zR (A++[x]++B) (ak A:Int)).bind λJ=>aa (.inr (J.name,J.leaves,J.wa)))else aa (.inr (s,([]:List GE),([]:List GC)))):Option (List GC ⊕ (zp×(List GE)×(List GC))))=aa (.inr (s,x.leaves,x.wa)):=by
    rw[nK rfl,zu (x:=x) (by simp),tb,H]
   have L:wW (n+1) t (s::q) l=zpX n (s::q) l x (A++x::B) (ak A:Int):=by
    rw[zml,po (yO (by omega)),tb,w,tb,zng,e,o,tb,tb];simp only[ly,s5,mb];rw[zu (x:=x) (by simp),tb]
   rw[L];cases r:q with
   |nil =>
    rw[zgS (x:=x) (by omega) (tO T).1,e,y,zcp (ls:=x.leaves) (sb:=x.wa) G (by simp) j C (by grind) (by omega) (by omega) (tO T).1,oK (.inl zcr),H];simp
   |cons c m =>
    obtain⟨g,z,E,K,X⟩:=below x.wa c m r n2 (by omega);rw[r]at z E;rw[zjJ (x:=x) (by grind) z,e,y,zfS (ls:=x.leaves) (sb:=x.wa) (f:=true) (by simp) j C (by grind) (by omega) (by omega) (by grind) E,oK (.inr K),H];simp

noncomputable def l7A(t0:List GC)(path1:List zp):(List GC)×Int->Option (Out (List GC) ((List GC)×Int)):=(λ(s1:(List GC)×Int)=>((zN (((ae (s1.2<(ak (t0):Int)))==true)=true->0<=s1.2/\s1.2<(ak (t0):Int)) ((zN (((ae (s1.2<(ak (t0):Int)))==true)=true->0<=(0:Int)/\(0:Int)<(ak (path1):Int)) ((if((ae (s1.2<(ak (t0):Int)))&&(Op.bytesLess (((t0).getD s1.2.toNat af).name) ((path1).getD (0:Int).toNat af)))=true then((zR t0 s1.2).bind λy22=>(zN (ak (s1.1)+ak (([y22]:List GC))<=lim) (aa (.gV ((s1.1++([y22]:List GC)),(ai .i64 (s1.2+(1:Int))))))))else aa (.brk (s1.1,s1.2))))))):Option (Out _ ((List GC)×Int))))
noncomputable def l7B(ls:List GE)(l2:GE):(List GE)×Int->Option (Out (List GC) ((List GE)×Int)):=(λ(sd62:(List GE)×Int)=>((zN (((ae (sd62.2<(ak (ls):Int)))==true)=true->0<=sd62.2/\sd62.2<(ak (ls):Int)) ((if((ae (sd62.2<(ak (ls):Int)))&&(ae (((ls).getD sd62.2.toNat af).x4<l2.x4)))=true then((zR ls sd62.2).bind λy66=>(zN (ak (sd62.1)+ak (([y66]:List GE))<=lim) (aa (.gV ((sd62.1++([y66]:List GE)),(ai .i64 (sd62.2+(1:Int))))))))else aa (.brk (sd62.1,sd62.2))))):Option (Out _ ((List GE)×Int))))
theorem zp8{t:List GC}{s:zp}{q:List zp}(u:ak t<=16777216)(a b:List GC)(e:t=a++b)(p:∀y∈a,Op.bytesLess y.name s=true)(v:∀y r,b=y::r->Op.bytesLess y.name s=false) :
  ∀(k i:Nat),(ak a)-i<=k->i<=ak a->ya (l7A t (s::q)) (a.take i,(i:Int))=aa (.inr (a,(ak a:Int))):=by
 have w:ak t=ak a+ak b:=by rw[e];simp
 intro k
 induction k with
 |zero =>
  intro i g hi;obtain rfl:i=ak a:=by omega
  rw[yK];have:l7A t (s::q) (a.take (ak a),(ak a:Int))=aa (.brk (a,(ak a:Int))):=by
   unfold l7A;simp only[j6];rw[ze (by simp_all),ze (by intro h;simp)];cases hbb:b with
   |nil =>
    simp_all
   |cons y r =>
    simp_all
  rw[this]
 |succ k ih =>
  intro i g hi;rcases kR i (ak a)with h|h
  ·rw[yK];have m:t[i]?=aa a[i]:=by grind
   have hd:t.getD i af=a[i]:=by simp_all
   have:l7A t (s::q) (a.take i,(i:Int))=aa (.gV (a.take (i+1),((i+1:Nat):Int))):=by
    unfold l7A;simp only;rw[ze (by omega),ze (by intro h;simp)];have j:(s::q).getD (0:Int).toNat af=s:=rfl;have o:ai .i64 ((i:Int)+1)=((i+1:Nat):Int):=by rw[vj (by omega)];omega
    rw[o5,hd,j,p _ (jF h),lJ (by omega),lB,nK rfl,zu m,tb,ze (yO (by simp;omega)),o]
    simp_all
   grind
  ·grind

theorem zp7(s:ak ls<=16777216)(a b:List GE)(e:ls=a++b)(m:∀y∈a,y.x4<l.x4)(t:∀y r,b=y::r->¬y.x4<l.x4) :
  ∀(k i:Nat),(ak a)-i<=k->i<=ak a->ya (l7B ls l) (a.take i,(i:Int))=aa (.inr (a,(ak a:Int))):=by
 have p:ak ls=ak a+ak b:=by rw[e];simp
 intro k
 induction k with
 |zero =>
  intro i g hi;obtain rfl:i=ak a:=by omega
  rw[yK];have:l7B ls l (a.take (ak a),(ak a:Int))=aa (.brk (a,(ak a:Int))):=by
   unfold l7B;simp only[j6];rw[ze (by simp_all)];cases hbb:b with
   |nil =>
    simp_all
   |cons y r =>
    grind
  rw[this]
 |succ k ih =>
  intro i g hi;rcases kR i (ak a)with h|h
  ·rw[yK];have o:ls[i]?=aa a[i]:=by grind
   have hd:ls.getD i af=a[i]:=by simp_all
   have:l7B ls l (a.take i,(i:Int))=aa (.gV (a.take (i+1),((i+1:Nat):Int))):=by
    unfold l7B;simp only;have j:ai .i64 ((i:Int)+1)=((i+1:Nat):Int):=by rw[vj (by omega)];omega
    rw[ze (by omega),o5,hd,lJ (m _ (jF h)),lJ (by omega),lB,nK rfl,zu o,tb,ze (yO (by simp;omega)),j]
    simp_all
   grind
  ·grind

noncomputable def l7R(n:Nat)(t0:List GC)(path1:List zp)(l2:GE)(A:List GC)(sd30:Int×zp×(List GE)×(List GC)):Option (List GC):=(if(ae ((ak (path1):Int) > (1:Int)))=true then((fP path1 (1:Int) (ak (path1):Int)).bind λm38=>((vp n sd30.2.2.2 m38 l2).bind λv39=>(zN (ak (A)+ak (([(GC.mk sd30.2.1 sd30.2.2.1 v39)]:List GC))<=lim) (((fP t0 sd30.1 (ak (t0):Int)).bind λm41=>(zN (ak ((A++([(GC.mk sd30.2.1 sd30.2.2.1 v39)]:List GC)))+ak (m41)<=lim) (aa ((A++([(GC.mk sd30.2.1 sd30.2.2.1 v39)]:List GC))++m41))))))))else(lp (ya (l7B sd30.2.2.1 l2) (([]:List GE),(0:Int))) λ(sd62:(List GE)×Int)=>(zN (((ae (sd62.2<(ak (sd30.2.2.1):Int)))==true)=true->0<=sd62.2/\sd62.2<(ak (sd30.2.2.1):Int)) ((if((ae (sd62.2<(ak (sd30.2.2.1):Int)))&&(((sd30.2.2.1).getD sd62.2.toNat af).x4==l2.x4))=true then(zN (ak (sd62.1)+ak (([l2]:List GE))<=lim) (((fP sd30.2.2.1 (ai .i64 (sd62.2+(1:Int))) (ak (sd30.2.2.1):Int)).bind λm72=>(zN (ak ((sd62.1++([l2]:List GE)))+ak (m72)<=lim) ((zN (ak (A)+ak (([(GC.mk sd30.2.1 ((sd62.1++([l2]:List GE))++m72) sd30.2.2.2)]:List GC))<=lim) (((fP t0 sd30.1 (ak (t0):Int)).bind λm75=>(zN (ak ((A++([(GC.mk sd30.2.1 ((sd62.1++([l2]:List GE))++m72) sd30.2.2.2)]:List GC)))+ak (m75)<=lim) (aa ((A++([(GC.mk sd30.2.1 ((sd62.1++([l2]:List GE))++m72) sd30.2.2.2)]:List GC))++m75)))))))))))else(zN (ak (sd62.1)+ak (([l2]:List GE))<=lim) (((fP sd30.2.2.1 sd62.2 (ak (sd30.2.2.1):Int)).bind λm78=>(zN (ak ((sd62.1++([l2]:List GE)))+ak (m78)<=lim) ((zN (ak (A)+ak (([(GC.mk sd30.2.1 ((sd62.1++([l2]:List GE))++m78) sd30.2.2.2)]:List GC))<=lim) (((fP t0 sd30.1 (ak (t0):Int)).bind λm81=>(zN (ak ((A++([(GC.mk sd30.2.1 ((sd62.1++([l2]:List GE))++m78) sd30.2.2.2)]:List GC)))+ak (m81)<=lim) (aa ((A++([(GC.mk sd30.2.1 ((sd62.1++([l2]:List GE))++m78) sd30.2.2.2)]:List GC))++m81))))))))))))))))
theorem zj6(n:Nat)(t0:List GC)(g:List zp)(o:GE):vp (n+1) t0 g o=(lp (ya (l7A t0 g) (([]:List GC),(0:Int))) λ(h:(List GC)×Int)=>((zR g (0:Int)).bind λm=>(lp ((zN (((ae (h.2<(ak (t0):Int)))==true)=true->0<=h.2/\h.2<(ak (t0):Int)) ((zN (((ae (h.2<(ak (t0):Int)))==true)=true->0<=(0:Int)/\(0:Int)<(ak (g):Int)) ((if((ae (h.2<(ak (t0):Int)))&&(((t0).getD h.2.toNat af).name==((g).getD (0:Int).toNat af)))=true then((zR t0 h.2).bind λj=>aa (.inr ((ai .i64 (h.2+(1:Int))),j.name,j.leaves,j.wa)))else aa (.inr (h.2,m,([]:List GE),([]:List GC)))))))):Option (_ ⊕ (Int×zp×(List GE)×(List GC)))) λk=>l7R n t0 g o h.1 k))):=rfl

theorem uP{α:Type}(L:List α)(i:Nat):((L.take ((ak L:Int)).toNat).drop ((i:Int)).toNat)=L.drop i:=by simp
theorem zmU{t A:List GC}{s a:zp}{r:List zp}{g:zp}{sb u:List GC}(hi:i<=ak t)(p:ak t<=16777215)(v:ak A<=8388608)(m:ak t<=8388607)(o:ak (s::a::r)<=16777216)(h:vp n sb (a::r) l=aa u) :
  l7R n t (s::a::r) l A ((i:Int),g,ls,sb)=aa (A++[⟨g,ls,u⟩]++t.drop i):=by
 unfold l7R;have j:ae (((ak (s::a::r):Int)) > 1)=true:=lJ (by grind);simp only[j,oS];rw[pO ⟨by omega,by grind,kp _⟩,tb];have k:((s::a::r).take ((ak (s::a::r):Int)).toNat).drop (1:Int).toNat=a::r:=by rw[o5,j6];rfl
 rw[k,h,tb,ze (yO (by simp;omega)),pO ⟨by omega,by omega,kp _⟩,tb,uP,ze (yO (by simp;omega))]
theorem zj8{t A:List GC}{s:zp}{p:zp}{sb:List GC}(hi:i<=ak t)(G:ak A<=8388608)(w:ak t<=8388607)(k:ak ls<=8388607)(m:ls.Pairwise λx y=>x.x4<y.x4) :
  l7R n t [s] l A ((i:Int),p,ls,sb)=aa (A++[⟨p,tQ l.x4 l true ls,sb⟩]++t.drop i):=by
 unfold l7R;have u:ae (((ak ([s]:List zp):Int)) > 1)=false:=rfl;simp only[u,s5,mb];rcases co l.x4 m with⟨C,D,e,j,hd⟩|⟨C,z,D,e,v,j,hd⟩
 ·have o:=zp7 (ls:=ls) (l:=l) (by omega) C D e j (λy r h=>by grind) (ak C) 0 (by omega) (by omega);rw[show(([]:List GE),(0:Int))=(C.take 0,((0:Nat):Int))from rfl,o,yw,e,zex j hd];rw[e]at k;simp only[oA]at k;simp only[];rw[ze (by simp_all)];have g:((ae (((ak C:Nat):Int)<(ak (C++D):Int)))&&(((C++D).getD ((ak C:Nat):Int).toNat af).x4==l.x4))=false:=by
   grind
  rw[g];simp only[s5,mb];rw[ze (yO (by simp;omega)),pO ⟨by omega,by grind,kp _⟩,tb,uP,jZ,ze (yO (by simp;omega)),ze (yO (by simp;omega)),pO ⟨by omega,by omega,kp _⟩,tb,uP,ze (yO (by simp;omega))];simp
 ·have o:=zp7 (ls:=ls) (l:=l) (by omega) C (z::D) e j (λy r h=>by simp_all) (ak C) 0 (by omega) (by omega);rw[show(([]:List GE),(0:Int))=(C.take 0,((0:Nat):Int))from rfl,o,yw,e,zew v j hd];rw[e]at k;simp only[oA,nr]at k;simp only[];rw[ze (by simp_all)];have g:((ae (((ak C:Nat):Int)<(ak (C++z::D):Int)))&&(((C++z::D).getD ((ak C:Nat):Int).toNat af).x4==l.x4))=true:=by
   grind
  rw[g];simp only[oS];have E:ai .i64 ((ak C:Int)+1)=((ak C+1:Nat):Int):=by rw[vj (by omega)];omega
  have F:(C++z::D).drop (ak C+1)=D:=by
   simp_all
  rw[ze (yO (by simp;omega)),E,pO ⟨by omega,by grind,kp _⟩,tb,uP,F,ze (yO (by simp;omega)),ze (yO (by simp;omega)),pO ⟨by omega,by omega,kp _⟩,tb,uP,ze (yO (by simp;omega))];simp
theorem zmP{s:zp}{q:List zp}{A B:List GC}(h:ak (A++B)<=16777215)(m:aX s A)(j:aY s B):vp (n+1) (A++B) (s::q) l=l7R n (A++B) (s::q) l A ((ak A:Int),s,[],[]):=by
 have o:=zp8 (t:=A++B) (s:=s) (q:=q) (by omega) A B rfl m (λy r hh=>by
  have:=j y (by rw[hh];simp);rcases hx:Op.bytesLess y.name s with _|_
  ·rfl
  ·have:=x8 this hx;rw[um]at this;cases this) (ak A) 0 (by omega) (by omega)
 rw[zj6,show(([]:List GC),(0:Int))=(A.take 0,((0:Nat):Int))from rfl,o,yw];have k:zR (s::q) (0:Int)=aa s:=rfl;simp only[k,tb];rw[ze (by simp_all),ze (by intro h;simp)];have g:((ae (((ak A:Nat):Int)<(ak (A++B):Int)))&&(((A++B).getD ((ak A:Nat):Int).toNat af).name==((s::q).getD (0:Int).toNat af)))=false:=by
  cases B with
  |nil=>simp
  |cons y B =>
   have:=zc8 (j y (by simp))
   grind
 rw[g];rfl
theorem zmO{s:zp}{q:List zp}{A B:List GC}{x:GC}(j:x.name=s)(h:ak (A++x::B)<=16777215)(m:aX s A)(v:aY s B):vp (n+1) (A++x::B) (s::q) l=l7R n (A++x::B) (s::q) l A (((ak A+1:Nat):Int),s,x.leaves,x.wa):=by
 have u:=zp8 (t:=A++x::B) (s:=s) (q:=q) (by omega) A (x::B) rfl m (λy r hh=>by
  injection hh with p _;rw[<- p,j,um]) (ak A) 0 (by omega) (by omega)
 rw[zj6,show(([]:List GC),(0:Int))=(A.take 0,((0:Nat):Int))from rfl,u,yw];have k:zR (s::q) (0:Int)=aa s:=rfl;simp only[k,tb];rw[ze (by simp_all),ze (by intro h;simp)];have g:((ae (((ak A:Nat):Int)<(ak (A++x::B):Int)))&&(((A++x::B).getD ((ak A:Nat):Int).toNat af).name==((s::q).getD (0:Int).toNat af)))=true:=by
  grind
 rw[g];simp only[oA,nr]at h;have o:ai .i64 ((ak A:Int)+1)=((ak A+1:Nat):Int):=by rw[vj (by omega)];omega
 simp only[oS];rw[zu (x:=x) (by simp),tb,yw,o,j]

theorem zj5{l:GE}(S:w7 l=true)(F:fv l):∀(p:List zp)(t:List GC) (d n:Nat),p≠[]->p.all fL=true->d+ak p<=3->gX d t=true->ak (zk [] t)<=8388606->(ak p)<n ->
  vp n t p l=wE n t p l.x4 l true
 |[],_,_,_,h,_,_,_,_,_=>absurd rfl h
 |_::_,_,_,0,_,_,_,_,_,h=>by omega
 |s::q,t,d,n+1,_,hp,hd,ht,hw,hn=>by
  simp only[l7,tx,nr]at hp hd hn;obtain⟨W,R⟩:=zP ht;have z:ak t<=8388606:=lg (qB _ d (by rw[xe];exact oB.2 R)) hw;have below:∀(sb:List GC)(c:zp) (o:List zp),q=c::o->gX (d+1) sb=true->ak (zk [] sb)<=8388606->∃g,vp n sb q l=aa g/\wE n sb q l.x4 l true=aa g/\g≠[]/\(ak g)<=16777215:=by
   intro sb c o r u K;subst r;obtain⟨g,V,e2,e3,Z⟩:=zev (k:=l.x4) (l:=l) (there:=true) (λ_=>⟨rfl,S,F⟩) (c::o) sb (d+1) n (by simp) hp.2 (by omega) u (by omega) (by omega);have M:=qB sb (d+1) (by rw[xe];exact oB.2 (zP u).2);refine⟨g,?_,V,?_,by omega⟩
   ·rw[<- V];exact zj5 S F (c::o) sb (d+1) n (by simp) hp.2 (by omega) u K (by omega)
   ·intro e;have:=(Z [] ⟨[]++(c::o),l⟩).2 (.inr ⟨rfl,rfl⟩);rw[e]at this;simp[zk]at this
  rcases di s W with⟨A,B,e,E,m⟩|⟨A,x,B,e,P,E,m⟩
  ·have N:ak (A++B)<=8388606:=by rw[<- e];exact z
   have O:ak A<=8388606:=by grind
   have I:=zi8 (by omega) E m;have j:zg (A++[]++B) s (λG Q=>we G Q)=aa ((ak A:Int),false):=by simp_all
   have v:A++B=A++[]++B:=by simp
   rw[e,zmP (by omega) E m];cases r:q with
   |nil =>
    rw[zj8 (by simp) (by omega) (by omega) (by simp) (by simp),v,zcp (ls:=[]) (sb:=[]) F (by simp) j rfl (by grind) (by simp) (by simp) (by simp),oK (.inl zcr)];simp
   |cons c o =>
    obtain⟨g,w,C,J,Y⟩:=below [] c o r (zb8 _) (by simp[zk]);rw[r]at w C;rw[zmU (by simp) (by omega) (by omega) (by omega) (by grind) w,v,zfS (ls:=[]) (sb:=[]) (f:=false) (by simp) j rfl (by grind) (by simp) (by omega) (by grind) C,oK (.inr J)];simp
  ·have N:ak (A++x::B)<=8388606:=by rw[<- e];exact z
   have O:ak A+1<=8388606:=by grind
   have I:=zi7 (by omega) P E m;have j:zg (A++[x]++B) s (λG Q=>we G Q)=aa ((ak A:Int),true):=by simp_all
   have v:A++x::B=A++[x]++B:=by simp
   have D:x∈t:=by rw[e];simp
   obtain⟨n1,n2,T⟩:=wT (R x D);have X:=uD D;have M:=qB x.wa (d+1) (by rw[xe];exact oB.2 (zP n2).2);have y:((if true=true then((zR (A++[x]++B) (ak A:Int)).bind λH=>aa (.inr (H.name,H.leaves,H.wa)))else aa (.inr (s,([]:List GE),([]:List GC)))):Option (List GC ⊕ (zp×(List GE)×(List GC))))=aa (.inr (s,x.leaves,x.wa)):=by
    rw[nK rfl,zu (x:=x) (by simp),tb,P]
   have U:(A++x::B).drop (ak A+1)=B:=by rw[<- kf,jZ];rfl
   rw[e,zmO P (by omega) E m];cases r:q with
   |nil =>
    rw[zj8 (by simp) (by omega) (by omega) (by omega) (tO T).1,U,v,zcp (ls:=x.leaves) (sb:=x.wa) F (by simp) j y (by grind) (by omega) (by omega) (tO T).1,oK (.inl zcr)]
   |cons c o =>
    obtain⟨g,w,C,J,Y⟩:=below x.wa c o r n2 (by omega);rw[r]at w C;rw[zmU (by simp) (by omega) (by omega) (by omega) (by grind) w,U,v,zfS (ls:=x.leaves) (sb:=x.wa) (f:=true) (by simp) j y (by grind) (by omega) (by omega) (by grind) C,oK (.inr J)]

theorem zm4{a b:GF}(h:a.z6≠b.z6):zQ a b=true \/ zQ b a=true:=by
 unfold zQ;rcases f7 a.z6 b.z6 with e|e|e
 ·simp_all
 ·grind
 ·grind
theorem zmg{α:Type}[Inhabited α]{lt:α->α->Prop}{L:List α}(h:L.Pairwise lt){i:Nat}{x:α}(hi:L[i]?=aa x)(h0:i≠0):lt (L.getD (i-1) af) x:=by
 obtain⟨g,rfl⟩:=tu.1 hi;have e:L.getD (i-1) af=L[i-1]:=by grind
 rw[e];exact lF.1 h _ _ _ _ (by omega)
theorem zcg(h:L.Pairwise λa b=>zQ a b=true):fV L=true:=by
 refine fg.2 λi x hi=>?_;by_cases h0:i=0
 ·simp[h0]
 ·simp only[h0,jc,lM,zfw];exact zmg (lt:=λa b=>zQ a b=true) h hi h0
theorem zbO{L:List GA}(h:L.Pairwise λa b=>w6 a b=true):wG L=true:=by
 rw[rH];refine fg.2 λi x hi=>?_;unfold yG;by_cases h0:i=0
 ·simp[h0]
 ·simp only[h0,jc,lM];exact zmg (lt:=λa b=>w6 a b=true) h hi h0
theorem d7{x y:GF}(h:y∈uW L x):y∈L \/ y=x:=by
 unfold uW at h;split at h
 ·simp_all
 ·rcases ma.1 h with h|h
  ·exact .inl ((List.takeWhile_sublist _).mem h)
  ·rcases ma.1 h with h|h
   ·simp_all
   ·exact .inl ((gH _).mem h)
theorem ziF(x:GF)(h:L.Pairwise λa b=>zQ a b=true):(uW L x).Pairwise λa b=>zQ a b=true:=by
 unfold uW;split
 ·exact h
 ·rename_i g;simp only[jp,ki,so]at g;exact zm1 (lt:=zQ) (λ_ _ _=>zho) h λy j=>zm4 (a:=y) (b:=x) (g y j)
theorem zdc(x:GF)(h:fG L=true):fG (uW L x)=true:=by
 unfold uW;split
 ·exact h
 ·rename_i j;simp only[jp,ki,so]at j;unfold fG at h ⊢;rw[so]at h ⊢;have g:(L.takeWhile (λy=>zQ y x)++([x]++L.dropWhile λy=>zQ y x)).Perm (x::L):=by
   have e:=lD (p:=λy=>zQ y x) (l:=L)
   grind
  rw[(g.map (·.z6)).nodup_iff,m4,jm]
  simp_all
theorem zcq(L:List GF)(x:GF):ak (uW L x)<=ak L+1:=by
 unfold uW;split
 ·omega
 ·have e:=congrArg List.length (lD (p:=λy=>zQ y x) (l:=L))
  grind
theorem zgt{x:GF}(h:L.all q=true)(k:q x=true):(uW L x).all q=true :=
 oB.2 λy g=>by
  rcases d7 g with j|j
  ·simp_all
  ·simp_all
structure zzR(e:GJ):Prop where
 z6:fa e.z6=true
 time:t8 e.time=true
 kind:1<=e.op.kind/\e.op.kind<=5
 path:sO e.op.path=true
 text:ak e.op.text<=40
 gZ:e.op.kind=4->e.op.gZ.all fa=true
 zzJ:ak e.op.gZ<=64
theorem zrV(h:yz e=true):zzR e:=by
 have g:=ziH h;have hd:=ziW h;simp only[yz,opB,tx,so]at h;obtain⟨⟨⟨m,k⟩,p⟩,⟨⟨⟨⟨_,j⟩,o⟩,_⟩,r⟩⟩:=h;refine⟨m,?_,g,j,o,λs=>?_,hd⟩
 ·simp[t8,k,p]
 ·simp_all
theorem zbb{k:Int}(h:1<=k/\k<=5):1<=xF k/\xF k<=4:=by
 unfold xF;omega
theorem oC(l:GE)(e:GJ):(yx l e).x4=l.x4:=by
 unfold yx
 grind
theorem ze1(g:w7 l=true)(N:yz e=true)(m:xF e.op.kind=l.x4):w7 (yx l e)=true:=by
 have h:=zfr g;have v:=zji g;have F:=za6 g;obtain⟨C,y,O,d4,E,H,P⟩:=zrV N;have J:=oC l e;by_cases k1:e.op.kind=1
 ·have D:l.x4=1:=by rw[<- m,k1];rfl
  unfold yx;rw[nK k1];unfold w7 at g ⊢;rw[nK D]at g;simp only[D,oS];exact g
 by_cases k2:e.op.kind=2
 ·have w:l.x4=2:=by rw[<- m,k2];rfl
  unfold yx;rw[n4 k1,nK k2];generalize (ae (l.time=0) || (if l.time≠e.time then ae (l.time<e.time)else w6 l.z6 e.z6))=b;cases b
  case false=>exact g
  case true =>
   simp only[oS];unfold w7 at g ⊢;rw[n4 (by omega),nK w]at g;simp only[w];rw[n4 (by omega),nK trivial];simp only[tx,so]at g ⊢;refine⟨g.1,?_⟩;have:¬e.time=0:=by
    simp only[t8,tx,so]at y;omega
   simp_all
 by_cases k3:e.op.kind=3
 ·have t3:l.x4=3:=by rw[<- m,k3];rfl
  unfold yx;rw[n4 k1,n4 k2,nK k3];split
  ·exact g
  ·rename_i K;simp only[jp,ki,so]at K;unfold w7 at g ⊢;rw[n4 (by omega),n4 (by omega),nK t3]at g;simp only[t3];rw[n4 (by omega),n4 (by omega),nK trivial];simp only[tx,so]at g ⊢;obtain⟨⟨⟨o,k⟩,⟨⟨s,z⟩,p⟩⟩,j⟩:=g;refine⟨⟨⟨o,by simpa[tY]using k⟩,⟨⟨zgt s ?_,zcg (ziF _ h)⟩,zdc _ p⟩⟩,?_⟩
   ·simp[qV,C,E]
   ·simp only[th,tx]at j ⊢;refine⟨j.1,oB.2 λd hd=>?_⟩;simp only[kb,ki,so];intro x t I;rcases d7 t with r|r
    ·simp_all
    ·grind
 by_cases k4:e.op.kind=4
 ·have t3:l.x4=3:=by rw[<- m,k4];rfl
  have hd:=H k4;unfold yx;rw[n4 k1,n4 k2,n4 k3,nK k4];unfold w7 at g ⊢;rw[n4 (by omega),n4 (by omega),nK t3]at g;simp only[t3];rw[n4 (by omega),n4 (by omega),nK trivial];simp only[tx,so]at g ⊢;obtain⟨⟨⟨o,k⟩,⟨⟨s,z⟩,p⟩⟩,j⟩:=g;refine⟨⟨⟨o,by simpa[tY]using k⟩,⟨⟨oB.2 λx t=>oB.1 s x (lQ.1 t).1,zcg (h.filter _)⟩,?_⟩⟩,?_⟩
  ·unfold fG at p ⊢
   grind
  ·simp only[th,tx]at j ⊢;refine⟨⟨oB.2 λd u=>?_,zbO (zbB _ v)⟩,oB.2 λd u=>?_⟩
   ·rcases(ur _ _ _).1 u with r|r
    ·simp_all
    ·simp_all
   ·simp only[kb,ki,so];intro x t I;obtain⟨Q,M⟩:=lQ.1 t;simp only[kb,ki,so]at M;rcases(ur _ _ _).1 u with r|r
    ·grind
    ·simp_all
 ·have G:e.op.kind=5:=by omega
  have t4:l.x4=4:=by rw[<- m,G];rfl
  unfold yx;rw[n4 k1,n4 k2,n4 k3,n4 k4];unfold w7 at g ⊢;rw[n4 (by omega),n4 (by omega),n4 (by omega),nK t4]at g;simp only[t4];rw[n4 (by omega),n4 (by omega),n4 (by omega),nK trivial];simp only[tx,so]at g ⊢;obtain⟨⟨⟨o,k⟩,j⟩,⟨⟨s,z⟩,p⟩⟩:=g;refine⟨⟨⟨o,by simpa[tY]using k⟩,j⟩,⟨⟨zgt s ?_,zcg (ziF _ h)⟩,zdc _ p⟩⟩;simp[qV,C,y,E]
theorem znS(g:fv l)(j:yz e=true)(hi:ak l.z8<=1048576)(m:ak l.y4<=1048576):fv (yx l e)/\(yx l e).z8.length<=ak l.z8+1/\(yx l e).y4.length<=ak l.y4+64:=by
 have d:=zrV j;have p:0<=e.time:=by have:=d.time;simp only[t8,tx,so]at this;omega
 have h:=λx=>zcq l.z8 x;have k:=za4 e.op.gZ l.y4;have o:=jh (λx:GF=>!(e.op.gZ.any λy=>ae (y=x.z6))) l.z8;have hd:=d.zzJ;have key:(yx l e).z8.length<=ak l.z8+1/\(yx l e).y4.length<=ak l.y4+64/\0<=(yx l e).time:=by
  unfold yx;split
  ·exact⟨by simp,by simp,g.time⟩
  split
  ·grind
  split
  ·split
   ·exact⟨by simp,by simp,g.time⟩
   ·exact⟨h _,by simp,g.time⟩
  split
  ·exact⟨by grind,by grind,g.time⟩
  ·exact⟨h _,by simp,g.time⟩
 exact⟨⟨by omega,by omega,key.2.2⟩,key.1,key.2.1⟩

def qC(k:Int):GE:=GE.mk k (0:Int) (0:Int) (GA.mk (GH.mk (0:Int) (0:Int)) (0:Int)) ([]:zp) ([]:List GF) ([]:List GA)
theorem zbt{k:Int}(h:1<=k/\k<=4):u7 k=aa (qC k):=by
 unfold u7;rw[n4 (by simp;omega)];rfl
theorem zl8{k:Int}(h:1<=k/\k<=4):nx k=aa (qC k):=by
 unfold nx;rw[nK (by simp;omega)];rfl
theorem zmz{k:Int}(h:1<=k/\k<=4):w7 (qC k)=true:=by
 have:k=1 \/ k=2 \/ k=3 \/ k=4:=by omega
 rcases this with rfl|rfl|rfl|rfl<;>decide
theorem zoS(k:Int):fv (qC k):=⟨by simp[qC],by simp[qC],kp _⟩
theorem zfC(t:List GC)(s:zp):sX t s=aa (match fx t s with|some x=>(x,true)|none=>(ztI,false)):=by
 unfold sX;have key:∀(L:List GC)(i:Nat),zf (ρ:=GC×Bool) (λ(j:Nat)(g:GC) (k:Unit)=>((if(g.name==s)=true then aa (.ret (g,true))else aa (.gV ())):Option (Out _ Unit))) L i ()=aa (match fx L s with|some x=>.inl (x,true)|none=>.inr ()):=by
  intro L
  induction L with
  |nil=>intro i;rfl
  |cons y r ih =>
   intro i;rw[zf];unfold fx;rw[gL];cases h:(y.name==s)
   ·simp only[s5,mb];exact ih (i+1)
   ·rfl
 rw[key];cases fx t s<;>rfl
noncomputable def l7F(v1:GE):Nat->zp->(List GC)×zp×(List GE)×(List GC)->Option (Out (GE×Bool) ((List GC)×zp×(List GE)×(List GC))):=(λ(n1:Nat)(x1:zp) (s1:(List GC)×zp×(List GE)×(List GC))=>(((sX s1.1 x1).bind λv32=>(if(!v32.2)=true then aa (.ret (v1,false))else aa (.gV (v32.1.wa,v32.1.name,v32.1.leaves,v32.1.wa))))))
noncomputable def l7S(ls:List GE)(ff:Int):Int->Option (Out (GE×Bool) Int):=(λ(s2:Int)=>((if(((ae (s2<(ak (ls):Int)))&&(ae (ff >= (1:Int))))&&(ae (ff<=(4:Int))))=true then((zR ls s2).bind λy63=>(if(y63.x4==ff)=true then((zR ls s2).bind λy65=>aa (.ret (y65,true)))else aa (.gV (ai .i64 (s2+(1:Int))))))else aa (.brk s2))))
theorem zoX(t0:List GC)(g:List zp)(ff:Int):xV t0 g ff=((nx ff).bind λh=>(lp (zf (l7F h) g 0 (t0,([]:zp),([]:List GE),([]:List GC))) λ(j:(List GC)×zp×(List GE)×(List GC))=>(lp (ya (l7S j.2.2.1 ff) (0:Int)) λ(s2:Int)=>aa (h,false)))):=rfl
theorem zmT(v:GE):∀(p:List zp)(n:Nat) (t:List GC) (z:zp×(List GE)×(List GC)),p≠[] ->
  zf (l7F v) p n (t,z)=aa (match qa t p with|some x=>.inr (x.wa,x.name,x.leaves,x.wa)|none=>.inl (v,false))
 |[],_,_,_,h=>absurd rfl h
 |[s],n,t,z,_=>by
  simp only[qa,zf,l7F,zfC,tb]
  grind
 |s::c::q,n,t,z,_=>by
  have j:=λu z=>zmT v (c::q) (n+1) u z (by simp);simp only[qa];cases e:fx t s with
  |none=>rw[zf];simp only[l7F,zfC,e,tb];rfl
  |some x =>
   have g:l7F v n s (t,z)=aa (.gV (x.wa,x.name,x.leaves,x.wa)):=by simp only[l7F,zfC,e,tb];rfl
   rw[zf,g,tb]
   simp_all
theorem zrz{k:Int}(o:1<=k/\k<=4)(p:ak ls<=16777216):∀(m i:Nat),(ak ls)-i=m->i<=ak ls->ya (l7S ls k) (i:Int)=aa (match (ls.drop i).find? (λy=>y.x4==k)with|some y=>.inl (y,true)|none=>.inr (ak ls:Int)):=by
 intro m
 induction m with
 |zero =>
  intro i h hi;obtain rfl:i=ak ls:=by omega
  rw[yK];unfold l7S;simp
 |succ m ih =>
  intro i h hi;have g:i<(ak ls):=by omega
  rw[yK];have hd:ls.drop i=ls[i]::ls.drop (i+1):=iu g;have j:((ae ((i:Int)<(ak ls:Int))&&ae (k >= 1))&&ae (k<=4))=true:=by simp;omega
  rw[hd,gL];cases e:(ls[i].x4==k)
  ·have:l7S ls k (i:Int)=aa (.gV ((i+1:Nat):Int)):=by
    unfold l7S;rw[nK j,su g,tb,e];simp only[s5,mb];rw[vj (by omega)];rfl
   grind
  ·have:l7S ls k (i:Int)=aa (.ret (ls[i],true)):=by
    unfold l7S;rw[nK j,su g,tb,e];simp
   rw[this]
theorem zes:∀{p:List zp}{t:List GC} {d:Nat} {x:GC},gX d t=true->p≠[]->qa t p=aa x->ak x.leaves<=(ak (zk [] t))
 |[],_,_,_,_,h,_=>absurd rfl h
 |[s],t,d,x,h,_,e=>by
  have j:x∈t:=jd (show fx t s=aa x from e);have:=uD j;omega
 |s::c::q,t,d,x,h,_,e=>by
  simp only[qa]at e;cases hn:fx t s with
  |none=>rw[hn]at e;cases e
  |some y =>
   rw[hn,tb]at e;have g:y∈t:=jd (show fx t s=aa y from hn);have m:=zes (wT ((zP h).2 y g)).2.1 (by simp) e;have k:=uD g;omega
theorem aB{t:List GC}(h:gX 0 t=true)(u:ak (zk [] t)<=16777215){p:List zp}(m:p≠[]){k:Int}(o:1<=k/\k<=4) :
  (∃l,GM.mk p l∈zk [] t/\l.x4=k/\xV t p k=aa (l,true)) \/ ((∀r∈zk [] t,xu r≠(p,k))/\xV t p k=aa (qC k,false)):=by
 have g:=λl=>zl4 p t 0 [] l m h;simp only[ll]at g;have j:(∀l,¬(GM.mk p l∈zk [] t/\l.x4=k))->∀r∈zk [] t,xu r≠(p,k):=λw r v e=>by
  have:=zl3 e;simp only[ll]at this;exact w r.leaf ⟨by rw[<- this];exact v,congrArg Prod.snd e⟩
 rw[zoX,zl8 o,tb,zmT _ p 0 t _ m];cases e:qa t p with
 |none =>
  right;refine⟨j λl hh=>?_,rfl⟩;obtain⟨x,y,_⟩:=(g l).1 hh.1
  simp_all
 |some x =>
  simp only[lp];have s:ak x.leaves<=16777215:=by
   exact lg (zes h m e) u
  have hs:=zrz o (by omega:ak x.leaves<=16777216) (ak x.leaves) 0 (by omega) (lV _);simp only[kZ,io]at hs
  grind

end Go.Vv
