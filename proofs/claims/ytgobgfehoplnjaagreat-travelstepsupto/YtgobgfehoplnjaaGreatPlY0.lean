/- Plain laws, as far as they are leaned on. -/
import Derived.Test.YtgobgfehoplnjaaGreatD
import Derived.Test.YtgobgfehoplnjaaGreatVvMr
set_option linter.all false
namespace Go.Vv
open Go
variable {i j c n d m:Nat} {b a:GK} {σ:Type} {L:List GF} {f there:Bool} {q:GF->Bool} {l:GE} {ls L0 A B:List GE} {ds T:List GA} {del:GE->Option Bool} {x y:GF} {cmp:GF->GF->Option Int} {e:GJ} {h g:List GK} {s2:List GJ×List GK}
structure GN where
 path:(List zq)
 leaf:GE
 deriving DecidableEq,Inhabited
structure GS where
 path:(List zq)
 w7:Int
 had:Bool
 has:Bool
 was:GE
 is:GE
 deriving DecidableEq,Inhabited
def GN.wf (x:GN):Prop:=(x.path.length<=maxLen/\∀y ∈ x.path,y.length<=maxLen)/\(GE.wf x.leaf)
def GS.wf (x:GS):Prop:=(x.path.length<=maxLen/\∀y ∈ x.path,y.length<=maxLen)/\(dy .u8 x.w7)/\(True)/\(True)/\(GE.wf x.was)/\(GE.wf x.is)
def GN.bk (x:GN):Nat:=(((x.path.map (λs=>s.length+1)).sum+1)+(GE.bk x.leaf+0))+1
def GS.bk (x:GS):Nat:=(((x.path.map (λs=>s.length+1)).sum+1)+(1+(1+(1+(GE.bk x.was+(GE.bk x.is+0))))))+1
noncomputable def x5 (n0:GC) (name1:zq):Option Int :=
 ((r7 n0.name name1).bind λv1=>some v1)
noncomputable def wT (s0:(List GE)) (del1:(GE->Option Bool)):Option (List GE) :=
 ((yo s0 del1).bind λv1=>(if (v1==(-1:Int))=true then some s0 else (lp (zY (λ(s1:Int×Int×(List GE))=>((zQ ((s1.2.2).length=s0.length) ((if (decide (s1.2.1 < ((s0.length:Nat):Int)))=true then ((zS s1.2.2 s1.2.1).bind λy14=>((del1 y14).bind λv15=>(if (!v15)=true then ((zS s1.2.2 s1.1).bind λy17=>some (.gV ((IntKind.wrap .i64 (s1.1+(1:Int))),(IntKind.wrap .i64 (s1.2.1+(1:Int))),(s1.2.2.set s1.1.toNat y14)))) else some (.gV (s1.1,(IntKind.wrap .i64 (s1.2.1+(1:Int))),s1.2.2))))) else some (.brk (s1.1,s1.2.1,s1.2.2))))):Option (Out _ (Int×Int×(List GE))))) (v1,(IntKind.wrap .i64 (v1+(1:Int))),s0)) λ(s1:Int×Int×(List GE))=>(zQ (0<=s1.1/\s1.1<=((s0.length:Nat):Int)) (((fL (s1.2.2.take s1.1.toNat++List.replicate (s0.length - s1.1.toNat) bL) (0:Int) s1.1).bind λm19=>some m19))))))
noncomputable def zdZ (x0:GE) (c0:Int):Option Bool :=
 some (x0.w7==c0)
noncomputable def zbM (l0:GE):Option GE :=
 ((yJ l0.y4).bind λv1=>((yk l0.x4).bind λv2=>some (GE.mk l0.w7 l0.n l0.time l0.z6 l0.text v1 v2)))
noncomputable def nH (x0:GE) (y1:GE):Option Int :=
 ((wr x0.w7 y1.w7).bind λv1=>some v1)
noncomputable def wl:Nat->(t0:(List GC))->(path1:(List zq))->(kind2:Int)->(l3:GE)->(there4:Bool)->Option (List GC)
 | 0,_,_,_,_,_=>none
 | n+1,t0,path1,kind2,l3,there4=>((zS path1 (0:Int)).bind λy1=>((zg t0 y1 (λx0 x1=>x5 x0 x1)).bind λv2=>((zS path1 (0:Int)).bind λy3=>(lp ((if v2.2=true then ((zS t0 v2.1).bind λy7=>some (.inr (y7.name,y7.leaves,y7.w5))) else some (.inr (y3,([]:List GE),([]:List GC)))):Option (_ ⊕ (zq×(List GE)×(List GC)))) λ(s1:zq×(List GE)×(List GC))=>(lp ((if (decide (((path1).length:Int) > (1:Int)))=true then ((fL path1 (1:Int) ((path1).length:Int)).bind λm20=>((wl n s1.2.2 m20 kind2 l3 there4).bind λv21=>some (.inr (s1.2.1,v21)))) else ((xw s1.2.1).bind λv22=>((wT v22 (λx0=>zdZ x0 kind2)).bind λv23=>(if there4=true then ((zbM l3).bind λv25=>(zQ ((v23).length+(([v25]:List GE)).length<=lim) (((qA (λx y=>nH x y) (v23++([v25]:List GE))).bind λv27=>some (.inr (v27,s1.2.2)))))) else some (.inr (v23,s1.2.2)))))):Option (_ ⊕ ((List GE)×(List GC)))) λ(s2:(List GE)×(List GC))=>((fL t0 (0:Int) v2.1).bind λm28=>((yP m28).bind λv29=>(if (decide ((IntKind.wrap .i64 (((s2.1).length:Int)+((s2.2).length:Int))) > (0:Int)))=true then (zQ ((v29).length+(([(GC.mk s1.1 s2.1 s2.2)]:List GC)).length<=lim) ((if v2.2=true then ((fL t0 (IntKind.wrap .i64 (v2.1+(1:Int))) ((t0).length:Int)).bind λm35=>(zQ (((v29++([(GC.mk s1.1 s2.1 s2.2)]:List GC))).length+(m35).length<=lim) (some ((v29++([(GC.mk s1.1 s2.1 s2.2)]:List GC))++m35)))) else ((fL t0 v2.1 ((t0).length:Int)).bind λm37=>(zQ (((v29++([(GC.mk s1.1 s2.1 s2.2)]:List GC))).length+(m37).length<=lim) (some ((v29++([(GC.mk s1.1 s2.1 s2.2)]:List GC))++m37))))))) else (if v2.2=true then ((fL t0 (IntKind.wrap .i64 (v2.1+(1:Int))) ((t0).length:Int)).bind λm40=>(zQ ((v29).length+(m40).length<=lim) (some (v29++m40)))) else ((fL t0 v2.1 ((t0).length:Int)).bind λm42=>(zQ ((v29).length+(m42).length<=lim) (some (v29++m42)))))))))))))
noncomputable def zn1 (t0:(List GC)) (path1:(List zq)) (kind2:Int) (l3:GE) (there4:Bool):Option (List GC):=ba λn=>wl n t0 path1 kind2 l3 there4
def nV (b:UInt8):Bool:=(decide (97<=b.toNat)&&decide (b.toNat<=122)) || (decide (65<=b.toNat)&&decide (b.toNat<=90)) || (decide (48<=b.toNat)&&decide (b.toNat<=57))
def other (r:Int):Bool:=!((decide (97<=r)&&decide (r<=122)) || (decide (65<=r)&&decide (r<=90)) || (decide (48<=r)&&decide (r<=57)))
def eJ (q:Int->Bool) (s:List UInt8) (i:Nat):Int :=
 if h:i < s.length then (if q (dec s i).1 then i else if (dec s i).2=0 then -1 else eJ q s (i+(dec s i).2)) else -1
termination_by s.length - i
decreasing_by omega
theorem zmj (s:List UInt8) (i:Nat) (h:i < s.length):1<=(dec s i).2:=by
 have hs:i < (⟨s.toArray⟩:ByteArray).size:=by simpa [ByteArray.size] using h
 by_cases ha:((⟨s.toArray⟩:ByteArray)[i]'hs).toNat < 128
 ·unfold dec;rw [decode_ascii _ i hs ha];exact oA _
 ·exact (decode_high _ i hs (by omega)).2
theorem zmk {s:List UInt8} {b:UInt8} (o:s[i]?=some b) (h:b.toNat < 128):dec s i=(b.toNat,1):=by
 have k:i < s.length:=(tm.1 o).1;have hs:i < (⟨s.toArray⟩:ByteArray).size:=by simpa [ByteArray.size] using k
 have e:((⟨s.toArray⟩:ByteArray)[i]'hs)=b:=by
  have p:((⟨s.toArray⟩:ByteArray)[i]'hs)=s[i]:=rfl
  simp_all
 unfold dec;rw [decode_ascii _ i hs (by simp_all),e]
theorem zsE {s:List UInt8} {b:UInt8} (o:s[i]?=some b) (h:128<=b.toNat):128<=(dec s i).1:=by
 have k:i < s.length:=(tm.1 o).1;have hs:i < (⟨s.toArray⟩:ByteArray).size:=by simpa [ByteArray.size] using k
 have e:((⟨s.toArray⟩:ByteArray)[i]'hs)=b:=by
  have p:((⟨s.toArray⟩:ByteArray)[i]'hs)=s[i]:=rfl
  simp_all
 exact (decode_high _ i hs (by simp_all)).1
theorem zce {b:UInt8}:other (b.toNat:Int)=!nV b:=by
 unfold other nV;congr 1
 grind
theorem ziq {s:List UInt8} (h:s.all nV=true):∀(n i:Nat),s.length - i=n->eJ other s i=-1
 | n,i,hn=>by
  rw [eJ.eq_def];by_cases hi:i < s.length
  ·rw [gI hi];have p:s[i]?=some s[i]:=s5 hi;have o:nV s[i]=true:=by simp_all
   have k:s[i].toNat < 128:=by
    unfold nV at o
    grind
   rw [zmk p k];simp only [zce,o,lH,tx,lg,Nat.one_ne_zero];exact ziq h (s.length - (i+1)) (i+1) rfl
  ·grind
 termination_by n=>n
 decreasing_by omega
theorem zfK {s:List UInt8} {k:Nat} {b:UInt8} (p:s[k]?=some b) (u:nV b=false):∀(n i:Nat),k - i=n->i<=k->0<=eJ other s i
 | n,i,hn,hik=>by
  have v:k < s.length:=(tm.1 p).1;have hi:i < s.length:=by omega
  rw [eJ.eq_def,gI hi];by_cases ho:other ((dec s i).1:Nat)=true
  ·simp_all
  ·rw [lq ho];have r:s[i]?=some s[i]:=s5 hi;have o:s[i].toNat < 128:=by
    refine Decidable.byContradiction λhh=>ho ?_;have:=zsE r (by omega);unfold other;simp;omega
   rw [zmk r o] at ho ⊢;rw [zce] at ho;have t:i ≠ k:=by
    grind
   simp only [Nat.one_ne_zero,lg];exact zfK p u (k - (i+1)) (i+1) rfl (by omega)
 termination_by n=>n
 decreasing_by omega

def fJ (s:zq):Bool:=decide (1<=s.length)&&decide (s.length<=12)&&s.all nV
def sY (p:List zq):Bool:=decide (1<=p.length)&&decide (p.length<=3)&&p.all fJ
theorem zvj (n:Nat):decide ((n:Int) >= 1)=decide (1<=n):=kP.2 (by omega)
theorem zvi (n:Nat):decide ((n:Int)<=12)=decide (n<=12):=kP.2 (by omega)
theorem zwC (n:Nat):decide ((n:Int)<=3)=decide (n<=3):=kP.2 (by omega)
theorem mz (s:zq):uS s=some (fJ s):=by
 unfold uS fJ;rw [zcp nV false]
 ·split
  ·grind
  ·rename_i h;simp only [kj,so] at h;have o:1<=s.length:=by omega
   have k:s.length<=12:=by omega
   cases ha:s.all nV <;> simp [o,k]
 ·intro i x _;unfold nV
  grind
theorem zfL (q:Int->Bool) (s:zq) {f:Nat->Option (Out Int Nat)} (o:∀i,f i=if i < s.length then (if q (dec s i).1=true then some (.ret (i:Int)) else some (.gV (i+(dec s i).2))) else some (.brk i)) :
  ∀(k i:Nat),s.length - i=k->lp (zY f i) (λ_=>some (-1:Int))=some (eJ q s i)
 | k,i,hk=>by
  rw [yE,eJ.eq_def,o];by_cases h:i < s.length
  ·have p:=zmj s i h;rw [lc h,gI h];by_cases hq:q (dec s i).1=true
   ·simp [hq]
   ·have h0:¬ (dec s i).2=0:=by omega
    simp only [lq hq,lq h0];exact zfL q s o (s.length - (i+(dec s i).2)) _ rfl
  ·rw [lq h,dif_neg h];rfl
 termination_by k=>k
 decreasing_by omega
theorem nX (s:zq):wu s (λx=>sn x)=some (!s.all nV):=by
 have e:(λx=>sn x)=λx=>some (other x):=by
  funext x;unfold sn other;congr 1
  grind
 unfold wu qY qz;rw [e,zfL other s (λi=>by simp) _ 0 rfl];simp only [tb];congr 1;cases h:s.all nV with
 | true=>rw [ziq h _ 0 rfl];rfl
 | false =>
  rw [List.all_eq_false] at h;obtain ⟨b,p,r⟩:=h;obtain ⟨k,o,rfl⟩:=je p;have:=zfK (s5 o) (by simp_all) _ 0 rfl (lX _);simp [this]
theorem zcj (s:zq):oF s=some (fJ s):=by
 unfold oF fJ;rw [nX,zvj,zvi];cases h1:decide (1<=s.length) <;> cases h2:decide (s.length<=12) <;> simp
theorem zhP {f:zq->Option Bool} {q:zq->Bool} (p:List zq) (k:∀x ∈ p,f x=some (q x)):xr p f=some (p.any q):=by
 unfold xr wQ;rw [sy p k];simp only [tb,sA]
theorem zf2 (p:List zq):oE p=some (sY p):=by
 unfold oE sY;rw [zhP (q:=λs=>!fJ s) p (λx _=>by unfold pL;rw [zcj];rfl),zvj,zwC];have e:p.any (λs=>!fJ s)=!p.all fJ:=by grind
 rw [e];cases h1:decide (1<=p.length) <;> cases h2:decide (p.length<=3) <;> simp
def zjt (a:GH):Bool:=decide (a.fj < 16)&&decide (a.inc >= 1)&&decide (a.inc<=4)
def fa (d:GA):Bool:=zjt d.zi&&decide (d.seq >= 1)&&decide (d.seq<=1048576)
theorem sD (d:GA):pB d=some (fa d):=rfl
theorem zbm (a:GH):ux a=some (zjt a):=by
 unfold ux zjt
 grind
theorem qM (d:GA):vg d=some (fa d):=by unfold vg;rw [zbm];rfl
def gU (a b:GA):Bool:=if a.zi.fj ≠ b.zi.fj then decide (a.zi.fj < b.zi.fj) else if a.zi.inc ≠ b.zi.inc then decide (a.zi.inc < b.zi.inc) else decide (a.seq < b.seq)
theorem vh (a b:GA):wg a b=some (gU a b):=by
 unfold wg gU
 grind
def tX (a b:Int):Int:=if a < b then -1 else if b < a then 1 else 0
theorem zhS (a b:Int):wr a b=some (tX a b):=by
 unfold wr qU tX;simp only [jn,tb,tx,lg,so,gT]
 grind
theorem zn7 (a b:Int):vQ a b=some (tX a b):=by
 unfold vQ qp tX;simp only [jn,tb,tx,lg,so,gT]
 grind
theorem zfq (a b:Int):x6 a b=some (tX a b):=by
 unfold x6 qn tX;simp only [jn,tb,tx,lg,so,gT]
 grind
def ao (a b:Int):Int:=if a ≠ 0 then a else b
theorem zat (a b:Int):rj [a,b]=some (ao a b):=by
 unfold rj ao;by_cases h1:a=0 <;> by_cases h2:b=0 <;> simp [zf,h1,h2]
def oY (a b:GH):Int:=ao (tX a.fj b.fj) (tX a.inc b.inc)
def zcM (a b:GA):Int:=ao (oY a.zi b.zi) (tX a.seq b.seq)
theorem mW (a b:GH):qT a b=some (oY a b):=by
 unfold qT;rw [zhS,zn7];simp only [tb];rw [zat];rfl
theorem vD (a b:GA):xN a b=some (zcM a b):=by
 unfold xN;rw [mW,zfq];simp only [tb];rw [zat];rfl
theorem oU (a b:GA):decide (zcM a b >= 0)=!gU a b:=by
 unfold zcM oY gU tX ao
 grind

def wn:List GA->Bool
 | a::b::r=>gU a b&&wn (b::r)
 | _=>true
def yz (ds:List GA) (i:Nat) (x:GA):Bool:=decide (i=0) || gU (ds.getD (i - 1) default) x
theorem mt (ds:List GA) {g:Nat->GA->Unit->Option (Out Bool Unit)}
  (u:∀i x,ds[i]?=some x->g i x ()=if (fa x&&yz ds i x)=true then some (.gV ()) else some (.ret false)) :
  lp (zf g ds 0 ()) (λ_=>some true)=some (ds.all fa&&wn ds):=by
 have key:∀(L pre:List GA),ds=pre++L->lp (zf g L pre.length ()) (λ_=>some true)=some (L.all fa&&wn (match pre.getLast? with | some y=>y::L | none=>L)):=by
  intro L
  induction L with
  | nil=>intro pre h;cases hp:pre.getLast? <;> simp [zf,wn]
  | cons x t ih =>
   intro pre h;have v:ds[pre.length]?=some x:=by rw [h];simp
   have k:=ih (pre++[x]) (by rw [h];simp);simp only [ng,m3,lF,l6,List.getLast?_append,gE,iP] at k;simp only [zf,u _ _ v];cases hp:pre.getLast? with
   | none =>
    have o:pre=[]:=gn.1 hp;subst o;simp only [lF,l6] at k ⊢;cases hd:fa x <;> simp [yz,hd,k]
   | some y =>
    have p:pre ≠ []:=by grind
    have h0:0 < pre.length:=iv.2 p;have r:ds.getD (pre.length - 1) default=y:=by
     grind
    have s:yz ds pre.length x=gU y x:=by
     unfold yz;rw [r]
     simp_all
    rw [s];cases hd:fa x <;> cases hlt:gU y x <;> simp [hd,hlt,k,wn]
 have:=key ds [] rfl
 simp_all
theorem zah {α:Type} [DecidableEq α] (M:List α) {eq:α->α->Bool} (k:∀a b,eq a b=decide (a=b)) {f:Nat->α->Unit->Option (Out Bool Unit)} :
  ∀(L:List α) (i:Nat),L.length+i=M.length->(∀j x,L[j]?=some x->f (i+j) x ()=(zS M ((i+j:Nat):Int)).bind λy=>if (!eq x y)=true then some (.ret false) else some (.gV ())) ->
  zf f L i ()=if L=M.drop i then some (.inr ()) else some (.inl false)
 | [],i,hl,_=>by
  rw [lZ (by simp_all)];rfl
 | x::t,i,hl,h=>by
  simp only [m3] at hl;have hi:i < M.length:=by omega
  have h0:=h 0 x rfl;simp only [jc] at h0;rw [tJ hi] at h0;have p:=zah M k (f:=f) t (i+1) (by omega) (λj y o=>by have:=h (j+1) y o;rw [show i+1+j=i+(j+1) by omega];exact this);have e:M.drop i=M[i]::M.drop (i+1):=(j5 hi).symm;simp only [zf,h0,tb,k,e]
  grind
theorem th (a b:GA):(a.zi.fj==b.zi.fj&&(a.zi.inc==b.zi.inc&&(a.seq==b.seq&&true)))=decide (a=b):=by
 rcases a with ⟨⟨p,o⟩,a3⟩;rcases b with ⟨⟨k,r⟩,s⟩
 grind
theorem pK (L M:List GA):qI L M=some (decide (L=M)):=by
 unfold qI;by_cases hl:L.length=M.length
 ·have e:((L.length:Int) != (M.length:Int))=false:=by simp;omega
  rw [e,zah M th L 0 (by omega) (λj x k=>by simp)];by_cases h:L=M <;> simp [h]
 ·have e:((L.length:Int) != (M.length:Int))=true:=by simp;omega
  rw [e,lP (λh=>hl (by rw [h]))];rfl
section
variable {α ρ:Type}
def allI (g:Nat->α->Bool) (L:List α):Bool:=L.zipIdx.all λp=>g p.2 p.1
theorem fg {g:Nat->α->Bool} {L:List α}:allI g L=true ↔ ∀i x,L[i]?=some x->g i x=true:=by
 unfold allI;rw [nK];constructor
 ·intro h i x k;exact h (x,i) (jA.2 k)
 ·grind
theorem zdB (g:Nat->α->Bool) {r:ρ} {f:Nat->α->Unit->Option (Out ρ Unit)}:∀(L:List α) (k:Nat),(∀i x,L[i]?=some x->f (k+i) x ()=if g (k+i) x=true then some (.gV ()) else some (.ret r)) ->
  zf f L k ()=if ((L.zipIdx k).all λp=>g p.2 p.1)=true then some (.inr ()) else some (.inl r)
 | [],_,_=>rfl
 | x::t,k,h=>by
  have h0:=h 0 x rfl;simp only [jc] at h0;have o:=zdB g (f:=f) (r:=r) t (k+1) (λi y s=>by have:=h (i+1) y (by simp_all);rw [show k+1+i=k+(i+1) by omega];exact this);simp only [zf,h0,iW,l8]
  grind
theorem qQ (g:Nat->α->Bool) {r:σ} {L:List α} {f:Nat->α->Unit->Option (Out σ Unit)} {rest:Unit->Option σ} (k:∀i x,L[i]?=some x->f i x ()=if g i x=true then some (.gV ()) else some (.ret r)) :
  lp (zf f L 0 ()) rest=if allI g L=true then rest () else some r:=by
 rw [zdB g L 0 (λi x o=>by simpa using k i x o)];unfold allI;split <;> rfl
theorem zhn (g:α->Bool) {r:σ} {L:List α} {f:Nat->α->Unit->Option (Out σ Unit)} {rest:Unit->Option σ} (o:∀i x,L[i]?=some x->f i x ()=if g x=true then some (.gV ()) else some (.ret r)) :
  lp (zf f L 0 ()) rest=if L.all g=true then rest () else some r:=by
 rw [qQ (λ_=>g) o];have:allI (λ_=>g) L=L.all g:=by
  rw [lQ,fg,nK];exact ⟨λh x k=>by obtain ⟨i,hi⟩:=lD.1 k;exact h i x hi,λh i x k=>h x (lf k)⟩
 rw [this]
end
theorem uO (k:j+1<=maxLen):IntKind.wrap .i64 (((j+1:Nat):Int) - 1)=(j:Int):=by
 simp only [maxLen] at k;rw [wW (by omega)];omega
theorem zkx (k:j+1<=maxLen):IntKind.wrap .i64 ((j:Int)+1)=((j+1:Nat):Int):=by
 simp only [maxLen] at k;rw [wW (by omega)];omega
theorem sX (j:Nat):decide (((j+1:Nat):Int) > 0)=true:=lN (by omega)
def tZ (n:Int):Bool:=decide (n >= 1)&&decide (n<=1099511627776)
def yc (a b:GF):Bool:=if a.time ≠ b.time then decide (a.time < b.time) else gU a.z6 b.z6
theorem mM (n:Int):s9 n=some (tZ n):=rfl
theorem mN (s:zq):uZ s=some (decide (s.length<=40)):=by unfold uZ;rw [kP.2 (show ((s.length:Int)<=40) ↔ s.length<=40 by omega)]
theorem zdX (a b:GA):decide (zcM a b < 0)=gU a b:=by
 have h:=oU a b
 grind
theorem uh (a:Int) (d:GA) (b:Int) (o:GA):qt a d b o=some (if a ≠ b then decide (a < b) else gU d o):=by
 unfold qt ug;rw [zfq,vD];simp only [tb,zat];congr 1;by_cases h:a=b
 ·subst h;have:tX a a=0:=by unfold tX;simp
  simp [ao,this,zdX]
 ·have:tX a b ≠ 0:=by unfold tX;split <;> (try split) <;> omega
  simp only [ao,this,ne_eq,gq,nv,h];unfold tX;rw [lQ];simp only [so];split <;> (try split) <;> omega
theorem pY (a:Int) (d:GA) (b:Int) (o:GA):qL a d b o=some (if a ≠ b then decide (a < b) else gU d o):=by
 unfold qL;by_cases h:a=b <;> simp [h,vh]
def aJ {α:Type} [Inhabited α] (L:List α) (i:Nat):α:=L.getD (i - 1) default
def uo (timed:Bool) (x:GF):Bool:=fa x.z6&&decide (x.text.length<=40)&&(if timed then tZ x.time else decide (x.time=0))
def fV (L:List GF):Bool:=allI (λi x=>decide (i=0) || yc (aJ L i) x) L
def fN (L:List GF):Bool:=decide ((L.map (·.z6)).Nodup)
theorem zaW (a b:GA):GA.fi a b=decide (a=b):=by unfold GA.fi;exact th a b
def tI (m:List (GA×Int)):List GA:=m.map (·.1)
theorem zlu (m:List (GA×Int)) (k:GA) (v:Int):tI (ut GA.fi m k v)=if k ∈ tI m then tI m else tI m++[k]:=by
 induction m with
 | nil=>simp [ut,tI]
 | cons e r ih =>
  simp only [ut,zaW];by_cases h:k=e.1
  ·simp [h,tI]
  ·simp only [lP h,tx,lg,tI,ld,lG] at ih ⊢
   grind
theorem o9:∀(L:List GF) (m:List (GA×Int)),(tI m).Nodup ->
  (L.foldl (λs x=>ut GA.fi s x.z6 (IntKind.wrap .i64 ((zG GA.fi 0 s x.z6)+1))) m).length<=m.length+L.length /\
  ((L.foldl (λs x=>ut GA.fi s x.z6 (IntKind.wrap .i64 ((zG GA.fi 0 s x.z6)+1))) m).length=m.length+L.length ↔ (tI m++L.map (·.z6)).Nodup)
 | [],m,h=>by simp [h]
 | x::t,m,h=>by
  simp only [jh];have k:=zlu m x.z6 (IntKind.wrap .i64 ((zG GA.fi 0 m x.z6)+1));generalize hm:ut GA.fi m x.z6 (IntKind.wrap .i64 ((zG GA.fi 0 m x.z6)+1))=m' at k;have u:m'.length=(tI m').length:=by simp [tI]
  have p:m.length=(tI m).length:=by simp [tI]
  by_cases hx:x.z6 ∈ tI m
  ·rw [lc hx] at k;have o:=o9 t m' (by simp_all)
   grind
  ·rw [lq hx] at k;have r:(tI m++[x.z6]).Nodup:=by
    grind
   have o:=o9 t m' (by simp_all)
   grind
theorem zeS (L:List GF):pn L=some (!fN L):=by
 unfold pn;rw [nA (λs x=>ut GA.fi s x.z6 (IntKind.wrap .i64 ((zG GA.fi 0 s x.z6)+1))) L 0 [] (λ_ _ _ _=>rfl)];have h:=o9 L [] (by simp [tI]);simp only [lF,l6,tI,kb,lC] at h;simp only [yL,fN];congr 1
 grind
theorem zeU (v:L.length<=maxLen) (k:Bool):su L k=some (L.all (uo k)&&fV L&&fN L):=by
 unfold su;rw [qQ (r:=false) (λi x=>uo k x&&(decide (i=0) || yc (aJ L i) x))]
 ·rw [zeS];have e:allI (λi x=>uo k x&&(decide (i=0) || yc (aJ L i) x)) L=(L.all (uo k)&&fV L):=by
   rw [lQ,tr,fV,fg,fg,nK];constructor
   ·intro h;exact ⟨λx o=>by obtain ⟨i,hi⟩:=lD.1 o;have:=h i x hi;simp only [tr] at this;exact this.1,λi x o=>by simp_all⟩
   ·grind
  grind
 ·intro i x o;have hi:i < L.length:=(tm.1 o).1;simp only [sD,mN,mM,tb,uh];have t:uo k x=(fa x.z6&&decide (x.text.length<=40)&&(k==tZ x.time)&&(k || decide (x.time=0))):=by
   unfold uo;cases k
   ·by_cases h0:x.time=0
    ·simp [h0,show tZ 0=false from rfl]
    ·simp [h0]
   ·simp
  rw [t];cases hd:fa x.z6
  ·simp
  cases ht:decide (x.text.length<=40)
  ·simp
  by_cases htt:k=tZ x.time
  ·have u:(x.time != 0)=!decide (x.time=0):=by rw [lQ];simp
   have p:(k==tZ x.time)=true:=by simp_all
   rw [u,p];cases hzz:(k || decide (x.time=0))
   ·simp_all
   have:(!k&&!decide (x.time=0))=false:=by grind
   rw [this];rcases i with _ | j
   ·simp [zQ,htt]
   ·rw [uO (by omega),sX];have s:(j:Int) < (L.length:Int):=by omega
    simp [zQ,s,aJ,yc,htt]
    grind
  ·grind

theorem zoN (a b:GF):(a.time==b.time&&(a.z6.zi.fj==b.z6.zi.fj&&(a.z6.zi.inc==b.z6.zi.inc&&(a.z6.seq==b.z6.seq&&(a.text==b.text&&true)))))=decide (a=b):=by
 rcases a with ⟨a0,⟨⟨p,o⟩,a3⟩,a4⟩;rcases b with ⟨b0,⟨⟨k,r⟩,t⟩,s⟩
 grind
theorem zag (L M:List GF):qi L M=some (decide (L=M)):=by
 unfold qi;by_cases hl:L.length=M.length
 ·have e:((L.length:Int) != (M.length:Int))=false:=by simp;omega
  rw [e,zah M zoN L 0 (by omega) (λj x k=>by simp)];by_cases h:L=M <;> simp [h]
 ·have e:((L.length:Int) != (M.length:Int))=true:=by simp;omega
  rw [e,lP (λh=>hl (by rw [h]))];rfl
theorem zhs (a b:GE):rb a b=some (decide (a=b)):=by
 unfold rb;simp only [zag,pK,th];rcases a with ⟨a0,r,p,a3,a4,a5,w⟩;rcases b with ⟨b0,k,t,v,u,o,s⟩
 simp only [GE.mk.injEq]
 grind
def bB:GA:=⟨⟨0,0⟩,0⟩
def p9 (l:GE):Bool:=decide (l.time=0)&&decide (l.z6=bB)&&decide (l.text=[])
def rq (l:GE):Bool:=l.x4.all fa&&wn l.x4&&l.x4.all (λd=>!l.y4.any λx=>decide (x.z6=d))
def fb (l:GE):Bool :=
 if l.w7=1 then p9 l&&decide (l.y4=[])&&decide (l.x4=[])
 else if l.w7=2 then decide (l.n=0)&&decide (l.y4=[])&&decide (l.x4=[])&&(if l.time=0 then decide (l.z6=bB)&&decide (l.text=[]) else tZ l.time&&fa l.z6&&decide (l.text.length<=40))
 else if l.w7=3 then decide (l.n=0)&&p9 l&&(l.y4.all (uo false)&&fV l.y4&&fN l.y4)&&rq l
 else if l.w7=4 then decide (l.n=0)&&p9 l&&decide (l.x4=[])&&(l.y4.all (uo true)&&fV l.y4&&fN l.y4)
 else false
theorem zcO {f:GF->Option Bool} (p:List GF) (k:∀x ∈ p,f x=some (q x)):xK p f=some (p.any q):=by
 unfold xK yw;rw [sy p k,tb,sA]
theorem zct (L:List GF) (d:GA):ra L d=some (L.any λx=>decide (x.z6=d)):=by
 unfold ra;rw [zcO (q:=λx=>decide (x.z6=d)) L (λx _=>by unfold nB;rw [th]),tb]
theorem sS (ds:List GA):wn ds=allI (λi x=>yz ds i x) ds:=by
 have h:=mt ds (g:=λi x _=>if (fa x&&yz ds i x)=true then some (.gV ()) else some (.ret false)) (λ_ _ _=>rfl);have key:∀(L pre:List GA),ds=pre++L->wn (match pre.getLast? with | some y=>y::L | none=>L)=(L.zipIdx pre.length).all λp=>yz ds p.2 p.1:=by
  intro L
  induction L with
  | nil=>intro pre _;cases pre.getLast? <;> simp [wn]
  | cons x t ih =>
   intro pre hd;have k:=ih (pre++[x]) (by rw [hd];simp);simp only [ng,m3,lF,l6,List.getLast?_append,gE,iP] at k;simp only [iW,l8];cases hp:pre.getLast? with
   | none =>
    have o:pre=[]:=gn.1 hp;subst o;simp only [lF,l6] at k ⊢;rw [k];simp [yz]
   | some y =>
    have r:pre ≠ []:=by grind
    have h0:0 < pre.length:=iv.2 r;have s:ds.getD (pre.length - 1) default=y:=by
     grind
    have u:yz ds pre.length x=gU y x:=by
     unfold yz;rw [s,lP (by omega)];rfl
    rw [u,<- k];simp [wn]
 simpa [allI] using key ds [] rfl
theorem zeT (p:l.x4.length<=maxLen):po l=some (rq l):=by
 unfold po;rw [qQ (r:=false) (λi x=>fa x&&yz l.x4 i x&&!(l.y4.any λy=>decide (y.z6=x)))]
 ·have e:allI (λi x=>fa x&&yz l.x4 i x&&!(l.y4.any λy=>decide (y.z6=x))) l.x4=rq l:=by
   unfold rq;rw [lQ,sS,tr,tr,fg,fg,nK,nK];constructor
   ·intro h;refine ⟨⟨λx k=>?_,λi x k=>?_⟩,λx k=>?_⟩
    ·obtain ⟨i,hi⟩:=lD.1 k;have:=h i x hi;simp only [tr] at this;exact this.1.1
    ·simp_all
    ·obtain ⟨i,hi⟩:=lD.1 k;have:=h i x hi;simp only [tr] at this;exact this.2
   ·grind
  grind
 ·intro i x k;have hi:i < l.x4.length:=(tm.1 k).1;simp only [sD,tb,vD,zct];cases hd:fa x
  ·rfl
  rcases i with _ | j
  ·cases hh:(l.y4.any λy=>decide (y.z6=x)) <;> simp [zQ,yz]
  ·rw [uO (by omega),sX];have s:(j:Int) < (l.x4.length:Int):=by omega
   have o:yz l.x4 (j+1) x=gU (l.x4.getD j default) x:=by rfl
   have e:=oU (l.x4.getD j default) x;rw [ze (by omega),o,nr]
   grind
theorem zaS (hi:l.y4.length<=maxLen) (s:l.x4.length<=maxLen):tH l=some (fb l):=by
 unfold tH fb;simp only [zhs,mM,sD,mN,zeU hi,zeT s,th,tb];rcases l with ⟨t,n,o,d,p,k,r⟩
 simp only [GE.mk.injEq,p9,ju,bB];by_cases h1:t=1
 ·simp only [h1,nv];congr 1;rw [lQ];simp [jK]
  grind
 by_cases h2:t=2
 ·subst h2;by_cases h0:o=0
  ·subst h0;by_cases hd:d=⟨⟨0,0⟩,0⟩
   ·by_cases hx:p=[]
    ·simp [hd,hx];rw [lQ];simp [jK]
    ·simp_all
   ·have C:((0:Int)==0&&!decide (d=⟨⟨0,0⟩,0⟩))=true:=by simp [hd]
    simp [hd];intro v;rcases d with ⟨⟨z,u⟩,w⟩
    simp_all
  ·cases htt:tZ o <;> cases hdd:fa d <;> cases hxx:decide (p.length<=40) <;> simp_all [jK]
   grind
 by_cases h3:t=3
 ·subst h3;cases ha:(k.all (uo false)&&fV k&&fN k) <;> cases hb:rq ⟨3,n,o,d,p,k,r⟩ <;> simp [jK]
  grind
 by_cases h4:t=4
 ·subst h4;cases ha:(k.all (uo true)&&fV k&&fN k) <;> simp [jK]
  grind
 simp_all

theorem zbd (L:List GF) (d:GA):rL L d=some (tO (λx=>decide (x.z6=d)) L):=by
 unfold rL;rw [mK (λx:GF=>decide (x.z6=d)) (λi _=>(i:Int)) _ _ (λi x _=>by rw [th])];unfold tO;cases h:L.findIdx? (λx=>decide (x.z6=d)) with
 | none=>simp
 | some j =>
  obtain ⟨k,_⟩:=jJ.1 h
  simp_all
theorem ue (L:List GA) (d:GA):uf L d=some (L.any λx=>decide (x=d)):=by
 unfold uf;rw [zhn (r:=true) (λx:GA=>!decide (x=d)) (λi x _=>by rw [th];cases decide (x=d) <;> rfl)]
 grind
theorem zhE (L:List GF):(∀(i:Nat) (x:GF),L[i]?=some x->tO (λy:GF=>decide (y.z6=x.z6)) L=(i:Int)) ↔ (L.map (·.z6)).Nodup:=by
 constructor
 ·intro h;rw [kF,lK];intro i j hi k o e;simp only [oS] at hi k;simp only [List.getElem_map] at e;have t:=h i _ (s5 hi);have s:=h j _ (s5 k)
  grind
 ·intro h i x r;obtain ⟨hi,rfl⟩:=tm.1 r;unfold tO;have:L.findIdx? (λy=>decide (y.z6=L[i].z6))=some i:=by
   rw [jJ];refine ⟨hi,by simp,λj k=>?_⟩;have p:j < L.length:=by omega
   simp only [so];intro e;rw [kF,lK] at h
   simp_all
  rw [this]
def oK (t:Int) (x:GF):Bool:=fa x.z6&&decide (x.text.length<=40)&&(decide (t ≠ 3) || decide (x.time=0))&&(decide (t ≠ 4) || tZ x.time)
def al (l:GE):Bool:=l.y4.all (oK l.w7)&&fN l.y4&&l.y4.all (λx=>!(l.x4.any λy=>decide (y=x.z6)))&&fV l.y4&&(l.x4.all fa&&wn l.x4)
theorem zj6 (l:GE):allI (λi x=>oK l.w7 x&&(decide (tO (λy:GF=>decide (y.z6=x.z6)) l.y4=(i:Int))&&(!(l.x4.any λy=>decide (y=x.z6))&&(decide (i=0) || yc (aJ l.y4 i) x)))) l.y4 =
  (l.y4.all (oK l.w7)&&fN l.y4&&l.y4.all (λx=>!(l.x4.any λy=>decide (y=x.z6)))&&fV l.y4):=by
 rw [lQ,fg];simp only [tr,so,fN,fV,fg,nK,<- zhE];constructor
 ·intro h;refine ⟨⟨⟨λx k=>?_,λi x k=>(h i x k).2.1⟩,λx k=>?_⟩,λi x k=>(h i x k).2.2.2⟩
  ·obtain ⟨i,hi⟩:=lD.1 k;exact (h i x hi).1
  ·obtain ⟨i,hi⟩:=lD.1 k;exact (h i x hi).2.2.1
 ·grind
theorem zjz (ds:List GA):allI (λi x=>fa x&&yz ds i x) ds=(ds.all fa&&wn ds):=by
 rw [lQ,fg,sS];simp only [tr,fg,nK];constructor
 ·intro h;exact ⟨λx k=>by obtain ⟨i,hi⟩:=lD.1 k;exact (h i x hi).1,λi x k=>(h i x k).2⟩
 ·grind
theorem zb9 (hi:l.y4.length<=maxLen) (P:l.x4.length<=maxLen) (h0:0<=l.time):ph l=some (fb l):=by
 unfold ph;simp only [qM,zbd,ue,pY,vh,tb,th];generalize hT:lp (zf _ l.y4 0 ()) _=T;have M:decide ((l.y4.length:Int) > 0)=!decide (l.y4=[]):=by cases l.y4 <;> simp
 have N:decide ((l.x4.length:Int) > 0)=!decide (l.x4=[]):=by cases l.x4 <;> simp
 have s:T=some (al l):=by
  rw [<- hT,qQ (r:=false) (λi x=>oK l.w7 x&&(decide (tO (λy:GF=>decide (y.z6=x.z6)) l.y4=(i:Int))&&(!(l.x4.any λy=>decide (y=x.z6))&&(decide (i=0) || yc (aJ l.y4 i) x))))]
  ·rw [qQ (r:=false) (λi x=>fa x&&yz l.x4 i x)]
   ·rw [zj6,zjz];unfold al;cases (l.y4.all (oK l.w7)&&fN l.y4&&l.y4.all (λx=>!(l.x4.any λy=>decide (y=x.z6)))&&fV l.y4) <;> cases (l.x4.all fa&&wn l.x4) <;> simp
   ·intro i x w;have v:i < l.x4.length:=(tm.1 w).1;have p:l.x4.getD i default=x:=by grind
    rcases i with _ | j
    ·cases hd:fa x <;> simp [zQ,yz]
    ·rw [uO (by omega),sX,nr,nr,p];have C:yz l.x4 (j+1) x=gU (l.x4.getD j default) x:=by rfl
     rw [ze (by omega),ze (by omega),C]
     grind
  ·intro i x w;have v:i < l.y4.length:=(tm.1 w).1;have E:decide ((x.text.length:Int) > 40)=!decide (x.text.length<=40):=by grind
   have J:(((l.w7==4)&&(decide (x.time < 1) || decide (x.time > 1099511627776))))=!(decide (l.w7 ≠ 4) || tZ x.time):=by
    rw [lQ];simp [tZ]
   have F:((l.w7==3)&&(x.time != 0))=!(decide (l.w7 ≠ 3) || decide (x.time=0)):=by grind
   rw [E,J,F];have O:(((!fa x.z6 || !decide (x.text.length<=40)) || !(decide (l.w7 ≠ 3) || decide (x.time=0))) || !(decide (l.w7 ≠ 4) || tZ x.time))=!oK l.w7 x:=by unfold oK;simp only [Bool.not_and]
   rw [O];have K:(tO (λy:GF=>decide (y.z6=x.z6)) l.y4 != (i:Int))=!decide (tO (λy:GF=>decide (y.z6=x.z6)) l.y4=(i:Int)):=by rfl
   cases hr:oK l.w7 x
   ·simp
   simp only [lH,jL,nv,tb,lR];rw [K];cases hf:decide (tO (λy:GF=>decide (y.z6=x.z6)) l.y4=(i:Int))
   ·simp
   cases htb:l.x4.any λy=>decide (y=x.z6)
   ·rcases i with _ | j
    ·rfl
    ·rw [uO (by omega),sX,nr];rw [ze (by omega),ze (by omega)];have C:(if (l.y4.getD j default).time ≠ x.time then decide ((l.y4.getD j default).time < x.time) else gU (l.y4.getD j default).z6 x.z6)=yc (aJ l.y4 (j+1)) x:=rfl
     grind
   ·simp
 subst s;clear hT;rw [M,N];have H:(l.time != 0)=!decide (l.time=0):=by rfl
 have G:(l.time==0)=decide (l.time=0):=by rfl
 have z3:(l.text==([]:zq))=decide (l.text=[]):=by grind
 have z4:decide (l.time > 1099511627776)=!decide (l.time<=1099511627776):=by grind
 have z5:decide ((l.text.length:Int) > 40)=!decide (l.text.length<=40):=by grind
 have u:p9 l=(decide (l.time=0)&&decide (l.z6=bB)&&decide (l.text=[])):=rfl;have I:(l.z6.zi.fj==0&&(l.z6.zi.inc==0&&(l.z6.seq==0&&true)))=decide (l.z6=bB):=th l.z6 bB;rw [H,G,z3,z4,z5,I];by_cases h1:l.w7=1
 ·have hi:decide (l.y4=[])=true->al l=(l.x4.all fa&&wn l.x4):=by
   intro h;have:=ke h;unfold al;rw [this];simp [fN,fV,allI]
  unfold fb;simp only [h1,nv,u];cases hi2:decide (l.y4=[])
  ·simp
  ·rw [hi hi2];cases ht2:decide (l.x4=[])
   ·simp
   ·have:=ke ht2;rw [this];cases decide (l.time=0) <;> cases decide (l.z6=bB) <;> cases decide (l.text=[]) <;> simp [wn]
 by_cases h2:l.w7=2
 ·have hi:decide (l.y4=[])=true->al l=(l.x4.all fa&&wn l.x4):=by
   intro h;have:=ke h;unfold al;rw [this];simp [fN,fV,allI]
  unfold fb;have o:tZ l.time=(!decide (l.time=0)&&decide (l.time<=1099511627776)):=by
   unfold tZ;rw [lQ];simp;omega
  simp only [h2,nv,o];cases hn:decide (l.n=0)
  ·simp_all
  ·have k:l.n=0:=ke hn;cases hi2:decide (l.y4=[])
   ·simp [k]
   ·rw [hi hi2];cases ht2:decide (l.x4=[])
    ·simp [k]
    ·have:=ke ht2;rw [this];by_cases ht0:l.time=0
     ·cases hdd:decide (l.z6=bB) <;> cases htx:decide (l.text=[]) <;> simp [k,ht0,wn]
     ·cases hm:decide (l.time<=1099511627776) <;> cases hdd:fa l.z6 <;> cases htx:decide (l.text.length<=40) <;> simp [k,ht0,wn]
 by_cases h3:l.w7=3
 ·have z:(λx=>oK 3 x)=uo false:=by
   funext x;unfold oK uo;simp
  have t:al l=(l.y4.all (uo false)&&fV l.y4&&fN l.y4&&rq l):=by
   unfold al rq
   grind
  unfold fb;simp only [h3,t,u];cases hn:decide (l.n=0)
  ·simp_all
  ·have k:l.n=0:=ke hn;cases decide (l.time=0) <;> cases decide (l.z6=bB) <;> cases decide (l.text=[]) <;> simp [k]
 by_cases h4:l.w7=4
 ·have z:(λx=>oK 4 x)=uo true:=by
   funext x;unfold oK uo;simp
  have t:decide (l.x4=[])=true->al l=(l.y4.all (uo true)&&fV l.y4&&fN l.y4):=by
   intro h;have:=ke h;unfold al;rw [h4,show oK 4=uo true from z,this];cases l.y4.all (uo true) <;> cases fN l.y4 <;> cases fV l.y4 <;> simp [wn]
  unfold fb;simp only [h4,u];cases hn:decide (l.n=0)
  ·simp_all
  ·have k:l.n=0:=ke hn;cases ht2:decide (l.x4=[])
   ·simp [k]
   ·rw [t ht2];cases decide (l.time=0) <;> cases decide (l.z6=bB) <;> cases decide (l.text=[]) <;> simp [k]
 have D:l.w7 < 1 \/ 4 < l.w7:=by omega
 have:(decide (l.w7 < 1) || decide (l.w7 > 4))=true:=by simp;omega
 unfold fb
 simp_all

mutual
def GC.dep:GC->Nat
 | ⟨_,_,sb⟩=>GC.fC sb+1
def GC.fC:List GC->Nat
 | []=>0
 | x::r=>max x.dep (GC.fC r)
end
theorem tR {x:GC}:∀{t:List GC},x ∈ t->x.dep<=GC.fC t
 | [],h=>by cases h
 | y::r,h=>by
  simp only [GC.fC];rcases lG.1 h with rfl | h
  ·omega
  ·have:=tR h;omega
theorem vp (x:GC):GC.fC x.w5+1=x.dep:=by cases x;simp [GC.dep]
def Small (t:List GC):Prop:=GC.ce t/\GC.eV t<=16777216
theorem zsM (x:GC):1<=x.bk:=by cases x;simp only [GC.bk];omega
theorem zhq:∀t:List GC,t.length<=GC.eV t
 | []=>by simp_all
 | x::r=>by have:=zhq r;have:=zsM x;simp only [GC.eV,m3];omega
theorem zgH {x:GC}:∀{t:List GC},x ∈ t->x.bk<=GC.eV t
 | [],h=>by cases h
 | y::r,h=>by
  simp only [GC.eV];rcases lG.1 h with rfl | h
  ·omega
  ·have:=zgH h;omega
theorem nh {α:Type} {f:α->Nat} (h:∀x,1<=f x):∀l:List α,l.length<=(l.map f).sum
 | []=>by simp
 | x::r=>by have:=nh h r;have:=h x;simp only [m3,ld,jO];omega
theorem zeo {α:Type} {f:α->Nat} {x:α}:∀{l:List α},x ∈ l->f x<=(l.map f).sum
 | [],h=>by cases h
 | y::r,h=>by
  simp only [ld,jO];rcases lG.1 h with rfl | h
  ·omega
  ·have:=zeo (f:=f) h;omega
theorem za4 (x:GC):x.name.length+1+((x.leaves.map GE.bk).sum+1)+(GC.eV x.w5+1)<=x.bk:=by cases x;simp only [GC.bk];omega
theorem Small.w5 {t:List GC} (h:Small t) {x:GC} (k:x ∈ t):Small x.w5:=by
 refine ⟨?_,by have:=zgH k;have:=za4 x;have:=h.2;omega⟩;have:=(GC.eH t).1 h.1 x k;cases x;simp only [GC.wf] at this;exact this.2.2
theorem Small.len {t:List GC} (h:Small t):t.length<=16777216:=lu (zhq t) h.2
structure fF (l:GE):Prop where
 y4:l.y4.length<=16777216
 x4:l.x4.length<=16777216
 time:0<=l.time
theorem Small.leaf {t:List GC} (h:Small t) {x:GC} (o:x ∈ t) {l:GE} (k:l ∈ x.leaves):fF l:=by
 have u:=zgH o;have r:=za4 x;have z:=h.2;have s:l.bk<=_:=zeo (f:=GE.bk) k;have w:(l.y4.map GF.bk).sum+1+((l.x4.map GA.bk).sum+1)<=l.bk:=by unfold GE.bk;omega
 have p:=nh (f:=GF.bk) (λx=>by unfold GF.bk;omega) l.y4;have v:=nh (f:=GA.bk) (λx=>by unfold GA.bk;omega) l.x4;refine ⟨by omega,by omega,?_⟩;have:=(GC.eH t).1 h.1 x o;cases x;simp only [GC.wf] at this;have:=this.2.1.2 l k;unfold GE.wf at this;have:=this.2.2.1;unfold dy at this;simp [IntKind.min,IntKind.max,IntKind.signed,IntKind.bits] at this;omega
theorem Small.leaves {t:List GC} (h:Small t) {x:GC} (k:x ∈ t):x.leaves.length<=16777216:=by
 have r:=zgH k;have p:=za4 x;have s:=h.2;have o:=nh (f:=GE.bk) (λx=>by unfold GE.bk;omega) x.leaves;omega
def cW (t:List GC):Bool:=allI (λi x=>decide (i=0) || Op.bytesLess (t.getD (i - 1) default).name x.name) t
def fM (ls:List GE):Bool:=allI (λi l=>fb l&&(decide (i=0) || decide ((ls.getD (i - 1) default).w7 < l.w7))) ls
mutual
def pk (d:Nat):GC->Bool
 | ⟨nm,ls,sb⟩=>fJ nm&&!(ls.isEmpty&&sb.isEmpty)&&((sb.isEmpty || decide (d+1 < 3))&&cW sb&&uJ (d+1) sb)&&fM ls
def uJ (d:Nat):List GC->Bool
 | []=>true
 | x::r=>pk d x&&uJ d r
end
def gY (d:Nat) (t:List GC):Bool:=(t.isEmpty || decide (d < 3))&&cW t&&uJ d t
theorem xe (d:Nat):∀t,uJ d t=t.all (pk d)
 | []=>rfl
 | x::r=>by simp only [uJ,l8,xe d r]
theorem sZ (d:Nat) (x:GC):pk d x=(fJ x.name&&!(x.leaves.isEmpty&&x.w5.isEmpty)&&gY (d+1) x.w5&&fM x.leaves):=by cases x;rfl
theorem zh7 (d:Nat) (t:List GC):allI (λi x=>pk d x&&(decide (i=0) || Op.bytesLess (t.getD (i - 1) default).name x.name)) t=(cW t&&uJ d t):=by
 rw [lQ,fg,xe];simp only [tr,cW,fg,nK];constructor
 ·intro h;exact ⟨λi x k=>(h i x k).2,λx k=>by obtain ⟨i,hi⟩:=lD.1 k;exact (h i x hi).1⟩
 ·grind
theorem zvW {α:Type} (l:List α):((l.length:Int)==0)=l.isEmpty:=by cases l <;> simp;omega
theorem za9:∀(n:Nat) (t:List GC) (d:Nat),GC.fC t < n->d<=3->Small t->uQ n t (d:Int)=some (gY d t)
 | 0,_,_,h,_,_=>by omega
 | n+1,t,d,h,hd,hs=>by
  unfold uQ;by_cases hc:(decide ((t.length:Int) > 0)&&((d:Int)==3))=true
  ·rw [lc hc];simp only [tr,so,ju] at hc;have:t.isEmpty=false:=by grind
   have k:decide (d < 3)=false:=lP (by omega);simp [gY,this,k]
  ·rw [lq hc];have w:(t.isEmpty || decide (d < 3))=true:=by
    simp only [tr,so,ju] at hc;cases t with
    | nil=>rfl
    | cons x r=>simp at hc ⊢;omega
   have O:=hs.len;rw [qQ (r:=false) (λi x=>pk d x&&(decide (i=0) || Op.bytesLess (t.getD (i - 1) default).name x.name)),zh7]
   ·unfold gY;rw [w,lA]
    grind
   ·intro i x D;have hi:i < t.length:=(tm.1 D).1;have s:=lf D;have E:=tR s;have H:=vp x;have F:0 < t.length:=by omega
    have k:d < 3:=by
     grind
    have K:IntKind.wrap .i64 ((d:Int)+1)=((d+1:Nat):Int):=by rw [wW (by omega)];omega
    have N:=za9 n x.w5 (d+1) (by omega) (by omega) (hs.w5 s);have G:=hs.leaves s;have I:=(hs.w5 s).len;have v:IntKind.wrap .i64 ((x.leaves.length:Int)+(x.w5.length:Int))=((x.leaves.length+x.w5.length:Nat):Int):=by rw [wW (by omega)];omega
    have J:((((x.leaves.length+x.w5.length:Nat):Int))==0)=(x.leaves.isEmpty&&x.w5.isEmpty):=by
     cases h1:x.leaves <;> cases h2:x.w5 <;> simp <;> omega
    rw [zcj,K,N,v,J,sZ];have z:lp (zf (λ(n2:Nat) (C:GE) (s2:Unit)=>(((tH C).bind λp=>(zQ ((((!p)==false)&&((decide ((n2:Int) > (0:Int)))==true))=true->0<=(IntKind.wrap .i64 ((n2:Int) - (1:Int)))/\(IntKind.wrap .i64 ((n2:Int) - (1:Int))) < ((x.leaves).length:Int)) ((if ((!p) || ((decide ((n2:Int) > (0:Int)))&&(decide (((x.leaves).getD (IntKind.wrap .i64 ((n2:Int) - (1:Int))).toNat default).w7 >= C.w7))))=true then some (.ret (.ret false)) else some (.gV ()))))):Option (Out (Out Bool Unit) Unit))) x.leaves 0 ()) (λ(s2:Unit)=>some (.gV ()))=if fM x.leaves=true then some (.gV ()) else some (.ret false):=by
     rw [qQ (r:=.ret false) (λi l=>fb l&&(decide (i=0) || decide ((x.leaves.getD (i - 1) default).w7 < l.w7)))]
     ·rfl
     ·intro j l o;have M:j < x.leaves.length:=(tm.1 o).1;have u:=hs.leaf s (lf o);rw [zaS (by have:=u.y4;simp only [maxLen];omega) (by have:=u.x4;simp only [maxLen];omega)];simp only [tb];rcases j with _ | j
      ·cases fb l <;> simp [zQ]
      ·rw [uO (by simp only [maxLen];omega),sX,nr,ze (by omega)]
       grind
    rw [z];simp only [tb];rcases i with _ | j
    ·cases fJ x.name <;> cases (x.leaves.isEmpty&&x.w5.isEmpty) <;> cases gY (d+1) x.w5 <;> cases fM x.leaves <;> simp [zQ]
    ·rw [uO (by simp only [maxLen];omega),sX,nr,ze (by omega),iG]
     grind
theorem nc {t:List GC} (h:Small t):uB t=some (gY 0 t):=by
 unfold uB zei;have:=tT (g:=λn=>uQ n t 0) (r:=gY 0 t) (GC.fC t+1) (λn k=>by have:=za9 n t 0 (by omega) (by omega) h;simpa using this)
 simp_all
theorem zak:∀(n:Nat) (t:List GC) (d:Nat),GC.fC t < n->d<=3->Small t->qJ n t (d:Int)=some (gY d t)
 | 0,_,_,h,_,_=>by omega
 | n+1,t,d,h,hd,hs=>by
  unfold qJ;have I:=hs.len;rw [qQ (r:=false) (λi x=>decide (d < 3)&&(pk d x&&(decide (i=0) || Op.bytesLess (t.getD (i - 1) default).name x.name)))]
  ·have e:allI (λi x=>decide (d < 3)&&(pk d x&&(decide (i=0) || Op.bytesLess (t.getD (i - 1) default).name x.name))) t=gY d t:=by
    unfold gY;rw [Bool.and_assoc,<- zh7];cases hd3:decide (d < 3)
    ·cases t with
     | nil=>rfl
     | cons x r=>simp [allI]
    ·simp
   grind
  ·intro i x w;have hi:i < t.length:=(tm.1 w).1;have p:=lf w;have z:=tR p;have D:=vp x;have s:decide ((d:Int) >= 3)=!decide (d < 3):=by grind
   rw [s];by_cases hd3:d < 3
   ·have E:IntKind.wrap .i64 ((d:Int)+1)=((d+1:Nat):Int):=by rw [wW (by omega)];omega
    have H:=zak n x.w5 (d+1) (by omega) (by omega) (hs.w5 p);have C:=hs.leaves p;rw [mz,E,H,sZ,zvW,zvW];have v:lp (zf (λ(n2:Nat) (F:GE) (s2:Unit)=>(((ph F).bind λv50=>(zQ ((((!v50)==false)&&((decide ((n2:Int) > (0:Int)))==true))=true->0<=(IntKind.wrap .i64 ((n2:Int) - (1:Int)))/\(IntKind.wrap .i64 ((n2:Int) - (1:Int))) < ((x.leaves).length:Int)) ((zQ ((((!v50)==false)&&((decide ((n2:Int) > (0:Int)))==true))=true->0<=(n2:Int)/\(n2:Int) < ((x.leaves).length:Int)) ((if ((!v50) || ((decide ((n2:Int) > (0:Int)))&&(decide (((x.leaves).getD (IntKind.wrap .i64 ((n2:Int) - (1:Int))).toNat default).w7 >= ((x.leaves).getD (n2:Int).toNat default).w7))))=true then some (.ret (.ret false)) else some (.gV ()))))))):Option (Out (Out Bool Unit) Unit))) x.leaves 0 ()) (λ(s2:Unit)=>some (.gV ()))=if fM x.leaves=true then some (.gV ()) else some (.ret false):=by
     rw [qQ (r:=.ret false) (λi l=>fb l&&(decide (i=0) || decide ((x.leaves.getD (i - 1) default).w7 < l.w7)))]
     ·rfl
     ·intro j l o;have G:j < x.leaves.length:=(tm.1 o).1;have u:x.leaves.getD j default=l:=by simp_all
      have k:=hs.leaf p (lf o);rw [zb9 (by have:=k.y4;simp only [maxLen];omega) (by have:=k.x4;simp only [maxLen];omega) k.time];simp only [tb];rcases j with _ | j
      ·cases fb l <;> simp [zQ]
      ·rw [uO (by simp only [maxLen];omega),sX,nr,nr,u,ze (by omega),ze (by omega)]
       grind
    rw [v,lN hd3];simp only [tb,lH,lR,lA,jL,nv];rcases i with _ | j
    ·cases fJ x.name <;> cases (x.leaves.isEmpty&&x.w5.isEmpty) <;> cases gY (d+1) x.w5 <;> cases fM x.leaves <;> simp [zQ]
    ·rw [uO (by simp only [maxLen];omega),sX,nr,ze (by omega),iG]
     grind
   ·rw [lP hd3];rfl
theorem zb8 {t:List GC} (h:Small t):ou t=some (gY 0 t):=by
 unfold ou zb7;have:=tT (g:=λn=>qJ n t 0) (r:=gY 0 t) (GC.fC t+1) (λn k=>by have:=zak n t 0 (by omega) (by omega) h;simpa using this)
 simp_all

theorem zgd {ρ:Type} {f:σ->Option (Out ρ σ)} (p:σ->Prop) (r:σ->Nat) (h:∀s,p s->(∃o,f s=some (.brk o)) \/ ∃o,f s=some (.gV o)/\p o/\r o < r s):∀(k:Nat) (s:σ),r s=k->p s->∃o,zY f s=some (.inr o):=by
 intro k
 induction k using Nat.strongRecOn with
 | _ k ih =>
  intro s t hi;rw [yE];rcases h s hi with ⟨o,e⟩ | ⟨o,e,v,u⟩
  ·simp_all
  ·grind
theorem zpX {ρ:Type} {f:σ->Option (Out ρ σ)} {rest:σ->Option ρ} (k:σ->Prop) (p:σ->Nat) (t:∀s,∃v,rest s=some v) (r:σ) (hi:k r) (h:∀s,k s->(∃o,f s=some (.brk o)) \/ ∃o,f s=some (.gV o)/\k o/\p o < p s):∃v,lp (zY f r) rest=some v:=by
 obtain ⟨o,e⟩:=zgd k p h _ r rfl hi
 simp_all
theorem zqa {α:Type} {L:List α} {i:Int} {x:α} (h:zS L i=some x):x ∈ L:=by
 unfold zS at h
 grind
theorem zik:∀(n:Nat) (t:List GC) (d:Int),GC.fC t < n->Small t->∃v,xC n t d=some v
 | 0,_,_,h,_=>by omega
 | n+1,t,d,h,hs=>by
  unfold xC;have K:=hs.len;refine zpX (λs=>0<=s.2/\s.2<=(t.length:Int)) (λs=>(t.length - s.2.toNat)) (λ_=>⟨_,rfl⟩) _ ⟨by simp,by simp⟩ (λs hi=>?_);rcases s with ⟨a,i⟩
  obtain ⟨k,rfl⟩:∃k:Nat,i=(k:Int):=⟨i.toNat,by have:=hi.1;simp at this;omega⟩
  by_cases hc:(decide ((k:Int) < (t.length:Int))&&decide (d < 10))=true
  ·right;simp only [tr,so] at hc;have z:k < t.length:=by omega
   have D:t[k] ∈ t:=j0 z;have F:=tR D;have H:=vp t[k];obtain ⟨v,I⟩:=zik n t[k].w5 (IntKind.wrap .i64 (d+1)) (by omega) (hs.w5 D);have G:=hs.leaves D;obtain ⟨s2,E⟩:=zgd (ρ:=Out Int (Int×Int)) (σ:=Int×Int) (f:=λs2:Int×Int=>(((zS t (k:Int)).bind λw=>(if decide (s2.2 < ((w.leaves).length:Int))=true then ((zS t (k:Int)).bind λr=>((zS r.leaves s2.2).bind λo=>(lp (zf (λ(J:Nat) (C:GF) (u:Int)=>(some (.gV (IntKind.wrap .i64 ((IntKind.wrap .i64 (u+(1:Int)))+((C.text).length:Int)))):Option (Out _ Int))) o.y4 0 (IntKind.wrap .i64 ((IntKind.wrap .i64 ((IntKind.wrap .i64 (s2.1+(1:Int)))+((o.text).length:Int)))+((o.x4).length:Int)))) λ(u:Int)=>some (.gV (u,(IntKind.wrap .i64 (s2.2+(1:Int)))))))) else some (.brk (s2.1,s2.2)))):Option (Out (Out Int (Int×Int)) (Int×Int))))
    (λs=>0<=s.2/\s.2<=(t[k].leaves.length:Int)) (λs=>(t[k].leaves.length - s.2.toNat)) (λs hi=>by
     rcases s with ⟨b,i⟩
     obtain ⟨q,rfl⟩:∃q:Nat,i=(q:Int):=⟨i.toNat,by have:=hi.1;simp at this;omega⟩
     simp only [tJ z,tb];by_cases hq:q < t[k].leaves.length
     ·right;have p:decide ((q:Int) < (t[k].leaves.length:Int))=true:=by simpa using hq
      simp only [p,nv,tJ hq,tb];rw [nA (λ(u:Int) (C:GF)=>IntKind.wrap .i64 ((IntKind.wrap .i64 (u+(1:Int)))+((C.text).length:Int))) _ 0 _ (λ_ _ _ _=>rfl),yL];refine ⟨_,rfl,?_,?_⟩
      ·simp only;rw [wW (by omega)];omega
      ·simp only;rw [wW (by omega)];omega
     ·left;have p:decide ((q:Int) < (t[k].leaves.length:Int))=false:=by simp;omega
      simp only [p];exact ⟨_,rfl⟩) _ ((IntKind.wrap .i64 ((IntKind.wrap .i64 ((IntKind.wrap .i64 (a+(1:Int)))+((t[k].name).length:Int)))+v)),(0:Int)) rfl ⟨by simp,by simp⟩
   refine ⟨(s2.1,IntKind.wrap .i64 ((k:Int)+1)),?_,?_,?_⟩
   ·simp only [hc,jq,lI,nv,tJ z,tb,I];simp only [tJ z,tb] at E;rw [E];rfl
   ·simp only;rw [wW (by omega)];omega
   ·simp only;rw [wW (by omega)];omega
  ·left;refine ⟨(a,(k:Int)),?_⟩;simp only at hc ⊢
   grind
theorem zb1:∀(n m:Nat) (t:List GC) (d:Int),GC.fC t < n->GC.fC t < m->xC n t d=xC m t d
 | 0,_,_,_,h,_=>by omega
 | _+1,0,_,_,_,h=>by omega
 | n+1,m+1,t,d,h1,h2=>by
  unfold xC;congr 2;funext s;split
  ·cases hx:zS t s.2 with
   | none=>rfl
   | some y =>
    have k:=tR (zqa hx);have o:=vp y;simp only [tb];rw [zb1 n m y.w5 _ (by omega) (by omega)]
  ·rfl
theorem zde {t:List GC} (h:Small t):∃b,qK t=some b:=by
 unfold qK nk;obtain ⟨v,k⟩:∃v,∀n,GC.fC t+1<=n->xC n t 0=some v:=by
  obtain ⟨v,k⟩:=zik (GC.fC t+1) t 0 (by omega) h;exact ⟨v,λn o=>by rw [zb1 n (GC.fC t+1) t 0 (by omega) (by omega)];exact k⟩
 rw [tT (GC.fC t+1) k]
 simp_all

theorem oV {α:Type} {L:List α} (h:L.length<=lim):(bF L λk=>(if k=true then some ([]:List α) else (zQ ((([]:List α)).length+L.length<=lim) (some (([]:List α)++L)))))=some L:=by
 refine zpS ?_ λe=>by subst e;rfl
 rw [ze (by simpa using h)];simp
theorem mZ {L:List zq} (h:L.length<=lim):vd L=some L:=oV h
theorem um (h:L.length<=lim):yJ L=some L:=oV h
theorem wF {L:List GA} (h:L.length<=lim):yk L=some L:=oV h
mutual
def pg (a:List zq):GC->List GN
 | ⟨nm,ls,sb⟩=>ls.map (λl=>GN.mk (a++[nm]) l)++zw (a++[nm]) sb
def zw (a:List zq):List GC->List GN
 | []=>[]
 | x::r=>pg a x++zw a r
end
mutual
def zhz (is:List zq->Bool) (a:List zq):GC->GC
 | ⟨nm,ls,sb⟩=>⟨nm,if is (a++[nm])=true then ls else [],zhA is (a++[nm]) sb⟩
def zhA (is:List zq->Bool) (a:List zq):List GC->List GC
 | []=>[]
 | x::r=>if (zhz is a x).leaves.isEmpty&&(zhz is a x).w5.isEmpty then zhA is a r else zhz is a x::zhA is a r
end
theorem wJ (a:List zq) (x:GC):pg a x=x.leaves.map (λl=>GN.mk (a++[x.name]) l)++zw (a++[x.name]) x.w5:=by cases x;rfl
theorem xc (a:List zq):∀t,zw a t=t.flatMap (pg a)
 | []=>rfl
 | x::r=>by simp only [zw,jf,xc a r]
theorem rS {α β ρ:Type} (p:α->Bool) (g:α->β) {f:Nat->α->List β->Option (Out ρ (List β))}:∀(L:List α) (i:Nat) (s:List β),s.length+L.length<=lim->(∀i x s,x ∈ L->s.length+1<=lim->f i x s=if p x=true then some (.gV (s++[g x])) else some (.gV s)) ->
  zf f L i s=some (.inr (s++(L.filter p).map g))
 | [],_,s,_,_=>by simp [zf]
 | x::t,i,s,hl,h=>by
  simp only [m3] at hl;simp only [zf,h i x s (ja ..) (by omega),jG];cases hp:p x
  ·simp only [tx,lg];exact rS p g t (i+1) s (by omega) λi x s k=>h i x s (kQ _ k)
  ·simp only [nv];rw [rS p g t (i+1) (s++[g x]) (by simp;omega) λi x s k=>h i x s (kQ _ k)];simp
theorem zn2:∀(n:Nat) (t:List GC),GC.fC t<=n->GC.fC t<=GC.eV t:=by
 intro n
 induction n with
 | zero=>intro t k;omega
 | succ n ih =>
  intro t
  induction t with
  | nil=>intro _;simp [GC.fC]
  | cons x r ihr =>
   intro k;simp only [GC.fC] at k ⊢;simp only [GC.eV];have s:=ihr (by omega);have o:=vp x;have u:=ih x.w5 (by omega);have p:=za4 x;omega
theorem Small.dep {t:List GC} (h:Small t):GC.fC t<=16777216:=lu (zn2 _ t (oA _)) h.2
theorem xW:∀{a b c:List UInt8},Op.bytesLess a b=true->Op.bytesLess b c=true->Op.bytesLess a c=true
 | _,[],_,h,_=>by cases ‹List UInt8› <;> simp [Op.bytesLess] at h
 | a,b::y,[],_,h=>by simp [Op.bytesLess] at h
 | [],b::y,c::z,_,_=>rfl
 | a::x,b::y,c::z,o,k=>by
  simp only [Op.bytesLess,kj,so,tr,ju] at o k ⊢;rcases o with o | ⟨rfl,o⟩
  ·grind
  ·rcases k with k | ⟨rfl,k⟩
   ·simp_all
   ·right;exact ⟨rfl,xW o k⟩
theorem tv (t:List GC):cW t=true ↔ t.Pairwise (λx y=>Op.bytesLess x.name y.name=true):=by
 unfold cW;rw [fg];constructor
 ·intro h;rw [lK];intro i j hi o p;obtain ⟨k,rfl⟩:∃k,j=i+1+k:=⟨j - i - 1,by omega⟩
  induction k with
  | zero =>
   have:=h (i+1) _ (s5 o)
   simp_all
  | succ k ih =>
   have r:=ih (by omega) (by omega);have:=h (i+1+(k+1)) _ (s5 o);simp only [kj,so] at this;rcases this with h0 | h0
   ·omega
   ·rw [show i+1+(k+1) - 1=i+1+k by omega,lz,s5 (by omega)] at h0;exact xW r h0
 ·intro h i x s;rcases i with _ | i
  ·rfl
  ·rw [lK] at h
   grind
section
variable (is:List zq->Bool)
theorem qE {M:List GC->Prop} (h0:M []) (k:∀x r,M x.w5->M r->M (x::r)):∀t,M t:=by
 have key:∀(n:Nat) (t:List GC),GC.fC t<=n->M t:=by
  intro n
  induction n with
  | zero =>
   intro t h;cases t with
   | nil=>exact h0
   | cons x r=>simp only [GC.fC] at h;have:=vp x;omega
  | succ n ih =>
   intro t
   induction t with
   | nil=>intro _;exact h0
   | cons x r ihr =>
    intro h;simp only [GC.fC] at h;have:=vp x
    grind
 exact λt=>key _ t (oA _)
theorem zdJ:∀(t:List GC) (a:List zq),(GC.ce t->GC.ce (zhA is a t))/\GC.eV (zhA is a t)<=GC.eV t:=by
 refine qE (λa=>⟨λh=>h,oA _⟩) ?_;intro x r o k a;have s:(zhz is a x).bk<=x.bk:=by
  have:=(o (a++[x.name])).2;cases x with
  | mk nm ls sb =>
   simp only [zhz,GC.bk] at this ⊢
   grind
 have p:x.wf->(zhz is a x).wf:=by
  have:=(o (a++[x.name])).1;cases x with
  | mk nm ls sb =>
   simp only [zhz,GC.wf] at this ⊢
   grind
 simp only [zhA];split
 ·refine ⟨λh=>(k a).1 (by simp only [GC.ce] at h;exact h.2),?_⟩;have:=(k a).2;simp only [GC.eV];omega
 ·refine ⟨λh=>?_,?_⟩
  ·simp only [GC.ce] at h ⊢;exact ⟨p h.1,(k a).1 h.2⟩
  ·have:=(k a).2;simp only [GC.eV];omega
theorem Small.g7 {t:List GC} (h:Small t) (a:List zq):Small (zhA is a t):=⟨(zdJ is t a).1 h.1,lu (zdJ is t a).2 h.2⟩
end
theorem zdf (l:GE):ov l l=some true:=by
 unfold ov;simp only [th,zoN];rw [lq (by simp),qQ (r:=false) (λ_ _=>true),qQ (r:=false) (λ_ _=>true)]
 ·simp [allI]
 ·intro i x k;have hi:=(tm.1 k).1;have o:l.x4[i]=x:=(tm.1 k).2;rw [tJ hi,o];simp
 ·intro i x k;have hi:=(tm.1 k).1;have o:l.y4[i]=x:=(tm.1 k).2;rw [tJ hi,o];simp
theorem nQ:∀(n:Nat) (t:List GC),GC.fC t < n->uI n t t=some true
 | 0,_,h=>by omega
 | n+1,t,h=>by
  unfold uI;rw [lq (by simp),qQ (r:=false) (λ_ _=>true)]
  ·simp [allI]
  ·intro i x o;have hi:=(tm.1 o).1;have u:t[i]=x:=(tm.1 o).2;have hd:t.getD i default=x:=by simp_all
   have s:=tR (lf o);have w:=vp x;rw [tJ hi,u];simp only [tb,nr,hd,nQ n x.w5 (by omega)];rw [ze (by omega),ze (by omega),ze (by omega),ze (by omega)];rw [qQ (r:=.ret false) (λ_ _=>true)]
   ·simp [allI]
   ·intro j l p;have v:=(tm.1 p).1;have k:x.leaves[j]=l:=(tm.1 p).2;rw [tJ v,k];simp [zdf]
theorem zdd (t:List GC):uc t t=some true:=by
 unfold uc;exact tT (GC.fC t+1) λn k=>nQ n t (by omega)

theorem ze5 {lo hi:Nat} (h:lo < hi) (s:hi<=4611686018427387904):IntKind.wrap .i64 (Int.fdiv (IntKind.wrap .u64 (IntKind.wrap .i64 ((lo:Int)+(hi:Int)))) (2 ^ (min (1:Int).toNat (IntKind.bits .u64))))=(((lo+hi) / 2:Nat):Int):=by
 have k:IntKind.wrap .i64 ((lo:Int)+(hi:Int))=((lo+hi:Nat):Int):=by rw [wW (by omega)];omega
 have r:IntKind.wrap .u64 (((lo+hi:Nat):Int))=((lo+hi:Nat):Int):=by rw [IntKind.wrap_u64];omega
 have o:(2:Int) ^ (min (1:Int).toNat (IntKind.bits .u64))=2:=by decide
 rw [k,r,o,Int.fdiv_eq_ediv_of_nonneg _ (by decide)];have p:((lo+hi:Nat):Int) / 2=(((lo+hi) / 2:Nat):Int):=by omega
 rw [p,wW (by omega)]
theorem zqA {cmp:GC->zq->Option Int} {x:List GC} {s:zq} (G:x.length<=16777216) (C:∀i n,x[i]?=some n->∃v,cmp n s=some v/\(i < c->v < 0)/\(c<=i->0<=v)) :
  ∀(k lo hi:Nat),hi - lo<=k->lo<=c->c<=hi->hi<=x.length->zY (ρ:=Int×Bool) (λ(o:Int×Int)=>((if (decide (o.1 < o.2))=true then ((zS x (IntKind.wrap .i64 ((Int.fdiv (IntKind.wrap .u64 ((IntKind.wrap .i64 (o.1+o.2)))) (2 ^ (min (1:Int).toNat (IntKind.bits .u64))))))).bind λD=>((cmp D s).bind λp=>(if (decide (p < (0:Int)))=true then some (.gV ((IntKind.wrap .i64 ((IntKind.wrap .i64 ((Int.fdiv (IntKind.wrap .u64 ((IntKind.wrap .i64 (o.1+o.2)))) (2 ^ (min (1:Int).toNat (IntKind.bits .u64))))))+(1:Int))),o.2)) else some (.gV (o.1,(IntKind.wrap .i64 ((Int.fdiv (IntKind.wrap .u64 ((IntKind.wrap .i64 (o.1+o.2)))) (2 ^ (min (1:Int).toNat (IntKind.bits .u64))))))))))) else some (.brk (o.1,o.2))):Option (Out _ (Int×Int)))) ((lo:Int),(hi:Int))=some (.inr ((c:Int),(c:Int))):=by
 intro k
 induction k with
 | zero =>
  intro lo hi z r u hh;obtain rfl:lo=hi:=by omega
  obtain rfl:lo=c:=by omega
  rw [yE];simp
 | succ k ih =>
  intro lo hi z r u hh;rw [yE];by_cases hlt:lo < hi
  ·have hd:decide ((lo:Int) < (hi:Int))=true:=lN (by omega);simp only [hd,nv,ze5 hlt (by omega)];have t:(lo+hi) / 2 < x.length:=by omega
   rw [tJ t,tb];obtain ⟨v,E,w,F⟩:=C ((lo+hi) / 2) _ (s5 t);rw [E,tb];by_cases hcm:(lo+hi) / 2 < c
   ·rw [lN (w hcm),lc rfl];simp only;have e:IntKind.wrap .i64 ((((lo+hi) / 2:Nat):Int)+1)=(((lo+hi) / 2+1:Nat):Int):=by rw [wW (by omega)];omega
    rw [e];exact ih _ _ (by omega) (by omega) u hh
   ·rw [lP (by omega)];simp only [tx,lg];exact ih _ _ (by omega) r (by omega) (by omega)
  ·grind
theorem zsK {cmp:GC->zq->Option Int} {x:List GC} {s:zq} (p:x.length<=16777216) (o:c<=x.length) (k:∀i n,x[i]?=some n->∃v,cmp n s=some v/\(i < c->v < 0)/\(c<=i->0<=v)) :
  zg x s cmp=(if c < x.length then cmp (x.getD c default) s else some 1).bind λv=>some ((c:Int),(decide (c < x.length)&&(v==0))):=by
 unfold zg;have:=zqA p k x.length 0 x.length (by omega) (lX _) o (oA _);simp only [il] at this;rw [show ((0:Int),(x.length:Int))=(((0:Nat):Int),(x.length:Int)) from rfl] at *;rw [this];simp only [lp];by_cases h:c < x.length
 ·have hd:decide ((c:Int) < (x.length:Int))=true:=lN (by omega);simp only [hd,h,nv,nr,lL,jq,lA];rw [ze (by omega)]
 ·have hd:decide ((c:Int) < (x.length:Int))=false:=lP (by omega);simp only [hd,h,lg,jd,ii,tb];rfl
theorem cI {a b:List UInt8}:Lib.compareBytes a b < 0 ↔ Op.bytesLess a b=true:=by
 induction a generalizing b with
 | nil=>cases b <;> simp [Lib.compareBytes,Op.bytesLess]
 | cons x a ih =>
  cases b with
  | nil=>simp [Lib.compareBytes,Op.bytesLess]
  | cons y b =>
   simp only [Lib.compareBytes,Op.bytesLess]
   grind
theorem zjh (a:List UInt8):Lib.compareBytes a a=0:=by
 induction a with
 | nil=>rfl
 | cons x a ih=>simp [Lib.compareBytes,ih]
theorem zbJ (n:GC) (s:zq):x5 n s=some (Lib.compareBytes n.name s):=rfl
theorem nL {L:List GE} (h:L.length<=lim):xw L=some L:=oV h
theorem rF {L:List GC} (h:L.length<=lim):yP L=some L:=oV h
theorem yS (h:n<=16777217):n<=lim:=lu h (by decide)
theorem zre (h:fF l):zbM l=some l:=by
 unfold zbM;rw [um (yS (jM h.y4)),tb,wF (yS (jM h.x4)),tb]
def zvD (a:List zq) (r:GN):GN:=⟨a++r.path,r.leaf⟩
theorem zbw:∀(t:List GC) (a b:List zq),zw (a++b) t=(zw b t).map (zvD a):=by
 refine qE (λ_ _=>rfl) ?_;intro x r o k a b;rw [xc,xc,jf,jf,<- xc,<- xc,k,ki];congr 1;rw [wJ,wJ,li,o,ki,ji];rfl
theorem om:∀(t:List GC) (a:List zq) (r:GN),r ∈ zw a t->a.length < r.path.length/\r.path.length<=a.length+GC.fC t:=by
 refine qE (λ_ _ h=>by simp [zw] at h) ?_;intro x r v p a q k;rw [xc,jf,lj,<- xc] at k;have s:x.dep<=GC.fC (x::r):=tR (by simp);have o:=vp x;have u:GC.fC r<=GC.fC (x::r):=by
  simp only [GC.fC];omega
 rcases k with k | k
 ·rw [wJ,lj,l4] at k
  grind
 ·grind
theorem uY (h:fM ls=true):ls.Pairwise (λx y=>x.w7 < y.w7)/\∀l ∈ ls,fb l=true:=by
 unfold fM at h;rw [fg] at h;have s:∀l ∈ ls,fb l=true:=λl r=>by
  obtain ⟨i,hi⟩:=lD.1 r
  grind
 refine ⟨?_,s⟩;have step:∀i,(hi:i+1 < ls.length)->ls[i].w7 < ls[i+1].w7:=λi hi=>by
  have:=h (i+1) _ (s5 hi)
  grind
 rw [lK];intro i j hi p o;obtain ⟨k,rfl⟩:∃k,j=i+1+k:=⟨j - (i+1),by omega⟩
 clear o
 induction k with
 | zero=>exact step i p
 | succ k ih=>exact Int.lt_trans (ih (by omega)) (step (i+1+k) p)
theorem Small.tail {x:GC} {r:List GC} (h:Small (x::r)):Small r:=by
 refine ⟨(GC.eH r).2 λy k=>(GC.eH _).1 h.1 y (by simp [k]),?_⟩;have:=h.2;simp only [GC.eV] at this;omega
def zlg (a b:List zq):Prop:=(∃y q,b=a++y::q) \/ ∃p x y a' b',a=p++x::a'/\b=p++y::b'/\Op.bytesLess x y=true
theorem qR:∀(a:List UInt8),Op.bytesLess a a=false
 | []=>rfl
 | x::a=>by simp [Op.bytesLess,qR a]
theorem zcq {a b:List UInt8} (h:Op.bytesLess a b=true):a ≠ b:=by
 rintro rfl;rw [qR] at h;cases h
def zpj (r q:GN):Prop:=zlg r.path q.path \/ (r.path=q.path/\r.leaf.w7 < q.leaf.w7)
theorem sf {t:List GC} {a:List zq} {r:GN} (h:r ∈ zw a t):∃x ∈ t,∃w,r.path=a++x.name::w:=by
 rw [xc,im] at h;obtain ⟨x,k,h⟩:=h;refine ⟨x,k,?_⟩;rw [wJ,lj,l4] at h;rcases h with ⟨l,_,rfl⟩ | h
 ·simp_all
 ·have:=zbw x.w5 (a++[x.name]) [];rw [ko] at this;rw [this,l4] at h;obtain ⟨q,_,rfl⟩:=h;exact ⟨q.path,by simp [zvD]⟩
theorem zph:∀(t:List GC) (d:Nat) (a:List zq),cW t=true->uJ d t=true->(zw a t).Pairwise zpj:=by
 refine qE (λ_ _ _ _=>List.Pairwise.nil) ?_;intro x r J I d a C E;rw [xc,jf,<- xc];rw [tv,ll] at C;simp only [uJ,tr] at E;obtain ⟨o,v⟩:=E;rw [sZ] at o;simp only [tr] at o;obtain ⟨⟨⟨_,_⟩,k⟩,D⟩:=o;simp only [gY,tr] at k;obtain ⟨u,_⟩:=uY D;rw [kq];refine ⟨?_,I d a (tv r |>.2 C.2) v,λq s M p=>?_⟩
 ·rw [wJ,kq];refine ⟨?_,J (d+1) _ k.1.2 k.2,λq s M p=>?_⟩
  ·rw [kZ];exact u.imp λh=>.inr ⟨rfl,h⟩
  ·rw [l4] at s;obtain ⟨l,_,rfl⟩:=s;obtain ⟨y,_,w,e⟩:=sf p;exact .inl (.inl ⟨y.name,w,e⟩)
 ·have F:∃w,q.path=a++x.name::w:=by
   have:q ∈ zw a [x]:=by rw [xc];simpa using s
   obtain ⟨z,N,w,e⟩:=sf this
   simp_all
  obtain ⟨w,K⟩:=F;obtain ⟨y,H,w',G⟩:=sf p;exact .inl (.inr ⟨a,x.name,y.name,w,w',K,G,C.1 y H⟩)
structure c8 (r:GN):Prop where
 path:sY r.path=true
 leaf:fb r.leaf=true
 ok:fF r.leaf
theorem zha:∀(t:List GC) (d:Nat) (a:List zq),Small t->gY d t=true->a.length=d->a.all fJ=true->∀r ∈ zw a t,c8 r:=by
 have key:∀(t:List GC),(∀(d:Nat) (a:List zq),Small t->uJ d t=true->d < 3->a.length=d->a.all fJ=true->∀r ∈ zw a t,c8 r):=by
  refine qE (λ_ _ _ _ _ _ _ _ h=>by simp [zw] at h) ?_;intro x r G v d a hs E hd z F q k;rw [xc,jf,lj,<- xc] at k;simp only [uJ,tr] at E;obtain ⟨p,w⟩:=E;rcases k with k | k
  ·rw [sZ] at p;simp only [tr] at p;obtain ⟨⟨⟨H,_⟩,o⟩,C⟩:=p;have u:(a++[x.name]).all fJ=true:=by simp_all
   rw [wJ,lj,l4] at k;rcases k with ⟨l,s,rfl⟩ | k
   ·refine ⟨?_,(uY C).2 l s,hs.leaf (by simp) s⟩;simp only [sY,u,kU,ng,m3,lF,tr,so];omega
   ·simp only [gY,tr,kj,List.isEmpty_iff,so] at o;rcases o.1.1 with h0 | h0
    ·rw [h0] at k;simp [zw] at k
    ·exact G (d+1) _ (hs.w5 (by simp)) o.2 h0 (by simp [z]) u q k
  ·exact v d a hs.tail w hd z F q k
 intro t d a hs D z F r v;simp only [gY,tr,kj,List.isEmpty_iff,so] at D;rcases D.1.1 with h0 | h0
 ·rw [h0] at v;simp [zw] at v
 ·grind
theorem zeg (d:Nat):gY d []=true:=by rfl
theorem zhu (k:Int):∃v,uD k=some v:=by unfold uD;split <;> exact ⟨_,rfl⟩
theorem znl {p:List zq} (h:sY p=true):p ≠ []:=by
 rintro rfl
 simp [sY] at h
theorem zpB {p:List zq} {f:zq->Option Bool} (o:∀x,f x=some (fJ x)):(lp (zf (λ(_:Nat) (k:zq) (_:Unit)=>(((f k).bind λv9=>(if (!v9)=true then some (.ret false) else some (.gV ()))):Option (Out _ Unit))) p 0 ()) λ(_:Unit)=>some ((decide (((p).length:Int) >= (1:Int)))&&(decide (((p).length:Int)<=(3:Int)))))=some (sY p):=by
 rw [zcp fJ false _ _ (λi x _=>by grind),zvj,zwC];unfold sY;cases h:p.all fJ <;> simp
theorem zca (p:List zq):rC p=some (sY p):=zpB mz
def vJ (k:Int):Int:=if k=1 then 1 else if k=2 then 2 else if k=3 \/ k=4 then 3 else if k=5 then 4 else 0
def aO (o:GM):Bool:=decide (1<=o.kind)&&decide (o.kind<=5)&&sY o.path&&decide (o.text.length<=40)&&decide (o.gX.length<=64) &&
 (if o.kind=1 then decide (-1000000<=o.n)&&decide (o.n<=1000000)&&(o.text==[])&&decide (o.gX.length=0)
   else decide (o.n=0)&&(decide (o.kind=4) || decide (o.gX.length=0))&&(o.gX.all fa&&wn o.gX))
theorem np (k:Int):sj k=some (vJ k):=by unfold sj vJ;grind
theorem zf1 (k:Int):zdw k=some (vJ k):=by
 unfold zdw zjT vJ;by_cases h:k < 1 \/ 5 < k
 ·grind
 ·have o:¬ (decide (k < 1) || decide (k > 5))=true:=by simp;omega
  rw [lq o];rcases (show k=1 \/ k=2 \/ k=3 \/ k=4 \/ k=5 by omega) with rfl | rfl | rfl | rfl | rfl <;> rfl
theorem uP (h0:0 < i) (k:i<=9223372036854775807):(IntKind.wrap .i64 ((i:Int) - 1))=((i - 1:Nat):Int):=by rw [wW (by omega)];omega
theorem zhk (o:GM):mE o=some (decide (o.n=0)&&decide (o.text.length<=40)&&decide (o.gX.length<=64)&&(o.gX.all fa&&wn o.gX)):=by
 unfold mE;by_cases hc:o.n ≠ 0 \/ 40 < o.text.length \/ 64 < o.gX.length
 ·grind
 ·have p:¬ ((o.n != 0 || decide (((o.text).length:Int) > 40)) || decide (((o.gX).length:Int) > 64))=true:=by simp;omega
  rw [lq p,mt]
  ·simp_all
  ·intro i x t;have hi:i < o.gX.length:=(tm.1 t).1;simp only [sD,tb];by_cases h0:i=0
   ·subst h0;cases hd:fa x <;> simp [zQ,yz,hd]
   ·have s:decide ((i:Int) > 0)=true:=by simp;omega
    have k:=uP (i:=i) (by omega) (by omega);rw [k,nr];have r:yz o.gX i x=gU (o.gX.getD (i - 1) default) x:=by unfold yz;rw [lP h0];rfl
    rw [ze (by omega),s,r];generalize o.gX.getD (i - 1) default=y;cases hd:fa x
    ·simp
    ·have e:=oU y x;simp only [vD,lH,lR,lA,jL,nv,tb,e]
     grind
theorem zf6 (h:ds.length=0):(ds.all fa&&wn ds)=true:=by
 have:ds=[]:=lE h;subst this;rfl
theorem zvX {α:Type} (l:List α):((l.length:Int)==0)=decide (l.length=0):=by
 grind
theorem znr (o:GM):zll o=some (aO o):=by
 unfold zll zjT aO;by_cases h:o.kind < 1 \/ 5 < o.kind
 ·grind
 ·have r:¬ (decide (o.kind < 1) || decide (o.kind > 5))=true:=by simp;omega
  rw [lq r,zf2];have p:=zf6 (ds:=o.gX);rcases (show o.kind=1 \/ o.kind=2 \/ o.kind=3 \/ o.kind=4 \/ o.kind=5 by omega) with k | k | k | k | k <;> rw [k] <;>
   simp only [zS,Int.toNat,tb,zd5,zeK,zbC,zhk,zvX] <;> generalize (o.gX.all fa&&wn o.gX)=R at p ⊢ <;> cases hp:sY o.path <;> simp [k] <;> grind
theorem zhc (o:GM):my o=some (aO o):=by
 unfold my aO;rw [np];simp only [tb,zca];have F:=zf6 (ds:=o.gX);by_cases h:o.kind < 1 \/ 5 < o.kind
 ·have G:(decide (1<=o.kind)&&decide (o.kind<=5))=false:=by rw [Bool.and_eq_false_iff];simp;omega
  have p:vJ o.kind=0:=by unfold vJ;grind
  grind
 ·have p:(vJ o.kind==0)=false:=by unfold vJ;grind
  have v:(decide (1<=o.kind)&&decide (o.kind<=5))=true:=by simp;omega
  by_cases hb:40 < o.text.length \/ 64 < o.gX.length
  ·grind
  ·rw [mt]
   ·have t:decide ((o.text.length:Int) > 40)=false:=lP (by omega);have D:decide ((o.gX.length:Int) > 64)=false:=lP (by omega);have u:decide (o.text.length<=40)=true:=lN (by omega);have z:decide (o.gX.length<=64)=true:=lN (by omega);have s:decide ((o.gX.length:Int) > 0)=!decide (o.gX.length=0):=by
     grind
    rw [p,v,t,D,u,z,s,zvX]
    grind
   ·intro i x E;have hi:i < o.gX.length:=(tm.1 E).1;simp only [qM,tb];by_cases h0:i=0
    ·subst h0;cases hd:fa x <;> simp [zQ,yz]
    ·have C:decide ((i:Int) > 0)=true:=by simp;omega
     have r:=uP (i:=i) (by omega) (by omega);rw [r,nr,nr];have w:yz o.gX i x=gU (o.gX.getD (i - 1) default) x:=by unfold yz;rw [lP h0];rfl
     have k:o.gX.getD i default=x:=by simp_all
     rw [ze (by omega),ze (by omega),C,w,k];generalize o.gX.getD (i - 1) default=y;cases hd:fa x
     ·simp
     ·simp only [vh,lH,lR,lA,jL,nv,tb]
      grind
def xJ (e:GJ):Bool:=fa e.z6&&decide (e.time >= 1)&&decide (e.time<=1099511627776)&&aO e.op
theorem sM (e:GJ):qO e=some (xJ e):=by
 unfold qO xJ;rw [sD,znr];simp only [tb]
 grind
theorem sm (e:GJ):vu e=some (xJ e):=by
 unfold vu xJ;rw [qM,zhc];simp only [tb]
 grind
theorem w9 {ρ:Type} {f:σ->Option (Out ρ σ)} (r p:σ->Prop) (t:σ->Nat) (h:∀s,r s->(∃o,f s=some (.brk o)/\p o) \/ ∃o,f s=some (.gV o)/\r o/\t o < t s):∀(k:Nat) (s:σ),t s=k->r s->∃o,zY f s=some (.inr o)/\p o:=by
 intro k
 induction k using Nat.strongRecOn with
 | _ k ih =>
  intro s u hi;rw [yE]
  grind
theorem bp {q:GE->Bool} {del:GE->Option Bool}:∀(L:List GE) (n:Nat),(∀x ∈ L,del x=some (q x)) ->
  (zf (λ(k:Nat) (o:GE) (_:Unit)=>(((del o).bind λs=>(if s=true then some (.ret (k:Int)) else some (.gV ()))):Option (Out Int Unit))) L n ()=some (.inr ())/\∀x ∈ L,q x=false) \/
  ∃A x B,L=A++x::B/\q x=true/\(∀y ∈ A,q y=false)/\zf (λ(k:Nat) (o:GE) (_:Unit)=>(((del o).bind λs=>(if s=true then some (.ret (k:Int)) else some (.gV ()))):Option (Out Int Unit))) L n ()=some (.inl ((n+A.length:Nat):Int))
 | [],n,_=>.inl ⟨rfl,by simp⟩
 | x::r,n,h=>by
  have p:=h x (by simp);cases hq:q x with
  | true=>exact .inr ⟨[],x,r,rfl,hq,by simp,by simp [zf,p,hq]⟩
  | false =>
   rcases bp r (n+1) (λy t=>h y (by simp [t])) with ⟨e,u⟩ | ⟨A,y,B,rfl,v,u,e⟩
   ·refine .inl ⟨by simp only [zf,p,hq,tb];exact e,?_⟩
    simp_all
   ·refine .inr ⟨x::A,y,B,rfl,v,?_,?_⟩
    ·simp_all
    ·simp only [zf,p,hq,tb]
     grind
theorem xF {a:Nat} (h:a<=16777216):IntKind.wrap .i64 ((a:Int)+1)=((a+1:Nat):Int):=zkx (lu (gC h) (by decide))
noncomputable def zs9 (del:GE->Option Bool) (n:Nat):Int×Int×(List GE)->Option (Out (List GE) (Int×Int×(List GE))):=λs1=>((zQ ((s1.2.2).length=n) ((if (decide (s1.2.1 < ((n:Nat):Int)))=true then ((zS s1.2.2 s1.2.1).bind λy14=>((del y14).bind λv15=>(if (!v15)=true then ((zS s1.2.2 s1.1).bind λy17=>some (.gV ((IntKind.wrap .i64 (s1.1+(1:Int))),(IntKind.wrap .i64 (s1.2.1+(1:Int))),(s1.2.2.set s1.1.toNat y14)))) else some (.gV (s1.1,(IntKind.wrap .i64 (s1.2.1+(1:Int))),s1.2.2))))) else some (.brk (s1.1,s1.2.1,s1.2.2))))))
theorem zqt (o:List GE) (k:GE->Option Bool):wT o k=((yo o k).bind λs=>(if (s==(-1:Int))=true then some o else (lp (zY (zs9 k o.length) (s,(IntKind.wrap .i64 (s+(1:Int))),o)) λ(p:Int×Int×(List GE))=>(zQ (0<=p.1/\p.1<=((o.length:Nat):Int)) (((fL (p.2.2.take p.1.toNat++List.replicate (o.length - p.1.toNat) bL) (0:Int) p.1).bind λr=>some r)))))):=rfl
theorem zn5 {q:GE->Bool} (C:L0.length<=16777216) (h:∀x ∈ L0,del x=some (q x)) {a0 b0:Nat} (F:a0 < b0) (E:b0<=L0.length) (I:L0.take a0=(L0.take b0).filter λx=>!q x) :
  ∃p,zY (zs9 del L0.length) ((a0:Int),(b0:Int),L0)=some (.inr p)/\∃a:Nat,p.1=(a:Int)/\a < L0.length/\p.2.2.length=L0.length/\p.2.2.take a=L0.filter λx=>!q x:=by
 refine w9 (f:=zs9 del L0.length) (λs=>∃a b:Nat,s.1=(a:Int)/\s.2.1=(b:Int)/\a < b/\b<=L0.length/\s.2.2.length=L0.length/\s.2.2.take a=(L0.take b).filter (λx=>!q x)/\s.2.2.drop b=L0.drop b)
  _ (λs=>L0.length - s.2.1.toNat) ?_ _ _ rfl ⟨a0,b0,rfl,rfl,F,E,rfl,I,rfl⟩
 rintro ⟨i,j,M⟩ ⟨a,b,w,D,K,z,u,v,r⟩
 simp only at w D u v r;subst w D;simp only [zs9,zQ,u,nv];by_cases hb:b < L0.length
 ·right;have H:M[b]?=L0[b]?:=by
   have:=congrArg (λl=>l[0]?) r
   grind
  have G:L0[b]?=some L0[b]:=s5 hb;have hd:=h L0[b] (j0 hb);have o:zS M (b:Int)=some L0[b]:=by simp [zS,H]
  have k:zS M (a:Int)=some (M[a]'(by omega)):=by simp [zS]
  rw [lc (by simp;omega),o,tb,hd,tb];have t:L0.take (b+1)=L0.take b++[L0[b]]:=by simp_all
  cases hq:q L0[b] with
  | true =>
   refine ⟨((a:Int),((b+1:Nat):Int),M),by simp [xF (lu z C)],⟨a,b+1,rfl,rfl,by omega,by omega,u,?_,?_⟩,by simp;omega⟩
   ·grind
   ·have:=congrArg (λl=>l.drop 1) r;simpa [kp] using this
  | false =>
   refine ⟨(((a+1:Nat):Int),((b+1:Nat):Int),M.set a L0[b]),by simp [k,xF (lu z C),xF (show a<=16777216 by omega)],⟨a+1,b+1,rfl,rfl,by omega,by omega,by simp_all,?_,?_⟩,by simp;omega⟩
   ·rw [ka,jQ (oA _),v,t,kM,lr (by omega)];simp [hq]
   ·have:=congrArg (λl=>l.drop 1) r;rw [jR (by omega)];simpa [kp] using this
 ·left;have J:b=L0.length:=by omega
  rw [lq (by simp;omega)]
  grind
theorem zkc {q:GE->Bool} (u:L0.length<=16777216) (h:∀x ∈ L0,del x=some (q x)):wT L0 del=some (L0.filter λx=>!q x):=by
 rw [zqt];unfold yo;rcases bp L0 0 h with ⟨e,p⟩ | ⟨A,x,B,t,s,p,e⟩
 ·rw [e];simp only [lp,tb,lL,nv];rw [kw.2 (λx D=>by simp_all)]
 ·rw [e];have o:L0.length=A.length+1+B.length:=by grind
  simp only [lp,tb,l6];rw [lq (by simp_all),xF (by omega)];obtain ⟨k,v,a,r,E,w,z⟩:=zn5 u h (a0:=A.length) (b0:=A.length+1) (by omega) (by omega) (by
   rw [t,hZ,kz,lm (by omega),show A.length+1 - A.length=1 by omega,kM];simp only [jP,gj,jG,s,List.filter_nil];rw [kw.2 (λy C=>by simp_all)];simp)
  rw [v];simp only [zQ];rw [lc (by omega),r];have hs:fL (k.2.2.take ((a:Int)).toNat++List.replicate (L0.length - ((a:Int)).toNat) bL) (0:Int) (a:Int)=some (k.2.2.take a):=by
   unfold fL
   grind
  simp_all

theorem eC:∀(a b:List UInt8),a=b \/ Op.bytesLess a b=true \/ Op.bytesLess b a=true
 | [],[]=>.inl rfl
 | [],_::_=>.inr (.inl rfl)
 | _::_,[]=>.inr (.inr rfl)
 | x::a,y::b=>by
  by_cases h:x=y
  ·subst h;rcases eC a b with rfl | h | h
   ·simp_all
   ·exact .inr (.inl (by simp [Op.bytesLess,h]))
   ·exact .inr (.inr (by simp [Op.bytesLess,h]))
  ·have k:x.toNat ≠ y.toNat:=λe=>h (UInt8.toNat_inj.1 e);rcases Nat.lt_or_gt_of_ne k with h | h
   ·exact .inr (.inl (by simp [Op.bytesLess,iU,h]))
   ·exact .inr (.inr (by simp [Op.bytesLess,iU,h]))
def mD:List zq->List zq->Bool
 | _,[]=>false
 | [],_::_=>true
 | x::a,y::b=>Op.bytesLess x y || (decide (x=y)&&mD a b)
theorem zlf:∀a,mD a a=false
 | []=>rfl
 | x::a=>by simp [mD,qR,zlf a]
theorem zf0:∀{a b c:List zq},mD a b=true->mD b c=true->mD a c=true
 | _,[],_,h,_=>by cases ‹List zq› <;> simp [mD] at h
 | _,_::_,[],_,h=>by simp [mD] at h
 | [],_::_,_::_,_,_=>rfl
 | x::a,y::b,z::c,o,k=>by
  simp only [mD,kj,tr,so] at *;rcases o with o | ⟨rfl,o⟩
  ·rcases k with k | ⟨rfl,k⟩
   ·exact .inl (xW o k)
   ·simp_all
  ·rcases k with k | ⟨rfl,k⟩
   ·simp_all
   ·exact .inr ⟨rfl,zf0 o k⟩
theorem cD:∀{a b:List zq},mD a b=true->zlg a b
 | _,[],h=>by cases ‹List zq› <;> simp [mD] at h
 | [],y::b,_=>.inl ⟨y,b,rfl⟩
 | x::a,y::b,h=>by
  simp only [mD,kj,tr,so] at h;rcases h with h | ⟨rfl,h⟩
  ·exact .inr ⟨[],x,y,a,b,rfl,rfl,h⟩
  ·rcases cD h with ⟨z,q,rfl⟩ | ⟨p,u,v,a',k,rfl,rfl,o⟩
   ·exact .inl ⟨z,q,rfl⟩
   ·exact .inr ⟨x::p,u,v,a',k,rfl,rfl,o⟩
theorem znk {a b:List zq} (h:zlg a b):mD a b=true:=by
 rcases h with ⟨y,q,rfl⟩ | ⟨p,x,y,a',k,rfl,rfl,h⟩
 ·induction a with
  | nil=>rfl
  | cons x a ih=>simp [mD,ih]
 ·induction p with
  | nil=>simp [mD,h]
  | cons x a ih=>simp [mD,ih]
def Key:=List zq×Int
def bu (a b:Key):Bool:=mD a.1 b.1 || (decide (a.1=b.1)&&decide (a.2 < b.2))
theorem zcv (a:Key):bu a a=false:=by simp [bu,zlf]
theorem zlL {a b c:Key} (o:bu a b=true) (k:bu b c=true):bu a c=true:=by
 simp only [bu,kj,tr,so] at *;rcases o with o | ⟨p,o⟩
 ·rcases k with k | ⟨r,k⟩
  ·exact .inl (zf0 o k)
  ·simp_all
 ·grind
def uq (r:GN):Key:=(r.path,r.leaf.w7)
theorem zbv {α:Type} {c:α->α->Option Int} {cf:α->α->Int} {lt:α->α->Prop} {L R:List α} (J:∀x ∈ L,∀y ∈ L,c x y=some (cf x y)) (D:∀x y,cf x y < 0 ↔ lt x y) (s:∀x,¬ lt x x) (w:∀x y z,lt x y->lt y z->lt x z)
  (F:∀x ∈ L,∀y ∈ L,x=y \/ lt x y \/ lt y x) (v:R.Perm L) (hs:R.Pairwise lt) (G:L.length<=lim):qA c L=some R:=by
 unfold qA;rw [lc (λx k y o=>by simp_all)];have hd:∀x ∈ L,∀y ∈ L,(c x y).getD 0 < 0 ↔ lt x y:=λx k y o=>by simp_all
 have t:∀x y,lt x y->¬ lt y x:=λx y r p=>s x (w _ _ _ r p);have C:R.Pairwise λa b=>¬ (c b a).getD 0 < 0:=by
  have:R.Pairwise λa b=>a ∈ L/\b ∈ L/\lt a b:=by
   refine gu ?_ hs
   grind
  refine this.imp ?_
  simp_all
 refine zig ⟨λx k h=>s x ((hd x k x k).1 h),λx y z k o u r p=>(hd x k z u).2 (w _ _ _ ((hd x k y o).1 r) ((hd y o z u).1 p)),λx y z k o u r p I=>?_⟩ G ⟨v,C⟩ ?_
 ·grind
 ·rintro M ⟨H,E⟩
  refine r9 (H.trans v.symm) E C λx y k o r p=>?_
  grind
theorem zfp:∀{a b:List UInt8},Op.bytesLess b a=true->0 < Lib.compareBytes a b
 | [],b,h=>by cases b <;> simp [Op.bytesLess] at h
 | _::_,[],_=>by simp [Lib.compareBytes]
 | x::a,y::b,h=>by
  simp only [Op.bytesLess,kj,tr,so,ju] at h;rcases h with h | ⟨rfl,h⟩
  ·have o:y.toNat < x.toNat:=iU.1 h;have k:¬ x < y:=λe=>by grind
   simp [Lib.compareBytes,h,k]
  ·have:=zfp h;simp [Lib.compareBytes,this]
def ar (s:zq) (A:List GC):Prop:=∀y ∈ A,Op.bytesLess y.name s=true
def au (s:zq) (B:List GC):Prop:=∀y ∈ B,Op.bytesLess s y.name=true
theorem da {t:List GC} (s:zq) (h:cW t=true):(∃A B,t=A++B/\ar s A/\au s B) \/ ∃A x B,t=A++x::B/\x.name=s/\ar s A/\au s B:=by
 rw [tv] at h
 induction t with
 | nil=>exact .inl ⟨[],[],rfl,λ_ h=>by simp at h,λ_ h=>by simp at h⟩
 | cons x t ih =>
  obtain ⟨u,r⟩:=ll.1 h;rcases eC x.name s with e | e | e
  ·exact .inr ⟨[],x,t,rfl,e,λ_ h=>by simp at h,λy k=>by simp_all⟩
  ·rcases ih r with ⟨A,B,rfl,p,o⟩ | ⟨A,z,B,rfl,v,p,o⟩
   ·refine .inl ⟨x::A,B,rfl,λy k=>?_,o⟩;rcases lG.1 k with rfl | k
    ·exact e
    ·exact p y k
   ·refine .inr ⟨x::A,z,B,rfl,v,λy k=>?_,o⟩
    grind
  ·refine .inl ⟨[],x::t,rfl,λ_ h=>by simp at h,λy k=>?_⟩;rcases lG.1 k with rfl | k
   ·exact e
   ·exact xW e (u y k)
theorem zh0 {A B:List GC} {s:zq} (v:(A++B).length<=16777216) (r:ar s A) (o:au s B):zg (A++B) s (λp u=>x5 p u)=some ((A.length:Int),false):=by
 rw [zsK (c:=A.length) v (by simp) λi m hi=>⟨_,zbJ m s,λk=>by
   rw [o4 k] at hi;exact cI.2 (r m (lf hi)),λk=>by
   rw [pa k] at hi;exact gS (zfp (o m (lf hi)))⟩]
 cases B with
 | nil=>simp
 | cons y B =>
  have e:(A++y::B).getD A.length default=y:=by simp
  have:=zfp (o y (by simp));rw [lc (by simp),e,zbJ];have t:(Lib.compareBytes y.name s==0)=false:=by simp;omega
  simp [t]
theorem zhZ {A B:List GC} {x:GC} {s:zq} (v:(A++x::B).length<=16777216) (hs:x.name=s) (r:ar s A) (u:au s B):zg (A++x::B) s (λo t=>x5 o t)=some ((A.length:Int),true):=by
 subst hs;rw [zsK (c:=A.length) v (by simp) λi m hi=>⟨_,zbJ m x.name,λk=>by
   rw [o4 k] at hi;exact cI.2 (r m (lf hi)),λk=>by
   rw [pa k] at hi;rcases lG.1 (lf hi) with rfl | p
   ·rw [zjh];exact kI _
   ·exact gS (zfp (u m p))⟩]
 have e:(A++x::B).getD A.length default=x:=by simp
 rw [lc (by simp),e,zbJ,zjh];simp
noncomputable def zlE (n:Nat) (path1:List zq) (kind2:Int) (l3:GE) (there4:Bool) (s1:zq×(List GE)×(List GC)):Option (List GC ⊕ ((List GE)×(List GC))):=((if (decide (((path1).length:Int) > (1:Int)))=true then ((fL path1 (1:Int) ((path1).length:Int)).bind λm20=>((wl n s1.2.2 m20 kind2 l3 there4).bind λv21=>some (.inr (s1.2.1,v21)))) else ((xw s1.2.1).bind λv22=>((wT v22 (λx0=>zdZ x0 kind2)).bind λv23=>(if there4=true then ((zbM l3).bind λv25=>(zQ ((v23).length+(([v25]:List GE)).length<=lim) (((qA (λx y=>nH x y) (v23++([v25]:List GE))).bind λv27=>some (.inr (v27,s1.2.2)))))) else some (.inr (v23,s1.2.2)))))):Option (_ ⊕ ((List GE)×(List GC))))
noncomputable def zhv (t0:List GC) (i:Int) (f:Bool) (nm:zq) (s2:(List GE)×(List GC)):Option (List GC):=((fL t0 (0:Int) i).bind λm28=>((yP m28).bind λv29=>(if (decide ((IntKind.wrap .i64 (((s2.1).length:Int)+((s2.2).length:Int))) > (0:Int)))=true then (zQ ((v29).length+(([(GC.mk nm s2.1 s2.2)]:List GC)).length<=lim) ((if f=true then ((fL t0 (IntKind.wrap .i64 (i+(1:Int))) ((t0).length:Int)).bind λm35=>(zQ (((v29++([(GC.mk nm s2.1 s2.2)]:List GC))).length+(m35).length<=lim) (some ((v29++([(GC.mk nm s2.1 s2.2)]:List GC))++m35)))) else ((fL t0 i ((t0).length:Int)).bind λm37=>(zQ (((v29++([(GC.mk nm s2.1 s2.2)]:List GC))).length+(m37).length<=lim) (some ((v29++([(GC.mk nm s2.1 s2.2)]:List GC))++m37))))))) else (if f=true then ((fL t0 (IntKind.wrap .i64 (i+(1:Int))) ((t0).length:Int)).bind λm40=>(zQ ((v29).length+(m40).length<=lim) (some (v29++m40)))) else ((fL t0 i ((t0).length:Int)).bind λm42=>(zQ ((v29).length+(m42).length<=lim) (some (v29++m42))))))))
theorem zhw (n:Nat) (t0:List GC) (k:List zq) (p:Int) (u:GE) (o:Bool):wl (n+1) t0 k p u o=((zS k (0:Int)).bind λC=>((zg t0 C (λv z=>x5 v z)).bind λr=>((zS k (0:Int)).bind λw=>(lp ((if r.2=true then ((zS t0 r.1).bind λs=>some (.inr (s.name,s.leaves,s.w5))) else some (.inr (w,([]:List GE),([]:List GC)))):Option (_ ⊕ (zq×(List GE)×(List GC)))) λ(t:zq×(List GE)×(List GC))=>(lp (zlE n k p u o t) λ(s2:(List GE)×(List GC))=>zhv t0 r.1 r.2 t.1 s2))))):=rfl
def u7 (k:Int) (l:GE) (there:Bool) (ls:List GE):List GE:=if there=true then ls.filter (λx=>decide (x.w7 < k))++[l]++ls.filter (λx=>decide (k < x.w7)) else ls.filter (λx=>!decide (x.w7=k))
theorem zkB (h:ls.Pairwise λx y=>x.w7 < y.w7) {x y:GE} (k:x ∈ ls) (o:y ∈ ls) (e:x.w7=y.w7):x=y:=by
 induction ls with
 | nil=>simp at k
 | cons z r ih =>
  obtain ⟨s,p⟩:=ll.1 h
  grind
theorem ziS {k:Int} (o:there=true->l.w7=k) (h:ls.Pairwise λx y=>x.w7 < y.w7):(u7 k l there ls).Pairwise λx y=>x.w7 < y.w7:=by
 unfold u7;split
 ·rename_i r;have o:=o r;rw [kq,kq];refine ⟨⟨h.filter _,by simp,λx s y p=>?_⟩,h.filter _,λx s y p=>?_⟩
  ·simp_all
  ·grind
 ·grind
theorem zkO {k:Int} (r:l.w7=k) (u:ls.length<=16777216) (h:ls.Pairwise λx y=>x.w7 < y.w7):qA (λx y=>nH x y) (ls.filter (λx=>!decide (x.w7=k))++[l])=some (u7 k l true ls):=by
 have t:=ia (λx:GE=>!decide (x.w7=k)) ls;refine zbv (α:=GE) (cf:=λx y=>tX x.w7 y.w7) (lt:=λx y=>x.w7 < y.w7) (λx _ y _=>by unfold nH;rw [zhS];rfl) (λx y=>by unfold tX;split <;> (try split) <;> omega) (λx h=>by omega) (λx y z s v=>by omega) ?_ ?_ (ziS (λ_=>r) h) (yS (by simp;omega))
 ·intro x p y o;rcases Int.lt_trichotomy x.w7 y.w7 with e | e | e
  ·omega
  ·left;rcases lj.1 p with p | p <;> rcases lj.1 o with o | o
   ·exact zkB h (kL.1 p).1 (kL.1 o).1 e
   ·simp_all
   ·simp_all
   ·simp_all
  ·omega
 ·unfold u7;rw [lc rfl];have s:(ls.filter (λx=>decide (x.w7 < k))++ls.filter (λx=>decide (k < x.w7))).Perm (ls.filter λx=>!decide (x.w7=k)):=by
   have:=iL (λx:GE=>decide (x.w7 < k)) (ls.filter λx=>!decide (x.w7=k));rw [iH,iH] at this;refine List.Perm.trans (.of_eq ?_) this;congr 1 <;> refine ic λx _=>?_ <;> rw [lQ] <;> simp <;> omega
  grind
theorem zdI {s:zq} {k:Int} {r:zq} {sb:List GC} (p:there=true->l.w7=k/\fF l) (o:ls.length<=16777216) (h:ls.Pairwise λx y=>x.w7 < y.w7) :
  zlE n [s] k l there (r,ls,sb)=some (.inr (u7 k l there ls,sb)):=by
 unfold zlE;have t:decide (((([s]:List zq).length:Int)) > 1)=false:=rfl;have w:=ia (λx:GE=>!decide (x.w7=k)) ls;simp only [t,tx,lg];rw [nL (yS (by omega)),tb,zkc (q:=λx=>decide (x.w7=k)) o (λx _=>by rfl),tb];cases there with
 | false=>simp [u7]
 | true =>
  obtain ⟨v,u⟩:=p rfl;simp only [nv];rw [zre u,tb,ze (yS (by simp;omega)),zkO v o h,tb]
theorem zgn {s a:zq} {r:List zq} {k:Int} {p:zq} {sb o:List GC} (u:(s::a::r).length<=16777216) (h:wl n sb (a::r) k l there=some o):zlE n (s::a::r) k l there (p,ls,sb)=some (.inr (ls,o)):=by
 unfold zlE;have t:decide ((((s::a::r).length:Int)) > 1)=true:=lN (by grind);simp only [t,nv];rw [pc ⟨by omega,by grind,kI _⟩,tb];have v:((s::a::r).take (((s::a::r).length:Int)).toNat).drop (1:Int).toNat=a::r:=by rw [nr,j3];rfl
 simp_all
def cZ (nm:zq) (ls:List GE) (sb:List GC):List GC:=if ls.length+sb.length=0 then [] else [⟨nm,ls,sb⟩]
theorem nC {A B:List GC} {m:List GC} {r:zq} {sb:List GC} (p:m.length=if f=true then 1 else 0) (u:(A++m++B).length<=16777216) (z:ls.length<=16777216) (w:sb.length<=16777217) :
  zhv (A++m++B) (A.length:Int) f r (ls,sb)=some (A++cZ r ls sb++B):=by
 simp only [ng] at u;unfold zhv;rw [pc ⟨kI _,by omega,by simp;omega⟩,tb];have t:((A++m++B).take ((A.length:Int)).toNat).drop (0:Int).toNat=A:=by simp
 rw [t,rF (yS (by omega)),tb];have v:∀(c:List GC),c.length<=A.length+1->((if f=true then ((fL (A++m++B) (IntKind.wrap .i64 ((A.length:Int)+(1:Int))) ((A++m++B).length:Int)).bind λo=>(zQ (c.length+(o).length<=lim) (some (c++o)))) else ((fL (A++m++B) (A.length:Int) ((A++m++B).length:Int)).bind λk=>(zQ (c.length+(k).length<=lim) (some (c++k))))):Option (List GC))=some (c++B):=by
  intro c C;cases f with
  | true =>
   simp only [nv] at p ⊢;rw [wW (by omega),pc ⟨by omega,by simp;omega,kI _⟩,tb];have e:((A++m++B).take (((A++m++B).length:Int)).toNat).drop ((A.length:Int)+1).toNat=B:=by
    rw [nr,j3,show ((A.length:Int)+1).toNat=(A++m).length by simp;omega,jW]
   rw [e,ze (yS (by omega))]
  | false =>
   simp only [tx,lg] at p ⊢;obtain rfl:=lE p;rw [pc ⟨by omega,by simp;omega,kI _⟩,tb];have e:((A++[]++B).take (((A++[]++B).length:Int)).toNat).drop ((A.length:Int)).toNat=B:=by
    grind
   rw [e,ze (yS (by omega))]
 unfold cZ;have s:IntKind.wrap .i64 ((ls.length:Int)+(sb.length:Int))=(ls.length:Int)+(sb.length:Int):=wW (by omega);simp only [s];by_cases h0:ls.length+sb.length=0
 ·simp_all
 ·rw [lq h0,lc (by simp;omega),ze (yS (by simp;omega))]
  grind

theorem zly (h:ls.Pairwise λx y=>x.w7 < y.w7) (p:∀l ∈ ls,fb l=true):fM ls=true:=by
 unfold fM;rw [fg];intro i x k;have o:=p x (lf k);simp only [o,lA];rcases i with _ | i
 ·rfl
 ·obtain ⟨hi,rfl⟩:=tm.1 k;have:=lK.1 h i (i+1) (by omega) hi (by omega)
  grind
theorem sg (a:List zq) (A B:List GC):zw a (A++B)=zw a A++zw a B:=by rw [xc,xc,xc,jV]
theorem ee {a:List zq} {x:GC} {r:GN}:r ∈ pg a x ↔ (∃l ∈ x.leaves,r=⟨a++[x.name],l⟩) \/ r ∈ zw (a++[x.name]) x.w5:=by
 rw [wJ,lj,l4]
 grind
theorem sR {a:List zq} {x:GC}:zw a [x]=pg a x:=by simp [zw]
theorem zlY {a:List zq} {k:zq} {sb:List GC} {r:GN}:r ∈ zw a (cZ k ls sb) ↔ (∃l ∈ ls,r=⟨a++[k],l⟩) \/ r ∈ zw (a++[k]) sb:=by
 unfold cZ;split
 ·rename_i h;have p:ls=[]:=lE (by omega);have o:sb=[]:=lE (by omega);subst p o;simp [zw]
 ·rw [sR,ee]
theorem zbG (t:List GC) (a b:List zq):(zw a t).length=(zw b t).length:=by
 have o:=zbw t a [];have k:=zbw t b []
 simp_all
theorem qk:∀(t:List GC) (d:Nat),uJ d t=true->t.length<=(zw [] t).length:=by
 refine qE (λ_ _=>lX _) ?_;intro x r u s d o;simp only [uJ,tr] at o;have v:=s d o.2;have k:=o.1;rw [sZ] at k;simp only [tr,gY,kA,Bool.and_eq_false_iff] at k;have p:=u (d+1) k.1.2.2;rw [show x::r=[x]++r from rfl,sg,sR,wJ];simp only [ng,oS,m3,lF];rw [zbG x.w5 ([]++[x.name]) []];rcases k.1.1.2 with h | h
 ·cases hl:x.leaves with
  | nil=>rw [hl] at h;cases h
  | cons l ls=>simp only [m3];omega
 ·cases hl:x.w5 with
  | nil=>rw [hl] at h;cases h
  | cons l ls=>rw [hl] at p;simp only [m3] at p;omega
theorem tE {t:List GC} {x:GC} (k:x ∈ t):x.leaves.length+(zw [] x.w5).length<=(zw [] t).length:=by
 obtain ⟨A,B,rfl⟩:=gm k;rw [sg,show x::B=[x]++B from rfl,sg,sR,wJ];simp only [ng,oS];rw [zbG x.w5 ([]++[x.name]) []];omega
theorem zP {t:List GC} (h:gY d t=true):cW t=true/\∀x ∈ t,pk d x=true:=by
 simp only [gY,tr,xe,nK] at h
 simp_all
theorem zmQ {t:List GC} (hd:d < 3) (o:cW t=true) (k:∀x ∈ t,pk d x=true):gY d t=true:=by
 simp only [gY,tr,xe,nK,o,hd,jq,hU,gD];exact k
theorem wC {x:GC} (h:pk d x=true):fJ x.name=true/\gY (d+1) x.w5=true/\fM x.leaves=true:=by
 rw [sZ] at h
 simp_all
theorem zlZ {t:List GC} (s:zq) (h:gY d t=true) (D:(zw [] t).length<=16777215):∃A m B f ls sb,t=A++m++B/\ar s A/\au s B/\m.length=(if f=true then 1 else 0)/\zg t s (λw E=>x5 w E)=some ((A.length:Int),f) /\
  ((if f=true then ((zS t (A.length:Int)).bind λp=>some (.inr (p.name,p.leaves,p.w5))) else some (.inr (s,([]:List GE),([]:List GC)))):Option (List GC ⊕ (zq×(List GE)×(List GC))))=some (.inr (s,ls,sb))/\gY (d+1) sb=true/\fM ls=true /\
  ls.length+(zw [] sb).length<=(zw [] t).length/\∀a r,r ∈ zw a m ↔ (∃l ∈ ls,r=⟨a++[s],l⟩) \/ r ∈ zw (a++[s]) sb:=by
 obtain ⟨C,v⟩:=zP h;have F:t.length<=16777215:=lu (qk t d (by rw [xe];exact nK.2 v)) D;rcases da s C with ⟨A,B,rfl,o,k⟩ | ⟨A,x,B,rfl,u,o,k⟩
 ·refine ⟨A,[],B,false,[],[],by simp,o,k,rfl,zh0 (by omega) o k,rfl,zeg _,rfl,by simp [zw],λa r=>by simp [zw]⟩
 ·obtain ⟨G,n2,z⟩:=wC (v x (by simp));refine ⟨A,[x],B,true,x.leaves,x.w5,by simp,o,k,rfl,zhZ (by omega) u o k,?_,n2,z,tE (by simp),λa r=>?_⟩
  ·rw [lc rfl,zt (x:=x) (by simp),tb,u]
  ·rw [sR,ee,u]
theorem pf {s:zq} {A:List GC} (h:∀y ∈ A,y.name ≠ s) {a q:List zq} {r:GN} (k:r ∈ zw a A):r.path ≠ a++s::q:=by
 obtain ⟨x,o,w,e⟩:=sf k
 simp_all
theorem ar.ne {s:zq} {A:List GC} (h:ar s A):∀y ∈ A,y.name ≠ s:=λy k=>zcq (h y k)
theorem au.ne {s:zq} {A:List GC} (h:au s A):∀y ∈ A,y.name ≠ s:=λy k=>(zcq (h y k)).symm
theorem zlB {A m B:List GC} {s:zq} {sb:List GC} (hd:d < 3) (h:gY d (A++m++B)=true) (t:ar s A) (r:au s B) (hs:fJ s=true) (z:fM ls=true) (w:gY (d+1) sb=true):gY d (A++cZ s ls sb++B)=true:=by
 obtain ⟨u,n⟩:=zP h;rw [tv,kq,kq] at u;have v:∀x ∈ A,∀y ∈ B,Op.bytesLess x.name y.name=true:=λx k y o=>xW (t x k) (r y o);have p:∀x ∈ cZ s ls sb,x=⟨s,ls,sb⟩/\¬ ls.length+sb.length=0:=λx k=>by
  unfold cZ at k
  simp_all
 refine zmQ hd ?_ ?_
 ·rw [tv,kq,kq];refine ⟨⟨u.1.1,?_,λx k y o=>by rw [(p y o).1];exact t x k⟩,u.2.1,λx k y o=>?_⟩
  ·unfold cZ;split <;> simp
  ·rcases lj.1 k with k | k
   ·simp_all
   ·rw [(p x k).1];exact r y o
 ·intro x k;rcases lj.1 k with k | k
  ·rcases lj.1 k with k | k
   ·simp_all
   ·obtain ⟨rfl,h0⟩:=p x k;rw [sZ]
    grind
  ·simp_all
theorem zqg (s:zq) (ls:List GE) (sb:List GC):(cZ s ls sb).length<=1:=by unfold cZ;split <;> simp
theorem eD {k:Int} {x:GE}:x ∈ u7 k l there ls ↔ (x ∈ ls/\x.w7 ≠ k) \/ (there=true/\x=l):=by
 unfold u7
 grind
theorem zdF {k:Int} {l:GE} {there:Bool} (I:there=true->l.w7=k/\fb l=true/\fF l):∀(p:List zq) (t:List GC) (d n:Nat),p ≠ []->p.all fJ=true->d+p.length<=3->gY d t=true->(zw [] t).length<=16777215->p.length < n ->
  ∃t',wl n t p k l there=some t'/\gY d t'=true/\t'.length<=t.length+1/\∀a r,r ∈ zw a t' ↔ (r ∈ zw a t/\uq r ≠ (a++p,k)) \/ (there=true/\r=⟨a++p,l⟩)
 | [],_,_,_,h,_,_,_,_,_=>absurd rfl h
 | _::_,_,_,0,_,_,_,_,_,h=>by omega
 | s::q,t,d,n+1,_,hp,hd,ht,hw,hn=>by
  simp only [l8,tr,m3] at hp hd hn;obtain ⟨A,m,B,f,ls,sb,rfl,J,H,P,M,N,w,F,O,z⟩:=zlZ s ht hw;have K:zS (s::q) (0:Int)=some s:=rfl;obtain ⟨D,hlb⟩:=uY F;have W:(A++m++B).length<=16777215:=lu (qk _ d (by rw [xe];exact nK.2 (zP ht).2)) hw;have V:=λv o=>zqg s v o;have u:∀v o,(A++cZ s v o++B).length<=(A++m++B).length+1:=λv o=>by
   grind
  rw [zhw,K,tb,M,tb,tb];simp only [];rw [N,yL];cases q with
  | nil =>
   rw [zdI (λh=>⟨(I h).1,(I h).2.2⟩) (by omega) D,yL,nC P (by omega) (by
    have:(u7 k l there ls).length<=ls.length+1:=by
     unfold u7;split
     ·have C:=iL (λx:GE=>decide (x.w7 < k)) ls;have G:=C.length_eq;have h3:(ls.filter λx=>decide (k < x.w7)).length<=(ls.filter λx=>!decide (x.w7 < k)).length:=by
       have:(ls.filter λx=>decide (k < x.w7))=(ls.filter λx=>!decide (x.w7 < k)).filter (λx=>decide (k < x.w7)):=by
        rw [iH];refine ic λx _=>?_;rw [lQ];simp;omega
       grind
      grind
     ·grind
    omega) (by have:=qk sb (d+1) (by rw [xe];exact nK.2 (zP w).2);omega)]
   refine ⟨_,rfl,zlB (by omega) ht J H hp.1 (zly (ziS (λh=>(I h).1) D) λx E=>?_) w,u _ _,λa r=>?_⟩
   ·rcases eD.1 E with h | ⟨h,rfl⟩
    ·simp_all
    ·simp_all
   ·simp only [sg,lj,zlY,z];have Q:r ∈ zw a A->uq r ≠ (a++[s],k):=λh e=>pf J.ne h (congrArg Prod.fst e);have oB:r ∈ zw a B->uq r ≠ (a++[s],k):=λh e=>pf H.ne h (congrArg Prod.fst e);have U:r ∈ zw (a++[s]) sb->uq r ≠ (a++[s],k):=λh e=>by
     have:=(om sb _ r h).1;rw [show r.path=a++[s] from congrArg Prod.fst e] at this;omega
    constructor
    ·rintro ((h | ⟨x,E,rfl⟩ | h) | h)
     ·grind
     ·rcases eD.1 E with ⟨C,G⟩ | ⟨C,rfl⟩
      ·exact .inl ⟨.inl (.inr (.inl ⟨x,C,rfl⟩)),λe=>G (congrArg Prod.snd e)⟩
      ·simp_all
     ·grind
     ·grind
    ·rintro (⟨(h | ⟨x,E,rfl⟩ | h) | h,G⟩ | ⟨C,rfl⟩)
     ·simp_all
     ·exact .inl (.inr (.inl ⟨x,eD.2 (.inl ⟨E,λe=>G (by rw [<- e];rfl)⟩),rfl⟩))
     ·simp_all
     ·simp_all
     ·exact .inl (.inr (.inl ⟨l,eD.2 (.inr ⟨C,rfl⟩),rfl⟩))
  | cons c q =>
   obtain ⟨o,X,S,e3,Y⟩:=zdF I (c::q) sb (d+1) n (by simp) hp.2 (by omega) w (by omega) (by omega);have R:=qk sb (d+1) (by rw [xe];exact nK.2 (zP w).2);rw [zgn (by grind) X,yL,nC P (by omega) (by omega) (by omega)];refine ⟨_,rfl,zlB (by omega) ht J H hp.1 F S,u _ _,λa r=>?_⟩;simp only [sg,lj,zlY,z,Y];have Z:a++[s]++c::q=a++s::c::q:=by simp
   rw [Z];have Q:r ∈ zw a A->uq r ≠ (a++s::c::q,k):=λh e=>pf J.ne h (congrArg Prod.fst e);have oB:r ∈ zw a B->uq r ≠ (a++s::c::q,k):=λh e=>pf H.ne h (congrArg Prod.fst e);have U:∀x,r=⟨a++[s],x⟩->uq r ≠ (a++s::c::q,k):=λx h e=>by
    rw [h] at e;have:=congrArg List.length (congrArg Prod.fst e);simp [uq] at this
   grind

theorem bv {r q:GN}:zpj r q ↔ bu (uq r) (uq q)=true:=by
 unfold zpj bu uq;simp only [kj,tr,so];constructor
 ·rintro (h | h)
  ·exact .inl (znk h)
  ·simp_all
 ·rintro (h | h)
  ·exact .inl (cD h)
  ·simp_all
theorem zdl {α:Type} {lt:α->α->Prop} (k:∀x,¬ lt x x) (o:∀x y z,lt x y->lt y z->lt x z):∀{L M:List α},L.Pairwise lt->M.Pairwise lt->(∀x,x ∈ L ↔ x ∈ M)->L=M
 | [],[],_,_,_=>rfl
 | [],y::M,_,_,h=>by have:=(h y).2 (by simp);simp at this
 | x::L,[],_,_,h=>by have:=(h x).1 (by simp);simp at this
 | x::L,y::M,h1,h2,h=>by
  obtain ⟨t,p⟩:=ll.1 h1;obtain ⟨s,r⟩:=ll.1 h2;have e:x=y:=by
   rcases lG.1 ((h x).1 (by simp)) with e | v
   ·exact e
   ·rcases lG.1 ((h y).2 (by simp)) with e | u
    ·simp_all
    ·grind
  subst e;rw [zdl k o p r λz=>?_]
  grind
theorem nU {α:Type} {P:α->Bool} {A B:List α} (o:∀x ∈ A,P x=true) (p:∀x ∈ B,P x=false):(A++B).filter P=A/\(A++B).filter (λx=>!P x)=B:=by
 rw [kM,kM,kw.2 o,kS.2 (λx k=>by simp_all),kS.2 (λx k=>by simp_all),kw.2 (λx k=>by simp_all)];simp
theorem zgN {α:Type} {P:α->Bool} {A B C D:List α} (h:A++B=C++D) (p:∀x ∈ A,P x=true) (k:∀x ∈ B,P x=false) (r:∀x ∈ C,P x=true) (o:∀x ∈ D,P x=false):A=C/\B=D:=by
 obtain ⟨a,b⟩:=nU p k;obtain ⟨c,d⟩:=nU r o
 simp_all
theorem nj {a:List zq} {x:GC} {r:GN} (h:r ∈ pg a x):∃w,r.path=a++x.name::w:=by
 rw [<- sR] at h;obtain ⟨y,k,w,e⟩:=sf h
 simp_all
theorem zbx {x:GC} (h:pk d x=true) (a:List zq):∃r L,pg a x=r::L:=by
 have k:=qk [x] d (by simp [uJ,h]);rw [zbG [x] [] a,sR] at k;cases e:pg a x with
 | nil=>rw [e] at k;simp at k
 | cons r L=>exact ⟨r,L,rfl⟩
def zu3 (n:Nat) (s:zq) (r:GN):Bool:=decide ((r.path.drop n).head?=some s)
theorem ze4 (a w:List zq) (s k:zq) {r:GN} (h:r.path=a++k::w):zu3 a.length s r=decide (k=s):=by
 unfold zu3;rw [h,jW];simp
theorem zm3:∀(t:List GC) (d:Nat) (a:List zq) (t':List GC),gY d t=true->gY d t'=true->zw a t=zw a t'->t=t':=by
 have key:∀(t:List GC) (d:Nat) (a:List zq) (t':List GC),(∀x ∈ t,pk d x=true)->cW t=true->(∀x ∈ t',pk d x=true)->cW t'=true->zw a t=zw a t'->t=t':=by
  refine qE ?_ ?_
  ·intro d a t' _ _ h _ e;cases t' with
   | nil=>rfl
   | cons y r =>
    obtain ⟨q,L,u⟩:=zbx (h y (by simp)) a;rw [zw,zw,u] at e;simp at e
  ·intro x r U S d a t' v G n2 D e;cases t' with
   | nil =>
    obtain ⟨q,L,u⟩:=zbx (v x (by simp)) a;rw [zw,zw,u] at e;simp at e
   | cons y s =>
    rw [tv,ll] at G D;have e:pg a x++zw a r=pg a y++zw a s:=e;have p:x.name=y.name:=by
     obtain ⟨q,L,u⟩:=zbx (v x (by simp)) a;obtain ⟨W,L',J⟩:=zbx (n2 y (by simp)) a;have K:=e;rw [u,J] at K;injection K with O _;subst O;obtain ⟨w,E⟩:=nj (a:=a) (x:=x) (r:=q) (by rw [u];simp);obtain ⟨w',C⟩:=nj (a:=a) (x:=y) (r:=q) (by rw [J];simp)
     simp_all
    obtain ⟨I,Q⟩:=zgN (P:=zu3 a.length x.name) e
     (λq k=>by obtain ⟨w,h⟩:=nj k;rw [ze4 a w _ _ h];simp)
     (λq k=>by
      obtain ⟨z,o,w,h⟩:=sf k;rw [ze4 a w _ _ h];exact lP (zcq (G.1 z o)).symm)
     (λq k=>by obtain ⟨w,h⟩:=nj k;rw [ze4 a w _ _ h,p];simp)
     (λq k=>by
      obtain ⟨z,o,w,h⟩:=sf k;rw [ze4 a w _ _ h,p];exact lP (zcq (D.1 z o)).symm)
    have X:=S d a s (λz o=>v z (by simp [o])) ((tv r).2 G.2) (λz o=>n2 z (by simp [o])) ((tv s).2 D.2) Q;rw [wJ,wJ,<- p] at I;obtain ⟨R,F⟩:=zgN (P:=λq=>decide (q.path.length=a.length+1)) I
     (λq k=>by grind)
     (λq k=>by have:=(om _ _ q k).1;simp at this;exact lP (by omega))
     (λq k=>by grind)
     (λq k=>by have:=(om _ _ q k).1;simp at this;exact lP (by omega))
    have N:x.leaves=y.leaves:=by
     have:=congrArg (List.map (·.leaf)) R;simpa [ji,ie] using this
    obtain ⟨_,H,_⟩:=wC (v x (by simp));obtain ⟨_,M,_⟩:=wC (n2 y (by simp));have V:=U (d+1) (a++[x.name]) y.w5 (zP H).2 (zP H).1 (zP M).2 (zP M).1 F;cases x;cases y
    simp_all
 intro t d a t' E C e;exact key t d a t' (zP E).2 (zP E).1 (zP C).2 (zP C).1 e
theorem sQ {t:List GC} (h:gY d t=true) (a:List zq):(zw a t).Pairwise λr q=>bu (uq r) (uq q)=true:=by
 have:=zph t d a (zP h).1 (by rw [xe];exact nK.2 (zP h).2);exact this.imp λh=>bv.1 h
theorem zis {t t':List GC} (o:gY 0 t=true) (k:gY 0 t'=true) (h:∀r,r ∈ zw [] t ↔ r ∈ zw [] t'):t=t' :=
 zm3 t 0 [] t' o k (zdl (lt:=λr q=>bu (uq r) (uq q)=true) (λx h=>by rw [zcv] at h;cases h) (λ_ _ _=>zlL) (sQ o []) (sQ k []) h)
theorem zjF {α:Type} {key:α->Key} {L:List α} (h:L.Pairwise λr q=>bu (key r) (key q)=true) {x y:α} (u:x ∈ L) (v:y ∈ L) (e:key x=key y):x=y:=by
 induction L with
 | nil=>simp at u
 | cons z r ih =>
  obtain ⟨t,w⟩:=ll.1 h;rcases lG.1 u with p | k <;> rcases lG.1 v with s | o
  ·rw [p,s]
  ·have:=t y o;rw [<- p,e,zcv] at this;cases this
  ·have:=t x k;rw [<- s,e,zcv] at this;cases this
  ·simp_all

theorem dg {α:Type} {q:α->Bool} {del:α->Option Bool}:∀(L:List α) (n:Nat),(∀x ∈ L,del x=some (q x)) ->
  (zf (λ(k:Nat) (o:α) (_:Unit)=>(((del o).bind λs=>(if s=true then some (.ret (k:Int)) else some (.gV ()))):Option (Out Int Unit))) L n ()=some (.inr ())/\∀x ∈ L,q x=false) \/
  ∃A x B,L=A++x::B/\q x=true/\(∀y ∈ A,q y=false)/\zf (λ(k:Nat) (o:α) (_:Unit)=>(((del o).bind λs=>(if s=true then some (.ret (k:Int)) else some (.gV ()))):Option (Out Int Unit))) L n ()=some (.inl ((n+A.length:Nat):Int))
 | [],n,_=>.inl ⟨rfl,by simp⟩
 | x::r,n,h=>by
  have p:=h x (by simp);cases hq:q x with
  | true=>exact .inr ⟨[],x,r,rfl,hq,by simp,by simp [zf,p,hq]⟩
  | false =>
   rcases dg r (n+1) (λy t=>h y (by simp [t])) with ⟨e,u⟩ | ⟨A,y,B,rfl,v,u,e⟩
   ·refine .inl ⟨by simp only [zf,p,hq,tb];exact e,?_⟩
    simp_all
   ·refine .inr ⟨x::A,y,B,rfl,v,?_,?_⟩
    ·simp_all
    ·simp only [zf,p,hq,tb]
     grind
def zr9:GC:=GC.mk ([]:zq) ([]:List GE) ([]:List GC)
def fu (t:List GC) (s:zq):Option GC:=t.find? λx=>x.name==s
theorem oH (t:List GC) (s:zq):xT t s=some (match fu t s with | some x=>(x,true) | none=>(zr9,false)):=by
 unfold xT wd;rcases dg (q:=λx:GC=>x.name==s) (del:=λk=>sH k s) t 0 (λx _=>rfl) with ⟨e,h⟩ | ⟨A,x,B,rfl,p,o,e⟩
 ·rw [e];have:fu t s=none:=j6.2 λx r=>by simp_all
  rw [this];rfl
 ·rw [e];have:fu (A++x::B) s=some x:=by
   unfold fu
   grind
  rw [this];simp only [lp,tb,l6];rw [lq (by simp),zt (x:=x) (by simp)];rfl
def vO:List GC->List zq->Option GC
 | _,[]=>none
 | t,[s]=>fu t s
 | t,s::c::q=>(fu t s).bind λx=>vO x.w5 (c::q)
noncomputable def tlF:Nat->zq->(List GC)×Bool×zq×(List GE)×(List GC)->Option (Out ((GE×Bool) ⊕ (Bool×zq×(List GE)×(List GC))) ((List GC)×Bool×zq×(List GE)×(List GC))):=(λ(_:Nat) (x2:zq) (s2:(List GC)×Bool×zq×(List GE)×(List GC))=>(((xT s2.1 x2).bind λv47=>(if (!v47.2)=true then some (.brk (s2.1,v47.2,v47.1.name,v47.1.leaves,v47.1.w5)) else some (.gV (v47.1.w5,v47.2,v47.1.name,v47.1.leaves,v47.1.w5))))))
noncomputable def tlR (kind2:Int) (s1:Bool×zq×(List GE)×(List GC)):Option (GE×Bool):=((yo s1.2.2.1 (λx0=>sa x0 kind2)).bind λv49=>((if (((!s1.1) || (decide (v49 < (0:Int))))==false)=true then uD kind2 else some default).bind λv50=>(if (((!s1.1) || (decide (v49 < (0:Int)))) || (v50.w7==(0:Int)))=true then ((uD kind2).bind λv52=>some (v52,false)) else ((zS s1.2.2.1 v49).bind λy53=>((yJ y53.y4).bind λv54=>((yk y53.x4).bind λv55=>some ((GE.mk y53.w7 y53.n y53.time y53.z6 y53.text v54 v55),true)))))))
theorem zpa (t0:List GC) (k:List zq) (o:Int):uu t0 k o=(lp ((lp (zf tlF k 0 (t0,(decide (((k).length:Int) > (0:Int))),([]:zq),([]:List GE),([]:List GC))) λ(s2:(List GC)×Bool×zq×(List GE)×(List GC))=>some (.inr (s2.2.1,s2.2.2.1,s2.2.2.2.1,s2.2.2.2.2))):Option ((GE×Bool) ⊕ (Bool×zq×(List GE)×(List GC)))) (tlR o)):=rfl
theorem zej:∀(p:List zq) (n:Nat) (t:List GC) (z:Bool×zq×(List GE)×(List GC)),p ≠ [] ->
  match vO t p with
  | some x=>zf tlF p n (t,z)=some (.inr (x.w5,true,x.name,x.leaves,x.w5))
  | none=>∃u,zf tlF p n (t,z)=some (.inr (u,false,([]:zq),([]:List GE),([]:List GC)))
 | [],_,_,_,h=>absurd rfl h
 | [s],n,t,z,_=>by
  simp only [vO,zf,tlF,oH,tb];cases fu t s with
  | none=>exact ⟨t,rfl⟩
  | some x=>rfl
 | s::c::q,n,t,z,_=>by
  have k:=λu z=>zej (c::q) (n+1) u z (by simp);simp only [vO];cases e:fu t s with
  | none=>exact ⟨t,by rw [zf];simp only [tlF,oH,e,tb];rfl⟩
  | some x =>
   have o:tlF n s (t,z)=some (.gV (x.w5,true,x.name,x.leaves,x.w5)):=by simp only [tlF,oH,e,tb];rfl
   have:=k x.w5 (true,x.name,x.leaves,x.w5);rw [zf,o,tb];omega
theorem ch {t:List GC} (s:zq) (h:cW t=true):(fu t s=none/\∀y ∈ t,y.name ≠ s) \/ ∃A x B,t=A++x::B/\fu t s=some x/\x.name=s/\(∀y ∈ A,y.name ≠ s)/\∀y ∈ B,y.name ≠ s:=by
 rcases da s h with ⟨A,B,rfl,o,p⟩ | ⟨A,x,B,rfl,r,o,p⟩
 ·left;have:∀y ∈ A++B,y.name ≠ s:=λy k=>by
   rcases lj.1 k with k | k
   ·exact o.ne y k
   ·exact p.ne y k
  exact ⟨j6.2 λy k=>by simp_all,this⟩
 ·refine .inr ⟨A,x,B,rfl,?_,r,o.ne,p.ne⟩;unfold fu;rw [List.find?_append,j6.2 (λy k=>by simp [o.ne y k]),gM];simp [r]
theorem zkX:∀(p:List zq) (t:List GC) (d:Nat) (a:List zq) (l:GE),p ≠ []->gY d t=true->(GN.mk (a++p) l ∈ zw a t ↔ ∃x,vO t p=some x/\l ∈ x.leaves)
 | [],_,_,_,_,h,_=>absurd rfl h
 | s::q,t,d,a,l,_,h=>by
  obtain ⟨w,C⟩:=zP h;rcases ch s w with ⟨e,v⟩ | ⟨A,x,B,rfl,e,z,E,u⟩
  ·have r:vO t (s::q)=none:=by cases q <;> simp [vO,e]
   rw [r];constructor
   ·intro k;exact (pf v k rfl).elim
   ·simp_all
  ·rw [sg,show x::B=[x]++B from rfl,sg,sR,lj,lj,ee,z];have G:¬ GN.mk (a++s::q) l ∈ zw a A:=λk=>pf E k rfl;have J:¬ GN.mk (a++s::q) l ∈ zw a B:=λk=>pf u k rfl;have o:=(wC (C x (by simp))).2.1;cases q with
   | nil =>
    have H:¬ GN.mk (a++[s]) l ∈ zw (a++[s]) x.w5:=λk=>by
     have:=(om _ _ _ k).1;simp at this
    have r:vO (A++x::B) [s]=some x:=e
    simp_all
   | cons c q =>
    have D:=zkX (c::q) x.w5 (d+1) (a++[s]) l (by simp) o;have F:a++[s]++c::q=a++s::c::q:=by simp
    rw [F] at D;have I:vO (A++([x]++B)) (s::c::q)=vO x.w5 (c::q):=by
     show (fu (A++x::B) s).bind _=_;rw [e];rfl
    simp_all
theorem zkW {r:GN} {p:List zq} {k:Int} (h:uq r=(p,k)):r=GN.mk ([]++p) r.leaf:=by
 have e:r.path=p:=congrArg Prod.fst h;cases r;simp only at e;rw [e];rfl
theorem zht {k:Int} (h:1<=k/\k<=4):∃v,uD k=some v/\v.w7=k:=by
 unfold uD;rw [lq (by simp;omega)]
 simp_all
theorem zmR {k:Int} (s:zq):∃v,tlR k (false,s,([]:List GE),([]:List GC))=some (v,false):=by
 obtain ⟨v,e⟩:=zhu k;refine ⟨v,?_⟩;unfold tlR yo;simp [zf,lp,e]
theorem cC {t:List GC} (h:gY 0 t=true) (E:∀r ∈ zw [] t,fF r.leaf) {p:List zq} (H:p ≠ []) {k:Int} (N:1<=k/\k<=4) :
  (∃l,GN.mk p l ∈ zw [] t/\l.w7=k/\uu t p k=some (l,true)) \/ ((∀r ∈ zw [] t,uq r ≠ (p,k))/\∃v,uu t p k=some (v,false)):=by
 have w:=zej p 0 t (decide ((p.length:Int) > 0),([]:zq),([]:List GE),([]:List GC)) H;have J:=λl=>zkX p t 0 [] l H h;rw [zpa];cases e:vO t p with
 | none =>
  rw [e] at w;obtain ⟨u,w⟩:=w;right;refine ⟨λr s z=>?_,?_⟩
  ·have:=zkW z
   grind
  ·rw [w];exact zmR []
 | some x =>
  rw [e] at w;simp only at w;rw [w];simp only [yL];obtain ⟨v0,Q,n2⟩:=zht N;unfold tlR yo;rcases dg (q:=λy:GE=>y.w7==k) (del:=λM=>sa M k) x.leaves 0 (λx _=>rfl) with ⟨K,G⟩ | ⟨A,y,B,D,G,R,K⟩
  ·right;refine ⟨λr s z=>?_,v0,?_⟩
   ·have:=zkW z;rw [this] at s;obtain ⟨S,C,O⟩:=(J _).1 s;rw [e] at C;injection C with C;subst C;have:=G _ O;simp only [beq_eq_false_iff_ne] at this;exact this (congrArg Prod.snd z)
   ·simp_all
  ·left;have P:y ∈ x.leaves:=by simp_all
   have o:GN.mk ([]++p) y ∈ zw [] t:=(J y).2 ⟨x,e,P⟩;have F:y.w7=k:=by simp_all
   have I:=E _ o;refine ⟨y,o,F,?_⟩;simp only [];rw [K];simp only [lp,tb,l6];have c1:((!true) || (decide (((A.length:Nat):Int) < (0:Int))))=false:=by simp
   rw [c1];simp only [lL,nv,Q,tb,lR,n2];rw [lq (by simp;omega),D,zt (x:=y) (by simp),tb,um (yS (jM I.y4)),tb,wF (yS (jM I.x4)),tb]

theorem zgY {α:Type} {lt:α->α->Prop} (k:∀x,¬ lt x x):∀(L M:List α),L.Pairwise lt->(∀x ∈ L,x ∈ M)->L.length<=M.length
 | [],_,_,_=>lX _
 | x::L,M,h,hs=>by
  obtain ⟨r,o⟩:=ll.1 h;obtain ⟨A,B,rfl⟩:=gm (hs x (by simp));have:=zgY k L (A++B) o λy p=>by
   grind
  grind
theorem uW {p:List zq} (h:sY p=true):p ≠ []/\p.length<=3/\p.all fJ=true:=by
 refine ⟨znl h,?_⟩;simp only [sY,tr,so] at h
 simp_all
theorem zp2 {k:Int} {p:List zq} {t:List GC} (C:there=true->l.w7=k/\fb l=true/\fF l) (G:sY p=true) (z:gY 0 t=true) (D:(zw [] t).length<=16777215) :
  ∃t',zn1 t p k l there=some t'/\gY 0 t'=true/\(zw [] t').length<=(zw [] t).length+1/\∀r,r ∈ zw [] t' ↔ (r ∈ zw [] t/\uq r ≠ (p,k)) \/ (there=true/\r=⟨p,l⟩):=by
 obtain ⟨E,I,w⟩:=uW G;obtain ⟨t',M,v,_,o⟩:=zdF C p t 0 (p.length+1) E w (by omega) z D (by omega);have o:=o [];simp only [lC] at o;refine ⟨t',tT (p.length+1) λn K=>?_,v,?_,o⟩
 ·obtain ⟨u,F,H,_,s⟩:=zdF C p t 0 n E w (by omega) z D (by omega);have s:=s [];simp only [lC] at s;rw [F,zis H v λr=>by rw [s,o]]
 ·have:=zgY (lt:=λr q=>bu (uq r) (uq q)=true) (λx h=>by rw [zcv] at h;cases h) (zw [] t') (zw [] t++[⟨p,l⟩]) (sQ v []) λr J=>by
   grind
  simp_all
theorem bo {q:GF->Bool} {del:GF->Option Bool}:∀(L:List GF) (n:Nat),(∀x ∈ L,del x=some (q x)) ->
  (zf (λ(k:Nat) (o:GF) (_:Unit)=>(((del o).bind λs=>(if s=true then some (.ret (k:Int)) else some (.gV ()))):Option (Out Int Unit))) L n ()=some (.inr ())/\∀x ∈ L,q x=false) \/
  ∃A x B,L=A++x::B/\q x=true/\(∀y ∈ A,q y=false)/\zf (λ(k:Nat) (o:GF) (_:Unit)=>(((del o).bind λs=>(if s=true then some (.ret (k:Int)) else some (.gV ()))):Option (Out Int Unit))) L n ()=some (.inl ((n+A.length:Nat):Int))
 | [],n,_=>.inl ⟨rfl,by simp⟩
 | x::r,n,h=>by
  have p:=h x (by simp);cases hq:q x with
  | true=>exact .inr ⟨[],x,r,rfl,hq,by simp,by simp [zf,p,hq]⟩
  | false =>
   rcases bo r (n+1) (λy t=>h y (by simp [t])) with ⟨e,u⟩ | ⟨A,y,B,rfl,v,u,e⟩
   ·refine .inl ⟨by simp only [zf,p,hq,tb];exact e,?_⟩
    simp_all
   ·refine .inr ⟨x::A,y,B,rfl,v,?_,?_⟩
    ·simp_all
    ·simp only [zf,p,hq,tb]
     grind
noncomputable def zs8 (del:GF->Option Bool) (n:Nat):Int×Int×(List GF)->Option (Out (List GF) (Int×Int×(List GF))):=λs1=>((zQ ((s1.2.2).length=n) ((if (decide (s1.2.1 < ((n:Nat):Int)))=true then ((zS s1.2.2 s1.2.1).bind λy14=>((del y14).bind λv15=>(if (!v15)=true then ((zS s1.2.2 s1.1).bind λy17=>some (.gV ((IntKind.wrap .i64 (s1.1+(1:Int))),(IntKind.wrap .i64 (s1.2.1+(1:Int))),(s1.2.2.set s1.1.toNat y14)))) else some (.gV (s1.1,(IntKind.wrap .i64 (s1.2.1+(1:Int))),s1.2.2))))) else some (.brk (s1.1,s1.2.1,s1.2.2))))))
theorem zn3 (o:List GF) (k:GF->Option Bool):xV o k=((yw o k).bind λs=>(if (s==(-1:Int))=true then some o else (lp (zY (zs8 k o.length) (s,(IntKind.wrap .i64 (s+(1:Int))),o)) λ(p:Int×Int×(List GF))=>(zQ (0<=p.1/\p.1<=((o.length:Nat):Int)) (((fL (p.2.2.take p.1.toNat++List.replicate (o.length - p.1.toNat) (GF.mk (0:Int) (GA.mk (GH.mk (0:Int) (0:Int)) (0:Int)) ([]:zq))) (0:Int) p.1).bind λr=>some r)))))):=rfl
theorem zn4 {del:GF->Option Bool} {L0:List GF} (C:L0.length<=16777216) (h:∀x ∈ L0,del x=some (q x)) {a0 b0:Nat} (F:a0 < b0) (E:b0<=L0.length) (I:L0.take a0=(L0.take b0).filter λx=>!q x) :
  ∃p,zY (zs8 del L0.length) ((a0:Int),(b0:Int),L0)=some (.inr p)/\∃a:Nat,p.1=(a:Int)/\a < L0.length/\p.2.2.length=L0.length/\p.2.2.take a=L0.filter λx=>!q x:=by
 refine w9 (f:=zs8 del L0.length) (λs=>∃a b:Nat,s.1=(a:Int)/\s.2.1=(b:Int)/\a < b/\b<=L0.length/\s.2.2.length=L0.length/\s.2.2.take a=(L0.take b).filter (λx=>!q x)/\s.2.2.drop b=L0.drop b)
  _ (λs=>L0.length - s.2.1.toNat) ?_ _ _ rfl ⟨a0,b0,rfl,rfl,F,E,rfl,I,rfl⟩
 rintro ⟨i,j,M⟩ ⟨a,b,w,D,K,z,u,v,r⟩
 simp only at w D u v r;subst w D;simp only [zs8,zQ,u,nv];by_cases hb:b < L0.length
 ·right;have H:M[b]?=L0[b]?:=by
   have:=congrArg (λl=>l[0]?) r
   grind
  have G:L0[b]?=some L0[b]:=s5 hb;have hd:=h L0[b] (j0 hb);have o:zS M (b:Int)=some L0[b]:=by simp [zS,H]
  have k:zS M (a:Int)=some (M[a]'(by omega)):=by simp [zS]
  rw [lc (by simp;omega),o,tb,hd,tb];have t:L0.take (b+1)=L0.take b++[L0[b]]:=by simp_all
  cases hq:q L0[b] with
  | true =>
   refine ⟨((a:Int),((b+1:Nat):Int),M),by simp [xF (lu z C)],⟨a,b+1,rfl,rfl,by omega,by omega,u,?_,?_⟩,by simp;omega⟩
   ·grind
   ·have:=congrArg (λl=>l.drop 1) r;simpa [kp] using this
  | false =>
   refine ⟨(((a+1:Nat):Int),((b+1:Nat):Int),M.set a L0[b]),by simp [k,xF (lu z C),xF (show a<=16777216 by omega)],⟨a+1,b+1,rfl,rfl,by omega,by omega,by simp_all,?_,?_⟩,by simp;omega⟩
   ·rw [ka,jQ (oA _),v,t,kM,lr (by omega)];simp [hq]
   ·have:=congrArg (λl=>l.drop 1) r;rw [jR (by omega)];simpa [kp] using this
 ·left;have J:b=L0.length:=by omega
  rw [lq (by simp;omega)]
  grind
theorem zkd {del:GF->Option Bool} {L0:List GF} (u:L0.length<=16777216) (h:∀x ∈ L0,del x=some (q x)):xV L0 del=some (L0.filter λx=>!q x):=by
 rw [zn3];unfold yw;rcases bo L0 0 h with ⟨e,p⟩ | ⟨A,x,B,t,s,p,e⟩
 ·rw [e];simp only [lp,tb,lL,nv];rw [kw.2 (λx D=>by simp_all)]
 ·rw [e];have o:L0.length=A.length+1+B.length:=by grind
  simp only [lp,tb,l6];rw [lq (by simp_all),xF (by omega)];obtain ⟨k,v,a,r,E,w,z⟩:=zn4 u h (a0:=A.length) (b0:=A.length+1) (by omega) (by omega) (by
   rw [t,hZ,kz,lm (by omega),show A.length+1 - A.length=1 by omega,kM];simp only [jP,gj,jG,s,List.filter_nil];rw [kw.2 (λy C=>by simp_all)];simp)
  rw [v];simp only [zQ];rw [lc (by omega),r];have hs:fL (k.2.2.take ((a:Int)).toNat++List.replicate (L0.length - ((a:Int)).toNat) (GF.mk (0:Int) (GA.mk (GH.mk (0:Int) (0:Int)) (0:Int)) ([]:zq))) (0:Int) (a:Int)=some (k.2.2.take a):=by
   unfold fL
   grind
  simp_all
theorem zoe {x:List GF} {s:GF} (G:x.length<=1048576) (C:∀i n,x[i]?=some n->∃v,cmp n s=some v/\(i < c->v < 0)/\(c<=i->0<=v)) :
  ∀(k lo hi:Nat),hi - lo<=k->lo<=c->c<=hi->hi<=x.length->zY (ρ:=Int×Bool) (λ(o:Int×Int)=>((if (decide (o.1 < o.2))=true then ((zS x (IntKind.wrap .i64 ((Int.fdiv (IntKind.wrap .u64 ((IntKind.wrap .i64 (o.1+o.2)))) (2 ^ (min (1:Int).toNat (IntKind.bits .u64))))))).bind λD=>((cmp D s).bind λp=>(if (decide (p < (0:Int)))=true then some (.gV ((IntKind.wrap .i64 ((IntKind.wrap .i64 ((Int.fdiv (IntKind.wrap .u64 ((IntKind.wrap .i64 (o.1+o.2)))) (2 ^ (min (1:Int).toNat (IntKind.bits .u64))))))+(1:Int))),o.2)) else some (.gV (o.1,(IntKind.wrap .i64 ((Int.fdiv (IntKind.wrap .u64 ((IntKind.wrap .i64 (o.1+o.2)))) (2 ^ (min (1:Int).toNat (IntKind.bits .u64))))))))))) else some (.brk (o.1,o.2))):Option (Out _ (Int×Int)))) ((lo:Int),(hi:Int))=some (.inr ((c:Int),(c:Int))):=by
 intro k
 induction k with
 | zero =>
  intro lo hi z r u hh;obtain rfl:lo=hi:=by omega
  obtain rfl:lo=c:=by omega
  rw [yE];simp
 | succ k ih =>
  intro lo hi z r u hh;rw [yE];by_cases hlt:lo < hi
  ·have hd:decide ((lo:Int) < (hi:Int))=true:=lN (by omega);simp only [hd,nv,ze5 hlt (by omega)];have t:(lo+hi) / 2 < x.length:=by omega
   rw [tJ t,tb];obtain ⟨v,E,w,F⟩:=C ((lo+hi) / 2) _ (s5 t);rw [E,tb];by_cases hcm:(lo+hi) / 2 < c
   ·rw [lN (w hcm),lc rfl];simp only;have e:IntKind.wrap .i64 ((((lo+hi) / 2:Nat):Int)+1)=(((lo+hi) / 2+1:Nat):Int):=by rw [wW (by omega)];omega
    rw [e];exact ih _ _ (by omega) (by omega) u hh
   ·rw [lP (by omega)];simp only [tx,lg];exact ih _ _ (by omega) r (by omega) (by omega)
  ·grind
theorem zsL {x:List GF} {s:GF} (p:x.length<=1048576) (o:c<=x.length) (k:∀i n,x[i]?=some n->∃v,cmp n s=some v/\(i < c->v < 0)/\(c<=i->0<=v)) :
  zR x s cmp=(if c < x.length then cmp (x.getD c default) s else some 1).bind λv=>some ((c:Int),(decide (c < x.length)&&(v==0))):=by
 unfold zR;have:=zoe p k x.length 0 x.length (by omega) (lX _) o (oA _);simp only [il] at this;rw [show ((0:Int),(x.length:Int))=(((0:Nat):Int),(x.length:Int)) from rfl] at *;rw [this];simp only [lp];by_cases h:c < x.length
 ·have hd:decide ((c:Int) < (x.length:Int))=true:=lN (by omega);simp only [hd,h,nv,nr,lL,jq,lA];rw [ze (by omega)]
 ·have hd:decide ((c:Int) < (x.length:Int))=false:=lP (by omega);simp only [hd,h,lg,jd,ii,tb];rfl

def dd:List GA->List GA
 | []=>[]
 | [x]=>[x]
 | x::y::r=>if x=y then dd (y::r) else x::dd (y::r)
theorem zml:∀(A:List GA) (x y:GA),dd (A++[x,y])=if x=y then dd (A++[x]) else dd (A++[x])++[y]
 | [],x,y=>by by_cases h:x=y <;> simp [dd,h]
 | [a],x,y=>by
  by_cases h:x=y
  ·subst h;by_cases h2:a=x <;> simp [dd,h2]
  ·by_cases h2:a=x <;> simp [dd,h2,h]
 | a::b::A,x,y=>by
  have k:=zml (b::A) x y;simp only [kg] at k ⊢;simp only [dd]
  grind
theorem zgB:∀(L:List GA) (d:GA),d ∈ dd L ↔ d ∈ L
 | [],_=>by simp [dd]
 | [x],_=>by simp [dd]
 | x::y::r,d=>by
  simp only [dd];split
  ·rename_i h;subst h;rw [zgB (x::r) d];simp
  ·rw [lG,zgB (y::r) d];simp
theorem zcN {lt:GA->GA->Prop} (k:∀a b,¬ lt b a->a=b \/ lt a b) (u:∀a b c,lt a b->lt b c->lt a c):∀(L:List GA),L.Pairwise (λa b=>¬ lt b a)->(dd L).Pairwise lt
 | [],_=>by simp [dd]
 | [x],_=>by simp [dd]
 | x::y::r,h=>by
  have t:=(ll.1 h).2;have s:=zcN k u (y::r) t;simp only [dd];split
  ·exact s
  ·rename_i p;refine ll.2 ⟨λz o=>?_,s⟩;rw [zgB] at o;have v:lt x y:=(k x y ((ll.1 h).1 y (by simp))).resolve_left p;rcases lG.1 o with rfl | o
   ·omega
   ·rcases k y z ((ll.1 t).1 z o) with rfl | w
    ·omega
    ·grind
theorem zjB {L:List GA} {a b:GA} (k:L[n]?=some a) (o:L[n+1]?=some b):L.take (n+2)=L.take n++[a,b]:=by
 rw [ka,ka,k,o];simp
theorem zhN {L:List GA} {a b:GA} (k:L[n]?=some a) (o:L[n+1]?=some b):dd (L.take (n+2))=if a=b then dd (L.take (n+1)) else dd (L.take (n+1))++[b]:=by
 rw [zjB k o,zml,ka,k];rfl
noncomputable def zn8 (n:Nat) (s1:Int):Int×Int×(List GA)->Option (Out (Out (List GA) Int) (Int×Int×(List GA))):=λ(s2:Int×Int×(List GA))=>((zQ ((s2.2.2).length=n) ((if (decide (s2.2.1 < ((n - s1.toNat:Nat):Int)))=true then ((zS (s2.2.2.drop s1.toNat) s2.2.1).bind λy51=>((zS (s2.2.2.drop s1.toNat) (IntKind.wrap .i64 (s2.2.1 - (1:Int)))).bind λy52=>(if (!(y51.zi.fj==y52.zi.fj&&(y51.zi.inc==y52.zi.inc&&(y51.seq==y52.seq&&true))))=true then ((zS (s2.2.2.drop s1.toNat) s2.2.1).bind λy54=>((zS s2.2.2 s2.1).bind λy55=>some (.gV ((IntKind.wrap .i64 (s2.1+(1:Int))),(IntKind.wrap .i64 (s2.2.1+(1:Int))),(s2.2.2.set s2.1.toNat y54))))) else some (.gV (s2.1,(IntKind.wrap .i64 (s2.2.1+(1:Int))),s2.2.2))))) else some (.brk (s2.1,s2.2.1,s2.2.2))))))
theorem zee (h0:0 < i) (k:i<=9223372036854775807):(IntKind.wrap .i64 ((i:Int) - 1))=((i - 1:Nat):Int):=uP h0 k
theorem zmp {L:List GA} (U:L.length<=16777216) {k0:Nat} (H:0 < k0) (P:k0 < L.length) {a:GA} (I:L[k0 - 1]?=some a) (F:L[k0]?=some a) (V:dd (L.take k0)=L.take k0) :
  ∃p,zY (zn8 L.length (k0:Int)) ((k0:Int),1,L)=some (.inr p)/\∃m:Nat,p.1=(m:Int)/\m<=L.length/\p.2.2.length=L.length/\p.2.2.take m=dd L:=by
 refine w9 (f:=zn8 L.length (k0:Int)) (λs=>∃m b:Nat,s.1=(m:Int)/\s.2.1=(b:Int)/\1<=b/\k0+b<=L.length/\m+1<=k0+b/\s.2.2.length=L.length/\s.2.2.take m=dd (L.take (k0+b))/\s.2.2.drop (k0+b - 1)=L.drop (k0+b - 1))
  _ (λs=>L.length - s.2.1.toNat) ?_ _ _ rfl ⟨k0,1,rfl,rfl,oA _,by omega,by omega,rfl,?_,by simp⟩
 ·rintro ⟨i,j,M⟩ ⟨m,b,z,E,Q,S,R,u,w,v⟩
  simp only at z E u w v;subst z E;simp only [zn8,zQ,u,nv,nr];by_cases hb:k0+b < L.length
  ·right;have r:∀t,k0+b - 1<=t->M[t]?=L[t]?:=λt O=>by
    have:=congrArg (λl=>l[t - (k0+b - 1)]?) v
    grind
   have D:L[k0+b]?=some L[k0+b]:=s5 hb;have hb1:k0+b - 1 < L.length:=by omega
   have J:L[k0+b - 1]?=some (L[k0+b - 1]'hb1):=s5 hb1;have C:zS (M.drop k0) (b:Int)=some L[k0+b]:=by simp only [zS,nr,lx];rw [lc (by omega),r _ (by omega),D]
   have G:zS (M.drop k0) (IntKind.wrap .i64 ((b:Int) - 1))=some (L[k0+b - 1]'hb1):=by
    rw [zee (by omega) (by omega)];simp only [zS,nr,lx]
    grind
   have K:zS M (m:Int)=some (M[m]'(by omega)):=by simp [zS]
   have k:=zhN (L:=L) (n:=k0+b - 1) J (by rw [show k0+b - 1+1=k0+b by omega];exact D);rw [show k0+b - 1+2=k0+(b+1) by omega,show k0+b - 1+1=k0+b by omega] at k;have o:M.drop (k0+(b+1) - 1)=L.drop (k0+(b+1) - 1):=by
    have:=congrArg (λl=>l.drop 1) v;simp only [kp] at this
    rwa [show k0+b - 1+1=k0+(b+1) - 1 by omega] at this
   rw [lc (by simp;omega),C,tb,G,tb];rw [th];by_cases he:L[k0+b]=L[k0+b - 1]'hb1
   ·refine ⟨((m:Int),((b+1:Nat):Int),M),by simp [he,xF (show b<=16777216 by omega)],⟨m,b+1,rfl,rfl,by omega,by omega,by omega,u,?_,o⟩,by simp;omega⟩
    simp_all
   ·refine ⟨(((m+1:Nat):Int),((b+1:Nat):Int),M.set m L[k0+b]),?_,⟨m+1,b+1,rfl,rfl,by omega,by omega,by omega,by simp_all,?_,?_⟩,by simp;omega⟩
    ·simp [he,C,K,xF (show b<=16777216 by omega),xF (show m<=16777216 by omega)]
    ·rw [k,lq (λe=>he e.symm),<- w,ka,jQ (oA _),lr (by omega)];rfl
    ·rw [jR (by omega)];exact o
  ·left;have N:k0+b=L.length:=by omega
   rw [lq (by simp;omega)]
   grind
 ·have:=zhN (L:=L) (n:=k0 - 1) I (by rw [show k0 - 1+1=k0 by omega];exact F)
  grind
noncomputable def zcP (s0:List GA):Int->Option (Out (List GA) Int):=λ(s1:Int)=>((if (decide (s1 < ((s0).length:Int)))=true then ((zS s0 s1).bind λy35=>((zS s0 (IntKind.wrap .i64 (s1 - (1:Int)))).bind λy36=>(if (y35.zi.fj==y36.zi.fj&&(y35.zi.inc==y36.zi.inc&&(y35.seq==y36.seq&&true)))=true then (zQ (0<=s1/\s1<=((s0.length:Nat):Int)) ((lp (zY (zn8 s0.length s1) (s1,(1:Int),s0)) λ(s2:Int×Int×(List GA))=>(zQ (0<=s2.1/\s2.1<=((s0.length:Nat):Int)) (((fL (s2.2.2.take s2.1.toNat++List.replicate (s0.length - s2.1.toNat) (GA.mk (GH.mk (0:Int) (0:Int)) (0:Int))) (0:Int) s2.1).bind λm57=>some (.ret m57))))))) else some (.gV (IntKind.wrap .i64 (s1+(1:Int))))))) else some (.brk s1)))
theorem zke (k:List GA):we k=(if (decide (((k).length:Int) < (2:Int)))=true then some k else (lp (zY (zcP k) (1:Int)) λ(_:Int)=>some k)):=rfl
theorem zkf {L:List GA} (C:L.length<=16777216):∀(n k:Nat),L.length - k=n->0 < k->k<=L.length->dd (L.take k)=L.take k->lp (zY (zcP L) (k:Int)) (λ(_:Int)=>some L)=some (dd L):=by
 intro n
 induction n with
 | zero =>
  intro k D h0 hk hd;have:k=L.length:=by omega
  subst this;rw [yE];simp only [zcP]
  simp_all
 | succ n ih =>
  intro k D h0 hk hd;have o:k < L.length:=by omega
  have r:L[k]?=some L[k]:=s5 o;have hk1:k - 1 < L.length:=by omega
  have u:L[k - 1]?=some (L[k - 1]'hk1):=s5 hk1;rw [yE];have v:zS L (k:Int)=some L[k]:=by simp [zS]
  have t:zS L (IntKind.wrap .i64 ((k:Int) - 1))=some (L[k - 1]'hk1):=by
   rw [zee h0 (by omega)];simp only [zS,nr];rw [lc (by omega),u]
  have p:=zhN (L:=L) (n:=k - 1) u (by rw [show k - 1+1=k by omega];exact r);rw [show k - 1+2=k+1 by omega,show k - 1+1=k by omega] at p;by_cases he:L[k]=L[k - 1]'hk1
  ·obtain ⟨s,w,m,E,F,G,z⟩:=zmp C h0 o (a:=L[k]) (by simp_all) r hd;have hs:fL (s.2.2.take ((m:Int)).toNat++List.replicate (L.length - ((m:Int)).toNat) (GA.mk (GH.mk (0:Int) (0:Int)) (0:Int))) (0:Int) (m:Int)=some (s.2.2.take m):=by
    unfold fL;rw [lc (by simp;omega)];simp only [nr,iQ,k9]
    grind
   have:zcP L (k:Int)=some (.ret (dd L)):=by
    simp only [zcP];rw [lc (by simp;omega),v,tb,t,tb,th,lc (by simp [he])];rw [ze (by omega),w];simp only [lp];rw [ze (by omega),E,hs,tb,z]
   simp_all
  ·have:zcP L (k:Int)=some (.gV ((k+1:Nat):Int)):=by
    simp only [zcP];rw [lc (by simp;omega),v,tb,t,tb,th,lq (by simp [he]),xF (by omega)]
   rw [this];refine ih (k+1) (by omega) (by omega) (by omega) ?_;rw [p,lq (λe=>he e.symm),hd,ka,r];rfl
theorem zd1 {L:List GA} (k:L.length<=16777216):we L=some (dd L):=by
 rw [zke];by_cases h:L.length < 2
 ·rw [lc (by simp;omega)]
  match L,h with
  | [],_=>rfl
  | [x],_=>rfl
  | _::_::_,h=>simp at h;omega
 ·rw [lq (by simp;omega)];have:=zkf k (L.length - 1) 1 rfl (by omega) (by omega) (by
   match L,h with
   | x::y::r,_=>rfl
   | [],h=>simp at h
   | [x],h=>simp at h)
  omega

theorem ul (a:GA):gU a a=false:=by simp [gU]
theorem sE {a b c:GA} (o:gU a b=true) (k:gU b c=true):gU a c=true:=by
 unfold gU at *;grind
theorem ec (a b:GA):a=b \/ gU a b=true \/ gU b a=true:=by
 rcases a with ⟨⟨p,o⟩,a3⟩;rcases b with ⟨⟨k,r⟩,s⟩
 simp only [gU,GA.mk.injEq,GH.mk.injEq];grind
theorem zp9 (a:GF):yc a a=false:=by simp [yc,ul]
theorem zi2 {a b c:GF} (o:yc a b=true) (k:yc b c=true):yc a c=true:=by
 unfold yc gU at *;grind
theorem zc0 {α:Type} {lt:α->α->Bool} (k:∀a b c,lt a b=true->lt b c=true->lt a c=true) (x:α):∀(L:List α),L.Pairwise (λa b=>lt a b=true)->∀(i:Nat) (y:α),L[i]?=some y->(lt y x=true ↔ i < (L.takeWhile λy=>lt y x).length)
 | [],_,i,y,h=>by simp at h
 | z::r,hs,i,y,h=>by
  obtain ⟨s,p⟩:=ll.1 hs;cases i with
  | zero =>
   simp only [gA,p3] at h;subst h;cases hz:lt z x <;> simp [kx,hz]
  | succ i =>
   simp only [iK] at h;have o:=zc0 k x r p i y h;cases hz:lt z x with
   | true=>simp [kx,hz,o]
   | false =>
    simp only [kx,hz,tx,lg,lF,Nat.not_lt_zero,iff_false]
    grind
theorem zgW {α:Type} (p:α->Bool):∀L:List α,L.take (L.takeWhile p).length=L.takeWhile p
 | []=>rfl
 | x::r=>by cases h:p x <;> simp [kx,h,zgW p r]
theorem zcJ {α:Type} (p:α->Bool):∀L:List α,L.drop (L.takeWhile p).length=L.dropWhile p
 | []=>rfl
 | x::r=>by cases h:p x <;> simp [kx,List.dropWhile_cons,h,zcJ p r]
theorem zjy {α:Type} (p:α->Bool):∀L:List α,(L.takeWhile p).length<=L.length
 | []=>by simp
 | x::r=>by have:=zjy p r;cases h:p x <;> simp [kx,h] <;> omega
theorem zkH {α:Type} (p:α->Bool) (L:List α):(L.takeWhile p).length+(L.dropWhile p).length=L.length:=by
 rw [<- ng,lO]
theorem zkG {α:Type} (p:α->Bool):∀(L:List α),∀y ∈ L.takeWhile p,p y=true
 | [],y,h=>by simp at h
 | x::r,y,h=>by
  cases hx:p x with
  | true =>
   rw [kx,lc hx] at h;rcases lG.1 h with rfl | h
   ·exact hx
   ·exact zkG p r y h
  | false=>rw [kx,lq (by simp [hx])] at h;simp at h
theorem zaJ {α:Type} {lt:α->α->Prop} (o:∀a b c,lt a b->lt b c->lt a c):∀(L:List α),(∀i a b,L[i]?=some a->L[i+1]?=some b->lt a b)->L.Pairwise lt
 | [],_=>.nil
 | [x],_=>by simp
 | x::y::r,h=>by
  have p:=zaJ o (y::r) λi a b t s=>h (i+1) a b (by simp_all) (by simp_all);have h0:=h 0 x y rfl rfl;refine ll.2 ⟨λz k=>?_,p⟩;rcases lG.1 k with rfl | k
  ·exact h0
  ·exact o _ _ _ h0 ((ll.1 p).1 z k)
theorem zew (h:fV L=true):L.Pairwise λa b=>yc a b=true:=by
 refine zaJ (lt:=λa b=>yc a b=true) (λ_ _ _=>zi2) L λi a b o k=>?_;have:=fg.1 h (i+1) b k;simp only [Nat.succ_ne_zero,jd,lR,aJ,iG,lz,o,jE] at this;omega
theorem zb6 {L:List GA} (h:wn L=true):L.Pairwise λa b=>gU a b=true:=by
 rw [sS] at h;refine zaJ (lt:=λa b=>gU a b=true) (λ_ _ _=>sE) L λi a b o k=>?_;have:=fg.1 h (i+1) b k;simp only [yz,Nat.succ_ne_zero,jd,lR,iG,lz,o,jE] at this;omega
theorem uG {α:Type} {lt:α->α->Prop} (o:∀a,¬ lt a a) (p:∀a b c,lt a b->lt b c->lt a c):∀(A B:List α),A.Pairwise lt->B.Pairwise lt->(∀x,x ∈ A ↔ x ∈ B)->A=B
 | [],[],_,_,_=>rfl
 | [],b::B,_,_,h=>by have:=(h b).2 (by simp);simp at this
 | a::A,[],_,_,h=>by have:=(h a).1 (by simp);simp at this
 | a::A,b::B,hA,hB,h=>by
  obtain ⟨u,r⟩:=ll.1 hA;obtain ⟨t,s⟩:=ll.1 hB;have k:a=b:=by
   rcases lG.1 ((h a).1 (by simp)) with e | w
   ·exact e
   ·rcases lG.1 ((h b).2 (by simp)) with e | v
    ·simp_all
    ·grind
  subst k;rw [uG o p A B r s λx=>?_]
  grind
def n5 (L:List GF) (x:GF):List GF:=if (L.any λy=>decide (y.z6=x.z6))=true then L else L.takeWhile (λy=>yc y x)++([x]++L.dropWhile λy=>yc y x)
def bA (L:List GA) (d:GA):List GA:=if (L.any λy=>decide (y=d))=true then L else L.takeWhile (λy=>gU y d)++([d]++L.dropWhile λy=>gU y d)
theorem zdQ {α:Type} (p:α->Bool) (L:List α):decide (tO p L >= 0)=L.any p:=sA p L
theorem zsW {α:Type} (L:List α) (n:Nat) (h:n<=L.length):fL L (n:Int) (L.length:Int)=some (L.drop n):=by
 unfold fL
 simp_all
theorem zkF {α:Type} {L:List α} (p:α->Bool) {f:List α×Int->Option (Out (List α) (List α×Int))} (u:∀(A:List α) (i:Nat) (y:α),A.length=i->L[i]?=some y->f (A,(i:Int))=if p y=true then some (.gV (A++[y],((i+1:Nat):Int))) else some (.brk (A,(i:Int))))
  (v:∀A:List α,f (A,(L.length:Int))=some (.brk (A,(L.length:Int)))):∀(n i:Nat),L.length - i=n->i<=(L.takeWhile p).length ->
  zY f (L.take i,(i:Int))=some (.inr (L.takeWhile p,((L.takeWhile p).length:Int))):=by
 intro n
 induction n with
 | zero =>
  intro i D hi;have z:=zjy p L;have t:i=L.length:=by omega
  subst t;rw [yE,v];have F:(L.takeWhile p).length=L.length:=by omega
  have E:=zgW p L
  grind
 | succ n ih =>
  intro i D hi;have k:i < L.length:=by omega
  have w:L[i]?=some L[i]:=s5 k;have o:L.takeWhile p=L.take i++(L.drop i).takeWhile p:=by
   have u:L.take i=(L.takeWhile p).take i:=by
    conv=>lhs;rw [<- lO (p:=p) (l:=L)]
    grind
   have v:∀y ∈ L.take i,p y=true:=by
    rw [u];intro y C;exact zkG _ _ _ (List.mem_of_mem_take C)
   conv=>lhs;rw [<- kX i L]
   simp_all
  have s:L.drop i=L[i]::L.drop (i+1):=(j5 k).symm;have r:(L.take i).length=i:=by simp;omega
  rw [yE,u _ _ _ r w];cases ha:p L[i] with
  | true =>
   simp only [nv];have e:L.take i++[L[i]]=L.take (i+1):=by grind
   rw [e];refine ih (i+1) (by omega) ?_;rw [o,s,kx,lc ha]
   grind
  | false =>
   simp only [tx,lg];have e:L.takeWhile p=L.take i:=by rw [o,s,kx,lq (by simp [ha])];simp
   grind
noncomputable def zsg (L:List GF) (x:GF):(List GF)×Int->Option (Out (List GF) ((List GF)×Int)):=(λ(s1:(List GF)×Int)=>((zQ (((decide (s1.2 < ((L).length:Int)))==true)=true->0<=s1.2/\s1.2 < ((L).length:Int)) ((zQ (((decide (s1.2 < ((L).length:Int)))==true)=true->0<=s1.2/\s1.2 < ((L).length:Int)) (((if ((decide (s1.2 < ((L).length:Int)))==true)=true then qL (((L).getD s1.2.toNat default).time) (((L).getD s1.2.toNat default).z6) x.time x.z6 else some default).bind λv21=>(if ((decide (s1.2 < ((L).length:Int)))&&v21)=true then ((zS L s1.2).bind λy23=>(zQ ((s1.1).length+(([y23]:List GF)).length<=lim) (some (.gV ((s1.1++([y23]:List GF)),(IntKind.wrap .i64 (s1.2+(1:Int)))))))) else some (.brk (s1.1,s1.2)))))))):Option (Out _ ((List GF)×Int))))
theorem znI (t:L.length<=16777216) (x:GF):zY (zsg L x) ([],0)=some (.inr (L.takeWhile (λy=>yc y x),((L.takeWhile λy=>yc y x).length:Int))):=by
 refine zkF (λy=>yc y x) (f:=zsg L x) (λA i y u r=>?_) (λA=>?_) L.length 0 (by omega) (lX _)
 ·have s:i < L.length:=(tm.1 r).1;have hd:decide ((i:Int) < (L.length:Int))=true:=lN (by omega);have k:L.getD i default=y:=by simp_all
  have o:zS L (i:Int)=some y:=by simp [zS,r]
  simp only [zsg,hd];rw [ze (by omega),ze (by omega)];simp only [lL,nv,nr,k,pY,tb,lA];have p:(if y.time ≠ x.time then decide (y.time < x.time) else gU y.z6 x.z6)=yc y x:=rfl;rw [p];cases ha:yc y x with
  | true=>simp only [nv];rw [o,tb,ze (by simp [lim];omega),xF (by omega)]
  | false=>rfl
 ·have hd:decide ((L.length:Int) < (L.length:Int))=false:=lP (by omega);simp only [zsg,hd];rfl
theorem zfQ (p:L.length<=16777215) (x:GF):oC L x=some (n5 L x):=by
 unfold oC;rw [zbd,tb,zdQ];unfold n5;cases h:L.any λy=>decide (y.z6=x.z6) with
 | true=>simp only [nv];rw [ze (by simp [lim];omega)];rfl
 | false =>
  simp only [tx,lg];have k:=znI (L:=L) (by omega) x;unfold zsg at k;have o:=zjy (λy=>yc y x) L;have r:=zkH (λy=>yc y x) L;rw [k];simp only [lp];rw [ze (by simp [lim];omega),zsW _ _ o,tb,zcJ,ze (by simp [lim];omega)];simp
noncomputable def zsJ (L:List GA) (x:GA):(List GA)×Int->Option (Out (List GA) ((List GA)×Int)):=(λ(s1:(List GA)×Int)=>((zQ (((decide (s1.2 < ((L).length:Int)))==true)=true->0<=s1.2/\s1.2 < ((L).length:Int)) (((if ((decide (s1.2 < ((L).length:Int)))==true)=true then wg ((L).getD s1.2.toNat default) x else some default).bind λv16=>(if ((decide (s1.2 < ((L).length:Int)))&&v16)=true then ((zS L s1.2).bind λy18=>(zQ ((s1.1).length+(([y18]:List GA)).length<=lim) (some (.gV ((s1.1++([y18]:List GA)),(IntKind.wrap .i64 (s1.2+(1:Int)))))))) else some (.brk (s1.1,s1.2)))))):Option (Out _ ((List GA)×Int))))
theorem zms {L:List GA} (s:L.length<=16777216) (x:GA):zY (zsJ L x) ([],0)=some (.inr (L.takeWhile (λy=>gU y x),((L.takeWhile λy=>gU y x).length:Int))):=by
 refine zkF (λy=>gU y x) (f:=zsJ L x) (λA i y t p=>?_) (λA=>?_) L.length 0 (by omega) (lX _)
 ·have r:i < L.length:=(tm.1 p).1;have hd:decide ((i:Int) < (L.length:Int))=true:=lN (by omega);have k:L.getD i default=y:=by simp_all
  have o:zS L (i:Int)=some y:=by simp [zS,p]
  simp only [zsJ,hd];rw [ze (by omega)];simp only [lL,nv,nr,k,vh,tb,lA];cases ha:gU y x with
  | true=>simp only [nv];rw [o,tb,ze (by simp [lim];omega),xF (by omega)]
  | false=>rfl
 ·have hd:decide ((L.length:Int) < (L.length:Int))=false:=lP (by omega);simp only [zsJ,hd];rfl
theorem zjN {L:List GA} (p:L.length<=16777215) (x:GA):rM L x=some (bA L x):=by
 unfold rM;rw [ue,tb];unfold bA;cases h:L.any λy=>decide (y=x) with
 | true=>simp only [nv]
 | false =>
  simp only [tx,lg];have k:=zms (L:=L) (by omega) x;unfold zsJ at k;have o:=zjy (λy=>gU y x) L;have r:=zkH (λy=>gU y x) L;rw [k];simp only [lp];rw [ze (by simp [lim];omega),zsW _ _ o,tb,zcJ,ze (by simp [lim];omega)];simp

theorem zmV {α:Type} {c:α->α->Option Int} {cf:α->α->Int} {lt:α->α->Prop} {L R:List α} (J:∀x ∈ L,∀y ∈ L,c x y=some (cf x y)) (D:∀x y,cf x y < 0 ↔ lt x y) (s:∀x,¬ lt x x) (w:∀x y z,lt x y->lt y z->lt x z)
  (F:∀x ∈ L,∀y ∈ L,x=y \/ lt x y \/ lt y x) (v:R.Perm L) (hs:R.Pairwise λa b=>¬ lt b a) (G:L.length<=lim):qA c L=some R:=by
 unfold qA;rw [lc (λx k y o=>by simp_all)];have hd:∀x ∈ L,∀y ∈ L,(c x y).getD 0 < 0 ↔ lt x y:=λx k y o=>by simp_all
 have t:∀x y,lt x y->¬ lt y x:=λx y r p=>s x (w _ _ _ r p);have C:R.Pairwise λa b=>¬ (c b a).getD 0 < 0:=by
  have:R.Pairwise λa b=>a ∈ L/\b ∈ L/\¬ lt b a:=by
   refine gu ?_ hs
   grind
  refine this.imp ?_
  simp_all
 refine zig ⟨λx k h=>s x ((hd x k x k).1 h),λx y z k o u r p=>(hd x k z u).2 (w _ _ _ ((hd x k y o).1 r) ((hd y o z u).1 p)),λx y z k o u r p I=>?_⟩ G ⟨v,C⟩ ?_
 ·grind
 ·rintro M ⟨H,E⟩
  refine r9 (H.trans v.symm) E C λx y k o r p=>?_
  grind
theorem zdY (a b:GA):zcM a b < 0 ↔ gU a b=true:=by rw [<- zdX];simp
def srt (L:List GA):List GA:=L.mergeSort λa b=>!gU b a
theorem zkL (L:List GA):(srt L).Pairwise λa b=>¬ gU b a=true:=by
 have:=gF (le:=λa b=>!gU b a) (λa b c p k=>by
  simp only [kA] at *;cases h:gU c a with
  | false=>rfl
  | true =>
   rcases ec a b with rfl | o | o
   ·rw [k] at h;cases h
   ·rw [sE h o] at k;cases k
   ·rw [p] at o;cases o) (λa b=>by
  cases h:gU b a with
  | false=>rfl
  | true =>
   cases k:gU a b with
   | false=>rfl
   | true=>have:=sE h k;rw [ul] at this;cases this) L
 refine this.imp λ{a b} h=>?_;simpa using h
theorem mn (L:List GA):(srt L).Perm L:=hM ..
theorem zbW {L:List GA} (k:L.length<=lim):qA (λx y=>xN x y) L=some (srt L) :=
 zmV (cf:=zcM) (lt:=λa b=>gU a b=true) (λx _ y _=>vD x y) zdY (λx=>by simp [ul]) (λ_ _ _=>sE) (λx _ y _=>ec x y) (mn L) (zkL L) k
theorem zqz (L:List GA) (d x:GA):x ∈ bA L d ↔ x=d \/ x ∈ L:=by
 unfold bA;split
 ·simp_all
 ·have h:x ∈ L ↔ x ∈ L.takeWhile (λy=>gU y d) \/ x ∈ L.dropWhile (λy=>gU y d):=by
   rw [<- lj,lO]
  grind
theorem zsD {α:Type} {lt:α->α->Bool} (p:∀a b c,lt a b=true->lt b c=true->lt a c=true) (x:α) {L:List α} (hs:L.Pairwise (λa b=>lt a b=true)):∀y ∈ L.dropWhile (λy=>lt y x),lt y x=false:=by
 intro y o;rw [<- zcJ] at o;obtain ⟨j,k⟩:=lD.1 o;rw [lx] at k;have:=zc0 p x L hs _ y k
 grind
theorem zlQ {α:Type} {lt:α->α->Bool} (u:∀a b c,lt a b=true->lt b c=true->lt a c=true) {x:α} {L:List α} (hs:L.Pairwise (λa b=>lt a b=true)) (w:∀y ∈ L,lt y x=true \/ lt x y=true):(L.takeWhile (λy=>lt y x)++([x]++L.dropWhile λy=>lt y x)).Pairwise λa b=>lt a b=true:=by
 have o:=hs;rw [<- lO (p:=λy=>lt y x) (l:=L)] at o;obtain ⟨v,t,z⟩:=kq.1 o;have hd:∀y ∈ L.dropWhile (λy=>lt y x),lt x y=true:=λy r=>by
  rcases w y (gK _ |>.subset r) with h | h
  ·rw [zsD u x hs y r] at h;cases h
  ·exact h
 refine kq.2 ⟨v,kq.2 ⟨by simp,t,λa s b k=>?_⟩,λa s b k=>?_⟩
 ·simp_all
 ·rcases lj.1 k with k | k
  ·rw [lh] at k;subst k;exact zkG (λy=>lt y b) _ _ s
  ·simp_all
theorem zsI {L:List GA} (d:GA) (h:L.Pairwise λa b=>gU a b=true):(bA L d).Pairwise λa b=>gU a b=true:=by
 unfold bA;split
 ·exact h
 ·rename_i p;refine zlQ (lt:=gU) (λ_ _ _=>sE) h λy o=>?_;rcases ec y d with rfl | k | k
  ·simp_all
  ·simp_all
  ·simp_all
theorem zmt (L:List GA) (d:GA):(bA L d).length<=L.length+1:=by
 unfold bA;split
 ·omega
 ·have:=zkH (λy=>gU y d) L
  grind
def b9 (L ds:List GA):List GA:=ds.foldl bA L
theorem pE:∀(ds L:List GA) (x:GA),x ∈ b9 L ds ↔ x ∈ ds \/ x ∈ L
 | [],L,x=>by simp [b9]
 | d::ds,L,x=>by
  have:=pE ds (bA L d) x;simp only [b9,jh] at this ⊢;rw [this,zqz]
  grind
theorem zhY:∀(ds:List GA) {L:List GA},L.Pairwise (λa b=>gU a b=true)->(b9 L ds).Pairwise λa b=>gU a b=true
 | [],_,h=>h
 | d::ds,_,h=>zhY ds (zsI d h)
theorem zbO:∀(ds L:List GA),(b9 L ds).length<=L.length+ds.length
 | [],L=>by simp [b9]
 | d::ds,L=>by
  have k:=zbO ds (bA L d);have o:=zmt L d;simp only [b9,jh,m3] at k ⊢;omega
theorem zqy {L:List GA} (h:L.Pairwise λa b=>gU a b=true):dd (srt (L++ds))=b9 L ds:=by
 refine uG (lt:=λa b=>gU a b=true) (λa=>by simp [ul]) (λ_ _ _=>sE) _ _ (zcN (lt:=λa b=>gU a b=true) (λa b k=>?_) (λ_ _ _=>sE) _ (zkL _)) (zhY ds h) λx=>?_
 ·rcases ec a b with e | e | e
  ·simp_all
  ·simp_all
  ·simp_all
 ·rw [zgB,(mn _).mem_iff,pE,lj]
  grind
theorem zlF (a b:GF):∃v,yV a b=some v/\(v < 0 ↔ yc a b=true):=by
 have h:=uh a.time a.z6 b.time b.z6;unfold qt at h;unfold yV;cases hc:ug a.time a.z6 b.time b.z6 with
 | none=>rw [hc] at h;cases h
 | some v =>
  rw [hc] at h;simp only [tb,p3] at h;refine ⟨v,rfl,?_⟩;have:yc a b=decide (v < 0):=h.symm
  grind
theorem zpd (o:L.length<=1048576) (hs:L.Pairwise λa b=>yc a b=true) (x:GF):∃b,zR L x (λk r=>yV k r)=some (((L.takeWhile λy=>yc y x).length:Int),b):=by
 have s:=zjy (λy=>yc y x) L;have p:∀i n,L[i]?=some n->∃v,yV n x=some v/\(i < (L.takeWhile λy=>yc y x).length->v < 0)/\((L.takeWhile λy=>yc y x).length<=i->0<=v):=λi n hi=>by
  obtain ⟨v,e,u⟩:=zlF n x;have t:=zc0 (lt:=yc) (λ_ _ _=>zi2) x L hs i n hi
  grind
 rw [zsL o s p];by_cases h:(L.takeWhile λy=>yc y x).length < L.length
 ·rw [lc h];obtain ⟨v,e,_⟩:=zlF (L.getD (L.takeWhile λy=>yc y x).length default) x
  simp_all
 ·rw [lq h];exact ⟨_,rfl⟩
theorem zp8 (o:L.length<=1048576) (x:GF) {n:Nat} (k:n<=L.length):mQ L (n:Int) [x]=some (L.take n++([x]++L.drop n)):=by
 unfold mQ;rw [lc ⟨⟨by omega,by omega⟩,by simp,by simp [lim];omega⟩,nr]
theorem zds (p:L.length<=1048576) (hs:L.Pairwise λa b=>yc a b=true) (x:GF) :
  ((ra L x.z6).bind λk=>(if k=true then some L else ((zR L x (λr s=>yV r s)).bind λo=>((mQ L o.1 ([x]:List GF)).bind λv39=>some v39))))=some (n5 L x):=by
 rw [zct,tb];unfold n5;cases h:L.any λy=>decide (y.z6=x.z6) with
 | true=>rfl
 | false =>
  simp only [tx,lg];obtain ⟨b,e⟩:=zpd p hs x;rw [e,tb,zp8 p x (zjy _ _),tb,zgW,zcJ]
theorem pD (L:List GA) (d:GA):xl L d=some (L.any λy=>decide (y=d)):=by
 unfold xl tz;have:=sy (α:=GA) (f:=λx=>some (decide (x=d))) (q:=λx=>decide (x=d)) L (λ_ _=>rfl);have e:∀(o:Nat) (k:GA),(if (d.zi.fj==k.zi.fj&&(d.zi.inc==k.zi.inc&&(d.seq==k.seq&&true)))=true then some (.ret (o:Int)) else some (.gV ()):Option (Out Int Unit))=((some (decide (k=d)):Option Bool).bind λv=>if v=true then some (.ret (o:Int)) else some (.gV ())):=λo k=>by
  rw [th,tb]
  grind
 simp only [e];rw [this,tb,zdQ]
theorem znZ (x:GF) (e:GJ):wL x e=some (e.op.gX.any λy=>decide (y=x.z6)):=by
 unfold wL;rw [pD];rfl

def xg (l:GE) (e:GJ):GE :=
 if e.op.kind=1 then { l with n:=IntKind.wrap .i64 (l.n+e.op.n) }
 else if e.op.kind=2 then (if (decide (l.time=0) || (if l.time ≠ e.time then decide (l.time < e.time) else gU l.z6 e.z6))=true then { l with time:=e.time,z6:=e.z6,text:=e.op.text } else l)
 else if e.op.kind=3 then (if (l.x4.any λy=>decide (y=e.z6))=true then l else { l with y4:=n5 l.y4 ⟨0,e.z6,e.op.text⟩ })
 else if e.op.kind=4 then { l with y4:=l.y4.filter (λx=>!(e.op.gX.any λy=>decide (y=x.z6))),x4:=b9 l.x4 e.op.gX }
 else { l with y4:=n5 l.y4 ⟨e.time,e.z6,e.op.text⟩ }
def mb:GE:=GE.mk (0:Int) (0:Int) (0:Int) (GA.mk (GH.mk (0:Int) (0:Int)) (0:Int)) ([]:zq) ([]:List GF) ([]:List GA)
def zd9 (l:GE) (e:GJ):GE×Int:=if (!fb l || !xJ e)=true then (mb,2) else if vJ e.op.kind ≠ l.w7 then (mb,15) else (xg l e,0)
theorem zey (h:fb l=true):l.y4.Pairwise λa b=>yc a b=true:=by
 unfold fb at h;split at h
 ·simp_all
 ·split at h
  ·simp_all
  ·split at h
   ·simp only [tr] at h;exact zew h.1.2.1.2
   ·split at h
    ·simp only [tr] at h;exact zew h.2.1.2
    ·cases h
theorem zh8 (h:fb l=true):l.x4.Pairwise λa b=>gU a b=true:=by
 unfold fb at h;split at h
 ·simp_all
 ·split at h
  ·simp_all
  ·split at h
   ·simp only [tr,rq] at h;exact zb6 h.2.1.2
   ·simp_all
theorem zax (h:fb l=true):∀x ∈ l.y4,∀d ∈ l.x4,d ≠ x.z6:=by
 intro x k d hd;unfold fb at h;split at h
 ·simp_all
 ·split at h
  ·simp_all
  ·split at h
   ·simp only [tr,rq] at h
    grind
   ·simp_all
theorem zhx (h:xJ e=true):1<=e.op.kind/\e.op.kind<=5:=by
 simp only [xJ,aO,tr,so] at h;omega
theorem zhM (h:xJ e=true):e.op.gX.length<=64:=by
 simp only [xJ,aO,tr,so] at h;omega
theorem zgl (e:GJ) (hi:l.y4.length<=1048576) (r:l.x4.length<=1048576):oI l e=some (zd9 l e):=by
 unfold oI zd9;rw [zaS (by unfold maxLen;omega) (by unfold maxLen;omega),tb];cases hl:fb l with
 | false=>simp [mb]
 | true =>
  simp only [lH,lR,lL,nv,sM,tb];cases he:xJ e with
  | false=>simp [mb]
  | true =>
   simp only [lH,tx,lg,zf1,tb];by_cases hk:vJ e.op.kind=l.w7
   ·rw [lq (show ¬ (vJ e.op.kind != l.w7)=true by simp [hk]),lq (show ¬ vJ e.op.kind ≠ l.w7 by simp [hk])];rw [um (by unfold lim;omega),tb,wF (by unfold lim;omega),tb];unfold xg;by_cases h1:e.op.kind=1
    ·simp_all
    simp only [h1,lg];by_cases h2:e.op.kind=2
    ·simp only [h2,nv,uh,tb];have o:(l.time==(0:Int))=decide (l.time=0):=by rfl
     rw [o];cases h0:decide (l.time=0) with
     | true=>simp
     | false =>
      simp only [lL,nv,tb,lR];generalize (if l.time ≠ e.time then decide (l.time < e.time) else gU l.z6 e.z6)=b;cases b <;> rfl
    simp only [h2,lg];by_cases h3:e.op.kind=3
    ·simp only [h3,nv,pD,tb];have:=zds hi (zey hl) ⟨0,e.z6,e.op.text⟩;simp only at this;rw [this];cases l.x4.any (λy=>decide (y=e.z6)) <;> rfl
    simp only [h3,lg];have hd:=zhM he;by_cases h4:e.op.kind=4
    ·simp only [h4,nv];rw [ze (by unfold lim;omega),zbW (by simp [lim];omega),tb,zd1 (by rw [(mn _).length_eq];simp;omega),tb,
      zkd (q:=λx=>e.op.gX.any λy=>decide (y=x.z6)) (by omega) (λx _=>znZ x e),tb,zqy (zh8 hl)]
     rfl
    simp only [h4,lg];have p:e.op.kind=5:=by have:=zhx he;omega
    simp only [p,nv];have:=zds hi (zey hl) ⟨e.time,e.z6,e.op.text⟩
    simp_all
   ·have k:(vJ e.op.kind != l.w7)=true:=by simp [hk]
    simp only [k,nv,hk,ne_eq,gq,tx,lg,mb]
theorem zaj:∀(ds L:List GA) (n:Nat),L.length+ds.length<=16777215->zf (λ(r:Nat) (o:GA) (p:(List GA))=>(((rM p o).bind λk=>some (.gV k)):Option (Out (GE×Int) (List GA)))) ds n L=some (.inr (b9 L ds))
 | [],L,n,_=>rfl
 | d::ds,L,n,h=>by
  simp only [m3] at h;have s:=zmt L d;simp only [zf];rw [zjN (by omega),tb];exact zaj ds (bA L d) (n+1) (by omega)
theorem zjM (L:List GF) (T:List GA) (t:L.length<=16777215):oz L T=some (L.filter λx=>!(T.any λy=>decide (y=x.z6))):=by
 unfold oz;have:∀(L s:List GF) (n:Nat),s.length+L.length<=16777215->zf (λ(u:Nat) (o:GF) (p:(List GF))=>(((uf T o.z6).bind λk=>(if (!k)=true then (zQ ((p).length+(([o]:List GF)).length<=lim) (some (.gV (p++([o]:List GF))))) else some (.gV p))):Option (Out (List GF) (List GF)))) L n s=some (.inr (s++L.filter λx=>!(T.any λy=>decide (y=x.z6)))):=by
  intro L
  induction L with
  | nil=>intro s n _;simp [zf]
  | cons x r ih =>
   intro s n h;simp only [m3] at h;simp only [zf,ue,tb];cases hx:T.any λy=>decide (y=x.z6) with
   | true =>
    simp only [lH,tx,lg];rw [jG,lq (by simp [hx])];have:=ih s (n+1) (by omega);simp only [ue,tb] at this;omega
   | false =>
    simp only [jm,nv];rw [ze (by simp [lim];omega),jG,lc (by simp [hx])];have:=ih (s++[x]) (n+1) (by simp;omega);simp only [ue,tb,li,j9] at this;omega
 simp_all
theorem zhb (e:GJ) (hi:l.y4.length<=1048576) (v:l.x4.length<=1048576) (h0:0<=l.time):pi l e=some (zd9 l e):=by
 unfold pi zd9;rw [zb9 (by unfold maxLen;omega) (by unfold maxLen;omega) h0,tb];cases hl:fb l with
 | false=>simp [mb]
 | true =>
  simp only [lH,lR,lL,nv,sm,tb];cases he:xJ e with
  | false=>simp [mb]
  | true =>
   simp only [lH,tx,lg,np,tb];by_cases hk:vJ e.op.kind=l.w7
   ·rw [lq (show ¬ (vJ e.op.kind != l.w7)=true by simp [hk]),lq (show ¬ vJ e.op.kind ≠ l.w7 by simp [hk])];unfold xg;by_cases h1:e.op.kind=1
    ·simp_all
    have p:(e.op.kind==(1:Int))=false:=by simp [h1]
    simp only [h1,p,tx,lg];by_cases h2:e.op.kind=2
    ·simp only [h2,lL,nv,pY,tb]
     grind
    have n2:(e.op.kind==(2:Int))=false:=by simp [h2]
    simp only [h2,n2,tx,lg];by_cases k:e.op.kind=3
    ·simp only [k,lL,nv,ue,tb];cases l.x4.any (λy=>decide (y=e.z6)) with
     | true=>rfl
     | false=>simp only [jm,nv,tx,lg];rw [zfQ (by omega)];rfl
    have t:(e.op.kind==(3:Int))=false:=by simp [k]
    simp only [k,t,tx,lg];have hd:=zhM he;by_cases h4:e.op.kind=4
    ·simp only [h4,lL,nv];rw [zaj _ _ _ (by omega)];simp only [lp];rw [zjM _ _ (by omega),tb];congr 3;refine ic λx s=>?_;congr 1;rw [lQ,gG,gG];constructor
     ·rintro ⟨d,hd,h⟩
      have h:=ke h;rcases (pE _ _ _).1 hd with k | k
      ·simp_all
      ·exact (zax hl x s d k h).elim
     ·rintro ⟨d,hd,h⟩
      exact ⟨d,(pE _ _ _).2 (.inl hd),h⟩
    have u:(e.op.kind==(4:Int))=false:=by simp [h4]
    simp only [h4,u,tx,lg];have r:e.op.kind=5:=by have:=zhx he;omega
    simp only [r,lL,nv];rw [zfQ (by omega)];rfl
   ·have o:(vJ e.op.kind != l.w7)=true:=by simp [hk]
    simp only [o,nv,hk,ne_eq,gq,tx,lg,mb]


theorem zod {cmp:GE->Int->Option Int} {x:List GE} {s:Int} (G:x.length<=16777216) (C:∀i n,x[i]?=some n->∃v,cmp n s=some v/\(i < c->v < 0)/\(c<=i->0<=v)) :
  ∀(k lo hi:Nat),hi - lo<=k->lo<=c->c<=hi->hi<=x.length->zY (ρ:=Int×Bool) (λ(o:Int×Int)=>((if (decide (o.1 < o.2))=true then ((zS x (IntKind.wrap .i64 ((Int.fdiv (IntKind.wrap .u64 ((IntKind.wrap .i64 (o.1+o.2)))) (2 ^ (min (1:Int).toNat (IntKind.bits .u64))))))).bind λD=>((cmp D s).bind λp=>(if (decide (p < (0:Int)))=true then some (.gV ((IntKind.wrap .i64 ((IntKind.wrap .i64 ((Int.fdiv (IntKind.wrap .u64 ((IntKind.wrap .i64 (o.1+o.2)))) (2 ^ (min (1:Int).toNat (IntKind.bits .u64))))))+(1:Int))),o.2)) else some (.gV (o.1,(IntKind.wrap .i64 ((Int.fdiv (IntKind.wrap .u64 ((IntKind.wrap .i64 (o.1+o.2)))) (2 ^ (min (1:Int).toNat (IntKind.bits .u64))))))))))) else some (.brk (o.1,o.2))):Option (Out _ (Int×Int)))) ((lo:Int),(hi:Int))=some (.inr ((c:Int),(c:Int))):=by
 intro k
 induction k with
 | zero =>
  intro lo hi z r u hh;obtain rfl:lo=hi:=by omega
  obtain rfl:lo=c:=by omega
  rw [yE];simp
 | succ k ih =>
  intro lo hi z r u hh;rw [yE];by_cases hlt:lo < hi
  ·have hd:decide ((lo:Int) < (hi:Int))=true:=lN (by omega);simp only [hd,nv,ze5 hlt (by omega)];have t:(lo+hi) / 2 < x.length:=by omega
   rw [tJ t,tb];obtain ⟨v,E,w,F⟩:=C ((lo+hi) / 2) _ (s5 t);rw [E,tb];by_cases hcm:(lo+hi) / 2 < c
   ·rw [lN (w hcm),lc rfl];simp only;have e:IntKind.wrap .i64 ((((lo+hi) / 2:Nat):Int)+1)=(((lo+hi) / 2+1:Nat):Int):=by rw [wW (by omega)];omega
    rw [e];exact ih _ _ (by omega) (by omega) u hh
   ·rw [lP (by omega)];simp only [tx,lg];exact ih _ _ (by omega) r (by omega) (by omega)
  ·grind
theorem zoW {cmp:GE->Int->Option Int} {x:List GE} {s:Int} (p:x.length<=16777216) (o:c<=x.length) (k:∀i n,x[i]?=some n->∃v,cmp n s=some v/\(i < c->v < 0)/\(c<=i->0<=v)) :
  zL x s cmp=(if c < x.length then cmp (x.getD c default) s else some 1).bind λv=>some ((c:Int),(decide (c < x.length)&&(v==0))):=by
 unfold zL;have:=zod p k x.length 0 x.length (by omega) (lX _) o (oA _);simp only [il] at this;rw [show ((0:Int),(x.length:Int))=(((0:Nat):Int),(x.length:Int)) from rfl] at *;rw [this];simp only [lp];by_cases h:c < x.length
 ·have hd:decide ((c:Int) < (x.length:Int))=true:=lN (by omega);simp only [hd,h,nv,nr,lL,jq,lA];rw [ze (by omega)]
 ·have hd:decide ((c:Int) < (x.length:Int))=false:=lP (by omega);simp only [hd,h,lg,jd,ii,tb];rfl

theorem zeF (x:GE) (k:Int):vU x k=some (tX x.w7 k):=by unfold vU;rw [zhS];rfl
theorem dh {a b:Int}:tX a b < 0 ↔ a < b:=by unfold tX;split <;> (try split) <;> omega
theorem ca {a b:Int}:tX a b=0 ↔ a=b:=by unfold tX;split <;> (try split) <;> omega
theorem dZ (k:Int) (h:ls.Pairwise λx y=>x.w7 < y.w7):(∃A B,ls=A++B/\(∀y ∈ A,y.w7 < k)/\∀y ∈ B,k < y.w7) \/ ∃A x B,ls=A++x::B/\x.w7=k/\(∀y ∈ A,y.w7 < k)/\∀y ∈ B,k < y.w7:=by
 induction ls with
 | nil=>exact .inl ⟨[],[],rfl,λ_ h=>by simp at h,λ_ h=>by simp at h⟩
 | cons x t ih =>
  obtain ⟨r,p⟩:=ll.1 h;rcases Int.lt_trichotomy x.w7 k with e | e | e
  ·grind
  ·exact .inr ⟨[],x,t,rfl,e,λ_ h=>by simp at h,λy o=>by simp_all⟩
  ·refine .inl ⟨[],x::t,rfl,λ_ h=>by simp at h,λy o=>?_⟩
   grind
theorem zdH (o:∀y ∈ A,y.w7 < l.w7) (p:∀y ∈ B,l.w7 < y.w7):u7 l.w7 l true (A++B)=A++l::B:=by
 unfold u7;rw [lc rfl,kM,kM];rw [kw.2 (λy k=>lN (o y k)),kS.2 (λy k=>by grind),
  kS.2 (λy k=>by grind),kw.2 (λy k=>lN (p y k))]
 simp
theorem zdG {x:GE} (r:x.w7=l.w7) (o:∀y ∈ A,y.w7 < l.w7) (p:∀y ∈ B,l.w7 < y.w7):u7 l.w7 l true (A++x::B)=A++l::B:=by
 unfold u7;rw [lc rfl,kM,kM,jG,jG];rw [lq (by simp;omega),lq (by simp;omega)];rw [kw.2 (λy k=>lN (o y k)),kS.2 (λy k=>by grind),
  kS.2 (λy k=>by grind),kw.2 (λy k=>lN (p y k))]
 simp
theorem zoc {k:Int} (v:(A++B).length<=16777216) (s:∀y ∈ A,y.w7 < k) (p:∀y ∈ B,k < y.w7):zL (A++B) k (λr u=>vU r u)=some ((A.length:Int),false):=by
 rw [zoW (c:=A.length) v (by simp) λi m hi=>⟨_,zeF m k,λo=>by
   rw [o4 o] at hi;exact dh.2 (s m (lf hi)),λo=>by
   rw [pa o] at hi;have:=p m (lf hi);have w:¬ tX m.w7 k < 0:=λh=>by rw [dh] at h;omega
   omega⟩]
 cases B with
 | nil=>simp
 | cons y B =>
  have e:(A++y::B).getD A.length default=y:=by simp
  have:=p y (by simp);rw [lc (by simp),e,zeF];have t:(tX y.w7 k==0)=false:=by
   rw [beq_eq_false_iff_ne,Ne,ca];omega
  simp [t]
theorem zob {x:GE} {k:Int} (t:(A++x::B).length<=16777216) (hs:x.w7=k) (r:∀y ∈ A,y.w7 < k) (w:∀y ∈ B,k < y.w7):zL (A++x::B) k (λp s=>vU p s)=some ((A.length:Int),true):=by
 rw [zoW (c:=A.length) t (by simp) λi m hi=>⟨_,zeF m k,λo=>by
   rw [o4 o] at hi;exact dh.2 (r m (lf hi)),λo=>by
   rw [pa o] at hi;have v:¬ m.w7 < k:=by
    grind
   have u:¬ tX m.w7 k < 0:=λh=>by rw [dh] at h;omega
   omega⟩]
 have e:(A++x::B).getD A.length default=x:=by simp
 rw [lc (by simp),e,zeF,ca.2 hs];simp
theorem zlS {α:Type} {A B:List α} (x:α) (h:(A++B).length<=16777216):mQ (A++B) (A.length:Int) [x]=some (A++x::B):=by
 unfold mQ;rw [lc ⟨⟨by omega,by simp;omega⟩,by simp,yS (by simp_all)⟩];simp
noncomputable def zoA (n:Nat) (p:List zq) (l2:GE) (y7:GC) (v6:List GC) (i:Int):Option (List GC) :=
 (if (decide (((p).length:Int) > (1:Int)))=true then ((fL p (1:Int) ((p).length:Int)).bind λm10=>((wG n y7.w5 m10 l2).bind λv11=>((zS v6 i).bind λy12=>some (v6.set i.toNat (GC.mk y7.name y7.leaves v11))))) else ((xw y7.leaves).bind λv13=>((zL v13 l2.w7 (λx0 x1=>vU x0 x1)).bind λv14=>(if (!v14.2)=true then ((mQ v13 v14.1 ([l2]:List GE)).bind λv16=>((zS v16 v14.1).bind λy17=>((zS v6 i).bind λy18=>some (v6.set i.toNat (GC.mk y7.name (v16.set v14.1.toNat l2) y7.w5))))) else ((zS v13 v14.1).bind λy19=>((zS v6 i).bind λy20=>some (v6.set i.toNat (GC.mk y7.name (v13.set v14.1.toNat l2) y7.w5))))))))
theorem zld (n:Nat) (t0:List GC) (k:List zq) (r:GE):wG (n+1) t0 k r=((yP t0).bind λo=>((zS k (0:Int)).bind λu=>((ob o u).bind λv3=>(if (!v3.2)=true then ((zS k (0:Int)).bind λv=>((mQ o v3.1 ([(GC.mk v ([]:List GE) ([]:List GC))]:List GC)).bind λs=>((zS s v3.1).bind λt=>zoA n k r t s v3.1))) else ((zS o v3.1).bind λp=>zoA n k r p o v3.1))))):=rfl
theorem zfY {s:zq} {A B:List GC} {x:GC} (t:x.leaves.length<=16777215) (h:x.leaves.Pairwise λx y=>x.w7 < y.w7):zoA n [s] l x (A++x::B) (A.length:Int)=some (A++⟨x.name,u7 l.w7 l true x.leaves,x.w5⟩::B):=by
 unfold zoA;have r:decide (((([s]:List zq).length:Int)) > 1)=false:=rfl;have o:zS (A++x::B) (A.length:Int)=some x:=zt (by simp);simp only [r,tx,lg];rw [nL (yS (by omega)),tb];rcases dZ l.w7 h with ⟨C,D,e,k,hd⟩ | ⟨C,z,D,e,p,k,hd⟩
 ·rw [e,zoc (by grind) k hd,tb];simp only [jm,nv];rw [zlS _ (by grind),tb,zt (x:=l) (by simp),tb,o,tb,zdH k hd];simp
 ·rw [e,zob (by grind) p k hd,tb];simp only [lH,tx,lg];rw [zt (x:=z) (by simp),tb,o,tb,zdG p k hd];simp
theorem ziy {s a:zq} {r:List zq} {A B:List GC} {x:GC} {k:List GC} (t:(s::a::r).length<=16777216) (h:wG n x.w5 (a::r) l=some k):zoA n (s::a::r) l x (A++x::B) (A.length:Int)=some (A++⟨x.name,x.leaves,k⟩::B):=by
 unfold zoA;have o:decide ((((s::a::r).length:Int)) > 1)=true:=lN (by grind);have p:zS (A++x::B) (A.length:Int)=some x:=zt (by simp);simp only [o,nv];rw [pc ⟨by omega,by grind,kI _⟩,tb];have u:((s::a::r).take (((s::a::r).length:Int)).toNat).drop (1:Int).toNat=a::r:=by rw [nr,j3];rfl
 simp_all
theorem zl0 (t:List GC) (s:zq):ob t s=(zg t s (λo p=>x5 o p)).bind λk=>some (k.1,k.2):=rfl

theorem zlD {k:Int}:(u7 k l there ls).length<=ls.length+1:=by
 unfold u7;split
 ·have o:=iL (λx:GE=>decide (x.w7 < k)) ls;have p:=o.length_eq;have r:(ls.filter λx=>decide (k < x.w7)).length<=(ls.filter λx=>!decide (x.w7 < k)).length:=by
   have:(ls.filter λx=>decide (k < x.w7))=(ls.filter λx=>!decide (x.w7 < k)).filter (λx=>decide (k < x.w7)):=by
    rw [iH];refine ic λx _=>?_;rw [lQ];simp;omega
   grind
  grind
 ·grind
theorem zbH {s:zq} {A m B:List GC} {sb:List GC} (z:fF l) (w:m.length=if f=true then 1 else 0) (t:zg (A++m++B) s (λv C=>x5 v C)=some ((A.length:Int),f))
  (o:((if f=true then ((zS (A++m++B) (A.length:Int)).bind λr=>some (.inr (r.name,r.leaves,r.w5))) else some (.inr (s,([]:List GE),([]:List GC)))):Option (List GC ⊕ (zq×(List GE)×(List GC))))=some (.inr (s,ls,sb)))
  (F:(A++m++B).length<=16777216) (E:ls.length<=16777215) (D:sb.length<=16777217) (p:ls.Pairwise λx y=>x.w7 < y.w7) :
  wl (n+1) (A++m++B) [s] l.w7 l true=some (A++cZ s (u7 l.w7 l true ls) sb++B):=by
 have u:zS [s] (0:Int)=some s:=rfl;have:=zlD (k:=l.w7) (l:=l) (there:=true) (ls:=ls);rw [zhw,u,tb,t,tb,tb];simp only [];rw [o,yL,zdI (λ_=>⟨rfl,z⟩) (by omega) p,yL,nC w (by omega) (by omega) (by omega)]
theorem zeX {s a:zq} {r:List zq} {k:Int} {A m B:List GC} {sb o:List GC} (C:m.length=if f=true then 1 else 0) (u:zg (A++m++B) s (λw D=>x5 w D)=some ((A.length:Int),f))
  (v:((if f=true then ((zS (A++m++B) (A.length:Int)).bind λt=>some (.inr (t.name,t.leaves,t.w5))) else some (.inr (s,([]:List GE),([]:List GC)))):Option (List GC ⊕ (zq×(List GE)×(List GC))))=some (.inr (s,ls,sb)))
  (F:(A++m++B).length<=16777216) (G:ls.length<=16777215) (E:o.length<=16777217) (z:(s::a::r).length<=16777216) (h:wl n sb (a::r) k l there=some o) :
  wl (n+1) (A++m++B) (s::a::r) k l there=some (A++cZ s ls o++B):=by
 have p:zS (s::a::r) (0:Int)=some s:=rfl;rw [zhw,p,tb,u,tb,tb];simp only [];rw [v,yL,zgn z h,yL,nC C (by omega) (by omega) (by omega)]
theorem pM {k:zq} {sb:List GC} (h:ls ≠ [] \/ sb ≠ []):cZ k ls sb=[⟨k,ls,sb⟩]:=by
 unfold cZ;rw [lq];rcases h with h | h
 ·simp_all
 ·simp_all
theorem zbI:u7 l.w7 l true ls ≠ []:=List.ne_nil_of_mem (eD.2 (.inr ⟨rfl,rfl⟩))
theorem zlc {l:GE} (X:fb l=true) (K:fF l):∀(p:List zq) (t:List GC) (d n:Nat),p ≠ []->p.all fJ=true->d+p.length<=3->gY d t=true->(zw [] t).length<=16777214->p.length < n ->
  wG n t p l=wl n t p l.w7 l true
 | [],_,_,_,h,_,_,_,_,_=>absurd rfl h
 | _::_,_,_,0,_,_,_,_,_,h=>by omega
 | s::q,t,d,n+1,_,hp,hd,ht,hw,hn=>by
  simp only [l8,tr,m3] at hp hd hn;obtain ⟨h1,W⟩:=zP ht;have H:t.length<=16777214:=lu (qk _ d (by rw [xe];exact nK.2 W)) hw;have D:zS (s::q) (0:Int)=some s:=rfl
  -- what is below
  have below:∀(sb:List GC) (c:zq) (u:List zq),q=c::u->gY (d+1) sb=true->(zw [] sb).length<=16777214->∃o,wG n sb q l=some o/\wl n sb q l.w7 l true=some o/\o ≠ []/\o.length<=16777215:=by
   intro sb c u w z Q;subst w;obtain ⟨o,Z,e2,e3,e4⟩:=zdF (k:=l.w7) (l:=l) (there:=true) (λ_=>⟨rfl,X,K⟩) (c::u) sb (d+1) n (by simp) hp.2 (by omega) z (by omega) (by omega);have R:=qk sb (d+1) (by rw [xe];exact nK.2 (zP z).2);refine ⟨o,?_,Z,?_,by omega⟩
   ·rw [<- Z];exact zlc X K (c::u) sb (d+1) n (by simp) hp.2 (by omega) z Q (by omega)
   ·intro e;have:=(e4 [] ⟨[]++(c::u),l⟩).2 (.inr ⟨rfl,rfl⟩);rw [e] at this;simp [zw] at this
  rcases da s h1 with ⟨A,B,e,U,C⟩ | ⟨A,x,B,e,M,U,C⟩
  ·have S:(A++B).length<=16777214:=by rw [<- e];exact H
   have v:=zh0 (by omega) U C;have r:zg (A++[]++B) s (λN V=>x5 N V)=some ((A.length:Int),false):=by simp_all
   have E:A++B=A++[]++B:=by simp
   have L:wG (n+1) t (s::q) l=zoA n (s::q) l ⟨s,[],[]⟩ (A++⟨s,[],[]⟩::B) (A.length:Int):=by
    rw [zld,rF (yS (by omega)),tb,D,tb,zl0,e,v,tb,tb];simp only [jm,nv,tb];rw [zlS _ (by omega),tb,zt (x:=⟨s,[],[]⟩) (by simp),tb]
   rw [L];cases w:q with
   | nil =>
    rw [zfY (x:=⟨s,[],[]⟩) (by simp) (by simp),e,E,zbH (ls:=[]) (sb:=[]) K (by simp) r rfl (by grind) (by simp) (by simp) (by simp),pM (.inl zbI)];simp
   | cons c u =>
    obtain ⟨o,F,I,P,b4⟩:=below [] c u w (zeg _) (by simp [zw]);rw [w] at F I;rw [ziy (x:=⟨s,[],[]⟩) (by grind) F,e,E,zeX (ls:=[]) (sb:=[]) (f:=false) (by simp) r rfl (by grind) (by simp) (by omega) (by grind) I,pM (.inr P)];simp
  ·have S:(A++x::B).length<=16777214:=by rw [<- e];exact H
   have v:=zhZ (by omega) M U C;have r:zg (A++[x]++B) s (λN V=>x5 N V)=some ((A.length:Int),true):=by simp_all
   have E:A++x::B=A++[x]++B:=by simp
   have J:x ∈ t:=by rw [e];simp
   obtain ⟨n1,n2,Y⟩:=wC (W x J);have hml:=tE J;have R:=qk x.w5 (d+1) (by rw [xe];exact nK.2 (zP n2).2);have G:((if true=true then ((zS (A++[x]++B) (A.length:Int)).bind λO=>some (.inr (O.name,O.leaves,O.w5))) else some (.inr (s,([]:List GE),([]:List GC)))):Option (List GC ⊕ (zq×(List GE)×(List GC))))=some (.inr (s,x.leaves,x.w5)):=by
    rw [lc rfl,zt (x:=x) (by simp),tb,M]
   have L:wG (n+1) t (s::q) l=zoA n (s::q) l x (A++x::B) (A.length:Int):=by
    rw [zld,rF (yS (by omega)),tb,D,tb,zl0,e,v,tb,tb];simp only [lH,tx,lg];rw [zt (x:=x) (by simp),tb]
   rw [L];cases w:q with
   | nil =>
    rw [zfY (x:=x) (by omega) (uY Y).1,e,E,zbH (ls:=x.leaves) (sb:=x.w5) K (by simp) r G (by grind) (by omega) (by omega) (uY Y).1,pM (.inl zbI),M];simp
   | cons c u =>
    obtain ⟨o,F,I,P,b4⟩:=below x.w5 c u w n2 (by omega);rw [w] at F I;rw [ziy (x:=x) (by grind) F,e,E,zeX (ls:=x.leaves) (sb:=x.w5) (f:=true) (by simp) r G (by grind) (by omega) (by omega) (by grind) I,pM (.inr P),M];simp

noncomputable def l7A (t0:List GC) (path1:List zq):(List GC)×Int->Option (Out (List GC) ((List GC)×Int)):=(λ(s1:(List GC)×Int)=>((zQ (((decide (s1.2 < ((t0).length:Int)))==true)=true->0<=s1.2/\s1.2 < ((t0).length:Int)) ((zQ (((decide (s1.2 < ((t0).length:Int)))==true)=true->0<=(0:Int)/\(0:Int) < ((path1).length:Int)) ((if ((decide (s1.2 < ((t0).length:Int)))&&(Op.bytesLess (((t0).getD s1.2.toNat default).name) ((path1).getD (0:Int).toNat default)))=true then ((zS t0 s1.2).bind λy22=>(zQ ((s1.1).length+(([y22]:List GC)).length<=lim) (some (.gV ((s1.1++([y22]:List GC)),(IntKind.wrap .i64 (s1.2+(1:Int)))))))) else some (.brk (s1.1,s1.2))))))):Option (Out _ ((List GC)×Int))))
noncomputable def l7B (ls:List GE) (l2:GE):(List GE)×Int->Option (Out (List GC) ((List GE)×Int)):=(λ(sd62:(List GE)×Int)=>((zQ (((decide (sd62.2 < ((ls).length:Int)))==true)=true->0<=sd62.2/\sd62.2 < ((ls).length:Int)) ((if ((decide (sd62.2 < ((ls).length:Int)))&&(decide (((ls).getD sd62.2.toNat default).w7 < l2.w7)))=true then ((zS ls sd62.2).bind λy66=>(zQ ((sd62.1).length+(([y66]:List GE)).length<=lim) (some (.gV ((sd62.1++([y66]:List GE)),(IntKind.wrap .i64 (sd62.2+(1:Int)))))))) else some (.brk (sd62.1,sd62.2))))):Option (Out _ ((List GE)×Int))))
theorem zoK {t:List GC} {s:zq} {q:List zq} (z:t.length<=16777216) (a b:List GC) (e:t=a++b) (w:∀y ∈ a,Op.bytesLess y.name s=true) (C:∀y r,b=y::r->Op.bytesLess y.name s=false) :
  ∀(k i:Nat),a.length - i<=k->i<=a.length->zY (l7A t (s::q)) (a.take i,(i:Int))=some (.inr (a,(a.length:Int))):=by
 have D:t.length=a.length+b.length:=by rw [e];simp
 intro k
 induction k with
 | zero =>
  intro i o hi;obtain rfl:i=a.length:=by omega
  rw [yE];have:l7A t (s::q) (a.take a.length,(a.length:Int))=some (.brk (a,(a.length:Int))):=by
   unfold l7A;simp only [j3];rw [ze (by simp_all),ze (by intro h;simp)];cases hbb:b with
   | nil =>
    simp_all
   | cons y r =>
    simp_all
  rw [this]
 | succ k ih =>
  intro i o hi;rcases kR i a.length with h | h
  ·rw [yE];have u:t[i]?=some a[i]:=by grind
   have hd:t.getD i default=a[i]:=by simp_all
   have:l7A t (s::q) (a.take i,(i:Int))=some (.gV (a.take (i+1),((i+1:Nat):Int))):=by
    unfold l7A;simp only;rw [ze (by omega),ze (by intro h;simp)];have p:(s::q).getD (0:Int).toNat default=s:=rfl;have v:IntKind.wrap .i64 ((i:Int)+1)=((i+1:Nat):Int):=by rw [wW (by omega)];omega
    rw [nr,hd,p,w _ (j0 h),lN (by omega),lI,lc rfl,zt u,tb,ze (yS (by simp;omega)),v]
    simp_all
   grind
  ·grind

theorem zoJ (v:ls.length<=16777216) (a b:List GE) (e:ls=a++b) (s:∀y ∈ a,y.w7 < l.w7) (w:∀y r,b=y::r->¬ y.w7 < l.w7) :
  ∀(k i:Nat),a.length - i<=k->i<=a.length->zY (l7B ls l) (a.take i,(i:Int))=some (.inr (a,(a.length:Int))):=by
 have u:ls.length=a.length+b.length:=by rw [e];simp
 intro k
 induction k with
 | zero =>
  intro i o hi;obtain rfl:i=a.length:=by omega
  rw [yE];have:l7B ls l (a.take a.length,(a.length:Int))=some (.brk (a,(a.length:Int))):=by
   unfold l7B;simp only [j3];rw [ze (by simp_all)];cases hbb:b with
   | nil =>
    simp_all
   | cons y r =>
    grind
  rw [this]
 | succ k ih =>
  intro i o hi;rcases kR i a.length with h | h
  ·rw [yE];have t:ls[i]?=some a[i]:=by grind
   have hd:ls.getD i default=a[i]:=by simp_all
   have:l7B ls l (a.take i,(i:Int))=some (.gV (a.take (i+1),((i+1:Nat):Int))):=by
    unfold l7B;simp only;have p:IntKind.wrap .i64 ((i:Int)+1)=((i+1:Nat):Int):=by rw [wW (by omega)];omega
    rw [ze (by omega),nr,hd,lN (s _ (j0 h)),lN (by omega),lI,lc rfl,zt t,tb,ze (yS (by simp;omega)),p]
    simp_all
   grind
  ·grind

noncomputable def l7R (n:Nat) (t0:List GC) (path1:List zq) (l2:GE) (A:List GC) (sd30:Int×zq×(List GE)×(List GC)):Option (List GC):=(if (decide (((path1).length:Int) > (1:Int)))=true then ((fL path1 (1:Int) ((path1).length:Int)).bind λm38=>((wZ n sd30.2.2.2 m38 l2).bind λv39=>(zQ ((A).length+(([(GC.mk sd30.2.1 sd30.2.2.1 v39)]:List GC)).length<=lim) (((fL t0 sd30.1 ((t0).length:Int)).bind λm41=>(zQ (((A++([(GC.mk sd30.2.1 sd30.2.2.1 v39)]:List GC))).length+(m41).length<=lim) (some ((A++([(GC.mk sd30.2.1 sd30.2.2.1 v39)]:List GC))++m41)))))))) else (lp (zY (l7B sd30.2.2.1 l2) (([]:List GE),(0:Int))) λ(sd62:(List GE)×Int)=>(zQ (((decide (sd62.2 < ((sd30.2.2.1).length:Int)))==true)=true->0<=sd62.2/\sd62.2 < ((sd30.2.2.1).length:Int)) ((if ((decide (sd62.2 < ((sd30.2.2.1).length:Int)))&&(((sd30.2.2.1).getD sd62.2.toNat default).w7==l2.w7))=true then (zQ ((sd62.1).length+(([l2]:List GE)).length<=lim) (((fL sd30.2.2.1 (IntKind.wrap .i64 (sd62.2+(1:Int))) ((sd30.2.2.1).length:Int)).bind λm72=>(zQ (((sd62.1++([l2]:List GE))).length+(m72).length<=lim) ((zQ ((A).length+(([(GC.mk sd30.2.1 ((sd62.1++([l2]:List GE))++m72) sd30.2.2.2)]:List GC)).length<=lim) (((fL t0 sd30.1 ((t0).length:Int)).bind λm75=>(zQ (((A++([(GC.mk sd30.2.1 ((sd62.1++([l2]:List GE))++m72) sd30.2.2.2)]:List GC))).length+(m75).length<=lim) (some ((A++([(GC.mk sd30.2.1 ((sd62.1++([l2]:List GE))++m72) sd30.2.2.2)]:List GC))++m75))))))))))) else (zQ ((sd62.1).length+(([l2]:List GE)).length<=lim) (((fL sd30.2.2.1 sd62.2 ((sd30.2.2.1).length:Int)).bind λm78=>(zQ (((sd62.1++([l2]:List GE))).length+(m78).length<=lim) ((zQ ((A).length+(([(GC.mk sd30.2.1 ((sd62.1++([l2]:List GE))++m78) sd30.2.2.2)]:List GC)).length<=lim) (((fL t0 sd30.1 ((t0).length:Int)).bind λm81=>(zQ (((A++([(GC.mk sd30.2.1 ((sd62.1++([l2]:List GE))++m78) sd30.2.2.2)]:List GC))).length+(m81).length<=lim) (some ((A++([(GC.mk sd30.2.1 ((sd62.1++([l2]:List GE))++m78) sd30.2.2.2)]:List GC))++m81))))))))))))))))
theorem ziU (n:Nat) (t0:List GC) (k:List zq) (t:GE):wZ (n+1) t0 k t=(lp (zY (l7A t0 k) (([]:List GC),(0:Int))) λ(o:(List GC)×Int)=>((zS k (0:Int)).bind λs=>(lp ((zQ (((decide (o.2 < ((t0).length:Int)))==true)=true->0<=o.2/\o.2 < ((t0).length:Int)) ((zQ (((decide (o.2 < ((t0).length:Int)))==true)=true->0<=(0:Int)/\(0:Int) < ((k).length:Int)) ((if ((decide (o.2 < ((t0).length:Int)))&&(((t0).getD o.2.toNat default).name==((k).getD (0:Int).toNat default)))=true then ((zS t0 o.2).bind λp=>some (.inr ((IntKind.wrap .i64 (o.2+(1:Int))),p.name,p.leaves,p.w5))) else some (.inr (o.2,s,([]:List GE),([]:List GC)))))))):Option (_ ⊕ (Int×zq×(List GE)×(List GC)))) λr=>l7R n t0 k t o.1 r))):=rfl

theorem uv {α:Type} (L:List α) (i:Nat):((L.take ((L.length:Int)).toNat).drop ((i:Int)).toNat)=L.drop i:=by simp
theorem zlJ {t A:List GC} {s a:zq} {r:List zq} {k:zq} {sb u:List GC} (hi:i<=t.length) (z:t.length<=16777215) (C:A.length<=8388608) (v:t.length<=8388607) (w:(s::a::r).length<=16777216) (h:wZ n sb (a::r) l=some u) :
  l7R n t (s::a::r) l A ((i:Int),k,ls,sb)=some (A++[⟨k,ls,u⟩]++t.drop i):=by
 unfold l7R;have o:decide ((((s::a::r).length:Int)) > 1)=true:=lN (by grind);simp only [o,nv];rw [pc ⟨by omega,by grind,kI _⟩,tb];have p:((s::a::r).take (((s::a::r).length:Int)).toNat).drop (1:Int).toNat=a::r:=by rw [nr,j3];rfl
 rw [p,h,tb,ze (yS (by simp;omega)),pc ⟨by omega,by omega,kI _⟩,tb,uv,ze (yS (by simp;omega))]
theorem ziW {t A:List GC} {s:zq} {w:zq} {sb:List GC} (hi:i<=t.length) (J:A.length<=8388608) (G:t.length<=8388607) (p:ls.length<=8388607) (u:ls.Pairwise λx y=>x.w7 < y.w7) :
  l7R n t [s] l A ((i:Int),w,ls,sb)=some (A++[⟨w,u7 l.w7 l true ls,sb⟩]++t.drop i):=by
 unfold l7R;have E:decide (((([s]:List zq).length:Int)) > 1)=false:=rfl;simp only [E,tx,lg];rcases dZ l.w7 u with ⟨C,D,e,o,hd⟩ | ⟨C,z,D,e,F,o,hd⟩
 ·have v:=zoJ (ls:=ls) (l:=l) (by omega) C D e o (λy r h=>by grind) C.length 0 (by omega) (by omega);rw [show (([]:List GE),(0:Int))=(C.take 0,((0:Nat):Int)) from rfl,v,yL,e,zdH o hd];rw [e] at p;simp only [ng] at p;simp only [];rw [ze (by simp_all)];have k:((decide (((C.length:Nat):Int) < ((C++D).length:Int)))&&(((C++D).getD ((C.length:Nat):Int).toNat default).w7==l.w7))=false:=by
   grind
  rw [k];simp only [tx,lg];rw [ze (yS (by simp;omega)),pc ⟨by omega,by grind,kI _⟩,tb,uv,jW,ze (yS (by simp;omega)),ze (yS (by simp;omega)),pc ⟨by omega,by omega,kI _⟩,tb,uv,ze (yS (by simp;omega))];simp
 ·have v:=zoJ (ls:=ls) (l:=l) (by omega) C (z::D) e o (λy r h=>by simp_all) C.length 0 (by omega) (by omega);rw [show (([]:List GE),(0:Int))=(C.take 0,((0:Nat):Int)) from rfl,v,yL,e,zdG F o hd];rw [e] at p;simp only [ng,m3] at p;simp only [];rw [ze (by simp_all)];have k:((decide (((C.length:Nat):Int) < ((C++z::D).length:Int)))&&(((C++z::D).getD ((C.length:Nat):Int).toNat default).w7==l.w7))=true:=by
   grind
  rw [k];simp only [nv];have H:IntKind.wrap .i64 ((C.length:Int)+1)=((C.length+1:Nat):Int):=by rw [wW (by omega)];omega
  have I:(C++z::D).drop (C.length+1)=D:=by
   simp_all
  rw [ze (yS (by simp;omega)),H,pc ⟨by omega,by grind,kI _⟩,tb,uv,I,ze (yS (by simp;omega)),ze (yS (by simp;omega)),pc ⟨by omega,by omega,kI _⟩,tb,uv,ze (yS (by simp;omega))];simp
theorem zlH {s:zq} {q:List zq} {A B:List GC} (h:(A++B).length<=16777215) (u:ar s A) (o:au s B):wZ (n+1) (A++B) (s::q) l=l7R n (A++B) (s::q) l A ((A.length:Int),s,[],[]):=by
 have v:=zoK (t:=A++B) (s:=s) (q:=q) (by omega) A B rfl u (λy r hh=>by
  have:=o y (by rw [hh];simp);rcases hx:Op.bytesLess y.name s with _ | _
  ·rfl
  ·have:=xW this hx;rw [qR] at this;cases this) A.length 0 (by omega) (by omega)
 rw [ziU,show (([]:List GC),(0:Int))=(A.take 0,((0:Nat):Int)) from rfl,v,yL];have p:zS (s::q) (0:Int)=some s:=rfl;simp only [p,tb];rw [ze (by simp_all),ze (by intro h;simp)];have k:((decide (((A.length:Nat):Int) < ((A++B).length:Int)))&&(((A++B).getD ((A.length:Nat):Int).toNat default).name==((s::q).getD (0:Int).toNat default)))=false:=by
  cases B with
  | nil=>simp
  | cons y B =>
   have:=zcq (o y (by simp))
   grind
 rw [k];rfl
theorem zlG {s:zq} {q:List zq} {A B:List GC} {x:GC} (o:x.name=s) (h:(A++x::B).length<=16777215) (u:ar s A) (C:au s B):wZ (n+1) (A++x::B) (s::q) l=l7R n (A++x::B) (s::q) l A (((A.length+1:Nat):Int),s,x.leaves,x.w5):=by
 have z:=zoK (t:=A++x::B) (s:=s) (q:=q) (by omega) A (x::B) rfl u (λy r hh=>by
  injection hh with w _;rw [<- w,o,qR]) A.length 0 (by omega) (by omega)
 rw [ziU,show (([]:List GC),(0:Int))=(A.take 0,((0:Nat):Int)) from rfl,z,yL];have p:zS (s::q) (0:Int)=some s:=rfl;simp only [p,tb];rw [ze (by simp_all),ze (by intro h;simp)];have k:((decide (((A.length:Nat):Int) < ((A++x::B).length:Int)))&&(((A++x::B).getD ((A.length:Nat):Int).toNat default).name==((s::q).getD (0:Int).toNat default)))=true:=by
  grind
 rw [k];simp only [ng,m3] at h;have v:IntKind.wrap .i64 ((A.length:Int)+1)=((A.length+1:Nat):Int):=by rw [wW (by omega)];omega
 simp only [nv];rw [zt (x:=x) (by simp),tb,yL,v,o]

theorem ziT {l:GE} (X:fb l=true) (J:fF l):∀(p:List zq) (t:List GC) (d n:Nat),p ≠ []->p.all fJ=true->d+p.length<=3->gY d t=true->(zw [] t).length<=8388606->p.length < n ->
  wZ n t p l=wl n t p l.w7 l true
 | [],_,_,_,h,_,_,_,_,_=>absurd rfl h
 | _::_,_,_,0,_,_,_,_,_,h=>by omega
 | s::q,t,d,n+1,_,hp,hd,ht,hw,hn=>by
  simp only [l8,tr,m3] at hp hd hn;obtain ⟨h1,W⟩:=zP ht;have F:t.length<=8388606:=lu (qk _ d (by rw [xe];exact nK.2 W)) hw;have below:∀(sb:List GC) (c:zq) (v:List zq),q=c::v->gY (d+1) sb=true->(zw [] sb).length<=8388606->∃o,wZ n sb q l=some o/\wl n sb q l.w7 l true=some o/\o ≠ []/\o.length<=16777215:=by
   intro sb c v w z P;subst w;obtain ⟨o,e1,e2,e3,e4⟩:=zdF (k:=l.w7) (l:=l) (there:=true) (λ_=>⟨rfl,X,J⟩) (c::v) sb (d+1) n (by simp) hp.2 (by omega) z (by omega) (by omega);have Q:=qk sb (d+1) (by rw [xe];exact nK.2 (zP z).2);refine ⟨o,?_,e1,?_,by omega⟩
   ·rw [<- e1];exact ziT X J (c::v) sb (d+1) n (by simp) hp.2 (by omega) z P (by omega)
   ·intro e;have:=(e4 [] ⟨[]++(c::v),l⟩).2 (.inr ⟨rfl,rfl⟩);rw [e] at this;simp [zw] at this
  rcases da s h1 with ⟨A,B,e,I,u⟩ | ⟨A,x,B,e,U,I,u⟩
  ·have R:(A++B).length<=8388606:=by rw [<- e];exact F
   have S:A.length<=8388606:=by grind
   have N:=zh0 (by omega) I u;have r:zg (A++[]++B) s (λK V=>x5 K V)=some ((A.length:Int),false):=by simp_all
   have C:A++B=A++[]++B:=by simp
   rw [e,zlH (by omega) I u];cases w:q with
   | nil =>
    rw [ziW (by simp) (by omega) (by omega) (by simp) (by simp),C,zbH (ls:=[]) (sb:=[]) J (by simp) r rfl (by grind) (by simp) (by simp) (by simp),pM (.inl zbI)];simp
   | cons c v =>
    obtain ⟨o,D,G,O,b4⟩:=below [] c v w (zeg _) (by simp [zw]);rw [w] at D G;rw [zlJ (by simp) (by omega) (by omega) (by omega) (by grind) D,C,zeX (ls:=[]) (sb:=[]) (f:=false) (by simp) r rfl (by grind) (by simp) (by omega) (by grind) G,pM (.inr O)];simp
  ·have R:(A++x::B).length<=8388606:=by rw [<- e];exact F
   have S:A.length+1<=8388606:=by grind
   have N:=zhZ (by omega) U I u;have r:zg (A++[x]++B) s (λK V=>x5 K V)=some ((A.length:Int),true):=by simp_all
   have C:A++x::B=A++[x]++B:=by simp
   have H:x ∈ t:=by rw [e];simp
   obtain ⟨n1,n2,Y⟩:=wC (W x H);have hml:=tE H;have Q:=qk x.w5 (d+1) (by rw [xe];exact nK.2 (zP n2).2);have E:((if true=true then ((zS (A++[x]++B) (A.length:Int)).bind λM=>some (.inr (M.name,M.leaves,M.w5))) else some (.inr (s,([]:List GE),([]:List GC)))):Option (List GC ⊕ (zq×(List GE)×(List GC))))=some (.inr (s,x.leaves,x.w5)):=by
    rw [lc rfl,zt (x:=x) (by simp),tb,U]
   have Z:(A++x::B).drop (A.length+1)=B:=by rw [<- kp,jW];rfl
   rw [e,zlG U (by omega) I u];cases w:q with
   | nil =>
    rw [ziW (by simp) (by omega) (by omega) (by omega) (uY Y).1,Z,C,zbH (ls:=x.leaves) (sb:=x.w5) J (by simp) r E (by grind) (by omega) (by omega) (uY Y).1,pM (.inl zbI)]
   | cons c v =>
    obtain ⟨o,D,G,O,b4⟩:=below x.w5 c v w n2 (by omega);rw [w] at D G;rw [zlJ (by simp) (by omega) (by omega) (by omega) (by grind) D,Z,C,zeX (ls:=x.leaves) (sb:=x.w5) (f:=true) (by simp) r E (by grind) (by omega) (by omega) (by grind) G,pM (.inr O)]

theorem zlT {a b:GF} (h:a.z6 ≠ b.z6):yc a b=true \/ yc b a=true:=by
 unfold yc;rcases ec a.z6 b.z6 with e | e | e
 ·simp_all
 ·grind
 ·grind
theorem zk9 {α:Type} [Inhabited α] {lt:α->α->Prop} {L:List α} (h:L.Pairwise lt) {i:Nat} {x:α} (hi:L[i]?=some x) (h0:i ≠ 0):lt (L.getD (i - 1) default) x:=by
 obtain ⟨k,rfl⟩:=tm.1 hi;have e:L.getD (i - 1) default=L[i - 1]:=by grind
 rw [e];exact lK.1 h _ _ _ _ (by omega)
theorem zex (h:L.Pairwise λa b=>yc a b=true):fV L=true:=by
 refine fg.2 λi x hi=>?_;by_cases h0:i=0
 ·simp [h0]
 ·simp only [h0,jd,lR,aJ];exact zk9 (lt:=λa b=>yc a b=true) h hi h0
theorem zfP {L:List GA} (h:L.Pairwise λa b=>gU a b=true):wn L=true:=by
 rw [sS];refine fg.2 λi x hi=>?_;unfold yz;by_cases h0:i=0
 ·simp [h0]
 ·simp only [h0,jd,lR];exact zk9 (lt:=λa b=>gU a b=true) h hi h0
theorem dO (h:y ∈ n5 L x):y ∈ L \/ y=x:=by
 unfold n5 at h;split at h
 ·simp_all
 ·rcases lj.1 h with h | h
  ·exact .inl ((List.takeWhile_sublist _).mem h)
  ·rcases lj.1 h with h | h
   ·simp_all
   ·exact .inl ((gK _).mem h)
theorem zlC (x:GF) (h:L.Pairwise λa b=>yc a b=true):(n5 L x).Pairwise λa b=>yc a b=true:=by
 unfold n5;split
 ·exact h
 ·rename_i k;simp only [jD,k8,so] at k;exact zlQ (lt:=yc) (λ_ _ _=>zi2) h λy o=>zlT (a:=y) (b:=x) (k y o)
theorem zgm (x:GF) (h:fN L=true):fN (n5 L x)=true:=by
 unfold n5;split
 ·exact h
 ·rename_i o;simp only [jD,k8,so] at o;unfold fN at h ⊢;rw [so] at h ⊢;have k:(L.takeWhile (λy=>yc y x)++([x]++L.dropWhile λy=>yc y x)).Perm (x::L):=by
   have e:=lO (p:=λy=>yc y x) (l:=L)
   grind
  rw [(k.map (·.z6)).nodup_iff,ld,iA]
  simp_all
theorem ziR (L:List GF) (x:GF):(n5 L x).length<=L.length+1:=by
 unfold n5;split
 ·omega
 ·have e:=congrArg List.length (lO (p:=λy=>yc y x) (l:=L))
  grind
theorem zjr (h:L.all q=true) (p:q x=true):(n5 L x).all q=true :=
 nK.2 λy k=>by
  rcases dO k with o | o
  ·simp_all
  ·simp_all
structure zx7 (e:GJ):Prop where
 z6:fa e.z6=true
 time:tZ e.time=true
 kind:1<=e.op.kind/\e.op.kind<=5
 path:sY e.op.path=true
 text:e.op.text.length<=40
 gX:e.op.kind=4->e.op.gX.all fa=true
 zx0:e.op.gX.length<=64
theorem zqR (h:xJ e=true):zx7 e:=by
 have k:=zhx h;have hd:=zhM h;simp only [xJ,aO,tr,so] at h;obtain ⟨⟨⟨r,p⟩,t⟩,⟨⟨⟨⟨_,o⟩,s⟩,_⟩,u⟩⟩:=h;refine ⟨r,?_,k,o,s,λv=>?_,hd⟩
 ·simp [tZ,p,t]
 ·simp_all
theorem zdj {k:Int} (h:1<=k/\k<=5):1<=vJ k/\vJ k<=4:=by
 unfold vJ;omega
theorem zea (l:GE) (e:GJ):(xg l e).w7=l.w7:=by
 unfold xg
 grind
theorem zkh (k:fb l=true) (S:xJ e=true) (s:vJ e.op.kind=l.w7):fb (xg l e)=true:=by
 have o:=zey k;have D:=zh8 k;have K:=zax k;obtain ⟨H,F,U,d4,J,N,V⟩:=zqR S;have P:=zea l e;by_cases k1:e.op.kind=1
 ·have I:l.w7=1:=by rw [<- s,k1];rfl
  unfold xg;rw [lc k1];unfold fb at k ⊢;rw [lc I] at k;simp only [I,nv];exact k
 by_cases k2:e.op.kind=2
 ·have E:l.w7=2:=by rw [<- s,k2];rfl
  unfold xg;rw [lq k1,lc k2];generalize (decide (l.time=0) || (if l.time ≠ e.time then decide (l.time < e.time) else gU l.z6 e.z6))=b;cases b
  case false=>exact k
  case true =>
   simp only [nv];unfold fb at k ⊢;rw [lq (by omega),lc E] at k;simp only [E];rw [lq (by omega),lc trivial];simp only [tr,so] at k ⊢;refine ⟨k.1,?_⟩;have:¬ e.time=0:=by
    simp only [tZ,tr,so] at F;omega
   simp_all
 by_cases k3:e.op.kind=3
 ·have t3:l.w7=3:=by rw [<- s,k3];rfl
  unfold xg;rw [lq k1,lq k2,lc k3];split
  ·exact k
  ·rename_i Q;simp only [jD,k8,so] at Q;unfold fb at k ⊢;rw [lq (by omega),lq (by omega),lc t3] at k;simp only [t3];rw [lq (by omega),lq (by omega),lc trivial];simp only [tr,so] at k ⊢;obtain ⟨⟨⟨t,r⟩,⟨⟨w,G⟩,u⟩⟩,p⟩:=k;refine ⟨⟨⟨t,by simpa [p9] using r⟩,⟨⟨zjr w ?_,zex (zlC _ o)⟩,zgm _ u⟩⟩,?_⟩
   ·simp [uo,H,J]
   ·simp only [rq,tr] at p ⊢;refine ⟨p.1,nK.2 λd hd=>?_⟩;simp only [kA,k8,so];intro x z O;rcases dO z with v | v
    ·simp_all
    ·grind
 by_cases k4:e.op.kind=4
 ·have t3:l.w7=3:=by rw [<- s,k4];rfl
  have hd:=N k4;unfold xg;rw [lq k1,lq k2,lq k3,lc k4];unfold fb at k ⊢;rw [lq (by omega),lq (by omega),lc t3] at k;simp only [t3];rw [lq (by omega),lq (by omega),lc trivial];simp only [tr,so] at k ⊢;obtain ⟨⟨⟨t,r⟩,⟨⟨w,G⟩,u⟩⟩,p⟩:=k;refine ⟨⟨⟨t,by simpa [p9] using r⟩,⟨⟨nK.2 λx z=>nK.1 w x (kL.1 z).1,zex (o.filter _)⟩,?_⟩⟩,?_⟩
  ·unfold fN at u ⊢
   grind
  ·simp only [rq,tr] at p ⊢;refine ⟨⟨nK.2 λd C=>?_,zfP (zhY _ D)⟩,nK.2 λd C=>?_⟩
   ·rcases (pE _ _ _).1 C with v | v
    ·simp_all
    ·simp_all
   ·simp only [kA,k8,so];intro x z O;obtain ⟨W,R⟩:=kL.1 z;simp only [kA,k8,so] at R;rcases (pE _ _ _).1 C with v | v
    ·grind
    ·simp_all
 ·have M:e.op.kind=5:=by omega
  have t4:l.w7=4:=by rw [<- s,M];rfl
  unfold xg;rw [lq k1,lq k2,lq k3,lq k4];unfold fb at k ⊢;rw [lq (by omega),lq (by omega),lq (by omega),lc t4] at k;simp only [t4];rw [lq (by omega),lq (by omega),lq (by omega),lc trivial];simp only [tr,so] at k ⊢;obtain ⟨⟨⟨t,r⟩,p⟩,⟨⟨w,G⟩,u⟩⟩:=k;refine ⟨⟨⟨t,by simpa [p9] using r⟩,p⟩,⟨⟨zjr w ?_,zex (zlC _ o)⟩,zgm _ u⟩⟩;simp [uo,H,F,J]
theorem zmB (k:fF l) (p:xJ e=true) (hi:l.y4.length<=1048576) (s:l.x4.length<=1048576):fF (xg l e)/\(xg l e).y4.length<=l.y4.length+1/\(xg l e).x4.length<=l.x4.length+64:=by
 have d:=zqR p;have u:0<=e.time:=by have:=d.time;simp only [tZ,tr,so] at this;omega
 have o:=λx=>ziR l.y4 x;have r:=zbO e.op.gX l.x4;have t:=ia (λx:GF=>!(e.op.gX.any λy=>decide (y=x.z6))) l.y4;have hd:=d.zx0;have key:(xg l e).y4.length<=l.y4.length+1/\(xg l e).x4.length<=l.x4.length+64/\0<=(xg l e).time:=by
  unfold xg;split
  ·exact ⟨by simp,by simp,k.time⟩
  split
  ·grind
  split
  ·split
   ·exact ⟨by simp,by simp,k.time⟩
   ·exact ⟨o _,by simp,k.time⟩
  split
  ·exact ⟨by grind,by grind,k.time⟩
  ·exact ⟨o _,by simp,k.time⟩
 exact ⟨⟨by omega,by omega,key.2.2⟩,key.1,key.2.1⟩

def qP (k:Int):GE:=GE.mk k (0:Int) (0:Int) (GA.mk (GH.mk (0:Int) (0:Int)) (0:Int)) ([]:zq) ([]:List GF) ([]:List GA)
theorem zaR {k:Int} (h:1<=k/\k<=4):uD k=some (qP k):=by
 unfold uD;rw [lq (by simp;omega)];rfl
theorem zk1 {k:Int} (h:1<=k/\k<=4):ow k=some (qP k):=by
 unfold ow;rw [lc (by simp;omega)];rfl
theorem zlt {k:Int} (h:1<=k/\k<=4):fb (qP k)=true:=by
 have:k=1 \/ k=2 \/ k=3 \/ k=4:=by omega
 rcases this with rfl | rfl | rfl | rfl <;> decide
theorem znB (k:Int):fF (qP k):=⟨by simp [qP],by simp [qP],kI _⟩
theorem zeL (t:List GC) (s:zq):si t s=some (match fu t s with | some x=>(x,true) | none=>(zr9,false)):=by
 unfold si;have key:∀(L:List GC) (i:Nat),zf (ρ:=GC×Bool) (λ(o:Nat) (k:GC) (p:Unit)=>((if (k.name==s)=true then some (.ret (k,true)) else some (.gV ())):Option (Out _ Unit))) L i ()=some (match fu L s with | some x=>.inl (x,true) | none=>.inr ()):=by
  intro L
  induction L with
  | nil=>intro i;rfl
  | cons y r ih =>
   intro i;rw [zf];unfold fu;rw [gM];cases h:(y.name==s)
   ·simp only [tx,lg];exact ih (i+1)
   ·rfl
 rw [key];cases fu t s <;> rfl
noncomputable def l7F (v1:GE):Nat->zq->(List GC)×zq×(List GE)×(List GC)->Option (Out (GE×Bool) ((List GC)×zq×(List GE)×(List GC))):=(λ(n1:Nat) (x1:zq) (s1:(List GC)×zq×(List GE)×(List GC))=>(((si s1.1 x1).bind λv32=>(if (!v32.2)=true then some (.ret (v1,false)) else some (.gV (v32.1.w5,v32.1.name,v32.1.leaves,v32.1.w5))))))
noncomputable def l7S (ls:List GE) (kind2:Int):Int->Option (Out (GE×Bool) Int):=(λ(s2:Int)=>((if (((decide (s2 < ((ls).length:Int)))&&(decide (kind2 >= (1:Int))))&&(decide (kind2<=(4:Int))))=true then ((zS ls s2).bind λy63=>(if (y63.w7==kind2)=true then ((zS ls s2).bind λy65=>some (.ret (y65,true))) else some (.gV (IntKind.wrap .i64 (s2+(1:Int)))))) else some (.brk s2))))
theorem znG (t0:List GC) (o:List zq) (k:Int):ud t0 o k=((ow k).bind λp=>(lp (zf (l7F p) o 0 (t0,([]:zq),([]:List GE),([]:List GC))) λ(r:(List GC)×zq×(List GE)×(List GC))=>(lp (zY (l7S r.2.2.1 k) (0:Int)) λ(s2:Int)=>some (p,false)))):=rfl
theorem zlI (v:GE):∀(p:List zq) (n:Nat) (t:List GC) (z:zq×(List GE)×(List GC)),p ≠ [] ->
  zf (l7F v) p n (t,z)=some (match vO t p with | some x=>.inr (x.w5,x.name,x.leaves,x.w5) | none=>.inl (v,false))
 | [],_,_,_,h=>absurd rfl h
 | [s],n,t,z,_=>by
  simp only [vO,zf,l7F,zeL,tb]
  grind
 | s::c::q,n,t,z,_=>by
  have o:=λu z=>zlI v (c::q) (n+1) u z (by simp);simp only [vO];cases e:fu t s with
  | none=>rw [zf];simp only [l7F,zeL,e,tb];rfl
  | some x =>
   have k:l7F v n s (t,z)=some (.gV (x.w5,x.name,x.leaves,x.w5)):=by simp only [l7F,zeL,e,tb];rfl
   rw [zf,k,tb]
   simp_all
theorem zp4 {k:Int} (r:1<=k/\k<=4) (s:ls.length<=16777216):∀(m i:Nat),ls.length - i=m->i<=ls.length->zY (l7S ls k) (i:Int)=some (match (ls.drop i).find? (λy=>y.w7==k) with | some y=>.inl (y,true) | none=>.inr (ls.length:Int)):=by
 intro m
 induction m with
 | zero =>
  intro i h hi;obtain rfl:i=ls.length:=by omega
  rw [yE];unfold l7S;simp
 | succ m ih =>
  intro i h hi;have o:i < ls.length:=by omega
  rw [yE];have hd:ls.drop i=ls[i]::ls.drop (i+1):=iq o;have p:((decide ((i:Int) < (ls.length:Int))&&decide (k >= 1))&&decide (k<=4))=true:=by simp;omega
  rw [hd,gM];cases e:(ls[i].w7==k)
  ·have:l7S ls k (i:Int)=some (.gV ((i+1:Nat):Int)):=by
    unfold l7S;rw [lc p,tJ o,tb,e];simp only [tx,lg];rw [wW (by omega)];rfl
   grind
  ·have:l7S ls k (i:Int)=some (.ret (ls[i],true)):=by
    unfold l7S;rw [lc p,tJ o,tb,e];simp
   rw [this]
theorem zdE:∀{p:List zq} {t:List GC} {d:Nat} {x:GC},gY d t=true->p ≠ []->vO t p=some x->x.leaves.length<=(zw [] t).length
 | [],_,_,_,_,h,_=>absurd rfl h
 | [s],t,d,x,h,_,e=>by
  have o:x ∈ t:=jt (show fu t s=some x from e);have:=tE o;omega
 | s::c::q,t,d,x,h,_,e=>by
  simp only [vO] at e;cases hn:fu t s with
  | none=>rw [hn] at e;cases e
  | some y =>
   rw [hn,tb] at e;have k:y ∈ t:=jt (show fu t s=some y from hn);have u:=zdE (wC ((zP h).2 y k)).2.1 (by simp) e;have r:=tE k;omega
theorem bU {t:List GC} (h:gY 0 t=true) (z:(zw [] t).length<=16777215) {p:List zq} (u:p ≠ []) {k:Int} (v:1<=k/\k<=4) :
  (∃l,GN.mk p l ∈ zw [] t/\l.w7=k/\ud t p k=some (l,true)) \/ ((∀r ∈ zw [] t,uq r ≠ (p,k))/\ud t p k=some (qP k,false)):=by
 have o:=λl=>zkX p t 0 [] l u h;simp only [lC] at o;have s:(∀l,¬ (GN.mk p l ∈ zw [] t/\l.w7=k))->∀r ∈ zw [] t,uq r ≠ (p,k):=λD r C e=>by
  have:=zkW e;simp only [lC] at this;exact D r.leaf ⟨by rw [<- this];exact C,congrArg Prod.snd e⟩
 rw [znG,zk1 v,tb,zlI _ p 0 t _ u];cases e:vO t p with
 | none =>
  right;refine ⟨s λl hh=>?_,rfl⟩;obtain ⟨x,E,_⟩:=(o l).1 hh.1
  simp_all
 | some x =>
  simp only [lp];have w:x.leaves.length<=16777215:=by
   exact lu (zdE h u e) z
  have hs:=zp4 v (by omega:x.leaves.length<=16777216) x.leaves.length 0 (by omega) (lX _);simp only [k9,il] at hs
  grind

theorem ziC {s:zq} (h:fJ s=true):s.length<=12/\∀b ∈ s,b ≠ 0:=by
 simp only [fJ,tr,so,nK] at h;refine ⟨h.1.2,λb k e=>?_⟩;have:=h.2 b k;rw [e] at this;revert this;decide
def wS (n:Nat):List GN->Nat
 | []=>0
 | r::L=>r.leaf.bk+17 * (r.path.length - n)+wS n L
theorem zbS (n:Nat):∀A B:List GN,wS n (A++B)=wS n A+wS n B
 | [],B=>by simp [wS]
 | r::A,B=>by simp only [kg,wS,zbS n A B];omega
theorem zfx (a:List zq) (s:zq):∀ls:List GE,wS a.length (ls.map λl=>GN.mk (a++[s]) l)=(ls.map GE.bk).sum+17 * ls.length
 | []=>rfl
 | l::ls=>by
  simp only [ld,wS,zfx a s ls,jO,m3,ng,lF];omega
theorem zq3 (n:Nat):∀L:List GN,(∀r ∈ L,n+1<=r.path.length)->wS n L=wS (n+1) L+17 * L.length
 | [],_=>rfl
 | r::L,h=>by
  have o:=h r (by simp);simp only [wS,zq3 n L (λq k=>h q (by simp [k])),m3];omega
theorem zvk (x:GC):x.bk=(x.name.length+1)+(((x.leaves.map GE.bk).sum+1)+((GC.eV x.w5+1)+0))+1:=by cases x;simp only [GC.bk]
theorem zof:∀(t:List GC) (d:Nat) (a:List zq),(∀x ∈ t,pk d x=true)->GC.eV t<=wS a.length (zw a t):=by
 refine qE (λ_ _ _=>by simp [GC.eV]) ?_;intro x r z v d a p;have E:=v d a λy u=>p y (by simp [u]);have o:=p x (by simp);obtain ⟨C,n2,_⟩:=wC o;have w:=z (d+1) (a++[x.name]) (zP n2).2;have D:=(ziC C).1;have k:=qk [x] d (by simp [uJ,o]);rw [sR,wJ] at k;simp only [ng,oS,m3,lF,l6] at w k;rw [zbG x.w5 ([]++[x.name]) (a++[x.name])] at k;show x.bk+GC.eV r<=wS a.length (pg a x++zw a r);rw [zbS,wJ,zbS,zfx,zq3 a.length _ λq s=>by
  have:=(om _ _ q s).1;simp at this;omega]
 have F:=zvk x;omega
theorem zos {lt:GN->GN->Prop} (k:∀x,¬ lt x x) (n:Nat):∀(L M:List GN),L.Pairwise lt->(∀x ∈ L,x ∈ M)->wS n L<=wS n M
 | [],_,_,_=>lX _
 | x::L,M,h,hs=>by
  obtain ⟨r,o⟩:=ll.1 h;obtain ⟨A,B,rfl⟩:=gm (hs x (by simp));have:=zos k n L (A++B) o λy p=>by
   grind
  rw [zbS] at this;rw [zbS];simp only [wS];omega
def lS:List GN->Nat
 | []=>0
 | r::L=>r.leaf.bk+lS L
theorem zq4:∀L:List GN,(∀r ∈ L,r.path.length<=3)->wS 0 L<=lS L+51 * L.length
 | [],_=>oA _
 | r::L,h=>by
  have p:=h r (by simp);have o:=zq4 L λq k=>h q (by simp [k]);simp only [wS,lS,m3];omega
theorem zg9:∀(t:List GC) (a:List zq),GC.ce t->∀r ∈ zw a t,GE.wf r.leaf:=by
 refine qE (λ_ _ _ h=>by simp [zw] at h) ?_;intro x r u s a h q k;simp only [GC.ce] at h;have k:q ∈ pg a x++zw a r:=k;rcases lj.1 k with k | k
 ·have o:x.name.length<=maxLen/\(x.leaves.length<=maxLen/\∀y ∈ x.leaves,GE.wf y)/\GC.ce x.w5:=by
   have:=h.1;cases x;simpa only [GC.wf] using this
  rcases ee.1 k with ⟨l,p,rfl⟩ | k
  ·simp_all
  ·grind
 ·grind
theorem zo5:∀(t:List GC) (d:Nat) (a:List zq),(∀x ∈ t,pk d x=true)->(zw a t).length<=maxLen->(∀r ∈ zw a t,GE.wf r.leaf)->GC.ce t:=by
 refine qE (λ_ _ _ _ _=>by simp [GC.ce]) ?_;intro x r G E d a C p k;have p:(pg a x++zw a r).length<=maxLen:=p;have k:∀q ∈ pg a x++zw a r,GE.wf q.leaf:=k;rw [wJ] at p;simp only [ng,oS] at p;obtain ⟨H,n2,_⟩:=wC (C x (by simp));have D:=E d a (λy u=>C y (by simp [u])) (by omega) (λq s=>k q (by simp [s]));have v:=G (d+1) (a++[x.name]) (zP n2).2 (by omega) (λq s=>k q (lj.2 (.inl (ee.2 (.inr s)))));have F:=(ziC H).1;have o:x.name.length<=maxLen:=lu F (by decide);have w:∀y ∈ x.leaves,GE.wf y:=λy u=>k ⟨a++[x.name],y⟩ (lj.2 (.inl (ee.2 (.inl ⟨y,u,rfl⟩))));have z:x.leaves.length<=maxLen:=by omega
 simp only [GC.ce];refine ⟨?_,D⟩;revert o w z v;cases x;intro v o w z;simp only [GC.wf]
 simp_all

theorem zpE (h:fF l):uF l=some l:=by
 unfold uF;rw [um (yS (by have:=h.y4;omega)),tb,wF (yS (by have:=h.x4;omega)),tb]
theorem zd2:∀(n:Nat) (t:List GC),GC.fC t < n->Small t->x8 n t (λu=>uF u)=some t
 | 0,_,h,_=>by omega
 | n+1,t,h,hs=>by
  unfold x8;have D:=hs.len;rw [rS (λ_=>true) (λx=>x) t 0 [] (yS (by simp;omega))]
  ·simp
  ·intro i x s k z;have r:=tR k;have w:=vp x;have v:=hs.leaves k;rw [zd2 n x.w5 (by omega) (hs.w5 k),tb];rw [rS (λ_=>true) (λl=>l) x.leaves 0 [] (yS (by simp;omega))]
   ·have p:(x.leaves.filter λ_=>true)=x.leaves:=by simp
    simp only [yL,lC,List.map_id_fun',id,p,nv];rw [ze (by omega)];cases x;simp
   ·intro j l s2 o C;show ((uF l).bind _)=_;rw [zpE (hs.leaf k o),tb,ze (by omega)];simp
theorem zpF {t:List GC} (h:Small t):mg t=some t:=by
 unfold mg na;rw [tT (GC.fC t+1) λn k=>zd2 n t (by omega) h,tb]
theorem zot:∀L:List GN,(∀r ∈ L,1<=r.path.length)->17 * L.length<=wS 0 L
 | [],_=>oA _
 | r::L,h=>by
  have p:=h r (by simp);have o:=zot L λq k=>h q (by simp [k]);simp only [wS,m3];omega
structure cR (t:List GC):Prop where
 small:Small t
 tree:gY 0 t=true
 ws:wS 0 (zw [] t)<=14680064
 leaf:∀r ∈ zw [] t,r.leaf.bk<=1048576
theorem cR.row {t:List GC} (h:cR t) {r:GN} (k:r ∈ zw [] t):c8 r:=zha t 0 [] h.small h.tree rfl rfl r k
theorem cR.len {t:List GC} (h:cR t):(zw [] t).length<=863533:=by
 have o:=zot (zw [] t) λr k=>by
  have:=(uW (h.row k).path).1
  grind
 have:=h.ws;omega
theorem zdo {u:List GC} {M:List GN} (p:gY 0 u=true) (D:wS 0 M<=16777216) (C:M.length<=1048576) (s:∀r ∈ M,GE.wf r.leaf) (h:∀r ∈ zw [] u,r ∈ M):Small u/\wS 0 (zw [] u)<=wS 0 M:=by
 have o:∀x:GN,¬ bu (uq x) (uq x)=true:=λx h=>by rw [zcv] at h;cases h
 have k:=sQ p [];have w:=zof u 0 [] (zP p).2;have t:=zos o 0 _ _ k h;have z:=zgY o _ _ k h;simp only [lF] at w;exact ⟨⟨zo5 u 0 [] (zP p).2 (lu (lu z C) (by decide)) λr v=>s r (h r v),by omega⟩,t⟩
theorem zkP {t u:List GC} {p:List zq} (k:cR t) (s:gY 0 u=true) (z:l.bk<=1100000) (v:GE.wf l) (w:p.length<=3) (h:∀r ∈ zw [] u,r ∈ zw [] t \/ r=⟨p,l⟩):Small u:=by
 have D:=k.ws;have C:=k.len;refine (zdo (M:=zw [] t++[⟨p,l⟩]) s (by rw [zbS];simp only [wS];omega) (by simp;omega) (λr o=>?_) λr o=>?_).1
 ·rcases lj.1 o with h | h
  ·exact zg9 t [] k.small.1 r h
  ·simp_all
 ·simp_all
theorem zfj (L:List GA):(L.map GA.bk).sum=5 * L.length:=by
 induction L with
 | nil=>rfl
 | cons d r ih =>
  have:GA.bk d=5:=rfl
  grind
theorem zae {α:Type} (f:α->Nat) (q:α->Bool):∀L:List α,((L.filter q).map f).sum<=(L.map f).sum
 | []=>by simp
 | x::r=>by
  have:=zae f q r
  grind
theorem zoI (L:List GF) (x:GF):((n5 L x).map GF.bk).sum<=(L.map GF.bk).sum+x.bk:=by
 unfold n5;split
 ·omega
 ·have e:=lO (p:=λy=>yc y x) (l:=L)
  grind
theorem zgL (k:xJ e=true):(xg l e).bk<=l.bk+1000:=by
 have d:=zqR k;have s:=zoI l.y4 ⟨0,e.z6,e.op.text⟩;have p:=zoI l.y4 ⟨e.time,e.z6,e.op.text⟩;have v:=zbO e.op.gX l.x4;have r:=zae GF.bk (λx:GF=>!(e.op.gX.any λy=>decide (y=x.z6))) l.y4;have hd:=d.zx0;have u:=d.text;have b0:∀x:GA,GA.bk x=5:=λ_=>rfl;have o:GF.bk ⟨0,e.z6,e.op.text⟩<=60:=by simp only [GF.bk,b0];omega
 have t:GF.bk ⟨e.time,e.z6,e.op.text⟩<=60:=by simp only [GF.bk,b0];omega
 unfold xg;split
 ·simp only [GE.bk];omega
 split
 ·generalize (decide (l.time=0) || (if l.time ≠ e.time then decide (l.time < e.time) else gU l.z6 e.z6))=b;cases b
  ·simp_all
  ·simp only [nv,GE.bk,b0];omega
 split
 ·split
  ·omega
  ·simp only [GE.bk];omega
 split
 ·simp only [GE.bk,zfj];omega
 ·simp only [GE.bk];omega
theorem zj7 (n:Int):dy .i64 (IntKind.wrap .i64 n):=by
 unfold dy;rw [IntKind.wrap_i64];constructor
 ·show (-9223372036854775808:Int)<=_;omega
 ·show _<=(9223372036854775807:Int);omega
theorem zmE {q:GF->Prop} (h:∀y ∈ L,q y) (p:q x):∀y ∈ n5 L x,q y:=λy k=>by
 rcases dO k with o | o
 ·simp_all
 ·simp_all
theorem zgK (H:GE.wf l) (J:xJ e=true) (G:GJ.wf e) (hi:l.y4.length<=1048576) (F:l.x4.length<=1048576):GE.wf (xg l e):=by
 have d:=zqR J;obtain ⟨k,t,r,p,u,o,s⟩:=H;obtain ⟨D,E,I⟩:=G;obtain ⟨O,M,P,C,K⟩:=I;have v:∀n,n<=1048700->n<=maxLen:=λn h=>lu h (by decide);have Q:=λx=>ziR l.y4 x;have R:=zbO e.op.gX l.x4;have N:=ia (λx:GF=>!(e.op.gX.any λy=>decide (y=x.z6))) l.y4;have hd:=d.zx0;have z:dy .u64 0:=⟨kI _,by decide⟩
 unfold xg;split
 ·exact ⟨k,zj7 _,r,p,u,o,s⟩
 split
 ·generalize (decide (l.time=0) || (if l.time ≠ e.time then decide (l.time < e.time) else gU l.z6 e.z6))=b;cases b
  ·exact ⟨k,t,r,p,u,o,s⟩
  ·exact ⟨k,t,E,D,C,o,s⟩
 split
 ·split
  ·exact ⟨k,t,r,p,u,o,s⟩
  ·exact ⟨k,t,r,p,u,⟨v _ (by grind),zmE o.2 ⟨z,D,C⟩⟩,s⟩
 split
 ·refine ⟨k,t,r,p,u,⟨v _ (by grind),λy w=>o.2 y (kL.1 w).1⟩,⟨v _ (by grind),λy w=>?_⟩⟩;rcases (pE _ _ _).1 w with h | h
  ·simp_all
  ·simp_all
 ·exact ⟨k,t,r,p,u,⟨v _ (by grind),zmE o.2 ⟨E,D,C⟩⟩,s⟩
theorem znA {k:Int} (h:1<=k/\k<=4):GE.wf (qP k):=by
 have z:dy .u64 0:=⟨kI _,by decide⟩
 have p:dy .u8 0:=⟨kI _,by decide⟩
 have o:dy .u32 0:=⟨kI _,by decide⟩
 have r:dy .i64 0:=⟨by decide,by decide⟩
 refine ⟨⟨by show (0:Int)<=k;omega,by show k<=255;omega⟩,r,z,⟨⟨p,o⟩,z⟩,by simp [qP],⟨by simp [qP],by simp [qP]⟩,⟨by simp [qP],by simp [qP]⟩⟩

theorem zfA {k:Int} (o:1<=k/\k<=4) {r:Bool×zq×(List GE)×(List GC)} {v:GE} (h:tlR k r=some (v,false)):v=qP k:=by
 unfold tlR at h;obtain ⟨p,_,h⟩:=ku.1 h;obtain ⟨v50,_,h⟩:=ku.1 h;split at h
 ·rw [zaR o,tb] at h
  simp_all
 ·obtain ⟨y,_,h⟩:=ku.1 h;obtain ⟨a,_,h⟩:=ku.1 h;obtain ⟨b,_,h⟩:=ku.1 h
  simp_all
theorem zc5 {t:List GC} {p:List zq} (s:p ≠ []) {k:Int} (r:1<=k/\k<=4) {v:GE} (h:uu t p k=some (v,false)):v=qP k:=by
 have o:=zej p 0 t (decide ((p.length:Int) > 0),([]:zq),([]:List GE),([]:List GC)) s;rw [zpa] at h;cases e:vO t p with
 | none =>
  rw [e] at o;obtain ⟨u,o⟩:=o;rw [o] at h;simp only [yL] at h;exact zfA r h
 | some x =>
  rw [e] at o;simp only at o;rw [o] at h;simp only [yL] at h;exact zfA r h
theorem zcs (l:GE):l.y4.length<=l.bk/\l.x4.length<=l.bk:=by
 have k:=nh (f:=GF.bk) (λx=>by simp only [GF.bk];omega) l.y4;have o:=zfj l.x4;simp only [GE.bk];omega
theorem zao {t:List GC} (E:cR t) {p:List zq} (G:p ≠ []) {k:Int} (w:1<=k/\k<=4) :
  ∃l b,uu t p k=some (l,b)/\ud t p k=some (l,b)/\l.w7=k/\fb l=true/\fF l/\GE.wf l/\l.bk<=1048576/\((b=true/\GN.mk p l ∈ zw [] t) \/ (b=false/\l=qP k/\∀r ∈ zw [] t,uq r ≠ (p,k))):=by
 have J:=E.len;have hs:=E.small;have C:=E.tree;have z:=λr u=>zha t 0 [] hs C rfl rfl r u;rcases cC C (λr u=>(z r u).ok) G w with ⟨l,o,s,H⟩ | ⟨o,v,s⟩ <;> rcases bU C (by omega) G w with ⟨K,F,D,I⟩ | ⟨F,D⟩
 ·have e:=zjF (key:=uq) (sQ C []) o F (by simp only [uq];rw [s,D]);injection e with _ e;subst e;have u:=z _ o;refine ⟨l,true,H,I,s,u.leaf,u.ok,zg9 t [] hs.1 _ o,?_,.inl ⟨rfl,o⟩⟩;exact E.leaf _ o
 ·exact absurd (by simp only [uq];rw [s]) (F _ o)
 ·exact absurd (by simp only [uq];rw [D]) (o _ F)
 ·have e:=zc5 G w s;subst e;exact ⟨qP k,false,s,D,rfl,zlt w,znB k,znA w,(by simp [qP,GE.bk,GA.bk,GH.bk]),.inr ⟨rfl,rfl,o⟩⟩
theorem zpr (z:fb l=true) (w:fF l) {p:List zq} {t u:List GC} (F:sY p=true) (s:gY 0 t=true) (K:(zw [] t).length<=8388606) (G:gY 0 u=true) (M:∀r,r ∈ zw [] u ↔ (r ∈ zw [] t/\uq r ≠ (p,l.w7)) \/ (true=true/\r=⟨p,l⟩)) :
  zeh t p l=some u/\zez t p l=some u:=by
 obtain ⟨v,I,o⟩:=uW F;have key:∀n,p.length+1<=n->wl n t p l.w7 l true=some u:=λn D=>by
  obtain ⟨J,E,H,_,C⟩:=zdF (k:=l.w7) (l:=l) (there:=true) (λ_=>⟨rfl,z,w⟩) p t 0 n v o (by omega) s (by omega) (by omega);have C:=C [];simp only [lC] at C;rw [E,zis H G λr=>by simp_all]
 refine ⟨tT (p.length+1) λn D=>?_,tT (p.length+1) λn D=>?_⟩
 ·rw [zlc z w p t 0 n v o (by omega) s (by omega) (by omega)]
  simp_all
 ·rw [ziT z w p t 0 n v o (by omega) s (by omega) (by omega)]
  simp_all
theorem zjn {t:List GC} (v:cR t) (o:xJ e=true) (S:GJ.wf e) :
  ∃u l b,fR t e=some (u,0)/\vY t e=some (u,0)/\Small u/\gY 0 u=true/\uu t e.op.path (vJ e.op.kind)=some (l,b)/\l.w7=vJ e.op.kind/\fb (xg l e)=true/\fF (xg l e) /\
   ∀r,r ∈ zw [] u ↔ (r ∈ zw [] t/\uq r ≠ (e.op.path,vJ e.op.kind)) \/ r=⟨e.op.path,xg l e⟩:=by
 have d:=zqR o;have hs:=v.small;have w:=v.tree;have O:=zdj d.kind;obtain ⟨U,N,W⟩:=uW d.path;obtain ⟨l,b,H,M,F,P,I,V,Y,_⟩:=zao v U O;have J:=zcs l;have C:=zkh P o F.symm;have X:(xg l e).w7=vJ e.op.kind:=by rw [zea,F]
 obtain ⟨z,_⟩:=zmB I o (by omega) (by omega);have E:=v.len;obtain ⟨u,_,D,_,Q⟩:=zp2 (k:=(xg l e).w7) (l:=xg l e) (there:=true) (λ_=>⟨rfl,C,z⟩) d.path w (by omega);obtain ⟨R,q2⟩:=zpr C z d.path w (by omega) D Q;have K:Small u:=zkP v D (lu (zgL o) (by omega)) (zgK V o S (by omega) (by omega)) N λr Z=>by
  grind
 have p:l.y4.length<=1048576:=by omega
 have s:l.x4.length<=1048576:=by omega
 have G:zd9 l e=(xg l e,0):=by
  unfold zd9
  simp_all
 refine ⟨u,l,b,?_,?_,K,D,H,F,C,z,λr=>by simp_all⟩
 ·unfold fR;rw [nc hs,sM,w,o];simp only [tb,lH,lL,nv,jk,tx,lg];rw [zf1,tb,H,tb,zgl e p s,G,tb];simp only [jn,tx,lg];rw [R,tb,zpF K,tb]
 ·unfold vY;rw [zb8 hs,sm,w,o];simp only [tb,lH,lL,nv,jk,tx,lg];rw [np,tb,M,tb,zhb e p s I.time,G,tb]
  simp_all

def dn:List zq->List zq
 | []=>[]
 | [x]=>[x]
 | x::y::r=>if x=y then dn (y::r) else x::dn (y::r)
theorem zje:∀(A:List zq) (x y:zq),dn (A++[x,y])=if x=y then dn (A++[x]) else dn (A++[x])++[y]
 | [],x,y=>by by_cases h:x=y <;> simp [dn,h]
 | [a],x,y=>by
  by_cases h:x=y
  ·subst h;by_cases h2:a=x <;> simp [dn,h2]
  ·by_cases h2:a=x <;> simp [dn,h2,h]
 | a::b::A,x,y=>by
  have k:=zje (b::A) x y;simp only [kg] at k ⊢;simp only [dn]
  grind
theorem zfm:∀(L:List zq) (d:zq),d ∈ dn L ↔ d ∈ L
 | [],_=>by simp [dn]
 | [x],_=>by simp [dn]
 | x::y::r,d=>by
  simp only [dn];split
  ·rename_i h;subst h;rw [zfm (x::r) d];simp
  ·rw [lG,zfm (y::r) d];simp
theorem zd0 {lt:zq->zq->Prop} (k:∀a b,¬ lt b a->a=b \/ lt a b) (u:∀a b c,lt a b->lt b c->lt a c):∀(L:List zq),L.Pairwise (λa b=>¬ lt b a)->(dn L).Pairwise lt
 | [],_=>by simp [dn]
 | [x],_=>by simp [dn]
 | x::y::r,h=>by
  have t:=(ll.1 h).2;have s:=zd0 k u (y::r) t;simp only [dn];split
  ·exact s
  ·rename_i p;refine ll.2 ⟨λz o=>?_,s⟩;rw [zfm] at o;have v:lt x y:=(k x y ((ll.1 h).1 y (by simp))).resolve_left p;rcases lG.1 o with rfl | o
   ·omega
   ·rcases k y z ((ll.1 t).1 z o) with rfl | w
    ·omega
    ·grind
theorem zgX {L:List zq} {a b:zq} (k:L[n]?=some a) (o:L[n+1]?=some b):L.take (n+2)=L.take n++[a,b]:=by
 rw [ka,ka,k,o];simp
theorem zfl {L:List zq} {a b:zq} (k:L[n]?=some a) (o:L[n+1]?=some b):dn (L.take (n+2))=if a=b then dn (L.take (n+1)) else dn (L.take (n+1))++[b]:=by
 rw [zgX k o,zje,ka,k];rfl
noncomputable def zji (n:Nat) (s1:Int):Int×Int×(List zq)->Option (Out (Out (List zq) Int) (Int×Int×(List zq))):=λ(s2:Int×Int×(List zq))=>((zQ ((s2.2.2).length=n) ((if (decide (s2.2.1 < ((n - s1.toNat:Nat):Int)))=true then ((zS (s2.2.2.drop s1.toNat) s2.2.1).bind λy51=>((zS (s2.2.2.drop s1.toNat) (IntKind.wrap .i64 (s2.2.1 - (1:Int)))).bind λy52=>(if (!(y51==y52))=true then ((zS (s2.2.2.drop s1.toNat) s2.2.1).bind λy54=>((zS s2.2.2 s2.1).bind λy55=>some (.gV ((IntKind.wrap .i64 (s2.1+(1:Int))),(IntKind.wrap .i64 (s2.2.1+(1:Int))),(s2.2.2.set s2.1.toNat y54))))) else some (.gV (s2.1,(IntKind.wrap .i64 (s2.2.1+(1:Int))),s2.2.2))))) else some (.brk (s2.1,s2.2.1,s2.2.2))))))
theorem zkg {L:List zq} (U:L.length<=16777216) {k0:Nat} (H:0 < k0) (P:k0 < L.length) {a:zq} (I:L[k0 - 1]?=some a) (F:L[k0]?=some a) (V:dn (L.take k0)=L.take k0) :
  ∃p,zY (zji L.length (k0:Int)) ((k0:Int),1,L)=some (.inr p)/\∃m:Nat,p.1=(m:Int)/\m<=L.length/\p.2.2.length=L.length/\p.2.2.take m=dn L:=by
 refine w9 (f:=zji L.length (k0:Int)) (λs=>∃m b:Nat,s.1=(m:Int)/\s.2.1=(b:Int)/\1<=b/\k0+b<=L.length/\m+1<=k0+b/\s.2.2.length=L.length/\s.2.2.take m=dn (L.take (k0+b))/\s.2.2.drop (k0+b - 1)=L.drop (k0+b - 1))
  _ (λs=>L.length - s.2.1.toNat) ?_ _ _ rfl ⟨k0,1,rfl,rfl,oA _,by omega,by omega,rfl,?_,by simp⟩
 ·rintro ⟨i,j,M⟩ ⟨m,b,z,E,Q,S,R,u,w,v⟩
  simp only at z E u w v;subst z E;simp only [zji,zQ,u,nv,nr];by_cases hb:k0+b < L.length
  ·right;have r:∀t,k0+b - 1<=t->M[t]?=L[t]?:=λt O=>by
    have:=congrArg (λl=>l[t - (k0+b - 1)]?) v
    grind
   have D:L[k0+b]?=some L[k0+b]:=s5 hb;have hb1:k0+b - 1 < L.length:=by omega
   have J:L[k0+b - 1]?=some (L[k0+b - 1]'hb1):=s5 hb1;have C:zS (M.drop k0) (b:Int)=some L[k0+b]:=by simp only [zS,nr,lx];rw [lc (by omega),r _ (by omega),D]
   have G:zS (M.drop k0) (IntKind.wrap .i64 ((b:Int) - 1))=some (L[k0+b - 1]'hb1):=by
    rw [zee (by omega) (by omega)];simp only [zS,nr,lx]
    grind
   have K:zS M (m:Int)=some (M[m]'(by omega)):=by simp [zS]
   have k:=zfl (L:=L) (n:=k0+b - 1) J (by rw [show k0+b - 1+1=k0+b by omega];exact D);rw [show k0+b - 1+2=k0+(b+1) by omega,show k0+b - 1+1=k0+b by omega] at k;have o:M.drop (k0+(b+1) - 1)=L.drop (k0+(b+1) - 1):=by
    have:=congrArg (λl=>l.drop 1) v;simp only [kp] at this
    rwa [show k0+b - 1+1=k0+(b+1) - 1 by omega] at this
   rw [lc (by simp;omega),C,tb,G,tb];by_cases he:L[k0+b]=L[k0+b - 1]'hb1
   ·refine ⟨((m:Int),((b+1:Nat):Int),M),by simp [he,xF (show b<=16777216 by omega)],⟨m,b+1,rfl,rfl,by omega,by omega,by omega,u,?_,o⟩,by simp;omega⟩
    simp_all
   ·refine ⟨(((m+1:Nat):Int),((b+1:Nat):Int),M.set m L[k0+b]),?_,⟨m+1,b+1,rfl,rfl,by omega,by omega,by omega,by simp_all,?_,?_⟩,by simp;omega⟩
    ·simp [he,C,K,xF (show b<=16777216 by omega),xF (show m<=16777216 by omega)]
    ·rw [k,lq (λe=>he e.symm),<- w,ka,jQ (oA _),lr (by omega)];rfl
    ·rw [jR (by omega)];exact o
  ·left;have N:k0+b=L.length:=by omega
   rw [lq (by simp;omega)]
   grind
 ·have:=zfl (L:=L) (n:=k0 - 1) I (by rw [show k0 - 1+1=k0 by omega];exact F)
  grind
noncomputable def nJ (s0:List zq):Int->Option (Out (List zq) Int):=λ(s1:Int)=>((if (decide (s1 < ((s0).length:Int)))=true then ((zS s0 s1).bind λy35=>((zS s0 (IntKind.wrap .i64 (s1 - (1:Int)))).bind λy36=>(if (y35==y36)=true then (zQ (0<=s1/\s1<=((s0.length:Nat):Int)) ((lp (zY (zji s0.length s1) (s1,(1:Int),s0)) λ(s2:Int×Int×(List zq))=>(zQ (0<=s2.1/\s2.1<=((s0.length:Nat):Int)) (((fL (s2.2.2.take s2.1.toNat++List.replicate (s0.length - s2.1.toNat) ([]:zq)) (0:Int) s2.1).bind λm57=>some (.ret m57))))))) else some (.gV (IntKind.wrap .i64 (s1+(1:Int))))))) else some (.brk s1)))
theorem zhR (k:List zq):wb k=(if (decide (((k).length:Int) < (2:Int)))=true then some k else (lp (zY (nJ k) (1:Int)) λ(_:Int)=>some k)):=rfl
theorem zhT {L:List zq} (C:L.length<=16777216):∀(n k:Nat),L.length - k=n->0 < k->k<=L.length->dn (L.take k)=L.take k->lp (zY (nJ L) (k:Int)) (λ(_:Int)=>some L)=some (dn L):=by
 intro n
 induction n with
 | zero =>
  intro k D h0 hk hd;have:k=L.length:=by omega
  subst this;rw [yE];simp only [nJ]
  simp_all
 | succ n ih =>
  intro k D h0 hk hd;have o:k < L.length:=by omega
  have r:L[k]?=some L[k]:=s5 o;have hk1:k - 1 < L.length:=by omega
  have u:L[k - 1]?=some (L[k - 1]'hk1):=s5 hk1;rw [yE];have v:zS L (k:Int)=some L[k]:=by simp [zS]
  have t:zS L (IntKind.wrap .i64 ((k:Int) - 1))=some (L[k - 1]'hk1):=by
   rw [zee h0 (by omega)];simp only [zS,nr];rw [lc (by omega),u]
  have p:=zfl (L:=L) (n:=k - 1) u (by rw [show k - 1+1=k by omega];exact r);rw [show k - 1+2=k+1 by omega,show k - 1+1=k by omega] at p;by_cases he:L[k]=L[k - 1]'hk1
  ·obtain ⟨s,w,m,E,F,G,z⟩:=zkg C h0 o (a:=L[k]) (by simp_all) r hd;have hs:fL (s.2.2.take ((m:Int)).toNat++List.replicate (L.length - ((m:Int)).toNat) ([]:zq)) (0:Int) (m:Int)=some (s.2.2.take m):=by
    unfold fL;rw [lc (by simp;omega)];simp only [nr,iQ,k9]
    grind
   have:nJ L (k:Int)=some (.ret (dn L)):=by
    simp only [nJ];rw [lc (by simp;omega),v,tb,t,tb,lc (by simp [he])];rw [ze (by omega),w];simp only [lp];rw [ze (by omega),E,hs,tb,z]
   simp_all
  ·have:nJ L (k:Int)=some (.gV ((k+1:Nat):Int)):=by
    simp only [nJ];rw [lc (by simp;omega),v,tb,t,tb,lq (by simp [he]),xF (by omega)]
   rw [this];refine ih (k+1) (by omega) (by omega) (by omega) ?_;rw [p,lq (λe=>he e.symm),hd,ka,r];rfl
theorem zhQ {L:List zq} (k:L.length<=16777216):wb L=some (dn L):=by
 rw [zhR];by_cases h:L.length < 2
 ·rw [lc (by simp;omega)]
  match L,h with
  | [],_=>rfl
  | [x],_=>rfl
  | _::_::_,h=>simp at h;omega
 ·rw [lq (by simp;omega)];have:=zhT k (L.length - 1) 1 rfl (by omega) (by omega) (by
   match L,h with
   | x::y::r,_=>rfl
   | [],h=>simp at h
   | [x],h=>simp at h)
  omega
def zqK (L:List zq):List zq:=L.mergeSort λa b=>!Op.bytesLess b a
theorem zie {L:List zq} (k:L.length<=lim):ak L=some (zqK L):=by
 unfold ak zqK;rw [lc k];congr 2;funext x y;rw [lQ];simp only [so,kA,Go.Proofs.bytesLess_eq,iJ];rfl
theorem zbU (L:List zq):(zqK L).Perm L:=hM ..
theorem zkM (L:List zq):(zqK L).Pairwise λa b=>¬ Op.bytesLess b a=true:=by
 have:=gF (le:=λa b:zq=>!Op.bytesLess b a) (λa b c p k=>by
  simp only [kA] at *;cases h:Op.bytesLess c a with
  | false=>rfl
  | true =>
   rcases eC a b with rfl | o | o
   ·rw [k] at h;cases h
   ·rw [xW h o] at k;cases k
   ·rw [p] at o;cases o) (λa b=>by
  cases h:Op.bytesLess b a with
  | false=>rfl
  | true =>
   cases k:Op.bytesLess a b with
   | false=>rfl
   | true=>have:=xW h k;rw [qR] at this;cases this) L
 refine this.imp λ{a b} h=>?_;simpa using h
theorem zpb {L:List zq} (h:L.Pairwise λa b=>Op.bytesLess a b=true):zqK L=L:=by
 refine r9 (cf:=λa b=>if Op.bytesLess a b=true then -1 else 1) (zbU L) ((zkM L).imp ?_) (h.imp ?_) ?_
 ·simp_all
 ·intro a b k o;split at o
  ·rename_i p;have:=xW k p;rw [qR] at this;cases this
  ·omega
 ·intro x y t r s o;rcases eC x y with e | e | e
  ·exact e
  ·simp_all
  ·simp_all
def zjU (L:List zq) (d:zq):List zq:=if (L.any λy=>decide (y=d))=true then L else L.takeWhile (λy=>Op.bytesLess y d)++([d]++L.dropWhile λy=>Op.bytesLess y d)
theorem zlm (L:List zq) (d x:zq):x ∈ zjU L d ↔ x=d \/ x ∈ L:=by
 unfold zjU;split
 ·simp_all
 ·have h:x ∈ L ↔ x ∈ L.takeWhile (λy=>Op.bytesLess y d) \/ x ∈ L.dropWhile (λy=>Op.bytesLess y d):=by
   rw [<- lj,lO]
  grind
theorem znt {L:List zq} (d:zq) (h:L.Pairwise λa b=>Op.bytesLess a b=true):(zjU L d).Pairwise λa b=>Op.bytesLess a b=true:=by
 unfold zjU;split
 ·exact h
 ·rename_i p;refine zlQ (lt:=λa b:zq=>Op.bytesLess a b) (λ_ _ _=>xW) h λy o=>?_;rcases eC y d with rfl | k | k
  ·simp_all
  ·simp_all
  ·simp_all
def zf4 (L ds:List zq):List zq:=ds.foldl zjU L
theorem zaM:∀(ds L:List zq) (x:zq),x ∈ zf4 L ds ↔ x ∈ ds \/ x ∈ L
 | [],L,x=>by simp [zf4]
 | d::ds,L,x=>by
  have:=zaM ds (zjU L d) x;simp only [zf4,jh] at this ⊢;rw [this,zlm]
  grind
theorem zck:∀(ds:List zq) {L:List zq},L.Pairwise (λa b=>Op.bytesLess a b=true)->(zf4 L ds).Pairwise λa b=>Op.bytesLess a b=true
 | [],_,h=>h
 | d::ds,_,h=>zck ds (znt d h)
theorem zns (ds:List zq):dn (zqK ds)=zf4 [] ds:=by
 refine uG (lt:=λa b=>Op.bytesLess a b=true) (λa=>by simp [qR]) (λ_ _ _=>xW) _ _ (zd0 (lt:=λa b=>Op.bytesLess a b=true) (λa b k=>?_) (λ_ _ _=>xW) _ (zkM _)) (zck ds List.Pairwise.nil) λx=>?_
 ·rcases eC a b with e | e | e
  ·simp_all
  ·simp_all
  ·simp_all
 ·rw [zfm,(zbU _).mem_iff,zaM];simp

def zid:List GC->List zq->List GC
 | t,[]=>t
 | t,s::p=>zid (match fu t s with | some x=>x.w5 | none=>[]) p
theorem znE (t:List GC) (s:zq):((xT t s).bind λk=>(some (.gV k.1.w5):Option (Out (List zq) (List GC))))=some (.gV (match fu t s with | some x=>x.w5 | none=>[])):=by
 rw [oH];cases fu t s <;> rfl
theorem ziP:∀(p:List zq) (n:Nat) (t:List GC),zf (λ(u:Nat) (k:zq) (o:(List GC))=>(((xT o k).bind λr=>some (.gV r.1.w5)):Option (Out (List zq) (List GC)))) p n t=some (.inr (zid t p))
 | [],_,_=>rfl
 | s::p,n,t=>by
  simp only [zf,znE t s,zid];exact ziP p (n+1) _
theorem zjo {α β ρ:Type} (f:α->β):∀(L:List α) (n:Nat) (A:List β),A.length+L.length<=16777216->zf (λ(_:Nat) (x:α) (s:List β)=>((zQ ((s).length+(([f x]:List β)).length<=lim) (some (.gV (s++([f x]:List β))))):Option (Out ρ (List β)))) L n A=some (.inr (A++L.map f))
 | [],n,A,_=>by simp [zf]
 | x::r,n,A,h=>by
  simp only [m3] at h;have k:zQ (A.length+([f x]:List β).length<=lim) (some (.gV (A++[f x])):Option (Out ρ (List β)))=some (.gV (A++[f x])):=ze (by simp [lim];omega);simp only [zf,k];rw [zjo f r (n+1) (A++[f x]) (by simp;omega)];simp
theorem lpW {ρ:Type} {f:σ->Option (Out ρ σ)} {rest:σ->Option ρ} {u:σ} {P:ρ->Prop} (o k:σ->Prop) (t:σ->Nat) (hi:o u) (h:∀s,o s->(∃p,f s=some (.brk p)/\k p) \/ ∃p,f s=some (.gV p)/\o p/\t p < t s) (w:∀s,k s->∃r,rest s=some r/\P r):∃r,lp (zY f u) rest=some r/\P r:=by
 obtain ⟨p,e,v⟩:=w9 o k t h _ u rfl hi
 simp_all
theorem lpN {τ ρ:Type} {f:σ->Option (Out (Out ρ τ) σ)} {rest:σ->Option (Out ρ τ)} {u:σ} {P:τ->Prop} (o k:σ->Prop) (t:σ->Nat) (hi:o u) (h:∀s,o s->(∃p,f s=some (.brk p)/\k p) \/ ∃p,f s=some (.gV p)/\o p/\t p < t s) (w:∀s,k s->∃r,rest s=some (.gV r)/\P r):∃r,lp (zY f u) rest=some (.gV r)/\P r:=by
 obtain ⟨p,e,v⟩:=w9 o k t h _ u rfl hi
 simp_all
theorem aj {α:Type} {L:List α} {k:Nat} (h:k < L.length):zS L (k:Int)=some L[k]:=by
 unfold zS
 simp_all
theorem zbr {α:Type} (f:α->Nat) {L:List α} {k:Nat} (h:k < L.length):((L.take (k+1)).map f).sum=((L.take k).map f).sum+f L[k]:=by
 rw [ka,s5 h]
 grind
theorem zel {α:Type} (f:α->Nat) (L:List α) (k:Nat):((L.take k).map f).sum<=(L.map f).sum:=by
 have e:(L.map f).sum=((L.take k).map f).sum+((L.drop k).map f).sum:=by rw [<- List.sum_append,<- ki,kX]
 omega
theorem ziY {ρ:Type}:∀(L:List GF) (i:Nat) (s:Int),0<=s->s+((L.map GF.bk).sum:Nat)<=1099511627776->∃v,zf (λ(_:Nat) (p:GF) (k:Int)=>(some (.gV (IntKind.wrap .i64 ((IntKind.wrap .i64 (k+(1:Int)))+((p.text).length:Int)))):Option (Out ρ Int))) L i s=some (.inr v)/\s+L.length<=v/\v<=s+((L.map GF.bk).sum:Nat)
 | [],_,s,_,_=>⟨s,rfl,by simp,by simp⟩
 | x::L,i,s,h0,h1=>by
  simp only [ld,jO] at h1 ⊢;have t:x.text.length+1<=GF.bk x:=by unfold GF.bk;omega
  have o:IntKind.wrap .i64 (s+(1:Int))=s+1:=wW (by omega);have r:IntKind.wrap .i64 (s+1+(x.text.length:Int))=s+1+x.text.length:=wW (by omega);obtain ⟨v,e,u,w⟩:=ziY (ρ:=ρ) L (i+1) (s+1+x.text.length) (by omega) (by omega);exact ⟨v,by simp only [zf,o,r];exact e,by grind,by omega⟩
def lw (l:GE):Nat:=1+l.y4.length+l.x4.length
def d5 (t:List GC):Nat:=((zw [] t).map λr=>lw r.leaf).sum
def rl (x:GC):Nat:=((pg [] x).map λr=>lw r.leaf).sum
theorem zkU (a:List zq) (t:List GC):((zw a t).map λr=>lw r.leaf).sum=d5 t:=by
 have:=zbw t a [];rw [ko] at this;rw [this,ji];rfl
theorem zib {α β:Type} (g:α->List β) (w:β->Nat):∀L:List α,((L.flatMap g).map w).sum=(L.map λx=>((g x).map w).sum).sum
 | []=>rfl
 | x::r=>by
  have:=zib g w r
  simp_all
theorem zpg (t:List GC):d5 t=(t.map rl).sum:=by
 unfold d5;rw [xc,zib];rfl
theorem ztt (x:GC):rl x=(x.leaves.map lw).sum+d5 x.w5:=by
 unfold rl;rw [wJ,ki,List.sum_append,zkU,ji];rfl
theorem zkQ:∀(n:Nat) (t:List GC) (d:Int),GC.fC t < n->Small t->0<=d->d+GC.fC t<=10->∃v,xC n t d=some v/\((d5 t:Nat):Int)<=v/\v<=(GC.eV t:Int)
 | 0,_,_,h,_,_,_=>by omega
 | n+1,t,d,h,hs,h0,hd=>by
  unfold xC;have hl:=hs.len;have hB:(t.map GC.bk).sum<=16777216:=by rw [<- GC.dQ];exact hs.2
  refine lpW (λs=>∃k:Nat,s.2=(k:Int)/\k<=t.length/\(((t.take k).map rl).sum:Int)<=s.1/\s.1<=(((t.take k).map GC.bk).sum:Int)) (λs=>((t.map rl).sum:Int)<=s.1/\s.1<=((t.map GC.bk).sum:Int)) (λs=>t.length - s.2.toNat) ⟨0,rfl,lX _,by simp,by simp⟩ ?_ (λs hs=>⟨s.1,rfl,by rw [zpg];exact hs.1,by rw [GC.dQ];exact hs.2⟩)
  rintro ⟨a,i⟩ ⟨k,p,Y,Q,K⟩
  dsimp only at p Q K ⊢;subst p;by_cases hlt:k < t.length
  ·right;have D:t[k] ∈ t:=j0 hlt;have H:=hs.leaves D;have O:=tR D;have E:=vp t[k];have U:IntKind.wrap .i64 (d+(1:Int))=d+1:=wW (by omega);obtain ⟨v,e,v1,v2⟩:=zkQ n t[k].w5 (d+1) (by omega) (hs.w5 D) (by omega) (by omega);rw [lc (by simp;omega)];simp only [aj hlt,tb,U,e];have s1:=zbr GC.bk hlt;have s2:=zbr rl hlt;have s3:=zel GC.bk t (k+1);have s4:=zel rl t k;have V:=za4 t[k];have R:=ztt t[k];have z0:(0:Int)<=a:=by omega
   have G:IntKind.wrap .i64 (a+(1:Int))=a+1:=wW (by omega);have W:IntKind.wrap .i64 (a+1+(t[k].name.length:Int))=a+1+t[k].name.length:=wW (by omega);have I:IntKind.wrap .i64 (a+1+t[k].name.length+v)=a+1+t[k].name.length+v:=wW (by omega);have F:IntKind.wrap .i64 ((k:Int)+(1:Int))=((k+1:Nat):Int):=(wW (by omega)).trans (by omega);simp only [G,W,I,F];obtain ⟨c0,u⟩:∃c0,a+1+t[k].name.length+v=c0:=⟨_,rfl⟩
   rw [u];refine Exists.imp (λ_ h=>⟨h.1,h.2.1,h.2.2⟩) (lpN (P:=λr:Int×Int=>(∃k:Nat,r.2=(k:Int)/\k<=t.length/\(((t.take k).map rl).sum:Int)<=r.1/\r.1<=(((t.take k).map GC.bk).sum:Int))/\t.length - r.2.toNat < t.length - (k:Int).toNat) (λs=>∃q:Nat,s.2=(q:Int)/\q<=t[k].leaves.length/\c0+(((t[k].leaves.take q).map lw).sum:Nat)<=s.1/\s.1<=c0+(((t[k].leaves.take q).map GE.bk).sum:Nat)) (λs=>c0+((t[k].leaves.map lw).sum:Nat)<=s.1/\s.1<=c0+((t[k].leaves.map GE.bk).sum:Nat)) (λs=>t[k].leaves.length - s.2.toNat) ⟨0,rfl,lX _,by simp,by simp⟩ ?_ ?_)
   ·rintro ⟨b,j⟩ ⟨q,o,Z,z,C⟩
    dsimp only at o z C ⊢;subst o;have u3:=zel GE.bk t[k].leaves q;by_cases hql:q < t[k].leaves.length
    ·right;rw [lc (lN (by omega))];simp only [aj hql,tb];have u1:=zbr GE.bk hql;have u5:=zbr lw hql;have u6:lw t[k].leaves[q]=1+t[k].leaves[q].y4.length+t[k].leaves[q].x4.length:=rfl;have u2:=zel GE.bk t[k].leaves (q+1);have u4:(t[k].leaves[q].y4.map GF.bk).sum+t[k].leaves[q].x4.length+t[k].leaves[q].text.length+1<=GE.bk t[k].leaves[q]:=by
      have:=zfj t[k].leaves[q].x4;unfold GE.bk;omega
     have J:IntKind.wrap .i64 (b+(1:Int))=b+1:=wW (by omega);have X:IntKind.wrap .i64 (b+1+(t[k].leaves[q].text.length:Int))=b+1+t[k].leaves[q].text.length:=wW (by omega);have M:IntKind.wrap .i64 (b+1+t[k].leaves[q].text.length+(t[k].leaves[q].x4.length:Int))=b+1+t[k].leaves[q].text.length+t[k].leaves[q].x4.length:=wW (by omega);have S:IntKind.wrap .i64 ((q:Int)+(1:Int))=((q+1:Nat):Int):=(wW (by omega)).trans (by omega);simp only [J,X,M,S];obtain ⟨w,N,x1,x2⟩:=ziY (ρ:=Out (Out Int (Int×Int)) (Int×Int)) t[k].leaves[q].y4 0 (b+1+t[k].leaves[q].text.length+t[k].leaves[q].x4.length) (by omega) (by omega);rw [N,yL];exact ⟨_,rfl,⟨q+1,rfl,by omega,by omega,by omega⟩,by omega⟩
    ·left;rw [lq (by simp;omega)]
     grind
   ·rintro ⟨b,j⟩ ⟨z,C⟩
    dsimp only at z C ⊢;refine ⟨_,rfl,⟨k+1,rfl,by omega,?_,?_⟩,by omega⟩
    ·omega
    ·omega
  ·left;rw [lq (by simp;omega)]
   grind
theorem zqs:∀(t:List GC) (d:Nat),d<=2->uJ d t=true->GC.fC t<=3 - d:=by
 refine qE (λd _ _=>by simp [GC.fC]) ?_;intro x r D u d hd s;rw [xe,l8,tr,<- xe] at s;obtain ⟨k,o⟩:=s;have C:=u d hd o;obtain ⟨z,v,w⟩:=wC k;have hs:=vp x;have p:GC.fC x.w5<=2 - d:=by
  by_cases h0:x.w5=[]
  ·rw [h0];simp [GC.fC]
  ·unfold gY at v
   grind
 simp only [GC.fC];omega

def wc (a b:GK):Bool:=if a.e.time=b.e.time/\a.e.z6=b.e.z6 then decide (a.bX < b.bX) else if a.e.time ≠ b.e.time then decide (a.e.time < b.e.time) else gU a.e.z6 b.e.z6
theorem zff (a:GK):wc a a=false:=by simp [wc]
theorem zoS {c:GK} (s:wc a b=true) (p:wc b c=true):wc a c=true:=by
 have v:=@sE a.e.z6 b.e.z6 c.e.z6;have r:=ul a.e.z6;have u:=ec a.e.z6 b.e.z6;have k:=@sE b.e.z6 a.e.z6 b.e.z6;have t:=ul b.e.z6;have o:=ul c.e.z6;unfold wc at *
 grind
theorem zl7 (k:wc a b=false) (p:wc b a=false):a.e.time=b.e.time/\a.e.z6=b.e.z6/\a.bX=b.bX:=by
 have o:=ec a.e.z6 b.e.z6;unfold wc at *
 grind
theorem zbL (h:wc a b=true):wc b a=false:=by
 cases e:wc b a with
 | false=>rfl
 | true=>have:=zoS h e;rw [zff] at this;cases this
theorem zjb {c:GK} (o:wc b a=false) (k:wc c b=false):wc c a=false:=by
 cases e:wc c a with
 | false=>rfl
 | true =>
  cases e2:wc a b with
  | true=>have:=zoS e e2;rw [k] at this;cases this
  | false =>
   obtain ⟨p,s,r⟩:=zl7 e2 o;have:wc c b=true:=by
    unfold wc at e ⊢
    simp_all
   simp_all
def swp (h:List GK) (i j:Nat):List GK:=(h.set i (h.getD j default)).set j (h.getD i default)
def Hup (h:List GK) (n j:Nat):Prop:=(∀c,c < n->0 < c->c ≠ j->wc (h.getD c default) (h.getD ((c - 1) / 2) default)=false)/\∀c,c < n->0 < c->(c - 1) / 2=j->0 < j->wc (h.getD c default) (h.getD ((j - 1) / 2) default)=false
def Hdn (h:List GK) (n i:Nat):Prop:=(∀c,c < n->0 < c->(c - 1) / 2 ≠ i->wc (h.getD c default) (h.getD ((c - 1) / 2) default)=false)/\∀c,c < n->0 < c->(c - 1) / 2=i->0 < i->wc (h.getD c default) (h.getD ((i - 1) / 2) default)=false
def Hp (h:List GK) (n:Nat):Prop:=∀c,c < n->0 < c->wc (h.getD c default) (h.getD ((c - 1) / 2) default)=false
theorem zen (h:List GK) (i j:Nat):(swp h i j).length=h.length:=by simp [swp]
theorem zia (hi:i < h.length) (k:j < h.length) (c:Nat):(swp h i j).getD c default=if c=j then h.getD i default else if c=i then h.getD j default else h.getD c default:=by
 unfold swp
 grind
theorem zem (hi:i < h.length) (k:j < h.length):(swp h i j).Perm h:=by
 unfold swp
 grind
theorem zo6 (z:n<=h.length) (v:j < n) (h0:0 < j) (s:wc (h.getD j default) (h.getD ((j - 1) / 2) default)=true) (H:Hup h n j):Hup (swp h ((j - 1) / 2) j) n ((j - 1) / 2):=by
 obtain ⟨o,w⟩:=H;have k:=zia (h:=h) (i:=(j - 1) / 2) (j:=j) (by omega) (by omega);refine ⟨λc p c0 r=>?_,λc p c0 r u=>?_⟩
 ·rw [k,k];by_cases e:c=j
  ·subst e;rw [lc rfl,lq (by omega),lc rfl];exact zbL s
  ·rw [lq e,lq (by omega)];by_cases e2:(c - 1) / 2=j
   ·simp_all
   ·rw [lq e2];by_cases e3:(c - 1) / 2=(j - 1) / 2
    ·rw [lc e3];have:=o c p c0 e;rw [e3] at this;exact zjb (zbL s) this
    ·simp_all
 ·rw [k,k];have t:=o ((j - 1) / 2) (by omega) u (by omega);by_cases e:c=j
  ·subst e;rw [lc rfl,lq (by omega),lq (by omega)];exact t
  ·rw [lq e,lq (by omega),lq (by omega),lq (by omega)];have:=o c p c0 e;rw [r] at this;exact zjb t this
theorem zkC (H:Hup h n j) (hs:j=0 \/ wc (h.getD j default) (h.getD ((j - 1) / 2) default)=false):Hp h n:=λc k c0=>by
 by_cases e:c=j
 ·grind
 ·exact H.1 c k c0 e
theorem zqr (z:n<=h.length) (u:j < n) (h0:0 < j) (p:(j - 1) / 2=i) (r:wc (h.getD j default) (h.getD i default)=true) (t:∀c,c < n->0 < c->(c - 1) / 2=i->wc (h.getD c default) (h.getD j default)=false) (H:Hdn h n i):Hdn (swp h i j) n j:=by
 obtain ⟨w,v⟩:=H;have k:=zia (h:=h) (i:=i) (j:=j) (by omega) (by omega);refine ⟨λc s c0 o=>?_,λc s c0 o _=>?_⟩
 ·rw [k,k];by_cases e:c=j
  ·subst e;rw [lc rfl,lq (by omega),lc (by omega)];exact zbL r
  ·rw [lq e,lq o];by_cases e2:(c - 1) / 2=i
   ·grind
   ·rw [lq e2];by_cases e3:c=i
    ·simp_all
    ·simp_all
 ·rw [k,k,p]
  grind
theorem zmg (H:Hdn h n i) (hs:∀c,c < n->0 < c->(c - 1) / 2=i->wc (h.getD c default) (h.getD i default)=false):Hp h n:=λc k c0=>by
 by_cases e:(c - 1) / 2=i
 ·simp_all
 ·exact H.1 c k c0 e
theorem zqb (H:Hp h n):∀c,c < n->wc (h.getD c default) (h.getD 0 default)=false:=by
 intro c
 induction c using Nat.strongRecOn with
 | _ c ih =>
  intro k;rcases iD c with rfl | h0
  ·exact zff _
  ·exact zjb (ih ((c - 1) / 2) (by omega) (by omega)) (H c k h0)

noncomputable def upF (v235:List GK):Int×List GK->Option (Out (List GK) (Int×List GK)):=(λ(s2:Int×(List GK))=>((zQ ((s2.2).length=(v235).length) (((if (((IntKind.wrap .i64 (Int.tdiv (IntKind.wrap .i64 (s2.1 - (1:Int))) (2:Int)))==s2.1)==false)=true then yx s2.2 s2.1 (IntKind.wrap .i64 (Int.tdiv (IntKind.wrap .i64 (s2.1 - (1:Int))) (2:Int))) else some default).bind λv298=>(if (((IntKind.wrap .i64 (Int.tdiv (IntKind.wrap .i64 (s2.1 - (1:Int))) (2:Int)))==s2.1) || (!v298))=true then some (.brk (s2.1,s2.2)) else ((((zS s2.2 s2.1).bind λy305=>((zS s2.2 (IntKind.wrap .i64 (Int.tdiv (IntKind.wrap .i64 (s2.1 - (1:Int))) (2:Int)))).bind λy306=>((zS s2.2 (IntKind.wrap .i64 (Int.tdiv (IntKind.wrap .i64 (s2.1 - (1:Int))) (2:Int)))).bind λy307=>((zS (s2.2.set (IntKind.wrap .i64 (Int.tdiv (IntKind.wrap .i64 (s2.1 - (1:Int))) (2:Int))).toNat y305) s2.1).bind λy308=>some ((s2.2.set (IntKind.wrap .i64 (Int.tdiv (IntKind.wrap .i64 (s2.1 - (1:Int))) (2:Int))).toNat y305).set s2.1.toNat y306))))):Option (List GK)).bind λv300=>(zQ ((v300).length=(v235).length) (some (.gV ((IntKind.wrap .i64 (Int.tdiv (IntKind.wrap .i64 (s2.1 - (1:Int))) (2:Int))),v300))))))))):Option (Out _ (Int×(List GK)))))
noncomputable def zme (s2:List GJ×List GK) (v1220:Int):Int×List GK->Option (Out (Bool×List GK) (Int×List GK)):=(λ(s3:Int×(List GK))=>((zQ ((s3.2).length=(s2.2).length) ((if ((decide ((IntKind.wrap .i64 ((IntKind.wrap .i64 ((2:Int) * s3.1))+(1:Int))) >= (IntKind.wrap .i64 (v1220 - (1:Int))))) || (decide ((IntKind.wrap .i64 ((IntKind.wrap .i64 ((2:Int) * s3.1))+(1:Int))) < (0:Int))))=true then some (.brk (s3.1,s3.2)) else ((if ((decide ((IntKind.wrap .i64 ((IntKind.wrap .i64 ((IntKind.wrap .i64 ((2:Int) * s3.1))+(1:Int)))+(1:Int))) < (IntKind.wrap .i64 (v1220 - (1:Int)))))==true)=true then yx s3.2 (IntKind.wrap .i64 ((IntKind.wrap .i64 ((IntKind.wrap .i64 ((2:Int) * s3.1))+(1:Int)))+(1:Int))) (IntKind.wrap .i64 ((IntKind.wrap .i64 ((2:Int) * s3.1))+(1:Int))) else some default).bind λv1314=>(if ((decide ((IntKind.wrap .i64 ((IntKind.wrap .i64 ((IntKind.wrap .i64 ((2:Int) * s3.1))+(1:Int)))+(1:Int))) < (IntKind.wrap .i64 (v1220 - (1:Int)))))&&v1314)=true then ((yx s3.2 (IntKind.wrap .i64 ((IntKind.wrap .i64 ((IntKind.wrap .i64 ((2:Int) * s3.1))+(1:Int)))+(1:Int))) s3.1).bind λv1316=>(if (!v1316)=true then some (.brk (s3.1,s3.2)) else ((((zS s3.2 (IntKind.wrap .i64 ((IntKind.wrap .i64 ((IntKind.wrap .i64 ((2:Int) * s3.1))+(1:Int)))+(1:Int)))).bind λy1323=>((zS s3.2 s3.1).bind λy1324=>((zS s3.2 s3.1).bind λy1325=>((zS (s3.2.set s3.1.toNat y1323) (IntKind.wrap .i64 ((IntKind.wrap .i64 ((IntKind.wrap .i64 ((2:Int) * s3.1))+(1:Int)))+(1:Int)))).bind λy1326=>some ((s3.2.set s3.1.toNat y1323).set (IntKind.wrap .i64 ((IntKind.wrap .i64 ((IntKind.wrap .i64 ((2:Int) * s3.1))+(1:Int)))+(1:Int))).toNat y1324))))):Option (List GK)).bind λv1318=>(zQ ((v1318).length=(s2.2).length) (some (.gV ((IntKind.wrap .i64 ((IntKind.wrap .i64 ((IntKind.wrap .i64 ((2:Int) * s3.1))+(1:Int)))+(1:Int))),v1318))))))) else ((yx s3.2 (IntKind.wrap .i64 ((IntKind.wrap .i64 ((2:Int) * s3.1))+(1:Int))) s3.1).bind λv1327=>(if (!v1327)=true then some (.brk (s3.1,s3.2)) else ((((zS s3.2 (IntKind.wrap .i64 ((IntKind.wrap .i64 ((2:Int) * s3.1))+(1:Int)))).bind λy1334=>((zS s3.2 s3.1).bind λy1335=>((zS s3.2 s3.1).bind λy1336=>((zS (s3.2.set s3.1.toNat y1334) (IntKind.wrap .i64 ((IntKind.wrap .i64 ((2:Int) * s3.1))+(1:Int)))).bind λy1337=>some ((s3.2.set s3.1.toNat y1334).set (IntKind.wrap .i64 ((IntKind.wrap .i64 ((2:Int) * s3.1))+(1:Int))).toNat y1335))))):Option (List GK)).bind λv1329=>(zQ ((v1329).length=(s2.2).length) (some (.gV ((IntKind.wrap .i64 ((IntKind.wrap .i64 ((2:Int) * s3.1))+(1:Int))),v1329)))))))))))):Option (Out _ (Int×(List GK)))))
noncomputable def zps:List GJ×List GK->Option (Out (List GJ×List GK) (List GJ×List GK)):=(λ(s2:(List GJ)×(List GK))=>(((some (((s2.2).length:Nat):Int):Option Int).bind λv1089=>(if (decide (v1089 > (0:Int)))=true then ((((some (((s2.2).length:Nat):Int):Option Int).bind λv1220=>((((zS s2.2 (IntKind.wrap .i64 (v1220 - (1:Int)))).bind λy1228=>((zS s2.2 (0:Int)).bind λy1229=>((zS s2.2 (0:Int)).bind λy1230=>((zS (s2.2.set (0:Int).toNat y1228) (IntKind.wrap .i64 (v1220 - (1:Int)))).bind λy1231=>some ((s2.2.set (0:Int).toNat y1228).set (IntKind.wrap .i64 (v1220 - (1:Int))).toNat y1229))))):Option (List GK)).bind λv1223=>(zQ ((v1223).length=(s2.2).length) (((lp (zY (zme s2 v1220) ((0:Int),v1223)) λ(s3:Int×(List GK))=>some ((decide (s3.1 > (0:Int))),s3.2)):Option (Bool×(List GK))).bind λv1232=>(zQ ((v1232.2).length=(s2.2).length) ((((zS v1232.2 (IntKind.wrap .i64 ((((s2.2).length:Nat):Int) - (1:Int)))).bind λy1343=>((fL v1232.2 (0:Int) (IntKind.wrap .i64 ((((s2.2).length:Nat):Int) - (1:Int)))).bind λm1344=>some (y1343,m1344))):Option (GK×(List GK))).bind λv1338=>some (v1338.1,v1338.2))))))):Option (GK×(List GK))).bind λv1093=>(zQ ((s2.1).length+(([v1093.1.e]:List GJ)).length<=lim) (some (.gV ((s2.1++([v1093.1.e]:List GJ)),v1093.2))))) else some (.brk (s2.1,s2.2)))):Option (Out _ ((List GJ)×(List GK)))))
noncomputable def znf:Nat->GJ->List GK->Option (Out (List GJ) (List GK)):=(λ(n1:Nat) (x1:GJ) (s1:(List GK))=>(((oO x1).bind λv158=>(((((zQ ((s1).length+(([(GK.mk v158 (n1:Int))]:List GK)).length<=lim) (some (s1++([(GK.mk v158 (n1:Int))]:List GK)))):Option (List GK)).bind λv235=>((some (((v235).length:Nat):Int):Option Int).bind λv238=>(((lp (zY (upF v235) ((IntKind.wrap .i64 (v238 - (1:Int))),v235)) λ(s2:Int×(List GK))=>some s2.2):Option (List GK)).bind λv241=>(zQ ((v241).length=(v235).length) (some v241))))):Option (List GK)).bind λv159=>some (.gV v159))):Option (Out _ (List GK))))
theorem znm (o:List GJ):tf o=(lp (zf znf o 0 ([]:List GK)) λ(p:(List GK))=>(((lp (zY zps (([]:List GJ),p)) λ(s2:(List GJ)×(List GK))=>some (s2.1,s2.2)):Option ((List GJ)×(List GK))).bind λk=>some k.1)):=rfl

theorem zcr {k:Nat} (hi:i < h.length) (o:k < h.length):yx h (i:Int) (k:Int)=some (wc (h.getD i default) (h.getD k default)):=by
 have p:h.getD i default=h[i]:=by simp_all
 have r:h.getD k default=h[k]:=by simp_all
 unfold yx;rw [aj hi,aj o,tb,tb,p,r,uh,tb];unfold wc;have:((h[i].e.time==h[k].e.time)&&(h[i].e.z6.zi.fj==h[k].e.z6.zi.fj&&(h[i].e.z6.zi.inc==h[k].e.z6.zi.inc&&(h[i].e.z6.seq==h[k].e.z6.seq&&true))))=decide (h[i].e.time=h[k].e.time/\h[i].e.z6=h[k].e.z6):=by
  rw [lQ];rcases h[i].e.z6 with ⟨⟨a,b⟩,c⟩
  rcases h[k].e.z6 with ⟨⟨t,u⟩,s⟩
  grind
 grind
theorem zrd (j:Nat) (k:j<=16777216):IntKind.wrap .i64 (Int.tdiv (IntKind.wrap .i64 ((j:Int) - 1)) 2)=(((j - 1) / 2:Nat):Int):=by
 rw [wW (n:=(j:Int) - 1) (by omega)];cases j with
 | zero=>rfl
 | succ j =>
  have:((j+1:Nat):Int) - 1=(j:Int):=by omega
  rw [this,show Int.tdiv (j:Int) 2=((j / 2:Nat):Int) from rfl,wW (by omega)];simp
theorem zo7 {v:List GK} (C:h.length=v.length) (D:v.length<=16777216) {j:Nat} (t:j < v.length) (H:Hup h v.length j):∃o,zY (upF v) ((j:Int),h)=some (.inr o)/\o.2.Perm h/\Hp o.2 v.length:=by
 refine w9 (f:=upF v) (λs=>∃j:Nat,s.1=(j:Int)/\j < v.length/\s.2.Perm h/\Hup s.2 v.length j) (λs=>s.2.Perm h/\Hp s.2 v.length) (λs=>s.1.toNat) ?_ _ _ rfl ⟨j,rfl,t,.refl _,H⟩
 rintro ⟨q,g⟩ ⟨j,rfl,t,k,H⟩
 dsimp only at k H ⊢;have u:g.length=v.length:=k.length_eq.trans C;unfold upF;dsimp only;rw [ze u,zrd j (by omega)];rcases iD j with rfl | h0
 ·left;exact ⟨(((0:Nat):Int),g),by simp,k,zkC H (.inl rfl)⟩
 ·have p:((((j - 1) / 2:Nat):Int)==(j:Int))=false:=by
   grind
  rw [p,lL,lc rfl,zcr (by omega) (by omega),tb,lR];cases hb:wc (g.getD j default) (g.getD ((j - 1) / 2) default) with
  | false=>left;exact ⟨((j:Int),g),by simp,k,zkC H (.inr hb)⟩
  | true =>
   right;have z:zS g (j:Int)=some (g.getD j default):=by rw [aj (by omega)];simp [lz,s5 (show j < g.length by omega)]
   have w:zS g (((j - 1) / 2:Nat):Int)=some (g.getD ((j - 1) / 2) default):=by rw [aj (by omega)];simp [lz,s5 (show (j - 1) / 2 < g.length by omega)]
   have r:∃y,zS (g.set ((j - 1) / 2) (g.getD j default)) (j:Int)=some y:=⟨_,aj (by simp_all)⟩
   obtain ⟨y,r⟩:=r;have hs:((g.set ((j - 1) / 2) (g.getD j default)).set j (g.getD ((j - 1) / 2) default))=swp g ((j - 1) / 2) j:=rfl;refine ⟨((((j - 1) / 2:Nat):Int),swp g ((j - 1) / 2) j),?_,⟨(j - 1) / 2,rfl,by omega,(zem (by omega) (by omega)).trans k,zo6 (by omega) t h0 hb H⟩,by omega⟩;simp only [lH,tx,lg,z,w,tb,nr,r,hs];rw [ze (by grind)]
theorem zq8 (i:Nat) (hi:i<=16777216):IntKind.wrap .i64 ((IntKind.wrap .i64 ((2:Int) * (i:Int)))+1)=((2 * i+1:Nat):Int):=by
 rw [wW (n:=(2:Int) * (i:Int)) (by omega),wW (by omega)];omega
theorem zmS (i:Nat) (hi:i<=16777216):IntKind.wrap .i64 (((2 * i+1:Nat):Int)+1)=((2 * i+2:Nat):Int):=by
 rw [wW (by omega)];omega
theorem zmz (h:j < g.length):zS g (j:Int)=some (g.getD j default):=by
 rw [aj h];simp [lz,s5 h]
theorem zbu (hi:i < g.length) (o:j < g.length):((zS g (j:Int)).bind λk=>(zS g (i:Int)).bind λr=>(zS g (i:Int)).bind λ_=>(zS (g.set (i:Int).toNat k) (j:Int)).bind λ_=>some ((g.set (i:Int).toNat k).set (j:Int).toNat r))=some (swp g i j):=by
 obtain ⟨y,p⟩:∃y,zS (g.set i (g.getD j default)) (j:Int)=some y:=⟨_,aj (by simp_all)⟩
 simp only [zmz hi,zmz o,tb,nr,p];rfl
def c6 (g:List GK) (m i:Nat):Nat:=if 2 * i+2 < m/\wc (g.getD (2 * i+2) default) (g.getD (2 * i+1) default)=true then 2 * i+2 else 2 * i+1
theorem zkb (k:g.length=s2.2.length) (s:s2.2.length=m+1) (t:m<=8388600) (hi:i<=m) :
  zme s2 ((m+1:Nat):Int) ((i:Int),g)=if m<=2 * i+1 then some (.brk ((i:Int),g)) else if wc (g.getD (c6 g m i) default) (g.getD i default)=true then some (.gV (((c6 g m i:Nat):Int),swp g i (c6 g m i))) else some (.brk ((i:Int),g)):=by
 unfold zme;dsimp only;rw [ze k];have r:IntKind.wrap .i64 (((m+1:Nat):Int) - 1)=(m:Int):=by rw [wW (by omega)];omega
 simp only [zq8 i (by omega),zmS i (by omega),r];by_cases hc:m<=2 * i+1
 ·grind
 ·rw [lq (by simp;omega),lq hc];unfold c6;by_cases h2:2 * i+2 < m
  ·have o:decide (((2 * i+2:Nat):Int) < (m:Int))=true:=by simp;omega
   simp only [o,lL,nv,zcr (show 2 * i+2 < g.length by omega) (show 2 * i+1 < g.length by omega),tb,lA];cases hb:wc (g.getD (2 * i+2) default) (g.getD (2 * i+1) default) with
   | true =>
    simp only [h2,jZ,nv,zcr (show 2 * i+2 < g.length by omega) (show i < g.length by omega),tb,zbu (show i < g.length by omega) (show 2 * i+2 < g.length by omega)];rw [ze (by rw [zen];exact k)]
    grind
   | false =>
    simp only [h2,and_false,tx,lg,zcr (show 2 * i+1 < g.length by omega) (show i < g.length by omega),tb,zbu (show i < g.length by omega) (show 2 * i+1 < g.length by omega)];rw [ze (by rw [zen];exact k)]
    grind
  ·have o:decide (((2 * i+2:Nat):Int) < (m:Int))=false:=by simp;omega
   have p:¬ (2 * i+2 < m/\wc (g.getD (2 * i+2) default) (g.getD (2 * i+1) default)=true):=by omega
   simp only [o,p,ii,tx,(show (false==true)=false from rfl),lg,tb,zcr (show 2 * i+1 < g.length by omega) (show i < g.length by omega),zbu (show i < g.length by omega) (show 2 * i+1 < g.length by omega)];rw [ze (by rw [zen];exact k)]
   grind
theorem zmd (C:g.length=s2.2.length) (D:s2.2.length=m+1) (F:m<=8388600) (H:Hdn g m 0) :
  ∃r,zY (zme s2 ((m+1:Nat):Int)) ((0:Int),g)=some (.inr r)/\r.2.Perm g/\Hp r.2 m/\r.2.getD m default=g.getD m default:=by
 refine w9 (f:=zme s2 ((m+1:Nat):Int)) (λs=>∃i:Nat,s.1=(i:Int)/\i<=m/\s.2.Perm g/\Hdn s.2 m i/\s.2.getD m default=g.getD m default) (λs=>s.2.Perm g/\Hp s.2 m/\s.2.getD m default=g.getD m default) (λs=>m - s.1.toNat) ?_ _ _ rfl ⟨0,rfl,lX _,.refl _,H,rfl⟩
 rintro ⟨q,u⟩ ⟨i,rfl,hi,p,H,k⟩
 dsimp only at p H k ⊢;have E:u.length=m+1:=by rw [p.length_eq,C,D]
 rw [zkb (p.length_eq.trans C) D F hi];by_cases hc:m<=2 * i+1
 ·left;exact ⟨((i:Int),u),by simp_all,p,zmg H λc w t z=>by omega,k⟩
 ·rw [lq hc];have v:c6 u m i < m/\0 < c6 u m i/\(c6 u m i - 1) / 2=i/\i < c6 u m i:=by
   unfold c6;split <;> omega
  have o:∀c,c < m->0 < c->(c - 1) / 2=i->wc (u.getD c default) (u.getD (c6 u m i) default)=false:=by
   intro c w t z;have:c=2 * i+1 \/ c=2 * i+2:=by omega
   unfold c6;split
   ·rename_i hh;rcases this with rfl | rfl
    ·exact zbL hh.2
    ·exact zff _
   ·rename_i hh;rcases this with rfl | rfl
    ·exact zff _
    ·simp_all
  cases hb:wc (u.getD (c6 u m i) default) (u.getD i default) with
  | true =>
   right;refine ⟨(((c6 u m i:Nat):Int),swp u i (c6 u m i)),by rfl,⟨c6 u m i,rfl,by omega,(zem (by omega) (by omega)).trans p,zqr (by omega) v.1 v.2.1 v.2.2.1 hb o H,?_⟩,by omega⟩;rw [zia (by omega) (by omega),lq (by omega),lq (by omega)];omega
  | false =>
   left;refine ⟨((i:Int),u),by rfl,p,zmg H λc w t z=>zjb hb (o c w t z),k⟩
theorem znO {x:GK} (h:x ∈ g):∃c,c < g.length/\x=g.getD c default:=by
 obtain ⟨c,k,rfl⟩:=je h;exact ⟨c,k,by simp_all⟩
theorem zkI (h:g.length=m+1):g=g.take m++[g.getD m default]:=by
 have e:g.getD m default=g[m]:=by simp_all
 rw [e];have:=kX m g;rw [iq (by omega),lZ (by omega)] at this
 simp_all
theorem zgq (g:List GK) {m c:Nat} (h:c < m):(g.take m).getD c default=g.getD c default:=by
 simp_all
theorem zi4 (g:List GK) (x:GK) {c:Nat} (h:c < g.length):(g++[x]).getD c default=g.getD c default:=by
 grind
theorem zle {out:List GJ} (u:g.length=m+1) (E:m<=8388600) (J:out.length<=8388600) (H:Hp g (m+1)) :
  ∃g',zps (out,g)=some (.gV (out++[(g.getD 0 default).e],g'))/\g'.length=m/\Hp g' m/\(g'++[g.getD 0 default]).Perm g:=by
 have o:=zen g 0 m;have r:=zia (h:=g) (i:=0) (j:=m) (by omega) (by omega);have hd:Hdn (swp g 0 m) m 0:=⟨λc w v F=>by
  rw [r,r,lq (by omega),lq (by omega),lq (by omega),lq F];exact H c (by omega) v,λc _ _ _ h=>by omega⟩
 obtain ⟨p,G,C,I,K⟩:=zmd (s2:=(out,g)) (g:=swp g 0 m) (m:=m) o u E hd;have k:p.2.getD m default=g.getD 0 default:=by grind
 have s:p.2.length=m+1:=by rw [C.length_eq,o,u]
 have D:IntKind.wrap .i64 (((m+1:Nat):Int) - 1)=(m:Int):=by rw [wW (by omega)];omega
 have t:=zbu (g:=g) (i:=0) (j:=m) (by omega) (by omega);simp only [nr,il,iQ] at t;refine ⟨p.2.take m,?_,by simp_all,λc w v=>by rw [zgq _ w,zgq _ (by omega)];exact I c w v,?_⟩
 ·unfold zps;simp only [tb,u,D];rw [lc (lN (by omega))];simp only [iQ,nr,t,tb];rw [ze (by rw [o,u]),G,yL,tb,ze s];dsimp only;have z:fL p.2 (0:Int) (m:Int)=some (p.2.take m):=by
   unfold fL
   grind
  rw [zmz (by omega),tb,z,tb,tb,tb];dsimp only;rw [ze (by simp [lim];omega),k]
 ·rw [<- k,<- zkI s];exact C.trans (zem (by omega) (by omega))
theorem zng {E:List GK} (F:E.length<=8388600) {h:List GK} (G:h.Perm E) (H:Hp h h.length) :
  ∃P:List GK,(∃u,zY zps (([]:List GJ),h)=some (.inr (P.map (·.e),u)))/\P.Perm E/\P.Pairwise λa b=>wc b a=false:=by
 have step:∀s:List GJ×List GK,(∃P:List GK,s.1=P.map (·.e)/\(P++s.2).Perm E/\Hp s.2 s.2.length/\P.Pairwise (λa b=>wc b a=false)/\∀a ∈ P,∀b ∈ s.2,wc b a=false) ->
   (∃k,zps s=some (.brk k)/\∃(P:List GK) (u:List GK),k=(P.map (·.e),u)/\P.Perm E/\P.Pairwise λa b=>wc b a=false) \/
   ∃k,zps s=some (.gV k)/\(∃P:List GK,k.1=P.map (·.e)/\(P++k.2).Perm E/\Hp k.2 k.2.length/\P.Pairwise (λa b=>wc b a=false)/\∀a ∈ P,∀b ∈ k.2,wc b a=false)/\k.2.length < s.2.length:=by
  rintro ⟨out,g⟩ ⟨P,rfl,w,o,D,C⟩
  dsimp only at w o C ⊢;have p:=w.length_eq;rw [ng] at p;cases hg:g.length with
  | zero =>
   left;have:g=[]:=lE hg;subst this;exact ⟨_,rfl,P,[],rfl,by simp_all,D⟩
  | succ m =>
   right;rw [hg] at o;obtain ⟨g',k1,k2,k3,z⟩:=zle (out:=P.map (·.e)) hg (by omega) (by simp;omega) o;have t:∀b ∈ g',b ∈ g:=λb v=>z.mem_iff.1 (by simp [v]);have h0:g.getD 0 default ∈ g:=z.mem_iff.1 (by simp);refine ⟨_,k1,⟨P++[g.getD 0 default],by simp,?_,by simp_all,?_,?_⟩,by simp_all⟩
   ·grind
   ·grind
   ·intro a r b v;rcases lj.1 r with r | r
    ·simp_all
    ·rw [lh] at r;subst r;obtain ⟨c,I,rfl⟩:=znO (t b v);exact zqb o c (by omega)
 obtain ⟨k,e,P,u,rfl,w,o⟩:=w9 (f:=zps) _ _ (λs=>s.2.length) step _ (([]:List GJ),h) rfl ⟨[],rfl,by grind,H,by simp,by simp⟩
 grind

def nE:Nat->List GJ->List GK
 | _,[]=>[]
 | n,e::r=>⟨e,(n:Int)⟩::nE (n+1) r
theorem zja:∀(n:Nat) (l:List GJ),(nE n l).map (·.e)=l
 | _,[]=>rfl
 | n,e::r=>by simp only [nE,ld,zja (n+1) r]
theorem znY (n:Nat) (l:List GJ):(nE n l).length=l.length:=by
 have:=congrArg List.length (zja n l)
 simp_all
theorem zl6:∀(n:Nat) (l:List GJ) (x:GK),x ∈ nE n l->(n:Int)<=x.bX
 | _,[],x,h=>by simp [nE] at h
 | n,e::r,x,h=>by
  rcases lG.1 h with rfl | h
  ·simp_all
  ·have:=zl6 (n+1) r x h;omega
theorem zl5:∀(n:Nat) (l:List GJ),(nE n l).Pairwise λa b=>a.bX < b.bX
 | _,[]=>by simp [nE]
 | n,e::r=>by
  simp only [nE,ll];exact ⟨λx k=>by have:=zl6 (n+1) r x k;show (n:Int) < _;omega,zl5 (n+1) r⟩
theorem zsy (k:e.op.path.length<=lim) (o:e.op.gX.length<=lim):oO e=some e:=by
 unfold oO;rw [mZ k,wF o];rfl
theorem zjR (D:g.length<=8388600) (w:e.op.path.length<=lim) (t:e.op.gX.length<=lim) (H:Hp g g.length) :
  ∃g',znf n e g=some (.gV g')/\g'.Perm (g++[⟨e,(n:Int)⟩])/\Hp g' g'.length:=by
 have o:(g++[(⟨e,(n:Int)⟩:GK)]).length=g.length+1:=by simp
 have k:Hup (g++[(⟨e,(n:Int)⟩:GK)]) (g++[(⟨e,(n:Int)⟩:GK)]).length g.length:=by
  rw [o];exact ⟨λc u p z=>by rw [zi4 g _ (by omega),zi4 g _ (by omega)];exact H c (by omega) p,λc u p z C=>by omega⟩
 obtain ⟨s,k1,k2,k3⟩:=zo7 (v:=g++[⟨e,(n:Int)⟩]) rfl (by omega) (j:=g.length) (by omega) k;have r:IntKind.wrap .i64 (((g.length+1:Nat):Int) - 1)=(g.length:Int):=by rw [wW (by omega)];omega
 refine ⟨s.2,?_,k2,by rw [k2.length_eq];exact k3⟩;unfold znf;simp only [zsy w t,tb];rw [ze (by simp [lim];omega),tb,o,r,k1,yL,tb,ze (by rw [k2.length_eq,o]),tb]
theorem zfZ:∀(r:List GJ) (g:List GK),(∀e ∈ r,e.op.path.length<=lim/\e.op.gX.length<=lim)->g.length+r.length<=8388600->Hp g g.length ->
  ∃h,zf znf r g.length g=some (.inr h)/\h.Perm (g++nE g.length r)/\Hp h h.length
 | [],g,_,_,H=>⟨g,rfl,by simp [nE],H⟩
 | e::r,g,he,hl,H=>by
  simp only [m3] at hl;obtain ⟨g',k1,k2,k3⟩:=zjR (n:=g.length) (by omega) (he e (by simp)).1 (he e (by simp)).2 H;have k:g'.length=g.length+1:=by rw [k2.length_eq];simp
  obtain ⟨h,t,p,o⟩:=zfZ r g' (λx s=>he x (by simp [s])) (by omega) k3;refine ⟨h,?_,?_,o⟩
  ·simp only [zf,k1]
   simp_all
  ·refine p.trans ?_;rw [k];simp only [nE]
   grind
theorem zgs {l:List GJ} (p:l.length<=8388600) (o:∀e ∈ l,e.op.path.length<=lim/\e.op.gX.length<=lim) :
  ∃P:List GK,tf l=some (P.map (·.e))/\P.Perm (nE 0 l)/\P.Pairwise λa b=>wc b a=false:=by
 obtain ⟨h,w,z,t⟩:=zfZ l [] o (by simp_all) (λc s v=>by simp at s);obtain ⟨P,⟨u,e⟩,k,r⟩:=zng (E:=nE 0 l) (by rw [znY];exact p) (h:=h) (by simp_all) t;refine ⟨P,?_,k,r⟩;rw [znm]
 simp_all
theorem znn {l:List GJ} {P M:List GK} (k:P.Perm (nE 0 l)) (u:M.Perm (nE 0 l)) (t:P.Pairwise λa b=>wc b a=false) (v:M.Pairwise λa b=>wc b a=false):P=M:=by
 refine r9 (cf:=λa b=>if wc a b=true then -1 else 1) (k.trans u.symm) (t.imp λ{a b} h=>by simp [h]) (v.imp λ{a b} h=>by simp [h]) λx y p o s r=>?_;have s:wc x y=false:=by
  grind
 have r:wc y x=false:=by
  grind
 obtain ⟨_,_,q⟩:=zl7 s r;have p:=k.mem_iff.1 p;have o:=k.mem_iff.1 o;obtain ⟨i,hi,rfl⟩:=je p;obtain ⟨j,z,rfl⟩:=je o;have w:=lK.1 (zl5 0 l)
 grind
theorem ziH (m:List (GA×Int)) (k d:GA) (v:Int):zG GA.fi 0 (ut GA.fi m k v) d=if d=k then v else zG GA.fi 0 m d:=by
 induction m with
 | nil=>simp only [ut,zG,zaW,so]
 | cons e r ih =>
  simp only [ut,zaW];by_cases h:k=e.1
  ·subst h;by_cases h2:d=e.1 <;> simp [zG,zaW,h2]
  ·by_cases h2:d=e.1
   ·subst h2;simp [zG,zaW,h,Ne.symm h]
   ·simp [zG,zaW,h,h2,ih]
theorem zgC {A B:List GA} (h:A.length+B.length<=16777216):qj [A,B]=some (A++B):=by
 have o:IntKind.wrap .i64 (0+(A.length:Int))=(A.length:Int):=by rw [wW (by omega)];omega
 have s:IntKind.wrap .i64 ((A.length:Int)+(B.length:Int))=((A.length+B.length:Nat):Int):=by rw [wW (by omega)];omega
 have r:uw [] ((A.length+B.length:Nat):Int)=some []:=by
  unfold uw;have k:IntKind.wrap .i64 ((0:Int) - ((0:Nat):Int))=0:=rfl;have p:IntKind.wrap .i64 (((A.length+B.length:Nat):Int) - 0)=((A.length+B.length:Nat):Int):=by simp_all
  rw [k,p,lq (by simp;omega)];by_cases h0:A.length+B.length=0
  ·simp_all
  ·rw [lc (by simp;omega),ze (by simp [lim];omega)];rfl
 unfold qj;simp only [zf,o];rw [lq (by simp)];simp only [s];rw [lq (by simp;omega)];simp only [yL,r,tb];rw [ze (by simp [lim];omega)];simp only [lC];rw [ze (by simp [lim];omega)];rfl
theorem zfo {A B:List GF} (h:A.length+B.length<=16777216):wH [A,B]=some (A++B):=by
 have o:IntKind.wrap .i64 (0+(A.length:Int))=(A.length:Int):=by rw [wW (by omega)];omega
 have s:IntKind.wrap .i64 ((A.length:Int)+(B.length:Int))=((A.length+B.length:Nat):Int):=by rw [wW (by omega)];omega
 have r:qH [] ((A.length+B.length:Nat):Int)=some []:=by
  unfold qH;have k:IntKind.wrap .i64 ((0:Int) - ((0:Nat):Int))=0:=rfl;have p:IntKind.wrap .i64 (((A.length+B.length:Nat):Int) - 0)=((A.length+B.length:Nat):Int):=by simp_all
  rw [k,p,lq (by simp;omega)];by_cases h0:A.length+B.length=0
  ·simp_all
  ·rw [lc (by simp;omega),ze (by simp [lim];omega)];rfl
 unfold wH;simp only [zf,o];rw [lq (by simp)];simp only [s];rw [lq (by simp;omega)];simp only [yL,r,tb];rw [ze (by simp [lim];omega)];simp only [lC];rw [ze (by simp [lim];omega)];rfl
def tN (T:List GA):List GF->List GF->List GF
 | _,[]=>[]
 | pre,x::r=>(if x.z6 ∈ pre.map (·.z6) \/ x.z6 ∈ T then [] else [x])++tN T (pre++[x]) r
theorem zdP (T:List GA):∀(A B pre:List GF),tN T pre (A++B)=tN T pre A++tN T (pre++A) B
 | [],B,pre=>by simp [tN]
 | x::A,B,pre=>by
  simp only [kg,tN,zdP T A B (pre++[x]),li,lC]
theorem zdO (T:List GA):∀(A pre:List GF),(∀x ∈ A,x.z6 ∉ pre.map (·.z6)/\x.z6 ∉ T)->(A.map (·.z6)).Nodup->tN T pre A=A
 | [],_,_,_=>rfl
 | x::A,pre,h,hn=>by
  have o:=h x (by simp);simp only [ld,iA] at hn;simp only [tN];rw [lq (by simp only [not_or];exact o),zdO T A (pre++[x]) (λy k=>⟨by
   have:=(h y (by simp [k])).1;simp only [ki,ld,kb,lj,lh,not_or];refine ⟨this,λe=>hn.1 ?_⟩;rw [<- e];exact List.mem_map_of_mem k,(h y (by simp [k])).2⟩) hn.2]
  rfl
theorem zdN (T:List GA):∀(B pre:List GF),(∀x ∈ B,x.z6 ∈ pre.map (·.z6))->tN T pre B=[]
 | [],_,_=>rfl
 | x::B,pre,h=>by
  simp only [tN];rw [lc (.inl (h x (by simp))),zdN T B (pre++[x]) (λy k=>by
   have:=h y (by simp [k]);simp only [ki,lj];exact .inl this)]
  rfl
noncomputable def zmu (v1:List GF) (tombs2:List GA):Nat->Nat->List (GA×Int)×List GF->Option (Out (List GF) (List (GA×Int)×List GF)):=(λ(n1:Nat) (_:Nat) (s1:List (GA×Int)×(List GF))=>(((zS v1 (n1:Int)).bind λy17=>((((if (((zG GA.fi (0:Int) (ut GA.fi s1.1 y17.z6 (IntKind.wrap .i64 ((zG GA.fi (0:Int) s1.1 y17.z6)+(1:Int)))) y17.z6)==(1:Int))==true)=true then xl tombs2 y17.z6 else some default).bind λv22=>(if (((zG GA.fi (0:Int) (ut GA.fi s1.1 y17.z6 (IntKind.wrap .i64 ((zG GA.fi (0:Int) s1.1 y17.z6)+(1:Int)))) y17.z6)==(1:Int))&&(!v22))=true then (zQ ((s1.2).length+(([y17]:List GF)).length<=lim) (some ((ut GA.fi s1.1 y17.z6 (IntKind.wrap .i64 ((zG GA.fi (0:Int) s1.1 y17.z6)+(1:Int)))),(s1.2++([y17]:List GF))))) else some ((ut GA.fi s1.1 y17.z6 (IntKind.wrap .i64 ((zG GA.fi (0:Int) s1.1 y17.z6)+(1:Int)))),s1.2))):Option (List (GA×Int)×(List GF))).bind λv18=>some (.gV (v18.1,v18.2)))):Option (Out _ (List (GA×Int)×(List GF)))))
theorem zqC (a0 p:List GF) (k:List GA):rU a0 p k=((wH ([a0,p]:List (List GF))).bind λo=>(zQ ((((o).length:Nat):Int)<=9223372036854775807) (lp (zf (zmu o k) (List.range (((((o).length:Nat):Int)).toNat)) 0 (([]:List (GA×Int)),([]:List GF))) λ(r:List (GA×Int)×(List GF))=>((qA (λx y=>te x y) r.2).bind λv25=>some v25)))):=rfl
theorem zgG {V:List GF} {T:List GA} (u:V.length<=16777216):∀(R:List Nat) (pre rest:List GF) (m:List (GA×Int)) (acc:List GF),V=pre++rest->R.length=rest.length->(∀d,zG GA.fi 0 m d=(((pre.map (·.z6)).count d:Nat):Int))->acc.length<=pre.length ->
  ∃p,zf (zmu V T) R pre.length (m,acc)=some (.inr (p,acc++tN T pre rest))
 | [],pre,rest,m,acc,h,hr,_,_=>by
  have:rest=[]:=lE hr.symm;subst this;exact ⟨m,by simp [zf,tN]⟩
 | z::R,pre,[],m,acc,h,hr,_,_=>by simp at hr
 | z::R,pre,x::rest,m,acc,h,hr,hm,ha=>by
  simp only [m3] at hr;have v:V.length=pre.length+(rest.length+1):=by rw [h];simp
  have hi:zS V (pre.length:Int)=some x:=by
   rw [aj (by omega)]
   simp_all
  have w:(pre.map (·.z6)).count x.z6<=pre.length:=by
   have:=List.count_le_length (a:=x.z6) (l:=pre.map (·.z6))
   simp_all
  have s:IntKind.wrap .i64 ((((pre.map (·.z6)).count x.z6:Nat):Int)+1)=(((pre.map (·.z6)).count x.z6+1:Nat):Int):=xF (by omega);have k:∀d,zG GA.fi 0 (ut GA.fi m x.z6 (((pre.map (·.z6)).count x.z6+1:Nat):Int)) d=((((pre++[x]).map (·.z6)).count d:Nat):Int):=λd=>by
   rw [ziH]
   grind
  have o:(pre++[x]).length=pre.length+1:=by simp
  have step:zmu V T pre.length z (m,acc)=some (.gV (ut GA.fi m x.z6 (((pre.map (·.z6)).count x.z6+1:Nat):Int),acc++(if x.z6 ∈ pre.map (·.z6) \/ x.z6 ∈ T then [] else [x]))):=by
   unfold zmu;simp only [hi,tb,hm,s,ziH,nv];by_cases h0:x.z6 ∈ pre.map (·.z6)
   ·grind
   ·have:(pre.map (·.z6)).count x.z6=0:=List.count_eq_zero.2 h0;rw [this];have t:(((0+1:Nat):Int)==(1:Int))=true:=rfl;rw [t,lL,lc rfl,pD,tb,lA];by_cases hT:x.z6 ∈ T
    ·grind
    ·have:(T.any λy=>decide (y=x.z6))=false:=by
      grind
     rw [this,lc (by simp),ze (by simp [lim];omega),lq (by simp_all)];simp
  obtain ⟨p,r⟩:=zgG u R (pre++[x]) rest _ (acc++(if x.z6 ∈ pre.map (·.z6) \/ x.z6 ∈ T then [] else [x])) (by rw [h];simp) (by omega) k (by grind);refine ⟨p,?_⟩;simp only [zf,step,tN];rw [o] at r;rw [r,li]
theorem zuY:te x y=some (if yc x y=true then -1 else 1):=by
 unfold te;rw [uh,tb];show (if yc x y=true then some (-1:Int) else some 1)=_
 grind
theorem zgF (z:L.length<=8388608) (u:L.Pairwise λa b=>yc a b=true) (p:(L.map (·.z6)).Nodup) (s:∀x ∈ L,x.z6 ∉ T):rU L L T=some L:=by
 rw [zqC,zfo (by omega),tb,ze (by simp;omega)];obtain ⟨v,e⟩:=zgG (V:=L++L) (T:=T) (by simp;omega) (List.range ((((L++L).length:Nat):Int)).toNat) [] (L++L) [] [] rfl (by simp;omega) (λd=>rfl) (by simp);have t:tN T [] (L++L)=L:=by
  rw [zdP,zdO T L [] (λx k=>⟨by simp,s x k⟩) p,zdN T L ([]++L) (λx k=>List.mem_map_of_mem k),ko]
 rw [t,lC] at e;have e:zf (zmu (L++L) T) (List.range ((((L++L).length:Nat):Int)).toNat) 0 ([],[])=some (.inr (v,L)):=e;rw [e,yL];dsimp only;have r:∀{x y:GF},x ∈ L->y ∈ L->x.z6=y.z6->x=y:=λ{x y} k o e=>by
  obtain ⟨i,hi,rfl⟩:=je k;obtain ⟨j,C,rfl⟩:=je o;have w:=lK.1 p
  grind
 rw [zbv (cf:=λx y=>if yc x y=true then -1 else 1) (lt:=λx y=>yc x y=true) (L:=L) (R:=L) (λx _ y _=>zuY) (λx y=>by grind) (λx h=>by rw [zp9] at h;cases h) (λ_ _ _=>zi2) (λx k y o=>?_) (.refl _) u (by simp [lim];omega)]
 ·rfl
 ·by_cases e:x.z6=y.z6
  ·grind
  ·exact .inr (zlT e)
theorem zqu (h:T.Pairwise λa b=>gU a b=true):dd (srt (T++T))=T:=by
 refine uG (lt:=λa b=>gU a b=true) (λa h=>by rw [ul] at h;cases h) (λ_ _ _=>sE) _ _ (zcN (lt:=λa b=>gU a b=true) (λa b h=>?_) (λ_ _ _=>sE) _ (zkL _)) h λx=>?_
 ·rcases ec a b with k | k | k
  ·simp_all
  ·simp_all
  ·simp_all
 ·rw [zgB,(mn _).mem_iff];simp
theorem zlX (h:fb l=true) (G:GE.wf l) (hi:l.y4.length<=8388608) (w:l.x4.length<=8388608):uj l l l=some (l,0):=by
 have t:tH l=some true:=by rw [zaS (lu hi (by decide)) (lu w (by decide)),h]
 unfold uj;rw [t];simp only [tb,lH,lL,nv,jk,tx,lg,jn];have M:=h;unfold fb at h;split at h
 ·rename_i k;simp only [tr,so] at h;rw [k];have:ui l l l=some l:=by
   unfold ui;have I:IntKind.wrap .i64 (l.n - l.n)=0:=by rw [Int.sub_self];rfl
   have F:IntKind.wrap .i64 (l.n+0)=l.n:=by
    rw [Int.add_zero,wW];obtain ⟨_,u,_⟩:=G;exact ⟨u.1,u.2⟩
   rw [I,F]
  rw [show zS ([0,1,2,3,4]:List Nat) (1:Int)=some 1 from rfl,tb];show ((ui l l l).bind _)=_
  simp_all
 split at h
 ·rename_i k o;rw [o];have:qu l l l=some l:=by
   unfold qu;simp only [uh]
   grind
  rw [show zS ([0,1,2,3,4]:List Nat) (2:Int)=some 2 from rfl,tb];show ((qu l l l).bind _)=_
  simp_all
 split at h
 ·rename_i k o s;simp only [tr,so,p9,rq,fN] at h;obtain ⟨⟨⟨E,⟨z,z3⟩,z4⟩,⟨H,p⟩,r⟩,⟨J,v⟩,t3⟩:=h;rw [s];have hd:=zqu (zb6 v);have D:∀x ∈ l.y4,x.z6 ∉ l.x4:=λx K t=>by
   grind
  have:oM l l l=some l:=by
   unfold oM;rw [zgC (by omega),tb,zbW (by simp [lim];omega),tb,zd1 (by rw [(mn _).length_eq];simp;omega),tb,hd,zgF hi (zew p) r D,tb];cases l
   simp_all [bB]
  rw [show zS ([0,1,2,3,4]:List Nat) (3:Int)=some 3 from rfl,tb];show ((oM l l l).bind _)=_
  simp_all
 split at h
 ·rename_i k o s C;simp only [tr,so,p9,fN] at h;obtain ⟨⟨⟨E,⟨z,z3⟩,z4⟩,z5⟩,⟨H,p⟩,r⟩:=h;rw [C];have:oN l l l=some l:=by
   unfold oN;rw [zgF hi (zew p) r (λ_ _=>by simp),tb];cases l
   simp_all [bB]
  rw [show zS ([0,1,2,3,4]:List Nat) (4:Int)=some 4 from rfl,tb];show ((oN l l l).bind _)=_
  simp_all
 ·cases h

noncomputable def zh9 (l0 a1 b2:GC):List GE×Int->Option (Out (List GE) (List GE×Int)):=(λ(s1:(List GE)×Int)=>((if (decide (s1.2<=(4:Int)))=true then ((x7 l0 s1.2).bind λv20=>((x7 a1 s1.2).bind λv21=>((x7 b2 s1.2).bind λv22=>(if ((v20.2 || v21.2) || v22.2)=true then ((uj v20.1 v21.1 v22.1).bind λv24=>(zQ ((s1.1).length+(([v24.1]:List GE)).length<=lim) (some (.gV ((s1.1++([v24.1]:List GE)),(IntKind.wrap .u8 (s1.2+(1:Int)))))))) else some (.gV (s1.1,(IntKind.wrap .u8 (s1.2+(1:Int))))))))) else some (.brk (s1.1,s1.2))):Option (Out _ ((List GE)×Int))))
theorem zmT (p k o:GC):rZ p k o=(lp (zY (zh9 p k o) (([]:List GE),(1:Int))) λ(r:(List GE)×Int)=>some r.1):=rfl
theorem zsa {t:List GC} (k:cW t=true) (o:t.length<=16777216):oc t []=some (t.map (·.name)):=by
 unfold oc;rw [ziP];simp only [yL,zid];rw [zjo (λx:GC=>x.name) _ 0 [] (by simp_all)];simp only [yL,lC];rw [zie (by simp [lim];omega),zpb,tb];exact kZ.2 ((tv _).1 k)
theorem zjX {t:List GC} (k:cW t=true) (p:t.length<=5592405):r6 [t,t,t]=some (t.map (·.name)):=by
 have o:(t.map (·.name)).Pairwise λa b=>Op.bytesLess a b=true:=kZ.2 ((tv _).1 k);unfold r6;simp only [zf,zsa k (by omega),tb];rw [ze (by simp [lim];omega)];simp only [lC];rw [ze (by simp [lim];omega)];simp only [];rw [ze (by simp [lim];omega)];simp only [yL];rw [zie (by simp [lim];omega),tb,zhQ (by rw [(zbU _).length_eq];simp;omega),tb,zns];congr 1;refine uG (lt:=λa b=>Op.bytesLess a b=true) (λa h=>by rw [qR] at h;cases h) (λ_ _ _=>xW) _ _ (zck _ (by simp)) o λx=>?_;rw [zaM];simp
theorem zlr {t:List GC} (h:cW t=true) {x:GC} (p:x ∈ t):fu t x.name=some x:=by
 have k:=lK.1 ((tv t).1 h);cases e:fu t x.name with
 | none =>
  have:=j6.1 e x p
  simp_all
 | some y =>
  have s:=jt e;have r:y.name=x.name:=by simpa using List.find?_some e
  obtain ⟨i,hi,rfl⟩:=je p;obtain ⟨j,o,rfl⟩:=je s;rcases jN i j with h | h | h
  ·have:=k i j hi o h;rw [r,qR] at this;cases this
  ·simp_all
  ·have:=k j i o hi h;rw [r,qR] at this;cases this
def pick (ls:List GE) (k:Int):List GE:=(ls.find? λl=>l.w7==k).toList
theorem ziJ {ls:List GE} (h:ls.Pairwise λx y=>x.w7 < y.w7) {k:Int} {x:GE}:x ∈ pick ls k ↔ x ∈ ls/\x.w7=k:=by
 unfold pick;cases e:ls.find? λl=>l.w7==k with
 | none =>
  simp_all
 | some y =>
  have r:=jt e;have p:y.w7=k:=by grind
  simp only [Option.toList_some,lh];exact ⟨λh=>by simp_all,λo=>zkB h o.1 r (o.2.trans p.symm)⟩
theorem zpu (ls:List GE) (k:Int):(pick ls k).Pairwise λx y=>x.w7 < y.w7:=by
 unfold pick
 simp_all
theorem ztE (h:ls.Pairwise λx y=>x.w7 < y.w7) (p:∀l ∈ ls,1<=l.w7/\l.w7<=4):pick ls 1++pick ls 2++pick ls 3++pick ls 4=ls:=by
 refine uG (lt:=λx y:GE=>x.w7 < y.w7) (λa h=>by omega) (λa b c r o=>by omega) _ _ ?_ h λx=>?_
 ·have m:=λk=>@ziJ ls h k;simp only [kq,zpu,gD,lj,m]
  grind
 ·simp only [lj,ziJ h]
  grind
theorem zpZ {x:GC} (C:∀l ∈ x.leaves,fF l) {k:Int} (u:1<=k/\k<=4):x7 x k=some (match x.leaves.find? (λl=>l.w7==k) with | some l=>(l,true) | none=>(qP k,false)):=by
 have r:=zej [x.name] 0 [x] (decide ((([x.name]:List zq).length:Int) > 0),([]:zq),([]:List GE),([]:List GC)) (by simp);have D:vO [x] [x.name]=some x:=by simp [vO,fu]
 rw [D] at r;simp only at r;unfold x7;rw [zpa,r];simp only [yL];unfold tlR yo;rcases dg (q:=λy:GE=>y.w7==k) (del:=λw=>sa w k) x.leaves 0 (λx _=>rfl) with ⟨t,v⟩ | ⟨A,y,B,o,v,E,t⟩
 ·have:x.leaves.find? (λl=>l.w7==k)=none:=j6.2 λy s=>by rw [v y s];simp
  rw [this];simp only [t,yL,tb,zaR u];simp
 ·have s:y ∈ x.leaves:=by rw [o];simp
  have z:x.leaves.find? (λl=>l.w7==k)=some y:=by
   grind
  rw [z];have p:=C y s;have c1:((!true) || (decide (((A.length:Nat):Int) < (0:Int))))=false:=by simp
  have F:y.w7=k:=by simp_all
  simp only [t,lp,tb,l6,c1,lL,nv,zaR u,lR];rw [lq (by simp [qP];omega),o,zt (x:=y) (by simp),tb,um (yS (jM p.y4)),tb,wF (yS (jM p.x4)),tb];rfl
theorem nf {x:GC} (t:∀l ∈ x.leaves,fF l) (p:∀l ∈ x.leaves,uj l l l=some (l,0)) {k k':Int} (r:1<=k/\k<=4) (s:k+1=k') {acc:List GE} (u:acc.length<=10):zh9 x x x (acc,k)=some (.gV (acc++pick x.leaves k,k')):=by
 have o:IntKind.wrap .u8 (k+1)=k':=by
  rw [IntKind.wrap_u8];omega
 unfold zh9 pick;simp only [zpZ t r,o];rw [lc (by simp;omega)];cases e:x.leaves.find? (λl=>l.w7==k) with
 | none=>simp
 | some l =>
  simp only [tb,jk,nv,p l (jt e)];rw [ze (by simp [lim];omega)];rfl
theorem zeI (ls:List GE) (k:Int):(pick ls k).length<=1:=by
 unfold pick
 simp_all
theorem zjA {x:GC} (r:∀l ∈ x.leaves,fF l) (p:∀l ∈ x.leaves,uj l l l=some (l,0)) (u:x.leaves.Pairwise λa b=>a.w7 < b.w7) (z:∀l ∈ x.leaves,1<=l.w7/\l.w7<=4):rZ x x x=some x.leaves:=by
 have v:=zeI x.leaves 1;have w:=zeI x.leaves 2;have D:=zeI x.leaves 3;have o:=ztE u z;have C:∀A,zh9 x x x (A,5)=some (.brk (A,5)):=λA=>rfl;generalize h1:pick x.leaves 1=P1 at v o;generalize h2:pick x.leaves 2=P2 at w o;generalize h3:pick x.leaves 3=P3 at D o;generalize h4:pick x.leaves 4=P4 at o;have t:=nf r p (k:=1) (k':=2) (by omega) (by omega) (acc:=[]) (by simp);have s2:=nf r p (k:=2) (k':=3) (by omega) (by omega) (acc:=[]++P1) (by simp;omega);have s:=nf r p (k:=3) (k':=4) (by omega) (by omega) (acc:=[]++P1++P2) (by simp;omega);have s4:=nf r p (k:=4) (k':=5) (by omega) (by omega) (acc:=[]++P1++P2++P3) (by simp;omega);rw [h1] at t;rw [h2] at s2;rw [h3] at s;rw [h4] at s4;rw [zmT,yE,t];simp only [];rw [yE,s2];simp only [];rw [yE,s];simp only [];rw [yE,s4];simp only [];rw [yE,C]
 simp_all
theorem zdy {ρ:Type} {f:Nat->zq->List GC->Option (Out ρ (List GC))}:∀(t:List GC) (i:Nat) (s:List GC),s.length+t.length<=lim->(∀x ∈ t,∀(i:Nat) (s:List GC),s.length+1<=lim->f i x.name s=some (.gV (s++[x])))->zf f (t.map (·.name)) i s=some (.inr (s++t))
 | [],i,s,_,_=>by simp [zf]
 | x::t,i,s,hl,h=>by
  simp only [m3] at hl;simp only [ld,zf,h x (by simp) i s (by omega)];rw [zdy t (i+1) (s++[x]) (by simp;omega) λy k=>h y (by simp [k])];simp
theorem zbe:∀(n:Nat) (t:List GC) (d:Nat),GC.fC t < n->Small t->GC.eV t<=5592405->gY d t=true->wz n t t t=some t
 | 0,_,_,h,_,_,_=>by omega
 | n+1,t,d,h,hs,hb,ht=>by
  obtain ⟨r,z⟩:=zP ht;have k:t.length<=5592405:=lu (zhq t) hb;unfold wz;rw [zjX r k,tb,zdy t 0 [] (by simp [lim];omega)]
  ·simp
  ·intro x o i s I;have C:=z x o;rw [sZ] at C;simp only [tr] at C;obtain ⟨⟨⟨_,_⟩,v⟩,D⟩:=C;have F:=tR o;have G:=vp x;have H:=zgH o;have O:=za4 x;obtain ⟨p,u⟩:=uY D;have N:((x.leaves.map GE.bk).sum)<=GC.eV t:=by omega
   have E:∀l ∈ x.leaves,l.bk<=5592405:=λl k=>by
    have:=zeo (f:=GE.bk) k;omega
   have J:∀l ∈ x.leaves,fF l:=λl k=>hs.leaf o k;have w:∀l ∈ x.leaves,GE.wf l:=λl k=>by
    have:=(GC.eH t).1 hs.1 x o;cases x;simp only [GC.wf] at this
    simp_all
   have M:∀l ∈ x.leaves,uj l l l=some (l,0):=λl k=>by
    have Q:=zcs l;have P:=E l k;exact zlX (u l k) (w l k) (by omega) (by omega)
   have K:∀l ∈ x.leaves,1<=l.w7/\l.w7<=4:=λl k=>by
    have:=u l k;unfold fb at this
    grind
   rw [oH,zlr r o];simp only [tb];rw [zjA J M p K,tb,zbe n x.w5 (d+1) (by omega) (hs.w5 o) (by omega) v,tb,ze (by omega)];cases x;rfl
theorem zj0 {t:List GC} (hs:Small t) (p:GC.eV t<=5592405) (k:gY 0 t=true):rJ t t t=some (t,0):=by
 have o:uB t=some true:=by rw [nc hs,k]
 unfold rJ mh;rw [o];simp only [tb,lH,lL,nv,jk,tx,lg];rw [tT (GC.fC t+1) λn r=>zbe n t 0 (by omega) hs p k];rfl

noncomputable def zsS:Nat->GJ->List GC->Option (Out ((List GC)×Int) (List GC)):=(λ(n2:Nat) (x2:GJ) (s2:(List GC))=>(((fR s2 x2).bind λv22=>(if (v22.2 != (0:Int))=true then some (.ret (([]:List GC),v22.2)) else some (.gV v22.1))):Option (Out _ (List GC))))
theorem zqe (t0:List GC) (k:List GJ):mT t0 k=((uB t0).bind λs=>((if ((!s)==false)=true then yY k (λu=>pr u) else some default).bind λv=>(if ((!s) || v)=true then some (([]:List GC),(2:Int)) else (lp (zf (λ(w:Nat) (t:GJ) (o:List (GA×Int))=>(some (.gV (ut GA.fi o t.z6 (IntKind.wrap .i64 ((zG GA.fi (0:Int) o t.z6)+(1:Int))))):Option (Out _ (List (GA×Int))))) k 0 ([]:List (GA×Int))) λ(o:List (GA×Int))=>(if (decide (((o).length:Int) < ((k).length:Int)))=true then some (([]:List GC),(8:Int)) else ((rJ t0 t0 t0).bind λr=>((tf k).bind λp=>(lp (zf zsS p 0 r.1) λ(s2:(List GC))=>some (s2,(0:Int)))))))))):=rfl
theorem zbp {f:GJ->Option Bool} {q:GJ->Bool} (p:List GJ) (k:∀x ∈ p,f x=some (q x)):yY p f=some (p.any q):=by
 unfold yY va;rw [sy p k,tb,sA]
structure dl (k:Nat) (t:List GC):Prop where
 small:Small t
 tree:gY 0 t=true
 ws:wS 0 (zw [] t)<=300000+200000 * k
 leaf:∀r ∈ zw [] t,r.leaf.bk<=150000+1000 * k
theorem dl.cE {k:Nat} {t:List GC} (h:dl k t) (p:k<=40):cR t:=⟨h.small,h.tree,by have:=h.ws;omega,λr o=>by have:=h.leaf r o;omega⟩
theorem zvn {k x:Nat} (h:x<=150000+1000 * k):x<=150000+1000 * (k+1):=by omega
theorem zsN {k x:Nat} (h:x<=150000+1000 * k):x+1000<=150000+1000 * (k+1):=by omega
theorem zsO {k:Nat} (h:k < 40):300000+200000 * (k+1)<=16777216:=by omega
theorem zvm {k w b p:Nat} (r:k < 40) (h:w<=300000+200000 * k) (s:b<=150000+1000 * (k+1)) (o:p<=3):w+(b+17 * (p - 0)+0)<=300000+200000 * (k+1):=by omega
theorem zoj {k:Nat} {t:List GC} (h:dl k t) (I:k < 40) (s:xJ e=true) (N:GJ.wf e):∃u,fR t e=some (u,0)/\vY t e=some (u,0)/\dl (k+1) u:=by
 have C:=h.cE (by omega);have d:=zqR s;obtain ⟨V,Q,Z⟩:=uW d.path;obtain ⟨u,l,b,R,P,W,J,S,h6,_,h8,X⟩:=zjn C s N;obtain ⟨l',b',D,_,g3,g4,g5,O,_,U⟩:=zao C V (zdj d.kind);rw [S] at D;simp only [p3,kT] at D;obtain ⟨rfl,rfl⟩:=D;have G:l.bk<=150000+1000 * k:=by
  rcases U with ⟨_,o⟩ | ⟨_,o,_⟩
  ·exact h.leaf _ o
  ·subst o;simp only [qP,GE.bk,GA.bk,GH.bk,kb,List.sum_nil,lF];omega
 have F:l.bk+1000<=150000+1000 * (k+1):=zsN G;have E:=zgL (l:=l) s;have w:=zcs l;have z:=zgK O s N (by omega) (by omega);have v:=h.ws;have K:=C.len;have p:∀r ∈ zw [] u,r ∈ zw [] t++[(⟨e.op.path,xg l e⟩:GN)]:=λr o=>by
  rcases (X r).1 o with o | o
  ·simp [o.1]
  ·simp [o]
 have H:wS 0 (zw [] t++[(⟨e.op.path,xg l e⟩:GN)])<=300000+200000 * (k+1):=by
  rw [zbS];simp only [wS];exact zvm I v (lu E F) Q
 obtain ⟨q1,Y⟩:=zdo (M:=zw [] t++[(⟨e.op.path,xg l e⟩:GN)]) J (lu H (zsO I)) (by simp;omega) (λr o=>by
  rcases lj.1 o with o | o
  ·exact zg9 t [] h.small.1 r o
  ·rw [lh] at o;subst o;exact z) p
 refine ⟨u,R,P,W,J,lu Y H,λr o=>?_⟩;rcases lj.1 (p r o) with o | o
 ·exact zvn (h.leaf r o)
 ·rw [lh] at o
  grind
theorem zpc (l:List GJ):∃m:List (GA×Int),zf (λ(p:Nat) (k:GJ) (o:List (GA×Int))=>(some (.gV (ut GA.fi o k.z6 (IntKind.wrap .i64 ((zG GA.fi (0:Int) o k.z6)+(1:Int))))):Option (Out ((List GC)×Int) (List (GA×Int))))) l 0 ([]:List (GA×Int))=some (.inr m)/\m.length<=l.length/\(m.length=l.length ↔ (l.map (·.z6)).Nodup):=by
 refine ⟨_,nA (λs x=>ut GA.fi s x.z6 (IntKind.wrap .i64 ((zG GA.fi 0 s x.z6)+1))) l 0 [] (λ_ _ _ _=>rfl),?_⟩;have h:=o9 (l.map λe=>(⟨0,e.z6,[]⟩:GF)) [] (by simp [tI]);simp only [lF,l6,tI,kb,lC,List.foldl_map,ji,oS] at h;exact h
theorem zlA (h:fb l=true):l.bk<=100 * lw l:=by
 have hi:∀L:List GF,(∀x ∈ L,x.text.length<=40)->(L.map GF.bk).sum<=48 * L.length:=by
  intro L
  induction L with
  | nil=>intro _;simp
  | cons x r ih =>
   intro h;have s:=h x (by simp);have k:=ih λy o=>h y (by simp [o]);simp only [ld,jO,m3,GF.bk,GA.bk,GH.bk];omega
 have p:∀b,l.y4.all (uo b)=true->∀x ∈ l.y4,x.text.length<=40:=λb t x u=>by
  have:=nK.1 t x u;simp only [uo,tr,so] at this;omega
 have key:l.text.length<=40/\∀x ∈ l.y4,x.text.length<=40:=by
  unfold fb at h;split at h
  ·simp only [tr,so,p9] at h
   simp_all
  split at h
  ·grind
  split at h
  ·simp only [tr,so,p9] at h
   simp_all
  split at h
  ·simp only [tr,so,p9] at h
   simp_all
  ·cases h
 have s:=hi _ key.2;have k:=zfj l.x4;have v:=key.1;simp only [GE.bk,GA.bk,GH.bk,lw] at k ⊢;omega
theorem zsh:∀L:List GN,(∀r ∈ L,fb r.leaf=true)->lS L<=100 * (L.map λr=>lw r.leaf).sum/\L.length<=(L.map λr=>lw r.leaf).sum
 | [],_=>by simp [lS]
 | r::L,h=>by
  have s:=zlA (h r (by simp));obtain ⟨o,t⟩:=zsh L λx k=>h x (by simp [k]);have p:1<=lw r.leaf:=by unfold lw;omega
  simp only [lS,ld,jO,m3];omega
theorem zog {a b:Nat} (p:a<=b+51 * n) (k:b<=100 * c) (r:n<=c) (o:c<=1500):a<=300000+200000 * 0:=by omega
theorem znU {t:List GC} (hs:Small t) (p:gY 0 t=true) (s:qK t=some false):dl 0 t:=by
 have hd:=zqs t 0 (by omega) (by unfold gY at p;simp only [tr] at p;exact p.2);obtain ⟨v,e,F,_⟩:=zkQ (GC.fC t+1) t 0 (by omega) hs (by omega) (by omega);have z:nk t 0=some v:=tT (GC.fC t+1) λn H=>by
  rw [zb1 n (GC.fC t+1) t 0 (by omega) (by omega)];exact e
 unfold qK at s;rw [z,tb] at s;have u:¬ v > 1500:=by simp_all
 have k:=zha t 0 [] hs p rfl rfl;obtain ⟨w,D⟩:=zsh (zw [] t) λr o=>(k r o).leaf;have E:(zw [] t).map (λr=>lw r.leaf)=(zw [] t).map λr=>lw r.leaf:=rfl;have C:((zw [] t).map λr=>lw r.leaf).sum<=1500:=by
  have:((zw [] t).map λr=>lw r.leaf).sum=d5 t:=rfl;omega
 refine ⟨hs,p,zog (zq4 (zw [] t) λr o=>(uW (k r o).path).2.1) w D C,λr o=>?_⟩;have G:=zlA (k r o).leaf;have I:lw r.leaf<=((zw [] t).map λr=>lw r.leaf).sum:=zeo (f:=λr:GN=>lw r.leaf) o;omega
theorem zrg {l:List GJ} (r:l.length<=8388600) (p:∀e ∈ l,e.op.path.length<=lim/\e.op.gX.length<=lim) {R:List GK} (u:R.Perm (nE 0 l)) (s:R.Pairwise λa b=>wc b a=false):tf l=some (R.map (·.e)):=by
 obtain ⟨P,o,t,k⟩:=zgs r p;rw [o,znn t u k s]
end Go.Vv
