/- Three-way merges of leaves behind events. -/
import Derived.Test.YtcdgimmdofbjdaaGreatPlR1
set_option linter.all false
open Option renaming some→aa
open Decidable renaming decide→ae
open Go.IntKind renaming wrap→ai
open List renaming length→ak
namespace Go.Vv
open Go
variable{p q:GJ->Bool}{l b a x y u:GE}{e:GJ}{E:List GJ}{i:Int}{t t0:List GC}{F v w:List GA}{L:List GI}{m:List (GA×GI)}
section
def bg(p:GJ->Bool)(l:GE)(e:GJ):GE:=if p e=true then yx l e else l
def qW(p:GJ->Bool)(b:GE)(E:List GJ):GE:=E.foldl (bg p) b
theorem zbX(p:GJ->Bool):∀(E:List GJ)(b:GE),(E.filter p).foldl yx b=qW p b E
 |[],_=>rfl
 |e::E,b=>by
  rw[kT];show _=qW p (bg p b e) E;rw[<- zbX p E];unfold bg;by_cases h:p e=true<;>simp[h]
def zye(a b:GJ):Prop:=a.time<b.time \/ a.time=b.time/\w6 a.z6 b.z6=true
structure aK(k:Int)(E:List GJ):Prop where
 ok:∀e∈E,yz e=true/\xF e.op.kind=k
 pw:E.Pairwise zye
 nd:(E.map (·.z6)).Nodup
theorem aK.tail{k:Int}{e:GJ}{E:List GJ}(h:aK k (e::E)):aK k E :=
 ⟨λx c=>h.ok x (.tail _ c),(ld.1 h.pw).2,(jm.1 h.nd).2⟩
theorem zct{k:Int}{p q:GJ->Bool}(J:List GJ->GE->GE->GE->GE->Prop)
  (h:∀e E i x y u,aK k (e::E)->J (e::E) i x y u->J E (bg (λe=>p e&&q e) i e) (bg p x e) (bg q y e) (bg (λe=>p e || q e) u e)) :
  ∀(E:List GJ)(i x y u:GE),aK k E->J E i x y u->J [] (qW (λe=>p e&&q e) i E) (qW p x E) (qW q y E) (qW (λe=>p e || q e) u E)
 |[],_,_,_,_,_,j=>j
 |e::E,i,x,y,u,hE,j=>zct J h E _ _ _ _ hE.tail (h e E i x y u hE j)
theorem pK{k:Int}(d:w7 l=true)(c:l.x4=k)(g:yz e=true)(f:xF e.op.kind=k):w7 (bg p l e)=true/\(bg p l e).x4=k:=by
 unfold bg;split
 ·exact⟨ze1 d g (f.trans c.symm),(oC l e).trans c⟩
 ·exact⟨d,c⟩
theorem pD{k:Int}{p:GJ->Bool}:∀{E:List GJ}{l:GE},aK k E->w7 l=true->l.x4=k->w7 (qW p l E)=true/\(qW p l E).x4=k
 |[],_,_,hl,ht=>⟨hl,ht⟩
 |e::E,l,h,hl,ht=>by
  obtain⟨d,c⟩:=pK (p:=p) hl ht (h.ok e (.head _)).1 (h.ok e (.head _)).2;exact pD (E:=E) h.tail d c
theorem eY(h:xF e.op.kind=1):e.op.kind=1:=by unfold xF at h;grind
theorem ff(h:xF e.op.kind=2):e.op.kind=2:=by unfold xF at h;grind
theorem zyC(c:aK 1 E)(f:ai .i64 b.n=b.n) :
  (qW (λe=>p e || q e) b E).n=ai .i64 ((qW p b E).n+ai .i64 ((qW q b E).n-(qW (λe=>p e&&q e) b E).n)):=by
 refine zct (λ_ i x y u=>u.n=ai .i64 (x.n+ai .i64 (y.n-i.n))) (λe E i x y u h j=>?_) E b b b b c ?_
 ·have d:=eY (h.ok e (.head _)).2;unfold bg yx;simp only[d,oS];cases p e<;>cases q e<;>simp only[k9,Bool.and_false,im,ia,j3,lq,oS,mb,s5]<;>simp only[IntKind.wrap_i64]at j ⊢<;>omega
 ·simp only[IntKind.wrap_i64]at f ⊢;omega
def e9(a b:GE):GE:=if xf a b=true then a else b
theorem my(a b:GE):xf a b=true↔b.time<a.time \/ b.time=a.time/\w6 b.z6 a.z6=true:=by
 unfold xf;by_cases h:b.time=a.time
 ·simp[h]
 ·simp[h]
theorem zmS(a:GE):xf a a=false:=by
 rw[gp];intro h;rcases(my _ _).1 h with h|h
 ·omega
 ·rw[wR]at h;cases h.2
theorem zmQ{a b c:GE}(h:xf a b=true)(k:xf b c=true):xf a c=true:=by
 rw[my]at h k ⊢;rcases h with h|⟨h,d⟩<;>rcases k with k|⟨k,k'⟩
 ·exact .inl (by omega)
 ·exact .inl (by omega)
 ·exact .inl (by omega)
 ·exact .inr ⟨by omega,up k' d⟩
theorem zmR(h:xf a b=false)(k:xf b a=false):a.time=b.time/\a.z6=b.z6:=by
 rw[gp]at h k;rw[gP,my]at h k;have c:a.time=b.time:=by omega
 refine⟨c,?_⟩;rcases f7 a.z6 b.z6 with e|e|e
 ·exact e
 ·exact absurd (.inr ⟨c,e⟩) k
 ·exact absurd (.inr ⟨c.symm,e⟩) h
theorem zry{a b c:GE}(h:xf a c=true):xf a b=true \/ xf b c=true:=by
 by_cases k:xf a b=true
 ·exact .inl k
 by_cases k2:xf b a=true
 ·exact .inr (zmQ k2 h)
 obtain⟨d,f⟩:=zmR (by simpa using k) (by simpa using k2);refine .inr ?_;rw[my]at h ⊢;rw[<- d,<- f];exact h
theorem nL(a b c:GE):e9 (e9 a b) c=e9 a (e9 b c):=by
 unfold e9;have f:=@zmQ a b c;have d:=@zry a b c;cases hab:xf a b<;>cases hbc:xf b c<;>simp only[hab,hbc,oS,mb,s5]<;>simp_all
theorem zf1{e:GE}(f:x=b \/ xf e x=true)(n:e9 b y=y):e9 x (e9 e y)=e9 e (e9 x y):=by
 rw[<- nL,<- nL];by_cases c:xf e x=true
 ·have d:xf x e=false:=by
   rw[gp];intro h;have:=zmQ c h;rw[zmS]at this;cases this
  have g:e9 x e=e:=by unfold e9;simp[d]
  have j:e9 e x=e:=by unfold e9;simp[c]
  rw[g,j]
 ·have c:xf e x=false:=by simpa using c
  by_cases d:xf x e=true
  ·have g:e9 x e=x:=by unfold e9;simp[d]
   have j:e9 e x=x:=by unfold e9;simp[c]
   rw[g,j]
  ·have d:xf x e=false:=by simpa using d
   obtain⟨s,r⟩:=zmR d c;have k:x=b:=by
    rcases f with f|f
    ·exact f
    ·rw[c]at f;cases f
   have g:e9 x e=e:=by unfold e9;simp[d]
   have j:e9 e x=x:=by unfold e9;simp[c]
   rw[g,j,k,n];unfold e9 at n ⊢;have z:xf e y=xf b y:=by
    rw[<- k];unfold xf;rw[s,r]
   rw[z];split
   ·rename_i o;rw[nK o]at n;rw[n,zmS]at o;cases o
   ·rfl
theorem zf2(a:GE):e9 a a=a:=by unfold e9;split<;>rfl
def zqM(e:GJ):GE:=GE.mk 2 0 e.time e.z6 e.op.text [] []
theorem zrU(h:yz e=true):1<=e.time:=by unfold yz at h;simp only[tx,so]at h;omega
theorem zfs(h:w7 l=true)(c:l.x4=2):0<=l.time/\(l.time=0->l.z6=cT):=by
 unfold w7 at h;rw[n4 (by omega),nK c]at h;simp only[tx,so]at h;obtain⟨_,h⟩:=h;split at h
 ·simp only[tx,so]at h;exact⟨by omega,λ_=>h.1⟩
 ·unfold t8 at h;simp only[tx,so]at h;exact⟨by omega,λh=>by omega⟩
theorem mG(h:w7 l=true)(c:l.x4=2)(d:e.op.kind=2)(j:1<=e.time):yx l e=e9 (zqM e) l:=by
 have s:=zru h c;have r:=zfs h c;unfold yx e9;rw[n4 (by omega),nK d];have:(ae (l.time=0) || (if l.time≠e.time then ae (l.time<e.time)else w6 l.z6 e.z6))=xf (zqM e) l:=by
  unfold xf zqM;by_cases h0:l.time=0
  ·have g:¬(0:Int)=e.time:=by omega
   have f:(0:Int)<e.time:=by omega
   simp[h0,g,f]
  ·simp[h0]
 rw[this];split
 ·rw[s];rfl
 ·rfl
theorem zwU(n:l.x4=2)(o:w7 a=true)(f:a.x4=2)(z:w7 b=true)(d:b.x4=2):dS l a b=e9 a b:=by
 have s:=zfs o f
 have k:=zfs z d;unfold dS e9;rw[n4 (by omega),nK n];by_cases h:xf a b=true
 ·rw[nK h,n4];have:=(my a b).1 h
  rintro(h0|⟨_,g⟩)
  ·rcases this with r|⟨r,j⟩
   ·omega
   ·rw[s.2 h0,k.2 (by omega),wR]at j;cases j
  ·rw[h]at g;cases g
 ·rw[n4 h];have h:xf a b=false:=by simpa using h
  by_cases h0:a.time=0
  ·rw[nK (.inl h0)]
  ·have c:b.time≠0:=λc=>by
    have:xf a b=true:=(my a b).2 (.inl (by omega));rw[h]at this;exact absurd this (by decide)
   rw[nK (.inr ⟨c,h⟩)]
theorem zyB(K:aK 2 E)(I:w7 b=true)(G:b.x4=2) :
  qW (λe=>p e || q e) b E=e9 (qW p b E) (qW q b E):=by
 have key:=zct (k:=2) (p:=p) (q:=q) (λE i x y u=>((w7 x=true/\x.x4=2)/\(w7 y=true/\y.x4=2)/\w7 u=true/\u.x4=2)/\u=e9 x y/\e9 b y=y/\(x=b \/ ∀e∈E,xf (zqM e) x=true)) (λe E i x y u h j=>?_) E b b b b K ⟨⟨⟨I,G⟩,⟨I,G⟩,I,G⟩,(zf2 b).symm,zf2 b,.inl rfl⟩
 ·exact key.2.1
 ·obtain⟨⟨⟨C,A⟩,⟨o,D⟩,z,r⟩,n,f,H⟩:=j;obtain⟨B,s⟩:=h.ok e (.head _);have k2:=ff s;have d:=zrU B;have J:x=b \/ xf (zqM e) x=true:=H.imp id λh=>h e (.head _);refine⟨⟨pK C A B s,pK o D B s,pK z r B s⟩,?_,?_,?_⟩
  ·unfold bg;cases hp:p e<;>cases hq:q e<;>simp only[hp,hq,kN,im,ia,oS,mb,s5]
   ·exact n
   ·rw[mG z r k2 d,mG o D k2 d,n,zf1 J f]
   ·rw[mG z r k2 d,mG C A k2 d,n,nL]
   ·rw[mG z r k2 d,mG C A k2 d,mG o D k2 d,n,nL,zf1 J f,<- nL (zqM e) (zqM e),zf2]
  ·unfold bg;split
   ·rw[mG o D k2 d,zf1 (.inl rfl) f,f]
   ·exact f
  ·unfold bg;split
   ·rw[mG C A k2 d];unfold e9;split
    ·refine .inr λg c=>(my _ _).2 ?_;exact(ld.1 h.pw).1 g c
    ·exact H.imp id λh g c=>h g (.tail _ c)
   ·exact H.imp id λh g c=>h g (.tail _ c)
end
section
theorem zj3(L:List GF)(n y:GF):y∈uW L n↔y∈L \/ (y=n/\∀j∈L,j.z6≠n.z6):=by
 unfold uW;by_cases h:(L.any λy=>ae (y.z6=n.z6))=true
 ·rw[nK h];rw[jt]at h;obtain⟨z,f,d⟩:=h;refine⟨.inl,λh=>h.elim id λh=>absurd (by simpa using d) (h.2 z f)⟩
 ·rw[n4 h];simp only[jp,ki,so]at h;have e:=lD (p:=λy=>zQ y n) (l:=L);have:y∈L↔y∈L.takeWhile (λy=>zQ y n) \/ y∈L.dropWhile λy=>zQ y n:=by rw[<- ma,e]
  rw[ma,ma,la,this];constructor
  ·rintro(c|c|c)
   ·exact .inl (.inl c)
   ·exact .inr ⟨c,h⟩
   ·exact .inl (.inr c)
  ·rintro((c|c)|c)
   ·exact .inl c
   ·exact .inr (.inr c)
   ·exact .inr (.inl c.1)
def itE(e:GJ):GF:=⟨if e.op.kind=5 then e.time else 0,e.z6,e.op.text⟩
structure zzD(on:Bool)(e:GJ)(l l':GE):Prop where
 t:∀d,d∈l'.y4↔d∈l.y4 \/ (on=true/\e.op.kind=4/\d∈e.op.gZ)
 i:∀j,j∈l'.z8↔(j∈l.z8/\¬(on=true/\e.op.kind=4/\j.z6∈e.op.gZ)) \/ (on=true/\e.op.kind≠4/\j=itE e/\e.z6∉l.y4/\∀j∈l.z8,j.z6≠e.z6)
theorem zuY{k:Int}(h:w7 l=true)(z:l.x4=k)(r:3<=k)(g:xF e.op.kind=k)(s:k<=4):zzD (p e) e l (bg p l e):=by
 unfold bg;cases hp:p e with
 |false=>exact⟨by simp,by simp⟩
 |true =>
  simp only[oS];have f:e.op.kind=3 \/ e.op.kind=4 \/ e.op.kind=5:=by unfold xF at g;grind
  unfold yx;rcases f with c|c|c
  ·rw[n4 (by omega),n4 (by omega),nK c];by_cases hd:(l.y4.any λy=>ae (y=e.z6))=true
   ·rw[nK hd];have:e.z6∈l.y4:=by simpa using hd
    exact⟨by simp[c],by simp[c,this]⟩
   ·rw[n4 hd];have o:e.z6∉l.y4:=by simpa using hd
    refine⟨by simp[c],λj=>?_⟩;simp only[zj3,c,itE];simp[o]
  ·rw[n4 (by omega),n4 (by omega),n4 (by omega),nK c];refine⟨λd=>?_,λj=>?_⟩
   ·simp only[ur,c];simp[or_comm]
   ·simp only[lQ,noT,so];simp[c]
  ·rw[n4 (by omega),n4 (by omega),n4 (by omega),n4 (by omega)];have n:l.y4=[]:=(zla h (by unfold xF at g;grind)).2;refine⟨by simp[c],λj=>?_⟩;simp only[zj3,c,itE,n];simp
structure J3(b:GE)(E:List GJ)(x y u:GE):Prop where
 t:∀d,d∈u.y4↔d∈x.y4 \/ d∈y.y4
 m:∀j,j∈u.z8↔(j∈x.z8 \/ j∈y.z8)/\j.z6∉u.y4
 bx:∀j∈b.z8,j∈x.z8 \/ j.z6∈x.y4
 by':∀j∈b.z8,j∈y.z8 \/ j.z6∈y.y4
 sx:∀j∈x.z8,j∈b.z8 \/ ∀e∈E,j.z6≠e.z6
 sy:∀j∈y.z8,j∈b.z8 \/ ∀e∈E,j.z6≠e.z6
 ag:∀j∈x.z8,∀j'∈y.z8,j.z6=j'.z6->j=j'
 dx:∀j∈x.z8,j.z6∉x.y4
 dy:∀j∈y.z8,j.z6∉y.y4
theorem J3.step{G y' J:GE}{p q:Bool}(h:J3 b (e::E) x y u)(U:∀A∈E,e.z6≠A.z6)(M:zzD p e x G)(K:zzD q e y y')(O:zzD (p || q) e u J):J3 b E G y' J:=by
 obtain⟨t,m,bx,by',sx,sy,ag,dx,dy⟩:=h;have R:∀j∈x.z8,j.z6=e.z6->j∈b.z8:=λj f hd=>(sx j f).elim id λh=>absurd hd (h e (.head _));have P:∀j∈y.z8,j.z6=e.z6->j∈b.z8:=λj f hd=>(sy j f).elim id λh=>absurd hd (h e (.head _));have Q:(itE e).z6=e.z6:=rfl;by_cases c:e.op.kind=4
 ·have T:∀d,d∈J.y4↔d∈G.y4 \/ d∈y'.y4:=λd=>by
   rw[O.t,M.t,K.t,t,lN];grind
  have ix:∀j,j∈G.z8↔j∈x.z8/\¬(p=true/\j.z6∈e.op.gZ):=λj=>by rw[M.i];simp[c]
  have z:∀j,j∈y'.z8↔j∈y.z8/\¬(q=true/\j.z6∈e.op.gZ):=λj=>by rw[K.i];simp[c]
  have I:∀d,d∈G.y4↔d∈x.y4 \/ (p=true/\d∈e.op.gZ):=λd=>by rw[M.t];simp[c]
  have ty:∀d,d∈y'.y4↔d∈y.y4 \/ (q=true/\d∈e.op.gZ):=λd=>by rw[K.t];simp[c]
  refine⟨T,λj=>?_,λj f=>?_,λj f=>?_,λj f=>?_,λj f=>?_,λj f C H hd=>?_,λj f=>?_,λj f=>?_⟩
  ·rw[T,I,ty,ix,z,O.i,m,t];simp only[c,lN]
   grind
  ·rw[ix,I];have:=bx j f;grind
  ·rw[z,ty];have:=by' j f;grind
  ·exact(sx j ((ix j).1 f).1).imp id λh A o=>h A (.tail _ o)
  ·exact(sy j ((z j).1 f).1).imp id λh A o=>h A (.tail _ o)
  ·exact ag j ((ix j).1 f).1 C ((z C).1 H).1 hd
  ·rw[I];have:=(ix j).1 f;have:=dx j this.1;grind
  ·rw[ty];have:=(z j).1 f;have:=dy j this.1;grind
 ·have I:∀d,d∈G.y4↔d∈x.y4:=λd=>by rw[M.t];simp[c]
  have ty:∀d,d∈y'.y4↔d∈y.y4:=λd=>by rw[K.t];simp[c]
  have S:∀d,d∈J.y4↔d∈u.y4:=λd=>by rw[O.t];simp[c]
  have ix:∀j,j∈G.z8↔j∈x.z8 \/ (p=true/\j=itE e/\e.z6∉x.y4/\∀j∈x.z8,j.z6≠e.z6):=λj=>by rw[M.i];simp[c]
  have z:∀j,j∈y'.z8↔j∈y.z8 \/ (q=true/\j=itE e/\e.z6∉y.y4/\∀j∈y.z8,j.z6≠e.z6):=λj=>by rw[K.i];simp[c]
  have W:∀j,j∈J.z8↔j∈u.z8 \/ ((p || q)=true/\j=itE e/\e.z6∉u.y4/\∀j∈u.z8,j.z6≠e.z6):=λj=>by rw[O.i];simp[c]
  -- an item of one side at the event's z6 is the base's: the other one has it,or has buried it
  have ox:∀j∈y.z8,j.z6=e.z6->j∈x.z8 \/ e.z6∈x.y4:=λj f hd=>by have:=bx j (P j f hd);rw[hd]at this;exact this
  have oy:∀j∈x.z8,j.z6=e.z6->j∈y.z8 \/ e.z6∈y.y4:=λj f hd=>by have:=by' j (R j f hd);rw[hd]at this;exact this
  refine⟨λd=>by rw[S,I,ty,t],λj=>?_,λj f=>?_,λj f=>?_,λj f=>?_,λj f=>?_,λj f C H hd=>?_,λj f=>?_,λj f=>?_⟩
  ·rw[S,W,ix,z,m];by_cases hje:j=itE e
   ·subst hje;simp only[Q,lN,iY];have N:=t e.z6;constructor
    ·rintro(n|⟨n,r,B⟩)
     ·grind
     ·refine⟨?_,r⟩;have V:e.z6∉x.y4:=λh=>r (N.2 (.inl h));have n2:e.z6∉y.y4:=λh=>r (N.2 (.inr h));by_cases q1:∃j∈x.z8,j.z6=e.z6
      ·obtain⟨j,D,s⟩:=q1;exact absurd s (B j ((m j).2 ⟨.inl D,by rw[s];exact r⟩))
      ·by_cases q2:∃j∈y.z8,j.z6=e.z6
       ·obtain⟨j,D,s⟩:=q2;exact absurd s (B j ((m j).2 ⟨.inr D,by rw[s];exact r⟩))
       ·grind
    ·rintro⟨n,r⟩
     have V:e.z6∉x.y4:=λh=>r (N.2 (.inl h));have n2:e.z6∉y.y4:=λh=>r (N.2 (.inr h));rcases n with(n|⟨n,_,B⟩)|(n|⟨n,_,B⟩)
     ·exact .inl ⟨.inl n,r⟩
     ·by_cases q2:∃j∈y.z8,j.z6=e.z6
      ·obtain⟨j,D,s⟩:=q2;rcases ox j D s with g|g
       ·exact absurd s (B j g)
       ·exact absurd g V
      ·refine .inr ⟨.inl n,r,λj f hd=>?_⟩;rcases((m j).1 f).1 with g|g
       ·exact B j g hd
       ·exact q2 ⟨j,g,hd⟩
     ·exact .inl ⟨.inr n,r⟩
     ·by_cases q2:∃j∈x.z8,j.z6=e.z6
      ·obtain⟨j,D,s⟩:=q2;rcases oy j D s with g|g
       ·exact absurd s (B j g)
       ·exact absurd g n2
      ·refine .inr ⟨.inr n,r,λj f hd=>?_⟩;rcases((m j).1 f).1 with g|g
       ·exact q2 ⟨j,g,hd⟩
       ·exact B j g hd
   ·simp[hje]
  ·rw[ix,I];have:=bx j f;grind
  ·rw[z,ty];have:=by' j f;grind
  ·rcases(ix j).1 f with h|⟨_,rfl,_⟩
   ·exact(sx j h).imp id λh A o=>h A (.tail _ o)
   ·exact .inr U
  ·rcases(z j).1 f with h|⟨_,rfl,_⟩
   ·exact(sy j h).imp id λh A o=>h A (.tail _ o)
   ·exact .inr U
  ·rcases(ix j).1 f with h|⟨_,rfl,n,r⟩<;>rcases(z C).1 H with k|⟨_,rfl,k2,k3⟩
   ·exact ag j h C k hd
   ·rcases oy j h hd with g|g
    ·exact absurd hd (k3 j g)
    ·exact absurd g k2
   ·rcases ox C k hd.symm with g|g
    ·exact absurd hd.symm (r C g)
    ·exact absurd g n
   ·rfl
  ·rw[I];rcases(ix j).1 f with h|⟨_,rfl,n,_⟩
   ·exact dx j h
   ·exact n
  ·rw[ty];rcases(z j).1 f with h|⟨_,rfl,n,_⟩
   ·exact dy j h
   ·exact n
end
section
theorem zh1(h:w7 l=true)(f:3<=l.x4):∀j∈l.z8,j.z6∉l.y4:=λj c hd=>by
 have d:=qj h;by_cases h4:l.x4=3
 ·unfold w7 at h;rw[n4 (by omega),n4 (by omega),nK h4]at h;simp only[tx,th,oB]at h;have:=h.2.2 _ hd;simp only[kb,ki,so]at this;exact this j c rfl
 ·rw[(zla h (by omega)).2]at hd;cases hd
theorem zfJ(h:w7 l=true)(d:3<=l.x4):∃c,bV l c:=by
 have f:=qj h;by_cases h4:l.x4=3
 ·exact⟨_,zoY h h4⟩
 ·exact⟨_,(zla h (by omega)).1⟩
theorem zg3{α β:Type}{f:α->β}:∀{L:List α},(L.map f).Nodup->∀{x y:α},x∈L->y∈L->f x=f y->x=y
 |[],_,_,_,h,_,_=>by cases h
 |z::L,h,x,y,hx,hy,e=>by
  obtain⟨d,j⟩:=jm.1 h;rcases lx.1 hx with rfl|c<;>rcases lx.1 hy with rfl|g
  ·rfl
  ·exact absurd (lH.2 ⟨y,g,e.symm⟩) d
  ·exact absurd (lH.2 ⟨x,c,e⟩) d
  ·exact zg3 j c g e
theorem zq8{f:Bool}(h:bV l f){j c:GF}(g:j∈l.z8)(d:c∈l.z8)(hd:j.z6=c.z6):j=c:=by
 have:=h.once;unfold fG at this;rw[so]at this;exact zg3 this g d hd
theorem zmI{A B:List GF}(k:(B.map (·.z6)).Nodup)(c:∀j∈A,∀d∈B,j.z6=d.z6->j=d)(j:GF):j∈nF A B↔j∈A \/ j∈B:=by
 rw[(zet B A k).mem_iff,ma,lQ];simp only[so,lH,not_exists,not_and];constructor
 ·rintro(h|h)
  ·exact .inl h
  ·exact .inr h.1
 ·rintro(h|h)
  ·exact .inl h
  ·by_cases hx:∃z∈A,z.z6=j.z6
   ·obtain⟨z,f,g⟩:=hx;rw[<- c z f j h g];exact .inl f
   ·exact .inr ⟨h,λz n hd=>hx ⟨z,n,hd⟩⟩
theorem zzc{k:Int}{i:GE}(D:3<=k)(hi:i.x4=k)(A:w7 x=true)(G:x.x4=k)(o:w7 y=true)(H:y.x4=k)(s:w7 u=true)(C:u.x4=k)(f:J3 b [] x y u):dS i x y=u:=by
 obtain⟨_,h⟩:=zfJ A (by omega);obtain⟨_,B⟩:=zfJ o (by omega);obtain⟨_,c⟩:=zfJ s (by omega);have z:oG x.y4 y.y4=u.y4:=vL (lt:=λa b=>w6 a b=true) (λa=>by simp[wR]) (λ_ _ _=>up) _ _ (zbB _ h.tpw) c.tpw λd=>by
  rw[ur,f.t];exact or_comm
 have g:(y.z8.map (·.z6)).Nodup:=by have:=B.once;unfold fG at this;simpa using this
 have r:zgn x.z8 y.z8 u.y4=u.z8:=vL (lt:=λa b=>zQ a b=true) (λa=>by simp[zm5]) (λ_ _ _=>zho) _ _ ((zfR _ h.pw).sublist (iw)) c.pw λj=>by
  unfold zgn;rw[lQ,zmI g f.ag,f.m,noT,so]
 unfold dS;rw[n4 (by omega),n4 (by omega),z,r,hi];have:=c.n;have:=c.time;have:=c.z6;have:=c.text;cases u
 simp_all
theorem zyA{k:Int}(I:aK k E)(c:w7 b=true)(g:b.x4=k)(s:3<=k) :
  dS (qW (λe=>p e&&q e) b E) (qW p b E) (qW q b E)=qW (λe=>p e || q e) b E:=by
 have O:=qj c;obtain⟨P,M⟩:=zfJ c (by omega);have H:=zh1 c (by omega);have key:=zct (k:=k) (p:=p) (q:=q) (λE i x y u=>((w7 x=true/\x.x4=k)/\(w7 y=true/\y.x4=k)/\w7 u=true/\u.x4=k)/\J3 b E x y u) (λe E i x y u h j=>?_) E b b b b I
  ⟨⟨⟨c,g⟩,⟨c,g⟩,c,g⟩,λd=>by simp,λj=>⟨λh=>⟨.inl h,H j h⟩,λh=>h.1.elim id id⟩,λj h=>.inl h,λj h=>.inl h,λj h=>.inl h,λj h=>.inl h,λj h N J hd=>zq8 M h J hd,H,H⟩
 ·obtain⟨⟨⟨A,z⟩,⟨n,B⟩,r,o⟩,C⟩:=key;exact zzc s (pD (p:=λe=>p e&&q e) I c g).2 A z n B r o C
 ·obtain⟨⟨⟨A,z⟩,⟨n,B⟩,r,o⟩,C⟩:=j;obtain⟨G,f⟩:=h.ok e (.head _);refine⟨⟨pK A z G f,pK n B G f,pK r o G f⟩,?_⟩;exact C.step (λK D hd=>(jm.1 h.nd).1 (lH.2 ⟨K,D,hd.symm⟩)) (zuY A z s f (by omega)) (zuY n B s f (by omega)) (zuY (p:=λe=>p e || q e) r o s f (by omega))
theorem zqD{k:Int}(c:aK k E)(d:w7 b=true)(f:b.x4=k)(r:ai .i64 b.n=b.n) :
  dS (qW (λe=>p e&&q e) b E) (qW p b E) (qW q b E)=qW (λe=>p e || q e) b E:=by
 have s:=qj d;have h:=pD (p:=λe=>p e&&q e) c d f;have o:=pD (p:=p) c d f;have g:=pD (p:=q) c d f;have j:=pD (p:=λe=>p e || q e) c d f;by_cases h1:k=1
 ·subst h1;have:=zyC (p:=p) (q:=q) c r;rw[zwM j.1 j.2,this];unfold dS;rw[nK h.2]
 by_cases h2:k=2
 ·subst h2;rw[zyB c d f,zwU h.2 o.1 o.2 g.1 g.2]
 exact zyA c d f (by omega)
end
section
def dN(t:List GC)(p:List zp)(k:Int):GE:=(((zk [] t).find? λr=>ae (r.path=p/\r.leaf.x4=k)).map (·.leaf)).getD (qC k)
theorem dZ{r:GM}{p:List zp}{k:Int}:xu r=(p,k)↔r.path=p/\r.leaf.x4=k:=kG .. ▸ Iff.rfl
theorem nC(h:gX 0 t=true){p:List zp}{k:Int}{l:GE}(d:GM.mk p l∈zk [] t)(c:l.x4=k):dN t p k=l:=by
 unfold dN;cases e:(zk [] t).find? λr=>ae (r.path=p/\r.leaf.x4=k)with
 |none=>exact absurd (js.1 e _ d) (by simp[c])
 |some r =>
  have g:=jd e;have f:r.path=p/\r.leaf.x4=k:=by simpa using List.find?_some e
  have:=zd7 (key:=xu) (tJ h []) d g (by rw[dZ.2 f];exact dZ.2 ⟨rfl,c⟩);rw[<- this];rfl
theorem zco{p:List zp}{k:Int}(h:∀r∈zk [] t,xu r≠(p,k)):dN t p k=qC k:=by
 unfold dN;rw[js.2 λr c=>λd=>h r c (dZ.2 (by simpa using d))];rfl
theorem zc7(d:eU t){p:List zp}(g:p≠[]){k:Int}(j:1<=k/\k<=4) :
  ∃b,xV t p k=aa (dN t p k,b)/\(dN t p k).x4=k/\w7 (dN t p k)=true/\fv (dN t p k)/\GE.wf (dN t p k)/\(dN t p k).bk<=1048576:=by
 obtain⟨l,b,_,n,f,h,o,r,z,s⟩:=pA d g j;have:dN t p k=l:=by
  rcases s with⟨_,c⟩|⟨_,rfl,c⟩
  ·exact nC d.tree c f
  ·exact zco c
 rw[this];exact⟨b,n,f,h,o,r,z⟩
noncomputable def bT(l a b:List GC)(p:List zp)(k:Int):GE:=dS (dN l p k) (dN a p k) (dN b p k)
theorem zt0{l a b:List GC}(C:eU l)(D:eU a)(A:eU b){p:List zp}(h:p≠[]){k:Int}(g:1<=k/\k<=4) :
  tn (dN l p k) (dN a p k) (dN b p k)=aa (bT l a b p k,0)/\w7 (bT l a b p k)=true/\(bT l a b p k).x4=k/\fv (bT l a b p k):=by
 obtain⟨_,_,n,f,B,_,K⟩:=zc7 C h g;obtain⟨_,_,G,o,a3,_,a4⟩:=zc7 D h g;obtain⟨_,_,z,j,r,_,N⟩:=zc7 A h g;have J:=nD (dN a p k);have H:=nD (dN b p k);have d:=G.trans n.symm;have c:=z.trans n.symm;obtain⟨M,I,s⟩:=zpa f o j d c;refine⟨zo9 f o j B a3 r (by omega) (by omega) d c,zrJ f o j d c,(zrI f d c).trans n,?_⟩;exact⟨by show(dS _ _ _).z8.length<=_;omega,by show(dS _ _ _).y4.length<=_;omega,s a3.time r.time⟩
theorem zrx(j:w7 l=true)(d:fv l){p:List zp}{t:List GC}(c:sO p=true)(h:gX 0 t=true)(n:ak (zk [] t)<=8388606) :
  ∃u,nu t p l=aa u/\gX 0 u=true/\(ak (zk [] u))<=ak (zk [] t)+1/\∀r,r∈zk [] u↔(r∈zk [] t/\xu r≠(p,l.x4)) \/ r=⟨p,l⟩:=by
 obtain⟨u,_,f,o,g⟩:=zmK (k:=l.x4) (l:=l) (there:=true) (λ_=>⟨rfl,j,d⟩) c h (by omega);exact⟨u,(zmk j d c h n f g).2,f,o,λr=>by rw[g r];simp⟩
noncomputable def zxa(l a b:List GC):Nat->GO->List GC->Option (Out (List GC×Int) (List GC)):=λ(n1:Nat)(x1:GO) (s1:(List GC))=>(((xV l x1.path x1.l.x4).bind λv23=>((xV a x1.path x1.l.x4).bind λv24=>((xV b x1.path x1.l.x4).bind λv25=>((tn v23.1 v24.1 v25.1).bind λv26=>((nu s1 x1.path v26.1).bind λv27=>aa (.gV v27)))))):Option (Out (List GC×Int) (List GC)))
theorem zkp{l a b:List GC}(C:eU l)(D:eU a)(n:eU b):∀(R pre:List GM)(i:Nat) (W:List GC),(∀r∈R,dH r)->gX 0 W=true->ak (zk [] W)<=ak pre->ak pre+ak R<=8388606 ->
  (∀r,r∈zk [] W↔(∃q∈pre,xu q=xu r)/\r.leaf=bT l a b r.path r.leaf.x4) ->
  ∃W',zf (zxa l a b) (R.map toR) i W=aa (.inr W')/\gX 0 W'=true/\∀r,r∈zk [] W'↔(∃q∈pre++R,xu q=xu r)/\r.leaf=bT l a b r.path r.leaf.x4
 |[],pre,i,W,_,hW,_,_,h=>⟨W,rfl,hW,by simpa using h⟩
 |q::R,pre,i,W,hR,hW,hlen,hb2,h=>by
  have s:=hR q (by simp);have g:=qj s.leaf;have j:=(vD s.path).1;obtain⟨X,Q,_⟩:=zc7 C j g;obtain⟨b2,M,_⟩:=zc7 D j g;obtain⟨Y,S,_⟩:=zc7 n j g;obtain⟨hd,P,o,V⟩:=zt0 C D n j g;simp only[nr]at hb2;obtain⟨U,N,J,Z,K⟩:=zrx P V s.path hW (by omega);have f:∀r,r∈zk [] U↔(∃z∈pre++[q],xu z=xu r)/\r.leaf=bT l a b r.path r.leaf.x4:=λr=>by
   rw[K r,h r,o];constructor
   ·rintro(⟨⟨⟨z,B,k⟩,c⟩,_⟩|rfl)
    ·exact⟨⟨z,by simp[B],k⟩,c⟩
    ·refine⟨⟨q,by simp,?_⟩,?_⟩
     ·simp only[xu];rw[o]
     ·show bT l a b q.path q.leaf.x4=bT l a b q.path (bT l a b q.path q.leaf.x4).x4;rw[o]
   ·rintro⟨⟨z,B,k⟩,c⟩
    by_cases hkey:xu r=(q.path,q.leaf.x4)
    ·right;have k1:r.path=q.path:=congrArg Prod.fst hkey;have k2:r.leaf.x4=q.leaf.x4:=congrArg Prod.snd hkey;cases r;simp only at k1 k2 c;rw[k1,k2]at c;rw[k1,c]
    ·left;refine⟨⟨⟨z,?_,k⟩,c⟩,hkey⟩;rcases ma.1 B with A|A
     ·exact A
     ·have:z=q:=by simpa using A
      subst this;exact absurd k.symm hkey
  obtain⟨W',H,T,I⟩:=zkp C D n R (pre++[q]) (i+1) U (λr c=>hR r (by simp[c])) J (by simp;omega) (by simp;omega) f;refine⟨W',?_,T,by simpa using I⟩;have O:(toR q).path=q.path:=rfl;have G:(toR q).l=q.leaf:=rfl;have d:zxa l a b i (toR q) W=aa (.gV U):=by unfold zxa;simp only[O,G,Q,M,S,tb,hd,N]
  simp only[m4,zf,d];exact H
theorem zfq(h:eU t):ns t []=aa ((zk [] t).map toR):=by
 have c:=h.len;have d:=znx t 0 (by omega) (by have:=h.tree;unfold gX at this;simp only[tx]at this;exact this.2);exact tf (GC.fB t+1) λn f=>zpV n t [] (by omega) (by simp;omega) (by omega)
theorem zmC{l a b:List GC}(d:eU l)(f:eU a)(g:eU b):∃U,ug l a b=aa (U,0)/\gX 0 U=true/\∀r,r∈zk [] U↔(∃q∈zk [] l++zk [] a++zk [] b,xu q=xu r)/\r.leaf=bT l a b r.path r.leaf.x4:=by
 have o:=d.len;have n2:=f.len;have s:=g.len;obtain⟨U,h,j,k⟩:=zkp d f g (zk [] l++zk [] a++zk [] b) [] 0 [] (λr c=>by
  rcases ma.1 c with c|c
  ·rcases ma.1 c with c|c
   ·exact d.row c
   ·exact f.row c
  ·exact g.row c) (zb8 0) (by simp[zk]) (by simp;omega) (by simp[zk])
 refine⟨U,?_,j,by simpa using k⟩;unfold ug;rw[rI d.small,rI f.small,rI g.small,d.tree,f.tree,g.tree];simp only[tb,ly,kN,s5,mb,jJ,oS];rw[zfq d,zfq f,zfq g];simp only[tb];rw[lZ,lZ]at h;rw[ze (by simp[lim];omega),ze (by simp[lim];omega)];exact(congrArg (λz=>lp z λ(n:(List GC))=>aa (n,(0:Int))) h).trans rfl
end
section
def o8:Nat->List GC->List GJ->List GC->Prop
 |_,t,[],u=>u=t
 |k,t,e::E,u=>∃v,fQ t e=aa (v,0)/\sZ t e=aa (v,0)/\ee (k+1) v/\o8 (k+1) v E u
theorem znT:∀(E:List GJ)(k:Nat) (t:List GC),ee k t->k+ak E<=40->(∀e∈E,yz e=true/\GJ.wf e)->∃u,o8 k t E u
 |[],_,t,_,_,_=>⟨t,rfl⟩
 |e::E,k,t,h,hk,he=>by
  simp only[nr]at hk;obtain⟨v,f,d,v3⟩:=zkz h (by omega) (he e (.head _)).1 (he e (.head _)).2;obtain⟨u,g⟩:=znT E (k+1) v v3 (by omega) λj c=>he j (.tail _ c);exact⟨u,v,f,d,v3,g⟩
theorem zhS:∀{E:List GJ}{k:Nat} {t u:List GC},o8 k t E u->ee k t->ee (k+ak E) u
 |[],_,_,_,h,hf=>by simp only[o8]at h;subst h;exact hf
 |e::E,k,t,u,h,_=>by
  simp only[o8]at h;obtain⟨v,_,_,v3,h⟩:=h;have:=zhS h v3;rw[nr,show k+(ak E+1)=k+1+(ak E) by omega];exact this
theorem zkA:∀{E:List GJ}{k:Nat} {t u:List GC} (n:Nat),o8 k t E u->zf zqp E n t=aa (.inr u)
 |[],_,_,_,_,h=>by simp only[o8]at h;subst h;rfl
 |e::E,k,t,u,n,h=>by
  simp only[o8]at h;obtain⟨v,c,_,_,h⟩:=h;have:zqp n e t=aa (.gV v):=by unfold zqp;simp[c]
  simp only[zf,this];exact zkA (n+1) h
theorem zrK{M:List GI}(g:Gr F L)(n:M.Sublist L)(Q:ak L<=12){t:List GC}(hs:Small t0)(I:GC.e6 t0<=5592405)(C:gX 0 t0=true)(h:o8 0 t0 (M.map xM) t):nN t0 (M.map xM)=aa (t,0):=by
 have O:=n.length_le;have d:∀e∈M.map xM,∃c∈L,xM c=e:=λe k=>by
  obtain⟨c,c1,K⟩:=lH.1 k;exact⟨c,n.subset c1,K⟩
 have J:∀e∈M.map xM,yz e=true:=λe k=>by
  obtain⟨c,c1,rfl⟩:=d e k;exact(vT (g.may c c1)).ev
 have D:ak (M.map xM)<=12:=by rw[oa];omega
 have r:(M.map xM).Pairwise λa b=>a.time<b.time \/ a.time=b.time/\w6 a.z6 b.z6=true:=by
  rw[kz];exact(g.pw.sublist n).imp λh=>h
 have z:((M.map xM).map (·.z6)).Nodup:=by
  rw[kY];exact(g.gZ.sublist (n.map _))
 have f:uJ (M.map xM)=aa (M.map xM):=by
  rw[zpY (R:=o6 0 (M.map xM)) (by omega) (λe k=>by
   obtain⟨c,c1,rfl⟩:=d e k;have:=zfH (g.may c c1);simp only[xM,lim];omega) (.refl _) ?_,zeJ]
  have B:((o6 0 (M.map xM)).map (·.e)).Pairwise λa b=>a.time<b.time \/ a.time=b.time/\w6 a.z6 b.z6=true:=by
   rw[zeJ];exact r
  rw[kz]at B;refine B.imp λ{a b} o=>?_;unfold wn;rcases o with G|⟨G,s⟩
  ·grind
  ·rw[n4 (λA=>by rw[A.2,wR]at s;cases s),n4 (λA=>A G.symm)];cases h5:w6 b.e.z6 a.e.z6 with
   |false=>rfl
   |true=>have:=up s h5;rw[wR]at this;cases this
 obtain⟨m,N,P,H⟩:=zlX (M.map xM);have S:=H.2 z;rw[znd,pI hs,C];simp only[tb,ly,jJ,oS];rw[nT (q:=λe=>!yz e) _ (λx _=>by unfold rg;rw[uV];rfl)];have j:((M.map xM).any λe=>!yz e)=false:=by
  simp_all
 rw[j];simp only[tb,kN,s5,mb];rw[N,yw,n4 (by simp_all),zel hs I C,tb,f,tb,zkA 0 h,yw]
open Classical in
noncomputable def zro(F v:List GA)(L:List GI)(w:List GA):Int :=
 if ¬Can w (zr w)then 2 else if fj F w=false then 13 else if fj w v=false then 14 else if(L.any λc=>gY w c.z6&&!fj c.vV w)=true then 9 else 0
theorem zrp{b:GL}(st:GQ b m v L)(j:ak L<=12)(g:yk b=aa b){w:List GA}(d:ak w<=16777216):vX ⟨b,m,v⟩ w=aa (zro b.f v L w):=by
 obtain⟨C,e,_,k⟩:=tz (v:=w) d;unfold vX zro;rw[zjO,e,zbG g,zm9 (by have:=st.vl;simp only[lim];omega),ou st j];simp only[tb,s5,mb,zhw,tE];by_cases h1:Can w (zr w)
 ·rw[lJ ((oQ k).2 h1)];simp only[ly,s5,mb,h1,not_true_eq_false];cases fj b.f w
  ·rfl
  ·cases fj w v
   ·rfl
   ·simp only[ly,s5,mb];rw[zdm (q:=λc=>gY w c.z6&&!fj c.vV w) L (λx _=>by
     unfold tG;rw[qc,tE];cases gY w x.z6<;>rfl)]
    simp only[tb];cases L.any λc=>gY w c.z6&&!fj c.vV w<;>rfl
 ·rw[lL (λh=>h1 ((oQ k).1 h))];simp[h1]
def evW(L:List GI)(w:List GA):List GJ:=(L.filter λc=>gY w c.z6).map xM
theorem zus{b:GL}(st:GQ b m v L)(d:ak L<=12)(g:yk b=aa b)(hs:Small b.tree)(n:GC.e6 b.tree<=5592405)(k:gX 0 b.tree=true){w:List GA}(j:ak w<=16777216){t:List GC}(h:o8 0 b.tree (evW L w) t) :
  x6 ⟨b,m,v⟩ w=aa (if zro b.f v L w=0 then t else [],zro b.f v L w):=by
 unfold x6;rw[zrp st d g j];simp only[tb];by_cases h0:zro b.f v L w=0
 ·rw[h0,ou st d];simp only[tb,kI,s5,mb,oS];rw[rd (λc=>gY w c.z6) xM L 0 [] (by simp only[lC,lim];omega) (λi x s _ hs=>by
   rw[qc];show(if gY w x.z6=true then(zN (ak s+1<=lim) (aa (Out.gV (s++[xM x]))))else aa (Out.gV s))=_;rw[ze hs])]
  simp only[yw,ll];rw[zbG g];simp only[tb];rw[zrK st.gr (iw) d hs n k h];rfl
 ·rw[nK (by simpa using h0),n4 h0]
end
section
def ar(p:List zp)(k:Int)(e:GJ):Bool:=ae (e.op.path=p/\xF e.op.kind=k)
theorem zhR{p:List zp}(U:p≠[]){k:Int}(P:1<=k/\k<=4):∀(E:List GJ)(n:Nat) (t u:List GC),ee n t->n+ak E<=40->(∀e∈E,yz e=true/\GJ.wf e)->o8 n t E u ->
  dN u p k=(E.filter (ar p k)).foldl yx (dN t p k)/\((∃r∈zk [] u,xu r=(p,k))↔(∃r∈zk [] t,xu r=(p,k)) \/ E.filter (ar p k)≠[])
 |[],_,_,_,_,_,_,h=>by simp only[o8]at h;subst h;simp
 |e::E,n,t,u,hf,hl,he,h=>by
  simp only[nr]at hl;simp only[o8]at h;obtain⟨v,R,_,v3,h⟩:=h;obtain⟨V,O⟩:=zhR U P E (n+1) v u v3 (by omega) (λS Q=>he S (.tail _ Q)) h;have M:=hf.dq (by omega);obtain⟨j,g⟩:=he e (.head _);have d:=zrV j;obtain⟨X,l,b,I,_,_,a4,a5,a6,Y,W,a9⟩:=zgr M j g;rw[R]at I;simp only[p5,kG,kA]at I;subst I;obtain⟨l',Z,G,_,J,_,_,_,_,T⟩:=pA M (vD d.path).1 (zbb d.kind);rw[a5]at G;simp only[p5,kG]at G;obtain⟨rfl,rfl⟩:=G;have D:dN t e.op.path (xF e.op.kind)=l:=by
   rcases T with⟨_,c⟩|⟨_,rfl,c⟩
   ·exact nC hf.tree c J
   ·exact zco c
  rw[V,O,kT];by_cases ht:ar p k e=true
  ·have s:=ht;unfold ar at s;rw[so]at s;obtain⟨rfl,rfl⟩:=s;have N:GM.mk e.op.path (yx l e)∈zk [] v:=(a9 _).2 (.inr rfl);have B:(yx l e).x4=xF e.op.kind:=(oC l e).trans J;rw[nK ht,nC a4 N B,kS,D];refine⟨rfl,?_⟩;have:∃r∈zk [] v,xu r=(e.op.path,xF e.op.kind):=⟨_,N,by simp only[xu];rw[B]⟩
   simp[this]
  ·rw[n4 ht];have A:∀r:GM,xu r=(p,k)->xu r≠(e.op.path,xF e.op.kind):=λr c z=>by
    rw[c]at z;have j:=congrArg Prod.fst z;have g:=congrArg Prod.snd z;exact ht (by unfold ar;rw[so];exact⟨j.symm,g.symm⟩)
   have f:∀r:GM,xu r=(p,k)->(r∈zk [] v↔r∈zk [] t):=λr c=>by
    rw[a9];constructor
    ·rintro(h|rfl)
     ·exact h.1
     ·exact absurd (by simp only[xu];rw[oC,J]) (A _ c)
    ·exact λh=>.inl ⟨h,A r c⟩
   have C:(∃r∈zk [] v,xu r=(p,k))↔∃r∈zk [] t,xu r=(p,k) :=
    ⟨λ⟨r,j,g⟩=>⟨r,(f r g).1 j,g⟩,λ⟨r,j,g⟩=>⟨r,(f r g).2 j,g⟩⟩
   rw[C];refine⟨?_,Iff.rfl⟩;congr 1;by_cases z:∃r∈zk [] t,xu r=(p,k)
   ·obtain⟨r,K,H⟩:=z;have k1:r.path=p:=congrArg Prod.fst H;have k2:r.leaf.x4=k:=congrArg Prod.snd H;have:r=GM.mk p r.leaf:=by cases r;simp only at k1;rw[k1]
    rw[nC v3.tree (l:=r.leaf) (by rw[<- this];exact(f r H).2 K) k2,nC hf.tree (l:=r.leaf) (by rw[<- this];exact K) k2]
   ·rw[zco λr c o=>z ⟨r,c,o⟩,zco λr c o=>z (C.1 ⟨r,c,o⟩)]
theorem zpW(h:gX 0 t=true){r:GM}(c:r∈zk [] t):r.leaf=dN t r.path r.leaf.x4:=(nC h (p:=r.path) (l:=r.leaf) c rfl).symm
theorem zyv(h:GE.wf l):ai .i64 l.n=l.n:=by
 have:=h.2.1;unfold dc at this;simp[IntKind.min,IntKind.max,IntKind.signed,IntKind.bits]at this;simp only[IntKind.wrap_i64];omega
theorem zqC(h0:ee 0 t0){E:List GJ}(hl:ak E<=40)(Z:∀e∈E,yz e=true/\GJ.wf e)(hp:E.Pairwise zye)(hn:(E.map (·.z6)).Nodup){P Q:GJ->Bool}{s o n A:List GC}
  (Y:o8 0 t0 (E.filter λe=>P e&&Q e) s) (O:o8 0 t0 (E.filter P) o) (J:o8 0 t0 (E.filter Q) n) (X:o8 0 t0 (E.filter λe=>P e || Q e) A):ug s o n=aa (A,0):=by
 have len:∀R:GJ->Bool,0+ak (E.filter R)<=40:=λR=>by have:=jh R E;omega
 have ev:∀R:GJ->Bool,∀e∈E.filter R,yz e=true/\GJ.wf e:=λR e h=>Z e (lQ.1 h).1;have g:∀{R:GJ->Bool}{t:List GC},o8 0 t0 (E.filter R) t->ee (0+ak (E.filter R)) t:=λh=>zhS h h0;have S:=(g Y).dq (len _);have K:=(g O).dq (len _);have fq:=(g J).dq (len _);have D:=(g X).dq (len _);obtain⟨U,u1,u2,u3⟩:=zmC S K fq;have key:∀(p:List zp)(k:Int),p≠[]->1<=k/\k<=4->bT s o n p k=dN A p k/\((∃r∈zk [] A,xu r=(p,k))↔∃q∈zk [] s++zk [] o++zk [] n,xu q=(p,k)):=λp k pp N=>by
  have j:∀{R:GJ->Bool}{t:List GC},o8 0 t0 (E.filter R) t->dN t p k=qW R (dN t0 p k) (E.filter (ar p k))/\((∃r∈zk [] t,xu r=(p,k))↔(∃r∈zk [] t0,xu r=(p,k)) \/ ∃e∈E,ar p k e=true/\R e=true):=λ{R t} h=>by
   obtain⟨i1,i2⟩:=zhR pp N _ _ _ _ h0 (len R) (ev R) h;have V:(E.filter R).filter (ar p k)=(E.filter (ar p k)).filter R:=by
    rw[jG,jG];exact jw λx _=>Bool.and_comm _ _
   rw[i1,V,zbX];refine⟨rfl,i2.trans (or_congr Iff.rfl ?_)⟩;rw[V,gP,kH];simp only[lQ,and_imp];constructor
   ·intro h;refine jL λhx=>h λe d c f=>hx ⟨e,d,c,f⟩
   ·rintro⟨e,d,c,f⟩ h
    exact h e d c f
  obtain⟨m1,m2⟩:=j Y;obtain⟨p1,p2⟩:=j O;obtain⟨G,C⟩:=j J;obtain⟨w1,w2⟩:=j X;obtain⟨_,_,b1,b2,_,b4,_⟩:=zc7 (h0.dq (by omega)) pp N;have hE:aK k (E.filter (ar p k)):=⟨λe h=>by
   obtain⟨d,c⟩:=lQ.1 h;unfold ar at c;rw[so]at c;exact⟨(Z e d).1,c.2⟩,hp.sublist (iw),hn.sublist ((iw).map _)⟩
  refine⟨?_,?_⟩
  ·unfold bT;rw[m1,p1,G,w1];exact zqD hE b2 b1 (zyv b4)
  ·rw[w2];have split:(∃q∈zk [] s++zk [] o++zk [] n,xu q=(p,k))↔(∃q∈zk [] s,xu q=(p,k)) \/ (∃q∈zk [] o,xu q=(p,k)) \/ ∃q∈zk [] n,xu q=(p,k):=by
    simp only[ma];constructor
    ·rintro⟨q,(h|h)|h,e⟩
     ·exact .inl ⟨q,h,e⟩
     ·exact .inr (.inl ⟨q,h,e⟩)
     ·exact .inr (.inr ⟨q,h,e⟩)
    ·rintro(⟨q,h,e⟩|⟨q,h,e⟩|⟨q,h,e⟩)
     ·exact⟨q,.inl (.inl h),e⟩
     ·exact⟨q,.inl (.inr h),e⟩
     ·exact⟨q,.inr h,e⟩
   rw[split,m2,p2,C];constructor
   ·rintro(h|⟨e,d,c,f⟩)
    ·exact .inl (.inl h)
    ·rcases lN _ _ ▸ f with h|h
     ·exact .inr (.inl (.inr ⟨e,d,c,h⟩))
     ·exact .inr (.inr (.inr ⟨e,d,c,h⟩))
   ·rintro((h|⟨e,d,c,f⟩)|(h|⟨e,d,c,f⟩)|(h|⟨e,d,c,f⟩))
    ·exact .inl h
    ·exact .inr ⟨e,d,c,by rw[tx]at f;simp[f.1]⟩
    ·exact .inl h
    ·exact .inr ⟨e,d,c,by simp[f]⟩
    ·exact .inl h
    ·exact .inr ⟨e,d,c,by simp[f]⟩
 have W:∀r:GM,dH r->r.path≠[]/\1<=r.leaf.x4/\r.leaf.x4<=4:=λr h=>⟨(vD h.path).1,qj h.leaf⟩
 have:U=A:=zfp u2 D.tree λr=>by
  rw[u3];constructor
  ·rintro⟨⟨q,G,C⟩,B⟩
   have hq:dH q:=by
    rcases ma.1 G with h|h
    ·rcases ma.1 h with h|h
     ·exact S.row h
     ·exact K.row h
    ·exact fq.row h
   obtain⟨c1,H⟩:=W q hq;have k1:q.path=r.path:=congrArg Prod.fst C;have k2:q.leaf.x4=r.leaf.x4:=congrArg Prod.snd C;rw[k1]at c1;rw[k2]at H;obtain⟨d,c⟩:=key _ _ c1 H;obtain⟨z,T,M⟩:=c.2 ⟨q,G,C⟩;have I:z.path=r.path:=congrArg Prod.fst M;have y2:z.leaf.x4=r.leaf.x4:=congrArg Prod.snd M;have:=zpW D.tree T;rw[I,y2,<- d,<- B]at this;have:z=r:=by cases z;cases r;simp only at I this;rw[I,this]
   rw[<- this];exact T
  ·intro B;obtain⟨c1,H⟩:=W r (D.row B);obtain⟨d,c⟩:=key _ _ c1 H;refine⟨?_,by rw[d];exact zpW D.tree B⟩;exact c.1 ⟨r,B,rfl⟩
 rw[u1,this]
end
section
structure Tm(F v:List GA)(L:List GI)(w:List GA):Prop where
 can:Can w (zr w)
 lo:∀a,zr F a<=zr w a
 hi:∀a,zr w a<=zr v a
 cl:∀d∈L,gY w d.z6=true->∀a,zr d.vV a<=zr w a
theorem zgl{L:List GA}{f:GH->Int}(h:Can L f)(e:∀x,zr L x=f x):Can L (zr L):=by
 have:zr L=f:=funext e;rw[this];exact h
theorem Tm.may(h:Tm F v L w):zro F v L w=0:=by
 unfold zro;rw[n4 (λk=>k h.can),n4 (by rw[qY h.lo];decide),n4 (by rw[qY h.hi];decide),n4];rw[jt]
 rintro⟨c,c1,d⟩
 rw[tx]at d;rw[qY (h.cl c c1 d.1)]at d;exact absurd d.2 (by decide)
theorem ziM{u:List GA}(h:∀a,zr w a=max (zr u a) (zr v a))(d:GA):gY w d=(gY u d || gY v d):=by
 rw[lI,lN,vE,vE,vE,h];by_cases hd:fa d=true<;>simp[hd]<;>omega
theorem zm8{u:List GA}(h:∀a,zr w a=min (zr u a) (zr v a))(d:GA):gY w d=(gY u d&&gY v d):=by
 rw[lI,tx,vE,vE,vE,h];by_cases hd:fa d=true<;>simp[hd]<;>omega
theorem znb{c:GI}(h:c∈L)(a:GH):zr c.vV a<=zr (L.flatMap (·.vV)) a:=by
 by_cases h0:0<zr c.vV a
 ·obtain⟨d,j,f,g,d4⟩:=xL h0;rw[<- d4];exact sD (ip.2 ⟨c,h,j⟩) f g
 ·have:=xj (L.flatMap (·.vV)) a;omega
theorem Tm.zzw{b:GL}(st:GQ b m v L)(r:ak b.f<=64){c:GI}(h:c∈L):∃p,vW b.f c.vV=aa p/\vq b.f c.vV=aa p/\Tm b.f v L p/\(ak p)<=128:=by
 have n:=(st.gr.len c h).1;obtain⟨p,e,k,j,g,o⟩:=qN (a:=b.f) (b:=c.vV) (by omega);refine⟨p,e,k,⟨zgl j g,λa=>by rw[g];omega,λa=>by rw[g,st.vv];have:=znb h a;omega,λd hd hh a=>?_⟩,by omega⟩;rw[ziM g,lN]at hh;rcases hh with hh|hh
 ·rw[st.gr.out d hd]at hh;cases hh
 ·have:=st.gr.tr c h d hd hh a;rw[g];omega
theorem Tm.join{p q:List GA}(h:Tm F v L p)(k:Tm F v L q)(f:ak p+ak q<=16777216):∃w,vW p q=aa w/\vq p q=aa w/\Tm F v L w/\(∀d,gY w d=(gY p d || gY q d))/\(ak w)<=ak p+ak q:=by
 obtain⟨w,e,j,g,c,n⟩:=qN f;refine⟨w,e,j,⟨zgl g c,λa=>by rw[c];have:=h.lo a;omega,λa=>by rw[c];have:=h.hi a;have:=k.hi a;omega,λd hd hh a=>?_⟩,ziM c,n⟩;rw[ziM c,lN]at hh;rw[c];rcases hh with hh|hh
 ·have:=h.cl d hd hh a;omega
 ·have:=k.cl d hd hh a;omega
theorem Tm.zzQ{p q:List GA}(h:Tm F v L p)(k:Tm F v L q)(n:ak p+ak q<=16777216):∃w,uC p q=aa w/\Tm F v L w/\(∀d,gY w d=(gY p d&&gY q d))/\(ak w)<=ak p:=by
 obtain⟨w,j,g⟩:=zbT (a:=p) (b:=q) (by omega);have c:∀a,zr w a=min (zr p a) (zr q a):=λa=>g.get ((rP p).min (rP q)) a;obtain⟨w',_,f,_,o⟩:=zc4 n;rw[j]at f;obtain rfl:=ky f;refine⟨w,j,⟨zgl g c,λa=>by rw[c];have:=h.lo a;have:=k.lo a;omega,λa=>by rw[c];have:=h.hi a;omega,λd hd hh a=>?_⟩,zm8 c,o⟩;rw[zm8 c,tx]at hh;rw[c];have:=h.cl d hd hh.1 a;have:=k.cl d hd hh.2 a;omega
theorem znD{b:GL}(st:GQ b m v L){c:GI}(f:c∈L):qE L c.z6=aa c:=by
 cases e:qE L c.z6 with
 |none =>
  have:=(zdi L c.z6).2 ⟨c,f,rfl⟩;unfold bz at this;rw[e]at this;cases this
 |some d =>
  obtain⟨h,g⟩:=rj e;rw[st.gr.inj h f g]
end
section
noncomputable def zj7(b:GL)(g:GP)(L:List GI)(i k3:Int):Option Bool:=(if((ak (L):Int)==(0:Int))=true then((wu).bind λv1106=>aa v1106)else(zN (¬(ak (L):Int)=0) (((zR L (Int.tmod (ai .i64 (i)) (ak (L):Int))).bind λy1109=>((qh g y1109.z6).bind λv1110=>(zN (¬(ak (L):Int)=0) (((zR L (Int.tmod (ai .i64 (k3)) (ak (L):Int))).bind λy1113=>((qh g y1113.z6).bind λv1114=>(if((v1110.2 != (0:Int)) || (v1114.2 != (0:Int)))=true then aa false else((x6 g v1110.1).bind λv1116=>((x6 g v1114.1).bind λv1117=>((uC v1110.1 v1114.1).bind λv1118=>((x6 g v1118).bind λv1119=>((vq v1110.1 v1114.1).bind λv1120=>((x6 g v1120).bind λv1121=>(if((((v1116.2 != (0:Int)) || (v1117.2 != (0:Int))) || (v1119.2 != (0:Int))) || (v1121.2 != (0:Int)))=true then aa false else((ug v1119.1 v1116.1 v1117.1).bind λv1123=>((if((v1123.2==(0:Int))==true)=true then sY v1123.1 v1121.1 else aa default).bind λv1124=>((if(((v1123.2==(0:Int))&&v1124)==true)=true then wu else aa default).bind λv1125=>aa (((v1123.2==(0:Int))&&v1124)&&v1125)))))))))))))))))))))
theorem zo1{b:GL}{l:List GI}{k:Int}(M:ak l<=12)(A:ak b.f<=64)(n:uh b.tree=aa false)(G:uy b=aa true)(j:wQ b=aa true)(B:yk b=aa b)(h0:Can b.f (zr b.f))(J:wu=aa true)
  (H:∀m v L,GQ b m v L->ak L<=12->(∀x∈L,x∈l)->zj7 b ⟨b,m,v⟩ L i k=aa true):xi b l i k=aa true:=by
 unfold xi;have C:(ae ((ak l:Int) > 12))=false:=by simp;omega
 have z:(ae ((ak b.f:Int) > 64))=false:=by simp;omega
 rw[C,z,n,G,j,B];simp only[kN,jJ,oS,tb,ly,s5,mb];refine zrq (λo=>o.bind _=aa true) (λpre s=>GQ b s.1 s.2.1 s.2.2/\s.2.2.length<=(ak pre)/\∀x∈s.2.2,x∈l) (λpre x r s I hi=>?_) ?_ λs hi=>?_
 ·by_cases hq:(((ae ((ak (x.xo):Int) > (64:Int))) || (ae ((ak (x.vV):Int) > (64:Int)))) || (ae ((ak (x.op.gZ):Int) > (100:Int))))=true
  ·grind
  ·refine .inl ?_;rw[n4 hq];simp only[lN,so,not_or]at hq;have j:(ak pre)<(ak l):=by rw[I];simp
   obtain⟨h,D,P,K,st,ln,O⟩:=zkb hi.1 (by omega) A (c:=x) (by omega) (by omega);refine⟨(h.2.1,h.2.2,D.2),?_,st,by grind,λy N=>?_⟩
   ·show((bE b x s.1 s.2.1).bind λd=>(zo4 b x s.2.2).bind λg=>aa (Out.gV (d.2.1,d.2.2,g.2)))=_
    simp_all
   ·grind
 ·refine⟨⟨.nil,⟨by simp,by simp,by simp,by simp,by simp,by simp,.nil⟩,λa=>?_,by omega,h0⟩,ob _,by simp⟩;have:=xj b.f a;simp only[iq,zr];omega
 ·have:=H _ _ _ hi.1 (by omega) hi.2.2;unfold zj7 at this;simp only[tb,Sum.elim_inr];exact this
theorem zjK{b:GL}(st:GQ b m v L)(k:yk b=aa b){c:GI}(d:c∈L){p:List GA}(j:vW b.f c.vV=aa p):qh ⟨b,m,v⟩ c.z6=aa (p,0):=by
 have h:=st.gr.len c d;unfold qh rD zV;rw[zjO];have g:=st.map.get c.z6;unfold C0 at g;rw[znD st d]at g;simp only[tb,s5,mb,g,jq,zq7 (st.gr.may c d) h.1 h.2,st.map.has,(zdi L c.z6).2 ⟨c,d,rfl⟩,ly,zbG k,j]
theorem zm7(hi:0<=i/\i<=255)(h:L≠[]):∃c∈L,zR L (Int.tmod (ai .i64 i) (ak L:Int))=aa c:=by
 have f:ai .i64 i=i:=by simp only[IntKind.wrap_i64];omega
 have g:0<(ak L):=jX.2 h;obtain⟨n,rfl⟩:=Int.eq_ofNat_of_zero_le hi.1;rw[f,Int.tmod_eq_emod_of_nonneg (by omega),<- Int.natCast_emod];have d:n % (ak L)<(ak L):=Nat.mod_lt _ g;exact⟨L[n % (ak L)],jF d,zu (rk d)⟩
theorem zhv(L:List GI)(w:List GA):evW L w=(L.map xM).filter λe=>gY w e.z6:=by
 unfold evW;rw[gK];rfl
theorem zt8{b:GL}{k:Int}(st:GQ b m v L)(hL:ak L<=12)(M:ak b.f<=64)(G:yk b=aa b)(hs:Small b.tree)(W:GC.e6 b.tree<=5592405)(B:ee 0 b.tree)(hw:∀c∈L,GJ.wf (xM c))(I:wu=aa true)(j:∀t,sY t t=aa true)(hi:0<=i/\i<=255)(H:0<=k/\k<=255):zj7 b ⟨b,m,v⟩ L i k=aa true:=by
 unfold zj7;by_cases h0:L=[]
 ·subst h0;simp[I]
 have hl:0<(ak L):=jX.2 h0;obtain⟨c,c1,c2⟩:=zm7 hi h0;obtain⟨d,K,S⟩:=zm7 H h0;obtain⟨p,p1,_,A,p4⟩:=Tm.zzw st M c1;obtain⟨q,q1,_,D,q4⟩:=Tm.zzw st M K;obtain⟨w,T,w2,U,w4⟩:=A.zzQ D (by omega);obtain⟨u,_,u1,Z,Y,u4⟩:=A.join D (by omega);have o:∀e∈L.map xM,yz e=true/\GJ.wf e:=λe s=>by
  obtain⟨x,R,rfl⟩:=lH.1 s;exact⟨(vT (st.gr.may x R)).ev,hw x R⟩
 have r:∀z:List GA,∃t,o8 0 b.tree (evW L z) t:=λz=>by
  refine znT _ 0 _ B ?_ λe s=>?_
  ·have:=jh (λc:GI=>gY z c.z6) L;unfold evW;rw[oa];omega
  ·rw[zhv]at s;exact o e (lQ.1 s).1
 have g:∀{z:List GA}{t:List GC},Tm b.f v L z->ak z<=16777216->o8 0 b.tree (evW L z) t->x6 ⟨b,m,v⟩ z=aa (t,0):=λhz C h=>by
  rw[zus st hL G hs W B.tree C h,hz.may];rfl
 obtain⟨tp,N⟩:=r p;obtain⟨tq,J⟩:=r q;obtain⟨tw,n⟩:=r w;obtain⟨V,O⟩:=r u;have key:ug tw tp tq=aa (V,0):=by
  have X:(λe:GJ=>gY w e.z6)=λe=>gY p e.z6&&gY q e.z6:=funext λe=>U e.z6;have f2:(λe:GJ=>gY u e.z6)=λe=>gY p e.z6 || gY q e.z6:=funext λe=>Y e.z6;refine zqC B (E:=L.map xM) (by rw[oa];omega) o ?_ ?_ (P:=λe=>gY p e.z6) (Q:=λe=>gY q e.z6) ?_ ?_ ?_ ?_
  ·rw[kz];exact st.gr.pw
  ·rw[kY];exact st.gr.gZ
  ·rw[<- X,<- zhv];exact n
  ·rw[<- zhv];exact N
  ·rw[<- zhv];exact J
  ·rw[<- f2,<- zhv];exact O
 rw[n4 (by simp;omega),ze (by omega),c2];simp only[tb];rw[zjK st G c1 p1];simp only[tb];rw[ze (by omega),S];simp only[tb];rw[zjK st G K q1];simp only[tb,kI,kN,s5,mb];rw[g A (by omega) N,g D (by omega) J,T,tb,tb,tb,g w2 (by omega) n,u1,tb,tb,g Z (by omega) O];simp only[tb,kI,kN,s5,mb,key,jJ,oS,j,I,lB]
theorem zay{b:GL}{l:List GI}{k:Int}(hs:Small b.tree)(B:GC.e6 b.tree<=5592405)(A:ak b.fb<=lim)(H:∀c∈l,GJ.wf (xM c))(d:∀t,sY t t=aa true)(hi:0<=i/\i<=255)(r:0<=k/\k<=255):xi b l i k=aa true:=by
 obtain⟨g,j⟩:=zd0 hs;by_cases o:ak l<=12/\(ak b.f)<=64
 ·obtain⟨o,h⟩:=o;have n:(ae ((ak l:Int) > 12))=false:=by simp;omega
  have s:(ae ((ak b.f:Int) > 64))=false:=by simp;omega
  cases g with
  |true =>
   unfold xi;rw[n,s,j];simp[zdd]
  |false =>
   cases hm:ziu b with
   |false =>
    unfold xi;rw[n,s,j,zqm hs h,hm];simp[zdd]
   |true =>
    obtain⟨C,N,M,I,_⟩:=zjX hm;have z:=zmq hs (by simp only[lim];omega) A;have D:=zpf hs I j;exact zo1 o h j (by rw[zqm hs h,hm]) (zup hs h hm) z C zdd λm v L st G J=>zt8 st G h z hs B D (λc K=>H c (J c K)) zdd d hi r
 ·have n:(ae ((ak l:Int) > 12) || ae ((ak b.f:Int) > 64))=true:=by
   grind
  unfold xi;rw[n];simp[zdd]
theorem zab(b:GL)(l:List GI)(i k:Int)(j:GL.wf b)(g:ak l<=maxLen/\∀y∈l,GI.wf y)(hi:dc .u8 i)(f:dc .u8 k)(o:((GL.bk b+((l.map GI.bk).sum+1))+1)+1<=1048576):xi b l i k=aa true:=by
 unfold GL.bk at o;have k2:ak b.fb<=(b.fb.map GA.bk).sum:=zbc (λx=>by unfold GA.bk;omega) b.fb;have r:∀{n:Int},dc .u8 n->0<=n/\n<=255:=λ{n} h=>by unfold dc at h;simpa[IntKind.min,IntKind.max,IntKind.signed,IntKind.bits]using h
 refine zay ⟨(GC.eM b.tree).2 j.2.2.2.2.2,by rw[GC.d9];omega⟩ (by rw[GC.d9];omega) (by simp only[lim];omega) (λc s=>?_) zdZ (r hi) (r f);have d:=g.2 c s;exact⟨d.1,d.2.2.2.1,d.2.2.2.2⟩
end
end Go.Vv
