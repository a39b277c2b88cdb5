/- Vectors: the program's and the document's are told by one function. -/
import Derived.Test.YtgobgfehoplnjaaGreatPlY0
set_option linter.all false
namespace Go.Vv
open Go
variable {c:GI} {L:List GI} {f g:GH->Int} {α ρ σ:Type} {m:List (GA×GI)} {v l F u:List GA} {S:GH->Prop} {m':List (GH×Int)} {d:GA} {i:Nat} {t t0:List GC}
section
theorem c3 (a b:GH):GH.fi a b=decide (a=b):=by
 cases a;cases b;simp [GH.fi,Bool.decide_and]
 grind
theorem zvg (a b:GA):GA.fi a b=decide (a=b):=by
 obtain ⟨⟨_,_⟩,_⟩:=a;obtain ⟨⟨_,_⟩,_⟩:=b;simp [GA.fi]
 grind
section
variable {K W:Type} [DecidableEq K] {eq:K->K->Bool} (he:∀a b,eq a b=decide (a=b))
include he
theorem zf9 (m:List (K×W)) (k x:K) (v d:W):zG eq d (wx eq m k v) x=if x=k then v else zG eq d m x:=by
 induction m with
 | nil=>simp [wx,zG,he]
 | cons e r ih =>
  simp only [wx,zG,he] at ih ⊢;by_cases h:k=e.1 <;> by_cases h2:x=e.1 <;> simp_all [zG]
  grind
theorem zap (m:List (K×W)) (k:K) (v:W):(wx eq m k v).map (·.1)=if k ∈ m.map (·.1) then m.map (·.1) else m.map (·.1)++[k]:=by
 induction m with
 | nil=>simp [wx]
 | cons e r ih =>
  simp only [wx,he] at ih ⊢
  grind
theorem zpT (m:List (K×W)) (k:K):vP eq m k=decide (k ∈ m.map (·.1)):=by
 induction m with
 | nil=>rfl
 | cons e r ih=>simp only [vP,he,ih,ld,lG,Bool.decide_or]
theorem mI (d:W):∀(m:List (K×W)),(m.map (·.1)).Nodup->∀e ∈ m,zG eq d m e.1=e.2
 | [],_,_,h=>by cases h
 | p::r,hn,e,h=>by
  simp only [ld,iA] at hn;simp only [zG,he];rcases lG.1 h with rfl | h
  ·simp
  ·rw [lq (by grind),mI d r hn.2 e h]
theorem s8 (d:W) (k:K):∀(m:List (K×W)),k ∉ m.map (·.1)->zG eq d m k=d
 | [],_=>rfl
 | p::r,h=>by
  simp only [ld,lG,not_or] at h;simp only [zG,he,h.1,jd,tx,lg,s8 d k r h.2]
end
def zp:List GA->GH->Int
 | [],_=>0
 | d::r,a=>if fa d=true/\d.zi=a then max d.seq (zp r a) else zp r a
theorem yW:∀(v:List GA) (a:GH),0<=zp v a
 | [],_=>kI _
 | d::r,a=>by have:=yW r a;simp only [zp];split <;> omega
theorem vm (a:GH):∀(u v:List GA),zp (u++v) a=max (zp u a) (zp v a)
 | [],v=>by have:=yW v a;simp only [lC,zp];omega
 | d::r,v=>by have:=vm a r v;simp only [kg,zp];split <;> omega
theorem xD {a:GH}:∀{v:List GA},0 < zp v a->∃d ∈ v,fa d=true/\d.zi=a/\d.seq=zp v a
 | [],h=>by simp [zp] at h
 | d::r,h=>by
  simp only [zp] at h ⊢;by_cases hd:fa d=true/\d.zi=a
  ·rw [lc hd] at h ⊢;by_cases hm:zp r a<=d.seq
   ·grind
   ·obtain ⟨x,j,e⟩:=xD (v:=r) (a:=a) (by omega)
    grind
  ·rw [lq hd] at h ⊢;obtain ⟨x,j,e⟩:=xD h
   grind
theorem tM {a:GH} {d:GA}:∀{v:List GA},d ∈ v->fa d=true->d.zi=a->d.seq<=zp v a
 | x::r,h,h1,h2=>by
  simp only [zp];rcases lG.1 h with rfl | h
  ·grind
  ·have:=tM h h1 h2;split <;> omega
def b5 (f:GH->Int):Prop:=∀a,0<=f a/\(0 < f a->fa ⟨a,f a⟩=true)
theorem oG (v:List GA):b5 (zp v):=λa=>⟨yW v a,λh=>by
 obtain ⟨d,n,e,k,j⟩:=xD h;rw [<- j];subst k;exact e⟩
def dJ (a b:GH):Prop:=a.fj < b.fj \/ a.fj=b.fj/\a.inc < b.inc
structure Can (L:List GA) (f:GH->Int):Prop where
 pw:L.Pairwise λa b=>dJ a.zi b.zi
 mem:∀d,d ∈ L ↔ 0 < d.seq/\d.seq=f d.zi
theorem za8 (a:GH):¬ dJ a a:=by unfold dJ;omega
theorem zju {a b c:GH} (h:dJ a b) (k:dJ b c):dJ a c:=by unfold dJ at *;omega
theorem cn (a b:GH):a=b \/ dJ a b \/ dJ b a:=by
 obtain ⟨r,i⟩:=a;obtain ⟨s,j⟩:=b;simp only [dJ,GH.mk.injEq];omega
theorem Can.eq {L M:List GA} (h:Can L f) (k:Can M f):L=M :=
 uG (lt:=λa b=>dJ a.zi b.zi) (λa=>za8 _) (λ_ _ _=>zju) L M h.pw k.pw λd=>by rw [h.mem,k.mem]
theorem Can.get {L:List GA} (h:Can L f) (e:b5 f) (a:GH):zp L a=f a:=by
 by_cases h0:0 < f a
 ·have o:(⟨a,f a⟩:GA) ∈ L:=(h.mem _).2 ⟨h0,rfl⟩;have p:=tM o ((e a).2 h0) rfl;obtain ⟨d,j,_,n,k⟩:=xD (v:=L) (a:=a) (by grind);have:=((h.mem d).1 j).2
  simp_all
 ·have p:=(e a).1;have j:=yW L a;by_cases n:0 < zp L a
  ·obtain ⟨d,k,_,r,q⟩:=xD n;have:=(h.mem d).1 k
   simp_all
  ·omega
theorem few:∀(L:List Nat) (lo n:Nat),L.Pairwise (· < ·)->(∀x ∈ L,lo<=x/\x < n)->L.length<=n - lo
 | [],_,_,_,_=>lX _
 | x::r,lo,n,hp,hb=>by
  have j:=hb x (by simp);have e:=ll.1 hp;have:=few r (x+1) n e.2 λy h=>⟨e.1 y h,(hb y (by simp [h])).2⟩
  grind
theorem Can.len {L:List GA} (h:Can L f) (k:b5 f) (q:∀d ∈ L,0<=d.zi.fj):L.length<=64:=by
 have j:∀d ∈ L,0<=d.zi.fj/\d.zi.fj < 16/\1<=d.zi.inc/\d.zi.inc<=4:=λd hd=>by
  have r:=(h.mem d).1 hd;have p:=(k d.zi).2 (by omega);simp only [fa,zjt,tr,so] at p
  simp_all
 have:=few (L.map λd=>(d.zi.fj * 4+d.zi.inc - 1).toNat) 0 64 (by
  rw [kZ];refine h.pw.imp_of_mem λ{a b} n e o=>?_;have:=j a n;have:=j b e;unfold dJ at o;omega) λx s=>by
   grind
 simp_all
end
section
theorem zaq {α:Type} {lt:α->α->Prop} (r:∀x y z,lt x y->lt y z->lt x z):∀(L:List α),L.Pairwise (λx y=>lt x y \/ lt y x)->∃R:List α,R.Perm L/\R.Pairwise lt
 | [],_=>⟨[],.refl _,.nil⟩
 | x::L,h=>by
  obtain ⟨q,p⟩:=ll.1 h;obtain ⟨R,n,hs⟩:=zaq r L p;have ins:∀(R:List α),R.Pairwise lt->(∀y ∈ R,lt x y \/ lt y x)->∃Q:List α,Q.Perm (x::R)/\Q.Pairwise lt:=by
   intro R
   induction R with
   | nil=>exact λ_ _=>⟨[x],.refl _,by simp⟩
   | cons y R ih =>
    intro hs o;obtain ⟨w,s2⟩:=ll.1 hs;rcases o y (by simp) with h | h
    ·refine ⟨x::y::R,.refl _,ll.2 ⟨λz j=>?_,hs⟩⟩
     grind
    ·obtain ⟨Q,e,k⟩:=ih s2 λz j=>o z (by simp [j]);refine ⟨y::Q,(List.Perm.cons y e).trans (List.Perm.swap x y R),ll.2 ⟨λz j=>?_,k⟩⟩
     grind
  obtain ⟨Q,e,k⟩:=ins R hs λy s=>q y (n.mem_iff.1 s);exact ⟨Q,e.trans (List.Perm.cons x n),k⟩
theorem ziN {α ρ σ:Type} {f:Nat->Nat->σ->Option (Out ρ σ)} {g:Nat->α->σ->Option (Out ρ σ)} {V:List α} (h:∀i x y s,V[i]?=some x->f i y s=g i x s):∀(R:List Nat) (pre rest:List α) (s:σ),V=pre++rest->R.length=rest.length->zf f R pre.length s=zf g rest pre.length s
 | [],_,[],_,_,_=>rfl
 | y::R,pre,x::rest,s,hV,hR=>by
  have e:V[pre.length]?=some x:=by rw [hV];simp
  simp only [zf,h _ _ y s e];rcases g pre.length x s with _ | (r | j | j) <;> try rfl
  simpa using ziN h R (pre++[x]) rest j (by simp [hV]) (by simp_all)
theorem zj1 {f:Nat->Nat->σ->Option (Out ρ σ)} (g:Nat->α->σ->Option (Out ρ σ)) {V:List α} (h:∀i x y s,V[i]?=some x->f i y s=g i x s) (s:σ):zf f (List.range (((V.length:Nat):Int)).toNat) 0 s=zf g V 0 s :=
 ziN h _ [] V s rfl (by simp)
structure eM (m:List (GH×Int)) (f:GH->Int):Prop where
 nd:(m.map (·.1)).Nodup
 get:∀a,zG GH.fi 0 m a=f a
theorem mG:∀(v:List GA) (i:Nat) (s:List (GH×Int)) (g:GH->Int),eM s g->(∀a,0<=g a) ->
  ∃j,zf (λ(B:Nat) (n:GA) (o:List (GH×Int))=>(((pB n).bind λy=>(if y=true then some (.gV (wx GH.fi o n.zi (if n.seq > (zG GH.fi (0:Int) o n.zi) then n.seq else (zG GH.fi (0:Int) o n.zi)))) else some (.gV o))):Option (Out (List (GH×Int)) (List (GH×Int))))) v i s=some (.inr j) /\
   eM j (λa=>max (g a) (zp v a))/\j.length<=s.length+v.length
 | [],i,s,g,h,hg=>⟨s,rfl,⟨h.nd,λa=>by have:=hg a;simp only [zp,h.get];omega⟩,n4 _ _⟩
 | x::r,i,s,g,h,hg=>by
  simp only [zf,sD,tb];cases hb:fa x with
  | false =>
   simp only [tx,lg];obtain ⟨j,e,k,l⟩:=mG r (i+1) s g h hg;exact ⟨j,e,⟨k.nd,λa=>by rw [k.get];simp [zp,hb]⟩,by simp;omega⟩
  | true =>
   simp only [nv];have q:eM (wx GH.fi s x.zi (if x.seq > zG GH.fi 0 s x.zi then x.seq else zG GH.fi 0 s x.zi)) (λa=>if a=x.zi then max (g a) x.seq else g a):=by
    refine ⟨?_,λa=>?_⟩
    ·rw [zap c3];split
     ·exact h.nd
     ·rename_i A;rw [List.nodup_append];exact ⟨h.nd,by simp,λa p b w=>by grind⟩
    ·rw [zf9 c3,h.get,h.get]
     grind
   obtain ⟨j,e,k,l⟩:=mG r (i+1) _ _ q (λa=>by grind);refine ⟨j,e,⟨k.nd,λa=>?_⟩,?_⟩
   ·rw [k.get];have:=yW r a;by_cases p:a=x.zi
    ·subst p;simp only [nv,zp,hb,gD];omega
    ·rw [lq p];simp only [zp];rw [lq (λh=>p h.2.symm)]
   ·have z:(wx GH.fi s x.zi (if x.seq > zG GH.fi 0 s x.zi then x.seq else zG GH.fi 0 s x.zi)).length<=s.length+1:=by
     have:=congrArg List.length (zap c3 s x.zi (if x.seq > zG GH.fi 0 s x.zi then x.seq else zG GH.fi 0 s x.zi))
     grind
    grind
theorem sq (v:List GA):∃m,xn v=some m/\eM m (zp v)/\m.length<=v.length:=by
 obtain ⟨h,e,k,l⟩:=mG v 0 [] (λ_=>0) ⟨by simp,λ_=>rfl⟩ (λ_=>kI _);refine ⟨h,by unfold xn;rw [e];rfl,⟨k.nd,λa=>?_⟩,by simpa using l⟩;rw [k.get];have:=yW v a;omega
theorem zh4 (a b:GH):oY a b < 0 ↔ dJ a b:=by
 unfold oY tX ao dJ;grind
theorem zfy {m:List (GH×Int)} (h:eM m f) (z:m.length<=lim) (h0:∀a,0 < f a->a ∈ m.map (·.1)):∃L,qd m=some L/\Can L f:=by
 obtain ⟨R,w,hs⟩:=zaq (lt:=dJ) (λ_ _ _=>zju) (m.map (·.1)) (h.nd.imp λ{a b} r=>by
  rcases cn a b with e | e | e
  ·exact (r e).elim
  ·exact .inl e
  ·exact .inr e)
 have n:R.length<=lim:=by rw [w.length_eq];simpa using z
 have G:c4 m (λ(C:List (GH×Int))=>((qA (λx y=>qT x y) (C.map (λx=>x.1))).bind λq=>some q))=some R:=za6 λp o=>by
  rw [zbv (cf:=oY) (lt:=dJ) (R:=R) (λx _ y _=>mW x y) zh4 za8 (λ_ _ _=>zju) (λx _ y _=>cn x y) (w.trans (o.symm.map _)) hs (by rw [oS,o.length_eq];exact z)];rfl
 unfold qd;simp only [zQ,lc z,G,tb];rw [lc (by simp only [lim] at n;omega)];have D:=rS (ρ:=List GA) (λa=>decide (0 < f a)) (λa=>(⟨a,f a⟩:GA)) (f:=λ(H:Nat) (j:GH) (k:List GA)=>if decide (zG GH.fi 0 m j > 0)=true then (if k.length+[(⟨j,zG GH.fi 0 m j⟩:GA)].length<=lim then some (Out.gV (k++[⟨j,zG GH.fi 0 m j⟩])) else none) else some (.gV k)) R 0 [] (by simpa using n) (λi a s I hs=>by
  simp only [h.get,gT,kG,lc hs])
 rw [zj1 (g:=λ(H:Nat) (j:GH) (k:List GA)=>if decide (zG GH.fi 0 m j > 0)=true then (if k.length+[(⟨j,zG GH.fi 0 m j⟩:GA)].length<=lim then some (Out.gV (k++[⟨j,zG GH.fi 0 m j⟩])) else none) else some (.gV k)) (λi x y s E=>by
  rw [zt E];rfl),D]
 refine ⟨_,rfl,?_,λd=>?_⟩
 ·rw [lC,kZ]
  grind
 ·simp only [lC,l4,kL,so];constructor
  ·rintro ⟨a,⟨_,A⟩,rfl⟩;exact ⟨A,rfl⟩
  ·rintro ⟨A,B⟩
   refine ⟨d.zi,⟨w.mem_iff.2 (h0 _ (by omega)),by omega⟩,by rw [<- B]⟩
theorem eM.key {m:List (GH×Int)} (h:eM m f) (a:GH) (h0:0 < f a):a ∈ m.map (·.1):=ir λe=>by
 have:=h.get a;rw [s8 c3 0 a m e] at this;omega
theorem zoa (h:v.length<=lim):∃L,rg v=some L/\Can L (zp v):=by
 obtain ⟨m,e,k,l⟩:=sq v;obtain ⟨L,j,c⟩:=zfy k (lu l h) k.key;exact ⟨L,by unfold rg;rw [e];simp only [tb,j],c⟩
theorem zgy (v:List GA) (a:GH):zdW v a=some (zp v a):=by
 obtain ⟨m,e,k,_⟩:=sq v;unfold zdW;rw [e];simp only [tb,k.get]
def g8 (v:List GA) (d:GA):Bool:=fa d&&decide (d.seq<=zp v d.zi)
theorem uk (v:List GA) (d:GA):tQ v d=some (g8 v d):=by
 unfold tQ g8;rw [sD];simp only [tb,zgy]
 grind
end
section
structure eO (m:List (GH×Int)) (f:GH->Int) (S:GH->Prop):Prop where
 nd:(m.map (·.1)).Nodup
 get:∀a,zG GH.fi 0 m a=f a
 key:∀a,a ∈ m.map (·.1) ↔ S a
theorem eO.mem {m:List (GH×Int)} (h:eO m f S) (e:GH×Int):e ∈ m ↔ S e.1/\e.2=f e.1:=by
 constructor
 ·intro he;exact ⟨(h.key _).1 (l4.2 ⟨e,he,rfl⟩),by rw [<- h.get,mI c3 0 m h.nd e he]⟩
 ·rintro ⟨o,n⟩
  obtain ⟨k,p,j⟩:=l4.1 ((h.key _).2 o);have:=mI c3 0 m h.nd k p;have q:e=k:=Prod.ext j.symm (by rw [n,<- h.get,<- j,this])
  simp_all
theorem zan {β:Type} {m:List (α×β)} (h:(m.map (·.1)).Nodup):m.Nodup:=by
 rw [kF,kZ] at h;rw [kF];exact h.imp λj e=>j (by rw [e])
theorem eO.perm {m:List (GH×Int)} (h:eO m f S) (k:eO m' f S):m.Perm m' :=
 (List.perm_ext_iff_of_nodup (zan h.nd) (zan k.nd)).2 λe=>by rw [h.mem,k.mem]
theorem eO.dc {m:List (GH×Int)} (h:eO m f S) (p:m'.Perm m):eO m' f S:=by
 have k:(m'.map (·.1)).Nodup:=(p.map _).nodup_iff.2 h.nd;have n:∀a,a ∈ m'.map (·.1) ↔ S a:=λa=>by rw [(p.map (·.1)).mem_iff,h.key]
 refine ⟨k,λa=>?_,n⟩;by_cases ha:a ∈ m'.map (·.1)
 ·obtain ⟨e,j,q⟩:=l4.1 ha;have s:=mI c3 0 m' k e j;have r:=((h.mem e).1 (p.mem_iff.1 j)).2
  simp_all
 ·rw [s8 c3 0 a m' ha,<- h.get,s8 c3 0 a m λo=>ha ((p.map (·.1)).mem_iff.2 o)]
theorem eM.k {m:List (GH×Int)} (h:eM m f):eO m f (λa=>a ∈ m.map (·.1)):=⟨h.nd,h.get,λ_=>Iff.rfl⟩
theorem eO.put {m:List (GH×Int)} (h:eO m f S) (x:GH) (v:Int):eO (wx GH.fi m x v) (λa=>if a=x then v else f a) (λa=>S a \/ a=x):=by
 refine ⟨?_,λa=>by rw [zf9 c3,h.get],λa=>?_⟩
 ·rw [zap c3];split
  ·exact h.nd
  ·rename_i e;rw [List.nodup_append];exact ⟨h.nd,by simp,λa n b j=>by grind⟩
 ·rw [zap c3];split
  ·rename_i e;rw [h.key];constructor
   ·exact .inl
   ·rintro (k | rfl)
    ·exact k
    ·exact (h.key _).1 e
  ·simp [h.key]
theorem zhh {ρ:Type} {F:Nat->GH×Int->List (GH×Int)->Option (Out ρ (List (GH×Int)))} {w:GH->Int}:∀(p:List (GH×Int)) (i:Nat) (s:List (GH×Int)) (f:GH->Int) (S:GH->Prop),
  (∀e ∈ p,∀i s,F i e s=some (.gV (wx GH.fi s e.1 (w e.1))))->eO s f S ->
  ∃j,zf F p i s=some (.inr j)/\eO j (λa=>if a ∈ p.map (·.1) then w a else f a) (λa=>S a \/ a ∈ p.map (·.1))
 | [],i,s,f,S,_,h=>⟨s,rfl,by simpa using h⟩
 | e::r,i,s,f,S,hF,h=>by
  simp only [zf,hF e (by simp)];obtain ⟨j,n,k⟩:=zhh r (i+1) _ _ _ (λx o=>hF x (by simp [o])) (h.put e.1 (w e.1));refine ⟨j,n,k.nd,λa=>?_,λa=>?_⟩
  ·rw [k.get]
   grind
  ·rw [k.key];simp only [ld,lG];exact or_assoc
theorem zqB {a b:List (GH×Int)} {c:Int->Int->Int} {q:Int->Int->Option Int} (G:eM a f) (C:eM b g) (r:∀x y,q x y=some (c x y)) (U:c 0 0=0) :
  ∃m,wN a b q=some m/\eO m (λx=>c (f x) (g x)) (λx=>x ∈ a.map (·.1) \/ x ∈ b.map (·.1)):=by
 have run:∀n:List (GH×Int),n.Perm a->∃h,zf (λ(_:Nat) (p:(GH×Int)) (h:List (GH×Int))=>(((q p.2 (zG GH.fi (0:Int) b p.1)).bind λv4=>some (.gV (wx GH.fi h p.1 v4))):Option (Out (List (GH×Int)) (List (GH×Int))))) n 0 []=some (.inr h) /\
   ∀j:List (GH×Int),j.Perm b->∃s2,zf (λ(_:Nat) (o:(GH×Int)) (s2:List (GH×Int))=>(((q (zG GH.fi (0:Int) a o.1) o.2).bind λB=>some (.gV (wx GH.fi s2 o.1 B))):Option (Out (List (GH×Int)) (List (GH×Int))))) j 0 h=some (.inr s2)/\eO s2 (λx=>c (f x) (g x)) (λx=>x ∈ a.map (·.1) \/ x ∈ b.map (·.1)):=by
  intro n A;have k1:=G.k.dc A;obtain ⟨h,E,N⟩:=zhh (w:=λx=>c (f x) (g x)) n 0 [] (λ_=>0) (λ_=>False) (F:=λ(_:Nat) (p:(GH×Int)) (h:List (GH×Int))=>(((q p.2 (zG GH.fi (0:Int) b p.1)).bind λv4=>some (.gV (wx GH.fi h p.1 v4))):Option (Out (List (GH×Int)) (List (GH×Int))))) (λe he i s=>by
   simp only [r,tb,C.get,((k1.mem e).1 he).2]) ⟨by simp,λ_=>rfl,λ_=>by simp⟩
  refine ⟨h,E,λj z=>?_⟩;have k2:=C.k.dc z;obtain ⟨s2,D,n2⟩:=zhh (w:=λx=>c (f x) (g x)) j 0 h _ _ (F:=λ(_:Nat) (o:(GH×Int)) (s2:List (GH×Int))=>(((q (zG GH.fi (0:Int) a o.1) o.2).bind λB=>some (.gV (wx GH.fi s2 o.1 B))):Option (Out (List (GH×Int)) (List (GH×Int))))) (λe he i s=>by
   simp only [r,tb,G.get,((k2.mem e).1 he).2]) N
  refine ⟨s2,D,n2.nd,λx=>?_,λx=>?_⟩
  ·rw [n2.get];by_cases h3:x ∈ j.map (·.1)
   ·simp [h3]
   ·by_cases h4:x ∈ n.map (·.1)
    ·simp_all
    ·rw [lq h3,lq h4];have R:f x=0:=by rw [<- k1.get,s8 c3 0 x n h4]
     have Q:g x=0:=by rw [<- k2.get,s8 c3 0 x j h3]
     simp_all
  ·rw [n2.key,k1.key,k2.key];simp
 obtain ⟨h,E,H⟩:=run a (.refl _);obtain ⟨s2,D,n2⟩:=H b (.refl _);refine ⟨nrm s2,?_,n2.dc (ziB s2)⟩;unfold wN;refine za6 λn A=>?_;obtain ⟨T,I,J⟩:=run n A;rw [I];refine za6 λj z=>?_;obtain ⟨P,M,O⟩:=J j z;rw [M];exact congrArg some (zr8 (O.perm n2))
theorem eO.len {m:List (GH×Int)} {a b:List (GH×Int)} (h:eO m f (λx=>x ∈ a.map (·.1) \/ x ∈ b.map (·.1))):m.length<=a.length+b.length:=by
 have:=(kF.1 h.nd)
 have hs:(m.map (·.1)).length<=(a.map (·.1)++b.map (·.1)).length:=h.nd.length_le_of_subset λx e=>by simpa using (h.key x).1 e
 simp_all
theorem zkz {a b:List GA} (I:a.length+b.length<=lim) {c:Int->Int->Int} {k:Int->Int->Option Int} (j:∀x y,k x y=some (c x y)) (G:c 0 0=0) (H:∀x y,0<=x->0<=y->0 < c x y->0 < x \/ 0 < y) :
  ∃L,((xn a).bind λw=>((xn b).bind λA=>((wN w A k).bind λv3=>c4 v3 (λ(r:List (GH×Int))=>((qd r).bind λv5=>some v5)))))=some L/\Can L (λx=>c (zp a x) (zp b x)):=by
 obtain ⟨m,D,k1,J⟩:=sq a;obtain ⟨n,z,k2,N⟩:=sq b;obtain ⟨q,E,k3⟩:=zqB k1 k2 j G;have key:∀p:List (GH×Int),p.Perm q->∃L,qd p=some L/\Can L (λx=>c (zp a x) (zp b x)):=λp h=>by
  have e:=k3.dc h;exact zfy ⟨e.nd,e.get⟩ (by have:=e.len;omega) λx C=>(eM.key ⟨e.nd,e.get⟩ x C)
 obtain ⟨L,O,o⟩:=key q (.refl _);refine ⟨L,?_,o⟩;rw [D,z];simp only [tb,E];refine za6 λp h=>?_;obtain ⟨M,s,B⟩:=key p h;rw [s,B.eq o];rfl
theorem zp6 {a b:List GA} (e:a.length+b.length<=lim):∃L,qC a b=some L/\Can L (λx=>max (zp a x) (zp b x)) :=
 zkz (c:=λx y=>max x y) e (λx y=>by unfold zas;congr 1;split <;> omega) (by decide) (λx y _ _ h=>by omega)
theorem zpV {a b:List GA} (e:a.length+b.length<=lim):∃L,zcL a b=some L/\Can L (λx=>min (zp a x) (zp b x)) :=
 zkz (c:=λx y=>min x y) e (λx y=>by unfold zar;congr 1;split <;> omega) (by decide) (λx y _ _ h=>by omega)
open Classical in
noncomputable def fx (a b:List GA):Bool:=decide (∀x,zp a x<=zp b x)
open Classical in
theorem rI (a b:List GA):wj a b=some (fx a b):=by
 obtain ⟨m,z,k1,B⟩:=sq a;obtain ⟨n,w,k2,C⟩:=sq b;unfold wj;rw [z,w];simp only [tb];refine za6 λp h=>?_;have k3:=k1.k.dc h;have run:∀(r:List (GH×Int)) (i:Nat),zf (λ(_:Nat) (q:(GH×Int)) (A:Unit)=>((if (decide (q.2 > (zG GH.fi (0:Int) n q.1)))=true then some (.ret false) else some (.gV ())):Option (Out Bool Unit))) r i ()=some (if (r.all λe=>decide (e.2<=zp b e.1))=true then .inr () else .inl false):=by
  intro r
  induction r with
  | nil=>intro i;rfl
  | cons e r ih =>
   intro i;rw [zf];simp only [k2.get e.1,l8]
   grind
 rw [run];have s:(p.all λe=>decide (e.2<=zp b e.1))=fx a b:=by
  unfold fx;rw [lQ,nK,so];constructor
  ·intro j x;by_cases hx:x ∈ p.map (·.1)
   ·obtain ⟨e,o,rfl⟩:=l4.1 hx;have:=j e o;rw [so,((k3.mem e).1 o).2] at this;exact this
   ·have y:=k3.get x;rw [s8 c3 0 x p hx] at y;have:=yW b x;omega
  ·intro j e he;rw [so,((k3.mem e).1 he).2];exact j _
 rw [s];cases fx a b <;> rfl
end
section
theorem zco {α ρ σ:Type} {f:Nat->α->σ->Option (Out ρ σ)} {V:List α} (I:List α->σ->Prop) (h:∀pre x rest s,V=pre++x::rest->V[pre.length]?=some x->I pre s->∃j,f pre.length x s=some (.gV j)/\I (pre++[x]) j) :
  ∀(rest pre:List α) (s:σ),V=pre++rest->I pre s->∃j,zf f rest pre.length s=some (.inr j)/\I V j
 | [],pre,s,e,hi=>⟨s,rfl,by simp_all⟩
 | x::rest,pre,s,e,hi=>by
  obtain ⟨o,k,n⟩:=h pre x rest s e (by rw [e];simp) hi;simp only [zf,k];simpa using zco I h rest (pre++[x]) o (by simp [e]) n
theorem zdx {τ:Type} (P:Option τ->Prop) {f:Nat->α->σ->Option (Out τ σ)} {V:List α} {n:σ} {rest:σ->Option τ} (I:List α->σ->Prop) (h:∀pre x rest s,V=pre++x::rest->V[pre.length]?=some x->I pre s->∃j,f pre.length x s=some (.gV j)/\I (pre++[x]) j) (h0:I [] n) (k:∀j,I V j->P (rest j)):P (lp (zf f V 0 n) rest):=by
 obtain ⟨j,e,o⟩:=zco I h V [] n rfl h0
 simp_all
theorem sV (v:List GA) (a:GH):uy v a=some (zp v a):=by
 unfold uy;obtain ⟨A,e,h⟩:=zco (ρ:=Int) (f:=λ(j:Nat) (o:GA) (n:Int)=>(((vg o).bind λk=>(zQ ((k==true)=true->0<=(j:Int)/\(j:Int) < ((v).length:Int)) ((zQ (((k&&(((v).getD (j:Int).toNat default).zi.fj==a.fj&&(((v).getD (j:Int).toNat default).zi.inc==a.inc&&true)))==true)=true->0<=(j:Int)/\(j:Int) < ((v).length:Int)) ((if ((k&&(((v).getD (j:Int).toNat default).zi.fj==a.fj&&(((v).getD (j:Int).toNat default).zi.inc==a.inc&&true)))&&(decide (((v).getD (j:Int).toNat default).seq > n)))=true then some (.gV o.seq) else some (.gV n))))))):Option (Out _ Int))) (V:=v) (λpre s=>s=zp pre a) (λpre x rest s q w hi=>by
  subst hi;have B:pre.length < v.length:=by rw [q];simp
  have p:v.getD pre.length default=x:=by rw [lz,w];rfl
  rw [qM];simp only [tb,nr,p,kU];have z:(0:Int)<=(pre.length:Int)/\(pre.length:Int) < (v.length:Int):=by omega
  simp only [zQ,z,jZ,hY,nv];have r:zp (pre++[x]) a=if fa x=true/\x.zi=a then max (zp pre a) x.seq else zp pre a:=by
   rw [vm];have:=yW pre a;simp only [zp];split <;> omega
  have y:(x.zi.fj==a.fj&&x.zi.inc==a.inc)=decide (x.zi=a):=by
   obtain ⟨⟨_,_⟩,_⟩:=x;cases a;simp only [GH.mk.injEq,Bool.decide_and];rfl
  rw [r,y];cases fa x
  ·exact ⟨_,by simp;rfl,by simp⟩
  ·by_cases ha:x.zi=a
   ·by_cases hs:x.seq > zp pre a
    ·grind
    ·grind
   ·exact ⟨_,by simp [ha];rfl,by simp [ha]⟩) v [] 0 rfl rfl
 rw [show (0:Nat)=([]:List GA).length from rfl,e,h];rfl
theorem sU (v:List GA) (d:GA):qN v d=some (g8 v d):=by
 unfold qN g8;rw [qM];simp only [tb,sV]
 grind
theorem zfI {L:List α} (A:L.length<=16777216) (p:α->Bool) {f:Int->Option (Out ρ Int)} (w:∀(i:Nat) (y:α),L[i]?=some y->f i=if p y=true then some (.gV ((i+1:Nat):Int)) else some (.brk i)) (x:f L.length=some (.brk L.length)) :
  zY f 0=some (.inr ((L.takeWhile p).length:Int)):=by
 obtain ⟨s,e,h⟩:=w9 (f:=f) (λs=>∃i:Nat,s=i/\i<=(L.takeWhile p).length) (λs=>s=((L.takeWhile p).length:Int)) (λs=>L.length - s.toNat) (by
  rintro s ⟨i,rfl,hi⟩
  have z:=(kH (l:=L) p).length_le;by_cases he:i=L.length
  ·grind
  ·obtain ⟨y,o⟩:∃y,L[i]?=some y:=⟨L[i]'(by omega),s5 _⟩
   have j:=w i y o;by_cases hp:p y=true
   ·rw [lc hp] at j;refine .inr ⟨_,j,⟨i+1,rfl,?_⟩,by omega⟩;refine Nat.lt_of_le_of_ne hi λr=>?_;have hd:L.dropWhile p=y::L.drop (i+1):=by
     have n:=lO (p:=p) (l:=L);have q:L.drop i=L.dropWhile p:=by
      conv=>lhs;rw [<- n]
      grind
     rw [<- q,iq (by omega)]
     grind
    have:=List.head?_dropWhile_not p L
    simp_all
   ·rw [lq hp] at j;refine .inl ⟨_,j,?_⟩;congr 1;refine Nat.le_antisymm hi (Nat.le_of_not_lt λk=>hp ?_);have n:(L.takeWhile p)[i]?=some y:=by
     rw [jz.1 (kH (l:=L) p),m4,lc k];exact o
    exact (nK.1 (List.all_takeWhile (p:=p) (l:=L))) y (lf n)) _ 0 rfl ⟨0,rfl,lX _⟩
 rw [e,h]
theorem zla {α:Type} {lt:α->α->Prop} (j:∀x y z,lt x y->lt y z->lt x z) (p:α->Bool) (x:α):∀L:List α,L.Pairwise lt->(∀y ∈ L,p y=true->lt y x)->(∀y ∈ L,p y=false->lt x y)->(L.takeWhile p++[x]++L.drop (L.takeWhile p).length).Pairwise lt
 | [],_,_,_=>by simp
 | y::L,h,h1,h2=>by
  obtain ⟨k1,k2⟩:=ll.1 h;cases hp:p y with
  | true =>
   have k:=zla j p x L k2 (λz e=>h1 z (by simp [e])) (λz e=>h2 z (by simp [e]));simp only [kx,hp,nv,kg,m3,hL];refine ll.2 ⟨λz e=>?_,k⟩;rcases lj.1 e with e | e
   ·rcases lj.1 e with e | e
    ·exact k1 z ((kH p).subset e)
    ·simp_all
   ·grind
  | false =>
   simp only [kx,hp,tx,lg,lC,lF,k9,j9];refine ll.2 ⟨λz e=>?_,h⟩
   grind
theorem zlw (p:α->Bool) (x y:α) (L:List α):y ∈ L.takeWhile p++[x]++L.drop (L.takeWhile p).length ↔ y ∈ L \/ y=x:=by
 have:L.drop (L.takeWhile p).length=L.dropWhile p:=by
  have:=jW (l₁:=L.takeWhile p) (l₂:=L.dropWhile p)
  rwa [lO] at this
 rw [this]
 conv=>rhs;rw [<- lO (p:=p) (l:=L)]
 grind
theorem zgx {a b:GA} (h:a.zi ≠ b.zi):gU a b=true ↔ dJ a.zi b.zi:=by
 obtain ⟨⟨r,i⟩,s⟩:=a;obtain ⟨⟨t,j⟩,u⟩:=b;simp only [ne_eq,GH.mk.injEq] at h;simp only [gU,dJ];grind
theorem sL (P:v.length<=16777216):∃L,vz v=some L/\Can L (zp v):=by
 unfold vz;refine zdx (λo=>∃L,o=some L/\Can L (zp v)) (λpre s=>s.Pairwise (λa b=>dJ a.zi b.zi)/\(∀d,d ∈ s ↔ d ∈ pre/\fa d=true/\d.seq=zp v d.zi)/\s.length<=pre.length) (λpre x rest s M C hi=>?_) ⟨.nil,by simp,oA _⟩ λE h=>⟨E,rfl,h.1,λd=>?_⟩
 ·obtain ⟨H,q,Q⟩:=hi;have O:pre.length < v.length:=by rw [M];simp
  have G:v.getD pre.length default=x:=by simp_all
  have N:(0:Int)<=(pre.length:Int)/\(pre.length:Int) < (v.length:Int):=by omega
  rw [qM];simp only [tb,nr,G,sV];simp only [zQ,N,jZ,hY,nv];have g7:¬ (fa x=true/\x.seq=zp v x.zi/\¬ 0 < zp s x.zi)->(∀d,d ∈ s ↔ d ∈ pre++[x]/\fa d=true/\d.seq=zp v d.zi):=λw d=>by
   rw [q];simp only [lj,lh];refine ⟨λh=>⟨.inl h.1,h.2⟩,λh=>⟨?_,h.2⟩⟩;rcases h.1 with p | rfl
   ·exact p
   ·have h0:0 < zp s d.zi:=ir λC=>w ⟨h.2.1,h.2.2,C⟩;obtain ⟨e,I,_,D,R⟩:=xD h0;have z:=(q e).1 I;have:e=d:=by
     obtain ⟨_,_⟩:=e;obtain ⟨_,_⟩:=d;simp only at D z h ⊢;simp [D,z.2.2,h.2.2]
    simp_all
  by_cases w:fa x=true/\x.seq=zp v x.zi/\¬ 0 < zp s x.zi
  ·obtain ⟨J,n2,A⟩:=w;have j:∀y ∈ s,y.zi ≠ x.zi:=λy k he=>A (by
    have p:=(q y).1 k;have n:=tM k p.2.1 he;have r:=p.2.1;simp only [fa,tr,so] at r;omega)
   refine ⟨s.takeWhile (λy=>gU y x)++[x]++s.drop (s.takeWhile λy=>gU y x).length,?_,?_,λd=>?_,?_⟩
   ·have hs:s.length<=16777216:=by omega
    simp only [J,<- n2,A,lH,jn,jk,jd,tx,lg,jL,nv,tb];rw [zfI hs (λy=>gU y x) (λi y k=>by
     have p:i < s.length:=(tm.1 k).1;have n:s.getD i default=y:=by simp_all
     have r:(0:Int)<=(i:Int)/\(i:Int) < (s.length:Int):=by omega
     simp only [r,jZ,hY,nv,jq,jL,nr,n,vh,tb,lA];rw [xF (by omega)]) (by simp)]
    have:=(kH (l:=s) λy=>gU y x).length_le;simp only [lp,show fL s 0 ((s.takeWhile λy=>gU y x).length:Int)=some (s.take (s.takeWhile λy=>gU y x).length) from zov (by omega),zsW _ _ this,<- jz.1 (kH (l:=s) λy=>gU y x),tb,lC,lF,ng,jC,kG,lim]
    grind
   ·refine zla (lt:=λa b:GA=>dJ a.zi b.zi) (λ_ _ _=>zju) _ x s H (λy k h=>(zgx (j y k)).1 h) λy k h=>?_;rcases cn x.zi y.zi with e | e | e
    ·grind
    ·exact e
    ·rw [(zgx (j y k)).2 e] at h;cases h
   ·rw [zlw,q];simp only [lj,lh]
    grind
   ·have:=(kH (l:=s) λy=>gU y x).length_le
    grind
  ·grind
 ·rw [h.2.1];constructor
  ·rintro ⟨_,n,r⟩
   simp only [fa,tr,so] at n;omega
  ·rintro ⟨p,n⟩
   obtain ⟨x,k1,k2,k3,B⟩:=xD (v:=v) (a:=d.zi) (by omega);have:x=d:=by
    obtain ⟨_,_⟩:=x;obtain ⟨_,_⟩:=d;simp only at k3 B n ⊢;simp [k3,B,n]
   simp_all
theorem Can.zxV {L:List GA} (h:Can L (zp v)):L.length<=v.length:=by
 have o:L.Nodup:=by
  rw [kF];exact h.pw.imp λ{a b} k e=>by subst e;exact za8 _ k
 refine o.length_le_of_subset λd hd=>?_;have j:=(h.mem d).1 hd;obtain ⟨x,k1,k2,k3,n⟩:=xD (v:=v) (a:=d.zi) (by omega);have:x=d:=by
  obtain ⟨_,_⟩:=x;obtain ⟨_,_⟩:=d;simp only at k3 n j ⊢;simp [k3,n,j.2]
 simp_all
theorem zfS {a b:List GA} (h:a.length+b.length<=16777216):∃L,uU a b=some L/\Can L (λx=>max (zp a x) (zp b x)):=by
 obtain ⟨L,e,c⟩:=sL (v:=a++b) (by simp_all);refine ⟨L,?_,?_⟩
 ·unfold uU;simp only [zQ,lC];rw [lc (by simp only [lF,lim];omega),lc (by simp only [lim];omega),e];rfl
 ·rwa [show zp (a++b)=λx=>max (zp a x) (zp b x) from funext λx=>vm x a b] at c
theorem nq (a b:List GA):qs a b=some (decide (a=b)):=by
 unfold qs;by_cases h:a.length=b.length
 ·rw [lq (by simp [h]),zah b (eq:=λa b=>(a.zi.fj==b.zi.fj&&(a.zi.inc==b.zi.inc&&(a.seq==b.seq&&true)))) th a 0 (by omega) (λj x k=>by rfl)];simp only [k9];by_cases h2:a=b <;> simp [h2,lp]
 ·rw [lc (by grind)];have:a ≠ b:=λe=>h (by rw [e]);simp [this]
open Classical in
theorem zjw (a b:List GA):(a.all λx=>!(fa x&&decide (x.seq > zp b x.zi)))=fx a b:=by
 unfold fx;rw [lQ,nK,so];constructor
 ·intro h x;by_cases h0:0 < zp a x
  ·obtain ⟨d,e,k,o,n⟩:=xD h0
   grind
  ·have:=yW b x;omega
 ·intro h x j;cases hd:fa x with
  | false=>rfl
  | true =>
   have e:=tM j hd rfl
   grind
theorem mA (a b:List GA):uT a b=some (fx a b):=by
 unfold uT;rw [zhn (λx=>!(fa x&&decide (x.seq > zp b x.zi))) (r:=false) (λi x e=>by
  have k:i < a.length:=(tm.1 e).1;have h:a.getD i default=x:=by rw [lz,e];rfl
  have j:(0:Int)<=(i:Int)/\(i:Int) < (a.length:Int):=by omega
  simp only [qM,tb,nr,h,sV,zQ,j,jZ,hY,nv];cases fa x <;> simp;split <;> simp_all),zjw]
 cases fx a b <;> rfl
theorem zfR {a b:List GA} (n:a.length<=16777216):∃L,rO a b=some L/\Can L (λx=>min (zp a x) (zp b x)):=by
 obtain ⟨A,e,c⟩:=sL (v:=a) n;have r:A.length<=16777216:=lu c.zxV n;have k:=oG a;unfold rO;rw [e];simp only [tb];refine zdx (λo=>∃L,o=some L/\Can L (λx=>min (zp a x) (zp b x))) (λpre s=>s=pre.map λx=>(⟨x.zi,min x.seq (zp b x.zi)⟩:GA)) (λpre x rest s D J hi=>?_) rfl λE h=>?_
 ·subst hi;have I:pre.length < A.length:=by rw [D];simp
  refine ⟨_,?_,rfl⟩;rw [sV];simp only [tb,zQ];have O:(pre.map λx=>(⟨x.zi,min x.seq (zp b x.zi)⟩:GA)).length+1<=lim:=by simp only [oS,lim];omega
  obtain ⟨xa,xs⟩:=x;by_cases h:zp b xa > xs
  ·rw [lc (by simpa using h),lc (by omega),ki,List.map_singleton,Int.min_eq_left (gS h)]
  ·rw [lq (by simpa using h),lc (by omega),ki,List.map_singleton,Int.min_eq_right (Int.not_lt.1 h)]
 ·subst h;obtain ⟨L,w,z⟩:=sL (v:=A.map λx=>(⟨x.zi,min x.seq (zp b x.zi)⟩:GA)) (by simpa using r);refine ⟨L,by rw [w];rfl,?_⟩;have:zp (A.map λx=>(⟨x.zi,min x.seq (zp b x.zi)⟩:GA))=λx=>min (zp a x) (zp b x):=funext λx=>by
   have N:=yW a x;have n2:=yW b x;have H:=yW (A.map λx=>(⟨x.zi,min x.seq (zp b x.zi)⟩:GA)) x;by_cases h:0 < zp (A.map λx=>(⟨x.zi,min x.seq (zp b x.zi)⟩:GA)) x
   ·obtain ⟨d,j,G,B,p⟩:=xD h;obtain ⟨y,q,rfl⟩:=l4.1 j;have M:=((c.mem y).1 q).2;simp only at B p
    simp_all
   ·have h0:¬ 0 < min (zp a x) (zp b x):=λh0=>by
     have C:(⟨x,zp a x⟩:GA) ∈ A:=(c.mem _).2 ⟨show 0 < zp a x by omega,rfl⟩;have hd:=(k x).2 (by omega);have j:=tM (v:=A.map λx=>(⟨x.zi,min x.seq (zp b x.zi)⟩:GA)) (a:=x) (l4.2 ⟨_,C,rfl⟩) (by
      simp only [fa,tr,so] at hd ⊢;exact ⟨⟨hd.1.1,by omega⟩,by omega⟩) rfl
     simp only at j;omega
    omega
  rwa [this] at z
end
section
theorem b5.max {f g:GH->Int} (h:b5 f) (k:b5 g):b5 λx=>max (f x) (g x):=λa=>by
 show 0<=Max.max (f a) (g a)/\(0 < Max.max (f a) (g a)->fa ⟨a,Max.max (f a) (g a)⟩=true)
 have:=(h a).1;refine ⟨by omega,λh0=>?_⟩;rcases Int.le_total (f a) (g a) with e | e
 ·rw [Int.max_eq_right e] at h0 ⊢;exact (k a).2 h0
 ·rw [Int.max_eq_left e] at h0 ⊢;exact (h a).2 h0
theorem b5.min {f g:GH->Int} (h:b5 f) (k:b5 g):b5 λx=>min (f x) (g x):=λa=>by
 show 0<=Min.min (f a) (g a)/\(0 < Min.min (f a) (g a)->fa ⟨a,Min.min (f a) (g a)⟩=true)
 have:=(h a).1;have:=(k a).1;refine ⟨by omega,λh0=>?_⟩;rcases Int.le_total (f a) (g a) with e | e
 ·rw [Int.min_eq_left e] at h0 ⊢;exact (h a).2 h0
 ·rw [Int.min_eq_right e] at h0 ⊢;exact (k a).2 h0
theorem Can.bT {L:List GA} (h:Can L f) (S:List GH) (o:∀x,0 < f x->x ∈ S):L.length<=S.length:=by
 have n:(L.map (·.zi)).Nodup:=by
  rw [kF,kZ];exact h.pw.imp λ{a b} k e=>by rw [e] at k;exact za8 _ k
 have:=n.length_le_of_subset (l₂:=S) λx j=>by
  obtain ⟨d,hd,rfl⟩:=l4.1 j;have:=(h.mem d).1 hd
  grind
 simp_all
theorem zhj {x:GH} (h:0 < zp v x):x ∈ v.map (·.zi):=by
 obtain ⟨d,e,_,j,_⟩:=xD h
 grind
theorem sG (j:v.length<=16777216):∃L,rg v=some L/\vz v=some L/\Can L (zp v):=by
 obtain ⟨L,e,c⟩:=zoa (v:=v) (by simp only [lim];omega);obtain ⟨M,k,h⟩:=sL j;exact ⟨L,e,by rw [k,h.eq c],c⟩
theorem u9 {a b:List GA} (k:a.length+b.length<=16777216):∃L,qC a b=some L/\uU a b=some L/\Can L (λx=>max (zp a x) (zp b x))/\(∀x,zp L x=max (zp a x) (zp b x))/\L.length<=a.length+b.length:=by
 obtain ⟨L,e,c⟩:=zp6 (a:=a) (b:=b) (by simp only [lim];omega);obtain ⟨M,n,j⟩:=zfS k;refine ⟨L,e,by rw [n,j.eq c],c,λx=>c.get ((oG a).max (oG b)) x,?_⟩;have:=c.bT (a.map (·.zi)++b.map (·.zi)) λx o=>by
  simp only [lj];have:=yW a x;have:=yW b x;by_cases h:0 < zp a x
  ·exact .inl (zhj h)
  ·exact .inr (zhj (by omega))
 simp_all
theorem zgb {a b:List GA} (k:a.length+b.length<=16777216):∃L,zcL a b=some L/\rO a b=some L/\(∀x,zp L x=min (zp a x) (zp b x))/\L.length<=a.length:=by
 obtain ⟨L,e,c⟩:=zpV (a:=a) (b:=b) (by simp only [lim];omega);obtain ⟨M,j,h⟩:=zfR (a:=a) (b:=b) (by omega);refine ⟨L,e,by rw [j,h.eq c],λx=>c.get ((oG a).min (oG b)) x,?_⟩;have:=c.bT (a.map (·.zi)) λx n=>zhj (by omega)
 simp_all
theorem zi8 (L M:List GA):xB L M=some (decide (L=M)):=pK L M
theorem zav {L:List GA} (h:L.length<=lim):yD L=some L:=oV h
theorem zcB {f:GA->Option Bool} {q:GA->Bool} (p:List GA) (e:∀x ∈ p,f x=some (q x)):yg p f=some (p.any q):=by
 unfold yg vW;rw [sy p e,tb,sA]
def zhp (l:List GA) (d:GA) (v:List GA):Bool:=allI (λi x=>yz l i x&&!decide (x=d)&&g8 v x) l
theorem zdp (j:l.length<=16777216) (c:GI):qw l c=some (zhp l c.z6 c.vV):=by
 unfold qw;rw [qQ (λi x=>yz l i x&&!decide (x=c.z6)&&g8 c.vV x) (r:=false) (λi x h=>by
  have k:i < l.length:=(tm.1 h).1;rw [th];simp only [vD,uk,yz];by_cases h0:i=0
  ·subst h0;simp only [zQ];cases hh:g8 c.vV x <;> by_cases hd:x=c.z6 <;> simp [hd] <;> simp_all
  ·rw [uP (by omega) (by omega)];rw [ze (λ_=>by omega)];have e:decide ((i:Int) > 0)=true:=by simp;omega
   simp only [e,jL,nv,tb,nr,lA,oU,h0,jd,lR];cases gU (l.getD (i - 1) default) x <;> cases hh:g8 c.vV x <;> by_cases hd:x=c.z6 <;> simp [hd] <;> simp_all)]
 unfold zhp;cases allI (λi x=>yz l i x&&!decide (x=c.z6)&&g8 c.vV x) l <;> rfl
theorem zgi (p:l.length<=16777216) (d:GA) (v:List GA):ua l d v=some (zhp l d v):=by
 unfold ua;rw [qQ (λi x=>yz l i x&&!decide (x=d)&&g8 v x) (r:=false) (λi x j=>by
  have n:i < l.length:=(tm.1 j).1;have k:l.getD i default=x:=by rw [lz,j];rfl
  have h:(0:Int)<=(i:Int)/\(i:Int) < (l.length:Int):=by omega
  rw [th];simp only [vh,sU,yz,nr,k];by_cases h0:i=0
  ·subst h0;have e:l ≠ []:=by rintro rfl;simp at n
   simp only [zQ];cases hh:g8 v x <;> by_cases hd:x=d <;> simp [hd,e] <;> simp_all
  ·rw [uP (by omega) (by omega)];rw [ze (λ_=>by omega),ze (λ_=>h)];have o:decide ((i:Int) > 0)=true:=by simp;omega
   simp only [o,jL,nv,tb,nr,lA,h0,jd,lR];rw [ze (λ_=>h)];cases gU (l.getD (i - 1) default) x <;> cases hh:g8 v x <;> by_cases hd:x=d <;> simp [hd] <;> simp_all)]
 unfold zhp;cases allI (λi x=>yz l i x&&!decide (x=d)&&g8 v x) l <;> rfl
def vG (c:GI):GJ:=⟨c.z6,c.time,c.op⟩
open Classical in
noncomputable def nz (c:GI):Bool:=xJ (vG c)&&decide (Can c.vV (zp c.vV))&&decide (zp c.vV c.z6.zi=c.z6.seq)&&decide (c.z8.length<=64)&&zhp c.z8 c.z6 c.vV&&zhp c.op.gX c.z6 c.vV
theorem za0 {L:List GA} (h:Can L (zp v)):L=v ↔ Can v (zp v):=⟨λe=>e ▸ h,λk=>h.eq k⟩
open Classical in
theorem zbj (j:c.vV.length<=16777216) (h:c.z8.length<=16777216) (n:c.op.gX.length<=16777216):tj c=some (nz c):=by
 obtain ⟨L,e,_,k⟩:=sG j;unfold tj nz ri;have hd:decide (L=c.vV)=decide (Can c.vV (zp c.vV)):=kP.2 (za0 k);have o:decide ((c.z8.length:Int)<=64)=decide (c.z8.length<=64):=kP.2 (by omega);have p:(zp c.vV c.z6.zi==c.z6.seq)=decide (zp c.vV c.z6.zi=c.z6.seq):=rfl;simp only [tb,sM,e,zi8,zgy,zdp h,zdp n,vG]
 grind
open Classical in
theorem mw (j:c.vV.length<=16777216) (h:c.z8.length<=16777216) (n:c.op.gX.length<=16777216):ot c=some (nz c):=by
 obtain ⟨L,_,e,k⟩:=sG j;unfold ot nz uH;have hd:decide (L=c.vV)=decide (Can c.vV (zp c.vV)):=kP.2 (za0 k);have o:decide ((c.z8.length:Int)<=64)=decide (c.z8.length<=64):=kP.2 (by omega);have p:(zp c.vV c.z6.zi != c.z6.seq)=!decide (zp c.vV c.z6.zi=c.z6.seq):=rfl;simp only [tb,sm,e,nq,sV,zgi h,zgi n,vG]
 grind
end
section
def cJ (a b:GI):Prop:=a.time < b.time \/ a.time=b.time/\gU a.z6 b.z6=true
structure Gr (F:List GA) (L:List GI):Prop where
 may:∀c ∈ L,nz c=true
 len:∀c ∈ L,c.vV.length<=64/\c.z8.length<=64
 out:∀c ∈ L,g8 F c.z6=false
 cl:∀c ∈ L,∀d,g8 c.vV d=true->g8 F d=true \/ ∃e ∈ L,e.z6=d
 bef:∀c ∈ L,∀e ∈ L,g8 c.vV e.z6=true->e=c \/ e.time < c.time
 pw:L.Pairwise cJ
structure cP (c:GI):Prop where
 ev:xJ (vG c)=true
 can:Can c.vV (zp c.vV)
 own:zp c.vV c.z6.zi=c.z6.seq
 lp:zhp c.z8 c.z6 c.vV=true
theorem vI (h:nz c=true):cP c:=by
 unfold nz at h;simp only [tr,so] at h;exact ⟨h.1.1.1.1.1,h.1.1.1.1.2,h.1.1.1.2,h.1.2⟩
theorem cP.z6 {c:GI} (h:cP c):fa c.z6=true:=by
 have:=h.ev;unfold xJ vG at this
 simp_all
theorem cP.has (h:cP c):g8 c.vV c.z6=true:=by
 unfold g8;rw [h.z6,h.own];simp
theorem cP.zx6 (h:cP c):c.z8.Pairwise λa b=>gU a b=true:=zb6 (by
 rw [sS,fg];intro i x hi;have:=fg.1 h.lp i x hi;simp only [tr] at this;exact this.1.1)
theorem znM (h:g8 v d=true):fa d=true:=by
 unfold g8 at h;rw [tr] at h;exact h.1
theorem rd (v:List GA) (d:GA):g8 v d=true ↔ fa d=true/\d.seq<=zp v d.zi:=by
 unfold g8;rw [tr,so]
def C0:GI:=GI.mk (GA.mk (GH.mk (0:Int) (0:Int)) (0:Int)) ([]:List GA) ([]:List GA) (0:Int) (GM.mk (0:Int) ([]:List zq) (0:Int) ([]:zq) ([]:List GA))
def up (L:List GI) (d:GA):Option GI:=L.find? λe=>decide (e.z6=d)
def bn (L:List GI) (d:GA):Bool:=(up L d).isSome
def md (L:List GI) (d:GA):List GA:=((up L d).getD C0).vV
theorem zhC (L:List GI) (d:GA):bn L d=true ↔ ∃e ∈ L,e.z6=d:=by
 unfold bn up;rw [List.find?_isSome];simp
theorem py (h:up L d=some c):c ∈ L/\c.z6=d:=by
 unfold up at h
 grind
structure Mp (m:List (GA×GI)) (L:List GI):Prop where
 perm:m.Perm (L.map λc=>(c.z6,c))
 nd:(L.map (·.z6)).Nodup
theorem Mp.keys (h:Mp m L):(m.map (·.1)).Perm (L.map (·.z6)):=by
 have:=h.perm.map (·.1)
 rwa [ji] at this
theorem Mp.has (h:Mp m L) (d:GA):vP GA.fi m d=bn L d:=by
 rw [zpT zvg,lQ,so,h.keys.mem_iff,zhC,l4]
theorem Mp.get (h:Mp m L) (d:GA):zG GA.fi C0 m d=(up L d).getD C0:=by
 have k:(m.map (·.1)).Nodup:=h.keys.nodup_iff.2 h.nd;cases hf:up L d with
 | none =>
  rw [s8 zvg];rfl;intro e;have:=(zhC L d).2 (by simpa using h.keys.mem_iff.1 e);unfold bn at this;rw [hf] at this;cases this
 | some c =>
  obtain ⟨j,n⟩:=py hf;have:=mI zvg C0 m k (c.z6,c) (h.perm.mem_iff.2 (l4.2 ⟨c,j,rfl⟩))
  simp_all
theorem zgt (d:GA):∀(L:List GI) (i:Nat),∃k:Int,lp (zf (λ(q:Nat) (n:GI) (_:Unit)=>((if (n.z6.zi.fj==d.zi.fj&&(n.z6.zi.inc==d.zi.inc&&(n.z6.seq==d.seq&&true)))=true then some (.ret (q:Int)) else some (.gV ())):Option (Out Int Unit))) L i ()) (λ(_:Unit)=>some (-1:Int))=some k /\
  ((up L d=none/\k=-1) \/ ∃(j:Nat) (c:GI),k=((i+j:Nat):Int)/\L[j]?=some c/\up L d=some c)
 | [],i=>⟨-1,rfl,.inl ⟨rfl,rfl⟩⟩
 | c::L,i=>by
  simp only [zf,th];by_cases h:c.z6=d
  ·exact ⟨(i:Int),by simp [h,lp],.inr ⟨0,c,by simp,rfl,by simp [up,h]⟩⟩
  ·obtain ⟨k,e,o⟩:=zgt d L (i+1);simp only [th] at e;refine ⟨k,by simp_all,?_⟩;have p:up (c::L) d=up L d:=by simp [up,h]
   rw [p];rcases o with o | ⟨j,r,x,w,s⟩
   ·simp_all
   ·exact .inr ⟨j+1,r,by omega,by simp_all,s⟩
theorem zl1 (b:GL) (L:List GI) (d:GA):∃k:Int,xQ ⟨b,L⟩ d=some k/\((up L d=none/\k=-1) \/ ∃(j:Nat) (c:GI),k=(j:Int)/\L[j]?=some c/\up L d=some c):=by
 obtain ⟨k,e,h⟩:=zgt d L 0;exact ⟨k,e,by simpa using h⟩
theorem znN (b:GL) (L:List GI) (d:GA):xb ⟨b,L⟩ d=some (bn L d || g8 b.f d):=by
 obtain ⟨k,e,h⟩:=zl1 b L d;unfold xb;rw [e];simp only [tb,sU];rcases h with ⟨h,rfl⟩ | ⟨j,c,rfl,_,h⟩
 ·simp [bn,h]
 ·simp [bn,h]
theorem zv0 (h:Mp m L) (b:GL) (v:List GA) (d:GA):wE ⟨b,m,v⟩ d=some (bn L d || g8 b.f d):=by
 unfold wE ya;simp only [tb,h.has,uk]
 grind
def dS (F:List GA) (L:List GI) (c:GI) (a:GH):Int :=
 max (max (min (zp c.vV a) (zp F a)) (zp [c.z6] a)) (max (zp c.z8 a) (zp (c.z8.flatMap (md L)) a))
theorem zh6 (h:Gr F L) (d:GA):(md L d).length<=64:=by
 unfold md;cases hf:up L d with
 | none=>exact lX _
 | some c=>exact (h.len c (py hf).1).1
theorem zsi {b:GL} (h:Mp m L) (g:Gr b.f L) (v:List GA) (w:b.f.length<=64) {c:GI} (y:c.vV.length<=64) (r:c.z8.length<=64) :
  ∃K,xY ⟨b,m,v⟩ c=some K/\∀a,zp K a=dS b.f L c a:=by
 obtain ⟨A,n,_,p,G⟩:=zgb (a:=c.vV) (b:=b.f) (by omega);obtain ⟨B,j,_,_,n2,H⟩:=u9 (a:=A) (b:=[c.z6]++c.z8) (by simp;omega);unfold xY;rw [n];simp only [tb];rw [ze (by simp only [kG,lim];omega),j];simp only [tb];refine zdx (λo=>∃K,o=some K/\∀a,zp K a=dS b.f L c a) (λpre s=>(∀a,zp s a=max (zp B a) (zp (pre.flatMap (md L)) a))/\s.length<=129+64 * pre.length) (λpre x rest s q k hi=>?_) ⟨λa=>?_,?_⟩ λs h=>⟨s,rfl,λa=>?_⟩
 ·have C:pre.length < c.z8.length:=by rw [q];simp
  have k:(zG GA.fi C0 m x).vV=md L x:=by rw [h.get];rfl
  have D:=zh6 g x;obtain ⟨M,E,_,_,e,z⟩:=u9 (a:=s) (b:=md L x) (by omega);refine ⟨M,?_,λa=>?_,?_⟩
  ·show (qC s (zG GA.fi C0 m x).vV).bind _=_
   simp_all
  ·rw [e,hi.1,jV,vm]
   simp_all
  ·grind
 ·have:=yW B a;simp only [io,zp];omega
 ·grind
 ·rw [h.1,n2,p,vm];unfold dS;omega
theorem zlK {b:GL} (g:Gr b.f L) (J:b.f.length<=64) {c:GI} (O:c.vV.length<=64) (I:c.z8.length<=64) :
  ∃K,xA ⟨b,L⟩ c=some K/\∀a,zp K a=dS b.f L c a:=by
 obtain ⟨A,_,D,G,U⟩:=zgb (a:=c.vV) (b:=b.f) (by omega);obtain ⟨B,_,w,_,n2,V⟩:=u9 (a:=A) (b:=[c.z6]) (by simp;omega);unfold xA;rw [D];simp only [tb];rw [w];simp only [tb];refine zdx (λo=>∃K,o=some K/\∀a,zp K a=dS b.f L c a) (λpre s=>(∀a,zp s a=max (zp B a) (max (zp pre a) (zp (pre.flatMap (md L)) a)))/\s.length<=129+65 * pre.length) (λpre x rest s H T hi=>?_) ⟨λa=>?_,?_⟩ λs h=>⟨s,rfl,λa=>?_⟩
 ·have P:pre.length < c.z8.length:=by rw [H];simp
  have R:=zh6 g x;obtain ⟨M,_,E,_,n,z⟩:=u9 (a:=s) (b:=[x]) (by simp;omega);simp only [kG] at z;obtain ⟨N,_,X,_,r,Q⟩:=u9 (a:=M) (b:=md L x) (by omega);obtain ⟨k,q,e⟩:=zl1 b L x;rw [E];simp only [tb];rw [q];simp only [tb];rcases e with ⟨e,rfl⟩ | ⟨j,y,rfl,C,e⟩
  ·have p:md L x=[]:=by unfold md;rw [e];rfl
   refine ⟨M,by rfl,λa=>?_,?_⟩
   ·rw [n,hi.1,jV,vm,vm];simp only [jf,io,ko,p];have:=yW pre a;have:=yW [x] a;have:zp [] a=0:=rfl;have:=yW (pre.flatMap (md L)) a;omega
   ·grind
  ·have p:y.vV=md L x:=by unfold md;rw [e];rfl
   refine ⟨N,?_,λa=>?_,?_⟩
   ·rw [lc (by simp),zt C];simp only [tb]
    simp_all
   ·rw [r,n,hi.1,jV,vm,vm]
    grind
   ·grind
 ·have:=yW B a;simp only [io,zp];omega
 ·grind
 ·rw [h.1,n2,G];unfold dS;omega
end
section
open Classical in
noncomputable def bw (f g:GH->Int):Bool:=decide (∀a,f a<=g a)
theorem mc (h:∀a,zp u a=f a) (e:∀a,zp v a=g a):fx u v=bw f g:=by
 rw [show f=zp u from funext λa=>(h a).symm,show g=zp v from funext λa=>(e a).symm];rfl
def ei (F:List GA) (L:List GI) (d:GA):Bool:=bn L d || g8 F d
def aZ (L:List GI) (c:GI) (p:GA):Bool:=match up L p with
 | none=>false
 | some x=>(c.z8.any λq=>!decide (q=p)&&g8 x.vV q) || decide (x.time >= c.time)
def knP (L:List GI) (ah:GA) (p:GA):Bool:=match up L p with
 | none=>false
 | some x=>g8 x.vV ah
def aC (F:List GA) (L:List GI) (c:GI) (ah:GA):Bool :=
 !(c.z8.any (aZ L c))&&((c.z6.seq==1 || g8 F ah) || c.z8.any (knP L ah))
theorem ze7 {ρ:Type} (e n:GA->Bool) {f:Nat->GA->Bool->Option (Out ρ Bool)} {r:ρ} {rest:Bool->Option ρ}:∀(k:List GA) (i:Nat) (s:Bool),
  (∀j x s,k[j]?=some x->f (i+j) x s=if e x=true then some (.ret r) else some (.gV (s || n x))) ->
  lp (zf f k i s) rest=if k.any e=true then some r else rest (s || k.any n)
 | [],i,s,_=>by simp [zf,lp]
 | x::k,i,s,h=>by
  have h0:=h 0 x s rfl;simp only [jc] at h0;have o:=ze7 e n (f:=f) (r:=r) (rest:=rest) k (i+1) (s || n x) λj y s p=>by
   have:=h (j+1) y s p;rwa [show i+(j+1)=i+1+j by omega] at this
  by_cases hb:e x=true
  ·rw [lc hb] at h0;simp only [zf,h0,iX,hb,gJ,nv];rfl
  ·rw [lq hb] at h0;rw [jD] at hb;simp only [zf,h0,iX,hb,lR,o,Bool.or_assoc]
theorem znQ {b:GL} (h:Mp m L) (v:List GA) (c:GI) (e:GA):xz ⟨b,m,v⟩ c e=some (aC b.f L c e):=by
 unfold xz;have k:∀o:GA->Option Bool,(∀x,o x=some (g8 b.f e))->(if ((c.z6.seq==(1:Int))==false)=true then o e else some default)=some (if (c.z6.seq==(1:Int))=true then default else g8 b.f e):=λo n=>by
  cases c.z6.seq==(1:Int) <;> simp [n]
 rw [show (if ((c.z6.seq==(1:Int))==false)=true then tQ b.f e else some default)=some (if (c.z6.seq==(1:Int))=true then default else g8 b.f e) from k (λ_=>tQ b.f e) λ_=>uk _ _];simp only [tb];rw [ze7 (aZ L c) (knP L e) (r:=false) c.z8 0 _ λj x s p=>by
  simp only [h.has];rw [show (zG GA.fi (GI.mk (GA.mk (GH.mk (0:Int) (0:Int)) (0:Int)) ([]:List GA) ([]:List GA) (0:Int) (GM.mk (0:Int) ([]:List zq) (0:Int) ([]:zq) ([]:List GA))) m x)=(up L x).getD C0 from h.get x];unfold bn aZ knP;cases hf:up L x with
  | none=>simp
  | some y =>
   simp only [Option.isSome_some,lH,tx,lg,jE,uk];rw [zcB (q:=λq=>!decide (q=x)&&g8 y.vV q) c.z8 λq _=>by
    unfold vk;rw [th,uk];by_cases hq:q=x <;> simp [hq]]
   cases s <;> simp]
 unfold aC;cases hb:c.z8.any (aZ L c) <;> cases c.z6.seq==(1:Int) <;> simp
noncomputable def aD (F:List GA) (L:List GI) (c:GI) (ah:GA):Bool :=
 (c.z8.any λp=>!ei F L p) || (decide (c.z6.seq > 1)&&!ei F L ah) || !bw (zp c.vV) (dS F L c)
theorem zsq {b:GL} (g:Gr b.f L) (s:b.f.length<=64) {c:GI} (o:c.vV.length<=64) (n:c.z8.length<=64) (h:GA):xP ⟨b,L⟩ c h=some (aD b.f L c h):=by
 obtain ⟨K,e,q⟩:=zlK g s o n;unfold xP;rw [zhn (λp=>ei b.f L p) (r:=true) (λi x w=>by
  rw [znN];simp only [tb];show (if (!ei b.f L x)=true then _ else _)=_;by_cases h9:ei b.f L x=true
  ·rw [h9];rfl
  ·rw [jD] at h9;rw [h9];rfl)]
 have k:(c.z8.any λp=>!ei b.f L p)=!(c.z8.all λp=>ei b.f L p):=by
  rw [<- List.not_all_eq_any_not]
 unfold aD;rw [k,znN,e];have j:fx c.vV K=bw (zp c.vV) (dS b.f L c):=mc (λa=>rfl) q;simp only [tb,mA];have hh:(bn L h || g8 b.f h)=ei b.f L h:=rfl;rw [hh];cases c.z8.all (λp=>ei b.f L p) <;> cases decide (c.z6.seq > 1) <;> cases ei b.f L h <;> simp [j]
theorem zkw {b:GL} (g:Gr b.f L) (J:b.f.length<=64) {c:GI} (X:cP c) (T:c.vV.length<=64) (Q:c.z8.length<=64) (o:GA):xp ⟨b,L⟩ c o=some (!aC b.f L c o || !bw (dS b.f L c) (zp c.vV)):=by
 obtain ⟨K,e,U⟩:=zlK g J T Q;have C:∀(i j:Nat) (p q:GA),c.z8[i]?=some p->c.z8[j]?=some q->(decide (q=p)=decide (j=i)):=λi j p q hi E=>by
  have z:=lK.1 X.zx6;obtain ⟨N,hi⟩:=tm.1 hi;obtain ⟨M,E⟩:=tm.1 E;refine kP.2 ⟨λh=>?_,λh=>by subst h;rw [<- hi,<- E]⟩;subst h;rcases jN j i with B | B | B
  ·have:=z j i M N B;rw [hi,E,ul] at this;cases this
  ·exact B
  ·have:=z i j N M B;rw [hi,E,ul] at this;cases this
 unfold xp;rw [show (if ((c.z6.seq==(1:Int))==false)=true then qN b.f o else some default)=some (if (c.z6.seq==(1:Int))=true then default else g8 b.f o) from by
  rw [sU];cases c.z6.seq==(1:Int) <;> simp]
 simp only [tb];rw [ze7 (aZ L c) (knP L o) (r:=true) c.z8 0 _ λj x s O=>by
  obtain ⟨k,P,A⟩:=zl1 b L x;simp only [l6];rw [P];simp only [tb];unfold aZ knP;rcases A with ⟨A,rfl⟩ | ⟨i,y,rfl,I,A⟩
  ·simp [A]
  ·rw [lq (by simp)];simp only [A,zt I,tb,sU];by_cases ht:y.time >= c.time
   ·simp [ht]
   ·rw [lq (by simpa using ht)];have Z:i < L.length:=(tm.1 I).1;have R:L.getD i default=y:=by rw [lz,I];rfl
    have key:∀s2:Bool,(lp (zf (λ(w:Nat) (x3:GA) (_:Unit)=>((zQ ((((w:Int) != (j:Int))==true)=true->0<=(i:Int)/\(i:Int) < ((L).length:Int)) ((zQ ((((w:Int) != (j:Int))==true)=true->0<=(w:Int)/\(w:Int) < ((c.z8).length:Int)) (((if (((w:Int) != (j:Int))==true)=true then some (g8 (((L).getD (i:Int).toNat default).vV) ((c.z8).getD (w:Int).toNat default)) else some default).bind λH=>(if (((w:Int) != (j:Int))&&H)=true then some (.ret (.ret true)) else some (.gV ()))))))):Option (Out (Out Bool Bool) Unit))) c.z8 0 ()) λ(_:Unit)=>some (.gV s2))=if (c.z8.any λq=>!decide (q=x)&&g8 y.vV q)=true then some (.ret true) else some (.gV s2):=λs2=>by
     rw [qQ (λn q=>!(!decide (n=j)&&g8 y.vV q)) (r:=.ret true) (λn q h=>by
      have nl:n < c.z8.length:=(tm.1 h).1;have Y:c.z8.getD n default=q:=by rw [lz,h];rfl
      rw [ze (λ_=>by omega),ze (λ_=>by omega)];simp only [nr,R,Y];by_cases hnj:n=j
      ·subst hnj;simp
      ·have G:((n:Int) != (j:Int))=true:=by simp only [bne_iff_ne,ne_eq];omega
       simp only [G,jL,nv,tb,hnj,jd,jm,lA];cases g8 y.vV q <;> rfl)]
     have:allI (λn q=>!(!decide (n=j)&&g8 y.vV q)) c.z8=!(c.z8.any λq=>!decide (q=x)&&g8 y.vV q):=by
      rw [List.not_any_eq_all_not,lQ,fg,nK];constructor
      ·intro hh q h;obtain ⟨n,D⟩:=lD.1 h;have:=hh n q D;rw [C j n x q (by simpa using O) D];simpa using this
      ·intro hh n q D;have:=hh q (lf D);rw [C j n x q (by simpa using O) D] at this;simpa using this
     rw [this];cases c.z8.any λq=>!decide (q=x)&&g8 y.vV q <;> rfl
    simp only [ht,jd,iY];cases g8 y.vV o
    ·simp only [tx,lg,yL,iY];exact key s
    ·simp only [nv,yL,hU];exact key true]
 rw [e];have V:fx K c.vV=bw (dS b.f L c) (zp c.vV):=mc U (λa=>rfl);simp only [tb,mA];unfold aC;cases J:c.z8.any (aZ L c) <;> cases c.z6.seq==(1:Int) <;> cases g8 b.f o <;> cases c.z8.any (knP L o) <;> simp [V]
end
section
def bd (y c:GI):Bool:=decide (y.time < c.time) || (y.time==c.time&&gU y.z6 c.z6)
theorem zjj (y c:GI):bd y c=true ↔ cJ y c:=by
 unfold bd cJ;simp
def bC (L:List GI) (c:GI):List GI:=L.takeWhile (λy=>bd y c)++[c]++L.drop (L.takeWhile λy=>bd y c).length
theorem tF (L:List GI) (c x:GI):x ∈ bC L c ↔ x ∈ L \/ x=c:=zlw _ c x L
theorem zoV {a b:GI} (h:cJ a b) (k:cJ b c):cJ a c:=by
 unfold cJ at *;rcases h with h | ⟨j,e⟩
 ·omega
 ·rcases k with k | ⟨k1,k2⟩
  ·omega
  ·exact .inr ⟨by omega,sE e k2⟩
theorem zfr (a:GI):¬ cJ a a:=by
 unfold cJ;rintro (h | ⟨_,h⟩)
 ·omega
 ·rw [ul] at h;cases h
theorem bq {a b:GI} (h:a.z6 ≠ b.z6):cJ a b \/ cJ b a:=by
 unfold cJ;rcases ec a.z6 b.z6 with e | e | e
 ·simp_all
 ·grind
 ·grind
theorem zcA {x:GA} (hd:fa d=true) (e:g8 v x=true) (h:x.zi=d.zi) (hs:d.seq<=x.seq):g8 v d=true:=by
 rw [rd] at e ⊢
 grind
theorem zpU {x:GA} (hd:fa d=true) (j:x ∈ v) (h:fa x=true) (e:x.zi=d.zi) (hs:d.seq<=x.seq):g8 v d=true:=by
 rw [rd];have:=tM j h e
 grind
theorem mY (h:fa d=true):1<=d.seq/\d.seq<=1048576:=by
 simp only [fa,tr,so] at h;omega
structure er (F:List GA) (L:List GI) (c:GI):Prop where
 may:nz c=true
 len:c.vV.length<=64/\c.z8.length<=64
 new:ei F L c.z6=false
 gap:aD F L c ⟨c.z6.zi,c.z6.seq - 1⟩=false
 fol:aC F L c ⟨c.z6.zi,c.z6.seq - 1⟩=true
 le:bw (dS F L c) (zp c.vV)=true
open Classical in
theorem zeW (f g:GH->Int):bw f g=true ↔ ∀a,f a<=g a:=by unfold bw;rw [so]
theorem er.eq (h:er F L c) (a:GH):zp c.vV a=dS F L c a:=by
 have e:=h.gap;unfold aD at e;simp only [ky,Bool.not_eq_false'] at e;have j:=e.2;have k:=h.le;rw [zeW] at j k
 grind
theorem er.ck {y:GI} (h:er F L c) {p:GA} (j:p ∈ c.z8) (k:up L p=some y):y.time < c.time:=by
 have e:=h.fol;unfold aC at e;simp only [tr,kA,k8] at e;have:=e.1 p j;unfold aZ at this
 simp_all
theorem er.split {F:List GA} {L:List GI} {c:GI} (g:Gr F L) (h:er F L c) {d:GA} (hd:g8 c.vV d=true):g8 F d=true \/ d=c.z6 \/ ∃y ∈ L,g8 y.vV d=true/\y.time < c.time:=by
 have D:=vI h.may;have n:=znM hd;have C:=mY n;have hs:=((rd _ _).1 hd).2;rw [h.eq] at hs;unfold dS at hs;by_cases k1:d.seq<=zp F d.zi
 ·exact .inl ((rd _ _).2 ⟨n,k1⟩)
 by_cases k2:d.seq<=zp [c.z6] d.zi
 ·obtain ⟨x,q,w,k,z⟩:=xD (v:=[c.z6]) (a:=d.zi) (by omega);rw [lh] at q;subst q;by_cases hq:d.seq=c.z6.seq
  ·refine .inr (.inl ?_);cases hc:c.z6;cases d;rw [hc] at k hq;simp only at k hq;simp [k,hq]
  ·have o:=h.fol;unfold aC at o;simp only [tr,kj,ju,gG] at o;rcases o.2 with (e | e) | ⟨p,s,j⟩
   ·omega
   ·exact .inl (zcA n e k (by grind))
   ·unfold knP at j;split at j
    ·cases j
    ·rename_i y r;exact .inr (.inr ⟨y,(py r).1,zcA n j k (by grind),h.ck s r⟩)
 by_cases k3:d.seq<=zp c.z8 d.zi
 ·obtain ⟨x,q,w,k,z⟩:=xD (v:=c.z8) (a:=d.zi) (by omega);have o:=h.gap;unfold aD at o;simp only [ky,k8,kA] at o;have e:=o.1.1 x q;rw [gp] at e;unfold ei at e;rw [kj] at e;rcases e with e | e
  ·unfold bn at e;obtain ⟨y,r⟩:=iw.1 e;obtain ⟨A,B⟩:=py r;have:=(vI (g.may y A)).has;rw [B] at this;exact .inr (.inr ⟨y,A,zcA n this k (by omega),h.ck q r⟩)
  ·exact .inl (zcA n e k (by omega))
 obtain ⟨x,q,w,k,z⟩:=xD (v:=c.z8.flatMap (md L)) (a:=d.zi) (by omega);obtain ⟨p,s,j⟩:=im.1 q;unfold md at j;cases hf:up L p with
 | none=>rw [hf] at j;cases j
 | some y =>
  rw [hf] at j;exact .inr (.inr ⟨y,(py hf).1,zpU n j w k (by omega),h.ck s hf⟩)
theorem Gr.ins (g:Gr F L) (h:er F L c):Gr F (bC L c):=by
 have n:=h.new;unfold ei at n;rw [ky] at n;have p:∀e ∈ L,e.z6 ≠ c.z6:=λe he j=>by
  have:=(zhC L c.z6).2 ⟨e,he,j⟩
  simp_all
 refine ⟨λx j=>?_,λx j=>?_,λx j=>?_,λx j d hd=>?_,λx j e he hd=>?_,?_⟩
 ·rcases (tF _ _ _).1 j with j | rfl
  ·exact g.may x j
  ·exact h.may
 ·rcases (tF _ _ _).1 j with j | rfl
  ·exact g.len x j
  ·exact h.len
 ·rcases (tF _ _ _).1 j with j | rfl
  ·exact g.out x j
  ·simp_all
 ·have lift:(g8 F d=true \/ ∃e ∈ L,e.z6=d)->(g8 F d=true \/ ∃e ∈ bC L c,e.z6=d):=λhh=>by
   rcases hh with hh | ⟨e,k,w⟩
   ·simp_all
   ·exact .inr ⟨e,(tF _ _ _).2 (.inl k),w⟩
  rcases (tF _ _ _).1 j with j | rfl
  ·exact lift (g.cl x j d hd)
  ·rcases h.split g hd with k | k | ⟨y,q,s,_⟩
   ·simp_all
   ·grind
   ·exact lift (g.cl y q d s)
 ·rcases (tF _ _ _).1 j with o | rfl
  ·rcases (tF _ _ _).1 he with he | rfl
   ·exact g.bef x o e he hd
   ·rcases g.cl x o _ hd with k | ⟨z,D,B⟩
    ·simp_all
    ·simp_all
  ·rcases (tF _ _ _).1 he with he | rfl
   ·rcases h.split g hd with k | k | ⟨y,q,s,C⟩
    ·rw [g.out e he] at k;cases k
    ·simp_all
    ·rcases g.bef y q e he s with rfl | w
     ·omega
     ·omega
   ·simp_all
 ·refine zla (lt:=cJ) (λ_ _ _=>zoV) _ c L g.pw (λy _ r=>(zjj y c).1 r) λy r A=>?_;rcases bq (p y r) with k | k
  ·rw [(zjj y c).2 k] at A;cases A
  ·exact k
theorem Gr.gX (g:Gr F L):(L.map (·.z6)).Nodup:=by
 rw [kF,kZ];refine g.pw.imp_of_mem λ{a b} e h o he=>?_;have k:=(vI (g.may a e)).has;rw [he] at k;have j:=(vI (g.may b h)).has;rw [<- he] at j;rcases g.bef a e b h k with n | n
 ·subst n;exact zfr _ o
 ·rcases g.bef b h a e j with p | p
  ·simp_all
  ·omega
end
section
noncomputable def bg (b:GL) (c:GI) (m:List (GA×GI)) (v:List GA):Option (Int×List (GA×GI)×(List GA)):=((ya ⟨b,m,v⟩).bind λv897=>(if v897=true then some ((1:Int),m,v) else ((tj c).bind λv899=>(if (!v899)=true then some ((4:Int),m,v) else ((wE ⟨b,m,v⟩ c.z6).bind λv901=>(if v901=true then some ((8:Int),m,v) else ((xY ⟨b,m,v⟩ c).bind λv903=>(lp (((yg c.z8 (λx0=>yh x0 ⟨b,m,v⟩)).bind λv926=>(if v926=true then some (.inr v926) else ((if ((decide (c.z6.seq > (1:Int)))==true)=true then yh (GA.mk c.z6.zi (IntKind.wrap .u64 (c.z6.seq - (1:Int)))) ⟨b,m,v⟩ else some default).bind λv928=>(if ((decide (c.z6.seq > (1:Int)))&&v928)=true then some (.inr ((decide (c.z6.seq > (1:Int)))&&v928)) else ((wj c.vV v903).bind λv930=>some (.inr (!v930))))))):Option (_ ⊕ Bool)) λ(s2:Bool)=>(if s2=true then some ((9:Int),m,v) else ((wj v903 c.vV).bind λv932=>((if ((!v932)==false)=true then xz ⟨b,m,v⟩ c (GA.mk c.z6.zi (IntKind.wrap .u64 (c.z6.seq - (1:Int)))) else some default).bind λv933=>(if ((!v932) || (!v933))=true then some ((4:Int),m,v) else (if (decide (((m).length:Int) >= (200:Int)))=true then some ((10:Int),m,v) else ((tc c).bind λv937=>((qC v c.vV).bind λv938=>some ((0:Int),(wx GA.fi m c.z6 v937),v938))))))))))))))))
noncomputable def aF (b:GL) (c:GI) (L:List GI):Option (Int×(List GI)):=((ot c).bind λv1022=>(if (!v1022)=true then some ((4:Int),L) else ((xb (GR.mk b L) c.z6).bind λv1024=>(if v1024=true then some ((8:Int),L) else ((xP (GR.mk b L) c (GA.mk c.z6.zi (IntKind.wrap .u64 (c.z6.seq - (1:Int))))).bind λv1026=>(if v1026=true then some ((9:Int),L) else ((xp (GR.mk b L) c (GA.mk c.z6.zi (IntKind.wrap .u64 (c.z6.seq - (1:Int))))).bind λv1028=>(if v1028=true then some ((4:Int),L) else (if (decide (((L).length:Int) >= (200:Int)))=true then some ((10:Int),L) else (lp (zY (λ(s2:Int)=>((zQ (((decide (s2 < ((L).length:Int)))==true)=true->0<=s2/\s2 < ((L).length:Int)) ((zQ ((((decide (s2 < ((L).length:Int)))==true)&&((decide (((L).getD s2.toNat default).time < c.time))==false))=true->0<=s2/\s2 < ((L).length:Int)) ((zQ (((((decide (s2 < ((L).length:Int)))==true)&&((decide (((L).getD s2.toNat default).time < c.time))==false))&&((((L).getD s2.toNat default).time==c.time)==true))=true->0<=s2/\s2 < ((L).length:Int)) (((if ((((decide (s2 < ((L).length:Int)))==true)&&((decide (((L).getD s2.toNat default).time < c.time))==false))&&((((L).getD s2.toNat default).time==c.time)==true))=true then wg (((L).getD s2.toNat default).z6) c.z6 else some default).bind λv1091=>(if ((decide (s2 < ((L).length:Int)))&&((decide (((L).getD s2.toNat default).time < c.time)) || ((((L).getD s2.toNat default).time==c.time)&&v1091)))=true then some (.gV (IntKind.wrap .i64 (s2+(1:Int)))) else some (.brk s2))))))))):Option (Out _ Int))) (0:Int)) λ(s2:Int)=>((fL L (0:Int) s2).bind λm1093=>(zQ ((([]:List GI)).length+(m1093).length<=lim) ((zQ (((([]:List GI)++m1093)).length+(([c]:List GI)).length<=lim) (((fL L s2 ((L).length:Int)).bind λm1096=>(zQ ((((([]:List GI)++m1093)++([c]:List GI))).length+(m1096).length<=lim) (some ((0:Int),(((([]:List GI)++m1093)++([c]:List GI))++m1096))))))))))))))))))))
structure GQ (b:GL) (m:List (GA×GI)) (v:List GA) (L:List GI):Prop where
 mp:m.Perm (L.map λc=>(c.z6,c))
 gr:Gr b.f L
 vv:∀a,zp v a=max (zp b.f a) (zp (L.flatMap (·.vV)) a)
 vl:v.length<=64+64 * L.length
 vc:Can v (zp v)
theorem GQ.map {b:GL} (h:GQ b m v L):Mp m L:=⟨h.mp,h.gr.gX⟩
theorem GQ.zx4 {b:GL} (h:GQ b m v L):m.length=L.length:=by
 rw [h.mp.length_eq,oS]
theorem zlb {V:Type} (k:GA) (x:V):∀m:List (GA×V),vP GA.fi m k=false->wx GA.fi m k x=m++[(k,x)]
 | [],_=>rfl
 | e::m,h=>by
  simp only [vP,ky] at h;simp only [wx,h.1,tx,lg,zlb k x m h.2,kg]
theorem zsb (h:Mp m L) (b:GL) (v:List GA) (d:GA):yh d ⟨b,m,v⟩=some (!ei b.f L d):=by
 unfold yh;rw [zv0 h];rfl
theorem ziK (h:nz c=true):c.op.path.length<=3/\c.op.gX.length<=64:=by
 have:=(vI h).ev;unfold xJ vG aO sY at this
 simp_all
theorem zrf (h:nz c=true) (e:c.vV.length<=64) (j:c.z8.length<=64):tc c=some c:=by
 have k:=ziK h;unfold tc;rw [wF (by simp only [lim];omega),zav (by simp only [lim];omega),mZ (by simp only [lim];omega),wF (by simp only [lim];omega)];rfl
theorem wr1 {n:Int} (h:1<=n/\n<=1048576):IntKind.wrap .u64 (n - 1)=n - 1:=by
 rw [IntKind.wrap_u64];omega
theorem zi1 {b:GL} (g:Gr b.f L) (s:L.length<=12) (k:b.f.length<=64) (h:er b.f L c) (hd:c.op.gX.length<=100):aF b c L=some (0,bC L c):=by
 have e:=vI h.may;have n:=mY e.z6;have q:=h.new;unfold aF;rw [mw (by have:=h.len;omega) (by have:=h.len;omega) (by omega),h.may,znN];simp only [tb,lH,tx,lg];rw [show (bn L c.z6 || g8 b.f c.z6)=ei b.f L c.z6 from rfl,q,wr1 n,zsq g k h.len.1 h.len.2,h.gap,zkw g k e h.len.1 h.len.2,h.fol,h.le];simp only [tb,lH,jk,tx,lg];rw [lq (by simp;omega)];rw [zfI (ρ:=Int×List GI) (L:=L) (by omega) (λy=>bd y c) (λi y j=>by
  have r:i < L.length:=(tm.1 j).1;have o:L.getD i default=y:=by rw [lz,j];rfl
  have p:(0:Int)<=(i:Int)/\(i:Int) < (L.length:Int):=by omega
  simp only [zQ,p,jZ,hY,nv,jq,jL,nr,o,vh,lA];rw [xF (by omega)];unfold bd;cases decide (y.time < c.time) <;> cases y.time==c.time <;> simp) (by simp [zQ])]
 have:=(kH (l:=L) λy=>bd y c).length_le;simp only [lp,show fL L 0 ((L.takeWhile λy=>bd y c).length:Int)=some (L.take (L.takeWhile λy=>bd y c).length) from zov (by omega),zsW _ _ this,<- jz.1 (kH (l:=L) λy=>bd y c),tb,lC,zQ];rw [lc (by simp only [lF,lim];omega),lc (by simp only [kG,lim];omega),lc (by simp only [ng,jC,kG,lim];omega)];rfl
theorem bm {b:GL} (st:GQ b m v L) (M:L.length<=12) (y:b.f.length<=64) (s:nz c=true) (j:c.vV.length<=64/\c.z8.length<=64) (hd:c.op.gX.length<=100) :
  (∃e,bg b c m v=some (e,m,v)/\∃J,aF b c L=some (J,L)) \/ (er b.f L c/\∃V,qC v c.vV=some V/\bg b c m v=some (0,wx GA.fi m c.z6 c,V)):=by
 have B:=vI s;have D:=mY B.z6;obtain ⟨K,I,G⟩:=zsi st.map st.gr v y j.1 j.2;have h:bg b c m v=bg b c m v:=rfl
 conv at h=>rhs;unfold bg
 rw [zbj (by omega) (by omega) (by omega),s,zv0 st.map,I] at h;unfold ya at h;have E:(bn L c.z6 || g8 b.f c.z6)=ei b.f L c.z6:=rfl;simp only [tb,lH,tx,lg,wr1 D,E] at h;have n:aF b c L=aF b c L:=rfl
 conv at n=>rhs;unfold aF
 rw [mw (by omega) (by omega) (by omega),s,znN] at n;simp only [tb,lH,tx,lg,wr1 D,E] at n;cases h1:ei b.f L c.z6 with
 | true =>
  simp_all
 | false =>
  simp only [h1,tx,lg] at h n;rw [zsq st.gr y j.1 j.2] at n;have z:∀rest:Bool->Option (Int×List (GA×GI)×List GA),(lp (((yg c.z8 (λH=>yh H ⟨b,m,v⟩)).bind λk=>(if k=true then some (.inr k) else ((if ((decide (c.z6.seq > (1:Int)))==true)=true then yh (GA.mk c.z6.zi (c.z6.seq - (1:Int))) ⟨b,m,v⟩ else some default).bind λo=>(if ((decide (c.z6.seq > (1:Int)))&&o)=true then some (.inr ((decide (c.z6.seq > (1:Int)))&&o)) else ((wj c.vV K).bind λr=>some (.inr (!r))))))):Option (_ ⊕ Bool)) rest)=rest (aD b.f L c ⟨c.z6.zi,c.z6.seq - 1⟩):=λrest=>by
   have A:fx c.vV K=bw (zp c.vV) (dS b.f L c):=mc (λa=>rfl) G;rw [zcB (q:=λp=>!ei b.f L p) c.z8 λx _=>zsb st.map b v x,zsb st.map,rI,A];unfold aD;simp only [tb];cases c.z8.any (λp=>!ei b.f L p) <;> cases decide (c.z6.seq > 1) <;> cases ei b.f L ⟨c.z6.zi,c.z6.seq - 1⟩ <;> simp
  rw [z] at h;cases h2:aD b.f L c ⟨c.z6.zi,c.z6.seq - 1⟩ with
  | true =>
   grind
  | false =>
   simp only [h2,tx,lg,tb] at h n;have A:fx K c.vV=bw (dS b.f L c) (zp c.vV):=mc G (λa=>rfl);rw [rI,A,znQ st.map] at h;rw [zkw st.gr y B j.1 j.2] at n;simp only [tb,tx,lg] at h n;by_cases w:bw (dS b.f L c) (zp c.vV)=true/\aC b.f L c ⟨c.z6.zi,c.z6.seq - 1⟩=true
   ·obtain ⟨w,C⟩:=w;obtain ⟨V,e,_⟩:=u9 (a:=v) (b:=c.vV) (by have:=st.vl;omega);refine .inr ⟨⟨s,j,h1,h2,C,w⟩,V,e,?_⟩;rw [h,w,C,zrf s j.1 j.2,e,st.zx4]
    grind
   ·grind
end
section
theorem znT (L:List GI) (c:GI) (a:GH):zp ((bC L c).flatMap (·.vV)) a=max (zp (L.flatMap (·.vV)) a) (zp c.vV a):=by
 have h:=kX (L.takeWhile λy=>bd y c).length L;rw [<- jz.1 (kH (l:=L) λy=>bd y c)] at h
 conv=>rhs;rw [<- h]
 unfold bC;simp only [jV,vm,jf,io,ko];omega
theorem zeJ (L:List GI) (c:GI):(bC L c).Perm (L++[c]):=by
 have h:=kX (L.takeWhile λy=>bd y c).length L;rw [<- jz.1 (kH (l:=L) λy=>bd y c)] at h;unfold bC
 grind
theorem ziZ {b:GL} (st:GQ b m v L) (A:L.length < 12) (p:b.f.length<=64) (w:c.vV.length<=64/\c.z8.length<=64) (hd:c.op.gX.length<=100) :
  ∃r j,bg b c m v=some r/\aF b c L=some j/\GQ b r.2.1 r.2.2 j.2/\j.2.length<=L.length+1/\∀x ∈ j.2,x ∈ L \/ x=c:=by
 cases hm:nz c with
 | false =>
  refine ⟨(4,m,v),(4,L),?_,?_,st,gN _,λx n=>.inl n⟩
  ·unfold bg ya;rw [zbj (by omega) (by omega) (by omega),hm];rfl
  ·unfold aF;rw [mw (by omega) (by omega) (by omega),hm];rfl
 | true =>
  rcases bm st (by omega) p hm w hd with ⟨e,q,z,y⟩ | ⟨ok,V,e,q⟩
  ·simp_all
  ·obtain ⟨V',k,_,c1,s,B⟩:=u9 (a:=v) (b:=c.vV) (by have:=st.vl;omega);rw [e] at k;injection k with k;subst k;have h:(bC L c).length=L.length+1:=by rw [(zeJ L c).length_eq];simp
   have o:=ok.new;unfold ei at o;rw [ky] at o;refine ⟨_,_,q,zi1 st.gr (by omega) p ok hd,⟨?_,st.gr.ins ok,λa=>?_,?_,?_⟩,by simp_all,λx n=>(tF L c x).1 n⟩
   ·simp only;rw [zlb _ _ _ (by rw [st.map.has];exact o.1)];refine (st.mp.append_right _).trans ?_;have:=(zeJ L c).map λc=>(c.z6,c)
    grind
   ·simp only;rw [s,st.vv,znT];omega
   ·have:=st.vl;simp only [h];omega
   ·simp only
    rwa [show zp V=λx=>max (zp v x) (zp c.vV x) from funext s]
theorem zpW {τ:Type} (P:Option τ->Prop) {f:Nat->α->σ->Option (Out τ σ)} {V:List α} {o:σ} {rest:σ->Option τ} (I:List α->σ->Prop) (h:∀pre x r s,V=pre++x::r->I pre s->(∃j,f pre.length x s=some (.gV j)/\I (pre++[x]) j) \/ ∃t,f pre.length x s=some (.ret t)/\P (some t)) (h0:I [] o) (k:∀j,I V j->P (rest j)):P (lp (zf f V 0 o) rest):=by
 have key:∀(r pre:List α) (s:σ),V=pre++r->I pre s->P (lp (zf f r pre.length s) rest):=by
  intro r
  induction r with
  | nil=>intro pre s e hi;rw [ko] at e;subst e;exact k s hi
  | cons x r ih =>
   intro pre s e hi;rcases h pre x r s e hi with ⟨j,n,p⟩ | ⟨t,n,p⟩
   ·simp only [zf,n]
    grind
   ·simp only [zf,n];exact p
 exact key V [] o rfl h0
noncomputable def ziV (b:GL) (g:GO) (L:List GI):Option Bool:=((vK g).bind λv1104=>(zQ (((((v1104).length:Int) != (IntKind.wrap .i64 (((L).length:Int)+(1:Int))))==false)=true->0<=(0:Int)/\(0:Int) < ((v1104).length:Int)) (((if ((((v1104).length:Int) != (IntKind.wrap .i64 (((L).length:Int)+(1:Int))))==false)=true then qs ((v1104).getD (0:Int).toNat default) b.f else some default).bind λv1108=>(zQ ((((((v1104).length:Int) != (IntKind.wrap .i64 (((L).length:Int)+(1:Int)))) || (!v1108))==false)=true->0<=((L).length:Int)/\((L).length:Int) < ((v1104).length:Int)) (((if (((((v1104).length:Int) != (IntKind.wrap .i64 (((L).length:Int)+(1:Int)))) || (!v1108))==false)=true then qb g else some default).bind λv1111=>((if (((((v1104).length:Int) != (IntKind.wrap .i64 (((L).length:Int)+(1:Int)))) || (!v1108))==false)=true then qs ((v1104).getD ((L).length:Int).toNat default) v1111 else some default).bind λv1112=>(if (((((v1104).length:Int) != (IntKind.wrap .i64 (((L).length:Int)+(1:Int)))) || (!v1108)) || (!v1112))=true then some false else (lp (zf (λ(n1:Nat) (x1:(List GA)) (s1:(List GC))=>(((tw g x1).bind λv1146=>(if (decide ((n1:Int) > (0:Int)))=true then ((zS L (IntKind.wrap .i64 ((n1:Int) - (1:Int)))).bind λy1148=>((uH y1148).bind λv1149=>((vY s1 v1149).bind λv1150=>((if ((v1146.2 != (0:Int))==false)=true then uc v1146.1 v1150.1 else some default).bind λv1151=>(if ((v1146.2 != (0:Int)) || (!v1151))=true then some (.ret false) else some (.gV v1150.1)))))) else ((if ((v1146.2 != (0:Int))==false)=true then uc v1146.1 s1 else some default).bind λv1153=>(if ((v1146.2 != (0:Int)) || (!v1153))=true then some (.ret false) else some (.gV s1))))):Option (Out _ (List GC)))) v1104 0 b.tree) λ(s1:(List GC))=>((vj).bind λv1155=>some v1155)))))))))))
theorem zp3 {b:GL} {l:List GI} (G:l.length<=12) (q:b.f.length<=64) (n:qK b.tree=some false) (B:q9 b=some true) (k:wB b=some true) (w:yv b=some b) (h0:Can b.f (zp b.f)) (D:vj=some true)
  (he:∀m v L,GQ b m v L->L.length<=12->(∀x ∈ L,x ∈ l)->ziV b ⟨b,m,v⟩ L=some true):xi b l=some true:=by
 unfold xi;have z:(decide ((l.length:Int) > 12))=false:=by simp;omega
 have p:(decide ((b.f.length:Int) > 64))=false:=by simp;omega
 rw [z,p,n,B,k,w];simp only [jk,jL,nv,tb,lH,tx,lg];refine zpW (λo=>o.bind _=some true) (λpre s=>GQ b s.1 s.2.1 s.2.2/\s.2.2.length<=pre.length/\∀x ∈ s.2.2,x ∈ l) (λpre x r s C hi=>?_) ?_ λs hi=>?_
 ·by_cases hq:(((decide (((x.z8).length:Int) > (64:Int))) || (decide (((x.vV).length:Int) > (64:Int)))) || (decide (((x.op.gX).length:Int) > (100:Int))))=true
  ·grind
  ·refine .inl ?_;rw [lq hq];simp only [kj,so,not_or] at hq;have k:pre.length < l.length:=by rw [C];simp
   obtain ⟨j,A,J,E,st,ln,I⟩:=ziZ hi.1 (by omega) q (c:=x) (by omega) (by omega);refine ⟨(j.2.1,j.2.2,A.2),?_,st,by grind,λy H=>?_⟩
   ·show ((bg b x s.1 s.2.1).bind λe=>(aF b x s.2.2).bind λh=>some (Out.gV (e.2.1,e.2.2,h.2)))=_
    simp_all
   ·grind
 ·refine ⟨⟨.nil,⟨by simp,by simp,by simp,by simp,by simp,.nil⟩,λa=>?_,by omega,h0⟩,oA _,by simp⟩;have:=yW b.f a;simp only [io,zp];omega
 ·have:=he _ _ _ hi.1 (by omega) hi.2.2;unfold ziV at this;simp only [tb,Sum.elim_inr];omega
end
section
theorem zfD {α ρ:Type} {f:Nat->Nat->List α->Option (Out ρ (List α))} {V:List α} (h:∀i x y,V[i]?=some x->f i y V=some (.gV V)):∀(R:List Nat) (pre rest:List α),V=pre++rest->R.length=rest.length->zf f R pre.length V=some (.inr V)
 | [],_,[],_,_=>rfl
 | y::R,pre,x::rest,hV,hR=>by
  have e:V[pre.length]?=some x:=by rw [hV];simp
  simp only [zf,h _ _ y e];simpa using zfD h R (pre++[x]) rest (by simp [hV]) (by simp_all)
theorem zaC {f:Nat->Nat->List α->Option (Out ρ (List α))} {V:List α} (h:∀i x y,V[i]?=some x->f i y V=some (.gV V)):zf f (List.range (((V.length:Nat):Int)).toNat) 0 V=some (.inr V):=zfD h _ [] V rfl (by simp)
theorem zer {V:List α} {x:α} (h:V[i]?=some x):V.set i x=V:=by
 obtain ⟨e,rfl⟩:=tm.1 h
 simp_all
theorem zlh:∀(n:Nat) (t:List GC),GC.fC t < n->Small t->xX n t=some t
 | 0,_,h,_=>by omega
 | n+1,t,h,hs=>by
  unfold xX;have B:=hs.len;rw [rF (yS (by omega))];simp only [tb];rw [ze (by omega),zaC (λi x y o=>?_)]
  ·simp only [yL];rw [ze trivial]
  ·have k:=lf o;have r:=tR k;have A:=vp x;have s:=hs.leaves k;rw [ze rfl,zt o];simp only [tb];rw [nL (yS (by omega))];simp only [tb];rw [ze (by omega),zaC (λj l z e=>?_)]
   ·simp only [yL];rw [ze trivial,zlh n x.w5 (by omega) (hs.w5 k)];simp only [tb,nr];have:=zer o;cases x;exact congrArg (λq=>some (Out.gV q)) this
   ·have p:=hs.leaf k (lf e);have w:=(tm.1 e).1;rw [ze rfl,zt e];simp only [tb];rw [um (yS (by have:=p.y4;omega))];simp only [tb];rw [wF (yS (by have:=p.x4;omega))];simp only [tb,nr];have:=zer e;rw [show x.leaves.set j (GE.mk l.w7 l.n l.time l.z6 l.text l.y4 l.x4)=x.leaves from this,zt e]
    simp_all
theorem zpD (h:Small t):uz t=some t:=by
 unfold uz rx;rw [tT (GC.fC t+1) λn e=>zlh n t (by omega) h];rfl
theorem zli {b:GL} (h:Small b.tree) (e:b.f.length<=lim) (j:b.g9.length<=lim):yv b=some b:=by
 unfold yv;rw [zav e,wF j,zpD h];rfl
open Classical in
noncomputable def zhl (b:GL):Bool:=decide (Can b.f (zp b.f))&&decide (b.g9.length<=64)&&decide (b.time<=1099511627776)&&gY 0 b.tree&&allI (λi x=>g8 b.f x&&yz b.g9 i x) b.g9 &&
 (if b.f.length=0 then b.time==0&&decide (b.g9.length=0) else decide (b.time > 0)&&decide (b.g9.length > 0))
open Classical in
theorem zoX {b:GL} (hs:Small b.tree) (s:b.f.length<=64):q9 b=some (zhl b):=by
 obtain ⟨L,_,e,k⟩:=sG (v:=b.f) (by omega);have hd:decide (L=b.f)=decide (Can b.f (zp b.f)):=kP.2 (za0 k);have j:decide ((b.g9.length:Int) > 64)=!decide (b.g9.length<=64):=by
  rw [<- decide_not];exact kP.2 (by omega)
 have h:decide (b.time > 1099511627776)=!decide (b.time<=1099511627776):=by
  rw [<- decide_not];exact kP.2 (by omega)
 unfold q9 zhl;rw [e,zb8 hs];simp only [tb,nq,hd,j,h];cases h1:decide (Can b.f (zp b.f)) with
 | false=>simp
 | true =>
  cases h2:decide (b.g9.length<=64) with
  | false=>simp
  | true =>
   rw [so] at h2;cases decide (b.time<=1099511627776) with
   | false=>simp
   | true =>
    cases gY 0 b.tree with
    | false=>simp
    | true =>
     simp only [lH,jk,jL,nv,tb,tx,lg,lI,lA];rw [qQ (λi x=>g8 b.f x&&yz b.g9 i x) (r:=false) (λi x n=>by
      have q:i < b.g9.length:=(tm.1 n).1;have p:b.g9.getD i default=x:=by rw [lz,n];rfl
      rw [sU];simp only [tb,vh,nr,p];by_cases h0:i=0
      ·subst h0;unfold yz;cases g8 b.f x <;> simp [zQ]
      ·rw [uP (by omega) (by omega),ze (λ_=>by omega),ze (λ_=>by omega)];have o:decide ((i:Int) > 0)=true:=by simp;omega
       unfold yz;simp only [o,jL,kU,nr,lA,h0,jd,lR];cases g8 b.f x <;> cases gU (b.g9.getD (i - 1) default) x <;> simp)]
     cases allI (λi x=>g8 b.f x&&yz b.g9 i x) b.g9 with
     | false=>rfl
     | true =>
      simp only [nv,lA];by_cases h3:b.f.length=0
      ·rw [lc h3,lc (by simp only [ju];omega)];congr 2;rw [lQ];simp
      ·rw [lq h3,lq (by simp only [ju];omega)];congr 2
       simp_all
theorem ziL {b:GL} (h:zhl b=true):Can b.f (zp b.f)/\b.g9.length<=64/\b.time<=1099511627776/\gY 0 b.tree=true/\allI (λi x=>g8 b.f x&&yz b.g9 i x) b.g9=true/\(if b.f.length=0 then b.time==0&&decide (b.g9.length=0) else decide (b.time > 0)&&decide (b.g9.length > 0))=true:=by
 unfold zhl at h
 simp_all
theorem ztu (r:l.length<=16777216) (h:∀i x,l[i]?=some x->yz l i x=true):tK l=some true:=by
 unfold tK;obtain ⟨s,e,_⟩:=w9 (f:=λ(j:Int)=>((if (decide (j < ((l).length:Int)))=true then ((zS l (IntKind.wrap .i64 (j - (1:Int)))).bind λn=>((zS l j).bind λo=>((xN n o).bind λk=>(if (decide (k >= (0:Int)))=true then some (.ret false) else some (.gV (IntKind.wrap .i64 (j+(1:Int)))))))) else some (.brk j)):Option (Out Bool Int))) (λs=>∃i:Nat,s=i/\1<=i) (λ_=>True) (λs=>l.length - s.toNat) (by
  rintro s ⟨i,rfl,hi⟩
  by_cases hlt:i < l.length
  ·refine .inr ⟨((i+1:Nat):Int),?_,⟨i+1,rfl,by omega⟩,by omega⟩;rw [lc (by simpa using hlt),uP (by omega) (by omega)];have p:l[i - 1]?=some l[i - 1]:=s5 _;have q:l[i]?=some l[i]:=s5 _;rw [zt p,zt q];simp only [tb,vD,oU];have:=h i _ q;unfold yz at this;rw [show decide (i=0)=false from lP (by omega),lR,lz,p,jE] at this;rw [this,xF (by omega)];rfl
  ·exact .inl ⟨_,by rw [lq (by simp_all)],trivial⟩) _ 1 rfl ⟨1,rfl,oA _⟩
 rw [e];rfl
theorem zsP {b:GL} (hs:Small b.tree) (A:b.f.length<=64) (h:zhl b=true):wB b=some true:=by
 obtain ⟨r,z,B,p,s,o⟩:=ziL h;obtain ⟨L,e,_,k⟩:=sG (v:=b.f) (by omega);have w:L=b.f:=(za0 k).2 r;have n:=fg.1 s;unfold wB;rw [e];simp only [tb,zi8,w,jq,lH,lR];rw [show decide ((b.g9.length:Int) > 64)=false from lP (by omega),ztu (by omega) (λi x j=>by
  have:=n i x j;rw [tr] at this;exact this.2)]
 simp only [jL,nv,tb,lH,jk];rw [zcB (q:=λd=>!g8 b.f d) b.g9 (λx _=>by unfold tL;rw [uk];rfl)];have y:(b.g9.any λd=>!g8 b.f d)=false:=by
  rw [k8];intro x j;obtain ⟨i,hi⟩:=lD.1 j;have:=n i x hi;rw [tr] at this
  simp_all
 simp only [y,tb,tx,lg,nc hs,p];by_cases h0:b.f.length=0
 ·rw [lc h0,tr,ju,so] at o
  simp_all
 ·rw [lq h0,tr,so,so] at o
  grind
end
section
theorem Gr.inj (g:Gr F L) {a b:GI} (e:a ∈ L) (h:b ∈ L) (he:a.z6=b.z6):a=b:=by
 have n:=(vI (g.may a e)).has;rw [he] at n;have j:=(vI (g.may b h)).has;rw [<- he] at j;rcases g.bef a e b h n with o | o
 ·simp_all
 ·rcases g.bef b h a e j with k | k
  ·exact k
  ·omega
def zjg (a b:GI):Int:=ao (tX a.time b.time) (zcM a.z6 b.z6)
theorem zmn (a b:GI):zjg a b < 0 ↔ cJ a b:=by
 have:=zdY a.z6 b.z6;unfold zjg cJ ao tX
 grind
theorem zmo (a b:GI):xR a b=some (zjg a b):=by
 unfold xR;rw [zfq,vD];simp only [tb];rw [zat];rfl
theorem nI {b:GL} (st:GQ b m v L) (r:L.length<=12):xL ⟨b,m,v⟩=some L:=by
 have s:=st.zx4;unfold xL ya;simp only [tb,lR];by_cases h0:L.length=0
 ·simp_all
 ·rw [lq (by simp_all),ze (by simp only [lim];omega)];have hs:c4 m (λ(n:List (GA×GI))=>((qA (λx y=>xR x y) (n.map (λx=>x.2))).bind λk=>some k))=some L:=za6 λp o=>by
   have j:(p.map (λx=>x.2)).Perm L:=by
    have:=(o.trans st.mp).map (λx=>x.2);rw [ji,show ((λx:GA×GI=>x.2) ∘ λc:GI=>(c.z6,c))=id from rfl,List.map_id] at this;omega
   rw [zbv (cf:=zjg) (lt:=cJ) (R:=L) (λx _ y _=>zmo x y) zmn zfr (λ_ _ _=>zoV) (λx h y q=>by
    by_cases he:x.z6=y.z6
    ·exact .inl (st.gr.inj (j.mem_iff.1 h) (j.mem_iff.1 q) he)
    ·exact .inr (bq he)) j.symm st.gr.pw (by rw [j.length_eq];simp only [lim];omega)]
   rfl
  rw [hs];simp only [tb];rw [ze (by omega),zaC (λi x y h=>?_)]
  ·simp only [yL];rw [ze trivial]
  ·have e:=lf h;rw [ze rfl,zt h];simp only [tb];rw [zrf (st.gr.may x e) (st.gr.len x e).1 (st.gr.len x e).2];simp only [tb,nr,zer h]
structure PV (F:List GA) (L:List GI) (i:Nat) (v:List GA):Prop where
 get:∀a,zp v a=max (zp F a) (zp ((L.take i).map (·.z6)) a)
 can:Can v (zp v)
 len:v.length<=64+i
theorem PV.eq {F:List GA} {L:List GI} {i:Nat} {u v:List GA} (h:PV F L i u) (k:PV F L i v):u=v:=by
 have e:=h.can;have j:=k.can;rw [show zp u=zp v from funext λa=>by rw [h.get,k.get]] at e;exact e.eq j
theorem PV.zero (h:Can F (zp F)) (e:F.length<=64):PV F L 0 F:=⟨λa=>by have:=yW F a;simp only [gj,kb,zp];omega,h,e⟩
theorem PV.step (h:PV F L i v) {c:GI} (j:L[i]?=some c) (hi:i<=12):∃w,qC v [c.z6]=some w/\PV F L (i+1) w:=by
 obtain ⟨w,e,_,k,n,l⟩:=u9 (a:=v) (b:=[c.z6]) (by have:=h.len;simp;omega);refine ⟨w,e,λa=>?_,?_,by have:=h.len;simp only [kG] at l;omega⟩
 ·rw [n,h.get,ka,j,ki,vm]
  simp_all
 ·rwa [show zp w=λx=>max (zp v x) (zp [c.z6] x) from funext n]
theorem zcC {a:GH} (h:0 < zp ((L.take i).map (·.z6)) a):∃(k:Nat) (e:GI),k < i/\L[k]?=some e/\e.z6.zi=a/\e.z6.seq=zp ((L.take i).map (·.z6)) a:=by
 obtain ⟨d,n,_,q,p⟩:=xD h;obtain ⟨e,j,rfl⟩:=l4.1 n;obtain ⟨k,o⟩:=lD.1 j
 grind
theorem zmf {k:Nat} {e:GI} (j:k < i) (he:L[k]?=some e) (h:fa e.z6=true):e.z6.seq<=zp ((L.take i).map (·.z6)) e.z6.zi:=by
 refine tM (l4.2 ⟨e,?_,rfl⟩) h rfl;refine lf (i:=k) ?_
 simp_all
theorem Gr.zxT (g:Gr F L) {i j:Nat} {a b:GI} (e:L[i]?=some a) (k:L[j]?=some b) (q:a.time < b.time):i < j:=by
 obtain ⟨o,e⟩:=tm.1 e;obtain ⟨p,k⟩:=tm.1 k;have n:=lK.1 g.pw;rcases jN i j with h | h | h
 ·exact h
 ·simp_all
 ·have:=n j i p o h;rw [e,k] at this;unfold cJ at this;omega
theorem PV.has {F:List GA} {L:List GI} (g:Gr F L) {i:Nat} {v:List GA} (h:PV F L i v) {j:Nat} {c:GI} (p:L[j]?=some c):g8 v c.z6=decide (j < i):=by
 have s:=lf p;have n:=vI (g.may c s);have x:=mY n.z6;rw [lQ,so,rd,h.get];constructor
 ·rintro ⟨_,w⟩
  have y:=g.out c s;have H:¬ c.z6.seq<=zp F c.z6.zi:=λC=>by
   rw [(rd _ _).2 ⟨n.z6,C⟩] at y;cases y
  obtain ⟨k,e,E,he,B,G⟩:=zcC (L:=L) (a:=c.z6.zi) (i:=i) (by omega);have o:=lf he;have:=zcA n.z6 (vI (g.may e o)).has B (by omega);rcases g.bef e o c s this with rfl | A
  ·obtain ⟨z,D⟩:=tm.1 p;obtain ⟨lk,q⟩:=tm.1 he;have x:=lK.1 g.pw;rcases jN j k with r | r | r
   ·omega
   ·omega
   ·have:=x k j lk z r;rw [D,q] at this;exact (zfr _ this).elim
  ·have:=g.zxT p he A;omega
 ·intro w;have:=zmf w p n.z6;exact ⟨n.z6,by omega⟩
theorem PV.closed (g:Gr F L) {i:Nat} {v:List GA} (h:PV F L i v) {j:Nat} {c:GI} (r:L[j]?=some c) (G:j < i) (a:GH):zp c.vV a<=zp v a:=by
 have z:=lf r;rw [h.get];by_cases h0:0 < zp c.vV a
 ·have hd:g8 c.vV ⟨a,zp c.vV a⟩=true:=(rd _ _).2 ⟨(oG c.vV a).2 h0,kI _⟩;rcases g.cl c z _ hd with B | ⟨e,x,C⟩
  ·have:=((rd _ _).1 B).2
   grind
  ·have n:=hd;rw [<- C] at n;obtain ⟨k,q⟩:=lD.1 x;have p:k < i:=by
    rcases g.bef c z e x n with w | w
    ·subst w;obtain ⟨A,y⟩:=tm.1 r;obtain ⟨lk,o⟩:=tm.1 q;have D:=lK.1 g.pw;rcases jN j k with s | s | s
     ·have:=D j k A lk s;rw [y,o] at this;exact (zfr _ this).elim
     ·omega
     ·omega
    ·have:=g.zxT q r w;omega
   have E:=zmf p q (vI (g.may e x)).z6
   grind
 ·have:=yW F a;omega
theorem zqf {a:GH} {x:Int} (p:0<=x) (h:∀c ∈ L,zp c.vV a<=x):zp (L.flatMap (·.vV)) a<=x:=by
 by_cases h0:0 < zp (L.flatMap (·.vV)) a
 ·obtain ⟨d,k,j,n,o⟩:=xD h0;obtain ⟨c,c1,e⟩:=im.1 k;have:=tM e j n
  grind
 ·omega
theorem zti {b:GL} (st:GQ b m v L) {w:List GA} (h:PV b.f L L.length w):w=v:=by
 have q:=h.can;rw [show zp w=zp v from funext λa=>by
  rw [st.vv];have E:=h.get a;have H:=yW b.f a;have D:zp (L.flatMap (·.vV)) a<=zp w a:=zqf (yW w a) λc C=>by
   obtain ⟨j,r⟩:=lD.1 C;exact h.closed st.gr r (tm.1 r).1 a
  have G:zp ((L.take L.length).map (·.z6)) a<=zp (L.flatMap (·.vV)) a:=by
   by_cases h0:0 < zp ((L.take L.length).map (·.z6)) a
   ·obtain ⟨k,e,_,he,B,z⟩:=zcC h0;have o:=lf he;have A:=vI (st.gr.may e o);have n:=A.own;rw [<- z,<- n,B];have p:0 < zp e.vV a:=by simp_all
    obtain ⟨d,y,s,x,d4⟩:=xD p;rw [<- d4];exact tM (im.2 ⟨e,o,y⟩) s x
   ·have:=yW (L.flatMap (·.vV)) a;omega
  omega] at q
 exact q.eq st.vc
end
section
theorem zlq (g:GO):sN g=some false:=by
 rfl
theorem zfu {b:GL} (e:yv b=some b):wM ⟨b,m,v⟩=some b:=by
 unfold wM ya;simp only [tb,tx,lg,e]
theorem zlV {b:GL} (e:v.length<=lim):qb ⟨b,m,v⟩=some v:=by
 unfold qb ya;simp only [tb,tx,lg,zav e]
theorem zhi {b:GL} (st:GQ b m v L) (A:L.length<=12) (C:b.f.length<=64) (h0:Can b.f (zp b.f)) (q:yv b=some b) :
  ∃all,vK ⟨b,m,v⟩=some all/\all.length=L.length+1/\∀j w,all[j]?=some w->PV b.f L j w:=by
 unfold vK sI;rw [zlq,zfu q,nI st A];simp only [tb,tx,lg];unfold uC;dsimp only;obtain ⟨s,e,⟨out,w⟩⟩:=w9 (ρ:=(List (List GA)×List GA)×Option Nat) (f:=λ(k:Int×((List (List GA)×List GA)×Option Nat))=>(((yD (k.2.1.2)).bind λv9=>((am (λ(k:(List (List GA))×(List GA)) (y:(List GA))=>((zQ ((k.1).length+(([y]:List (List GA))).length<=lim) (some (true,(((k.1++([y]:List (List GA))),k.2),none)))):Option (Bool×(((List (List GA))×(List GA))×Option Nat)))) k.2 v9).bind λh=>(if (h.1&&(decide (k.1 < ((L).length:Int))))=true then ((zS L k.1).bind λo=>((qC (h.2.1.2) ([o.z6]:List GA)).bind λr=>some (.gV ((IntKind.wrap .i64 (k.1+(1:Int))),((h.2.1.1,r),h.2.2))))) else some (.brk (k.1,h.2))))):Option (Out _ (Int×((List (List GA)×List GA)×Option Nat)))))
  (λs=>∃(i:Nat) (out:List (List GA)) (w:List GA),s=((i:Int),((out,w),none))/\i<=L.length/\out.length=i/\(∀j u,out[j]?=some u->PV b.f L j u)/\PV b.f L i w)
  (λs=>∃(out:List (List GA)) (w:List GA),s.2=((out,w),none)/\out.length=L.length+1/\∀j u,out[j]?=some u->PV b.f L j u) (λs=>L.length - s.1.toNat) (by
  rintro s ⟨i,out,w,rfl,hi,q,H,x⟩
  have n:∀j u,(out++[w])[j]?=some u->PV b.f L j u:=λj u I=>by
   by_cases hjl:j < out.length
   ·grind
   ·grind
  simp only;rw [zav (by have:=x.len;simp only [lim];omega)];simp only [tb,am];rw [ze (by simp only [kG,lim];omega)];simp only [tb,lA];by_cases hlt:i < L.length
  ·have z:L[i]?=some L[i]:=s5 _;obtain ⟨u,D,p⟩:=x.step z (by omega);refine .inr ⟨(((i+1:Nat):Int),((out++[w],u),none)),?_,⟨i+1,out++[w],u,rfl,by omega,by simp [q],n,p⟩,by simp only [nr];omega⟩;rw [lc (by simpa using hlt),zt z];simp only [tb,D];rw [xF (by omega)]
  ·refine .inl ⟨_,by rw [lq (by simp_all)],out++[w],w,rfl,by grind,n⟩) _ ((0:Int),(([],b.f),none)) rfl ⟨0,[],b.f,rfl,lX _,rfl,by simp,PV.zero h0 C⟩
 obtain ⟨w,B,E,G⟩:=w;refine ⟨out,?_,E,G⟩;rw [e];simp only [yL,B,rng,tb]
theorem zgp {f:GI->Option Bool} {q:GI->Bool} (p:List GI) (e:∀x ∈ p,f x=some (q x)):xu p f=some (p.any q):=by
 unfold xu wR;rw [sy p e,tb,sA]
theorem rX (h:∀a,zp u a<=zp v a):fx u v=true:=by
 have:=(zeW (zp u) (zp v)).2 h;rw [<- mc (u:=u) (v:=v) (λ_=>rfl) (λ_=>rfl)] at this;exact this
theorem zuW {b:GL} (st:GQ b m v L) (B:L.length<=12) (G:yv b=some b) {i:Nat} {w:List GA} (hi:i<=L.length) (h:PV b.f L i w):qX ⟨b,m,v⟩ w=some 0:=by
 obtain ⟨C,e,_,k⟩:=sG (v:=w) (by have:=h.len;omega);have z:C=w:=(za0 k).2 h.can;unfold qX;rw [zlq,e,zfu G,zlV (by have:=st.vl;simp only [lim];omega),nI st B];simp only [tb,tx,lg,zi8,z,jq,lH,rI];rw [rX (λa=>by rw [h.get];omega),rX (λa=>?_)]
 ·simp only [tb,lH,tx,lg];rw [zgp (q:=λc=>g8 w c.z6&&!fx c.vV w) L (λx _=>by
   unfold sO;rw [uk,rI];cases g8 w x.z6 <;> rfl)]
  have:(L.any λc=>g8 w c.z6&&!fx c.vV w)=false:=by
   rw [k8];intro c I;obtain ⟨j,r⟩:=lD.1 I;rw [h.has st.gr r];by_cases hji:j < i
   ·rw [rX (h.closed st.gr r hji)];simp
   ·grind
  simp_all
 ·rw [h.get,st.vv];have J:zp ((L.take i).map (·.z6)) a<=zp (L.flatMap (·.vV)) a:=by
   by_cases h0:0 < zp ((L.take i).map (·.z6)) a
   ·obtain ⟨k,e,_,he,H,D⟩:=zcC h0;have o:=lf he;have E:=vI (st.gr.may e o);have n:=E.own;rw [<- D,<- n,H];have p:0 < zp e.vV a:=by simp_all
    obtain ⟨d,A,s,y,d4⟩:=xD p;rw [<- d4];exact tM (im.2 ⟨e,o,A⟩) s y
   ·have:=yW (L.flatMap (·.vV)) a;omega
  omega
end
section
theorem zdA {α ρ σ:Type} {f:Nat->α->σ->Option (Out ρ σ)} (B:List α):∀(A:List α) (n:Nat) (s t:σ),zf f A n s=some (.inr t)->(∀i x s u,f i x s ≠ some (.brk u))->zf f (A++B) n s=zf f B (n+A.length) t
 | [],n,s,t,h,_=>by
  simp only [zf,p3,Sum.inr.injEq] at h
  simp_all
 | x::A,n,s,t,h,hb=>by
  simp only [zf,kg] at h ⊢;split at h
  ·cases h
  ·cases h
  ·simp_all
  ·rename_i u e;rw [zdA B A (n+1) u t h hb,m3]
   grind
theorem zok (i:Nat) (x:GJ) (s u:List GC):zsS i x s ≠ some (.brk u):=by
 unfold zsS;cases fR s x with
 | none=>simp
 | some v=>simp only [tb];split <;> simp
structure FT (t0:List GC) (L:List GI) (i:Nat) (t:List GC):Prop where
 run:zf zsS ((L.take i).map vG) 0 t0=some (.inr t)
 cE:dl i t
theorem FT.step (h:FT t0 L i t) (hi:i < 40) {c:GI} (n:L[i]?=some c) (he:xJ (vG c)=true) (e:GJ.wf (vG c)):∃u,vY t (vG c)=some (u,0)/\FT t0 L (i+1) u:=by
 obtain ⟨u,o,j,k⟩:=zoj h.cE hi he e;refine ⟨u,j,?_,k⟩;rw [ka,n,ki,zdA _ _ _ _ _ h.run zok];simp only [Option.toList_some,ld,kb,zf];unfold zsS
 simp_all
theorem zhG (p:α->Bool) (i:Nat) (L:List α) (h:∀j c,L[j]?=some c->p c=decide (j < i)):L.filter p=L.take i:=by
 conv=>lhs;rw [<- kX i L]
 rw [kM,kw.2 λx e=>?_,kS.2 λx e=>?_,ko]
 ·obtain ⟨j,k⟩:=lD.1 e
  grind
 ·obtain ⟨j,k⟩:=lD.1 e
  grind
theorem zsr (g:Gr F L) (I:L.length<=12) {i:Nat} {t:List GC} (hs:Small t0) (D:GC.eV t0<=5592405) (z:gY 0 t0=true) (h:FT t0 L i t):mT t0 ((L.take i).map vG)=some (t,0):=by
 have j:∀e ∈ (L.take i).map vG,∃c ∈ L,vG c=e:=λe he=>by
  grind
 have E:∀e ∈ (L.take i).map vG,xJ e=true:=λe he=>by
  obtain ⟨c,c1,rfl⟩:=j e he;exact (vI (g.may c c1)).ev
 have A:((L.take i).map vG).length<=12:=by simp;omega
 have p:((L.take i).map vG).Pairwise λa b=>a.time < b.time \/ a.time=b.time/\gU a.z6 b.z6=true:=by
  rw [kZ];exact (g.pw.sublist (List.take_sublist i L)).imp λh=>h
 have s:(((L.take i).map vG).map (·.z6)).Nodup:=by
  rw [ji];exact (g.gX.sublist ((List.take_sublist i L).map _))
 have k:tf ((L.take i).map vG)=some ((L.take i).map vG):=by
  rw [zrg (R:=nE 0 ((L.take i).map vG)) (by omega) (λe he=>by
   obtain ⟨c,c1,rfl⟩:=j e he;have:=ziK (g.may c c1);simp only [vG,lim];omega) (.refl _) ?_,zja]
  have y:((nE 0 ((L.take i).map vG)).map (·.e)).Pairwise λa b=>a.time < b.time \/ a.time=b.time/\gU a.z6 b.z6=true:=by
   rw [zja];exact p
  rw [kZ] at y;refine y.imp λ{a b} o=>?_;unfold wc;rcases o with B | ⟨B,r⟩
  ·grind
  ·rw [lq (λw=>by rw [w.2,ul] at r;cases r),lq (λw=>w B.symm)];cases h5:gU b.e.z6 a.e.z6 with
   | false=>rfl
   | true=>have:=sE r h5;rw [ul] at this;cases this
 obtain ⟨m,G,H,C⟩:=zpc ((L.take i).map vG);have J:=C.2 s;rw [zqe,nc hs,z];simp only [tb,lH,jL,nv];rw [zbp (q:=λe=>!xJ e) _ (λx _=>by unfold pr;rw [sM];rfl)];have n:(((L.take i).map vG).any λe=>!xJ e)=false:=by
  simp_all
 rw [n];simp only [tb,jk,tx,lg];rw [G,yL,lq (by simp_all),zj0 hs D z,tb,k,tb,h.run,yL]
theorem zvp {b:GL} (st:GQ b m v L) (e:L.length<=12) (n:yv b=some b) (hs:Small b.tree) (p:GC.eV b.tree<=5592405) (o:gY 0 b.tree=true) {i:Nat} {w:List GA} {t:List GC} (hi:i<=L.length) (h:PV b.f L i w) (r:FT b.tree L i t):tw ⟨b,m,v⟩ w=some (t,0):=by
 have q:∀(j:Nat) (c:GI),L[j]?=some c->g8 w c.z6=decide (j < i):=λj c y=>h.has st.gr y;have k:L.filter (λc=>g8 w c.z6)=L.take i:=by
  apply zhG;exact q
 unfold tw;rw [zuW st e n hi h,nI st e];simp only [tb,jn,tx,lg];rw [rS (λc=>g8 w c.z6) vG L 0 [] (by simp only [lF,lim];omega) (λi x s _ hs=>by
  rw [uk];show (if g8 w x.z6=true then (zQ (s.length+1<=lim) (some (Out.gV (s++[vG x])))) else some (Out.gV s))=_;rw [ze hs])]
 simp only [yL,lC];rw [zfu n,k];simp only [tb];rw [zsr st.gr e hs p o r];rfl
theorem zve {b:GL} (st:GQ b m v L) (p:L.length<=12) (A:b.f.length<=64) (h0:Can b.f (zp b.f)) (r:yv b=some b) (hs:Small b.tree) (y:GC.eV b.tree<=5592405) (n:dl 0 b.tree) (H:∀c ∈ L,GJ.wf (vG c)) (E:vj=some true) (s:∀t,uc t t=some true):ziV b ⟨b,m,v⟩ L=some true:=by
 obtain ⟨all,e,N,q⟩:=zhi st p A h0 r;have z:0 < all.length:=by omega
 have B:L.length < all.length:=by omega
 have a0:all.getD 0 default=b.f:=by
  rw [lz,s5 z];exact (q 0 _ (s5 z)).eq (PV.zero h0 A)
 have D:all.getD L.length default=v:=by
  rw [lz,s5 B];exact zti st (q _ _ (s5 B))
 have J:((all.length:Int) != IntKind.wrap .i64 ((L.length:Int)+1))=false:=by
  rw [xF (by omega),N];simp
 unfold ziV;rw [e];simp only [tb,J,jL];rw [ze (λ_=>by omega)];simp only [nv,nq,iQ,a0,jq,tb,lH,jk,jL,nr];rw [ze (λ_=>by omega),zlV (by have:=st.vl;simp only [lim];omega)];simp only [tb,D,jq,lH,jk,tx,lg];refine zdx (λo=>o=some true) (λpre t=>if pre=[] then t=b.tree else FT b.tree L (pre.length - 1) t) (λpre x rest t O I hi=>?_) rfl λt _=>by rw [E];rfl
 have k:pre.length<=L.length:=by
  grind
 have j:=q _ _ I;by_cases hpre:pre=[]
 ·subst hpre;simp only [nv] at hi;subst hi;have h:FT b.tree L 0 b.tree:=⟨rfl,n⟩
  refine ⟨b.tree,?_,?_⟩
  ·rw [zvp st p r hs y n.tree (lX _) j h]
   simp_all
  ·simp_all
 ·rw [lq hpre] at hi;have G:0 < pre.length:=iv.2 hpre;have w:L[pre.length - 1]?=some (L[pre.length - 1]'(by omega)):=s5 _;have C:=lf w;obtain ⟨u,M,h⟩:=hi.step (by omega) w (vI (st.gr.may _ C)).ev (H _ C);rw [show pre.length - 1+1=pre.length by omega] at h;refine ⟨u,?_,?_⟩
  ·rw [zvp st p r hs y n.tree k j h];simp only [tb];rw [lc (by simp;omega),uP G (by omega),zt w];unfold uH;simp only [tb];rw [show (GJ.mk (L[pre.length - 1]'(by omega)).z6 (L[pre.length - 1]'(by omega)).time (L[pre.length - 1]'(by omega)).op)=vG (L[pre.length - 1]'(by omega)) from rfl,M]
   simp_all
  ·simp_all
end
section
theorem zcQ {L:List GA} (h:L.Pairwise λa b=>dJ a.zi b.zi) (p:∀d ∈ L,fa d=true):Can L (zp L):=by
 refine ⟨h,λd=>⟨λhd=>?_,λhd=>?_⟩⟩
 ·have B:=mY (p d hd);have A:=tM hd (p d hd) rfl;obtain ⟨x,w,z,e,o⟩:=xD (v:=L) (a:=d.zi) (by omega);have:x=d:=ir λy=>by
   obtain ⟨i,hi⟩:=lD.1 w;obtain ⟨j,n⟩:=lD.1 hd;obtain ⟨s,hi⟩:=tm.1 hi;obtain ⟨q,n⟩:=tm.1 n;have r:=lK.1 h;rcases jN i j with k | k | k
   ·have:=r i j s q k;rw [hi,n,e] at this;exact za8 _ this
   ·simp_all
   ·have:=r j i q s k;rw [hi,n,e] at this;exact za8 _ this
  grind
 ·obtain ⟨x,w,z,e,o⟩:=xD (v:=L) (a:=d.zi) (by omega);have:x=d:=by
   obtain ⟨_,_⟩:=x;obtain ⟨_,_⟩:=d;simp only at e o hd ⊢;simp [e,o,hd.2]
  simp_all
def kD (r:Int):GA:=GA.mk (GH.mk r 1) 1
def kC (r n t:Int) (vv ps:List GA):GI:=GI.mk (GA.mk (GH.mk r (1:Int)) (1:Int)) ps vv t (GM.mk (1:Int) ([([97]:zq)]:List zq) n ([]:zq) ([]:List GA))
def k1:GI:=kC 0 5 1 [kD 0] []
def k2:GI:=kC 1 3 2 [kD 0,kD 1] [kD 0]
def k3:GI:=kC 2 4 2 [kD 0,kD 2] [kD 0]
def kB:GL:=⟨0,[],[],0,[]⟩
theorem zeZ {b:GL} (st:GQ b m v L) (q:L.length < 12) (k:b.f.length<=64) (ok:er b.f L c) (hd:c.op.gX.length<=100):∃m' V,bg b c m v=some (0,m',V)/\GQ b m' V (bC L c):=by
 obtain ⟨r,s,w,h,p,_⟩:=ziZ st q k ok.len hd;have n:=zi1 st.gr (by omega) k ok hd;rw [n] at h;injection h with h;subst h;rcases bm st (by omega) k ok.may ok.len hd with ⟨e,o,x,j⟩ | ⟨_,V,_,o⟩
 ·rw [n] at j;simp only [p3,kT] at j;have:=congrArg List.length j.2;rw [(zeJ L c).length_eq] at this
  simp_all
 ·grind
theorem zse:nz k1=true:=by
 unfold nz;simp only [tr,so];exact ⟨⟨⟨⟨⟨by decide,zcQ (by simp [k1,kC]) (by decide)⟩,by decide⟩,by decide⟩,by decide⟩,by decide⟩
theorem zsd:nz k2=true:=by
 unfold nz;simp only [tr,so];exact ⟨⟨⟨⟨⟨by decide,zcQ (by simp [k2,kC,dJ,kD]) (by decide)⟩,by decide⟩,by decide⟩,by decide⟩,by decide⟩
theorem zsc:nz k3=true:=by
 unfold nz;simp only [tr,so];exact ⟨⟨⟨⟨⟨by decide,zcQ (by simp [k3,kC,dJ,kD]) (by decide)⟩,by decide⟩,by decide⟩,by decide⟩,by decide⟩
theorem zpG (k:nz c=true) (j:c.vV.length<=64/\c.z8.length<=64) (o:ei F L c.z6=false) (q:(c.z8.any λp=>!ei F L p)=false) (r:c.z6.seq=1) (h:aC F L c ⟨c.z6.zi,c.z6.seq - 1⟩=true) (n:∀a,zp c.vV a=dS F L c a):er F L c:=by
 have e:zp c.vV=dS F L c:=funext n;have s:bw (dS F L c) (dS F L c)=true:=(zeW _ _).2 λa=>kI _;refine ⟨k,j,o,?_,h,by simp_all⟩;unfold aD
 simp_all
theorem ztI:er [] [] k1:=zpG zse (by decide) (by decide) (by decide) rfl (by decide) λa=>by
 show zp [kD 0] a=max (max (min (zp [kD 0] a) 0) (zp [kD 0] a)) (max 0 0);have:=yW [kD 0] a;omega
theorem ztH:er [] [k1] k2:=zpG zsd (by decide) (by decide) (by decide) rfl (by decide) λa=>by
 have e:k2.z8.flatMap (md [k1])=[kD 0]:=by decide
 have h:zp [kD 0,kD 1] a=max (zp [kD 0] a) (zp [kD 1] a):=vm a [kD 0] [kD 1];unfold dS;rw [e];show zp [kD 0,kD 1] a=max (max (min (zp [kD 0,kD 1] a) 0) (zp [kD 1] a)) (max (zp [kD 0] a) (zp [kD 0] a));omega
theorem ztG:er [] [k1,k2] k3:=zpG zsc (by decide) (by decide) (by decide) rfl (by decide) λa=>by
 have e:k3.z8.flatMap (md [k1,k2])=[kD 0]:=by decide
 have h:zp [kD 0,kD 2] a=max (zp [kD 0] a) (zp [kD 2] a):=vm a [kD 0] [kD 2];unfold dS;rw [e];show zp [kD 0,kD 2] a=max (max (min (zp [kD 0,kD 2] a) 0) (zp [kD 2] a)) (max (zp [kD 0] a) (zp [kD 0] a));omega
theorem zso:bC [k1] k2=[k1,k2]:=by decide
theorem zsn:bC [k1,k2] k3=[k1,k2,k3]:=by decide
end
section
theorem zlN:yv kB=some kB:=zli (b:=kB) ⟨by simp [kB,GC.ce],by simp [kB,GC.eV]⟩ (by simp [kB]) (by simp [kB])
theorem zsk:wB kB=some true:=zsP (b:=kB) ⟨by simp [kB,GC.ce],by simp [kB,GC.eV]⟩ (by simp [kB]) (by
 unfold zhl;simp only [tr,so];exact ⟨⟨⟨⟨⟨zcQ (by simp [kB]) (by simp [kB]),by decide⟩,by decide⟩,by decide⟩,by decide⟩,by decide⟩)
theorem zoM:Small kB.tree:=⟨by simp [kB,GC.ce],by simp [kB,GC.eV]⟩
theorem zsj:dl 0 kB.tree:=⟨zoM,by decide,by simp [kB,zw,wS],by simp [kB,zw]⟩
theorem zxy:GQ kB [] [] []:=⟨.nil,⟨by simp,by simp,by simp,by simp,by simp,.nil⟩,λa=>rfl,by simp,zcQ .nil (by simp)⟩
theorem kSt:∃n k e j h v3,bg kB k1 [] []=some (0,n,k)/\bg kB k2 n k=some (0,e,j)/\bg kB k3 e j=some (0,h,v3)/\GQ kB h v3 [k1,k2,k3]:=by
 obtain ⟨n,k,q,p⟩:=zeZ zxy (by decide) (by decide) ztI (by decide);obtain ⟨e,j,s,s2⟩:=zeZ (L:=[k1]) p (by decide) (by decide) ztH (by decide);rw [zso] at s2;obtain ⟨h,v3,r,o⟩:=zeZ s2 (by decide) (by decide) ztG (by decide);rw [zsn] at o
 grind
theorem zq2:GJ.wf (vG k1):=by
 simp [vG,k1,kC,GJ.wf,GA.wf,GH.wf,GM.wf,dy,maxLen];decide
theorem zq1:GJ.wf (vG k2):=by
 simp [vG,k2,kC,GJ.wf,GA.wf,GH.wf,GM.wf,dy,maxLen];decide
theorem kPV:PV kB.f [k1,k2,k3] 2 [kD 0,kD 1]:=⟨λa=>by
 show zp [kD 0,kD 1] a=max 0 (zp [kD 0,kD 1] a);have:=yW [kD 0,kD 1] a;omega,zcQ (by simp [kD,dJ]) (by decide),by simp⟩
theorem ziA {k:Nat} (w:dl k t) (J:k < 40) {c:GI} (he:xJ (vG c)=true) (C:GJ.wf (vG c)) (B:c.op.path=[[97]]) (z:c.op.kind=1) {u:List GC} (G:vY t (vG c)=some (u,0)) {A:GE} (x:(A=qP 1/\∀r,r ∉ zw [] t) \/ (A.w7=1/\∀r,r ∈ zw [] t ↔ r=⟨[[97]],A⟩)) :
  (xg A (vG c)).w7=1/\∀r,r ∈ zw [] u ↔ r=⟨[[97]],xg A (vG c)⟩:=by
 obtain ⟨N,l,b,_,o,_,_,s,H,_,_,E⟩:=zjn (w.cE (by omega)) he C;rw [G] at o;simp only [p3,kT,kJ] at o;subst o;have e:vJ (vG c).op.kind=1:=by show vJ c.op.kind=1;rw [z];rfl
 have y:(vG c).op.path=[[97]]:=B;rw [e] at s H;rw [y] at s;obtain ⟨O,I,q,_,M,_,_,_,_,n⟩:=zao (w.cE (by omega)) (p:=[[97]]) (by simp) (k:=1) (by omega);rw [s] at q;simp only [p3,kT] at q;obtain ⟨rfl,rfl⟩:=q;have D:l=A:=by
  rcases x with ⟨j,h⟩ | ⟨j,h⟩
  ·simp_all
  ·rcases n with ⟨_,n⟩ | ⟨_,_,n⟩
   ·simp_all
   ·exact (n ⟨[[97]],A⟩ ((h _).2 rfl) (by simp [uq,j];rfl)).elim
 subst D;refine ⟨?_,λr=>?_⟩
 ·unfold xg
  grind
 ·rw [E,y,e];constructor
  ·rintro (⟨k1,k2⟩ | k1)
   ·rcases x with ⟨_,h⟩ | ⟨j,h⟩
    ·simp_all
    ·have:=(h _).1 k1;subst this;exact (k2 (by simp [uq,j];rfl)).elim
   ·exact k1
  ·simp_all
theorem zu0:∃t,FT kB.tree [k1,k2,k3] 2 t/\∃l b,ud t [[97]] 1=some (l,b)/\l.n=8:=by
 have s:xJ (vG k1)=true:=by decide
 have j:xJ (vG k2)=true:=by decide
 have y:FT kB.tree [k1,k2,k3] 0 kB.tree:=⟨rfl,zsj⟩
 obtain ⟨u,C,h⟩:=y.step (by omega) (c:=k1) rfl s zq2;obtain ⟨z,x⟩:=ziA zsj (by omega) s zq2 rfl rfl C (A:=qP 1) (.inl ⟨rfl,λr=>by simp [kB,zw]⟩);obtain ⟨w,D,o⟩:=h.step (by omega) (c:=k2) rfl j zq1;obtain ⟨E,q⟩:=ziA h.cE (by omega) j zq1 rfl rfl D (.inr ⟨z,x⟩);refine ⟨w,o,?_⟩;obtain ⟨l,b,_,B,G,_,_,_,_,e⟩:=zao (o.cE.cE (by omega)) (p:=[[97]]) (by simp) (k:=1) (by omega);refine ⟨l,b,B,?_⟩;rcases e with ⟨_,e⟩ | ⟨_,_,e⟩
 ·have:=(q _).1 e;simp only [GN.mk.injEq,gD] at this;rw [this];decide
 ·exact (e _ ((q _).2 rfl) (by rfl)).elim
end
section
theorem zxz (st:GQ kB m v [k1,k2,k3]):qX ⟨kB,m,v⟩ [kD 1]=some 9:=by
 obtain ⟨C,e,_,k⟩:=sG (v:=[kD 1]) (by simp);have j:C=[kD 1]:=(za0 k).2 (zcQ (by simp) (by decide));unfold qX;rw [zlq,e,zfu zlN,zlV (by have:=st.vl;simp only [lim];simp at this;omega),nI st (by decide)];simp only [tb,tx,lg,zi8,j,jq,lH,rI];rw [rX (u:=kB.f) (v:=[kD 1]) (λa=>yW [kD 1] a),rX (u:=[kD 1]) (v:=v) (λa=>?_)]
 ·simp only [tb,lH,tx,lg];rw [zgp (q:=λc=>g8 [kD 1] c.z6&&!fx c.vV [kD 1]) [k1,k2,k3] (λx _=>by
   unfold sO;rw [uk,rI];cases g8 [kD 1] x.z6 <;> rfl)]
  have n:fx k2.vV [kD 1]=false:=by
   cases h:fx k2.vV [kD 1] with
   | false=>rfl
   | true =>
    have:bw (zp k2.vV) (zp [kD 1])=true:=h;rw [zeW] at this;have:=this ⟨0,1⟩;exact absurd this (by decide)
  have p:g8 [kD 1] k2.z6=true:=by decide
  simp_all
 ·rw [st.vv];have o:zp ([k1,k2,k3].flatMap (·.vV)) a=max (zp ([kD 0]++[kD 0]) a) (max (zp [kD 1] a) (zp [kD 0,kD 2] a)):=by
   rw [show [k1,k2,k3].flatMap (·.vV)=([kD 0]++[kD 0])++([kD 1]++[kD 0,kD 2]) from by decide];simp only [vm]
  omega
theorem zcu:vj=some true:=by
 obtain ⟨w,q,p,r,j,v3,H,G,I,st⟩:=kSt;obtain ⟨t,A,l,b,J,B⟩:=zu0;have D:tw ⟨kB,j,v3⟩ [kD 0,kD 1]=some (t,0):=zvp st (by decide) zlN zoM (by simp [kB,GC.eV]) (by decide) (by decide) kPV A;have M:=zxz st;unfold vj;rw [show wB (GL.mk (0:Int) ([]:List GA) ([]:List GA) (0:Int) ([]:List GC))=some true from zsk,show yv (GL.mk (0:Int) ([]:List GA) ([]:List GA) (0:Int) ([]:List GC))=some kB from zlN];unfold yO rT;simp only [tb,lH,tx,lg,jn];rw [ze (by omega)];have step:∀(n:Nat) (y:GI) (s:List (GA×GI)×List GA) (m':List (GA×GI)) (z:List GA),[k1,k2,k3][n]?=some y->bg kB y s.1 s.2=some (0,m',z)->(((zS [k1,k2,k3] (n:Int)).bind λk=>(bg kB k s.1 s.2).bind λe=>(if (e.1 != (0:Int))=true then some (.ret false) else some (.gV (e.2.1,e.2.2)))):Option (Out Bool (List (GA×GI)×List GA)))=some (.gV (m',z)):=λn y s m' z E C=>by
  rw [zt E,tb,C];rfl
 refine zdx (λo=>o=some true) (λpre s=>s=if pre.length=0 then ([],[]) else if pre.length=1 then (w,q) else if pre.length=2 then (p,r) else (j,v3)) (λpre x rest s P O hi=>?_) rfl λs hi=>?_
 ·have N:pre.length < 3:=by
   grind
  rcases (show pre.length=0 \/ pre.length=1 \/ pre.length=2 by omega) with h | h | h
  ·rw [h] at hi ⊢;subst hi;exact ⟨(w,q),step 0 k1 ([],[]) w q rfl H,by simp [h]⟩
  ·rw [h] at hi ⊢;subst hi;exact ⟨(p,r),step 1 k2 (w,q) p r rfl G,by simp [h]⟩
  ·rw [h] at hi ⊢;subst hi;exact ⟨(j,v3),step 2 k3 (p,r) j v3 rfl I,by simp [h]⟩
 ·have hs:s=(j,v3):=by simpa using hi
  subst hs;show ((tw ⟨kB,j,v3⟩ [kD 0,kD 1]).bind _)=_;rw [D];simp only [tb];rw [J];simp only [tb,B,jL,lI,nv];show ((qX ⟨kB,j,v3⟩ [kD 1]).bind _)=_
  grind
theorem zab {b:GL} {l:List GI} (hs:Small b.tree) (s:GC.eV b.tree<=5592405) (D:b.f.length<=16777216) (r:b.g9.length<=lim) (y:∀c ∈ l,GJ.wf (vG c)) (e:∀t,uc t t=some true):xi b l=some true:=by
 obtain ⟨g,j⟩:=zde hs;by_cases n:l.length<=12/\b.f.length<=64
 ·obtain ⟨n,h⟩:=n;have k:(decide ((l.length:Int) > 12))=false:=by simp;omega
  have o:(decide ((b.f.length:Int) > 64))=false:=by simp;omega
  cases g with
  | true =>
   unfold xi;rw [k,o,j];simp [zcu]
  | false =>
   cases hm:zhl b with
   | false =>
    unfold xi;rw [k,o,j,zoX hs h,hm];simp [zcu]
   | true =>
    obtain ⟨p,E,C,z,_⟩:=ziL hm;have q:=zli hs (by simp only [lim];omega) r;have w:=znU hs z j;exact zp3 n h j (by rw [zoX hs h,hm]) (zsP hs h hm) q p zcu λm v L st x A=>zve st x h p q hs s w (λc B=>y c (A c B)) zcu e
 ·have k:(decide ((l.length:Int) > 12) || decide ((b.f.length:Int) > 64))=true:=by
   grind
  unfold xi;rw [k];simp [zcu]
theorem mO (b:GL) (l:List GI) (j:GL.wf b) (h:l.length<=maxLen/\∀y ∈ l,GI.wf y) (k:GL.bk b+((l.map GI.bk).sum+1)<=1048576):xi b l=some true:=by
 unfold GL.bk at k;have k1:b.f.length<=(b.f.map GA.bk).sum:=nh (λx=>by unfold GA.bk;omega) b.f;have k2:b.g9.length<=(b.g9.map GA.bk).sum:=nh (λx=>by unfold GA.bk;omega) b.g9;refine zab ⟨(GC.eH b.tree).2 j.2.2.2.2.2,by rw [GC.dQ];omega⟩ (by rw [GC.dQ];omega) (by omega) (by simp only [lim];omega) (λc n=>?_) zdd;have e:=h.2 c n;exact ⟨e.1,e.2.2.2.1,e.2.2.2.2⟩
end
end Go.Vv
