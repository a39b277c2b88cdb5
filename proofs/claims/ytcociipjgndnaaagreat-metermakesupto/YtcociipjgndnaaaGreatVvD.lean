/- Tokens: rows that the call's own code lengthens. -/
import Derived.Test.YtcociipjgndnaaaGreatVvC
namespace Go.Vv
open Go Go.RowKit
section
variable {B:Nat} {w0 w:World} {g:Gh} {h:AH}

def Gh.setT (g:Gh) (i:Nat) (t:TI):Gh:={ g with τ:=g.τ.set i t }
def Gh.addT (g:Gh) (t:TI):Gh:={ g with τ:=g.τ++[t] }
theorem Gh.le_setT {g:Gh} {i:Nat} {t t':TI} (hi:g.τ[i]?=some t) (b:t.n < t'.n) (a:t'.row=t.row):g.le (g.setT i t') :=
 ⟨λ_ _ _ e=>e,λ_ _ e=>e,λj u e=>by
  simp only [Gh.setT];by_cases hj:j=i
  ·subst hj;rw [hi] at e;injection e with e;subst e;exact ⟨t',uA (uc.1 hi).1,by omega,λq=>by omega,a⟩
  ·exact ⟨u,by rw [uK (λe=>hj e.symm)];exact e,uh _,λ_=>rfl,rfl⟩,λ_ h=>h,λ_ _ h=>h,λ_ h=>h⟩
theorem Gh.le_addT (g:Gh) (t:TI):g.le (g.addT t) :=
 ⟨λ_ _ _ e=>e,λ_ _ e=>e,λj u e=>by
  simp only [Gh.addT];exact ⟨u,by rw [uj (uc.1 e).1];exact e,uh _,λ_=>rfl,rfl⟩,λ_ h=>h,λ_ _ h=>h,λ_ h=>h⟩

theorem Rel.setTok (r:Rel B w0 g h w) {i:Nat} {t t':TI} (hi:g.τ[i]?=some t) (P:t.n < t'.n) (K:t.row=false) (F:t'.row=false)
  (A:∀b l e,t'.loc=some (b,l,e)->LocOk g.Φ B w b l e)
  (hd:∀b x,t'.loc=some (b,x)->(∃y,t.loc=some (b,y)) \/ ((∀(j:Nat) (u:TI) (y:Nat×Nat),g.τ[j]?=some u->u.loc ≠ some (b,y))/\(∀(j c:Nat),g.σ[j]?=some (some c)->b ≠ c)/\g.N b=none)) :
  Rel B w0 (g.setT i t') { h with toks:=h.toks.set i t'.n } w:=by
 have D:i < g.τ.length:=(uc.1 hi).1;have key:∀(j:Nat) (u:TI),(g.setT i t').τ[j]?=some u->(j=i/\u=t') \/ (j ≠ i/\g.τ[j]?=some u):=by
  intro j u e;simp only [Gh.setT] at e;by_cases d:j=i
  ·subst d;rw [uA D] at e;injection e with e;exact .inl ⟨rfl,e.symm⟩
  ·rw [uK (λe=>d e.symm)] at e;exact .inr ⟨d,e⟩
 refine ⟨r.below,r.bsz,r.phi,r.slen,λS c k G M=>?_,by simp [Gh.setT,r.tlen],λj u f=>?_,r.sinj,λj H u V b x y d a p J=>?_,λj c H u b x G f p=>?_,r.dfr,
  λq k U M=>(r.row q k U M).mono (Gh.le_setT hi P (F.trans K.symm)) (λj u d R=>by
   have o:j ≠ i:=by rintro rfl;rw [hi] at d;injection d with e;rw [<- e,K] at R;cases R
   simp only [Gh.setT];rw [uK (λe=>o e.symm)];exact d) (λ_ _ _ _ _ _ _=>⟨rfl,λ_=>rfl⟩),r.rinj,λb x C=>?_,r.ob⟩
 rotate_right
 ·exact (r.nb b x C).mono λ_ _ I=>⟨rfl,⟨I.1,I.2.1,λj u y f Q=>by
    rcases key j u f with ⟨rfl,rfl⟩ | ⟨_,f⟩
    ·rcases hd b y Q with ⟨z,m⟩ | ⟨_,_,L⟩
     ·exact I.2.2 _ _ z hi m
     ·have C:g.N b=some x:=C;rw [L] at C;cases C
    ·exact I.2.2 j u y f Q⟩,λh=>h⟩
 ·obtain ⟨v,E,L,T⟩:=r.blk S c k G M;exact ⟨v,E,L.mono (Gh.le_setT hi P (F.trans K.symm)) rfl,T⟩
 ·rcases key j u f with ⟨rfl,rfl⟩ | ⟨d,f⟩
  ·exact ⟨uA (by rw [<- r.tlen];exact D),A⟩
  ·obtain ⟨v,E⟩:=r.tok j u f;exact ⟨by rw [uK (λe=>d e.symm)];exact v,E⟩
 ·rcases key j u d with ⟨rfl,rfl⟩ | ⟨o,s⟩ <;> rcases key H V a with ⟨rfl,rfl⟩ | ⟨O,a⟩
  ·rfl
  ·rcases hd b x p with ⟨z,m⟩ | ⟨v,_⟩
   ·exact r.tinj _ _ _ _ b z y hi a m J
   ·exact absurd J (v _ _ _ a)
  ·rcases hd b y J with ⟨z,m⟩ | ⟨v,_⟩
   ·exact r.tinj _ _ _ _ b x z s hi p m
   ·exact absurd p (v _ _ _ s)
  ·exact r.tinj _ _ _ _ b x y s a p J
 ·rcases key H u f with ⟨rfl,rfl⟩ | ⟨o,f⟩
  ·rcases hd b x p with ⟨z,m⟩ | ⟨_,E,_⟩
   ·exact r.sep j c _ t b z G hi m
   ·exact E j c G
  ·exact r.sep j c H u b x G f p

theorem Rel.addTok (r:Rel B w0 g h w) (t:TI) (o:∀b l e,t.loc=some (b,l,e)->LocOk g.Φ B w b l e)
  (hd:∀b x,t.loc=some (b,x)->(∀(j:Nat) (u:TI) (y:Nat×Nat),g.τ[j]?=some u->u.loc ≠ some (b,y))/\(∀(j c:Nat),g.σ[j]?=some (some c)->b ≠ c)/\g.N b=none) :
  Rel B w0 (g.addT t) { h with toks:=h.toks++[t.n] } w:=by
 have key:∀(j:Nat) (u:TI),(g.addT t).τ[j]?=some u->(j=g.τ.length/\u=t) \/ (j < g.τ.length/\g.τ[j]?=some u):=by
  intro j u e;simp only [Gh.addT] at e;rcases tz j g.τ.length with f | f
  ·rw [uj f] at e;exact .inr ⟨f,e⟩
  ·rw [ui f] at e;rcases su (j - g.τ.length) with h0 | h0
   ·rw [h0] at e;simp at e;exact .inl ⟨by omega,e.symm⟩
   ·rw [th (by simp;omega)] at e;cases e
 refine ⟨r.below,r.bsz,r.phi,r.slen,λI c k z E=>?_,by simp [Gh.addT,r.tlen],λj u a=>?_,r.sinj,λj v u L b x y i d m F=>?_,λj c v u b x z a m=>?_,r.dfr,
  λq k K E=>(r.row q k K E).mono (Gh.le_addT g t) (λj u i _=>by
   simp only [Gh.addT];rw [uj (uc.1 i).1];exact i) (λ_ _ _ _ _ _ _=>⟨rfl,λ_=>rfl⟩),r.rinj,λb x p=>?_,r.ob⟩
 rotate_right
 ·exact (r.nb b x p).mono λ_ _ D=>⟨rfl,⟨D.1,D.2.1,λj u y a f=>by
    rcases key j u a with ⟨rfl,rfl⟩ | ⟨_,a⟩
    ·have p:g.N b=some x:=p;rw [(hd b y f).2.2] at p;cases p
    ·exact D.2.2 j u y a f⟩,λh=>h⟩
 ·obtain ⟨G,C,M,J⟩:=r.blk I c k z E;exact ⟨G,C,M.mono (Gh.le_addT g t) rfl,J⟩
 ·rcases key j u a with ⟨rfl,rfl⟩ | ⟨i,a⟩
  ·refine ⟨?_,o⟩;rw [r.tlen,ui (uh _)];simp
  ·obtain ⟨G,C⟩:=r.tok j u a;exact ⟨by rw [uj (by rw [<- r.tlen];exact i)];exact G,C⟩
 ·rcases key j u i with ⟨rfl,rfl⟩ | ⟨A,s⟩ <;> rcases key v L d with ⟨rfl,rfl⟩ | ⟨H,d⟩
  ·rfl
  ·exact absurd F ((hd b x m).1 _ _ _ d)
  ·exact absurd m ((hd b y F).1 _ _ _ s)
  ·exact r.tinj _ _ _ _ b x y s d m F
 ·rcases key v u a with ⟨rfl,rfl⟩ | ⟨A,a⟩
  ·exact (hd b x m).2.1 j c z
  ·exact r.sep j c v u b x z a m

theorem Rel.setSpare (r:Rel B w0 g h w) {i:Nat} {t:TI} {b l e:Nat} (hi:g.τ[i]?=some t) (C:t.loc=some (b,l,e)) {cur new:Array Value} {ty:TypeId}
  (H:w.heap[b]?=some (.cells cur ty (0,0))) (Z:new.size=cur.size) (n:∀j,j < l->new[j]?=cur[j]?):Rel B w0 g h (w.setRow b new):=by
 have lo:=(r.tok i t hi).2 b l e C;have p:(w.setRow b new).heap[b]?=some (.cells new ty (0,0)):=setRow_heap w b cur new ty (0,0) H;refine ⟨⟨r.below.os,r.below.tape,r.below.output,by simp [r.below.size],λk I=>(setRow_other w b k new (by have:=lo.lo;omega)).trans (r.below.block k I)⟩,by simp [r.bsz],λd j v J=>?_,
  r.slen,λL c k D I=>?_,r.tlen,λL t' Q=>?_,r.sinj,r.tinj,r.sep,λx K=>⟨(r.dfr x K).1,(setRow_other w b x new (by rintro rfl;have:=(r.dfr x K).2.1;rw [H] at this;cases this)).trans (r.dfr x K).2.1,(r.dfr x K).2.2⟩,λq k hq I=>?_,r.rinj,
  λd x f=>(r.nb d x f).mono λ_ _ S=>⟨setRow_other w b d new (by rintro rfl;exact S.2.2 i t _ hi C),S,λh=>h⟩,λd f=>⟨by simpa using (r.ob d f).1,(r.ob d f).2⟩⟩
 ·by_cases f:d=b
  ·subst f;have F:j < l:=by
    rcases tz j l with F | F
    ·exact F
    ·rw [lo.free j F] at J;cases J
   have:=r.phi d j v J;rw [cell_of_row w d j cur ty (0,0) H] at this;rw [cell_of_row _ d j new ty (0,0) p,n j F];exact this
  ·exact (World.cell?_of_block (w:=w) (a:=⟨d,j,none⟩) (setRow_other w b d new f)).trans (r.phi d j v J)
 ·obtain ⟨y,G,R,P⟩:=r.blk L c k D I;exact ⟨y,by simpa using G,R.mono (Gh.le.refl g) (setRow_other w b c new (r.sep L c i t b (l,e) D hi C).symm),P⟩
 ·obtain ⟨y,G⟩:=r.tok L t' Q;refine ⟨y,λd W N M=>?_⟩;have s:=G d W N M;by_cases f:d=b
  ·subst f;obtain ⟨cs,ty',m,hle⟩:=s.cells;rw [H] at m;injection m with m;injection m with m _ _;subst m;exact ⟨s.lo,by simpa using s.lt,⟨new,ty,p,by omega⟩,s.free⟩
  ·exact s.mono (by simp) (setRow_other w b d new f) λ_ _=>rfl
 ·have z:=r.row q k hq I;cases k with
  | row i2 k es =>
   obtain ⟨t2,y,G,R,P,V,X⟩:=z;refine ⟨t2,y,G,R,P,V,X.imp id ?_⟩
   rintro ⟨E,o,e2,cs,ty2,u,A,T,Y,U⟩
   by_cases f:E=b
   ·subst f;have O:=r.tinj _ _ _ _ E _ _ y hi u C;subst O;rw [hi] at y;injection y with y;subst y;rw [C] at u;injection u with u;injection u with _ u;injection u with u _;rw [H] at A;injection A with A;injection A with A k22 _;subst A;refine ⟨E,o,e,new,ty,by rw [C,u],p,?_,by omega,U⟩;have:(new.toList.drop o).take (es.length * k)=(cur.toList.drop o).take (es.length * k):=by
     apply tu;intro j;rw [uw,uw];split
     ·rw [uF,uF,uv,uv,n _ (by omega)]
     ·rfl
    rw [this];exact T
   ·exact ⟨E,o,e2,cs,ty2,u,(setRow_other w b E new f).trans A,T,Y,U⟩
  | dead=>trivial
  | _=>exact z.elim

theorem Rel.setRow (r:Rel B w0 g h w) {i q k:Nat} {t t':TI} {es es':List (List AV)} (hi:g.τ[i]?=some t) (hn:t.n < t'.n) (hf:t.row=true) (W:t'.row=true)
  (hq:g.σ[q]?=some none) (s:h.blks[q]?=some (.row i k es)) (I:RowOk (g.setT i t') w i k es')
  (H:∀b l e,t'.loc=some (b,l,e)->LocOk g.Φ B w b l e)
  (hd:∀b x,t'.loc=some (b,x)->(∃y,t.loc=some (b,y)) \/ ((∀(j:Nat) (u:TI) (y:Nat×Nat),g.τ[j]?=some u->u.loc ≠ some (b,y))/\(∀(j c:Nat),g.σ[j]?=some (some c)->b ≠ c)/\g.N b=none)) :
  Rel B w0 (g.setT i t') { h.put q (.row i k es') with toks:=h.toks.set i t'.n } w:=by
 have J:i < g.τ.length:=(uc.1 hi).1;have M:=Gh.le_setT hi hn (W.trans hf.symm);have key:∀(j:Nat) (u:TI),(g.setT i t').τ[j]?=some u->(j=i/\u=t') \/ (j ≠ i/\g.τ[j]?=some u):=by
  intro j u e;simp only [Gh.setT] at e;by_cases d:j=i
  ·subst d;rw [uA J] at e;injection e with e;exact .inl ⟨rfl,e.symm⟩
  ·rw [uK (λe=>d e.symm)] at e;exact .inr ⟨d,e⟩
 have T:q < h.blks.length:=(uc.1 s).1;have a:∀(j:Nat) (b:Blk),(h.blks.set q (.row i k es'))[j]?=some b->(j=q/\b=.row i k es') \/ (j ≠ q/\h.blks[j]?=some b):=by
  intro j b e;by_cases d:j=q
  ·subst d;rw [uA T] at e;injection e with e;exact .inl ⟨rfl,e.symm⟩
  ·rw [uK (λe=>d e.symm)] at e;exact .inr ⟨d,e⟩
 refine ⟨r.below,r.bsz,r.phi,by simp [AH.put,Gh.setT,r.slen],λX c b A O=>?_,by simp [Gh.setT,r.tlen],λj u o=>?_,r.sinj,λj P u u' b x y d f F S=>?_,λj c P u b x A o F=>?_,r.dfr,
  λj b d O=>?_,λj1 j2 t1 k1 Z e1 e2 V p=>?_,λb x s=>?_,r.ob⟩
 rotate_right
 ·exact (r.nb b x s).mono λ_ _ Q=>⟨rfl,⟨Q.1,Q.2.1,λj u y o hl=>by
    rcases key j u o with ⟨rfl,rfl⟩ | ⟨_,o⟩
    ·rcases hd b y hl with ⟨z,C⟩ | ⟨_,_,Y⟩
     ·exact Q.2.2 _ _ z hi C
     ·have s:g.N b=some x:=s;rw [Y] at s;cases s
    ·exact Q.2.2 j u y o hl⟩,λh=>h⟩
 ·have A:g.σ[X]?=some (some c):=A;rcases a X b O with ⟨rfl,rfl⟩ | ⟨v,O⟩
  ·rw [hq] at A;cases A
  ·obtain ⟨G,K,Y,h4⟩:=r.blk X c b A O;exact ⟨G,K,Y.mono M rfl,h4⟩
 ·rcases key j u o with ⟨rfl,rfl⟩ | ⟨d,o⟩
  ·exact ⟨uA (by rw [<- r.tlen];exact J),H⟩
  ·obtain ⟨G,K⟩:=r.tok j u o;exact ⟨by simp only;rw [uK (λe=>d e.symm)];exact G,K⟩
 ·rcases key j u d with ⟨rfl,rfl⟩ | ⟨v,p⟩ <;> rcases key P u' f with ⟨rfl,rfl⟩ | ⟨hne',f⟩
  ·rfl
  ·rcases hd b x F with ⟨z,C⟩ | ⟨G,_⟩
   ·exact r.tinj _ _ _ _ b z y hi f C S
   ·exact absurd S (G _ _ _ f)
  ·rcases hd b y S with ⟨z,C⟩ | ⟨G,_⟩
   ·exact r.tinj _ _ _ _ b x z p hi F C
   ·exact absurd F (G _ _ _ p)
  ·exact r.tinj _ _ _ _ b x y p f F S
 ·rcases key P u o with ⟨rfl,rfl⟩ | ⟨v,o⟩
  ·rcases hd b x F with ⟨z,C⟩ | ⟨_,K,_⟩
   ·exact r.sep j c _ t b z A hi C
   ·exact K j c A
  ·exact r.sep j c P u b x A o F
 ·rcases a j b O with ⟨rfl,rfl⟩ | ⟨v,m⟩
  ·exact I
  ·have R:=r.row j b d m;cases b with
   | row i2 Z e2 =>
    have R:RowOk g w i2 Z e2:=R;have U:i2 ≠ i:=by rintro rfl;exact v (r.rinj _ _ _ _ _ _ _ m s)
    exact R.mono M (by simp only [Gh.setT];exact uK (λe=>U e.symm)) (λ_ _ _ _ _ _=>⟨rfl,λ_=>rfl⟩)
   | dead=>trivial
   | _=>exact R.elim
 ·rcases a j1 _ V with ⟨rfl,D⟩ | ⟨hne1,L⟩ <;> rcases a j2 _ p with ⟨rfl,E⟩ | ⟨hne2,m⟩
  ·rfl
  ·injection D with D _ _;subst D;exact r.rinj _ _ _ _ _ _ _ s m
  ·injection E with E _ _;subst E;exact r.rinj _ _ _ _ _ _ _ L s
  ·exact r.rinj _ _ _ _ _ _ _ L m

theorem Rel.rowAt (r:Rel B w0 g h w) {id q k:Nat} {es:List (List AV)} (b:h.blk id=some (.row q k es)):g.σ[id]?=some none/\RowOk g w q k es:=by
 have d:id < g.σ.length:=by rw [r.slen];exact (uc.1 b).1
 rcases a:g.σ[id] with _ | c
 ·have a:g.σ[id]?=some none:=by rw [ug d,a]
  exact ⟨a,r.row _ _ a b⟩
 ·exact (r.blk id c _ (by rw [ug d,a]) b).2.2.1.elim

theorem Rel.storeRow (r:Rel B w0 g h w) {q i k:Nat} {es es':List (List AV)} (z:h.blk q=some (.row i k es)) {t:TI} {b o e:Nat} {cur new:Array Value} {ty:TypeId} (hi:g.τ[i]?=some t)
  (L:t.loc=some (b,o+es.length * k,e)) (S:w.heap[b]?=some (.cells cur ty (0,0))) (hsz:new.size=cur.size) (H:∀j,j < o->new[j]?=cur[j]?) (f:es'.length=es.length)
  (hk:∀e ∈ es',e.length=k) (hp:es'.flatten.all AV.pure=true) (hva:VA g es'.flatten ((new.toList.drop o).take (es.length * k))) (hne:es ≠ []) :
  Rel B w0 g (h.put q (.row i k es')) (w.setRow b new):=by
 obtain ⟨Y,t2,m,htr,htn,_,_,s⟩:=r.rowAt z;rw [hi] at m;injection m with m;subst m;obtain ⟨F,M,N,cs,ty2,J,E,k3,k4,k5⟩:∃F M N cs ty2,t.loc=some (F,M+es.length * k,N)/\w.heap[F]?=some (.cells cs ty2 (0,0))/\VA g es.flatten ((cs.toList.drop M).take (es.length * k))/\M+es.length * k<=cs.size/\∀j,M<=j->g.Φ F j=none:=by
  rcases s with rfl | s
  ·exact absurd rfl hne
  ·exact s
 rw [L] at J;injection J with J;injection J with e1 J;injection J with J _;obtain rfl:o=M:=by omega
 subst e1;rw [S] at E;injection E with E;injection E with E _ _;subst E;have lo:=(r.tok i t hi).2 b _ e L;have u:(w.setRow b new).heap[b]?=some (.cells new ty (0,0)):=setRow_heap w b cur new ty (0,0) S;have W:q < h.blks.length:=(uc.1 z).1;have l:∀(j:Nat) (x:Blk),(h.blks.set q (.row i k es'))[j]?=some x->(j=q/\x=.row i k es') \/ (j ≠ q/\h.blks[j]?=some x):=by
  intro j x e;by_cases y:j=q
  ·subst y;rw [uA W] at e;injection e with e;exact .inl ⟨rfl,e.symm⟩
  ·rw [uK (λe=>y e.symm)] at e;exact .inr ⟨y,e⟩
 have R:∀(A c:Nat),g.σ[A]?=some (some c)->c ≠ b:=λA c h'=>(r.sep A c i t b _ h' hi L).symm;refine ⟨⟨r.below.os,r.below.tape,r.below.output,by simp [r.below.size],λx D=>(setRow_other w b x new (by have:=lo.lo;omega)).trans (r.below.block x D)⟩,by simp [r.bsz],λd j v U=>?_,
  by simp [AH.put,r.slen],λA c x C K=>?_,r.tlen,λA t' ht'=>?_,r.sinj,r.tinj,r.sep,λx D=>⟨(r.dfr x D).1,(setRow_other w b x new (by rintro rfl;have:=(r.dfr x D).2.1;rw [S] at this;cases this)).trans (r.dfr x D).2.1,(r.dfr x D).2.2⟩,
  λj x y D=>?_,λj1 j2 t1 x1 x2 e1 N hj1 Z=>?_,
  λd x z=>(r.nb d x z).mono λ_ _ ha=>⟨setRow_other w b d new (by rintro rfl;exact ha.2.2 i t _ hi L),ha,λh=>h⟩,λd z=>⟨by simpa using (r.ob d z).1,(r.ob d z).2⟩⟩
 ·by_cases hb':d=b
  ·subst hb';have y:j < o:=by
    rcases tz j o with y | y
    ·exact y
    ·rw [k5 j y] at U;cases U
   have:=r.phi d j v U;rw [cell_of_row w d j cur ty (0,0) S] at this;rw [cell_of_row _ d j new ty (0,0) u,H j y];exact this
  ·exact (World.cell?_of_block (w:=w) (a:=⟨d,j,none⟩) (setRow_other w b d new hb')).trans (r.phi d j v U)
 ·rcases l A x K with ⟨rfl,rfl⟩ | ⟨_,K⟩
  ·rw [Y] at C;cases C
  ·obtain ⟨h1,X,h3,h4⟩:=r.blk A c x C K;exact ⟨h1,by simpa using X,h3.mono (Gh.le.refl g) (setRow_other w b c new (R A c C)),h4⟩
 ·obtain ⟨h1,X⟩:=r.tok A t' ht';refine ⟨h1,λd l' e'' hl'=>?_⟩;have p:=X d l' e'' hl';by_cases hb':d=b
  ·subst hb';obtain ⟨cs,ty',n,hle⟩:=p.cells;rw [S] at n;injection n with n;injection n with n _ _;subst n;exact ⟨p.lo,by simpa using p.lt,⟨new,ty,u,by omega⟩,p.free⟩
  ·exact p.mono (by simp) (setRow_other w b d new hb') λ_ _=>rfl
 ·rcases l j x D with ⟨rfl,rfl⟩ | ⟨Q,T⟩
  ·exact ⟨t,hi,htr,htn.trans f.symm,hk,hp,.inr ⟨b,o,e,new,ty,by rw [f];exact L,u,by rw [f];exact hva,by rw [f];omega,k5⟩⟩
  ·have V:=r.row j x y T;cases x with
   | row i2 E N =>
    have V:RowOk g w i2 E N:=V;refine V.mono (Gh.le.refl g) rfl λt2 F x2 m _ hl2=>⟨setRow_other w b F new ?_,λ_=>rfl⟩
    rintro rfl
    have:=r.tinj _ _ _ _ F _ _ m hi hl2 L;subst this;exact Q (r.rinj _ _ _ _ _ _ _ T z)
   | dead=>trivial
   | _=>exact V.elim
 ·rcases l j1 _ hj1 with ⟨rfl,I⟩ | ⟨hne1,O⟩ <;> rcases l j2 _ Z with ⟨rfl,G⟩ | ⟨hne2,P⟩
  ·rfl
  ·injection I with I _ _;subst I;exact r.rinj _ _ _ _ _ _ _ z P
  ·injection G with G _ _;subst G;exact r.rinj _ _ _ _ _ _ _ O z
  ·exact r.rinj _ _ _ _ _ _ _ O P
theorem Rel.scribble (r:Rel B w0 g h w) {b s:Nat} (I:g.N b=some (.gar s)) {cur new:Array Value} {ty:TypeId}
  (f:w.heap[b]?=some (.cells cur ty (0,0))) (O:new.size=cur.size):Rel B w0 g h (w.setRow b new):=by
 obtain ⟨U,⟨l,had,i⟩,⟨W,Q,G,T⟩,n⟩:=r.nb b _ I;have p:(w.setRow b new).heap[b]?=some (.cells new ty (0,0)):=setRow_heap w b cur new ty (0,0) f;refine ⟨⟨r.below.os,r.below.tape,r.below.output,by simp [r.below.size],λk y=>(setRow_other w b k new (by omega)).trans (r.below.block k y)⟩,by simp [r.bsz],λd j v D=>?_,
  r.slen,λF c k o y=>?_,r.tlen,λF t' u=>?_,r.sinj,r.tinj,r.sep,λx z=>⟨(r.dfr x z).1,(setRow_other w b x new (by rintro rfl;have:=(r.dfr x z).2.1;rw [f] at this;cases this)).trans (r.dfr x z).2.1,(r.dfr x z).2.2⟩,λq k S y=>?_,r.rinj,λd x e=>?_,λd e=>⟨by simpa using (r.ob d e).1,(r.ob d e).2⟩⟩
 ·have A:d ≠ b:=by rintro rfl;rw [n] at D;cases D
  exact (World.cell?_of_block (w:=w) (a:=⟨d,j,none⟩) (setRow_other w b d new A)).trans (r.phi d j v D)
 ·obtain ⟨H,E,V,R⟩:=r.blk F c k o y;exact ⟨H,by simpa using E,V.mono (Gh.le.refl g) (setRow_other w b c new (by rintro rfl;exact l _ o)),R⟩
 ·obtain ⟨H,E⟩:=r.tok F t' u;exact ⟨H,λd J C m=>(E d J C m).mono (by simp) (setRow_other w b d new (by rintro rfl;exact i _ _ _ u m)) λ_ _=>rfl⟩
 ·exact (r.row q k S y).mono (Gh.le.refl g) (λ_ _ h _=>h) (λX t M x K _ L=>⟨setRow_other w b M new (by rintro rfl;exact i _ _ _ K L),λ_=>rfl⟩)
 ·by_cases hbb:d=b
  ·subst hbb;rw [I] at e;injection e with e;subst e;rw [G] at f;injection f with f;injection f with f _ _;subst f;exact ⟨U,⟨l,had,i⟩,⟨new,ty,p,by omega⟩,n⟩
  ·exact (r.nb d x e).mono λ_ _ P=>⟨setRow_other w b d new hbb,P,λh=>h⟩
def Gh.addN (g:Gh) (b:Nat) (x:BK):Gh:={ g with N:=λc=>if c=b then some x else g.N c }
theorem Gh.le_addN {g:Gh} {b:Nat} (x:BK) (h:g.N b=none):g.le (g.addN b x) :=
 ⟨λ_ _ _ e=>e,λ_ _ e=>e,λ_ t e=>⟨t,e,uh _,λ_=>rfl,rfl⟩,λ_ h=>h,λc y e=>by
  simp only [Gh.addN];by_cases hc:c=b
  ·subst hc;rw [h] at e;cases e
  ·simp [hc,e],λ_ h=>h⟩
theorem Rel.mark (r:Rel B w0 g h w) {b:Nat} {cs:Array Value} {ty:TypeId} (m:g.N b=none) (q:B<=b) (j:w.heap[b]?=some (.cells cs ty (0,0))) (f:Apart g b) (n:¬ g.O b):Rel B w0 (g.addN b (.new cs.size)) h w :=
 ⟨r.below,r.bsz,r.phi,r.slen,λi c k j l=>by obtain ⟨t,o,s,p⟩:=r.blk i c k j l;exact ⟨t,o,s.mono (Gh.le_addN _ m) rfl,p⟩,r.tlen,r.tok,r.sinj,r.tinj,r.sep,r.dfr,
   λi k hi l=>(r.row i k hi l).mono (Gh.le_addN _ m) (λ_ _ h _=>h) (λ_ _ _ _ _ _ _=>⟨rfl,λ_=>rfl⟩),r.rinj,λd x a=>by
     simp only [Gh.addN] at a;by_cases hbb:d=b
     · subst hbb;simp only [ut,un] at a;subst a;exact ⟨q,f,cs,ty,j,rfl⟩
     · simp only [hbb,uG] at a;exact (r.nb d x a).mono λ_ _ f=>⟨rfl,f,λh=>h⟩,λd a=>by
     have e:d ≠ b:=by rintro rfl;exact n a
     have:=r.ob d a;simp only [Gh.addN,e,uG];exact this⟩
end
end Go.Vv
