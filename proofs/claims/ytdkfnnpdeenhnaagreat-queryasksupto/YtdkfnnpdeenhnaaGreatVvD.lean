/- Tokens: rows that the call's own code lengthens. -/
import Derived.Test.YtdkfnnpdeenhnaaGreatVvC
namespace Go.Vv
open Go Go.RowKit
section
variable {B:Nat} {w0 w:World} {g:Gh} {h:AH}

def Gh.setT (g:Gh) (i:Nat) (t:TI):Gh:={ g with τ:=g.τ.set i t }
def Gh.addT (g:Gh) (t:TI):Gh:={ g with τ:=g.τ++[t] }
theorem Gh.le_setT {g:Gh} {i:Nat} {t t':TI} (hi:g.τ[i]?=some t) (b:t.n < t'.n) (a:t'.row=t.row):g.le (g.setT i t') :=
 ⟨λ_ _ _ e=>e,λ_ _ e=>e,λj u e=>by
  simp only [Gh.setT];by_cases hj:j=i
  ·subst hj;rw [hi] at e;injection e with e;subst e;exact ⟨t',List.getElem?_set_self (List.getElem?_eq_some_iff.1 hi).1,by omega,λq=>by omega,a⟩
  ·exact ⟨u,by rw [List.getElem?_set_ne (λe=>hj e.symm)];exact e,Nat.le_refl _,λ_=>rfl,rfl⟩,λ_ h=>h⟩
theorem Gh.le_addT (g:Gh) (t:TI):g.le (g.addT t) :=
 ⟨λ_ _ _ e=>e,λ_ _ e=>e,λj u e=>by
  simp only [Gh.addT];exact ⟨u,by rw [List.getElem?_append_left (List.getElem?_eq_some_iff.1 e).1];exact e,Nat.le_refl _,λ_=>rfl,rfl⟩,λ_ h=>h⟩

theorem Rel.setTok (r:Rel B w0 g h w) {i:Nat} {t t':TI} (hi:g.τ[i]?=some t) (M:t.n < t'.n) (I:t.row=false) (C:t'.row=false)
  (v:∀b l e,t'.loc=some (b,l,e)->LocOk g.Φ B w b l e)
  (hd:∀b x,t'.loc=some (b,x)->(∃y,t.loc=some (b,y)) \/ ((∀(j:Nat) (u:TI) (y:Nat×Nat),g.τ[j]?=some u->u.loc ≠ some (b,y))/\∀(j c:Nat),g.σ[j]?=some (some c)->b ≠ c)) :
  Rel B w0 (g.setT i t') { h with toks:=h.toks.set i t'.n } w:=by
 have E:i < g.τ.length:=(List.getElem?_eq_some_iff.1 hi).1;have key:∀(j:Nat) (u:TI),(g.setT i t').τ[j]?=some u->(j=i/\u=t') \/ (j ≠ i/\g.τ[j]?=some u):=by
  intro j u e;simp only [Gh.setT] at e;by_cases a:j=i
  ·subst a;rw [List.getElem?_set_self E] at e;injection e with e;exact .inl ⟨rfl,e.symm⟩
  ·rw [List.getElem?_set_ne (λe=>a e.symm)] at e;exact .inr ⟨a,e⟩
 refine ⟨r.below,r.bsz,r.phi,r.slen,λR c k F J=>?_,by simp [Gh.setT,r.tlen],λj u p=>?_,r.sinj,λj H u P b x y a d m G=>?_,λj c H u b x F p m=>?_,r.dfr,
  λq k N J=>(r.row q k N J).mono (Gh.le_setT hi M (C.trans I.symm)) (λj u a K=>by
   have f:j ≠ i:=by rintro rfl;rw [hi] at a;injection a with e;rw [<- e,I] at K;cases K
   simp only [Gh.setT];rw [List.getElem?_set_ne (λe=>f e.symm)];exact a) (λ_ _ _ _ _ _ _=>⟨rfl,λ_=>rfl⟩),r.rinj⟩
 ·obtain ⟨o,D,O,Q⟩:=r.blk R c k F J;exact ⟨o,D,O.mono (Gh.le_setT hi M (C.trans I.symm)) rfl,Q⟩
 ·rcases key j u p with ⟨rfl,rfl⟩ | ⟨a,p⟩
  ·exact ⟨List.getElem?_set_self (by rw [<- r.tlen];exact E),v⟩
  ·obtain ⟨o,D⟩:=r.tok j u p;exact ⟨by rw [List.getElem?_set_ne (λe=>a e.symm)];exact o,D⟩
 ·rcases key j u a with ⟨rfl,rfl⟩ | ⟨f,s⟩ <;> rcases key H P d with ⟨rfl,rfl⟩ | ⟨L,d⟩
  ·rfl
  ·rcases hd b x m with ⟨z,A⟩ | ⟨o,_⟩
   ·exact r.tinj _ _ _ _ b z y hi d A G
   ·exact absurd G (o _ _ _ d)
  ·rcases hd b y G with ⟨z,A⟩ | ⟨o,_⟩
   ·exact r.tinj _ _ _ _ b x z s hi m A
   ·exact absurd m (o _ _ _ s)
  ·exact r.tinj _ _ _ _ b x y s d m G
 ·rcases key H u p with ⟨rfl,rfl⟩ | ⟨f,p⟩
  ·rcases hd b x m with ⟨z,A⟩ | ⟨_,D⟩
   ·exact r.sep j c _ t b z F hi A
   ·exact D j c F
  ·exact r.sep j c H u b x F p m

theorem Rel.addTok (r:Rel B w0 g h w) (t:TI) (m:∀b l e,t.loc=some (b,l,e)->LocOk g.Φ B w b l e)
  (hd:∀b x,t.loc=some (b,x)->(∀(j:Nat) (u:TI) (y:Nat×Nat),g.τ[j]?=some u->u.loc ≠ some (b,y))/\∀(j c:Nat),g.σ[j]?=some (some c)->b ≠ c) :
  Rel B w0 (g.addT t) { h with toks:=h.toks++[t.n] } w:=by
 have key:∀(j:Nat) (u:TI),(g.addT t).τ[j]?=some u->(j=g.τ.length/\u=t) \/ (j < g.τ.length/\g.τ[j]?=some u):=by
  intro j u e;simp only [Gh.addT] at e;rcases Nat.lt_or_ge j g.τ.length with s | s
  ·rw [List.getElem?_append_left s] at e;exact .inr ⟨s,e⟩
  ·rw [List.getElem?_append_right s] at e;rcases Nat.eq_zero_or_pos (j - g.τ.length) with h0 | h0
   ·rw [h0] at e;simp at e;exact .inl ⟨by omega,e.symm⟩
   ·rw [List.getElem?_eq_none (by simp;omega)] at e;cases e
 refine ⟨r.below,r.bsz,r.phi,r.slen,λK c k v E=>?_,by simp [Gh.addT,r.tlen],λj u d=>?_,r.sinj,λj p u I b x y f a i z=>?_,λj c p u b x v d i=>?_,r.dfr,
  λq k G E=>(r.row q k G E).mono (Gh.le_addT g t) (λj u f _=>by
   simp only [Gh.addT];rw [List.getElem?_append_left (List.getElem?_eq_some_iff.1 f).1];exact f) (λ_ _ _ _ _ _ _=>⟨rfl,λ_=>rfl⟩),r.rinj⟩
 ·obtain ⟨D,C,H,J⟩:=r.blk K c k v E;exact ⟨D,C,H.mono (Gh.le_addT g t) rfl,J⟩
 ·rcases key j u d with ⟨rfl,rfl⟩ | ⟨f,d⟩
  ·refine ⟨?_,m⟩;rw [r.tlen,List.getElem?_append_right (Nat.le_refl _)];simp
  ·obtain ⟨D,C⟩:=r.tok j u d;exact ⟨by rw [List.getElem?_append_left (by rw [<- r.tlen];exact f)];exact D,C⟩
 ·rcases key j u f with ⟨rfl,rfl⟩ | ⟨A,o⟩ <;> rcases key p I a with ⟨rfl,rfl⟩ | ⟨F,a⟩
  ·rfl
  ·exact absurd z ((hd b x i).1 _ _ _ a)
  ·exact absurd i ((hd b y z).1 _ _ _ o)
  ·exact r.tinj _ _ _ _ b x y o a i z
 ·rcases key p u d with ⟨rfl,rfl⟩ | ⟨A,d⟩
  ·exact (hd b x i).2 j c v
  ·exact r.sep j c p u b x v d i

theorem Rel.setSpare (r:Rel B w0 g h w) {i:Nat} {t:TI} {b l e:Nat} (hi:g.τ[i]?=some t) (F:t.loc=some (b,l,e)) {cur new:Array Value} {ty:TypeId}
  (G:w.heap[b]?=some (.cells cur ty (0,0))) (hsz:new.size=cur.size) (f:∀j,j < l->new[j]?=cur[j]?):Rel B w0 g h (w.setRow b new):=by
 have lo:=(r.tok i t hi).2 b l e F;have n:(w.setRow b new).heap[b]?=some (.cells new ty (0,0)):=setRow_heap w b cur new ty (0,0) G;refine ⟨⟨r.below.os,r.below.tape,r.below.output,by simp [r.below.size],λk H=>(setRow_other w b k new (by have:=lo.lo;omega)).trans (r.below.block k H)⟩,by simp [r.bsz],λm j v I=>?_,
  r.slen,λK c k A H=>?_,r.tlen,λK t' N=>?_,r.sinj,r.tinj,r.sep,λx J=>⟨(r.dfr x J).1,(setRow_other w b x new (by rintro rfl;have:=(r.dfr x J).2.1;rw [G] at this;cases this)).trans (r.dfr x J).2.1,(r.dfr x J).2.2⟩,λq k T H=>?_,r.rinj⟩
 ·by_cases hb:m=b
  ·subst hb;have D:j < l:=by
    rcases Nat.lt_or_ge j l with D | D
    ·exact D
    ·rw [lo.free j D] at I;cases I
   have:=r.phi m j v I;rw [cell_of_row w m j cur ty (0,0) G] at this;rw [cell_of_row _ m j new ty (0,0) n,f j D];exact this
  ·exact (World.cell?_of_block (w:=w) (a:=⟨m,j,none⟩) (setRow_other w b m new hb)).trans (r.phi m j v I)
 ·obtain ⟨u,E,L,O⟩:=r.blk K c k A H;exact ⟨u,by simpa using E,L.mono (Gh.le.refl g) (setRow_other w b c new (r.sep K c i t b (l,e) A hi F).symm),O⟩
 ·obtain ⟨u,E⟩:=r.tok K t' N;refine ⟨u,λm V Q P=>?_⟩;have p:=E m V Q P;by_cases hb:m=b
  ·subst hb;obtain ⟨cs,Z,d,W⟩:=p.cells;rw [G] at d;injection d with d;injection d with d _ _;subst d;exact ⟨p.lo,by simpa using p.lt,⟨new,ty,n,by omega⟩,p.free⟩
  ·exact p.mono (by simp) (setRow_other w b m new hb) λ_ _=>rfl
 ·have y:=r.row q k T H;cases k with
  | row i2 k es =>
   obtain ⟨Y,u,E,L,O,U,h6⟩:=y;refine ⟨Y,u,E,L,O,U,h6.imp id ?_⟩
   rintro ⟨C,o,X,cs,ty2,s,z,S,k4,R⟩
   by_cases hb:C=b
   ·subst hb;have M:=r.tinj _ _ _ _ C _ _ u hi s F;subst M;rw [hi] at u;injection u with u;subst u;rw [F] at s;injection s with s;injection s with _ s;injection s with s _;rw [G] at z;injection z with z;injection z with z k22 _;subst z;refine ⟨C,o,e,new,ty,by rw [F,s],n,?_,by omega,R⟩;have:(new.toList.drop o).take (es.length * k)=(cur.toList.drop o).take (es.length * k):=by
     apply List.ext_getElem?;intro j;rw [List.getElem?_take,List.getElem?_take];split
     ·rw [List.getElem?_drop,List.getElem?_drop,Array.getElem?_toList,Array.getElem?_toList,f _ (by omega)]
     ·rfl
    rw [this];exact S
   ·exact ⟨C,o,X,cs,ty2,s,(setRow_other w b C new hb).trans z,S,k4,R⟩
  | dead=>trivial
  | _=>exact y.elim

theorem Rel.setRow (r:Rel B w0 g h w) {i q k:Nat} {t t':TI} {es es':List (List AV)} (hi:g.τ[i]?=some t) (hn:t.n < t'.n) (hf:t.row=true) (T:t'.row=true)
  (hq:g.σ[q]?=some none) (N:h.blks[q]?=some (.row i k es)) (F:RowOk (g.setT i t') w i k es')
  (H:∀b l e,t'.loc=some (b,l,e)->LocOk g.Φ B w b l e)
  (hd:∀b x,t'.loc=some (b,x)->(∃y,t.loc=some (b,y)) \/ ((∀(j:Nat) (u:TI) (y:Nat×Nat),g.τ[j]?=some u->u.loc ≠ some (b,y))/\∀(j c:Nat),g.σ[j]?=some (some c)->b ≠ c)) :
  Rel B w0 (g.setT i t') { h.put q (.row i k es') with toks:=h.toks.set i t'.n } w:=by
 have L:i < g.τ.length:=(List.getElem?_eq_some_iff.1 hi).1;have G:=Gh.le_setT hi hn (T.trans hf.symm);have key:∀(j:Nat) (u:TI),(g.setT i t').τ[j]?=some u->(j=i/\u=t') \/ (j ≠ i/\g.τ[j]?=some u):=by
  intro j u e;simp only [Gh.setT] at e;by_cases d:j=i
  ·subst d;rw [List.getElem?_set_self L] at e;injection e with e;exact .inl ⟨rfl,e.symm⟩
  ·rw [List.getElem?_set_ne (λe=>d e.symm)] at e;exact .inr ⟨d,e⟩
 have U:q < h.blks.length:=(List.getElem?_eq_some_iff.1 N).1;have a:∀(j:Nat) (b:Blk),(h.blks.set q (.row i k es'))[j]?=some b->(j=q/\b=.row i k es') \/ (j ≠ q/\h.blks[j]?=some b):=by
  intro j b e;by_cases d:j=q
  ·subst d;rw [List.getElem?_set_self U] at e;injection e with e;exact .inl ⟨rfl,e.symm⟩
  ·rw [List.getElem?_set_ne (λe=>d e.symm)] at e;exact .inr ⟨d,e⟩
 refine ⟨r.below,r.bsz,r.phi,by simp [AH.put,Gh.setT,r.slen],λV c b s M=>?_,by simp [Gh.setT,r.tlen],λj u E=>?_,r.sinj,λj Q u u' b x y d o A O=>?_,λj c Q u b x s E A=>?_,r.dfr,
  λj b d M=>?_,λj1 j2 t1 k1 k2 e1 X R m=>?_⟩
 ·have s:g.σ[V]?=some (some c):=s;rcases a V b M with ⟨rfl,rfl⟩ | ⟨p,M⟩
  ·rw [hq] at s;cases s
  ·obtain ⟨C,J,h3,h4⟩:=r.blk V c b s M;exact ⟨C,J,h3.mono G rfl,h4⟩
 ·rcases key j u E with ⟨rfl,rfl⟩ | ⟨d,E⟩
  ·exact ⟨List.getElem?_set_self (by rw [<- r.tlen];exact L),H⟩
  ·obtain ⟨C,J⟩:=r.tok j u E;exact ⟨by simp only;rw [List.getElem?_set_ne (λe=>d e.symm)];exact C,J⟩
 ·rcases key j u d with ⟨rfl,rfl⟩ | ⟨p,m⟩ <;> rcases key Q u' o with ⟨rfl,rfl⟩ | ⟨W,o⟩
  ·rfl
  ·rcases hd b x A with ⟨z,I⟩ | ⟨C,_⟩
   ·exact r.tinj _ _ _ _ b z y hi o I O
   ·exact absurd O (C _ _ _ o)
  ·rcases hd b y O with ⟨z,I⟩ | ⟨C,_⟩
   ·exact r.tinj _ _ _ _ b x z m hi A I
   ·exact absurd A (C _ _ _ m)
  ·exact r.tinj _ _ _ _ b x y m o A O
 ·rcases key Q u E with ⟨rfl,rfl⟩ | ⟨p,E⟩
  ·rcases hd b x A with ⟨z,I⟩ | ⟨_,J⟩
   ·exact r.sep j c _ t b z s hi I
   ·exact J j c s
  ·exact r.sep j c Q u b x s E A
 ·rcases a j b M with ⟨rfl,rfl⟩ | ⟨p,f⟩
  ·exact F
  ·have P:=r.row j b d f;cases b with
   | row i2 k2 X =>
    have P:RowOk g w i2 k2 X:=P;have S:i2 ≠ i:=by rintro rfl;exact p (r.rinj _ _ _ _ _ _ _ f N)
    exact P.mono G (by simp only [Gh.setT];exact List.getElem?_set_ne (λe=>S e.symm)) (λ_ _ _ _ _ _=>⟨rfl,λ_=>rfl⟩)
   | dead=>trivial
   | _=>exact P.elim
 ·rcases a j1 _ R with ⟨rfl,v⟩ | ⟨Y,K⟩ <;> rcases a j2 _ m with ⟨rfl,D⟩ | ⟨Z,f⟩
  ·rfl
  ·injection v with v _ _;subst v;exact r.rinj _ _ _ _ _ _ _ N f
  ·injection D with D _ _;subst D;exact r.rinj _ _ _ _ _ _ _ K N
  ·exact r.rinj _ _ _ _ _ _ _ K f

theorem Rel.rowAt (r:Rel B w0 g h w) {id q k:Nat} {es:List (List AV)} (b:h.blk id=some (.row q k es)):g.σ[id]?=some none/\RowOk g w q k es:=by
 have d:id < g.σ.length:=by rw [r.slen];exact (List.getElem?_eq_some_iff.1 b).1
 rcases a:g.σ[id] with _ | c
 ·have a:g.σ[id]?=some none:=by rw [List.getElem?_eq_getElem d,a]
  exact ⟨a,r.row _ _ a b⟩
 ·exact (r.blk id c _ (by rw [List.getElem?_eq_getElem d,a]) b).2.2.1.elim

theorem Rel.storeRow (r:Rel B w0 g h w) {q i k:Nat} {es es':List (List AV)} (S:h.blk q=some (.row i k es)) {t:TI} {b o e:Nat} {cur new:Array Value} {ty:TypeId} (hi:g.τ[i]?=some t)
  (R:t.loc=some (b,o+es.length * k,e)) (M:w.heap[b]?=some (.cells cur ty (0,0))) (hsz:new.size=cur.size) (G:∀j,j < o->new[j]?=cur[j]?) (d:es'.length=es.length)
  (hk:∀e ∈ es',e.length=k) (hp:es'.flatten.all AV.pure=true) (hva:VA g es'.flatten ((new.toList.drop o).take (es.length * k))) (W:es ≠ []) :
  Rel B w0 g (h.put q (.row i k es')) (w.setRow b new):=by
 obtain ⟨hσ,t2,l,Y,htn,_,_,u⟩:=r.rowAt S;rw [hi] at l;injection l with l;subst l;obtain ⟨F,K,P,cs,ty2,E,C,k3,k4,k5⟩:∃F K P cs ty2,t.loc=some (F,K+es.length * k,P)/\w.heap[F]?=some (.cells cs ty2 (0,0))/\VA g es.flatten ((cs.toList.drop K).take (es.length * k))/\K+es.length * k<=cs.size/\∀j,K<=j->g.Φ F j=none:=by
  rcases u with rfl | u
  ·exact absurd rfl W
  ·exact u
 rw [R] at E;injection E with E;injection E with e1 E;injection E with E _;obtain rfl:o=K:=by omega
 subst e1;rw [M] at C;injection C with C;injection C with C _ _;subst C;have lo:=(r.tok i t hi).2 b _ e R;have p:(w.setRow b new).heap[b]?=some (.cells new ty (0,0)):=setRow_heap w b cur new ty (0,0) M;have X:q < h.blks.length:=(List.getElem?_eq_some_iff.1 S).1;have f:∀(j:Nat) (x:Blk),(h.blks.set q (.row i k es'))[j]?=some x->(j=q/\x=.row i k es') \/ (j ≠ q/\h.blks[j]?=some x):=by
  intro j x e;by_cases y:j=q
  ·subst y;rw [List.getElem?_set_self X] at e;injection e with e;exact .inl ⟨rfl,e.symm⟩
  ·rw [List.getElem?_set_ne (λe=>y e.symm)] at e;exact .inr ⟨y,e⟩
 have N:∀(z c:Nat),g.σ[z]?=some (some c)->c ≠ b:=λz c h'=>(r.sep z c i t b _ h' hi R).symm;refine ⟨⟨r.below.os,r.below.tape,r.below.output,by simp [r.below.size],λx D=>(setRow_other w b x new (by have:=lo.lo;omega)).trans (r.below.block x D)⟩,by simp [r.bsz],λn j v V=>?_,
  by simp [AH.put,r.slen],λz c x A H=>?_,r.tlen,λz t' ht'=>?_,r.sinj,r.tinj,r.sep,λx D=>⟨(r.dfr x D).1,(setRow_other w b x new (by rintro rfl;have:=(r.dfr x D).2.1;rw [M] at this;cases this)).trans (r.dfr x D).2.1,(r.dfr x D).2.2⟩,
  λj x y D=>?_,λj1 j2 t1 x1 x2 e1 P Z hj2=>?_⟩
 ·by_cases hb':n=b
  ·subst hb';have y:j < o:=by
    rcases Nat.lt_or_ge j o with y | y
    ·exact y
    ·rw [k5 j y] at V;cases V
   have:=r.phi n j v V;rw [cell_of_row w n j cur ty (0,0) M] at this;rw [cell_of_row _ n j new ty (0,0) p,G j y];exact this
  ·exact (World.cell?_of_block (w:=w) (a:=⟨n,j,none⟩) (setRow_other w b n new hb')).trans (r.phi n j v V)
 ·rcases f z x H with ⟨rfl,rfl⟩ | ⟨_,H⟩
  ·rw [hσ] at A;cases A
  ·obtain ⟨h1,h2,h3,h4⟩:=r.blk z c x A H;exact ⟨h1,by simpa using h2,h3.mono (Gh.le.refl g) (setRow_other w b c new (N z c A)),h4⟩
 ·obtain ⟨h1,h2⟩:=r.tok z t' ht';refine ⟨h1,λn l' e'' hl'=>?_⟩;have s:=h2 n l' e'' hl';by_cases hb':n=b
  ·subst hb';obtain ⟨cs,ty',m,hle⟩:=s.cells;rw [M] at m;injection m with m;injection m with m _ _;subst m;exact ⟨s.lo,by simpa using s.lt,⟨new,ty,p,by omega⟩,s.free⟩
  ·exact s.mono (by simp) (setRow_other w b n new hb') λ_ _=>rfl
 ·rcases f j x D with ⟨rfl,rfl⟩ | ⟨T,Q⟩
  ·exact ⟨t,hi,Y,htn.trans d.symm,hk,hp,.inr ⟨b,o,e,new,ty,by rw [d];exact R,p,by rw [d];exact hva,by rw [d];omega,k5⟩⟩
  ·have U:=r.row j x y Q;cases x with
   | row i2 C P =>
    have U:RowOk g w i2 C P:=U;refine U.mono (Gh.le.refl g) rfl λt2 F x2 l _ hl2=>⟨setRow_other w b F new ?_,λ_=>rfl⟩
    rintro rfl
    have:=r.tinj _ _ _ _ F _ _ l hi hl2 R;subst this;exact T (r.rinj _ _ _ _ _ _ _ Q S)
   | dead=>trivial
   | _=>exact U.elim
 ·rcases f j1 _ Z with ⟨rfl,I⟩ | ⟨hne1,L⟩ <;> rcases f j2 _ hj2 with ⟨rfl,J⟩ | ⟨hne2,O⟩
  ·rfl
  ·injection I with I _ _;subst I;exact r.rinj _ _ _ _ _ _ _ S O
  ·injection J with J _ _;subst J;exact r.rinj _ _ _ _ _ _ _ L S
  ·exact r.rinj _ _ _ _ _ _ _ L O
end
end Go.Vv
