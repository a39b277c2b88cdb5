/- Tokens: rows that the call's own code lengthens. -/
import Derived.Test.YtandnkcefogjeaaGreatVvC
namespace Go.Vv
open Go Go.RowKit
section
variable {B:Nat} {w0 w:World} {g:Gh} {h:AH}

def Gh.setT (g:Gh) (i:Nat) (t:TI):Gh:={ g with τ:=g.τ.set i t }
def Gh.addT (g:Gh) (t:TI):Gh:={ g with τ:=g.τ++[t] }
theorem Gh.le_setT {g:Gh} {i:Nat} {t t':TI} (hi:g.τ[i]?=some t) (b:t.n < t'.n) (a:t'.row=t.row):g.le (g.setT i t') :=
 ⟨λ_ _ _ e=>e,λ_ _ e=>e,λj u e=>by
  simp only [Gh.setT];by_cases hj:j=i
  ·subst hj;rw [hi] at e;injection e with e;subst e;exact ⟨t',List.getElem?_set_self (List.getElem?_eq_some_iff.1 hi).1,by omega,λq=>by omega,a⟩
  ·exact ⟨u,by rw [List.getElem?_set_ne (λe=>hj e.symm)];exact e,Nat.le_refl _,λ_=>rfl,rfl⟩,λ_ h=>h⟩
theorem Gh.le_addT (g:Gh) (t:TI):g.le (g.addT t) :=
 ⟨λ_ _ _ e=>e,λ_ _ e=>e,λj u e=>by
  simp only [Gh.addT];exact ⟨u,by rw [List.getElem?_append_left (List.getElem?_eq_some_iff.1 e).1];exact e,Nat.le_refl _,λ_=>rfl,rfl⟩,λ_ h=>h⟩

theorem Rel.setTok (r:Rel B w0 g h w) {i:Nat} {t t':TI} (hi:g.τ[i]?=some t) (K:t.n < t'.n) (J:t.row=false) (D:t'.row=false)
  (C:∀b l e,t'.loc=some (b,l,e)->LocOk g.Φ B w b l e)
  (hd:∀b x,t'.loc=some (b,x)->(∃y,t.loc=some (b,y)) \/ ((∀(j:Nat) (u:TI) (y:Nat×Nat),g.τ[j]?=some u->u.loc ≠ some (b,y))/\∀(j c:Nat),g.σ[j]?=some (some c)->b ≠ c)) :
  Rel B w0 (g.setT i t') { h with toks:=h.toks.set i t'.n } w:=by
 have v:i < g.τ.length:=(List.getElem?_eq_some_iff.1 hi).1;have key:∀(j:Nat) (u:TI),(g.setT i t').τ[j]?=some u->(j=i/\u=t') \/ (j ≠ i/\g.τ[j]?=some u):=by
  intro j u e;simp only [Gh.setT] at e;by_cases a:j=i
  ·subst a;rw [List.getElem?_set_self v] at e;injection e with e;exact .inl ⟨rfl,e.symm⟩
  ·rw [List.getElem?_set_ne (λe=>a e.symm)] at e;exact .inr ⟨a,e⟩
 refine ⟨r.below,r.bsz,r.phi,r.slen,λR c k F I=>?_,by simp [Gh.setT,r.tlen],λj u f=>?_,r.sinj,λj H u O b x y a d o G=>?_,λj c H u b x F f o=>?_,r.dfr,
  λq k Q I=>(r.row q k Q I).mono (Gh.le_setT hi K (D.trans J.symm)) (λj u a M=>by
   have s:j ≠ i:=by rintro rfl;rw [hi] at a;injection a with e;rw [<- e,J] at M;cases M
   simp only [Gh.setT];rw [List.getElem?_set_ne (λe=>s e.symm)];exact a) (λ_ _ _ _ _ _ _=>⟨rfl,λ_=>rfl⟩),r.rinj⟩
 ·obtain ⟨p,E,P,N⟩:=r.blk R c k F I;exact ⟨p,E,P.mono (Gh.le_setT hi K (D.trans J.symm)) rfl,N⟩
 ·rcases key j u f with ⟨rfl,rfl⟩ | ⟨a,f⟩
  ·exact ⟨List.getElem?_set_self (by rw [<- r.tlen];exact v),C⟩
  ·obtain ⟨p,E⟩:=r.tok j u f;exact ⟨by rw [List.getElem?_set_ne (λe=>a e.symm)];exact p,E⟩
 ·rcases key j u a with ⟨rfl,rfl⟩ | ⟨s,m⟩ <;> rcases key H O d with ⟨rfl,rfl⟩ | ⟨L,d⟩
  ·rfl
  ·rcases hd b x o with ⟨z,A⟩ | ⟨p,_⟩
   ·exact r.tinj _ _ _ _ b z y hi d A G
   ·exact absurd G (p _ _ _ d)
  ·rcases hd b y G with ⟨z,A⟩ | ⟨p,_⟩
   ·exact r.tinj _ _ _ _ b x z m hi o A
   ·exact absurd o (p _ _ _ m)
  ·exact r.tinj _ _ _ _ b x y m d o G
 ·rcases key H u f with ⟨rfl,rfl⟩ | ⟨s,f⟩
  ·rcases hd b x o with ⟨z,A⟩ | ⟨_,E⟩
   ·exact r.sep j c _ t b z F hi A
   ·exact E j c F
  ·exact r.sep j c H u b x F f o

theorem Rel.addTok (r:Rel B w0 g h w) (t:TI) (o:∀b l e,t.loc=some (b,l,e)->LocOk g.Φ B w b l e)
  (hd:∀b x,t.loc=some (b,x)->(∀(j:Nat) (u:TI) (y:Nat×Nat),g.τ[j]?=some u->u.loc ≠ some (b,y))/\∀(j c:Nat),g.σ[j]?=some (some c)->b ≠ c) :
  Rel B w0 (g.addT t) { h with toks:=h.toks++[t.n] } w:=by
 have key:∀(j:Nat) (u:TI),(g.addT t).τ[j]?=some u->(j=g.τ.length/\u=t) \/ (j < g.τ.length/\g.τ[j]?=some u):=by
  intro j u e;simp only [Gh.addT] at e;rcases Nat.lt_or_ge j g.τ.length with p | p
  ·rw [List.getElem?_append_left p] at e;exact .inr ⟨p,e⟩
  ·rw [List.getElem?_append_right p] at e;rcases Nat.eq_zero_or_pos (j - g.τ.length) with h0 | h0
   ·rw [h0] at e;simp at e;exact .inl ⟨by omega,e.symm⟩
   ·rw [List.getElem?_eq_none (by simp;omega)] at e;cases e
 refine ⟨r.below,r.bsz,r.phi,r.slen,λK c k v z=>?_,by simp [Gh.addT,r.tlen],λj u d=>?_,r.sinj,λj s u H b x y i a f C=>?_,λj c s u b x v d f=>?_,r.dfr,
  λq k J z=>(r.row q k J z).mono (Gh.le_addT g t) (λj u i _=>by
   simp only [Gh.addT];rw [List.getElem?_append_left (List.getElem?_eq_some_iff.1 i).1];exact i) (λ_ _ _ _ _ _ _=>⟨rfl,λ_=>rfl⟩),r.rinj⟩
 ·obtain ⟨A,D,I,G⟩:=r.blk K c k v z;exact ⟨A,D,I.mono (Gh.le_addT g t) rfl,G⟩
 ·rcases key j u d with ⟨rfl,rfl⟩ | ⟨i,d⟩
  ·refine ⟨?_,o⟩;rw [r.tlen,List.getElem?_append_right (Nat.le_refl _)];simp
  ·obtain ⟨A,D⟩:=r.tok j u d;exact ⟨by rw [List.getElem?_append_left (by rw [<- r.tlen];exact i)];exact A,D⟩
 ·rcases key j u i with ⟨rfl,rfl⟩ | ⟨E,m⟩ <;> rcases key s H a with ⟨rfl,rfl⟩ | ⟨F,a⟩
  ·rfl
  ·exact absurd C ((hd b x f).1 _ _ _ a)
  ·exact absurd f ((hd b y C).1 _ _ _ m)
  ·exact r.tinj _ _ _ _ b x y m a f C
 ·rcases key s u d with ⟨rfl,rfl⟩ | ⟨E,d⟩
  ·exact (hd b x f).2 j c v
  ·exact r.sep j c s u b x v d f

theorem Rel.setSpare (r:Rel B w0 g h w) {i:Nat} {t:TI} {b l e:Nat} (hi:g.τ[i]?=some t) (C:t.loc=some (b,l,e)) {cur new:Array Value} {ty:TypeId}
  (H:w.heap[b]?=some (.cells cur ty (0,0))) (Y:new.size=cur.size) (m:∀j,j < l->new[j]?=cur[j]?):Rel B w0 g h (w.setRow b new):=by
 have lo:=(r.tok i t hi).2 b l e C;have f:(w.setRow b new).heap[b]?=some (.cells new ty (0,0)):=setRow_heap w b cur new ty (0,0) H;refine ⟨⟨r.below.os,r.below.tape,r.below.output,by simp [r.below.size],λk E=>(setRow_other w b k new (by have:=lo.lo;omega)).trans (r.below.block k E)⟩,by simp [r.bsz],λp j v J=>?_,
  r.slen,λK c k D E=>?_,r.tlen,λK t' Q=>?_,r.sinj,r.tinj,r.sep,λx I=>⟨(r.dfr x I).1,(setRow_other w b x new (by rintro rfl;have:=(r.dfr x I).2.1;rw [H] at this;cases this)).trans (r.dfr x I).2.1,(r.dfr x I).2.2⟩,λq k hq E=>?_,r.rinj⟩
 ·by_cases hb:p=b
  ·subst hb;have F:j < l:=by
    rcases Nat.lt_or_ge j l with F | F
    ·exact F
    ·rw [lo.free j F] at J;cases J
   have:=r.phi p j v J;rw [cell_of_row w p j cur ty (0,0) H] at this;rw [cell_of_row _ p j new ty (0,0) f,m j F];exact this
  ·exact (World.cell?_of_block (w:=w) (a:=⟨p,j,none⟩) (setRow_other w b p new hb)).trans (r.phi p j v J)
 ·obtain ⟨u,G,M,L⟩:=r.blk K c k D E;exact ⟨u,by simpa using G,M.mono (Gh.le.refl g) (setRow_other w b c new (r.sep K c i t b (l,e) D hi C).symm),L⟩
 ·obtain ⟨u,G⟩:=r.tok K t' Q;refine ⟨u,λp X O N=>?_⟩;have n:=G p X O N;by_cases hb:p=b
  ·subst hb;obtain ⟨cs,ty',d,U⟩:=n.cells;rw [H] at d;injection d with d;injection d with d _ _;subst d;exact ⟨n.lo,by simpa using n.lt,⟨new,ty,f,by omega⟩,n.free⟩
  ·exact n.mono (by simp) (setRow_other w b p new hb) λ_ _=>rfl
 ·have y:=r.row q k hq E;cases k with
  | row i2 k es =>
   obtain ⟨T,u,G,M,L,h5,W⟩:=y;refine ⟨T,u,G,M,L,h5,W.imp id ?_⟩
   rintro ⟨A,o,e2,cs,ty2,s,z,S,V,R⟩
   by_cases hb:A=b
   ·subst hb;have P:=r.tinj _ _ _ _ A _ _ u hi s C;subst P;rw [hi] at u;injection u with u;subst u;rw [C] at s;injection s with s;injection s with _ s;injection s with s _;rw [H] at z;injection z with z;injection z with z Z _;subst z;refine ⟨A,o,e,new,ty,by rw [C,s],f,?_,by omega,R⟩;have:(new.toList.drop o).take (es.length * k)=(cur.toList.drop o).take (es.length * k):=by
     apply List.ext_getElem?;intro j;rw [List.getElem?_take,List.getElem?_take];split
     ·rw [List.getElem?_drop,List.getElem?_drop,Array.getElem?_toList,Array.getElem?_toList,m _ (by omega)]
     ·rfl
    rw [this];exact S
   ·exact ⟨A,o,e2,cs,ty2,s,(setRow_other w b A new hb).trans z,S,V,R⟩
  | dead=>trivial
  | _=>exact y.elim

theorem Rel.setRow (r:Rel B w0 g h w) {i q k:Nat} {t t':TI} {es es':List (List AV)} (hi:g.τ[i]?=some t) (hn:t.n < t'.n) (hf:t.row=true) (V:t'.row=true)
  (hq:g.σ[q]?=some none) (N:h.blks[q]?=some (.row i k es)) (K:RowOk (g.setT i t') w i k es')
  (J:∀b l e,t'.loc=some (b,l,e)->LocOk g.Φ B w b l e)
  (hd:∀b x,t'.loc=some (b,x)->(∃y,t.loc=some (b,y)) \/ ((∀(j:Nat) (u:TI) (y:Nat×Nat),g.τ[j]?=some u->u.loc ≠ some (b,y))/\∀(j c:Nat),g.σ[j]?=some (some c)->b ≠ c)) :
  Rel B w0 (g.setT i t') { h.put q (.row i k es') with toks:=h.toks.set i t'.n } w:=by
 have F:i < g.τ.length:=(List.getElem?_eq_some_iff.1 hi).1;have G:=Gh.le_setT hi hn (V.trans hf.symm);have key:∀(j:Nat) (u:TI),(g.setT i t').τ[j]?=some u->(j=i/\u=t') \/ (j ≠ i/\g.τ[j]?=some u):=by
  intro j u e;simp only [Gh.setT] at e;by_cases d:j=i
  ·subst d;rw [List.getElem?_set_self F] at e;injection e with e;exact .inl ⟨rfl,e.symm⟩
  ·rw [List.getElem?_set_ne (λe=>d e.symm)] at e;exact .inr ⟨d,e⟩
 have R:q < h.blks.length:=(List.getElem?_eq_some_iff.1 N).1;have a:∀(j:Nat) (b:Blk),(h.blks.set q (.row i k es'))[j]?=some b->(j=q/\b=.row i k es') \/ (j ≠ q/\h.blks[j]?=some b):=by
  intro j b e;by_cases d:j=q
  ·subst d;rw [List.getElem?_set_self R] at e;injection e with e;exact .inl ⟨rfl,e.symm⟩
  ·rw [List.getElem?_set_ne (λe=>d e.symm)] at e;exact .inr ⟨d,e⟩
 refine ⟨r.below,r.bsz,r.phi,by simp [AH.put,Gh.setT,r.slen],λU c b s H=>?_,by simp [Gh.setT,r.tlen],λj u v=>?_,r.sinj,λj Q u u' b x y d m C O=>?_,λj c Q u b x s v C=>?_,r.dfr,
  λj b d H=>?_,λj1 j2 t1 k1 k2 e1 Z S f=>?_⟩
 ·have s:g.σ[U]?=some (some c):=s;rcases a U b H with ⟨rfl,rfl⟩ | ⟨p,H⟩
  ·rw [hq] at s;cases s
  ·obtain ⟨D,L,h3,h4⟩:=r.blk U c b s H;exact ⟨D,L,h3.mono G rfl,h4⟩
 ·rcases key j u v with ⟨rfl,rfl⟩ | ⟨d,v⟩
  ·exact ⟨List.getElem?_set_self (by rw [<- r.tlen];exact F),J⟩
  ·obtain ⟨D,L⟩:=r.tok j u v;exact ⟨by simp only;rw [List.getElem?_set_ne (λe=>d e.symm)];exact D,L⟩
 ·rcases key j u d with ⟨rfl,rfl⟩ | ⟨p,f⟩ <;> rcases key Q u' m with ⟨rfl,rfl⟩ | ⟨Y,m⟩
  ·rfl
  ·rcases hd b x C with ⟨z,I⟩ | ⟨D,_⟩
   ·exact r.tinj _ _ _ _ b z y hi m I O
   ·exact absurd O (D _ _ _ m)
  ·rcases hd b y O with ⟨z,I⟩ | ⟨D,_⟩
   ·exact r.tinj _ _ _ _ b x z f hi C I
   ·exact absurd C (D _ _ _ f)
  ·exact r.tinj _ _ _ _ b x y f m C O
 ·rcases key Q u v with ⟨rfl,rfl⟩ | ⟨p,v⟩
  ·rcases hd b x C with ⟨z,I⟩ | ⟨_,L⟩
   ·exact r.sep j c _ t b z s hi I
   ·exact L j c s
  ·exact r.sep j c Q u b x s v C
 ·rcases a j b H with ⟨rfl,rfl⟩ | ⟨p,o⟩
  ·exact K
  ·have P:=r.row j b d o;cases b with
   | row i2 k2 Z =>
    have P:RowOk g w i2 k2 Z:=P;have T:i2 ≠ i:=by rintro rfl;exact p (r.rinj _ _ _ _ _ _ _ o N)
    exact P.mono G (by simp only [Gh.setT];exact List.getElem?_set_ne (λe=>T e.symm)) (λ_ _ _ _ _ _=>⟨rfl,λ_=>rfl⟩)
   | dead=>trivial
   | _=>exact P.elim
 ·rcases a j1 _ S with ⟨rfl,A⟩ | ⟨X,M⟩ <;> rcases a j2 _ f with ⟨rfl,E⟩ | ⟨W,o⟩
  ·rfl
  ·injection A with A _ _;subst A;exact r.rinj _ _ _ _ _ _ _ N o
  ·injection E with E _ _;subst E;exact r.rinj _ _ _ _ _ _ _ M N
  ·exact r.rinj _ _ _ _ _ _ _ M o

theorem Rel.rowAt (r:Rel B w0 g h w) {id q k:Nat} {es:List (List AV)} (b:h.blk id=some (.row q k es)):g.σ[id]?=some none/\RowOk g w q k es:=by
 have d:id < g.σ.length:=by rw [r.slen];exact (List.getElem?_eq_some_iff.1 b).1
 rcases a:g.σ[id] with _ | c
 ·have a:g.σ[id]?=some none:=by rw [List.getElem?_eq_getElem d,a]
  exact ⟨a,r.row _ _ a b⟩
 ·exact (r.blk id c _ (by rw [List.getElem?_eq_getElem d,a]) b).2.2.1.elim

theorem Rel.storeRow (r:Rel B w0 g h w) {q i k:Nat} {es es':List (List AV)} (M:h.blk q=some (.row i k es)) {t:TI} {b o e:Nat} {cur new:Array Value} {ty:TypeId} (hi:g.τ[i]?=some t)
  (S:t.loc=some (b,o+es.length * k,e)) (Q:w.heap[b]?=some (.cells cur ty (0,0))) (hsz:new.size=cur.size) (J:∀j,j < o->new[j]?=cur[j]?) (f:es'.length=es.length)
  (hk:∀e ∈ es',e.length=k) (hp:es'.flatten.all AV.pure=true) (hva:VA g es'.flatten ((new.toList.drop o).take (es.length * k))) (hne:es ≠ []) :
  Rel B w0 g (h.put q (.row i k es')) (w.setRow b new):=by
 obtain ⟨hσ,t2,l,htr,htn,_,_,n⟩:=r.rowAt M;rw [hi] at l;injection l with l;subst l;obtain ⟨G,K,P,cs,ty2,H,D,k3,k4,k5⟩:∃G K P cs ty2,t.loc=some (G,K+es.length * k,P)/\w.heap[G]?=some (.cells cs ty2 (0,0))/\VA g es.flatten ((cs.toList.drop K).take (es.length * k))/\K+es.length * k<=cs.size/\∀j,K<=j->g.Φ G j=none:=by
  rcases n with rfl | n
  ·exact absurd rfl hne
  ·exact n
 rw [S] at H;injection H with H;injection H with e1 H;injection H with H _;obtain rfl:o=K:=by omega
 subst e1;rw [Q] at D;injection D with D;injection D with D _ _;subst D;have lo:=(r.tok i t hi).2 b _ e S;have s:(w.setRow b new).heap[b]?=some (.cells new ty (0,0)):=setRow_heap w b cur new ty (0,0) Q;have hql:q < h.blks.length:=(List.getElem?_eq_some_iff.1 M).1;have d:∀(j:Nat) (x:Blk),(h.blks.set q (.row i k es'))[j]?=some x->(j=q/\x=.row i k es') \/ (j ≠ q/\h.blks[j]?=some x):=by
  intro j x e;by_cases y:j=q
  ·subst y;rw [List.getElem?_set_self hql] at e;injection e with e;exact .inl ⟨rfl,e.symm⟩
  ·rw [List.getElem?_set_ne (λe=>y e.symm)] at e;exact .inr ⟨y,e⟩
 have N:∀(A c:Nat),g.σ[A]?=some (some c)->c ≠ b:=λA c h'=>(r.sep A c i t b _ h' hi S).symm;refine ⟨⟨r.below.os,r.below.tape,r.below.output,by simp [r.below.size],λx C=>(setRow_other w b x new (by have:=lo.lo;omega)).trans (r.below.block x C)⟩,by simp [r.bsz],λp j v U=>?_,
  by simp [AH.put,r.slen],λA c x z I=>?_,r.tlen,λA t' ht'=>?_,r.sinj,r.tinj,r.sep,λx C=>⟨(r.dfr x C).1,(setRow_other w b x new (by rintro rfl;have:=(r.dfr x C).2.1;rw [Q] at this;cases this)).trans (r.dfr x C).2.1,(r.dfr x C).2.2⟩,
  λj x y C=>?_,λj1 j2 t1 x1 x2 e1 P W X=>?_⟩
 ·by_cases hb':p=b
  ·subst hb';have y:j < o:=by
    rcases Nat.lt_or_ge j o with y | y
    ·exact y
    ·rw [k5 j y] at U;cases U
   have:=r.phi p j v U;rw [cell_of_row w p j cur ty (0,0) Q] at this;rw [cell_of_row _ p j new ty (0,0) s,J j y];exact this
  ·exact (World.cell?_of_block (w:=w) (a:=⟨p,j,none⟩) (setRow_other w b p new hb')).trans (r.phi p j v U)
 ·rcases d A x I with ⟨rfl,rfl⟩ | ⟨_,I⟩
  ·rw [hσ] at z;cases z
  ·obtain ⟨Z,h2,h3,h4⟩:=r.blk A c x z I;exact ⟨Z,by simpa using h2,h3.mono (Gh.le.refl g) (setRow_other w b c new (N A c z)),h4⟩
 ·obtain ⟨Z,h2⟩:=r.tok A t' ht';refine ⟨Z,λp l' e'' Y=>?_⟩;have u:=h2 p l' e'' Y;by_cases hb':p=b
  ·subst hb';obtain ⟨cs,ty',m,hle⟩:=u.cells;rw [Q] at m;injection m with m;injection m with m _ _;subst m;exact ⟨u.lo,by simpa using u.lt,⟨new,ty,s,by omega⟩,u.free⟩
  ·exact u.mono (by simp) (setRow_other w b p new hb') λ_ _=>rfl
 ·rcases d j x C with ⟨rfl,rfl⟩ | ⟨O,L⟩
  ·exact ⟨t,hi,htr,htn.trans f.symm,hk,hp,.inr ⟨b,o,e,new,ty,by rw [f];exact S,s,by rw [f];exact hva,by rw [f];omega,k5⟩⟩
  ·have V:=r.row j x y L;cases x with
   | row i2 D P =>
    have V:RowOk g w i2 D P:=V;refine V.mono (Gh.le.refl g) rfl λt2 G x2 l _ hl2=>⟨setRow_other w b G new ?_,λ_=>rfl⟩
    rintro rfl
    have:=r.tinj _ _ _ _ G _ _ l hi hl2 S;subst this;exact O (r.rinj _ _ _ _ _ _ _ L M)
   | dead=>trivial
   | _=>exact V.elim
 ·rcases d j1 _ W with ⟨rfl,F⟩ | ⟨hne1,T⟩ <;> rcases d j2 _ X with ⟨rfl,E⟩ | ⟨hne2,R⟩
  ·rfl
  ·injection F with F _ _;subst F;exact r.rinj _ _ _ _ _ _ _ M R
  ·injection E with E _ _;subst E;exact r.rinj _ _ _ _ _ _ _ T M
  ·exact r.rinj _ _ _ _ _ _ _ T R
end
end Go.Vv
