/- Tokens: rows that the call's own code lengthens. -/
import Derived.Test.YtehifcdoglcidaaGreatVvC
namespace Go.Vv
open Go Go.RowKit
section
variable {B:Nat} {w0 w:World} {g:Gh} {h:AH}

def Gh.setT (g:Gh) (i:Nat) (t:TI):Gh:={ g with τ:=g.τ.set i t }
def Gh.addT (g:Gh) (t:TI):Gh:={ g with τ:=g.τ++[t] }
theorem Gh.le_setT {g:Gh} {i:Nat} {t t':TI} (hi:g.τ[i]?=some t) (b:t.n < t'.n) (a:t'.row=t.row):g.le (g.setT i t') :=
 ⟨λ_ _ _ e=>e,λ_ _ e=>e,λj u e=>by
  simp only [Gh.setT];by_cases hj:j=i
  ·subst hj;rw [hi] at e;injection e with e;subst e;exact ⟨t',List.getElem?_set_self (List.getElem?_eq_some_iff.1 hi).1,by omega,λq=>by omega,a⟩
  ·exact ⟨u,by rw [List.getElem?_set_ne (λe=>hj e.symm)];exact e,Nat.le_refl _,λ_=>rfl,rfl⟩,λ_ h=>h⟩
theorem Gh.le_addT (g:Gh) (t:TI):g.le (g.addT t) :=
 ⟨λ_ _ _ e=>e,λ_ _ e=>e,λj u e=>by
  simp only [Gh.addT];exact ⟨u,by rw [List.getElem?_append_left (List.getElem?_eq_some_iff.1 e).1];exact e,Nat.le_refl _,λ_=>rfl,rfl⟩,λ_ h=>h⟩

theorem Rel.setTok (r:Rel B w0 g h w) {i:Nat} {t t':TI} (hi:g.τ[i]?=some t) (K:t.n < t'.n) (I:t.row=false) (A:t'.row=false)
  (C:∀b l e,t'.loc=some (b,l,e)->LocOk g.Φ B w b l e)
  (hd:∀b x,t'.loc=some (b,x)->(∃y,t.loc=some (b,y)) \/ ((∀(j:Nat) (u:TI) (y:Nat×Nat),g.τ[j]?=some u->u.loc ≠ some (b,y))/\∀(j c:Nat),g.σ[j]?=some (some c)->b ≠ c)) :
  Rel B w0 (g.setT i t') { h with toks:=h.toks.set i t'.n } w:=by
 have v:i < g.τ.length:=(List.getElem?_eq_some_iff.1 hi).1;have key:∀(j:Nat) (u:TI),(g.setT i t').τ[j]?=some u->(j=i/\u=t') \/ (j ≠ i/\g.τ[j]?=some u):=by
  intro j u e;simp only [Gh.setT] at e;by_cases a:j=i
  ·subst a;rw [List.getElem?_set_self v] at e;injection e with e;exact .inl ⟨rfl,e.symm⟩
  ·rw [List.getElem?_set_ne (λe=>a e.symm)] at e;exact .inr ⟨a,e⟩
 refine ⟨r.below,r.bsz,r.phi,r.slen,λN c k F J=>?_,by simp [Gh.setT,r.tlen],λj u o=>?_,r.sinj,λj H u Q b x y a d f G=>?_,λj c H u b x F o f=>?_,r.dfr,
  λq k R J=>(r.row q k R J).mono (Gh.le_setT hi K (A.trans I.symm)) (λj u a L=>by
   have s:j ≠ i:=by rintro rfl;rw [hi] at a;injection a with e;rw [<- e,I] at L;cases L
   simp only [Gh.setT];rw [List.getElem?_set_ne (λe=>s e.symm)];exact a) (λ_ _ _ _ _ _ _=>⟨rfl,λ_=>rfl⟩),r.rinj⟩
 ·obtain ⟨m,E,O,P⟩:=r.blk N c k F J;exact ⟨m,E,O.mono (Gh.le_setT hi K (A.trans I.symm)) rfl,P⟩
 ·rcases key j u o with ⟨rfl,rfl⟩ | ⟨a,o⟩
  ·exact ⟨List.getElem?_set_self (by rw [<- r.tlen];exact v),C⟩
  ·obtain ⟨m,E⟩:=r.tok j u o;exact ⟨by rw [List.getElem?_set_ne (λe=>a e.symm)];exact m,E⟩
 ·rcases key j u a with ⟨rfl,rfl⟩ | ⟨s,p⟩ <;> rcases key H Q d with ⟨rfl,rfl⟩ | ⟨M,d⟩
  ·rfl
  ·rcases hd b x f with ⟨z,D⟩ | ⟨m,_⟩
   ·exact r.tinj _ _ _ _ b z y hi d D G
   ·exact absurd G (m _ _ _ d)
  ·rcases hd b y G with ⟨z,D⟩ | ⟨m,_⟩
   ·exact r.tinj _ _ _ _ b x z p hi f D
   ·exact absurd f (m _ _ _ p)
  ·exact r.tinj _ _ _ _ b x y p d f G
 ·rcases key H u o with ⟨rfl,rfl⟩ | ⟨s,o⟩
  ·rcases hd b x f with ⟨z,D⟩ | ⟨_,E⟩
   ·exact r.sep j c _ t b z F hi D
   ·exact E j c F
  ·exact r.sep j c H u b x F o f

theorem Rel.addTok (r:Rel B w0 g h w) (t:TI) (m:∀b l e,t.loc=some (b,l,e)->LocOk g.Φ B w b l e)
  (hd:∀b x,t.loc=some (b,x)->(∀(j:Nat) (u:TI) (y:Nat×Nat),g.τ[j]?=some u->u.loc ≠ some (b,y))/\∀(j c:Nat),g.σ[j]?=some (some c)->b ≠ c) :
  Rel B w0 (g.addT t) { h with toks:=h.toks++[t.n] } w:=by
 have key:∀(j:Nat) (u:TI),(g.addT t).τ[j]?=some u->(j=g.τ.length/\u=t) \/ (j < g.τ.length/\g.τ[j]?=some u):=by
  intro j u e;simp only [Gh.addT] at e;rcases Nat.lt_or_ge j g.τ.length with p | p
  ·rw [List.getElem?_append_left p] at e;exact .inr ⟨p,e⟩
  ·rw [List.getElem?_append_right p] at e;rcases Nat.eq_zero_or_pos (j - g.τ.length) with h0 | h0
   ·rw [h0] at e;simp at e;exact .inl ⟨by omega,e.symm⟩
   ·rw [List.getElem?_eq_none (by simp;omega)] at e;cases e
 refine ⟨r.below,r.bsz,r.phi,r.slen,λG c k v E=>?_,by simp [Gh.addT,r.tlen],λj u d=>?_,r.sinj,λj s u J b x y i a f C=>?_,λj c s u b x v d f=>?_,r.dfr,
  λq k K E=>(r.row q k K E).mono (Gh.le_addT g t) (λj u i _=>by
   simp only [Gh.addT];rw [List.getElem?_append_left (List.getElem?_eq_some_iff.1 i).1];exact i) (λ_ _ _ _ _ _ _=>⟨rfl,λ_=>rfl⟩),r.rinj⟩
 ·obtain ⟨z,D,H,I⟩:=r.blk G c k v E;exact ⟨z,D,H.mono (Gh.le_addT g t) rfl,I⟩
 ·rcases key j u d with ⟨rfl,rfl⟩ | ⟨i,d⟩
  ·refine ⟨?_,m⟩;rw [r.tlen,List.getElem?_append_right (Nat.le_refl _)];simp
  ·obtain ⟨z,D⟩:=r.tok j u d;exact ⟨by rw [List.getElem?_append_left (by rw [<- r.tlen];exact i)];exact z,D⟩
 ·rcases key j u i with ⟨rfl,rfl⟩ | ⟨A,o⟩ <;> rcases key s J a with ⟨rfl,rfl⟩ | ⟨F,a⟩
  ·rfl
  ·exact absurd C ((hd b x f).1 _ _ _ a)
  ·exact absurd f ((hd b y C).1 _ _ _ o)
  ·exact r.tinj _ _ _ _ b x y o a f C
 ·rcases key s u d with ⟨rfl,rfl⟩ | ⟨A,d⟩
  ·exact (hd b x f).2 j c v
  ·exact r.sep j c s u b x v d f

theorem Rel.setSpare (r:Rel B w0 g h w) {i:Nat} {t:TI} {b l e:Nat} (hi:g.τ[i]?=some t) (C:t.loc=some (b,l,e)) {cur new:Array Value} {ty:TypeId}
  (H:w.heap[b]?=some (.cells cur ty (0,0))) (U:new.size=cur.size) (m:∀j,j < l->new[j]?=cur[j]?):Rel B w0 g h (w.setRow b new):=by
 have lo:=(r.tok i t hi).2 b l e C;have n:(w.setRow b new).heap[b]?=some (.cells new ty (0,0)):=setRow_heap w b cur new ty (0,0) H;refine ⟨⟨r.below.os,r.below.tape,r.below.output,by simp [r.below.size],λk G=>(setRow_other w b k new (by have:=lo.lo;omega)).trans (r.below.block k G)⟩,by simp [r.bsz],λp j v K=>?_,
  r.slen,λJ c k D G=>?_,r.tlen,λJ t' O=>?_,r.sinj,r.tinj,r.sep,λx I=>⟨(r.dfr x I).1,(setRow_other w b x new (by rintro rfl;have:=(r.dfr x I).2.1;rw [H] at this;cases this)).trans (r.dfr x I).2.1,(r.dfr x I).2.2⟩,λq k hq G=>?_,r.rinj⟩
 ·by_cases hb:p=b
  ·subst hb;have A:j < l:=by
    rcases Nat.lt_or_ge j l with A | A
    ·exact A
    ·rw [lo.free j A] at K;cases K
   have:=r.phi p j v K;rw [cell_of_row w p j cur ty (0,0) H] at this;rw [cell_of_row _ p j new ty (0,0) n,m j A];exact this
  ·exact (World.cell?_of_block (w:=w) (a:=⟨p,j,none⟩) (setRow_other w b p new hb)).trans (r.phi p j v K)
 ·obtain ⟨s,F,M,N⟩:=r.blk J c k D G;exact ⟨s,by simpa using F,M.mono (Gh.le.refl g) (setRow_other w b c new (r.sep J c i t b (l,e) D hi C).symm),N⟩
 ·obtain ⟨s,F⟩:=r.tok J t' O;refine ⟨s,λp W L Q=>?_⟩;have f:=F p W L Q;by_cases hb:p=b
  ·subst hb;obtain ⟨cs,T,d,X⟩:=f.cells;rw [H] at d;injection d with d;injection d with d _ _;subst d;exact ⟨f.lo,by simpa using f.lt,⟨new,ty,n,by omega⟩,f.free⟩
  ·exact f.mono (by simp) (setRow_other w b p new hb) λ_ _=>rfl
 ·have y:=r.row q k hq G;cases k with
  | row i2 k es =>
   obtain ⟨Z,s,F,M,N,Y,h6⟩:=y;refine ⟨Z,s,F,M,N,Y,h6.imp id ?_⟩
   rintro ⟨E,o,e2,cs,ty2,u,z,S,k4,R⟩
   by_cases hb:E=b
   ·subst hb;have P:=r.tinj _ _ _ _ E _ _ s hi u C;subst P;rw [hi] at s;injection s with s;subst s;rw [C] at u;injection u with u;injection u with _ u;injection u with u _;rw [H] at z;injection z with z;injection z with z V _;subst z;refine ⟨E,o,e,new,ty,by rw [C,u],n,?_,by omega,R⟩;have:(new.toList.drop o).take (es.length * k)=(cur.toList.drop o).take (es.length * k):=by
     apply List.ext_getElem?;intro j;rw [List.getElem?_take,List.getElem?_take];split
     ·rw [List.getElem?_drop,List.getElem?_drop,Array.getElem?_toList,Array.getElem?_toList,m _ (by omega)]
     ·rfl
    rw [this];exact S
   ·exact ⟨E,o,e2,cs,ty2,u,(setRow_other w b E new hb).trans z,S,k4,R⟩
  | dead=>trivial
  | _=>exact y.elim

theorem Rel.setRow (r:Rel B w0 g h w) {i q k:Nat} {t t':TI} {es es':List (List AV)} (hi:g.τ[i]?=some t) (hn:t.n < t'.n) (hf:t.row=true) (R:t'.row=true)
  (hq:g.σ[q]?=some none) (O:h.blks[q]?=some (.row i k es)) (K:RowOk (g.setT i t') w i k es')
  (G:∀b l e,t'.loc=some (b,l,e)->LocOk g.Φ B w b l e)
  (hd:∀b x,t'.loc=some (b,x)->(∃y,t.loc=some (b,y)) \/ ((∀(j:Nat) (u:TI) (y:Nat×Nat),g.τ[j]?=some u->u.loc ≠ some (b,y))/\∀(j c:Nat),g.σ[j]?=some (some c)->b ≠ c)) :
  Rel B w0 (g.setT i t') { h.put q (.row i k es') with toks:=h.toks.set i t'.n } w:=by
 have F:i < g.τ.length:=(List.getElem?_eq_some_iff.1 hi).1;have J:=Gh.le_setT hi hn (R.trans hf.symm);have key:∀(j:Nat) (u:TI),(g.setT i t').τ[j]?=some u->(j=i/\u=t') \/ (j ≠ i/\g.τ[j]?=some u):=by
  intro j u e;simp only [Gh.setT] at e;by_cases d:j=i
  ·subst d;rw [List.getElem?_set_self F] at e;injection e with e;exact .inl ⟨rfl,e.symm⟩
  ·rw [List.getElem?_set_ne (λe=>d e.symm)] at e;exact .inr ⟨d,e⟩
 have T:q < h.blks.length:=(List.getElem?_eq_some_iff.1 O).1;have a:∀(j:Nat) (b:Blk),(h.blks.set q (.row i k es'))[j]?=some b->(j=q/\b=.row i k es') \/ (j ≠ q/\h.blks[j]?=some b):=by
  intro j b e;by_cases d:j=q
  ·subst d;rw [List.getElem?_set_self T] at e;injection e with e;exact .inl ⟨rfl,e.symm⟩
  ·rw [List.getElem?_set_ne (λe=>d e.symm)] at e;exact .inr ⟨d,e⟩
 refine ⟨r.below,r.bsz,r.phi,by simp [AH.put,Gh.setT,r.slen],λS c b s M=>?_,by simp [Gh.setT,r.tlen],λj u D=>?_,r.sinj,λj Q u u' b x y d f A P=>?_,λj c Q u b x s D A=>?_,r.dfr,
  λj b d M=>?_,λj1 j2 t1 k1 Y e1 Z U m=>?_⟩
 ·have s:g.σ[S]?=some (some c):=s;rcases a S b M with ⟨rfl,rfl⟩ | ⟨p,M⟩
  ·rw [hq] at s;cases s
  ·obtain ⟨C,L,h3,h4⟩:=r.blk S c b s M;exact ⟨C,L,h3.mono J rfl,h4⟩
 ·rcases key j u D with ⟨rfl,rfl⟩ | ⟨d,D⟩
  ·exact ⟨List.getElem?_set_self (by rw [<- r.tlen];exact F),G⟩
  ·obtain ⟨C,L⟩:=r.tok j u D;exact ⟨by simp only;rw [List.getElem?_set_ne (λe=>d e.symm)];exact C,L⟩
 ·rcases key j u d with ⟨rfl,rfl⟩ | ⟨p,m⟩ <;> rcases key Q u' f with ⟨rfl,rfl⟩ | ⟨hne',f⟩
  ·rfl
  ·rcases hd b x A with ⟨z,I⟩ | ⟨C,_⟩
   ·exact r.tinj _ _ _ _ b z y hi f I P
   ·exact absurd P (C _ _ _ f)
  ·rcases hd b y P with ⟨z,I⟩ | ⟨C,_⟩
   ·exact r.tinj _ _ _ _ b x z m hi A I
   ·exact absurd A (C _ _ _ m)
  ·exact r.tinj _ _ _ _ b x y m f A P
 ·rcases key Q u D with ⟨rfl,rfl⟩ | ⟨p,D⟩
  ·rcases hd b x A with ⟨z,I⟩ | ⟨_,L⟩
   ·exact r.sep j c _ t b z s hi I
   ·exact L j c s
  ·exact r.sep j c Q u b x s D A
 ·rcases a j b M with ⟨rfl,rfl⟩ | ⟨p,o⟩
  ·exact K
  ·have N:=r.row j b d o;cases b with
   | row i2 Y Z =>
    have N:RowOk g w i2 Y Z:=N;have V:i2 ≠ i:=by rintro rfl;exact p (r.rinj _ _ _ _ _ _ _ o O)
    exact N.mono J (by simp only [Gh.setT];exact List.getElem?_set_ne (λe=>V e.symm)) (λ_ _ _ _ _ _=>⟨rfl,λ_=>rfl⟩)
   | dead=>trivial
   | _=>exact N.elim
 ·rcases a j1 _ U with ⟨rfl,v⟩ | ⟨X,H⟩ <;> rcases a j2 _ m with ⟨rfl,E⟩ | ⟨W,o⟩
  ·rfl
  ·injection v with v _ _;subst v;exact r.rinj _ _ _ _ _ _ _ O o
  ·injection E with E _ _;subst E;exact r.rinj _ _ _ _ _ _ _ H O
  ·exact r.rinj _ _ _ _ _ _ _ H o

theorem Rel.rowAt (r:Rel B w0 g h w) {id q k:Nat} {es:List (List AV)} (b:h.blk id=some (.row q k es)):g.σ[id]?=some none/\RowOk g w q k es:=by
 have d:id < g.σ.length:=by rw [r.slen];exact (List.getElem?_eq_some_iff.1 b).1
 rcases a:g.σ[id] with _ | c
 ·have a:g.σ[id]?=some none:=by rw [List.getElem?_eq_getElem d,a]
  exact ⟨a,r.row _ _ a b⟩
 ·exact (r.blk id c _ (by rw [List.getElem?_eq_getElem d,a]) b).2.2.1.elim

theorem Rel.storeRow (r:Rel B w0 g h w) {q i k:Nat} {es es':List (List AV)} (Q:h.blk q=some (.row i k es)) {t:TI} {b o e:Nat} {cur new:Array Value} {ty:TypeId} (hi:g.τ[i]?=some t)
  (P:t.loc=some (b,o+es.length * k,e)) (R:w.heap[b]?=some (.cells cur ty (0,0))) (hsz:new.size=cur.size) (H:∀j,j < o->new[j]?=cur[j]?) (f:es'.length=es.length)
  (hk:∀e ∈ es',e.length=k) (hp:es'.flatten.all AV.pure=true) (W:VA g es'.flatten ((new.toList.drop o).take (es.length * k))) (hne:es ≠ []) :
  Rel B w0 g (h.put q (.row i k es')) (w.setRow b new):=by
 obtain ⟨X,t2,l,htr,htn,_,_,p⟩:=r.rowAt Q;rw [hi] at l;injection l with l;subst l;obtain ⟨J,K,M,cs,ty2,I,D,k3,k4,k5⟩:∃J K M cs ty2,t.loc=some (J,K+es.length * k,M)/\w.heap[J]?=some (.cells cs ty2 (0,0))/\VA g es.flatten ((cs.toList.drop K).take (es.length * k))/\K+es.length * k<=cs.size/\∀j,K<=j->g.Φ J j=none:=by
  rcases p with rfl | p
  ·exact absurd rfl hne
  ·exact p
 rw [P] at I;injection I with I;injection I with e1 I;injection I with I _;obtain rfl:o=K:=by omega
 subst e1;rw [R] at D;injection D with D;injection D with D _ _;subst D;have lo:=(r.tok i t hi).2 b _ e P;have n:(w.setRow b new).heap[b]?=some (.cells new ty (0,0)):=setRow_heap w b cur new ty (0,0) R;have hql:q < h.blks.length:=(List.getElem?_eq_some_iff.1 Q).1;have d:∀(j:Nat) (x:Blk),(h.blks.set q (.row i k es'))[j]?=some x->(j=q/\x=.row i k es') \/ (j ≠ q/\h.blks[j]?=some x):=by
  intro j x e;by_cases u:j=q
  ·subst u;rw [List.getElem?_set_self hql] at e;injection e with e;exact .inl ⟨rfl,e.symm⟩
  ·rw [List.getElem?_set_ne (λe=>u e.symm)] at e;exact .inr ⟨u,e⟩
 have S:∀(z c:Nat),g.σ[z]?=some (some c)->c ≠ b:=λz c h'=>(r.sep z c i t b _ h' hi P).symm;refine ⟨⟨r.below.os,r.below.tape,r.below.output,by simp [r.below.size],λx C=>(setRow_other w b x new (by have:=lo.lo;omega)).trans (r.below.block x C)⟩,by simp [r.bsz],λs j v V=>?_,
  by simp [AH.put,r.slen],λz c x A E=>?_,r.tlen,λz t' ht'=>?_,r.sinj,r.tinj,r.sep,λx C=>⟨(r.dfr x C).1,(setRow_other w b x new (by rintro rfl;have:=(r.dfr x C).2.1;rw [R] at this;cases this)).trans (r.dfr x C).2.1,(r.dfr x C).2.2⟩,
  λj x u C=>?_,λj1 j2 t1 x1 x2 e1 M hj1 hj2=>?_⟩
 ·by_cases hb':s=b
  ·subst hb';have u:j < o:=by
    rcases Nat.lt_or_ge j o with u | u
    ·exact u
    ·rw [k5 j u] at V;cases V
   have:=r.phi s j v V;rw [cell_of_row w s j cur ty (0,0) R] at this;rw [cell_of_row _ s j new ty (0,0) n,H j u];exact this
  ·exact (World.cell?_of_block (w:=w) (a:=⟨s,j,none⟩) (setRow_other w b s new hb')).trans (r.phi s j v V)
 ·rcases d z x E with ⟨rfl,rfl⟩ | ⟨_,E⟩
  ·rw [X] at A;cases A
  ·obtain ⟨h1,Z,h3,h4⟩:=r.blk z c x A E;exact ⟨h1,by simpa using Z,h3.mono (Gh.le.refl g) (setRow_other w b c new (S z c A)),h4⟩
 ·obtain ⟨h1,Z⟩:=r.tok z t' ht';refine ⟨h1,λs l' e'' Y=>?_⟩;have y:=Z s l' e'' Y;by_cases hb':s=b
  ·subst hb';obtain ⟨cs,ty',m,hle⟩:=y.cells;rw [R] at m;injection m with m;injection m with m _ _;subst m;exact ⟨y.lo,by simpa using y.lt,⟨new,ty,n,by omega⟩,y.free⟩
  ·exact y.mono (by simp) (setRow_other w b s new hb') λ_ _=>rfl
 ·rcases d j x C with ⟨rfl,rfl⟩ | ⟨N,L⟩
  ·exact ⟨t,hi,htr,htn.trans f.symm,hk,hp,.inr ⟨b,o,e,new,ty,by rw [f];exact P,n,by rw [f];exact W,by rw [f];omega,k5⟩⟩
  ·have U:=r.row j x u L;cases x with
   | row i2 D M =>
    have U:RowOk g w i2 D M:=U;refine U.mono (Gh.le.refl g) rfl λt2 J x2 l _ hl2=>⟨setRow_other w b J new ?_,λ_=>rfl⟩
    rintro rfl
    have:=r.tinj _ _ _ _ J _ _ l hi hl2 P;subst this;exact N (r.rinj _ _ _ _ _ _ _ L Q)
   | dead=>trivial
   | _=>exact U.elim
 ·rcases d j1 _ hj1 with ⟨rfl,F⟩ | ⟨hne1,O⟩ <;> rcases d j2 _ hj2 with ⟨rfl,G⟩ | ⟨hne2,T⟩
  ·rfl
  ·injection F with F _ _;subst F;exact r.rinj _ _ _ _ _ _ _ Q T
  ·injection G with G _ _;subst G;exact r.rinj _ _ _ _ _ _ _ O Q
  ·exact r.rinj _ _ _ _ _ _ _ O T
end
end Go.Vv
