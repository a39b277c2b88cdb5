/- Mutable rows: how one begins, and how it is cut. -/
import Derived.Test.YtcociipjgndnaaaGreatVvG
namespace Go.Vv
open Go Go.RowKit
section
variable {B:Nat} {w0 w:World} {g:Gh} {h:AH}
theorem Rel.adoptN (r:Rel B w0 g h w) (k:Blk) (H:RowB (g.addS none) w k) (u:∀t v es,k=.row t v es->∀(i s:Nat) (p:List (List AV)),h.blks[i]? ≠ some (.row t s p)) :
  Rel B w0 (g.addS none) (h.new k) w:=by
 have key:∀(i:Nat) (x:Blk),(h.blks++[k])[i]?=some x->(h.blks[i]?=some x/\i < h.blks.length) \/ (i=h.blks.length/\x=k):=by
  intro i x hi;rcases tz i h.blks.length with m | m
  ·rw [uj m] at hi;exact .inl ⟨hi,m⟩
  ·rw [ui m] at hi;rcases su (i - h.blks.length) with h0 | h0
   ·rw [h0] at hi;simp at hi;exact .inr ⟨by omega,hi.symm⟩
   ·rw [th (by simp;omega)] at hi;cases hi
 refine ⟨r.below,r.bsz,r.phi,by simp [Gh.addS,AH.new,r.slen],λi c q d l=>?_,r.tlen,r.tok,λi j c hi f=>?_,r.tinj,λi c j t b x hi f C=>?_,λc d=>⟨(r.dfr c d).1,(r.dfr c d).2.1,λi hi=>?_⟩,
  λi q hi l=>?_,λi j t v s es es' hi f=>?_,λb x z=>(r.nb b x z).mono λ_ _ y=>⟨rfl,⟨λi hi=>(addS_get hi).elim (λhi=>y.1 i hi) (λa=>nomatch a.2),y.2⟩,λh=>h⟩,r.ob⟩
 ·rcases addS_get d with d | ⟨_,a⟩
  ·have m:i < h.blks.length:=by rw [<- r.slen];exact (uc.1 d).1
   rcases key i q l with ⟨l,_⟩ | ⟨rfl,_⟩
   ·obtain ⟨I,D,G,F⟩:=r.blk i c q d l;exact ⟨I,D,G.mono (g.le_addS _) rfl,F⟩
   ·omega
  ·cases a
 ·rcases addS_get hi with hi | ⟨_,a⟩
  ·rcases addS_get f with f | ⟨_,a⟩
   ·exact r.sinj i j c hi f
   ·cases a
  ·cases a
 ·rcases addS_get hi with hi | ⟨_,a⟩
  ·exact r.sep i c j t b x hi f C
  ·cases a
 ·rcases addS_get hi with hi | ⟨_,a⟩
  ·exact (r.dfr c d).2.2 i hi
  ·cases a
 ·rcases key i q l with ⟨l,m⟩ | ⟨_,rfl⟩
  ·rcases addS_get hi with hi | ⟨e,_⟩
   ·exact (r.row i q hi l).mono (g.le_addS _) (λ_ _ h _=>h) (λ_ _ _ _ _ _ _=>⟨rfl,λ_=>rfl⟩)
   ·rw [r.slen] at e;omega
  ·exact H
 ·rcases key i _ hi with ⟨o,_⟩ | ⟨rfl,A⟩ <;> rcases key j _ f with ⟨n,_⟩ | ⟨rfl,E⟩
  ·exact r.rinj _ _ _ _ _ _ _ o n
  ·exact absurd o (u _ _ _ E.symm _ _ _)
  ·exact absurd n (u _ _ _ A.symm _ _ _)
  ·rfl
theorem Rel.row_lt (r:Rel B w0 g h w) {i t k:Nat} {es:List (List AV)} (b:h.blks[i]?=some (.row t k es)):t < g.τ.length:=by
 obtain ⟨_,u,a,_⟩:=r.rowAt b;exact (uc.1 a).1
theorem Rel.newRowT (r:Rel B w0 g h w) (t:TI) (k:Nat) (es:List (List AV)) (a:∀b l e,t.loc=some (b,l,e)->LocOk g.Φ B w b l e)
  (hd:∀b x,t.loc=some (b,x)->(∀(j:Nat) (u:TI) (y:Nat×Nat),g.τ[j]?=some u->u.loc ≠ some (b,y))/\(∀(j c:Nat),g.σ[j]?=some (some c)->b ≠ c)/\g.N b=none)
  (d:RowOk ((g.addT t).addS none) w g.τ.length k es) :
  Rel B w0 ((g.addT t).addS none) (({ h with toks:=h.toks++[t.n] }:AH).new (.row g.τ.length k es)) w:=by
 refine (r.addTok t a hd).adoptN _ d λt' q o e i p m hi=>?_;injection e with f _ _;subst f;exact sH _ (r.row_lt hi)

theorem Rel.setRowG (r:Rel B w0 g h w) {i q k:Nat} {t t':TI} {es:List (List AV)} {nb:Blk} (hi:g.τ[i]?=some t) (hn:t.n < t'.n) (hf:t.row=true) (X:t'.row=true)
  (hq:g.σ[q]?=some none) (s:h.blks[q]?=some (.row i k es)) (H:RowB (g.setT i t') w nb) (G:∀t k es,nb=.row t k es->t=i)
  (F:∀b l e,t'.loc=some (b,l,e)->LocOk g.Φ B w b l e)
  (hd:∀b x,t'.loc=some (b,x)->(∃y,t.loc=some (b,y)) \/ ((∀(j:Nat) (u:TI) (y:Nat×Nat),g.τ[j]?=some u->u.loc ≠ some (b,y))/\(∀(j c:Nat),g.σ[j]?=some (some c)->b ≠ c)/\g.N b=none)) :
  Rel B w0 (g.setT i t') { h.put q nb with toks:=h.toks.set i t'.n } w:=by
 have I:i < g.τ.length:=(uc.1 hi).1;have L:=Gh.le_setT hi hn (X.trans hf.symm);have key:∀(j:Nat) (u:TI),(g.setT i t').τ[j]?=some u->(j=i/\u=t') \/ (j ≠ i/\g.τ[j]?=some u):=by
  intro j u e;simp only [Gh.setT] at e;by_cases d:j=i
  ·subst d;rw [uA I] at e;injection e with e;exact .inl ⟨rfl,e.symm⟩
  ·rw [uK (λe=>d e.symm)] at e;exact .inr ⟨d,e⟩
 have T:q < h.blks.length:=(uc.1 s).1;have a:∀(j:Nat) (b:Blk),(h.blks.set q nb)[j]?=some b->(j=q/\b=nb) \/ (j ≠ q/\h.blks[j]?=some b):=by
  intro j b e;by_cases d:j=q
  ·subst d;rw [uA T] at e;injection e with e;exact .inl ⟨rfl,e.symm⟩
  ·rw [uK (λe=>d e.symm)] at e;exact .inr ⟨d,e⟩
 refine ⟨r.below,r.bsz,r.phi,by simp [AH.put,Gh.setT,r.slen],λY c b A M=>?_,by simp [Gh.setT,r.tlen],λj u o=>?_,r.sinj,λj O u u' b x y d f D R=>?_,λj c O u b x A o D=>?_,r.dfr,
  λj b d M=>?_,λj1 j2 t1 k1 k2 e1 e2 W p=>?_,λb x s=>?_,r.ob⟩
 rotate_right
 ·exact (r.nb b x s).mono λ_ _ P=>⟨rfl,⟨P.1,P.2.1,λj u y o hl=>by
    rcases key j u o with ⟨rfl,rfl⟩ | ⟨_,o⟩
    ·rcases hd b y hl with ⟨z,C⟩ | ⟨_,_,Z⟩
     ·exact P.2.2 _ _ z hi C
     ·have s:g.N b=some x:=s;rw [Z] at s;cases s
    ·exact P.2.2 j u y o hl⟩,λh=>h⟩
 ·have A:g.σ[Y]?=some (some c):=A;rcases a Y b M with ⟨rfl,rfl⟩ | ⟨v,M⟩
  ·rw [hq] at A;cases A
  ·obtain ⟨E,J,Z,h4⟩:=r.blk Y c b A M;exact ⟨E,J,Z.mono L rfl,h4⟩
 ·rcases key j u o with ⟨rfl,rfl⟩ | ⟨d,o⟩
  ·exact ⟨uA (by rw [<- r.tlen];exact I),F⟩
  ·obtain ⟨E,J⟩:=r.tok j u o;exact ⟨by simp only;rw [uK (λe=>d e.symm)];exact E,J⟩
 ·rcases key j u d with ⟨rfl,rfl⟩ | ⟨v,p⟩ <;> rcases key O u' f with ⟨rfl,rfl⟩ | ⟨hne',f⟩
  ·rfl
  ·rcases hd b x D with ⟨z,C⟩ | ⟨E,_⟩
   ·exact r.tinj _ _ _ _ b z y hi f C R
   ·exact absurd R (E _ _ _ f)
  ·rcases hd b y R with ⟨z,C⟩ | ⟨E,_⟩
   ·exact r.tinj _ _ _ _ b x z p hi D C
   ·exact absurd D (E _ _ _ p)
  ·exact r.tinj _ _ _ _ b x y p f D R
 ·rcases key O u o with ⟨rfl,rfl⟩ | ⟨v,o⟩
  ·rcases hd b x D with ⟨z,C⟩ | ⟨_,J,_⟩
   ·exact r.sep j c _ t b z A hi C
   ·exact J j c A
  ·exact r.sep j c O u b x A o D
 ·rcases a j b M with ⟨rfl,rfl⟩ | ⟨v,m⟩
  ·exact H
  ·have Q:=r.row j b d m;cases b with
   | row i2 k2 e2 =>
    have Q:RowOk g w i2 k2 e2:=Q;have U:i2 ≠ i:=by rintro rfl;exact v (r.rinj _ _ _ _ _ _ _ m s)
    exact Q.mono L (by simp only [Gh.setT];exact uK (λe=>U e.symm)) (λ_ _ _ _ _ _=>⟨rfl,λ_=>rfl⟩)
   | dead=>trivial
   | _=>exact Q.elim
 ·rcases a j1 _ W with ⟨rfl,S⟩ | ⟨hne1,K⟩ <;> rcases a j2 _ p with ⟨rfl,V⟩ | ⟨hne2,m⟩
  ·rfl
  ·have:=G _ _ _ S.symm;subst this;exact r.rinj _ _ _ _ _ _ _ s m
  ·have:=G _ _ _ V.symm;subst this;exact r.rinj _ _ _ _ _ _ _ K s
  ·exact r.rinj _ _ _ _ _ _ _ K m

def AH.shr (h:AH) (id tk k n:Nat) (es:List (List AV)):AH:=({ h.put id .dead with toks:=h.toks.set tk (es.length+1)++[n] }:AH).new (.row h.toks.length k (es.take n))
theorem flat_takeN {k:Nat}:∀(n:Nat) (es:List (List AV)),(∀e ∈ es,e.length=k)->n<=es.length->(es.take n).flatten=es.flatten.take (n * k)
 | 0,_,_,_=>by simp
 | n+1,[],_,h=>by simp at h
 | n+1,e::r,hk,h=>by
  have a:=hk e tY;simp only [sS,tq];rw [flat_takeN n r (λx b=>hk x (tJ _ b)) (by simpa using h),sd,a];have c:(n+1) * k - k=n * k:=by rw [sn];omega
  have d:e.take ((n+1) * k)=e:=uM (by rw [a,sn];omega);rw [c,d]
def locOf (a:Option Addr) (n c k:Nat):Option (Nat×Nat×Nat):=match a with
 | some ⟨b,o,none⟩=>if c=0 then none else some (b,o+n * k,o+c * k)
 | _=>none
theorem Rel.shrink (r:Rel B w0 g h w) {id i k n c:Nat} {es:List (List AV)} (hb:h.blk id=some (.row i k es)) (C:n<=es.length) {a a':Option Addr} (ha:a'=a \/ a'=a.map (·.add 0))
  (hV:V g (.rsl id i k es.length) (.slice a es.length c)) :
  ∃g',g.le g'/\Rel B w0 g' (h.shr id i k n es) w/\V g' (.rsl h.blks.length h.toks.length k n) (.slice a' n c):=by
 obtain ⟨hq,t,D,Q,T,z,K,H⟩:=r.rowAt hb;simp only [V] at hV;obtain ⟨ad,cc,W,hnc,hcm,u,X,hur,hun,J⟩:=hV;simp only [Value.slice.injEq] at W;obtain ⟨rfl,_,rfl⟩:=W;rw [D] at X;injection X with X;subst X;have hbq:h.blks[id]?=some (.row i k es):=hb
 let d:TI:=⟨es.length+1,none,true⟩
 have r1:=r.setRowG (t':=d) (nb:=.dead) D (by show t.n < es.length+1;omega) Q rfl hq hbq trivial (λ_ _ _ e=>by cases e) (λ_ _ _ e=>by cases e) (λ_ _ e=>by cases e);have Z:i < g.τ.length:=(uc.1 D).1;have G:g.le (g.setT i d):=Gh.le_setT D (by show t.n < es.length+1;omega) Q.symm;have hloc:t.loc=t.loc:=rfl
 -- where the new one lies
 let f:TI:=⟨n,locOf a n c k,true⟩
 have other:∀(j:Nat) (v:TI),(g.setT i d).τ[j]?=some v->(j=i/\v=d) \/ (j ≠ i/\g.τ[j]?=some v):=by
  intro j v e;simp only [Gh.setT] at e;by_cases q:j=i
  ·subst q;rw [uA Z] at e;injection e with e;exact .inl ⟨rfl,e.symm⟩
  ·rw [uK (λe=>q e.symm)] at e;exact .inr ⟨q,e⟩
 have L:∀b l e,f.loc=some (b,l,e)->∃o,a=some ⟨b,o,none⟩/\l=o+n * k/\e=o+c * k/\t.loc=some (b,o+es.length * k,o+c * k):=by
  intro b l e s;simp only [f,locOf] at s;split at s
  ·rename_i b' o;split at s
   ·cases s
   ·rename_i A;simp only [un,tG] at s;obtain ⟨rfl,rfl,rfl⟩:=s;rcases J with ⟨_,p⟩ | ⟨b2,P,p,E⟩
    ·exact absurd p A
    ·injection p with p;injection p with F O;subst F O;exact ⟨_,rfl,rfl,rfl,E T.symm⟩
  ·cases s
 have free:∀b o,t.loc=some (b,o+es.length * k,o+c * k)->∀j,o+n * k<=j->g.Φ b j=none:=by
  intro b o s j q;rcases H with rfl | ⟨b2,P,e2,cs,ty,S,k2,k3,k4,k5⟩
  ·have:=(r.tok i t D).2 _ _ _ s;exact this.free j (by simp at C;subst C;simpa using q)
  ·rw [s] at S;simp only [un,tG] at S;obtain ⟨rfl,p,rfl⟩:=S;have:o=P:=by omega
   subst this;exact k5 j (by omega)
 have M:∀b l e,f.loc=some (b,l,e)->LocOk (g.setT i d).Φ B w b l e:=by
  intro b l e s;obtain ⟨o,_,rfl,rfl,F⟩:=L b l e s;have O:=(r.tok i t D).2 _ _ _ F;exact ⟨O.lo,O.lt,O.cells,λj q=>free b o F j q⟩
 have hdN:∀b x,f.loc=some (b,x)->(∀(j:Nat) (u:TI) (y:Nat×Nat),(g.setT i d).τ[j]?=some u->u.loc ≠ some (b,y))/\(∀(j c:Nat),(g.setT i d).σ[j]?=some (some c)->b ≠ c)/\(g.setT i d).N b=none:=by
  rintro b ⟨l,e⟩ s
  obtain ⟨o,_,_,_,F⟩:=L b l e s;refine ⟨λj v y q hv=>?_,λj c' q=>r.sep j c' i t b _ q D F,r.ntok D F⟩;rcases other j v q with ⟨rfl,rfl⟩ | ⟨hne,q⟩
  ·cases hv
  ·exact hne (r.tinj _ _ _ _ b _ _ q D hv F)
 have m:(g.setT i d).τ.length=h.toks.length:=by simp [Gh.setT,r.tlen]
 have R:(((g.setT i d).addT f).addS none).τ[h.toks.length]?=some f:=by
  simp only [Gh.addS,Gh.addT];rw [ui (by rw [m];exact uh _),m];simp
 have Y:es ≠ []->c ≠ 0:=by
  intro U p;subst p;have:es.length=0:=by omega
  exact U (uP this)
 have I:RowOk (((g.setT i d).addT f).addS none) w (g.setT i d).τ.length k (es.take n):=by
  rw [m];refine ⟨f,R,rfl,by simp [f,s8 C],λe W=>z e (pw W),?_,?_⟩
  ·rw [flat_takeN n es z C];exact all_take _ K
  ·by_cases hes:es=[]
   ·left;subst hes;simp
   ·right;rcases H with h0 | ⟨b2,P,e2,cs,ty,S,k2,k3,k4,k5⟩
    ·exact absurd h0 hes
    ·rcases J with ⟨U,_⟩ | ⟨b,o,p,E⟩
     ·exact absurd (uP U) hes
     ·have E:=E T.symm;rw [S] at E;simp only [un,tG] at E;obtain ⟨rfl,O,rfl⟩:=E;have:P=o:=by omega
      subst this;have hnk:n * k<=es.length * k:=tw k C;refine ⟨b2,P,P+c * k,cs,ty,?_,k2,?_,?_,λj q=>k5 j q⟩
      ·simp only [f,locOf,p,uu (Y hes),se,s8 C]
      ·rw [flat_takeN n es z C,se,s8 C];have:=VA.take (n * k) k3;rw [pj,s8 hnk] at this;exact VA.mono ((G.trans (Gh.le_addT _ _)).trans (Gh.le_addS _ _)) _ _ this
      ·rw [se,s8 C];omega
 have r2:=r1.newRowT f k (es.take n) M hdN I;refine ⟨((g.setT i d).addT f).addS none,(G.trans (Gh.le_addT _ _)).trans (Gh.le_addS _ _),?_,?_⟩
 ·have e1:h.shr id i k n es=(({ ({ h.put id .dead with toks:=h.toks.set i d.n }:AH) with toks:=(h.toks.set i d.n)++[f.n] }:AH).new (.row (g.setT i d).τ.length k (es.take n))):=by
   unfold AH.shr;rw [m]
  rw [e1];exact r2
 ·simp only [V];refine ⟨a',c,rfl,by omega,hcm,f,R,rfl,uh _,?_⟩;rcases J with ⟨U,p⟩ | ⟨b,o,p,E⟩
  ·left;exact ⟨by omega,p⟩
  ·by_cases A:c=0
   ·left;exact ⟨by omega,A⟩
   ·right;refine ⟨b,o,?_,λ_=>?_⟩
    ·rcases ha with rfl | rfl
     ·exact p
     ·rw [p];simp [Addr.add]
    ·simp only [f,locOf,p,uu A]
end
end Go.Vv
