/- Mutable rows: how one begins, and how it is cut. -/
import Derived.Test.YtdkfnnpdeenhnaaGreatVvG
namespace Go.Vv
open Go Go.RowKit
section
variable {B:Nat} {w0 w:World} {g:Gh} {h:AH}
theorem Rel.adoptN (r:Rel B w0 g h w) (k:Blk) (G:RowB (g.addS none) w k) (v:∀t s es,k=.row t s es->∀(i u:Nat) (p:List (List AV)),h.blks[i]? ≠ some (.row t u p)) :
  Rel B w0 (g.addS none) (h.new k) w:=by
 have key:∀(i:Nat) (x:Blk),(h.blks++[k])[i]?=some x->(h.blks[i]?=some x/\i < h.blks.length) \/ (i=h.blks.length/\x=k):=by
  intro i x hi;rcases Nat.lt_or_ge i h.blks.length with m | m
  ·rw [List.getElem?_append_left m] at hi;exact .inl ⟨hi,m⟩
  ·rw [List.getElem?_append_right m] at hi;rcases Nat.eq_zero_or_pos (i - h.blks.length) with h0 | h0
   ·rw [h0] at hi;simp at hi;exact .inr ⟨by omega,hi.symm⟩
   ·rw [List.getElem?_eq_none (by simp;omega)] at hi;cases hi
 refine ⟨r.below,r.bsz,r.phi,by simp [Gh.addS,AH.new,r.slen],λi c q d f=>?_,r.tlen,r.tok,λi j c hi l=>?_,r.tinj,λi c j t b x hi l D=>?_,λc d=>⟨(r.dfr c d).1,(r.dfr c d).2.1,λi hi=>?_⟩,
  λi q hi f=>?_,λi j t s u es es' hi l=>?_⟩
 ·rcases addS_get d with d | ⟨_,a⟩
  ·have m:i < h.blks.length:=by rw [<- r.slen];exact (List.getElem?_eq_some_iff.1 d).1
   rcases key i q f with ⟨f,_⟩ | ⟨rfl,_⟩
   ·obtain ⟨E,A,y,C⟩:=r.blk i c q d f;exact ⟨E,A,y.mono (g.le_addS _) rfl,C⟩
   ·omega
  ·cases a
 ·rcases addS_get hi with hi | ⟨_,a⟩
  ·rcases addS_get l with l | ⟨_,a⟩
   ·exact r.sinj i j c hi l
   ·cases a
  ·cases a
 ·rcases addS_get hi with hi | ⟨_,a⟩
  ·exact r.sep i c j t b x hi l D
  ·cases a
 ·rcases addS_get hi with hi | ⟨_,a⟩
  ·exact (r.dfr c d).2.2 i hi
  ·cases a
 ·rcases key i q f with ⟨f,m⟩ | ⟨_,rfl⟩
  ·rcases addS_get hi with hi | ⟨e,_⟩
   ·exact (r.row i q hi f).mono (g.le_addS _) (λ_ _ h _=>h) (λ_ _ _ _ _ _ _=>⟨rfl,λ_=>rfl⟩)
   ·rw [r.slen] at e;omega
  ·exact G
 ·rcases key i _ hi with ⟨n,_⟩ | ⟨rfl,F⟩ <;> rcases key j _ l with ⟨o,_⟩ | ⟨rfl,z⟩
  ·exact r.rinj _ _ _ _ _ _ _ n o
  ·exact absurd n (v _ _ _ z.symm _ _ _)
  ·exact absurd o (v _ _ _ F.symm _ _ _)
  ·rfl
theorem Rel.row_lt (r:Rel B w0 g h w) {i t k:Nat} {es:List (List AV)} (a:h.blks[i]?=some (.row t k es)):t < g.τ.length:=by
 obtain ⟨_,u,b,_⟩:=r.rowAt a;exact (List.getElem?_eq_some_iff.1 b).1
theorem Rel.newRowT (r:Rel B w0 g h w) (t:TI) (k:Nat) (es:List (List AV)) (d:∀b l e,t.loc=some (b,l,e)->LocOk g.Φ B w b l e)
  (hd:∀b x,t.loc=some (b,x)->(∀(j:Nat) (u:TI) (y:Nat×Nat),g.τ[j]?=some u->u.loc ≠ some (b,y))/\∀(j c:Nat),g.σ[j]?=some (some c)->b ≠ c)
  (a:RowOk ((g.addT t).addS none) w g.τ.length k es) :
  Rel B w0 ((g.addT t).addS none) (({ h with toks:=h.toks++[t.n] }:AH).new (.row g.τ.length k es)) w:=by
 refine (r.addTok t d hd).adoptN _ a λt' p m e i q f hi=>?_;injection e with o _ _;subst o;exact Nat.lt_irrefl _ (r.row_lt hi)

theorem Rel.setRowG (r:Rel B w0 g h w) {i q k:Nat} {t t':TI} {es:List (List AV)} {nb:Blk} (hi:g.τ[i]?=some t) (hn:t.n < t'.n) (hf:t.row=true) (T:t'.row=true)
  (hq:g.σ[q]?=some none) (M:h.blks[q]?=some (.row i k es)) (D:RowB (g.setT i t') w nb) (E:∀t k es,nb=.row t k es->t=i)
  (G:∀b l e,t'.loc=some (b,l,e)->LocOk g.Φ B w b l e)
  (hd:∀b x,t'.loc=some (b,x)->(∃y,t.loc=some (b,y)) \/ ((∀(j:Nat) (u:TI) (y:Nat×Nat),g.τ[j]?=some u->u.loc ≠ some (b,y))/\∀(j c:Nat),g.σ[j]?=some (some c)->b ≠ c)) :
  Rel B w0 (g.setT i t') { h.put q nb with toks:=h.toks.set i t'.n } w:=by
 have K:i < g.τ.length:=(List.getElem?_eq_some_iff.1 hi).1;have F:=Gh.le_setT hi hn (T.trans hf.symm);have key:∀(j:Nat) (u:TI),(g.setT i t').τ[j]?=some u->(j=i/\u=t') \/ (j ≠ i/\g.τ[j]?=some u):=by
  intro j u e;simp only [Gh.setT] at e;by_cases d:j=i
  ·subst d;rw [List.getElem?_set_self K] at e;injection e with e;exact .inl ⟨rfl,e.symm⟩
  ·rw [List.getElem?_set_ne (λe=>d e.symm)] at e;exact .inr ⟨d,e⟩
 have U:q < h.blks.length:=(List.getElem?_eq_some_iff.1 M).1;have a:∀(j:Nat) (b:Blk),(h.blks.set q nb)[j]?=some b->(j=q/\b=nb) \/ (j ≠ q/\h.blks[j]?=some b):=by
  intro j b e;by_cases d:j=q
  ·subst d;rw [List.getElem?_set_self U] at e;injection e with e;exact .inl ⟨rfl,e.symm⟩
  ·rw [List.getElem?_set_ne (λe=>d e.symm)] at e;exact .inr ⟨d,e⟩
 refine ⟨r.below,r.bsz,r.phi,by simp [AH.put,Gh.setT,r.slen],λV c b s L=>?_,by simp [Gh.setT,r.tlen],λj u C=>?_,r.sinj,λj P u u' b x y d o v N=>?_,λj c P u b x s C v=>?_,r.dfr,
  λj b d L=>?_,λj1 j2 t1 k1 k2 e1 Y Q m=>?_⟩
 ·have s:g.σ[V]?=some (some c):=s;rcases a V b L with ⟨rfl,rfl⟩ | ⟨p,L⟩
  ·rw [hq] at s;cases s
  ·obtain ⟨A,I,h3,h4⟩:=r.blk V c b s L;exact ⟨A,I,h3.mono F rfl,h4⟩
 ·rcases key j u C with ⟨rfl,rfl⟩ | ⟨d,C⟩
  ·exact ⟨List.getElem?_set_self (by rw [<- r.tlen];exact K),G⟩
  ·obtain ⟨A,I⟩:=r.tok j u C;exact ⟨by simp only;rw [List.getElem?_set_ne (λe=>d e.symm)];exact A,I⟩
 ·rcases key j u d with ⟨rfl,rfl⟩ | ⟨p,m⟩ <;> rcases key P u' o with ⟨rfl,rfl⟩ | ⟨X,o⟩
  ·rfl
  ·rcases hd b x v with ⟨z,H⟩ | ⟨A,_⟩
   ·exact r.tinj _ _ _ _ b z y hi o H N
   ·exact absurd N (A _ _ _ o)
  ·rcases hd b y N with ⟨z,H⟩ | ⟨A,_⟩
   ·exact r.tinj _ _ _ _ b x z m hi v H
   ·exact absurd v (A _ _ _ m)
  ·exact r.tinj _ _ _ _ b x y m o v N
 ·rcases key P u C with ⟨rfl,rfl⟩ | ⟨p,C⟩
  ·rcases hd b x v with ⟨z,H⟩ | ⟨_,I⟩
   ·exact r.sep j c _ t b z s hi H
   ·exact I j c s
  ·exact r.sep j c P u b x s C v
 ·rcases a j b L with ⟨rfl,rfl⟩ | ⟨p,f⟩
  ·exact D
  ·have O:=r.row j b d f;cases b with
   | row i2 k2 Y =>
    have O:RowOk g w i2 k2 Y:=O;have R:i2 ≠ i:=by rintro rfl;exact p (r.rinj _ _ _ _ _ _ _ f M)
    exact O.mono F (by simp only [Gh.setT];exact List.getElem?_set_ne (λe=>R e.symm)) (λ_ _ _ _ _ _=>⟨rfl,λ_=>rfl⟩)
   | dead=>trivial
   | _=>exact O.elim
 ·rcases a j1 _ Q with ⟨rfl,S⟩ | ⟨Z,J⟩ <;> rcases a j2 _ m with ⟨rfl,W⟩ | ⟨hne2,f⟩
  ·rfl
  ·have:=E _ _ _ S.symm;subst this;exact r.rinj _ _ _ _ _ _ _ M f
  ·have:=E _ _ _ W.symm;subst this;exact r.rinj _ _ _ _ _ _ _ J M
  ·exact r.rinj _ _ _ _ _ _ _ J f

def AH.shr (h:AH) (id tk k n:Nat) (es:List (List AV)):AH:=({ h.put id .dead with toks:=h.toks.set tk (es.length+1)++[n] }:AH).new (.row h.toks.length k (es.take n))
theorem flat_takeN {k:Nat}:∀(n:Nat) (es:List (List AV)),(∀e ∈ es,e.length=k)->n<=es.length->(es.take n).flatten=es.flatten.take (n * k)
 | 0,_,_,_=>by simp
 | n+1,[],_,h=>by simp at h
 | n+1,e::r,hk,h=>by
  have a:=hk e List.mem_cons_self;simp only [List.take_succ_cons,List.flatten_cons];rw [flat_takeN n r (λx c=>hk x (List.mem_cons_of_mem _ c)) (by simpa using h),List.take_append,a];have b:(n+1) * k - k=n * k:=by rw [Nat.succ_mul];omega
  have d:e.take ((n+1) * k)=e:=List.take_of_length_le (by rw [a,Nat.succ_mul];omega);rw [b,d]
def locOf (a:Option Addr) (n c k:Nat):Option (Nat×Nat×Nat):=match a with
 | some ⟨b,o,none⟩=>if c=0 then none else some (b,o+n * k,o+c * k)
 | _=>none
theorem Rel.shrink (r:Rel B w0 g h w) {id i k n c:Nat} {es:List (List AV)} (hb:h.blk id=some (.row i k es)) (A:n<=es.length) {a a':Option Addr} (ha:a'=a \/ a'=a.map (·.add 0))
  (hV:V g (.rsl id i k es.length) (.slice a es.length c)) :
  ∃g',g.le g'/\Rel B w0 g' (h.shr id i k n es) w/\V g' (.rsl h.blks.length h.toks.length k n) (.slice a' n c):=by
 obtain ⟨hq,t,F,Q,S,z,H,E⟩:=r.rowAt hb;simp only [V] at hV;obtain ⟨ad,cc,T,hnc,hcm,u,W,hur,hun,K⟩:=hV;simp only [Value.slice.injEq] at T;obtain ⟨rfl,_,rfl⟩:=T;rw [F] at W;injection W with W;subst W;have hbq:h.blks[id]?=some (.row i k es):=hb
 let d:TI:=⟨es.length+1,none,true⟩
 have r1:=r.setRowG (t':=d) (nb:=.dead) F (by show t.n < es.length+1;omega) Q rfl hq hbq trivial (λ_ _ _ e=>by cases e) (λ_ _ _ e=>by cases e) (λ_ _ e=>by cases e);have hlt:i < g.τ.length:=(List.getElem?_eq_some_iff.1 F).1;have G:g.le (g.setT i d):=Gh.le_setT F (by show t.n < es.length+1;omega) Q.symm;have hloc:t.loc=t.loc:=rfl
 -- where the new one lies
 let f:TI:=⟨n,locOf a n c k,true⟩
 have other:∀(j:Nat) (v:TI),(g.setT i d).τ[j]?=some v->(j=i/\v=d) \/ (j ≠ i/\g.τ[j]?=some v):=by
  intro j v e;simp only [Gh.setT] at e;by_cases q:j=i
  ·subst q;rw [List.getElem?_set_self hlt] at e;injection e with e;exact .inl ⟨rfl,e.symm⟩
  ·rw [List.getElem?_set_ne (λe=>q e.symm)] at e;exact .inr ⟨q,e⟩
 have L:∀b l e,f.loc=some (b,l,e)->∃o,a=some ⟨b,o,none⟩/\l=o+n * k/\e=o+c * k/\t.loc=some (b,o+es.length * k,o+c * k):=by
  intro b l e s;simp only [f,locOf] at s;split at s
  ·rename_i b' o;split at s
   ·cases s
   ·rename_i C;simp only [Option.some.injEq,Prod.mk.injEq] at s;obtain ⟨rfl,rfl,rfl⟩:=s;rcases K with ⟨_,p⟩ | ⟨X,N,p,D⟩
    ·exact absurd p C
    ·injection p with p;injection p with M O;subst M O;exact ⟨_,rfl,rfl,rfl,D S.symm⟩
  ·cases s
 have free:∀b o,t.loc=some (b,o+es.length * k,o+c * k)->∀j,o+n * k<=j->g.Φ b j=none:=by
  intro b o s j q;rcases E with rfl | ⟨X,N,e2,cs,ty,P,k2,k3,k4,k5⟩
  ·have:=(r.tok i t F).2 _ _ _ s;exact this.free j (by simp at A;subst A;simpa using q)
  ·rw [s] at P;simp only [Option.some.injEq,Prod.mk.injEq] at P;obtain ⟨rfl,p,rfl⟩:=P;have:o=N:=by omega
   subst this;exact k5 j (by omega)
 have I:∀b l e,f.loc=some (b,l,e)->LocOk (g.setT i d).Φ B w b l e:=by
  intro b l e s;obtain ⟨o,_,rfl,rfl,M⟩:=L b l e s;have O:=(r.tok i t F).2 _ _ _ M;exact ⟨O.lo,O.lt,O.cells,λj q=>free b o M j q⟩
 have hdN:∀b x,f.loc=some (b,x)->(∀(j:Nat) (u:TI) (y:Nat×Nat),(g.setT i d).τ[j]?=some u->u.loc ≠ some (b,y))/\∀(j c:Nat),(g.setT i d).σ[j]?=some (some c)->b ≠ c:=by
  rintro b ⟨l,e⟩ s
  obtain ⟨o,_,_,_,M⟩:=L b l e s;refine ⟨λj v y q hv=>?_,λj c' q=>r.sep j c' i t b _ q F M⟩;rcases other j v q with ⟨rfl,rfl⟩ | ⟨Z,q⟩
  ·cases hv
  ·exact Z (r.tinj _ _ _ _ b _ _ q F hv M)
 have m:(g.setT i d).τ.length=h.toks.length:=by simp [Gh.setT,r.tlen]
 have R:(((g.setT i d).addT f).addS none).τ[h.toks.length]?=some f:=by
  simp only [Gh.addS,Gh.addT];rw [List.getElem?_append_right (by rw [m];exact Nat.le_refl _),m];simp
 have Y:es ≠ []->c ≠ 0:=by
  intro U p;subst p;have:es.length=0:=by omega
  exact U (List.eq_nil_of_length_eq_zero this)
 have J:RowOk (((g.setT i d).addT f).addS none) w (g.setT i d).τ.length k (es.take n):=by
  rw [m];refine ⟨f,R,rfl,by simp [f,Nat.min_eq_left A],λe T=>z e (List.mem_of_mem_take T),?_,?_⟩
  ·rw [flat_takeN n es z A];exact all_take _ H
  ·by_cases hes:es=[]
   ·left;subst hes;simp
   ·right;rcases E with h0 | ⟨X,N,e2,cs,ty,P,k2,k3,k4,k5⟩
    ·exact absurd h0 hes
    ·rcases K with ⟨U,_⟩ | ⟨b,o,p,D⟩
     ·exact absurd (List.eq_nil_of_length_eq_zero U) hes
     ·have D:=D S.symm;rw [P] at D;simp only [Option.some.injEq,Prod.mk.injEq] at D;obtain ⟨rfl,O,rfl⟩:=D;have:N=o:=by omega
      subst this;have hnk:n * k<=es.length * k:=Nat.mul_le_mul_right k A;refine ⟨X,N,N+c * k,cs,ty,?_,k2,?_,?_,λj q=>k5 j q⟩
      ·simp only [f,locOf,p,if_neg (Y hes),List.length_take,Nat.min_eq_left A]
      ·rw [flat_takeN n es z A,List.length_take,Nat.min_eq_left A];have:=VA.take (n * k) k3;rw [List.take_take,Nat.min_eq_left hnk] at this;exact VA.mono ((G.trans (Gh.le_addT _ _)).trans (Gh.le_addS _ _)) _ _ this
      ·rw [List.length_take,Nat.min_eq_left A];omega
 have r2:=r1.newRowT f k (es.take n) I hdN J;refine ⟨((g.setT i d).addT f).addS none,(G.trans (Gh.le_addT _ _)).trans (Gh.le_addS _ _),?_,?_⟩
 ·have e1:h.shr id i k n es=(({ ({ h.put id .dead with toks:=h.toks.set i d.n }:AH) with toks:=(h.toks.set i d.n)++[f.n] }:AH).new (.row (g.setT i d).τ.length k (es.take n))):=by
   unfold AH.shr;rw [m]
  rw [e1];exact r2
 ·simp only [V];refine ⟨a',c,rfl,by omega,hcm,f,R,rfl,Nat.le_refl _,?_⟩;rcases K with ⟨U,p⟩ | ⟨b,o,p,D⟩
  ·left;exact ⟨by omega,p⟩
  ·by_cases C:c=0
   ·left;exact ⟨by omega,C⟩
   ·right;refine ⟨b,o,?_,λ_=>?_⟩
    ·rcases ha with rfl | rfl
     ·exact p
     ·rw [p];simp [Addr.add]
    ·simp only [f,locOf,p,if_neg C]
end
end Go.Vv
