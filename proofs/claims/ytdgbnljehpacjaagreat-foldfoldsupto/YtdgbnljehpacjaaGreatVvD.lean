/- Tokens: rows that the call's own code lengthens. -/
import Derived.Test.YtdgbnljehpacjaaGreatVvA
import Derived.Lib.AppendStr
set_option linter.all false
namespace Go.Vv
open Go Go.RowKit
section
variable {B:Nat} {w0 w:World} {g:Gh} {h:AH}

def Gh.setT (g:Gh) (i:Nat) (t:TI):Gh:={ g with τ:=g.τ.set i t }
def Gh.addT (g:Gh) (t:TI):Gh:={ g with τ:=g.τ++[t] }
theorem Gh.le_setT {g:Gh} {i:Nat} {t t':TI} (hi:g.τ[i]?=some t) (b:t.n < t'.n) (a:t'.row=t.row):g.le (g.setT i t') :=
 ⟨λ_ _ _ e=>e,λ_ _ e=>e,λj u e=>by
  simp only [Gh.setT];by_cases hj:j=i
  ·subst hj
   grind
  ·exact ⟨u,by grind,uh _,λ_=>rfl,rfl⟩,λ_ h=>h,λ_ _ h=>h,λ_ h=>h⟩
theorem Gh.le_addT (g:Gh) (t:TI):g.le (g.addT t) :=
 ⟨λ_ _ _ e=>e,λ_ _ e=>e,λj u e=>by
  simp only [Gh.addT];exact ⟨u,by grind,uh _,λ_=>rfl,rfl⟩,λ_ h=>h,λ_ _ h=>h,λ_ h=>h⟩

theorem Rel.setTok (r:Rel B w0 g h w) {i:Nat} {t t':TI} (hi:g.τ[i]?=some t) (Q:t.n < t'.n) (P:t.row=false) (A:t'.row=false)
  (C:∀b l e,t'.loc=some (b,l,e)->LocOk g.Φ B w b l e)
  (hd:∀b x,t'.loc=some (b,x)->(∃y,t.loc=some (b,y)) \/ ((∀(j:Nat) (u:TI) (y:Nat×Nat),g.τ[j]?=some u->u.loc ≠ some (b,y))/\(∀(j c:Nat),g.σ[j]?=some (some c)->b ≠ c)/\g.N b=none/\¬ g.O b)) :
  Rel B w0 (g.setT i t') { h with toks:=h.toks.set i t'.n } w:=by
 have K:i < g.τ.length:=(uc.1 hi).1;have key:∀(j:Nat) (u:TI),(g.setT i t').τ[j]?=some u->(j=i/\u=t') \/ (j ≠ i/\g.τ[j]?=some u):=by
  intro j u e;simp only [Gh.setT] at e
  grind
 refine ⟨r.below,r.bsz,r.phi,r.slen,λV c k F L=>?_,by simp [Gh.setT,r.tlen],λj u a=>?_,r.sinj,λj G u U b x y J f s M=>?_,λj c G u b x F a s=>?_,r.dfr,
  λq k S L=>(r.row q k S L).mono (Gh.le_setT hi Q (A.trans P.symm)) (λj u J W=>by
   have o:j ≠ i:=by grind
   simp only [Gh.setT];rw [u7 (λe=>o e.symm)];exact J) (λ_ _ _ _ _ _ _=>⟨rfl,λ_=>rfl⟩),r.rinj,λb x p=>?_,r.ob,λb p=>?_⟩
 rotate_right
 rotate_right
 ·exact (r.nb b x p).mono λ_ _ m=>⟨rfl,⟨m.1,m.2.1,λj u y a D=>by
    rcases key j u a with ⟨rfl,rfl⟩ | ⟨_,a⟩
    ·rcases hd b y D with ⟨z,d⟩ | ⟨_,_,I,_⟩
     ·exact m.2.2 _ _ z hi d
     ·have p:g.N b=some x:=p
      simp_all
    ·exact m.2.2 j u y a D⟩,λh=>h⟩
 ·have m:=r.oa b p;refine ⟨m.1,m.2.1,λj u y a D=>?_⟩;rcases key j u a with ⟨rfl,rfl⟩ | ⟨_,a⟩
  ·rcases hd b y D with ⟨z,d⟩ | ⟨_,_,_,I⟩
   ·exact m.2.2 _ _ z hi d
   ·exact I p
  ·exact m.2.2 j u y a D
 ·obtain ⟨H,v,I,T⟩:=r.blk V c k F L;exact ⟨H,v,I.mono (Gh.le_setT hi Q (A.trans P.symm)) rfl,T⟩
 ·rcases key j u a with ⟨rfl,rfl⟩ | ⟨J,a⟩
  ·exact ⟨uE (by rw [<- r.tlen];exact K),C⟩
  ·obtain ⟨H,v⟩:=r.tok j u a;exact ⟨by grind,v⟩
 ·rcases key j u J with ⟨rfl,rfl⟩ | ⟨o,E⟩ <;> rcases key G U f with ⟨rfl,rfl⟩ | ⟨R,f⟩
  ·rfl
  ·rcases hd b x s with ⟨z,d⟩ | ⟨H,_⟩
   ·exact r.tinj _ _ _ _ b z y hi f d M
   ·grind
  ·rcases hd b y M with ⟨z,d⟩ | ⟨H,_⟩
   ·exact r.tinj _ _ _ _ b x z E hi s d
   ·grind
  ·exact r.tinj _ _ _ _ b x y E f s M
 ·rcases key G u a with ⟨rfl,rfl⟩ | ⟨o,a⟩
  ·rcases hd b x s with ⟨z,d⟩ | ⟨_,v,_⟩
   ·exact r.sep j c _ t b z F hi d
   ·exact v j c F
  ·exact r.sep j c G u b x F a s

theorem Rel.addTok (r:Rel B w0 g h w) (t:TI) (m:∀b l e,t.loc=some (b,l,e)->LocOk g.Φ B w b l e)
  (hd:∀b x,t.loc=some (b,x)->(∀(j:Nat) (u:TI) (y:Nat×Nat),g.τ[j]?=some u->u.loc ≠ some (b,y))/\(∀(j c:Nat),g.σ[j]?=some (some c)->b ≠ c)/\g.N b=none/\¬ g.O b) :
  Rel B w0 (g.addT t) { h with toks:=h.toks++[t.n] } w:=by
 have key:∀(j:Nat) (u:TI),(g.addT t).τ[j]?=some u->(j=g.τ.length/\u=t) \/ (j < g.τ.length/\g.τ[j]?=some u):=by
  intro j u e;simp only [Gh.addT] at e
  grind
 refine ⟨r.below,r.bsz,r.phi,r.slen,λM c k z D=>?_,by simp [Gh.addT,r.tlen],λj u a=>?_,r.sinj,λj p u J b x y o d v K=>?_,λj c p u b x z a v=>?_,r.dfr,
  λq k H D=>(r.row q k H D).mono (Gh.le_addT g t) (λj u o _=>by
   simp only [Gh.addT];rw [un (uc.1 o).1];exact o) (λ_ _ _ _ _ _ _=>⟨rfl,λ_=>rfl⟩),r.rinj,λb x i=>?_,r.ob,λb i=>?_⟩
 rotate_right
 rotate_right
 ·exact (r.nb b x i).mono λ_ _ f=>⟨rfl,⟨f.1,f.2.1,λj u y a s=>by
    rcases key j u a with ⟨rfl,rfl⟩ | ⟨_,a⟩
    ·have i:g.N b=some x:=i
     simp_all
    ·exact f.2.2 j u y a s⟩,λh=>h⟩
 ·have f:=r.oa b i;refine ⟨f.1,f.2.1,λj u y a s=>?_⟩;rcases key j u a with ⟨rfl,rfl⟩ | ⟨_,a⟩
  ·exact (hd b y s).2.2.2 i
  ·exact f.2.2 j u y a s
 ·obtain ⟨F,C,L,I⟩:=r.blk M c k z D;exact ⟨F,C,L.mono (Gh.le_addT g t) rfl,I⟩
 ·rcases key j u a with ⟨rfl,rfl⟩ | ⟨o,a⟩
  ·refine ⟨?_,m⟩;rw [r.tlen,um (uh _)];simp
  ·obtain ⟨F,C⟩:=r.tok j u a;exact ⟨by grind,C⟩
 ·rcases key j u o with ⟨rfl,rfl⟩ | ⟨A,E⟩ <;> rcases key p J d with ⟨rfl,rfl⟩ | ⟨G,d⟩
  ·rfl
  ·grind
  ·grind
  ·exact r.tinj _ _ _ _ b x y E d v K
 ·rcases key p u a with ⟨rfl,rfl⟩ | ⟨A,a⟩
  ·exact (hd b x v).2.1 j c z
  ·exact r.sep j c p u b x z a v

theorem Rel.setSpare (r:Rel B w0 g h w) {i:Nat} {t:TI} {b l e:Nat} (hi:g.τ[i]?=some t) (A:t.loc=some (b,l,e)) {cur new:Array Value} {ty:TypeId}
  (G:w.heap[b]?=some (.cells cur ty (0,0))) (Z:new.size=cur.size) (z:∀j,j < l->new[j]?=cur[j]?):Rel B w0 g h (w.setRow b new):=by
 have lo:=(r.tok i t hi).2 b l e A;have n:(w.setRow b new).heap[b]?=some (.cells new ty (0,0)):=setRow_heap w b cur new ty (0,0) G;refine ⟨⟨r.below.os,r.below.tape,r.below.output,by simp [r.below.size],λk C=>(setRow_other w b k new (by have:=lo.lo;omega)).trans (r.below.block k C)⟩,by simp [r.bsz],λd j v I=>?_,
  r.slen,λK c k D C=>?_,r.tlen,λK t' N=>?_,r.sinj,r.tinj,r.sep,λx J=>⟨(r.dfr x J).1,(setRow_other w b x new (by rintro rfl;have:=(r.dfr x J).2.1;rw [G] at this;cases this)).trans (r.dfr x J).2.1,(r.dfr x J).2.2⟩,λq k V C=>?_,r.rinj,
  λd x f=>(r.nb d x f).mono λ_ _ S=>⟨setRow_other w b d new (by rintro rfl;exact S.2.2 i t _ hi A),S,λh=>h⟩,λd f=>⟨by simpa using (r.ob d f).1,(r.ob d f).2⟩,r.oa⟩
 ·by_cases f:d=b
  ·subst f;have F:j < l:=by
    rcases sB j l with F | F
    ·exact F
    ·rw [lo.free j F] at I;cases I
   have:=r.phi d j v I;rw [cell_of_row w d j cur ty (0,0) G] at this;rw [cell_of_row _ d j new ty (0,0) n,z j F];omega
  ·exact (World.cell?_of_block (w:=w) (a:=⟨d,j,none⟩) (setRow_other w b d new f)).trans (r.phi d j v I)
 ·obtain ⟨s,H,Q,M⟩:=r.blk K c k D C;exact ⟨s,by simp_all,Q.mono (Gh.le.refl g) (setRow_other w b c new (r.sep K c i t b (l,e) D hi A).symm),M⟩
 ·obtain ⟨s,H⟩:=r.tok K t' N;refine ⟨s,λd l' L O=>?_⟩;have u:=H d l' L O;by_cases f:d=b
  ·subst f;obtain ⟨cs,T,m,hle⟩:=u.cells;rw [G] at m;injection m with m;injection m with m _ _;subst m;exact ⟨u.lo,by grind,⟨new,ty,n,by omega⟩,u.free⟩
  ·exact u.mono (by simp) (setRow_other w b d new f) λ_ _=>rfl
 ·have y:=r.row q k V C;cases k with
  | row i2 k es =>
   obtain ⟨U,s,H,Q,M,X,h6⟩:=y;refine ⟨U,s,H,Q,M,X,h6.imp id ?_⟩
   rintro ⟨E,o,Y,cs,ty2,p,k2,W,k4,R⟩
   by_cases f:E=b
   ·subst f;have P:=r.tinj _ _ _ _ E _ _ s hi p A;subst P;rw [hi] at s;injection s with s;subst s;rw [A] at p;injection p with p;injection p with _ p;injection p with p _;rw [G] at k2;injection k2 with k2;injection k2 with k2 k22 _;subst k2;refine ⟨E,o,e,new,ty,by rw [A,p],n,?_,by omega,R⟩;have:(new.toList.drop o).take (es.length * k)=(cur.toList.drop o).take (es.length * k):=by
     apply tc
     grind
    simp_all
   ·exact ⟨E,o,Y,cs,ty2,p,(setRow_other w b E new f).trans k2,W,k4,R⟩
  | dead=>trivial
  | _=>exact y.elim

theorem Rel.setRow (r:Rel B w0 g h w) {i q k:Nat} {t t':TI} {es es':List (List AV)} (hi:g.τ[i]?=some t) (hn:t.n < t'.n) (hf:t.row=true) (X:t'.row=true)
  (hq:g.σ[q]?=some none) (m:h.blks[q]?=some (.row i k es)) (L:RowOk (g.setT i t') w i k es')
  (J:∀b l e,t'.loc=some (b,l,e)->LocOk g.Φ B w b l e)
  (hd:∀b x,t'.loc=some (b,x)->(∃y,t.loc=some (b,y)) \/ ((∀(j:Nat) (u:TI) (y:Nat×Nat),g.τ[j]?=some u->u.loc ≠ some (b,y))/\(∀(j c:Nat),g.σ[j]?=some (some c)->b ≠ c)/\g.N b=none/\¬ g.O b)) :
  Rel B w0 (g.setT i t') { h.put q (.row i k es') with toks:=h.toks.set i t'.n } w:=by
 have U:i < g.τ.length:=(uc.1 hi).1;have M:=Gh.le_setT hi hn (X.trans hf.symm);have key:∀(j:Nat) (u:TI),(g.setT i t').τ[j]?=some u->(j=i/\u=t') \/ (j ≠ i/\g.τ[j]?=some u):=by
  intro j u e;simp only [Gh.setT] at e
  grind
 have hql:q < h.blks.length:=(uc.1 m).1;have d:∀(j:Nat) (b:Blk),(h.blks.set q (.row i k es'))[j]?=some b->(j=q/\b=.row i k es') \/ (j ≠ q/\h.blks[j]?=some b):=by
  grind
 refine ⟨r.below,r.bsz,r.phi,by simp [AH.put,Gh.setT,r.slen],λZ c b E I=>?_,by simp [Gh.setT,r.tlen],λj u a=>?_,r.sinj,λj P u u' b x y T s F Y=>?_,λj c P u b x E a F=>?_,r.dfr,
  λj b T I=>?_,λj1 j2 t1 k1 k2 e1 e2 V A=>?_,λb x m=>?_,r.ob,λb m=>?_⟩
 rotate_right
 rotate_right
 ·exact (r.nb b x m).mono λ_ _ v=>⟨rfl,⟨v.1,v.2.1,λj u y a K=>by
    rcases key j u a with ⟨rfl,rfl⟩ | ⟨_,a⟩
    ·rcases hd b y K with ⟨z,p⟩ | ⟨_,_,S,_⟩
     ·exact v.2.2 _ _ z hi p
     ·have m:g.N b=some x:=m
      simp_all
    ·exact v.2.2 j u y a K⟩,λh=>h⟩
 ·have v:=r.oa b m;refine ⟨v.1,v.2.1,λj u y a K=>?_⟩;rcases key j u a with ⟨rfl,rfl⟩ | ⟨_,a⟩
  ·rcases hd b y K with ⟨z,p⟩ | ⟨_,_,_,S⟩
   ·exact v.2.2 _ _ z hi p
   ·exact S m
  ·exact v.2.2 j u y a K
 ·have E:g.σ[Z]?=some (some c):=E;rcases d Z b I with ⟨rfl,rfl⟩ | ⟨o,I⟩
  ·simp_all
  ·obtain ⟨Q,G,S,h4⟩:=r.blk Z c b E I;exact ⟨Q,G,S.mono M rfl,h4⟩
 ·rcases key j u a with ⟨rfl,rfl⟩ | ⟨T,a⟩
  ·exact ⟨uE (by rw [<- r.tlen];exact U),J⟩
  ·obtain ⟨Q,G⟩:=r.tok j u a;exact ⟨by grind,G⟩
 ·rcases key j u T with ⟨rfl,rfl⟩ | ⟨o,A⟩ <;> rcases key P u' s with ⟨rfl,rfl⟩ | ⟨hne',s⟩
  ·rfl
  ·rcases hd b x F with ⟨z,p⟩ | ⟨Q,_⟩
   ·exact r.tinj _ _ _ _ b z y hi s p Y
   ·grind
  ·rcases hd b y Y with ⟨z,p⟩ | ⟨Q,_⟩
   ·exact r.tinj _ _ _ _ b x z A hi F p
   ·grind
  ·exact r.tinj _ _ _ _ b x y A s F Y
 ·rcases key P u a with ⟨rfl,rfl⟩ | ⟨o,a⟩
  ·rcases hd b x F with ⟨z,p⟩ | ⟨_,G,_⟩
   ·exact r.sep j c _ t b z E hi p
   ·exact G j c E
  ·exact r.sep j c P u b x E a F
 ·rcases d j b I with ⟨rfl,rfl⟩ | ⟨o,f⟩
  ·exact L
  ·have R:=r.row j b T f;cases b with
   | row i2 k2 e2 =>
    have R:RowOk g w i2 k2 e2:=R;have W:i2 ≠ i:=by rintro rfl;exact o (r.rinj _ _ _ _ _ _ _ f m)
    exact R.mono M (by simp only [Gh.setT];exact u7 (λe=>W e.symm)) (λ_ _ _ _ _ _=>⟨rfl,λ_=>rfl⟩)
   | dead=>trivial
   | _=>exact R.elim
 ·rcases d j1 _ V with ⟨rfl,D⟩ | ⟨hne1,H⟩ <;> rcases d j2 _ A with ⟨rfl,C⟩ | ⟨hne2,f⟩
  ·rfl
  ·injection D with D _ _;subst D;exact r.rinj _ _ _ _ _ _ _ m f
  ·injection C with C _ _;subst C;exact r.rinj _ _ _ _ _ _ _ H m
  ·exact r.rinj _ _ _ _ _ _ _ H f

theorem Rel.rowAt (r:Rel B w0 g h w) {id q k:Nat} {es:List (List AV)} (b:h.blk id=some (.row q k es)):g.σ[id]?=some none/\RowOk g w q k es:=by
 have d:id < g.σ.length:=by rw [r.slen];exact (uc.1 b).1
 rcases a:g.σ[id] with _ | c
 ·have a:g.σ[id]?=some none:=by rw [ue d,a]
  exact ⟨a,r.row _ _ a b⟩
 ·exact (r.blk id c _ (by simp_all) b).2.2.1.elim

theorem Rel.storeRow (r:Rel B w0 g h w) {q i k:Nat} {es es':List (List AV)} (p:h.blk q=some (.row i k es)) {t:TI} {b o e:Nat} {cur new:Array Value} {ty:TypeId} (hi:g.τ[i]?=some t)
  (P:t.loc=some (b,o+es.length * k,e)) (J:w.heap[b]?=some (.cells cur ty (0,0))) (hsz:new.size=cur.size) (C:∀j,j < o->new[j]?=cur[j]?) (H:es'.length=es.length)
  (hk:∀e ∈ es',e.length=k) (hp:es'.flatten.all AV.pure=true) (hva:VA g es'.flatten ((new.toList.drop o).take (es.length * k))) (hne:es ≠ []) :
  Rel B w0 g (h.put q (.row i k es')) (w.setRow b new):=by
 obtain ⟨hσ,t2,m,V,T,_,_,hrow⟩:=r.rowAt p;rw [hi] at m;injection m with m;subst m;obtain ⟨F,G,O,cs,ty2,D,k2,k3,k4,k5⟩:∃F G O cs ty2,t.loc=some (F,G+es.length * k,O)/\w.heap[F]?=some (.cells cs ty2 (0,0))/\VA g es.flatten ((cs.toList.drop G).take (es.length * k))/\G+es.length * k<=cs.size/\∀j,G<=j->g.Φ F j=none:=by
  simp_all
 rw [P] at D;injection D with D;injection D with e1 D;injection D with D _;obtain rfl:o=G:=by omega
 subst e1;rw [J] at k2;injection k2 with k2;injection k2 with k2 _ _;subst k2;have lo:=(r.tok i t hi).2 b _ e P;have n:(w.setRow b new).heap[b]?=some (.cells new ty (0,0)):=setRow_heap w b cur new ty (0,0) J;have hql:q < h.blks.length:=(uc.1 p).1;have f:∀(j:Nat) (x:Blk),(h.blks.set q (.row i k es'))[j]?=some x->(j=q/\x=.row i k es') \/ (j ≠ q/\h.blks[j]?=some x):=by
  grind
 have I:∀(u c:Nat),g.σ[u]?=some (some c)->c ≠ b:=λu c h'=>(r.sep u c i t b _ h' hi P).symm;refine ⟨⟨r.below.os,r.below.tape,r.below.output,by simp [r.below.size],λx y=>(setRow_other w b x new (by have:=lo.lo;omega)).trans (r.below.block x y)⟩,by simp [r.bsz],λd j v e'=>?_,
  by simp [AH.put,r.slen],λu c x M z=>?_,r.tlen,λu t' U=>?_,r.sinj,r.tinj,r.sep,λx y=>⟨(r.dfr x y).1,(setRow_other w b x new (by rintro rfl;have:=(r.dfr x y).2.1;rw [J] at this;cases this)).trans (r.dfr x y).2.1,(r.dfr x y).2.2⟩,
  λj x W y=>?_,λj1 j2 t1 x1 x2 e1 O X hj2=>?_,
  λd x p=>(r.nb d x p).mono λ_ _ ha=>⟨setRow_other w b d new (by rintro rfl;exact ha.2.2 i t _ hi P),ha,λh=>h⟩,λd p=>⟨by simpa using (r.ob d p).1,(r.ob d p).2⟩,r.oa⟩
 ·by_cases hb':d=b
  ·subst hb';have W:j < o:=by
    grind
   have:=r.phi d j v e';rw [cell_of_row w d j cur ty (0,0) J] at this;rw [cell_of_row _ d j new ty (0,0) n,C j W];omega
  ·exact (World.cell?_of_block (w:=w) (a:=⟨d,j,none⟩) (setRow_other w b d new hb')).trans (r.phi d j v e')
 ·rcases f u x z with ⟨rfl,rfl⟩ | ⟨_,z⟩
  ·simp_all
  ·obtain ⟨Z,h2,h3,h4⟩:=r.blk u c x M z;exact ⟨Z,by simp_all,h3.mono (Gh.le.refl g) (setRow_other w b c new (I u c M)),h4⟩
 ·obtain ⟨Z,h2⟩:=r.tok u t' U;refine ⟨Z,λd l' S hl'=>?_⟩;have s:=h2 d l' S hl';by_cases hb':d=b
  ·subst hb';obtain ⟨cs,ty',l,hle⟩:=s.cells;rw [J] at l;injection l with l;injection l with l _ _;subst l;exact ⟨s.lo,by grind,⟨new,ty,n,by omega⟩,s.free⟩
  ·exact s.mono (by simp) (setRow_other w b d new hb') λ_ _=>rfl
 ·rcases f j x y with ⟨rfl,rfl⟩ | ⟨K,N⟩
  ·exact ⟨t,hi,V,T.trans H.symm,hk,hp,.inr ⟨b,o,e,new,ty,by simp_all,n,by simp_all,by simp_all,k5⟩⟩
  ·have R:=r.row j x W N;cases x with
   | row i2 k2 O =>
    have R:RowOk g w i2 k2 O:=R;refine R.mono (Gh.le.refl g) rfl λt2 F x2 m _ Y=>⟨setRow_other w b F new ?_,λ_=>rfl⟩
    rintro rfl
    have:=r.tinj _ _ _ _ F _ _ m hi Y P;subst this;exact K (r.rinj _ _ _ _ _ _ _ N p)
   | dead=>trivial
   | _=>exact R.elim
 ·rcases f j1 _ X with ⟨rfl,A⟩ | ⟨hne1,Q⟩ <;> rcases f j2 _ hj2 with ⟨rfl,E⟩ | ⟨hne2,L⟩
  ·rfl
  ·injection A with A _ _;subst A;exact r.rinj _ _ _ _ _ _ _ p L
  ·injection E with E _ _;subst E;exact r.rinj _ _ _ _ _ _ _ Q p
  ·exact r.rinj _ _ _ _ _ _ _ Q L
theorem Rel.scribble (r:Rel B w0 g h w) {b s:Nat} (I:g.N b=some (.gar s)) {cur new:Array Value} {ty:TypeId}
  (f:w.heap[b]?=some (.cells cur ty (0,0))) (O:new.size=cur.size):Rel B w0 g h (w.setRow b new):=by
 obtain ⟨U,⟨n,had,E⟩,⟨P,J,p,K⟩,m⟩:=r.nb b _ I;have l:(w.setRow b new).heap[b]?=some (.cells new ty (0,0)):=setRow_heap w b cur new ty (0,0) f;refine ⟨⟨r.below.os,r.below.tape,r.below.output,by simp [r.below.size],λk i=>(setRow_other w b k new (by omega)).trans (r.below.block k i)⟩,by simp [r.bsz],λd j v A=>?_,
  r.slen,λG c k y i=>?_,r.tlen,λG t' C=>?_,r.sinj,r.tinj,r.sep,λx F=>⟨(r.dfr x F).1,(setRow_other w b x new (by grind)).trans (r.dfr x F).2.1,(r.dfr x F).2.2⟩,λq k L i=>?_,r.rinj,λd x e=>?_,λd e=>⟨by simpa using (r.ob d e).1,(r.ob d e).2⟩,r.oa⟩
 ·have o:d ≠ b:=by rintro rfl;rw [m] at A;cases A
  exact (World.cell?_of_block (w:=w) (a:=⟨d,j,none⟩) (setRow_other w b d new o)).trans (r.phi d j v A)
 ·obtain ⟨z,H,R,M⟩:=r.blk G c k y i;exact ⟨z,by simp_all,R.mono (Gh.le.refl g) (setRow_other w b c new (by grind)),M⟩
 ·obtain ⟨z,H⟩:=r.tok G t' C;exact ⟨z,λd T u D=>(H d T u D).mono (by simp) (setRow_other w b d new (by grind)) λ_ _=>rfl⟩
 ·exact (r.row q k L i).mono (Gh.le.refl g) (λ_ _ h _=>h) (λV t Q x W _ X=>⟨setRow_other w b Q new (by grind),λ_=>rfl⟩)
 ·by_cases hbb:d=b
  ·subst hbb;rw [I] at e;injection e with e;subst e;rw [p] at f;injection f with f;injection f with f _ _;subst f;exact ⟨U,⟨n,had,E⟩,⟨new,ty,l,by omega⟩,m⟩
  ·exact (r.nb d x e).mono λ_ _ S=>⟨setRow_other w b d new hbb,S,λh=>h⟩
def Gh.addN (g:Gh) (b:Nat) (x:BK):Gh:={ g with N:=λc=>if c=b then some x else g.N c }
theorem Gh.le_addN {g:Gh} {b:Nat} (x:BK) (h:g.N b=none):g.le (g.addN b x) :=
 ⟨λ_ _ _ e=>e,λ_ _ e=>e,λ_ t e=>⟨t,e,uh _,λ_=>rfl,rfl⟩,λ_ h=>h,λc y e=>by
  simp only [Gh.addN];by_cases hc:c=b
  ·subst hc;rw [h] at e;cases e
  ·simp [hc,e],λ_ h=>h⟩
theorem Rel.mark (r:Rel B w0 g h w) {b:Nat} {cs:Array Value} {ty:TypeId} (m:g.N b=none) (t:B<=b) (l:w.heap[b]?=some (.cells cs ty (0,0))) (j:Apart g b) (q:¬ g.O b):Rel B w0 (g.addN b (.new cs.size)) h w :=
 ⟨r.below,r.bsz,r.phi,r.slen,λi c k l f=>by obtain ⟨p,n,s,o⟩:=r.blk i c k l f;exact ⟨p,n,s.mono (Gh.le_addN _ m) rfl,o⟩,r.tlen,r.tok,r.sinj,r.tinj,r.sep,r.dfr,
   λi k hi f=>(r.row i k hi f).mono (Gh.le_addN _ m) (λ_ _ h _=>h) (λ_ _ _ _ _ _ _=>⟨rfl,λ_=>rfl⟩),r.rinj,λd x a=>by
     simp only [Gh.addN] at a;by_cases hbb:d=b
     · subst hbb;simp only [ur,ui] at a;subst a;exact ⟨t,j,cs,ty,l,rfl⟩
     · simp only [hbb,uH] at a;exact (r.nb d x a).mono λ_ _ j=>⟨rfl,j,λh=>h⟩,λd a=>by
     have e:d ≠ b:=by rintro rfl;exact q a
     have:=r.ob d a;simp only [Gh.addN,e,uH];exact this,r.oa⟩
end
end Go.Vv
namespace Go.Vv
open Go Go.RowKit Go.Lib
variable {t u ty e:TypeId} {du:TypeDesc} {i:TypeInfo}
section
variable {g:Gh}
theorem VC.toVA {b:Nat}:∀{o:Nat} {a5:List AV},VC g b o a5->∃vs:List Value,VA g a5 vs/\a5.all AV.pure=true/\∀j u,vs[j]?=some u->g.Φ b (o+j)=some u
 | _,[],_=>⟨[],by rfl,rfl,by simp⟩
 | o,a::r,h=>by
  simp only [VC] at h;obtain ⟨⟨v,h0,c,k⟩,l⟩:=h;obtain ⟨vs,d,f,k2⟩:=VC.toVA l;refine ⟨v::vs,by simp only [VA];exact ⟨v,vs,rfl,⟨AV.one_of_pure c,k⟩,d⟩,by simp [c,f],λj u m=>?_⟩
  grind
theorem VC.ofVA {b:Nat}:∀{o:Nat} {a5:List AV} {vs:List Value},VA g a5 vs->a5.all AV.pure=true->(∀j u,vs[j]?=some u->g.Φ b (o+j)=some u)->VC g b o a5
 | _,[],_,_,_,_=>by simp only [VC]
 | o,a::r,vs,h,hp,k=>by
  simp only [VA] at h;obtain ⟨v,s,rfl,⟨h0,d⟩,c⟩:=h;simp only [tI,ud] at hp;simp only [VC];refine ⟨⟨v,by simpa using k 0 v rfl,hp.1,d⟩,VC.ofVA (o:=o+1) c hp.2 λj u f=>?_⟩;rw [show o+1+j=o+(j+1) by omega]
  simp_all
theorem VE_iff {b k:Nat}:∀{o:Nat} {es:List (List AV)},VE g b k o es ↔ (∀e ∈ es,e.length=k)/\VC g b o es.flatten
 | o,[]=>by simp [VE,VC]
 | o,e::r=>by
  simp only [VE,VE_iff (es:=r),te,uQ,forall_eq_or_imp];constructor
  ·rintro ⟨⟨a,f⟩,d,c⟩
   exact ⟨⟨a,d⟩,VC.append f (by simp_all)⟩
  ·rintro ⟨⟨a,d⟩,c⟩
   refine ⟨⟨a,?_⟩,d,?_⟩
   ·have:=VC.take e.length c;rwa [pj] at this
   ·have:=VC.drop e.length c;rwa [rj,a] at this
theorem VA.one':∀{a5:List AV} {vs:List Value},VA g a5 vs->∀u ∈ vs,u.oneCell'=true
 | [],_,h,u,c=>by simp only [VA] at h;subst h;cases c
 | a::r,_,h,u,c=>by
  simp only [VA] at h;obtain ⟨v,s,rfl,⟨h0,b⟩,d⟩:=h;rcases uQ.1 c with rfl | c
  ·cases a <;> simp only [V] at b <;> first
    | exact b
    | (subst b;rfl)
    | (obtain ⟨rfl,_⟩:=b;rfl)
    | (obtain ⟨_,_,rfl⟩:=b;rfl)
    | (obtain ⟨_,_,rfl,_⟩:=b;rfl)
    | (obtain ⟨_,_,_,rfl,_⟩:=b;rfl)
    | (obtain ⟨_,rfl,_⟩:=b;rfl)
    | (obtain ⟨_,_,_,rfl,_⟩:=b;rfl)
    | (simp [AV.one] at h0;done)
  ·exact VA.one' d u c
theorem VA.length {a5:List AV} {vs:List Value} (h:VA g a5 vs):a5.length=vs.length:=h.toVL.length
theorem yJ {k:Nat}:∀{es:List (List AV)},(∀e ∈ es,e.length=k)->es.flatten.length=es.length * k
 | [],_=>by simp
 | e::r,h=>by
  simp only [te,uo,uu];rw [yJ (es:=r) (λx a=>h x (by simp [a])),h e (by simp),sC];omega
end
section
variable {P:Program} {w:World}
structure News (P:Program) (size m:Nat) (x:Value) (news:List Value) (w:World):Prop where
 len:(Builtin.lenOf x).run P w=.ok m w
 cells:(Builtin.firstCells size m x).run P w=.ok news.toArray w

theorem News.slice {size m c:Nat} {b:Addr} {a:List Value} (d:a.length=m * size) (h:∀j v,a[j]?=some v->w.cell? (b.add j)=some v):News P size m (.slice (some b) m c) a w :=
 ⟨rfl,run_firstCells_some w size m b m c a d h⟩
theorem News.str {size:Nat} {s:ByteArray}:News P size s.size (.string s) (strCells s) w:=⟨rfl,run_firstCells_string w size s⟩

def NotInt (d:TypeDesc):Prop:=d=.string \/ ∃e,d=.slice e

theorem run_append_in (r:P.underlying t=some (.slice e)) (v:P.underlying u=some du) (k:NotInt du) (hi:P.info? e=some i)
  {b o n m c:Nat} {x:Value} {a:List Value} (q:News P i.size m x a w) (s:∀u ∈ a,u.oneCell'=true) {cur:Array Value} {l:TypeId} (y:w.heap[b]?=some (.cells cur l (0,0)))
  (d:n+m<=c) (p:o+n * i.size+a.length<=cur.size) :
  (Builtin.append_ #[t,u] ty #[.slice (some ⟨b,o,none⟩) n c,x]).run P w =
   .ok (.slice (some ⟨b,o,none⟩) (n+m) c) (w.setRow b (cur.toList.take (o+n * i.size)++a++cur.toList.drop (o+n * i.size+a.length)).toArray):=by
 have f:=run_storeCells_at P b (o+n * i.size) l a 0 cur w y (by omega) s;simp only [tS] at f;have j:(⟨b,o,none⟩:Addr).add (n * i.size)=⟨b,o+n * i.size,none⟩:=by unfold Addr.add;split <;> simp_all
 rcases k with rfl | ⟨_,rfl⟩ <;> simp [Builtin.append_,run_underlying r,run_underlying v,sizeOf,typeInfo,hi,q.len,d,q.cells,j,f]

theorem qC {z:Value} (q:P.underlying t=some (.slice e)) (y:P.underlying u=some du) (l:NotInt du) (hi:P.info? e=some i) (s:i.zero=some z)
  {n m c:Nat} {a:Option Addr} {x:Value} {d b:List Value} (C:News P i.size m x b w) (k:News P i.size m x b w.drew) (v:(Builtin.firstCells i.size n (.slice a n c)).run P w.drew=.ok d.toArray w.drew)
  (f:c < n+m) (j:n+m<=maxLen) (o:Builtin.nextslicecap (n+m) c * i.bytes<=281474976710656) :
  (Builtin.append_ #[t,u] ty #[.slice a n c,x]).run P w =
   .ok (.slice (some ⟨w.heap.size,0,none⟩) (n+m) (grownCap w (n+m) c e))
    (w.drew.alloc (.cells (d.toArray++b.toArray++Builtin.zeroCells z.cells (grownCap w (n+m) c e - (n+m))) e)):=by
 have r:¬ (n+m<=c):=by omega
 have p:¬ (9223372036854775807 < ((n:Int)+(m:Int))):=by simp only [maxLen] at j;omega
 have A:¬ (281474976710656 < Builtin.nextslicecap (n+m) c * i.bytes):=by omega
 rcases l with rfl | ⟨_,rfl⟩ <;> simp [Builtin.append_,run_underlying q,run_underlying y,sizeOf,typeInfo,zeroValue,hi,s,C.len,r,p,A,v,k.cells,newRow,grownCap,Question.forced] <;> (congr 2;apply pk;simp [uB])
end
section
variable {P:Program} {w:World} {g:Gh} {h:AH} {B:Nat} {w0:World}

theorem append_row (r:Rel B w0 g h w) {t u ty e:TypeId} {du:TypeDesc} {i:TypeInfo} {z:Value} (ht:P.underlying t=some (.slice e)) (hu:P.underlying u=some du) (hdu:NotInt du) (hi:P.info? e=some i) (hz:i.zero=some z)
  (hzs:z.cells.size=i.size) (hby:i.bytes<=65536) {id q n:Nat} {es:List (List AV)} {sv x:Value} (hs:V g (.rsl id q i.size n) sv) {ys:List (List AV)} {news:List Value} (hl:∀e ∈ ys,e.length=i.size) (hva:VA g ys.flatten news) (hpu:ys.flatten.all AV.pure=true)
  (hn:∀W:World,(∀a v,w.cell? a=some v->W.cell? a=some v)->News P i.size ys.length x news W) (hb:h.blk id=some (.row q i.size es)) (hesn:es.length=n) (htok:h.toks[q]?=some n) (hlim:n+ys.length<=lim) (hy:ys.length ≠ 0) :
  ∃v w' g',(Builtin.append_ #[t,u] ty #[sv,x]).run P w=.ok v w'/\g.le g'/\Rel B w0 g' { h.put id (.row q i.size (es++ys)) with toks:=h.toks.set q (n+ys.length) } w'/\V g' (.rsl id q i.size (n+ys.length)) v:=by
 have hn0:=hn w λ_ _ h=>h;subst hesn;unfold lim at hlim;obtain ⟨hσ,ti,hti,htr,htn,hlen,hpe,hrow⟩:=r.rowAt hb;simp only [V] at hs;obtain ⟨a,c,rfl,hc1,hc2,t2,ht2,hrd,hle,hcap⟩:=hs;obtain rfl:ti=t2:=by simp_all
 have hcap:(es.length=0/\c=0) \/ ∃b o,a=some ⟨b,o,none⟩/\ti.loc=some (b,o+es.length * i.size,o+c * i.size):=hcap.imp (λh=>h) λ⟨b,o,h1,h2⟩=>⟨b,o,h1,h2 htn.symm⟩
 have hnl:news.length=ys.length * i.size:=by rw [<- hva.length,yJ hl]
 have hfl:es.flatten.length=es.length * i.size:=yJ hlen
 -- the row's cells
 obtain ⟨olds,hov,hold⟩:∃olds:List Value,VA g es.flatten olds/\(Builtin.firstCells i.size es.length (.slice a es.length c)).run P w.drew=.ok olds.toArray w.drew:=by
  rcases hrow with rfl | ⟨b,o,e2,cs,ty2,k1,k2,k3,k4,k5⟩
  ·refine ⟨[],by rfl,?_⟩;cases a with
   | none=>simp [Builtin.firstCells]
   | some ad=>simp [Builtin.firstCells,loadCells,loadCellsFrom]
  ·rcases hcap with ⟨h0,_⟩ | ⟨b',o',rfl,hl'⟩
   ·have:es=[]:=uF h0;subst this;refine ⟨[],by rfl,?_⟩;cases a with
    | none=>simp [Builtin.firstCells]
    | some ad=>simp [Builtin.firstCells,loadCells,loadCellsFrom]
   ·rw [k1] at hl';injection hl' with hl';injection hl' with e1 e2';injection e2' with e2' e3;obtain rfl:o=o':=by omega
    subst e1;refine ⟨_,k3,run_firstCells_some w.drew i.size es.length ⟨b,o,none⟩ es.length c _ (by grind) λj v hv=>?_⟩;rw [World.cell?_drew];have hadd:(⟨b,o,none⟩:Addr).add j=⟨b,o+j,none⟩:=by unfold Addr.add;split <;> simp_all
    rw [hadd,cell_of_row w b (o+j) cs ty2 (0,0) k2]
    grind
 have hol:olds.length=es.length * i.size:=by rw [<- hov.length,hfl]
 by_cases hroom:es.length+ys.length<=c
 ·-- in place
  rcases hcap with ⟨h0,h1⟩ | ⟨b,o,rfl,hlb⟩
  ·omega
  ·obtain ⟨_,hloc⟩:=r.tok _ _ hti;have lo:=hloc b _ _ hlb;obtain ⟨cur,ty',hcur,hce⟩:=lo.cells;have hmul:es.length * i.size+news.length<=c * i.size:=by rw [hnl,<- tu];exact tg _ hroom
   have hrun:=run_append_in (ty:=ty) ht hu hdu hi hn0 hva.one' hcur hroom (o:=o) (by omega);have hold2:VA g es.flatten ((cur.toList.drop o).take (es.length * i.size))/\∀j,o<=j->g.Φ b j=none:=by
    rcases hrow with rfl | ⟨b2,o2,e2,cs,ty2,k1,k2,k3,k4,k5⟩
    ·exact ⟨by simp [VA],λj hj=>lo.free j (by simp_all)⟩
    ·simp_all
   generalize hnew:(cur.toList.take (o+es.length * i.size)++news++cur.toList.drop (o+es.length * i.size+news.length)).toArray=new at hrun;have hfit:o+es.length * i.size+news.length<=cur.size:=by omega
   have hnsz:new.size=cur.size:=by grind
   have hlow:∀j,j < o+es.length * i.size->new[j]?=cur[j]?:=λj hj=>by
    grind
   have r1:=r.setSpare hti hlb hcur hnsz hlow;have hheap:=setRow_heap w b cur new ty' (0,0) hcur;have hcont:(new.toList.drop o).take ((es.length+ys.length) * i.size)=(cur.toList.drop o).take (es.length * i.size)++news:=by
    rw [<- hnew];simp only [uB];rw [sD (by simp;omega),pm,uy,tu,<- hnl];rw [tX,uM (by simp;omega)];congr 1;rw [u2 (by simp;omega),uM (by simp;omega)]
   let T:TI:=⟨es.length+ys.length,some (b,o+(es.length+ys.length) * i.size,o+c * i.size),true⟩
   have hle2:g.le (g.setT q T):=Gh.le_setT (t':=T) hti (by grind) htr.symm;have hT:(g.setT q T).τ[q]?=some T:=uE (uc.1 hti).1;have r2:=r1.setRow (t':=T) (q:=id) hti (by grind) htr rfl hσ hb (es':=es++ys)
    ⟨T,hT,rfl,by simp [T],λe he=>(uD.1 he).elim (hlen e) (hl e),by grind,
     .inr ⟨b,o,o+c * i.size,new,ty',by simp [T],hheap,by rw [uo,hcont,sn];exact (hold2.1.append hva).mono hle2,by rw [uo,tu];omega,hold2.2⟩⟩
    (λb' l e hl'=>by
     injection hl' with hl';injection hl' with e1 e2;injection e2 with e2 e3;subst e1 e2 e3;exact ⟨lo.lo,by grind,⟨new,ty',hheap,by omega⟩,λj hj=>lo.free j (by grind)⟩)
    (λb' x hx=>by grind)
   refine ⟨_,_,_,hrun,hle2,r2,?_⟩;simp only [V];exact ⟨some ⟨b,o,none⟩,c,rfl,hroom,hc2,T,hT,rfl,uh _,.inr ⟨b,o,rfl,λ_=>rfl⟩⟩
 ·-- a new row
  have hroom':c < es.length+ys.length:=by omega
  have hrun:=qC (ty:=ty) ht hu hdu hi hz hn0 (hn w.drew λ_ _ h=>h) hold hroom' (by simp only [maxLen];omega)
   (growslice_fits hroom' (by have:=sL hlim hby;omega))
  have hge:=grownCap_ge w (es.length+ys.length) c e;have hcm:grownCap w (es.length+ys.length) c e<=maxLen:=grownCap_le_maxLen w _ c e (by simp only [maxLen];omega);generalize hC:grownCap w (es.length+ys.length) c e=C at hrun hge hcm;generalize hrow':olds.toArray++news.toArray++Builtin.zeroCells z.cells (C - (es.length+ys.length))=row at hrun;have hrsz:row.size=C * i.size:=by
   rw [<- hrow'];simp only [rg,rh,size_zeroCells,hzs,hol,hnl,<- tu]
   simp_all
  have hcont:(row.toList.drop 0).take ((es.length+ys.length) * i.size)=olds++news:=by
   rw [<- hrow',sf,tK,tK];rw [u2 (by grind)];rw [uM (by grind)]
  have hΦn:∀j,g.Φ w.heap.size j=none:=λj=>by
   rcases he:g.Φ w.heap.size j with _ | v
   ·rfl
   ·exact absurd (r.phi_lt he) (tW _)
  have r1:=(r.drew).alloc0 (.cells row e);have hheap:(w.drew.alloc (.cells row e)).heap[w.heap.size]?=some (.cells row e (0,0)):=heap_alloc_new w.drew _;have hloc:LocOk g.Φ B (w.drew.alloc (.cells row e)) w.heap.size ((es.length+ys.length) * i.size) (C * i.size) :=
   ⟨r.bsz,by simp,⟨row,e,hheap,by omega⟩,λj _=>hΦn j⟩
  have hsig:∀(j cc:Nat),g.σ[j]?=some (some cc)->w.heap.size ≠ cc:=λj cc hj e=>by
   have hi':j < h.blks.length:=by rw [<- r.slen];exact (uc.1 hj).1
   have:=(r.blk j cc _ hj (ue hi')).2.1;omega
  have htau:∀(j:Nat) (tt:TI) (y:Nat×Nat),g.τ[j]?=some tt->tt.loc ≠ some (w.heap.size,y):=λj tt y hj e=>by
   have:=((r.tok j tt hj).2 _ _ _ e).lt;omega
  let T:TI:=⟨es.length+ys.length,some (w.heap.size,(es.length+ys.length) * i.size,C * i.size),true⟩
  have hle2:g.le (g.setT q T):=Gh.le_setT (t':=T) hti (by grind) htr.symm;have hT:(g.setT q T).τ[q]?=some T:=uE (uc.1 hti).1;have r2:=r1.setRow (t':=T) (q:=id) hti (by grind) htr rfl hσ hb (es':=es++ys)
   ⟨T,hT,rfl,by simp [T],λe he=>(uD.1 he).elim (hlen e) (hl e),by grind,
    .inr ⟨w.heap.size,0,C * i.size,row,e,by simp [T],hheap,by rw [uo,hcont,sn];exact (hov.append hva).mono hle2,by rw [uo,hrsz];simpa using tg i.size hge,λj _=>hΦn j⟩⟩
   (λb' l e' hl'=>by grind)
   (λb' x hx=>by injection hx with hx;injection hx with e1 _;subst e1;exact .inr ⟨htau,hsig,r.nnew (uh _),r.nold (uh _)⟩)
  refine ⟨_,_,_,hrun,hle2,r2,?_⟩;simp only [V];exact ⟨some ⟨w.heap.size,0,none⟩,C,rfl,hge,hcm,T,hT,rfl,uh _,.inr ⟨w.heap.size,0,rfl,λ_=>by simp [T]⟩⟩

theorem append_sound (r:Rel B w0 g h w) {t u ty e:TypeId} {du:TypeDesc} {i:TypeInfo} {z:Value} (ht:P.underlying t=some (.slice e)) (hu:P.underlying u=some du) (U:NotInt du) (hi:P.info? e=some i) (hz:i.zero=some z)
  (hzs:z.cells.size=i.size) (hby:i.bytes<=65536) {s s':AV} {sv x:Value} (hs:V g s sv) {G:List (List AV)} {k:List Value} (hl:∀e ∈ G,e.length=i.size) (hva:VA g G.flatten k) (hpu:G.flatten.all AV.pure=true)
  (hn:∀W:World,(∀a v,w.cell? a=some v->W.cell? a=some v)->News P i.size G.length x k W) {h':AH} (H:aAppend h i.size s G=some (s',h')) :
  ∃v w' g',(Builtin.append_ #[t,u] ty #[sv,x]).run P w=.ok v w'/\g.le g'/\Rel B w0 g' h' w'/\V g' s' v:=by
 have hn0:=hn w λ_ _ h=>h;unfold aAppend at H;split at H
 ·rename_i q k' es;simp only [V] at hs;obtain ⟨a,c,rfl,hc1,hc2,hes,hq⟩:=hs;have hnl:k.length=G.length * i.size:=by rw [<- hva.length,yJ hl]
  split at H
  ·-- nothing to append
   rename_i R;have hne:k=[]:=uF (by rw [hnl,R];simp);subst hne;have I:=hn0.len;have J:=hn0.cells;rw [R] at I J;have A:(Builtin.append_ #[t,u] ty #[.slice a es.length c,x]).run P w=.ok (.slice a es.length c) w:=by
    cases a with
    | none=>rcases U with rfl | ⟨_,rfl⟩ <;> simp [Builtin.append_,run_underlying ht,run_underlying hu,sizeOf,typeInfo,hi,I,J] <;> omega
    | some ad=>rcases U with rfl | ⟨_,rfl⟩ <;> simp [Builtin.append_,run_underlying ht,run_underlying hu,sizeOf,typeInfo,hi,I,J,storeCells] <;> omega
   cases q with
   | none =>
    injection H with H;injection H with D p;subst D p;simp only at hq;refine ⟨.slice a es.length c,w,g.addT ⟨es.length,none,false⟩,A,g.le_addT _,r.addTok ⟨es.length,none,false⟩ (λ_ _ _ h=>by cases h) (λ_ _ h=>by cases h),?_⟩;simp only [V];refine ⟨a,c,rfl,hc1,hc2,hes.imp id λ⟨b,o,e,hh⟩=>⟨b,o,e,hh.mono (g.le_addT _) _ _ _ _⟩,⟨es.length,none,false⟩,?_,rfl,uh _,λ_=>.inl hq⟩;simp only [Gh.addT];rw [<- r.tlen,um (uh _)];simp
   | some id =>
    injection H with H;injection H with D p;subst D p;exact ⟨.slice a es.length c,w,g,A,Gh.le.refl g,r,by simp only [V];exact ⟨a,c,rfl,hc1,hc2,hes,hq⟩⟩
  ·rename_i R;split at H
   ·rename_i hk;obtain ⟨rfl,hlim⟩:=hk;unfold lim at hlim;split at H
    ·rename_i id h2 d;injection H with H;injection H with D p;subst D p
     -- the two ways
     by_cases hroom:es.length+G.length<=c
     ·-- in place: there is a token
      unfold AH.grow at d;split at d
      ·simp only at hq;omega
      ·rename_i id';split at d
       ·rename_i Q;injection d with d;injection d with D p;subst D p;simp only at hq;obtain ⟨ti,E,hrf,hle,hcap⟩:=hq;obtain ⟨htn,Y⟩:=r.tok _ _ E;have hnn:es.length=ti.n:=by rw [Q] at htn;injection htn
        rcases hcap hnn with hcc | ⟨b,o,rfl,hlb⟩
        ·omega
        ·have lo:=Y b _ _ hlb;obtain ⟨cur,ty',hcur,hce⟩:=lo.cells;have hmul:es.length * i.size+k.length<=c * i.size:=by rw [hnl,<- tu];exact tg _ hroom
         have A:=run_append_in (ty:=ty) ht hu U hi hn0 hva.one' hcur hroom (o:=o) (by omega);have S:VE g b i.size o es:=by
          rcases hes with rfl | ⟨b',o',D,hh⟩
          ·simp only [VE]
          ·injection D with D;injection D with D p;subst D p;exact hh
         generalize hnew:(cur.toList.take (o+es.length * i.size)++k++cur.toList.drop (o+es.length * i.size+k.length)).toArray=new at A;have hfit:o+es.length * i.size+k.length<=cur.size:=by omega
         have hnsz:new.size=cur.size:=by rw [<- hnew];simp;omega
         have hlow:∀j,j < o+es.length * i.size->new[j]?=cur[j]?:=λj m=>by
          rw [<- hnew,sM,uB,un (by simp;omega),uw,uv m,uK]
         have hmid:∀j v,k[j]?=some v->new[o+es.length * i.size+j]?=some v:=λj v L=>by
          have m:j < k.length:=(uc.1 L).1;rw [<- hnew,sM,uB,um (by simp;omega),un (by simp;omega)];rw [<- L];congr 1;simp;omega
         have r1:=r.setSpare E hlb hcur hnsz hlow;have K:=setRow_heap w b cur new ty' (0,0) hcur
         -- the token
         have r2:=r1.setTok (t':=⟨es.length+G.length,some (b,o+(es.length+G.length) * i.size,o+c * i.size),false⟩) E (by show ti.n < es.length+G.length;omega) hrf rfl
          (λb' l e F=>by
           injection F with F;injection F with D p;injection p with p e3;subst D p e3;exact ⟨lo.lo,by simpa using lo.lt,⟨new,ty',K,by omega⟩,λj m=>lo.free j (by rw [tu] at m;omega)⟩)
          (λb' x hx=>by injection hx with hx;injection hx with D _;subst D;exact .inl ⟨_,hlb⟩)
         -- the promise
         have r3:=r2.vow (b:=b) (f:=λj=>if o+es.length * i.size<=j/\j < o+(es.length+G.length) * i.size then new[j]? else none)
          (λj v L=>by
           split at L
           ·rw [cell_of_row _ b j new ty' (0,0) K];exact L
           ·cases L)
          (λj cc hcj _=>(r.sep j cc _ ti b _ hcj E hlb).symm)
          (λj tt l e m O=>by
           by_cases hjid:j=id'
           ·subst hjid;simp only [Gh.setT] at m;rw [uE (uc.1 E).1] at m;injection m with m;subst m;injection O with O;injection O with D p;injection p with p e3;subst p e3;exact ⟨rfl,λjj hjj=>by grind⟩
           ·simp only [Gh.setT] at m;rw [u7 (λe=>hjid e.symm)] at m;exact absurd (r.tinj _ _ _ _ b _ _ m E O hlb) hjid)
          (r.ntok E hlb)
         have hle2:=Gh.le_setT (t':=⟨es.length+G.length,some (b,o+(es.length+G.length) * i.size,o+c * i.size),false⟩) E (by show ti.n < es.length+G.length;omega) hrf.symm;have N:=hle2.trans (Gh.le_vow (g.setT id' ⟨es.length+G.length,some (b,o+(es.length+G.length) * i.size,o+c * i.size),false⟩) b
          (λj=>if o+es.length * i.size<=j/\j < o+(es.length+G.length) * i.size then new[j]? else none))
         refine ⟨_,_,_,A,N,r3,?_⟩;simp only [V];refine ⟨some ⟨b,o,none⟩,c,by simp,by simpa using hroom,hc2,.inr ⟨b,o,rfl,?_⟩,_,uE (uc.1 E).1,rfl,by simp,λ_=>.inr ⟨b,o,rfl,by simp⟩⟩;refine VE.append (S.mono N _ _ _ _) (VE_iff.2 ⟨hl,VC.ofVA (hva.mono N _ _) hpu λj v L=>?_⟩);have m:j < k.length:=(uc.1 L).1;simp only [Gh.vow,Gh.setT,ur];rw [lo.free _ (by omega),uv ⟨by omega,by rw [tu];omega⟩];exact hmid j v L
       ·cases d
     ·-- a new row
      have X:c < es.length+G.length:=by omega
      have hfl:es.flatten.length=es.length * i.size:=by
       rcases hes with rfl | ⟨b,o,_,S⟩
       ·simp
       ·exact yJ (VE_iff.1 S).1
      obtain ⟨M,⟨hov,hopu⟩,hold⟩:∃M:List Value,(VA g es.flatten M/\es.flatten.all AV.pure=true)/\(Builtin.firstCells i.size es.length (.slice a es.length c)).run P w.drew=.ok M.toArray w.drew:=by
       rcases hes with rfl | ⟨b,o,rfl,S⟩
       ·refine ⟨[],⟨by simp only [rS,VA],rfl⟩,?_⟩;cases a with
        | none=>simp [Builtin.firstCells]
        | some ad=>simp [Builtin.firstCells,loadCells,loadCellsFrom]
       ·obtain ⟨us,hus,hup,hΦ⟩:=VC.toVA (VE_iff.1 S).2;refine ⟨us,⟨hus,hup⟩,run_firstCells_some w.drew i.size es.length ⟨b,o,none⟩ es.length c us (by rw [<- hus.length,hfl]) λj v L=>?_⟩;rw [World.cell?_drew];have hadd:(⟨b,o,none⟩:Addr).add j=⟨b,o+j,none⟩:=by unfold Addr.add;split <;> simp_all
        rw [hadd];exact r.phi _ _ _ (hΦ j v L)
      have hol:M.length=es.length * i.size:=by rw [<- hov.length,hfl]
      have A:=qC (ty:=ty) ht hu U hi hz hn0 (hn w.drew λ_ _ h=>h) hold X (by simp only [maxLen];omega)
       (growslice_fits X (by have:=sL hlim hby;omega))
      have hge:=grownCap_ge w (es.length+G.length) c e;have hcm:grownCap w (es.length+G.length) c e<=maxLen:=grownCap_le_maxLen w _ c e (by simp only [maxLen];omega);generalize hC:grownCap w (es.length+G.length) c e=C at A hge hcm;generalize hrow:M.toArray++k.toArray++Builtin.zeroCells z.cells (C - (es.length+G.length))=row at A;have hrsz:row.size=C * i.size:=by
       rw [<- hrow];simp only [rg,rh,size_zeroCells,hzs,hol,hnl,<- tu];congr 1;omega
      have hrl:∀j v,(M++k)[j]?=some v->row[j]?=some v:=λj v L=>by
       rw [<- hrow,<- uK];simp only [tK];rw [un (by simpa using (uc.1 L).1)];exact L
      have hbl:∀j v,g.Φ w.heap.size j=some v->False:=λj v L=>absurd (r.phi_lt L) (tW _);have hΦn:∀j,g.Φ w.heap.size j=none:=λj=>by
       rcases he:g.Φ w.heap.size j with _ | v
       ·rfl
       ·exact (hbl j v he).elim
      have r1:=(r.drew).alloc0 (.cells row e);have K:(w.drew.alloc (.cells row e)).heap[w.heap.size]?=some (.cells row e (0,0)):=heap_alloc_new w.drew _;have Y:LocOk g.Φ B (w.drew.alloc (.cells row e)) w.heap.size ((es.length+G.length) * i.size) (C * i.size) :=
       ⟨r.bsz,by simp,⟨row,e,K,by omega⟩,λj _=>hΦn j⟩
      have hsig:∀(j cc:Nat),g.σ[j]?=some (some cc)->w.heap.size ≠ cc:=λj cc m e=>by
       have hi':j < h.blks.length:=by rw [<- r.slen];exact (uc.1 m).1
       have:=(r.blk j cc _ m (ue hi')).2.1;omega
      have Z:∀(j:Nat) (tt:TI) (y:Nat×Nat),g.τ[j]?=some tt->tt.loc ≠ some (w.heap.size,y):=λj tt y m e=>by
       have:=((r.tok j tt m).2 _ _ _ e).lt;omega
      let T:TI:=⟨es.length+G.length,some (w.heap.size,(es.length+G.length) * i.size,C * i.size),false⟩
      have Q:∃g2,g.le g2/\Rel B w0 g2 h2 (w.drew.alloc (.cells row e))/\g2.τ[id]?=some T/\g2.Φ=g.Φ/\(∀(j:Nat) (tt:TI) (l e':Nat),g2.τ[j]?=some tt->tt.loc=some (w.heap.size,l,e')->tt=T)/\g2.σ=g.σ:=by
       unfold AH.grow at d;split at d
       ·injection d with d;injection d with D p;subst D p;refine ⟨g.addT T,g.le_addT T,r1.addTok T (λb l e' F=>?_) (λb x hx=>?_),?_,rfl,λj tt l e' m F=>?_,rfl⟩
        ·injection F with F;injection F with D p;injection p with p e3;subst D p e3;exact Y
        ·injection hx with hx;injection hx with D _;subst D;exact ⟨Z,hsig,r.nnew (uh _),r.nold (uh _)⟩
        ·simp only [Gh.addT];rw [<- r.tlen,um (uh _)];simp
        ·simp only [Gh.addT] at m;rcases sB j g.τ.length with hjl | hjl
         ·rw [un hjl] at m;exact absurd F (Z _ _ _ m)
         ·rw [um hjl] at m;have:=uW m;simpa using this
       ·rename_i id';split at d
        ·rename_i Q;injection d with d;injection d with D p;subst D p;simp only at hq;obtain ⟨ti,E,hrf,hle,_⟩:=hq;have hti':=E;obtain ⟨htn,_⟩:=r.tok _ _ E;have hnn:es.length=ti.n:=by rw [Q] at htn;injection htn
         refine ⟨g.setT id' T,Gh.le_setT (t':=T) E (by show ti.n < es.length+G.length;omega) hrf.symm,r1.setTok E (by show ti.n < es.length+G.length;omega) hrf rfl (λb l e' F=>?_) (λb x hx=>?_),?_,rfl,λj tt l e' m F=>?_,rfl⟩
         ·injection F with F;injection F with D p;injection p with p e3;subst D p e3;exact Y
         ·injection hx with hx;injection hx with D _;subst D;exact .inr ⟨Z,hsig,r.nnew (uh _),r.nold (uh _)⟩
         ·exact uE (uc.1 E).1
         ·simp only [Gh.setT] at m;by_cases hjid:j=id'
          ·subst hjid;rw [uE (uc.1 E).1] at m;injection m with m;exact m.symm
          ·rw [u7 (λe=>hjid e.symm)] at m;exact absurd F (Z _ _ _ m)
        ·cases d
      obtain ⟨g2,hg2,r2,hT,hΦ2,hT2,hσ2⟩:=Q;have r3:=r2.vow (b:=w.heap.size) (f:=λj=>if j < (es.length+G.length) * i.size then row[j]? else none)
       (λj v L=>by
        split at L
        ·rw [cell_of_row _ _ j row e (0,0) K];exact L
        ·cases L)
       (λj cc hcj _ e=>hsig j cc (by rw [<- hσ2];exact hcj) e.symm)
       (λj tt l e' m O=>by
        have:=hT2 j tt l e' m O;subst this;injection O with O;injection O with _ p;injection p with p _;subst p;exact ⟨rfl,λjj hjj=>by grind⟩)
       (r2.ntok hT rfl)
      have N:=hg2.trans (g2.le_vow w.heap.size λj=>if j < (es.length+G.length) * i.size then row[j]? else none);refine ⟨_,_,_,A,N,r3,?_⟩;simp only [V];refine ⟨some ⟨w.heap.size,0,none⟩,C,by simp,by simpa using hge,hcm,.inr ⟨w.heap.size,0,rfl,?_⟩,T,hT,rfl,by simp [T],λ_=>.inr ⟨w.heap.size,0,rfl,by simp [T]⟩⟩;refine VE_iff.2 ⟨?_,?_⟩
      ·intro e he;rcases uD.1 he with he | he
       ·rcases hes with rfl | ⟨b,o,_,S⟩
        ·cases he
        ·exact (VE_iff.1 S).1 e he
       ·exact hl e he
      ·rw [sn];refine VC.ofVA (VA.mono N _ _ (hov.append hva)) (by rw [pO,hopu,hpu];rfl) λj v L=>?_;have m:j < (M++k).length:=(uc.1 L).1;simp only [Gh.vow,ur,hΦ2,hΦn,tA];rw [uv (by rw [tu];simp at m;omega)];exact hrl j v L
    ·cases H
   ·cases H
 ·rename_i id q k' n;split at H
  ·rename_i R;injection H with H;injection H with D p;subst D p;have hs':=hs;simp only [V] at hs;obtain ⟨a,c,rfl,hc1,hc2,hq⟩:=hs;have hnl:k.length=G.length * i.size:=by rw [<- hva.length,yJ hl]
   have hne:k=[]:=uF (by rw [hnl,R];simp);subst hne;have I:=hn0.len;have J:=hn0.cells;rw [R] at I J;have A:(Builtin.append_ #[t,u] ty #[.slice a n c,x]).run P w=.ok (.slice a n c) w:=by
    cases a with
    | none=>rcases U with rfl | ⟨_,rfl⟩ <;> simp [Builtin.append_,run_underlying ht,run_underlying hu,sizeOf,typeInfo,hi,I,J] <;> omega
    | some ad=>rcases U with rfl | ⟨_,rfl⟩ <;> simp [Builtin.append_,run_underlying ht,run_underlying hu,sizeOf,typeInfo,hi,I,J,storeCells] <;> omega
   exact ⟨_,w,g,A,Gh.le.refl g,r,hs'⟩
  ·rename_i R;split at H
   ·rename_i t' k'' es hb;split at H
    ·rename_i hc;obtain ⟨⟨rfl,rfl,rfl⟩,h1,h2,h3⟩:=hc;injection H with H;injection H with D p;subst D p;exact append_row r ht hu U hi hz hzs hby hs hl hva hpu hn hb h1 h2 h3 R
    ·cases H
   ·cases H
 ·cases H
theorem append_new (r:Rel B w0 g h w) {t u ty e:TypeId} {du:TypeDesc} {i:TypeInfo} {z:Value} (X:P.underlying t=some (.slice e)) (hu:P.underlying u=some du) (K:NotInt du) (hi:P.info? e=some i) (hz:i.zero=some z)
  (hzs:z.cells.size=i.size) (hby:i.bytes<=65536) {sv x:Value} (hs:V g (.osl none i.size []) sv) {m:List (List AV)} {d:List Value} (T:∀e ∈ m,e.length=i.size) (R:VA g m.flatten d) (hpu:m.flatten.all AV.pure=true)
  (hn:∀W:World,(∀a v,w.cell? a=some v->W.cell? a=some v)->News P i.size m.length x d W) (F:m.length<=lim) :
  ∃v w' g',(Builtin.append_ #[t,u] ty #[sv,x]).run P w=.ok v w'/\g.le g'/\Rel B w0 g' h w'/\V g' (.nsl i.size m) v:=by
 have L:=hn w λ_ _ h=>h;simp only [V] at hs;obtain ⟨a,c,rfl,hc1,hc2,_,O⟩:=hs;simp only [uV] at O;subst O;have hnl:d.length=m.length * i.size:=by rw [<- R.length,yJ T]
 by_cases hy0:m.length=0
 ·have U:d=[]:=uF (by simp_all);have hye:m=[]:=uF hy0;subst U;have p:=L.len;have q:=L.cells;rw [hy0] at p q;have k:(Builtin.append_ #[t,u] ty #[.slice a ([]:List (List AV)).length 0,x]).run P w=.ok (.slice a 0 0) w:=by
   cases a with
   | none=>rcases K with rfl | ⟨_,rfl⟩ <;> simp [Builtin.append_,run_underlying X,run_underlying hu,sizeOf,typeInfo,hi,p,q]
   | some ad=>rcases K with rfl | ⟨_,rfl⟩ <;> simp [Builtin.append_,run_underlying X,run_underlying hu,sizeOf,typeInfo,hi,p,q,storeCells]
  refine ⟨_,w,g,k,Gh.le.refl g,r,?_⟩;subst hye;simp only [V]
  grind
 ·have n:0 < ([]:List (List AV)).length+m.length:=by simp;omega
  have Q:(Builtin.firstCells i.size ([]:List (List AV)).length (.slice a ([]:List (List AV)).length 0)).run P w.drew=.ok ([]:List Value).toArray w.drew:=by
   cases a with
   | none=>simp [Builtin.firstCells]
   | some ad=>simp [Builtin.firstCells,loadCells,loadCellsFrom]
  unfold lim at F;have k:=qC (ty:=ty) X hu K hi hz L (hn w.drew λ_ _ h=>h) Q n (by simp only [maxLen,uV];omega)
   (growslice_fits n (by have:=sL F hby;simp only [uV,tA];omega))
  have H:=grownCap_ge w (([]:List (List AV)).length+m.length) 0 e;have I:grownCap w (([]:List (List AV)).length+m.length) 0 e<=maxLen:=grownCap_le_maxLen w _ 0 e (by simp only [maxLen,uV];omega);generalize hC:grownCap w (([]:List (List AV)).length+m.length) 0 e=C at k H I;simp only [uV,tA] at H I k;generalize hrow:([]:List Value).toArray++d.toArray++Builtin.zeroCells z.cells (C - m.length)=row at k;have hrsz:row.size=C * i.size:=by
   rw [<- hrow];simp only [rg,rh,size_zeroCells,hzs,hnl,uV,tA,<- tu]
   simp_all
  have hrl:∀j v,d[j]?=some v->row[j]?=some v:=λj v G=>by
   rw [<- hrow,<- uK];simp only [tK,uR];rw [un (by simpa using (uc.1 G).1)];exact G
  have S:∀j,g.Φ w.heap.size j=none:=λj=>by
   rcases he:g.Φ w.heap.size j with _ | v
   ·rfl
   ·exact absurd (r.phi_lt he) (tW _)
  have r1:=(r.drew).alloc0 (.cells row e);have o:(w.drew.alloc (.cells row e)).heap[w.heap.size]?=some (.cells row e (0,0)):=heap_alloc_new w.drew _;have hN:g.N w.heap.size=none:=r.nnew (uh _);have E:∀(j M:Nat),g.σ[j]?=some (some M)->w.heap.size ≠ M:=λj M s e=>by
   have Z:j < h.blks.length:=by rw [<- r.slen];exact (uc.1 s).1
   have:=(r.blk j M _ s (ue Z)).2.1;omega
  have A:∀(j:Nat) (J:TI) (y:Nat×Nat),g.τ[j]?=some J->J.loc ≠ some (w.heap.size,y):=λj J y s e=>by
   have:=((r.tok j J s).2 _ _ _ e).lt;omega
  have r3:=r1.vow (b:=w.heap.size) (f:=λj=>if j < m.length * i.size then row[j]? else none)
   (λj v G=>by
    split at G
    ·rw [cell_of_row _ _ j row e (0,0) o];exact G
    ·cases G)
   (λj M Y _ e=>E j M Y e.symm)
   (λj J l e' s hlj=>absurd hlj (A _ _ _ s)) hN
  have r4:=r3.mark (b:=w.heap.size) (r.nnew (uh _)) r.bsz o ⟨λj s=>E j _ s rfl,λhc=>tW _ (r.dfr_lt hc),λj J y s T=>A j J y s T⟩ (r.nold (uh _));have D:=(g.le_vow w.heap.size λj=>if j < m.length * i.size then row[j]? else none).trans (Gh.le_addN (.new row.size) (r.nnew (uh _)));refine ⟨_,_,_,k,D,r4,?_⟩;simp only [V];refine ⟨some ⟨w.heap.size,0,none⟩,C,rfl,H,I,.inr ⟨w.heap.size,0,rfl,VE_iff.2 ⟨T,?_⟩,row.size,by simp [Gh.addN]⟩⟩;refine VC.ofVA (VA.mono D _ _ R) hpu λj v G=>?_;have s:j < d.length:=(uc.1 G).1;simp only [Gh.addN,Gh.vow,ur,S,tA]
  simp_all
end
end Go.Vv
namespace Go.Vv
open Go Go.RowKit
variable {t u e:TypeId} {i:TypeInfo} {d:TypeDesc} {v:Value} {off:Nat}

theorem x6 (b o i:Nat):(⟨b,o,none⟩:Addr).add i=⟨b,o+i,none⟩:=by unfold Addr.add;split <;> simp_all

section
variable {P:Program} {w:World} {g:Gh} {h:AH} {B:Nat} {w0:World}

theorem ym {t:TypeId} {d:TypeDesc} (h:P.underlying t=some d):(underlying t).run P w=.ok d w:=run_underlying h w
theorem run_ti (h:P.info? t=some i):(typeInfo t).run P w=.ok i w:=by simp [typeInfo,h]
theorem xB (h:P.info? t=some i):(sizeOf t).run P w=.ok i.size w:=by simp [sizeOf,run_ti h]
theorem run_agg (h:P.underlying t=some d):(isAgg t).run P w=.ok (yp d) w:=by
 simp only [isAgg,Sem.run_bind,ym h,Result.andThen_ok];cases d <;> rfl
theorem run_zero {z:Value} (h:P.info? t=some i) (a:i.zero=some z):(zeroValue t).run P w=.ok z w:=by
 simp [zeroValue,run_ti h,a]

theorem loadCells_at (b o:Nat) (us:List Value) (h:∀j u,us[j]?=some u->w.cell? ⟨b,o+j,none⟩=some u):(loadCells ⟨b,o,none⟩ us.length).run P w=.ok us.toArray w :=
 run_loadCells_list w ⟨b,o,none⟩ us λj u a=>by rw [x6];exact h j u a

theorem V.ofUndef:V g aundef undef:=by simp only [aundef,V];exact ⟨#[],rfl,by simp [VL]⟩

theorem V.cv1 {v:Value} (h:okc1 v=true):V g (cv1 v) v:=by
 unfold okc1 at h;split at h <;> simp only [Vv.cv1,V] <;> first | trivial | skip
 ·simp_all
theorem cv1_one (h:okc1 v=true):(Vv.cv1 v).one=true:=by
 unfold okc1 at h;split at h <;> first | rfl | cases h
theorem VA.cvs:∀{vs:List Value},vs.all okc1=true->VA g (vs.map Vv.cv1) vs
 | [],_=>by rfl
 | v::r,h=>by
  simp only [tI,ud] at h;simp only [uz,VA];exact ⟨v,r,rfl,⟨cv1_one h.1,V.cv1 h.1⟩,VA.cvs h.2⟩
theorem V.cv {v:Value} (h:okc v=true):V g (cv v) v:=by
 unfold okc at h;split at h
 ·rename_i cs;simp only [Vv.cv,V];exact ⟨cs,rfl,VA.cvs h⟩
 ·rename_i vs;have:vs=#[]:=by simpa using h
  subst this;exact V.ofUndef
 ·rename_i a b;cases v <;> first | exact V.cv1 h | exact absurd rfl (a _) | exact absurd rfl (b _)

theorem V.cells1 {a:AV} (h0:a.one=true) (b:V g a v):v.cells.toList=[v]:=by
 cases a <;> simp only [V] at b <;> first
  | (subst b;rfl)
  | (obtain ⟨rfl,_⟩:=b;rfl)
  | (obtain ⟨_,_,rfl⟩:=b;rfl)
  | (obtain ⟨_,_,rfl,_⟩:=b;rfl)
  | (obtain ⟨_,_,_,rfl,_⟩:=b;rfl)
  | (obtain ⟨_,rfl,_⟩:=b;rfl)
  | (simp [AV.one] at h0;done)
  | (cases v <;> first | rfl | cases b)
theorem cells?_cases {a:AV} {cs:List AV} (b:a.cells?=some cs):(a=.agg cs) \/ (a.one=true/\cs=[a]):=by
 cases a <;> simp only [AV.cells?,ui,reduceCtorEq] at b <;> first
  | (subst b;exact .inl rfl)
  | (subst b;exact .inr ⟨rfl,rfl⟩)
theorem V.cells {a:AV} {v:Value} {cs:List AV} (h:V g a v) (c:a.cells?=some cs):VA g cs v.cells.toList:=by
 rcases cells?_cases c with rfl | ⟨h0,rfl⟩
 ·simp only [V] at h;obtain ⟨vs,rfl,b⟩:=h;exact b
 ·rw [V.cells1 h0 h];simp only [VA]
  simp_all

theorem V.tyfix {t:TypeId} {a:AV} {v:Value} (h:V g a v):V g (tyfix P t a) v:=by
 unfold Vv.tyfix;split
 ·split
  ·simp only [V] at h ⊢
   simp_all
  ·exact h
 ·exact h

theorem V.ev {env:List AV} {a:Act} (b:VL g env a.tmps.toList) {x:Operand} (c:yr x=true):V g (ev env x) (a.eval x):=by
 cases x with
 | tmp t =>
  simp only [Vv.ev,Act.eval];rcases ht:env[t]? with _ | k
  ·have l:env.length<=t:=by simpa using ht
   have j:a.tmps.getD t undef=undef:=by
    have:=b.length
    simp_all
   rw [j,uA,ht];exact V.ofUndef
  ·obtain ⟨v,m,o⟩:=b.get t k ht
   simp_all
 | const v=>exact V.cv c
 | global n=>simp only [Vv.ev,Act.eval,V]
 | func f=>simp only [Vv.ev,Act.eval,V,VL];exact ⟨#[],#[],rfl,rfl,rfl⟩

theorem qs:∀{a5 bs:List AV} {vs:List Value},VA g a5 vs->xy a5=some bs->VA g bs vs
 | [],bs,vs,h,hc=>by simp only [xy,ui] at hc;subst hc;exact h
 | a::r,bs,vs,h,hc=>by
  simp only [xy] at hc;split at hc
  ·rename_i a' k b f;cases hc;simp only [VA] at h ⊢;obtain ⟨v,s,rfl,⟨h0,j⟩,c⟩:=h;refine ⟨v,s,rfl,?_,qs c f⟩;unfold aClean at b;split at b
   ·cases b;refine ⟨rfl,?_⟩;simp only [V] at j ⊢
    grind
   ·cases b
   ·simp_all
  ·cases hc
theorem clean_pure:∀{a5 bs:List AV},xy a5=some bs->bs.all AV.pure=true
 | [],bs,h=>by simp only [xy,ui] at h;subst h;rfl
 | a::r,bs,h=>by
  simp only [xy] at h;split at h
  ·rename_i a' j b c;cases h;have f:a'.pure=true:=by
    unfold aClean at b;split at b
    ·cases b;rfl
    ·cases b
    ·grind
   simp [f,clean_pure c]
  ·cases h
theorem rows_flat {k:Nat}:∀(n:Nat) (cs:List AV),cs.length=n * k->(rows k n cs).flatten=cs/\(rows k n cs).length=n/\∀e ∈ rows k n cs,e.length=k
 | 0,cs,h=>by simp at h;subst h;simp [rows]
 | n+1,cs,h=>by
  rw [sC] at h;obtain ⟨c,b,f⟩:=rows_flat (k:=k) n (cs.drop k) (by simp;omega);refine ⟨by simp [rows,c],by simp [rows,b],λe a=>?_⟩;simp only [rows,uQ] at a
  grind
theorem qt:∀{a5 bs:List AV},xy a5=some bs->bs.length=a5.length
 | [],bs,h=>by simp only [xy,ui] at h;rw [<- h]
 | a::r,bs,h=>by
  simp only [xy] at h;split at h
  ·rename_i a' c _ b;cases h;simp [qt b]
  ·cases h

theorem load_sound (r:Rel B w0 g h w) {t:TypeId} {d:TypeDesc} {i:TypeInfo} (hd:P.underlying t=some d) (hi:P.info? t=some i) {p v:AV} {pv:Value} (F:V g p pv)
  (f:qZ h (yp d) i.size p=some v):∃u,(Instr.loadAt t pv).run P w=.ok u w/\V g v u:=by
 have l:∀(b o:Nat) (cs:List AV) (us:List Value),VA g cs us->(∀j u,us[j]?=some u->w.cell? ⟨b,o+j,none⟩=some u) ->
   (if yp d then (if i.size<=cs.length then some (AV.agg (cs.take i.size)) else none) else cs[0]?)=some v ->
   ∃u,(Instr.loadAt t (.pointer (some ⟨b,o,none⟩))).run P w=.ok u w/\V g v u:=by
  intro b o cs us S D f;cases E:yp d with
  | true =>
   simp only [E,ur] at f;split at f
   ·rename_i Q;cases f;have z:(us.take i.size).length=i.size:=by rw [th,<- S.length];omega
    have J:=loadCells_at (P:=P) (w:=w) b o (us.take i.size) λj u s=>by
     grind
    rw [z] at J;refine ⟨.agg (us.take i.size).toArray,?_,?_⟩
    ·simp [Instr.loadAt,Instr.sureAddr,loadVar,run_agg hd,E,xB hi,J]
    ·simp only [V];exact ⟨_,rfl,VA.take _ S⟩
   ·cases f
  | false =>
   simp only [E,uk,uH] at f;obtain ⟨u,s,U⟩:=S.toVL.get 0 v f;refine ⟨u,?_,U⟩;have:=D 0 u s;rw [tS] at this;simp [Instr.loadAt,Instr.sureAddr,loadVar,run_agg hd,E,run_load,this]
 unfold qZ at f;split at f
 ·rename_i id off;simp only [V] at F;obtain ⟨c,D,rfl⟩:=F;split at f
  ·rename_i cs G;obtain ⟨h1,h2,⟨vs,ty,n,A⟩,h4⟩:=r.blk id c _ D G;refine l c off (cs.drop off) (vs.toList.drop off) (VA.drop off A) (λj u s=>?_) ?_
   ·rw [uG] at s;rw [cell_of_row w c (off+j) vs ty (0,0) n,<- uK];exact s
   ·grind
  ·rename_i T x G;split at f
   ·rename_i X;obtain ⟨E,rfl⟩:=X;cases f;obtain ⟨h1,h2,⟨a,u,n,_,H,U⟩,h4⟩:=r.blk id c _ D G;refine l c 1 [v] [u] (by simp only [VA];exact ⟨u,[],rfl,⟨H,U⟩,rfl⟩) (λj y Y=>?_) (by rw [E];rfl);rw [cell_of_row w c (1+j) #[a,u] T (0,0) n];cases j with
    | zero=>simpa using Y
    | succ j=>simp at Y
   ·cases f
  ·cases f
 ·rename_i cs;simp only [V] at F;obtain ⟨b,o,rfl,R⟩:=F;obtain ⟨us,A,_,W⟩:=R.toVA;exact l b o cs us A (λj u s=>r.phi _ _ _ (W j u s)) f
 ·rename_i id q k m p;simp only [V] at F;obtain ⟨b,o,rfl,t2,ht2,hrd,Q,O⟩:=F;split at f
  ·rename_i q' k' es G;split at f
   ·rename_i D;obtain ⟨rfl,rfl,rfl⟩:=D;obtain ⟨_,ti,hti,Z,N,z,hpe,K⟩:=r.rowAt G;obtain rfl:ti=t2:=by simp_all
    obtain ⟨M,e',rfl,I⟩:=O N.symm;have L:(if yp d then (if i.size<=(es.flatten.drop p).length then some (AV.agg ((es.flatten.drop p).take i.size)) else none) else (es.flatten.drop p)[0]?)=some v:=by
     grind
    rcases K with rfl | ⟨b2,o2,e2,cs,ty2,C,k2,k3,k4,k5⟩
    ·exact l b (M+p) _ [] (by simp [VA]) (λj u s=>by simp at s) L
    ·rw [I] at C;injection C with C;injection C with e1 C;injection C with C _;obtain rfl:M=o2:=by omega
     subst e1;refine l b (M+p) _ _ (VA.drop p k3) (λj u s=>?_) L;rw [uG,uw] at s;split at s
     ·rw [uG,uK] at s;rw [cell_of_row w b (M+p+j) cs ty2 (0,0) k2,<- s];congr 1;omega
     ·cases s
   ·cases f
  ·cases f
 ·cases f

theorem splice_VA {cs vs:List AV} {us xs:List Value} (h:VA g cs us) (k:VA g vs xs):VA g (yX cs off vs) (us.take off++xs++us.drop (off+xs.length)):=by
 unfold yX;rw [k.length];exact ((VA.take off h).append k).append (VA.drop _ h)

theorem store_sound (r:Rel B w0 g h w) {t:TypeId} {i:TypeInfo} (hi:P.info? t=some i) {p v:AV} {pv u:Value} (J:V g p pv) (hv:V g v u) {h':AH}
  (hs:aStore h i.size p v=some h'):∃w',(Instr.storeAt t pv u).run P w=.ok () w'/\Rel B w0 g h' w':=by
 unfold aStore at hs;split at hs
 ·rename_i id off vs C;split at hs
  ·rename_i cs E;split at hs
   ·rename_i D;cases hs;simp only [V] at J;obtain ⟨c,S,rfl⟩:=J;obtain ⟨h1,h2,⟨xs,ty,f,U⟩,h4⟩:=r.blk id c _ S E;have l:=hv.cells C;have z:u.cells.size=i.size:=by rw [<- D.1,l.length];rfl
    have hxl:cs.length=xs.size:=by rw [U.length];rfl
    have n:=run_storeCells_at P c off ty u.cells.toList 0 xs w f (by simp_all) l.one';simp only [tS] at n;refine ⟨w.setRow c (xs.toList.take off++u.cells.toList++xs.toList.drop (off+u.cells.toList.length)).toArray,?_,r.putObj S E (by simp) (setRow_os _ _ _) (setRow_tape _ _ _) (setRow_output _ _ _) (setRow_size _ _ _) (λb K=>setRow_other w c b _ K)
     ⟨_,ty,setRow_heap w c xs _ ty (0,0) f,?_⟩⟩
    ·simp [Instr.storeAt,Instr.sureAddr,storeVar,xB hi,z,n]
    ·have:=splice_VA (off:=off) U l;omega
   ·cases hs
  ·rename_i T x E;split at hs
   ·rename_i y;split at hs
    ·rename_i hc1;obtain ⟨hn1,rfl⟩:=hc1;cases hs;simp only [V] at J;obtain ⟨c,S,rfl⟩:=J;obtain ⟨h1,h2,⟨a,v0,f,N,_,_⟩,h4⟩:=r.blk id c _ S E;have l:=hv.cells C;have z:u.cells.size=i.size:=by rw [hn1];exact l.length.symm
     have n:=run_storeCells_at P c 1 T u.cells.toList 0 #[a,v0] w f (by simp_all) l.one';simp only [tS] at n;simp only [VA] at l;obtain ⟨y1,_,hy,⟨R,hV⟩,rfl⟩:=l;have A:((#[a,v0]:Array Value).toList.take 1++u.cells.toList++(#[a,v0]:Array Value).toList.drop (1+u.cells.toList.length)).toArray=#[a,y1]:=by rw [hy];rfl
     rw [A] at n;refine ⟨w.setRow c #[a,y1],?_,r.putObj S E (by simp) (setRow_os _ _ _) (setRow_tape _ _ _) (setRow_output _ _ _) (setRow_size _ _ _) (λb K=>setRow_other w c b _ K)
      ⟨a,y1,setRow_heap w c _ _ T (0,0) f,N,R,hV⟩⟩
     simp [Instr.storeAt,Instr.sureAddr,storeVar,xB hi,z,n]
    ·cases hs
   ·cases hs
  ·cases hs
 ·rename_i id q k m p vs C;split at hs
  ·rename_i q' k' es E;split at hs
   ·rename_i D;obtain ⟨rfl,rfl,rfl,hvl,hfit⟩:=D;split at hs
    ·rename_i F G;cases hs;simp only [V] at J;obtain ⟨b,o,rfl,t2,ht2,hrd,D,hpt⟩:=J;obtain ⟨_,ti,hti,htr,htn,O,Y,X⟩:=r.rowAt E;obtain rfl:ti=t2:=by simp_all
     obtain ⟨I,e',rfl,H⟩:=hpt htn.symm;have hfl:es.flatten.length=es.length * k':=yJ O;have l:=qs (hv.cells C) G;have W:F.length=i.size:=by rw [qt G,hvl]
     have z:u.cells.size=i.size:=by rw [<- W,l.length];rfl
     by_cases hes:es=[]
     ·subst hes;have hz:i.size=0:=by simp_all
      have Q:u.cells=#[]:=Array.eq_empty_of_size_eq_zero (by omega);refine ⟨w,by simp [Instr.storeAt,Instr.sureAddr,storeVar,xB hi,hz,Q,storeCells],?_⟩;have:rows k' ([]:List (List AV)).length (yX ([]:List (List AV)).flatten p F)=[]:=rfl;rw [this];have e:h.put id (.row q' k' [])=h:=by
       cases h with
       | mk B T =>
        simp only [AH.put,AH.mk.injEq,tQ];refine tc λj=>?_;by_cases hj:j=id
        ·subst hj;rw [uE (uc.1 E).1];exact E.symm
        ·grind
      simp_all
     ·obtain ⟨b2,o2,e2,cs,ty2,M,k2,k3,k4,k5⟩:=X.resolve_left hes;rw [H] at M;injection M with M;injection M with e1 M;injection M with M _;obtain rfl:I=o2:=by omega
      subst e1;have n:=run_storeCells_at P b (I+p) ty2 u.cells.toList 0 cs w k2 (by grind) l.one';simp only [tS] at n;generalize A:(cs.toList.take (I+p)++u.cells.toList++cs.toList.drop (I+p+u.cells.toList.length)).toArray=new at n;have hul:u.cells.toList.length=i.size:=by simp [z]
      have Z:(yX es.flatten p F).length=es.length * k':=by unfold yX;rw [uo,uo,th,sZ,hfl];omega
      obtain ⟨f1,f2,f3⟩:=rows_flat (k:=k') es.length (yX es.flatten p F) Z;refine ⟨w.setRow b new,?_,r.storeRow (e:=e') (cur:=cs) (ty:=ty2) (o:=I) E hti H k2 (by grind) (λj hj=>?_) f2 f3 ?_ ?_ hes⟩
      ·simp [Instr.storeAt,Instr.sureAddr,storeVar,xB hi,z,n]
      ·rw [<- A,sM,uB,un (by simp;omega),uw,uv (by omega),uK]
      ·rw [f1];unfold yX;simp only [pO,ud];exact ⟨⟨all_take _ Y,clean_pure G⟩,all_drop _ Y⟩
      ·rw [f1];have L:(new.toList.drop I).take (es.length * k')=((cs.toList.drop I).take (es.length * k')).take p++u.cells.toList++((cs.toList.drop I).take (es.length * k')).drop (p+u.cells.toList.length):=by
        rw [<- A];apply tc;intro j;have G:cs.toList.length=cs.size:=by simp
        by_cases h1:j < p
        ·rw [uw,uv (by omega),uG,uB,un (by simp;omega),uw,uv (by omega)];rw [uB,un (by simp;omega),uw,uv h1,uw,uv (by omega),uG]
        ·by_cases h2:j < p+i.size
         ·rw [uw,uv (by omega),uG,uB,um (by simp;omega),un (by simp;omega)];rw [uB,um (by simp;omega),un (by simp;omega)];congr 1;simp;omega
         ·by_cases h3:j < es.length * k'
          ·rw [uw,uv h3,uG,um (by simp;omega),uG];rw [um (by simp;omega),uG,uw,uv (by simp;omega),uG];congr 1;simp;omega
          ·rw [uw,uC h3,tJ]
           grind
       rw [L];exact splice_VA (off:=p) k3 l
    ·cases hs
   ·cases hs
  ·cases hs
 ·rename_i m vs C;split at hs
  ·rename_i D;cases hs;simp only [V] at J;obtain ⟨b,o,s,rfl,hn,hos⟩:=J;obtain ⟨_,_,⟨xs,ty,f,hxs⟩,_⟩:=r.nb b _ hn;have l:=hv.cells C;have z:u.cells.size=i.size:=by rw [<- D.1,l.length];rfl
   have n:=run_storeCells_at P b o ty u.cells.toList 0 xs w f (by grind) l.one';simp only [tS] at n;refine ⟨w.setRow b (xs.toList.take o++u.cells.toList++xs.toList.drop (o+u.cells.toList.length)).toArray,?_,r.scribble hn f (by simp;omega)⟩;simp [Instr.storeAt,Instr.sureAddr,storeVar,xB hi,z,n]
  ·cases hs
 ·cases hs

theorem fieldAddr_sound {s:TypeId} {f:Nat} (l:fieldOff P s f=some (off,u)) (hi:P.info? u=some i) (D:i.size ≠ 0) {p v:AV} {pv:Value} (k:V g p pv)
  (j:qg off p=some v):∃x,(Instr.fieldAt s pv f).run P w=.ok x w/\V g v x:=by
 unfold fieldOff at l;split at l
 ·rename_i fs hs;rcases hff:fs[f]? with _ | y
  ·simp [hff] at l
  ·simp [hff] at l;obtain ⟨rfl,rfl⟩:=l;have a:∀b o,(Instr.fieldAt s (.pointer (some ⟨b,o,none⟩)) f).run P w=.ok (.pointer (some ⟨b,o+y.offset,none⟩)) w:=λb o=>by
    simp [Instr.fieldAt,Instr.sureAddr,ym hs,hff,fieldPlace,xB hi,D,x6]
   unfold qg at j;split at j
   ·cases j;simp only [V] at k;obtain ⟨c,H,rfl⟩:=k;exact ⟨_,a _ _,by simp only [V];exact ⟨c,H,rfl⟩⟩
   ·cases j;simp only [V] at k;obtain ⟨b,o,rfl,m⟩:=k;exact ⟨_,a _ _,by simp only [V];exact ⟨b,_,rfl,VC.drop _ m⟩⟩
   ·cases j;simp only [V] at k;obtain ⟨b,q,rfl,t,A,E,r,n⟩:=k;exact ⟨_,a _ _,by
     simp only [V];exact ⟨b,_,rfl,t,A,E,r,λe=>by
      obtain ⟨o,C,rfl,z⟩:=n e;exact ⟨o,C,by omega,z⟩⟩⟩
   ·split at j
    ·cases j;simp only [V] at k;obtain ⟨b,o,s,rfl,F,G⟩:=k;exact ⟨_,a _ _,by simp only [V];exact ⟨b,_,s,rfl,F,by omega⟩⟩
    ·cases j
   ·cases j
 ·cases l

theorem part_sound (hd:P.underlying t=some d) (hi:P.info? t=some i) {off:Nat} {x v:AV} {j:Value} (f:V g x j)
  (a:aPart (yp d) off i.size x=some v):∃cs u,j=.agg cs/\(part t cs off).run P w=.ok u w/\V g v u:=by
 unfold aPart at a;split at a
 ·rename_i cs;simp only [V] at f;obtain ⟨vs,rfl,b⟩:=f;refine ⟨vs,?_⟩;cases hag:yp d with
  | true =>
   simp only [hag,ur,ui] at a;subst a;refine ⟨.agg (vs.extract off (off+i.size)),rfl,by simp [part,run_agg hd,hag,xB hi],?_⟩;simp only [V];refine ⟨_,rfl,?_⟩;have:=VA.take i.size (VA.drop off b)
   simp_all
  | false =>
   simp only [hag,uk,uH] at a;obtain ⟨u,l,k⟩:=b.toVL.get _ _ a;have c:vs[off]?=some u:=by simp_all
   exact ⟨u,rfl,by simp [part,run_agg hd,hag,c],k⟩
 ·cases a

theorem field_sound {s:TypeId} {f:Nat} (a:fieldOff P s f=some (off,u)) (hd:P.underlying u=some d) (hi:P.info? u=some i) {x v:AV} {c:Value} (j:V g x c)
  (k:aPart (yp d) off i.size x=some v):∃y,(Instr.field s c f).run P w=.ok y w/\V g v y:=by
 unfold fieldOff at a;split at a
 ·rename_i fs hs;rcases hff:fs[f]? with _ | m
  ·simp_all
  ·simp [hff] at a;obtain ⟨rfl,rfl⟩:=a;obtain ⟨cs,y,rfl,b,l⟩:=part_sound (w:=w) hd hi j k;exact ⟨y,by simp [Instr.field,ym hs,hff,asAgg,b],l⟩
 ·cases a

theorem indexAddr_slice_sound (J:P.underlying t=some (.slice e)) (hi:P.info? e=some i) {x n v:AV} {S T:Value} (A:V g x S) (r:V g n T)
  (f:qf i.size x n=some v):∃y,(Instr.indexAt t S T).run P w=.ok y w/\V g v y:=by
 have C:∀(k:Nat) (es:List (List AV)) (D:IntKind) (z:Int) (a:Option Addr) (c:Nat),k=i.size->0<=z->(es[z.toNat]?).map AV.fptr=some v->(es=[] \/ ∃b o,a=some ⟨b,o,none⟩/\VE g b k o es) ->
   ∃y,(Instr.indexAt t (.slice a es.length c) (.int D z)).run P w=.ok y w/\V g v y:=by
  intro k es D z a c Y X U Q;rcases he:es[z.toNat]? with _ | e
  ·simp_all
  ·simp only [he,uY,ui] at U;subst U;rcases Q with rfl | ⟨b,o,rfl,K⟩
   ·simp at he
   ·obtain ⟨G,F⟩:=K.get _ _ he;have W:z.toNat < es.length:=(uc.1 he).1;have N:z < (es.length:Int):=by omega
    refine ⟨.pointer (some ⟨b,o+z.toNat * i.size,none⟩),?_,?_⟩
    ·simp [Instr.indexAt,asIntOf,ym J,X,N,xB hi,x6]
    ·simp only [V]
     grind
 unfold qf at f;split at f
 ·rename_i k es D z;split at f
  ·rename_i l;simp only [V] at A r;obtain ⟨a,c,rfl,G,F,E⟩:=A;subst r;exact C k es D z a c l.1 l.2 f E
  ·cases f
 ·rename_i q k es D z;split at f
  ·rename_i l;simp only [V] at A r;obtain ⟨a,c,rfl,G,F,E,Z⟩:=A;subst r;exact C k es D z a c l.1 l.2 f E
  ·cases f
 ·rename_i k es D z;split at f
  ·rename_i l;simp only [V] at A r;obtain ⟨a,c,rfl,G,F,E⟩:=A;subst r;exact C k es D z a c l.1 l.2 f (E.imp id λ⟨b,o,e,hh,_⟩=>⟨b,o,e,hh⟩)
  ·cases f
 ·rename_i k es D z;split at f
  ·rename_i l;simp only [V] at A r;obtain ⟨a,c,rfl,G,F,E⟩:=A;subst r;exact C k es D z a c l.1 l.2 f (E.imp id λ⟨b,o,e,hh,_⟩=>⟨b,o,e,hh⟩)
  ·cases f
 ·rename_i k m D z;split at f
  ·rename_i l;cases f;simp only [V] at A r;obtain ⟨a,c,rfl,G,F,E⟩:=A;subst r;obtain ⟨rfl,M,L⟩:=l;rcases E with E | ⟨b,o,s,rfl,r,hs⟩
   ·omega
   ·refine ⟨.pointer (some ⟨b,o+z.toNat * i.size,none⟩),?_,?_⟩
    ·simp [Instr.indexAt,asIntOf,ym J,M,L,xB hi,x6]
    ·simp only [V];have h5:(z.toNat+1) * i.size<=m * i.size:=tg _ (by omega)
     grind
  ·cases f
 ·rename_i k id off len D z;split at f
  ·rename_i l;cases f;simp only [V] at A r;obtain ⟨c,cap,R,rfl,F,E⟩:=A;subst r;refine ⟨.pointer (some ⟨c,off+z.toNat * i.size,none⟩),?_,by simp only [V];exact ⟨c,R,rfl⟩⟩;simp [Instr.indexAt,asIntOf,ym J,l.2.1,l.2.2,xB hi,x6]
  ·cases f
 ·rename_i id q k m D z;split at f
  ·rename_i l;cases f;simp only [V] at A r;obtain ⟨a,c,rfl,G,F,t,H,O,I,j⟩:=A;subst r;rcases j with ⟨h0,_⟩ | ⟨b,o,rfl,j⟩
   ·omega
   ·refine ⟨.pointer (some ⟨b,o+z.toNat * i.size,none⟩),?_,by simp only [V];exact ⟨b,_,rfl,t,H,O,I,λe=>⟨o,_,rfl,by rw [l.1] at j;exact j e⟩⟩⟩;simp [Instr.indexAt,asIntOf,ym J,l.2.1,l.2.2,xB hi,x6]
  ·cases f
 ·rename_i id q k m p D z;split at f
  ·rename_i l;cases f;simp only [V] at A r;obtain ⟨a,c,rfl,G,t,H,j⟩:=A;subst r;rcases j with h0 | ⟨b,o,rfl,O,I,j⟩
   ·omega
   ·refine ⟨.pointer (some ⟨b,o+z.toNat * i.size,none⟩),?_,by simp only [V];exact ⟨b,_,rfl,t,H,O,I,λe=>by grind⟩⟩;simp [Instr.indexAt,asIntOf,ym J,l.2.1,l.2.2,xB hi,x6]
  ·cases f
 ·cases f

theorem indexAddr_array_sound {len:Nat} (A:P.underlying t=some (.array len e)) (hi:P.info? e=some i) {x n v:AV} {r s:Value} (k:V g x r) (l:V g n s)
  (a:aIndexArr len i.size x n=some v):∃y,(Instr.indexAt t r s).run P w=.ok y w/\V g v y:=by
 have f:∀(b o:Nat) (q:IntKind) (z:Int),0<=z->z < len->(Instr.indexAt t (.pointer (some ⟨b,o,none⟩)) (.int q z)).run P w=.ok (.pointer (some ⟨b,o+z.toNat * i.size,none⟩)) w:=by
  intro b o q z h0 C;simp [Instr.indexAt,Instr.sureAddr,asIntOf,ym A,h0,C,xB hi,x6]
 unfold aIndexArr at a;split at a
 ·split at a
  ·rename_i j;cases a;simp only [V] at k l;obtain ⟨c,p,rfl⟩:=k;subst l;exact ⟨_,f _ _ _ _ j.1 j.2,by simp only [V];exact ⟨c,p,rfl⟩⟩
  ·cases a
 ·split at a
  ·rename_i j;cases a;simp only [V] at k l;obtain ⟨b,o,rfl,m⟩:=k;subst l;exact ⟨_,f _ _ _ _ j.1 j.2,by simp only [V];exact ⟨b,_,rfl,VC.drop _ m⟩⟩
  ·cases a
 ·cases a

theorem index_str_sound (m:P.underlying t=some .string) {x n v:AV} {f j:Value} (k:V g x f) (l:V g n j)
  (a:aIndexStr x n=some v):∃y,(Instr.index t f j).run P w=.ok y w/\V g v y:=by
 unfold aIndexStr at a;split at a
 ·rename_i s r z;split at a
  ·rename_i q;rcases hs:s[z.toNat]? with _ | b
   ·simp_all
   ·simp only [hs,uY,ui] at a;subst a;simp only [V] at k l;obtain ⟨rfl,_⟩:=k;subst l;refine ⟨.int .u8 b.toNat,?_,by simp only [V]⟩;obtain ⟨c,p⟩:=uc.1 hs;have o:(⟨s.toArray⟩:ByteArray)[z.toNat]?=some b:=by
     rw [getElem?_pos _ _ (by simpa [ByteArray.size] using c)];exact congrArg some p
    simp [Instr.index,asIntOf,ym m,q,o]
  ·cases a
 ·cases a

theorem index_agg_sound {len:Nat} (l:P.underlying t=some (.array len e)) (hd:P.underlying e=some d) (hi:P.info? e=some i) {x n v:AV} {c f:Value} (o:V g x c) (j:V g n f)
  (a:aIndexAgg (yp d) len i.size x n=some v):∃y,(Instr.index t c f).run P w=.ok y w/\V g v y:=by
 unfold aIndexAgg at a;split at a
 ·rename_i p z;split at a
  ·rename_i k;simp only [V] at j;subst j;obtain ⟨cs,y,rfl,b,m⟩:=part_sound (w:=w) hd hi o a;exact ⟨y,by simp [Instr.index,asIntOf,ym l,k.1,k.2,xB hi,b],m⟩
  ·cases a
 ·cases a
end
end Go.Vv
