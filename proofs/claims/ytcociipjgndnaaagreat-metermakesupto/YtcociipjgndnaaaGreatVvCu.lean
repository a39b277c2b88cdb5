/- What is told may be written over: kinds of slices are forgotten, or known at the beginning; a cut, behind which what was new may hold anything. -/
import Derived.Test.YtcociipjgndnaaaGreatVvRd
import Derived.Test.YtcociipjgndnaaaGreatVvR1
namespace Go.Vv
open Go Go.RowKit Go.Lib

def leG (p:Gh->Prop) (a b:AV):Prop:=∀g v,p g->V g a v->V g b v
inductive leGR (p:Gh->Prop):List AV->List AV->Prop
 | nil:leGR p [] []
 | cons {a b:AV} {as bs:List AV} (hp:b.pure=true) (h:leG p a b) (t:leGR p as bs):leGR p (a::as) (b::bs)
inductive leGE (p:Gh->Prop):List (List AV)->List (List AV)->Prop
 | nil:leGE p [] []
 | cons {a b:List AV} {as bs:List (List AV)} (h:leGR p a b) (t:leGE p as bs):leGE p (a::as) (b::bs)
def AnyG (_:Gh):Prop:=True
def OldG (g:Gh):Prop:=∀b j v,g.Φ b j=some v->g.O b
section
variable {p:Gh->Prop}
theorem leG.refl {a:AV}:leG p a a:=λ_ _ _ h=>h
theorem leGR.refl:∀{b:List AV},b.all AV.pure=true->leGR p b b
 | [],_=>.nil
 | a::r,h=>by
  simp only [tc,ud] at h;exact .cons h.1 leG.refl (leGR.refl h.2)
theorem leGR.len:∀{a bs:List AV},leGR p a bs->a.length=bs.length
 | _,_,.nil=>rfl
 | _,_,.cons _ _ t=>by simp [t.len]
theorem leGE.len:∀{a bs:List (List AV)},leGE p a bs->a.length=bs.length
 | _,_,.nil=>rfl
 | _,_,.cons _ t=>by simp [t.len]
theorem leGE.map {α:Type} {row a:α->List AV} (h:∀x,leGR p (row x) (a x)):∀L:List α,leGE p (L.map row) (L.map a)
 | []=>.nil
 | x::r=>.cons (h x) (leGE.map h r)
theorem VC.leG {g:Gh} (a:p g) {b:Nat}:∀{o:Nat} {c bs:List AV},leGR p c bs->VC g b o c->VC g b o bs
 | _,_,_,.nil,_=>by simp only [VC]
 | _,_,_,.cons q h t,hv=>by
  simp only [VC] at hv ⊢;obtain ⟨⟨v,f,_,d⟩,e⟩:=hv;exact ⟨⟨v,f,q,h _ _ a d⟩,VC.leG a t e⟩
theorem VE.leG {g:Gh} (a:p g) {b k:Nat}:∀{o:Nat} {c bs:List (List AV)},leGE p c bs->VE g b k o c->VE g b k o bs
 | _,_,_,.nil,_=>by simp only [VE]
 | _,_,_,.cons h t,hv=>by
  simp only [VE] at hv ⊢;obtain ⟨⟨f,d⟩,e⟩:=hv;exact ⟨⟨h.len.symm.trans f,VC.leG a h d⟩,VE.leG a t e⟩
theorem leG.sl {k:Nat} {es es':List (List AV)} (h:leGE p es es'):leG p (.sl k es) (.sl k es'):=λg v i d=>by
 simp only [V] at d ⊢;obtain ⟨a,c,e,l,f,j⟩:=d;refine ⟨a,c,by rw [<- h.len];exact e,by rw [<- h.len];exact l,f,j.imp (λe=>?_) λ⟨b,o,e,hh⟩=>⟨b,o,e,VE.leG i h hh⟩⟩;subst e;cases h;rfl
theorem leG.bsl {k:Nat} {es es':List (List AV)} (h:leGE p es es'):leG p (.bsl k es) (.sl k es'):=λg v i d=>by
 simp only [V] at d ⊢;obtain ⟨a,c,e,l,f,j⟩:=d;refine ⟨a,c,by rw [<- h.len];exact e,by rw [<- h.len];exact l,f,j.imp (λe=>?_) λ⟨b,o,e,hh,_⟩=>⟨b,o,e,VE.leG i h hh⟩⟩;subst e;cases h;rfl
theorem leG.nsl {k:Nat} {es es':List (List AV)} (h:leGE p es es'):leG p (.nsl k es) (.sl k es'):=λg v i d=>by
 simp only [V] at d ⊢;obtain ⟨a,c,e,l,f,j⟩:=d;refine ⟨a,c,by rw [<- h.len];exact e,by rw [<- h.len];exact l,f,j.imp (λe=>?_) λ⟨b,o,e,hh,_⟩=>⟨b,o,e,VE.leG i h hh⟩⟩;subst e;cases h;rfl
theorem leG.old {k:Nat} {es es':List (List AV)} (u:0 < k) (h:leGE OldG es es'):leG OldG (.sl k es) (.bsl k es'):=λg v i f=>by
 simp only [V] at f ⊢;obtain ⟨a,c,e,t,l,s⟩:=f;refine ⟨a,c,by rw [<- h.len];exact e,by rw [<- h.len];exact t,l,?_⟩;rcases s with rfl | ⟨b,o,m,hh⟩
 ·left;cases h;rfl
 ·cases es with
  | nil=>left;cases h;rfl
  | cons x r =>
   refine .inr ⟨b,o,m,VE.leG i h hh,?_⟩;simp only [VE] at hh;obtain ⟨⟨n,d⟩,_⟩:=hh;cases x with
   | nil=>simp at n;omega
   | cons y q =>
    simp only [VC] at d;obtain ⟨⟨v,j,_⟩,_⟩:=d;exact i b o v j
end
theorem leG.v {a b:AV} (h:leG AnyG a b):leV a b:=λg v c=>h g v trivial c
def Gh.gv (g:Gh):Gh :=
 { g with Φ:=λb j=>match g.N b with | some (.new _)=>none | _=>g.Φ b j,N:=λb=>match g.N b with | some (.new s)=>some (.gar s) | x=>x }
def ctV (a b:AV):Prop:=∀(B:Nat) (w0:World) (g:Gh) (h:AH) (w:World) (v:Value),Rel B w0 g h w->V g a v->V g.gv b v
inductive ctR:List AV->List AV->Prop
 | nil:ctR [] []
 | cons {a b:AV} {as bs:List AV} (hp:b.pure=true) (h:ctV a b) (t:ctR as bs):ctR (a::as) (b::bs)
inductive ctE:List (List AV)->List (List AV)->Prop
 | nil:ctE [] []
 | cons {a b:List AV} {as bs:List (List AV)} (h:ctR a b) (t:ctE as bs):ctE (a::as) (b::bs)
def AV.plain:AV->Bool
 | .bool _ | .int _ _ | .str _ | .any | .nilp | .nilm | .nilf | .nili | .nilsl | .glob _ | .tup []=>true
 | _=>false
theorem ctV.plain {a:AV} (h:a.plain=true):ctV a a:=λB w0 g hh w v _ b=>by
 unfold AV.plain at h;split at h <;> first | (simp only [V];done) | (simp only [V,VL] at b ⊢;exact b) | cases h
theorem ctR.plain:∀{b:List AV},b.all AV.plain=true->b.all AV.pure=true->ctR b b
 | [],_,_=>.nil
 | a::r,h,k=>by
  simp only [tc,ud] at h k;exact .cons k.1 (.plain h.1) (ctR.plain h.2 k.2)
theorem ctR.len:∀{a bs:List AV},ctR a bs->a.length=bs.length
 | _,_,.nil=>rfl
 | _,_,.cons _ _ t=>by simp [t.len]
theorem ctE.len:∀{a bs:List (List AV)},ctE a bs->a.length=bs.length
 | _,_,.nil=>rfl
 | _,_,.cons _ t=>by simp [t.len]
theorem ctE.map {α:Type} {row a:α->List AV} (h:∀x,ctR (row x) (a x)):∀L:List α,ctE (L.map row) (L.map a)
 | []=>.nil
 | x::r=>.cons (h x) (ctE.map h r)
section
variable {B:Nat} {w0 w:World} {g:Gh} {h:AH}
theorem VC.ct (r:Rel B w0 g h w) {b:Nat} (a:∀j v,g.Φ b j=some v->g.gv.Φ b j=some v):∀{o:Nat} {c bs:List AV},ctR c bs->VC g b o c->VC g.gv b o bs
 | _,_,_,.nil,_=>by simp only [VC]
 | _,_,_,.cons q h t,hv=>by
  simp only [VC] at hv ⊢;obtain ⟨⟨v,f,_,d⟩,e⟩:=hv;exact ⟨⟨v,a _ _ f,q,h _ _ _ _ _ _ r d⟩,VC.ct r a t e⟩
theorem VE.ct (r:Rel B w0 g h w) {b k:Nat} (a:∀j v,g.Φ b j=some v->g.gv.Φ b j=some v):∀{o:Nat} {c bs:List (List AV)},ctE c bs->VE g b k o c->VE g.gv b k o bs
 | _,_,_,.nil,_=>by simp only [VE]
 | _,_,_,.cons h t,hv=>by
  simp only [VE] at hv ⊢;obtain ⟨⟨f,d⟩,e⟩:=hv;exact ⟨⟨h.len.symm.trans f,VC.ct r a h d⟩,VE.ct r a t e⟩
theorem VA.ct (r:Rel B w0 g h w):∀{a bs:List AV} {vs:List Value},ctR a bs->VA g a vs->VA g.gv bs vs
 | _,_,_,.nil,hv=>by simpa only [VA] using hv
 | _,_,_,.cons q h t,hv=>by
  simp only [VA] at hv ⊢;obtain ⟨v,s,rfl,⟨_,c⟩,b⟩:=hv;exact ⟨v,s,rfl,⟨AV.one_of_pure q,h _ _ _ _ _ _ r c⟩,VA.ct r t b⟩
theorem ctR.append:∀{a bs cs ds:List AV},ctR a bs->ctR cs ds->ctR (a++cs) (bs++ds)
 | _,_,_,_,.nil,k=>k
 | _,_,_,_,.cons q h t,k=>.cons q h (t.append k)
theorem ctE.flat:∀{a bs:List (List AV)},ctE a bs->ctR a.flatten bs.flatten
 | _,_,.nil=>.nil
 | _,_,.cons h t=>by simp only [tq];exact h.append t.flat
theorem ctR.pure:∀{a bs:List AV},ctR a bs->bs.all AV.pure=true
 | _,_,.nil=>rfl
 | _,_,.cons q _ t=>by simp [q,t.pure]
end
theorem ctV.bsl {k:Nat} {es es':List (List AV)} (h:ctE es es'):ctV (.bsl k es) (.bsl k es'):=λB w0 g hh w v r d=>by
 simp only [V] at d ⊢;obtain ⟨a,c,e,m,i,l⟩:=d;refine ⟨a,c,by rw [<- h.len];exact e,by rw [<- h.len];exact m,i,l.imp (λe=>?_) λ⟨b,o,e,hh,f⟩=>⟨b,o,e,VE.ct r (λj v d=>?_) h hh,?_⟩⟩
 ·subst e;cases h;rfl
 ·have:=(r.ob b f).2;simp only [Gh.gv];split
  ·rename_i s hs;exact absurd hs (this s).1
  ·exact d
 ·exact f
theorem ctV.nsl {k n:Nat} {es:List (List AV)} (C:0 < k) (l:es.length=n):ctV (.nsl k es) (.gsl k n):=λB w0 g hh w v r d=>by
 subst l;simp only [V] at d ⊢;obtain ⟨a,c,e,z,t,x⟩:=d;refine ⟨a,c,e,z,t,?_⟩;rcases su es.length with h0 | h0
 ·exact .inl h0
 ·rcases x with rfl | ⟨b,o,e,hh,s,hs⟩
  ·exact absurd h0 (by simp)
  ·refine .inr ⟨b,o,s,e,by simp only [Gh.gv,hs],?_⟩;obtain ⟨_,_,cs,ty,y,q⟩:=r.nb b _ hs;obtain ⟨m,i⟩:=hh.get (es.length - 1) (es[es.length - 1]'(by omega)) (ug _);obtain ⟨u,j,_⟩:=i.get (k - 1) _ (ug (by rw [m];omega));have f:=r.phi _ _ _ j;rw [cell_of_row w b _ cs ty (0,0) y] at f;have A:=(uQ.1 f).1;have D:(es.length - 1) * k+k=es.length * k:=by
    rw [<- sn];congr 1;omega
   omega
theorem ctV.rsl {id t k n:Nat}:ctV (.rsl id t k n) (.rsl id t k n):=λ_ _ _ _ _ _ _ a=>by simp only [V] at a ⊢;exact a
inductive ctL:List AV->List AV->Prop
 | nil:ctL [] []
 | cons {a b:AV} {as bs:List AV} (h:ctV a b) (t:ctL as bs):ctL (a::as) (b::bs)
 | away {a:AV} {as bs:List AV} (t:ctL as bs):ctL (a::as) (.any::bs)
theorem VL.ct {B:Nat} {w0 w:World} {g:Gh} {h:AH} (r:Rel B w0 g h w):∀{b bs:List AV} {vs:List Value},ctL b bs->VL g b vs->VL g.gv bs vs
 | _,_,_,.nil,hv=>by simpa only [VL] using hv
 | _,_,_,.cons h t,hv=>by
  simp only [VL] at hv ⊢;obtain ⟨v,s,rfl,c,a⟩:=hv;exact ⟨v,s,rfl,h _ _ _ _ _ _ r c,VL.ct r t a⟩
 | _,_,_,.away t,hv=>by
  simp only [VL] at hv ⊢;obtain ⟨v,s,rfl,c,a⟩:=hv;exact ⟨v,s,rfl,by simp only [V],VL.ct r t a⟩
inductive ctB:List Blk->List Blk->Prop
 | nil:ctB [] []
 | dead {b:Blk} {as bs:List Blk} (t:ctB as bs):ctB (b::as) (.dead::bs)
 | row {i k:Nat} {es es':List (List AV)} {as bs:List Blk} (h:ctE es es') (t:ctB as bs):ctB (.row i k es::as) (.row i k es'::bs)
theorem ctB.len:∀{a bs:List Blk},ctB a bs->a.length=bs.length
 | _,_,.nil=>rfl
 | _,_,.dead t=>by simp [t.len]
 | _,_,.row _ t=>by simp [t.len]
theorem ctB.get:∀{c bs:List Blk},ctB c bs->∀(i:Nat) (b:Blk),bs[i]?=some b->∃a,c[i]?=some a/\(b=.dead \/ ∃t k es es',a=.row t k es/\b=.row t k es'/\ctE es es')
 | _,_,.nil,i,b,hi=>by simp at hi
 | _,_,.dead t,i,b,hi=>by
  cases i with
  | zero=>simp at hi;exact ⟨_,rfl,.inl hi.symm⟩
  | succ i=>simpa using t.get i b (by simpa using hi)
 | _,_,.row h t,i,b,hi=>by
  cases i with
  | zero=>simp at hi;exact ⟨_,rfl,.inr ⟨_,_,_,_,rfl,hi.symm,h⟩⟩
  | succ i=>simpa using t.get i b (by simpa using hi)
theorem Rel.gv {B:Nat} {w0 w:World} {g:Gh} {bs E:List Blk} {T:List Nat} (r:Rel B w0 g ⟨bs,T⟩ w) (m:ctB bs E):Rel B w0 g.gv ⟨E,T⟩ w:=by
 have F:∀b j v,g.gv.Φ b j=some v->g.Φ b j=some v:=λb j v e=>by
  simp only [Gh.gv] at e;split at e
  ·cases e
  ·exact e
 have d:∀b j,g.Φ b j=none->g.gv.Φ b j=none:=λb j e=>by
  rcases u:g.gv.Φ b j with _ | v
  ·rfl
  ·rw [F _ _ _ u] at e;cases e
 have z:∀b,Apart g b->Apart g.gv b:=λb h=>h;refine ⟨r.below,r.bsz,λb j v e=>r.phi b j v (F _ _ _ e),r.slen.trans m.len,λi c k U R=>?_,r.tlen,λi t ht=>?_,r.sinj,r.tinj,r.sep,r.dfr,λi k hi R=>?_,λi j t k k' es es' hi G=>?_,λb x u=>?_,λb m=>⟨(r.ob b m).1,λs=>?_⟩⟩
 ·obtain ⟨a,D,h | ⟨t,I,es,es',rfl,rfl,_⟩⟩:=m.get i k R
  ·subst h;obtain ⟨H,f,_,_⟩:=r.blk i c a U D;exact ⟨H,f,trivial,λh=>absurd rfl h⟩
  ·exact (r.blk i c _ U D).2.2.1.elim
 ·obtain ⟨H,f⟩:=r.tok i t ht;exact ⟨H,λb l e C=>⟨(f b l e C).lo,(f b l e C).lt,(f b l e C).cells,λj G=>d b j ((f b l e C).free j G)⟩⟩
 ·obtain ⟨a,D,h | ⟨t,I,es,es',rfl,rfl,A⟩⟩:=m.get i k R
  ·subst h;trivial
  ·obtain ⟨S,H,f,h3,h4,h5,Y⟩:=r.row i _ hi D;refine ⟨S,H,f,h3.trans A.len,?_,A.flat.pure,?_⟩
   ·intro e X;obtain ⟨n,q⟩:=tj.1 X;have:∀{O bs:List (List AV)},ctE O bs->(∀e ∈ O,e.length=I)->∀(n:Nat) (e:List AV),bs[n]?=some e->e.length=I:=by
     intro O bs K
     induction K with
     | nil=>intro _ n e h;simp at h
     | cons h _ ih =>
      intro C n e q;cases n with
      | zero=>simp at q;subst q;exact h.len.symm.trans (C _ (by simp))
      | succ n=>exact ih (λe A=>C e (by simp [A])) n e (by simpa using q)
    exact this A h4 n e q
   ·refine Y.imp (λe=>?_) ?_
    ·subst e;cases A;rfl
    ·rintro ⟨b,o,e,cs,ty,L,Q,q3,V,q5⟩
     have q:es.length=es'.length:=A.len;exact ⟨b,o,e,cs,ty,by rw [<- q];exact L,Q,by rw [<- q];exact VA.ct r A.flat q3,by rw [<- q];exact V,λj G=>d b j (q5 j G)⟩
 ·obtain ⟨a,D,h | ⟨S,I,e1,e1',rfl,h,_⟩⟩:=m.get i _ hi
  ·cases h
  ·obtain ⟨a',J,M | ⟨t2,k2,e2,W,rfl,M,_⟩⟩:=m.get j _ G
   ·cases M
   ·injection h with L _ _;injection M with Q _ _;subst L Q;exact r.rinj _ _ _ _ _ _ _ D J
 ·simp only [Gh.gv] at u;have key:∀y,g.N b=some y->(∀s,y ≠ .new s)->NOk B g.gv w b y:=λy hy hs=>by
   have:=r.nb b y hy;cases y with
   | new s=>exact absurd rfl (hs s)
   | gar s=>exact ⟨this.1,z b this.2.1,this.2.2.1,λj=>d b j (this.2.2.2 j)⟩
   | shut o=>exact ⟨this.1,z b this.2.1,this.2.2.1,λj=>d b j (this.2.2.2 j)⟩
   | frz o=>exact ⟨this.1,z b this.2.1,this.2.2⟩
  split at u
  ·rename_i s hs;injection u with u;subst u;have:=r.nb b _ hs;exact ⟨this.1,z b this.2.1,this.2.2,λj=>by simp only [Gh.gv,hs]⟩
  ·rename_i hs;exact key x u λs e=>hs s (by rw [u,e])
 ·have:=(r.ob b m).2 s;have f:=(r.ob b m).2;simp only [Gh.gv];split
  ·rename_i Z hs;exact absurd hs (f Z).1
  ·exact this

def gBot:Gh:={ Φ:=λ_ _=>none,σ:=[],τ:=[],δ:=[] }
theorem gBot_le (g:Gh):gBot.le g:=⟨λ_ _ _ e=>(by cases e),λi c e=>(by simp [gBot] at e),λi t e=>(by simp [gBot] at e),λc e=>(by simp [gBot] at e),λb x e=>(by cases e),λb h=>h.elim⟩
def awpC (P:Program) (T:Exit->List AV->AH->Prop):Nat->Code->List AV->AH->Prop
 | n+1,.seq a b,env,h=>qb P a (λx env' h'=>match x with
  | .normal=>∃env2 h2,wk h env' h' env2 h2/\awpC P T n b env2 h2
  | x=>T x env' h') env h
 | 0,c,env,h=>∃env2 bs',ctL env env2/\ctB h.blks bs'/\qb P c T env2 ⟨bs',h.toks⟩
 | _+1,_,_,_=>False
section
variable {P:Program} {B:Nat} {w0:World} [GOk P B w0] {n0:Nat}
theorem awpC_sound {T:Exit->List AV->AH->Prop}:∀(n:Nat) (c:Code) {env:List AV} {h:AH} {a:Act} {w:World},awpC P T n c env h->StM B w0 gBot gBot env h a w->∀{Q:Exit->Act->World->Prop},
  (∀x d s a' w',T x d s->StM B w0 gBot gBot d s a' w'->Q x a' w')->c.wpIn (WF none) n0 P Q a w
 | 0,c,env,h,a,w,i,hs,Q,hQ=>by
  obtain ⟨g,_,r,q,o,_⟩:=hs;obtain ⟨b,f,H,F,i⟩:=(show ∃b f,ctL env b/\ctB h.blks f/\qb P c T b ⟨f,h.toks⟩ by cases c <;> exact i)
  exact wZ (gb:=gBot) (g0:=gBot) c (.inl rfl) i ⟨g.gv,gBot_le _,r.gv F,VL.ct r H q,o.mono λ_ h=>h,gBot_le _⟩ hQ
 | n+1,c,env,h,a,w,i,hs,Q,hQ=>by
  cases c with
  | seq x y =>
   obtain ⟨g,L,r,q,o,z⟩:=hs;refine wpIn_seq (wZ (gb:=gBot) (g0:=g) x (.inl rfl) i ⟨g,Gh.le.refl g,r,q,o,z⟩ λe d s a' w' m v=>?_);obtain ⟨C,u,D,j,l,k⟩:=v;cases e with
   | normal =>
    obtain ⟨b,K,I,m⟩:=m;obtain ⟨J,E,G,t,A⟩:=I B w0 w' w g C _ r u D j;exact awpC_sound n y m ⟨J,gBot_le _,G,t,l.mono A,gBot_le _⟩ hQ
   | _=>exact hQ _ _ _ _ _ m ⟨C,gBot_le _,D,j,l,k⟩
  | _=>exact i.elim
end
def SpecT (P:Program) (f:FuncId) (args:List AV) (h:AH) (K:AV->Prop):Prop :=
 ∀(B:Nat) (w0:World) [GOk P B w0] (g:Gh) (w:World) (vs:Array Value),Rel B w0 g h w->VL g args vs.toList ->
  Calls P f vs w λe w'=>∃v r h' g',e=.returned v/\K r/\Rel B w0 g' h' w'/\V g' r v
def bodyT (P:Program) (fn:Func) (K:AV->Prop) (x:Exit) (env:List AV) (h:AH):Prop :=
 match x with
 | .normal | .ret=>match aRes P fn env h with
  | some r=>K r
  | none=>False
 | _=>False
theorem specT_of_body {P:Program} {f:FuncId} {fn:Func} {c:Code} (H:P.funcs[f]?=some fn) (D:fn.body=some c) (n:Nat) {args:List AV} {h:AH} {K:AV->Prop}
  (M:awpC P (bodyT P fn K) n c (args++List.replicate (fn.ntmps - args.length) aundef) h):SpecT P f args h K:=by
 intro B w0 _ g w vs r y;refine callsIn_wide.1 (callsIn_of_wp_marks (F:=WF none) (n:=0) H D trivial ?_ rfl);have d:args.length=vs.size:=by rw [y.length];rfl
 refine awpC_sound (B:=B) (w0:=w0) n c M ⟨g,gBot_le g,r,?_,Marks.nil _ _,gBot_le g⟩ λx k z a' w' s hs=>?_
 ·simp only [t7,oc,d];exact VL.append y (VL.undefs _)
 ·obtain ⟨g',_,J,G,E,_⟩:=hs;have b:(match aRes P fn k z with | some r=>K r | none=>False) ->
    LeavesInM (WF none) 0 P fn a'.tmps (λe i=>∃v' r q C,e=.returned v'/\K r/\Rel B w0 C q i/\V C r v') a'.defers .returning w':=by
   intro a;split at a
   ·rename_i L N;obtain ⟨cs,I,t,j⟩:=E;refine leaves_marks a'.defers cs w' I t ?_ (gBot_le g') J G (λc v=>(j c v).1) (λc v=>(j c v).2);intro i o A m l;obtain ⟨u,O,q⟩:=res_sound m l N;exact ⟨u,O,u,L,z,o,rfl,a,m,q⟩
   ·exact a.elim
  cases x with
  | normal=>exact b s
  | ret=>exact b s
  | _=>exact s.elim
end Go.Vv
