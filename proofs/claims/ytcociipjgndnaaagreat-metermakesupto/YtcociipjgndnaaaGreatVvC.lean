/- How the abstract heap and the tokens stand to a world; each kind of step of the world keeps that. -/
import Derived.Test.YtcociipjgndnaaaGreatVvB
namespace Go.Vv
open Go Go.RowKit

def ME (g:Gh):List (AV×AV)->List MapEntry->Prop
 | [],es=>es=[]
 | (k,x)::r,es=>∃e s,es=e::s/\V g k e.key/\V g x e.val/\ME g r s

theorem ME.mono {g g':Gh} (h:g.le g'):∀(a:List (AV×AV)) (vs:List MapEntry),ME g a vs->ME g' a vs
 | [],_,hv=>by simpa only [ME] using hv
 | (k,x)::r,_,hv=>by
  simp only [ME] at hv ⊢;obtain ⟨e,s,rfl,d,b,c⟩:=hv;exact ⟨e,s,rfl,d.mono h,b.mono h,ME.mono h r s c⟩

theorem VA.dd {g:Gh} {d:List Nat} {a:List AV} {vs:List Value} (h:VA g a vs):VA { g with δ:=d } a vs:=VA.monoV (g.lv_dd d) _ _ h
theorem ME.dd {g:Gh} {d:List Nat}:∀{a:List (AV×AV)} {vs:List MapEntry},ME g a vs->ME { g with δ:=d } a vs
 | [],_,hv=>by simpa only [ME] using hv
 | (k,x)::r,_,hv=>by
  simp only [ME] at hv ⊢;obtain ⟨e,s,rfl,f,b,c⟩:=hv;exact ⟨e,s,rfl,V.monoV (g.lv_dd d) _ _ f,V.monoV (g.lv_dd d) _ _ b,ME.dd c⟩
def BlkOk (g:Gh) (w:World) (c:Nat):Blk->Prop
 | .cells cs=>∃vs t,w.heap[c]?=some (.cells vs t (0,0))/\VA g cs vs.toList
 | .siter s pos=>w.heap[c]?=some (.stringIter ⟨s.toArray⟩ pos)
 | .mapo es clock=>∃ents n,w.heap[c]?=some (.map ents n)/\ME g es ents.toList/\(clock=0->n=ents.size/\∀(i:Nat) (e:MapEntry),ents[i]?=some e->e.born=i)
 | .loop st pe env ps assign body=>∃fn tmps d,w.heap[c]?=some (.loop { state:=st,pending:=pe,fn,tmps,params:=ps,assign,body,defers:=d })/\VL g env tmps.toList
 | .row _ _ _=>False
 | .miter id n seen=>∃m,g.σ[id]?=some (some m)/\w.heap[c]?=some (.mapIter (some m) n seen.toArray n)
 | .miter0=>w.heap[c]?=some (.mapIter none 0 #[] 0)
 | .other | .dead=>True
def RowOk (g:Gh) (w:World) (i k:Nat) (es:List (List AV)):Prop :=
 ∃t,g.τ[i]?=some t/\t.row=true/\t.n=es.length/\(∀e ∈ es,e.length=k)/\es.flatten.all AV.pure=true/\(es=[] \/ ∃b o e cs ty,t.loc=some (b,o+es.length * k,e) /\
  w.heap[b]?=some (.cells cs ty (0,0))/\VA g es.flatten ((cs.toList.drop o).take (es.length * k))/\o+es.length * k<=cs.size/\∀j,o<=j->g.Φ b j=none)
def RowB (g:Gh) (w:World):Blk->Prop
 | .row i k es=>RowOk g w i k es
 | .dead=>True
 | _=>False

theorem BlkOk.mono {g g':Gh} {w w':World} {c:Nat} {k:Blk} (h:g.le g') (f:w'.heap[c]?=w.heap[c]?) (a:BlkOk g w c k):BlkOk g' w' c k:=by
 cases k with
 | cells cs=>obtain ⟨vs,t,e,b⟩:=a;exact ⟨vs,t,f.trans e,b.mono h⟩
 | siter s pos=>exact f.trans a
 | mapo es clock=>obtain ⟨ents,n,e,b,i⟩:=a;exact ⟨ents,n,f.trans e,b.mono h,i⟩
 | loop st pe env ps assign body=>obtain ⟨fn,tmps,d,e,b⟩:=a;exact ⟨fn,tmps,d,f.trans e,b.mono h⟩
 | row _ _ _=>exact a
 | miter id n seen=>obtain ⟨m,e,b⟩:=a;exact ⟨m,h.sig _ _ e,f.trans b⟩
 | miter0=>exact f.trans a
 | other=>trivial
 | dead=>trivial
theorem RowOk.mono {g g':Gh} {w w':World} {i k:Nat} {es:List (List AV)} (h:g.le g') (p:g'.τ[i]?=g.τ[i]?)
  (u:∀t b x,g.τ[i]?=some t->t.row=true->t.loc=some (b,x)->w'.heap[b]?=w.heap[b]?/\∀j,g'.Φ b j=g.Φ b j) (C:RowOk g w i k es):RowOk g' w' i k es:=by
 obtain ⟨t,d,a,z,s,f,m⟩:=C;refine ⟨t,p.trans d,a,z,s,f,m.imp id ?_⟩
 rintro ⟨b,o,e,cs,ty,c,l,v,n,A⟩
 obtain ⟨q,y⟩:=u t b _ d a c;exact ⟨b,o,e,cs,ty,c,q.trans l,v.mono h,n,λj r=>(y j).trans (A j r)⟩
theorem RowB.mono {g g':Gh} {w w':World} {k:Blk} (h:g.le g') (e:∀(i:Nat) (t:TI),g.τ[i]?=some t->t.row=true->g'.τ[i]?=some t)
  (f:∀(i:Nat) t b x,g.τ[i]?=some t->t.row=true->t.loc=some (b,x)->w'.heap[b]?=w.heap[b]?/\∀j,g'.Φ b j=g.Φ b j) (a:RowB g w k):RowB g' w' k:=by
 cases k with
 | row i k es =>
  have a:RowOk g w i k es:=a;obtain ⟨t,c,d,_⟩:=id a;exact a.mono h ((e i t c d).trans c.symm) (f i)
 | dead=>trivial
 | _=>exact a.elim

structure LocOk (Φ:Nat->Nat->Option Value) (B:Nat) (w:World) (b l e:Nat):Prop where
 lo:B<=b
 lt:b < w.heap.size
 cells:∃cs ty,w.heap[b]?=some (.cells cs ty (0,0))/\e<=cs.size
 free:∀j,l<=j->Φ b j=none

theorem LocOk.mono {Φ Φ':Nat->Nat->Option Value} {B:Nat} {w w':World} {b l e:Nat} (h:LocOk Φ B w b l e) (k:w.heap.size<=w'.heap.size) (i:w'.heap[b]?=w.heap[b]?)
  (f:∀j,l<=j->Φ' b j=Φ b j):LocOk Φ' B w' b l e :=
 ⟨h.lo,so h.lt k,by obtain ⟨cs,ty,d,c⟩:=h.cells;exact ⟨cs,ty,i.trans d,c⟩,λj a=>(f j a).trans (h.free j a)⟩

def Apart (g:Gh) (b:Nat):Prop:=(∀i:Nat,g.σ[i]? ≠ some (some b))/\b ∉ g.δ/\∀(i:Nat) (t:TI) (x:Nat×Nat),g.τ[i]?=some t->t.loc ≠ some (b,x)
def NOk (B:Nat) (g:Gh) (w:World) (b:Nat):BK->Prop
 | .new s=>B<=b/\Apart g b/\∃cs ty,w.heap[b]?=some (.cells cs ty (0,0))/\cs.size=s
 | .gar s=>B<=b/\Apart g b/\(∃cs ty,w.heap[b]?=some (.cells cs ty (0,0))/\cs.size=s)/\∀j,g.Φ b j=none
 | .shut o=>B<=b/\Apart g b/\(∃cs ty,w.heap[b]?=some (.cells cs ty (0,0))/\o=.cells cs ty (0,0))/\∀j,g.Φ b j=none
 | .frz o=>B<=b/\Apart g b/\w.heap[b]?=some o
theorem NOk.mono {B:Nat} {g g':Gh} {w w':World} {b:Nat} {x:BK} (h:NOk B g w b x)
  (k:B<=b->b < w.heap.size->Apart g b->w'.heap[b]?=w.heap[b]?/\Apart g' b/\((∀j,g.Φ b j=none)->∀j,g'.Φ b j=none)):NOk B g' w' b x:=by
 cases x with
 | new s =>
  obtain ⟨c,e,cs,ty,a,i⟩:=h;obtain ⟨f,d,_⟩:=k c (uQ.1 a).1 e;exact ⟨c,d,cs,ty,f.trans a,i⟩
 | gar s =>
  obtain ⟨c,e,⟨cs,ty,a,i⟩,l⟩:=h;obtain ⟨f,d,m⟩:=k c (uQ.1 a).1 e;exact ⟨c,d,⟨cs,ty,f.trans a,i⟩,m l⟩
 | shut o =>
  obtain ⟨c,e,⟨cs,ty,a,i⟩,l⟩:=h;obtain ⟨f,d,m⟩:=k c (uQ.1 a).1 e;exact ⟨c,d,⟨cs,ty,f.trans a,i⟩,m l⟩
 | frz o =>
  obtain ⟨c,e,a⟩:=h;obtain ⟨f,d,_⟩:=k c (uQ.1 a).1 e;exact ⟨c,d,f.trans a⟩

structure Rel (B:Nat) (w0:World) (g:Gh) (h:AH) (w:World):Prop where
 below:Below B w0 w
 bsz:B<=w.heap.size
 phi:∀b j v,g.Φ b j=some v->w.cell? ⟨b,j,none⟩=some v
 slen:g.σ.length=h.blks.length
 blk:∀(i c:Nat) (k:Blk),g.σ[i]?=some (some c)->h.blks[i]?=some k->B<=c/\c < w.heap.size/\BlkOk g w c k/\(k ≠ .dead->∀j,g.Φ c j=none)
 tlen:g.τ.length=h.toks.length
 tok:∀(i:Nat) (t:TI),g.τ[i]?=some t->h.toks[i]?=some t.n/\∀b l e,t.loc=some (b,l,e)->LocOk g.Φ B w b l e
 sinj:∀(i j c:Nat),g.σ[i]?=some (some c)->g.σ[j]?=some (some c)->i=j
 tinj:∀(i j:Nat) (t t':TI) (b:Nat) (x y:Nat×Nat),g.τ[i]?=some t->g.τ[j]?=some t'->t.loc=some (b,x)->t'.loc=some (b,y)->i=j
 sep:∀(i c j:Nat) (t:TI) (b:Nat) (x:Nat×Nat),g.σ[i]?=some (some c)->g.τ[j]?=some t->t.loc=some (b,x)->b ≠ c
 dfr:∀c,c ∈ g.δ->B<=c/\w.heap[c]?=some (.deferred (some []))/\∀i:Nat,g.σ[i]? ≠ some (some c)
 row:∀(i:Nat) (k:Blk),g.σ[i]?=some none->h.blks[i]?=some k->RowB g w k
 rinj:∀(i j t k k':Nat) (es es':List (List AV)),h.blks[i]?=some (.row t k es)->h.blks[j]?=some (.row t k' es')->i=j
 nb:∀(b:Nat) (x:BK),g.N b=some x->NOk B g w b x
 ob:∀b:Nat,g.O b->b < w.heap.size/\∀s,g.N b ≠ some (.new s)/\g.N b ≠ some (.gar s)

section
variable {B:Nat} {w0 w:World} {g:Gh} {h:AH}

theorem Rel.phi_lt (r:Rel B w0 g h w) {b j:Nat} {v:Value} (e:g.Φ b j=some v):b < w.heap.size:=World.block_lt_of_cell? w ⟨b,j,none⟩ (r.phi b j v e)

theorem Rel.drew (r:Rel B w0 g h w):Rel B w0 g h w.drew :=
 ⟨r.below.drew,r.bsz,r.phi,r.slen,λi c k s d=>by obtain ⟨f,a,q,p⟩:=r.blk i c k s d;exact ⟨f,a,q.mono (Gh.le.refl g) rfl,p⟩,r.tlen,
   λi t m=>by obtain ⟨f,a⟩:=r.tok i t m;exact ⟨f,λb l e n=>(a b l e n).mono (uh _) rfl λ_ _=>rfl⟩,r.sinj,r.tinj,r.sep,r.dfr,λi k hi d=>(r.row i k hi d).mono (Gh.le.refl g) (λ_ _ h _=>h) (λ_ _ _ _ _ _ _=>⟨rfl,λ_=>rfl⟩),r.rinj,λb x j=>(r.nb b x j).mono λ_ _ o=>⟨rfl,o,λh=>h⟩,r.ob⟩
theorem Rel.nlt (r:Rel B w0 g h w) {b:Nat} {x:BK} (c:g.N b=some x):b < w.heap.size:=by
 have:=r.nb b x c;cases x with
 | new s=>obtain ⟨_,_,cs,ty,a,_⟩:=this;exact (uQ.1 a).1
 | gar s=>obtain ⟨_,_,⟨cs,ty,a,_⟩,_⟩:=this;exact (uQ.1 a).1
 | shut o=>obtain ⟨_,_,⟨cs,ty,a,_⟩,_⟩:=this;exact (uQ.1 a).1
 | frz o=>exact (uQ.1 this.2.2).1
theorem Rel.nnew (r:Rel B w0 g h w) {b:Nat} (a:w.heap.size<=b):g.N b=none:=by
 rcases hx:g.N b with _ | x
 ·rfl
 ·exact absurd (r.nlt hx) (by omega)
theorem Rel.ntok (r:Rel B w0 g h w) {i:Nat} {t:TI} {b:Nat} {y:Nat×Nat} (a:g.τ[i]?=some t) (c:t.loc=some (b,y)):g.N b=none:=by
 rcases hx:g.N b with _ | x
 ·rfl
 ·have:=r.nb b x hx;cases x <;> exact absurd c (this.2.1.2.2 i t y a)
theorem Rel.nsig (r:Rel B w0 g h w) {i c:Nat} (hi:g.σ[i]?=some (some c)):g.N c=none:=by
 rcases hx:g.N c with _ | x
 ·rfl
 ·have:=r.nb c x hx;cases x <;> exact absurd hi (this.2.1.1 i)
theorem Rel.nold (r:Rel B w0 g h w) {b:Nat} (a:w.heap.size<=b):¬ g.O b:=λh=>absurd (r.ob b h).1 (by omega)
theorem Rel.dfr_lt (r:Rel B w0 g h w) {c:Nat} (a:c ∈ g.δ):c < w.heap.size:=(uQ.1 (r.dfr c a).2.1).1

theorem Rel.alloc0 (r:Rel B w0 g h w) (o:Obj):Rel B w0 g h (w.alloc o) :=
 ⟨r.below.alloc r.bsz o,by have:=r.bsz;simp;omega,λb j v e=>(World.cell?_alloc_lt w o ⟨b,j,none⟩ (r.phi_lt e)).trans (r.phi b j v e),r.slen,
   λi c k d p=>by
     obtain ⟨q,m,y,u⟩:=r.blk i c k d p;exact ⟨q,by simp;omega,y.mono (Gh.le.refl g) (Below.heap_alloc w o c m),u⟩,r.tlen,
   λi t n=>by
     obtain ⟨q,m⟩:=r.tok i t n;exact ⟨q,λb l e a=>(m b l e a).mono (by simp) (Below.heap_alloc w o b (m b l e a).lt) λ_ _=>rfl⟩,r.sinj,r.tinj,r.sep,λc d=>⟨(r.dfr c d).1,(Below.heap_alloc w o c (r.dfr_lt d)).trans (r.dfr c d).2.1,(r.dfr c d).2.2⟩,λi k hi p=>(r.row i k hi p).mono (Gh.le.refl g) (λ_ _ h _=>h) (λi t b x n _ a=>⟨Below.heap_alloc w o b ((r.tok i t n).2 b x.1 x.2 a).lt,λ_=>rfl⟩),r.rinj,λb x f=>(r.nb b x f).mono λ_ a s=>⟨Below.heap_alloc w o b a,s,λh=>h⟩,λb f=>⟨by have:=(r.ob b f).1;simp;omega,(r.ob b f).2⟩⟩

def Gh.addS (g:Gh) (c:Option Nat):Gh:={ g with σ:=g.σ++[c] }
theorem Gh.le_addS (g:Gh) (c:Option Nat):g.le (g.addS c) :=
 ⟨λ_ _ _ e=>e,λi x e=>by
  have:i < g.σ.length:=(uc.1 e).1;simp only [Gh.addS];rw [uj this];exact e,λ_ t e=>⟨t,e,uh _,λ_=>rfl,rfl⟩,λ_ h=>h,λ_ _ h=>h,λ_ h=>h⟩
theorem addS_get {g:Gh} {c x:Option Nat} {i:Nat} (e:(g.addS c).σ[i]?=some x):g.σ[i]?=some x \/ (i=g.σ.length/\x=c):=by
 simp only [Gh.addS] at e;rcases tz i g.σ.length with a | a
 ·rw [uj a] at e;exact .inl e
 ·rw [ui a] at e;rcases su (i - g.σ.length) with h0 | h0
  ·rw [h0] at e;simp at e;exact .inr ⟨by omega,e.symm⟩
  ·rw [th (by simp;omega)] at e;cases e

theorem Rel.adopt (r:Rel B w0 g h w) {c:Nat} (k:Blk) (I:B<=c) (K:c < w.heap.size) (A:BlkOk (g.addS (some c)) w c k) (o:∀j,g.Φ c j=none)
  (hs:∀(i x:Nat),g.σ[i]?=some (some x)->x ≠ c) (E:∀(i:Nat) (t:TI) (b:Nat) (x:Nat×Nat),g.τ[i]?=some t->t.loc=some (b,x)->b ≠ c) (v:c ∉ g.δ) (u:g.N c=none) :
  Rel B w0 (g.addS (some c)) (h.new k) w :=
 ⟨r.below,r.bsz,r.phi,by simp [Gh.addS,AH.new,r.slen],λi x k' d a=>by
   have l:=r.slen;rcases addS_get d with d | ⟨rfl,f⟩
   ·have hi:i < h.blks.length:=by rw [<- l];exact (uc.1 d).1
    simp only [AH.new] at a;rw [uj hi] at a;obtain ⟨L,F,J,G⟩:=r.blk i x k' d a;exact ⟨L,F,J.mono (g.le_addS _) rfl,G⟩
   ·obtain rfl:=sU f;simp only [AH.new] at a;rw [l,ui (uh _)] at a;simp at a;subst a;exact ⟨I,K,A,λ_=>o⟩,r.tlen,r.tok,
  λi j x hi p=>by
   rcases addS_get hi with hi | ⟨rfl,D⟩ <;> rcases addS_get p with p | ⟨rfl,e⟩
   ·exact r.sinj i j x hi p
   ·exact absurd (sU e) (hs i x hi)
   ·exact absurd (sU D) (hs j _ p)
   ·rfl,
  r.tinj,λi x j t b y d s m=>by
   rcases addS_get d with d | ⟨rfl,f⟩
   ·exact r.sep i x j t b y d s m
   ·obtain rfl:=sU f;exact E j t b y s m,
  λx d=>⟨(r.dfr x d).1,(r.dfr x d).2.1,λi hi=>by
   rcases addS_get hi with hi | ⟨_,f⟩
   ·exact (r.dfr x d).2.2 i hi
   ·obtain rfl:=sU f;exact v d⟩,
  λi k' hi a=>by
   rcases addS_get hi with hi | ⟨_,f⟩
   ·have m:i < h.blks.length:=by rw [<- r.slen];exact (uc.1 hi).1
    simp only [AH.new] at a;rw [uj m] at a;exact (r.row i k' hi a).mono (g.le_addS _) (λ_ _ h _=>h) (λ_ _ _ _ _ _ _=>⟨rfl,λ_=>rfl⟩)
   ·exact absurd f (by simp),
  λi j t n C es es' hi p=>by
   have H:∀t n es,k ≠ .row t n es:=by rintro t n es rfl;exact A
   simp only [AH.new] at hi p;have key:∀(i t n:Nat) (es:List (List AV)),(h.blks++[k])[i]?=some (.row t n es)->h.blks[i]?=some (.row t n es):=by
    intro i t n es hi;rcases tz i h.blks.length with m | m
    ·rw [uj m] at hi;exact hi
    ·rw [ui m] at hi;have:=uN hi;exact absurd (uL.1 this).symm (H _ _ _)
   exact r.rinj i j t n C es es' (key _ _ _ _ hi) (key _ _ _ _ p),
  λb x q=>by
   by_cases hbc:b=c
   ·subst hbc;have q:g.N b=some x:=q;rw [u] at q;cases q
   ·exact (r.nb b x q).mono λ_ _ z=>⟨rfl,⟨λi hi=>by
     rcases addS_get hi with hi | ⟨_,f⟩
     ·exact z.1 i hi
     ·exact hbc (sU f),z.2⟩,λh=>h⟩,r.ob⟩

theorem Rel.newBlk (r:Rel B w0 g h w) (o:Obj) (k:Blk) (l:BlkOk (g.addS (some w.heap.size)) (w.alloc o) w.heap.size k):Rel B w0 (g.addS (some w.heap.size)) (h.new k) (w.alloc o) :=
 (r.alloc0 o).adopt k r.bsz (by simp) l
  (λj=>by
   rcases he:g.Φ w.heap.size j with _ | v
   ·rfl
   ·exact absurd (r.phi_lt he) (sH _))
  (λi x a e=>by
   have hi:i < h.blks.length:=by rw [<- r.slen];exact (uc.1 a).1
   have:=(r.blk i x _ a (ug hi)).2.1;omega)
  (λi t b x c d e=>by
   have:=((r.tok i t c).2 b x.1 x.2 d).lt;omega)
  (λf=>sH _ (r.dfr_lt f)) (r.nnew (uh _))

theorem Rel.newCells (r:Rel B w0 g h w) {cs:List AV} {vs:Array Value} (t:TypeId) (a:VA g cs vs.toList) :
  Rel B w0 (g.addS (some w.heap.size)) (h.new (.cells cs)) (w.alloc (.cells vs t)) :=
 r.newBlk _ _ ⟨vs,t,heap_alloc_new w _,a.mono (g.le_addS _)⟩

def Gh.vow (g:Gh) (b:Nat) (f:Nat->Option Value):Gh:={ g with Φ:=λb' j=>if b'=b then (match g.Φ b j with | some v=>some v | none=>f j) else g.Φ b' j }
theorem Gh.le_vow (g:Gh) (b:Nat) (f:Nat->Option Value):g.le (g.vow b f) :=
 ⟨λa j v e=>by
  simp only [Gh.vow];by_cases hb:a=b
  ·subst hb;simp [e]
  ·simp [hb,e],λ_ _ e=>e,λ_ t e=>⟨t,e,uh _,λ_=>rfl,rfl⟩,λ_ h=>h,λ_ _ h=>h,λ_ h=>h⟩

theorem Rel.vow (r:Rel B w0 g h w) {b:Nat} {f:Nat->Option Value} (D:∀j v,f j=some v->w.cell? ⟨b,j,none⟩=some v)
  (hs:∀(i c:Nat),g.σ[i]?=some (some c)->h.blks[i]? ≠ some .dead->c ≠ b)
  (y:∀(i:Nat) (t:TI) (l e:Nat),g.τ[i]?=some t->t.loc=some (b,l,e)->t.row=false/\∀j,l<=j->f j=none) (q:g.N b=none):Rel B w0 (g.vow b f) h w :=
 ⟨r.below,r.bsz,λa j v e=>by
   simp only [Gh.vow] at e;by_cases hb:a=b
   ·subst hb;simp only [ut] at e;split at e
    ·rename_i v' C;cases e;exact r.phi _ _ _ C
    ·exact D j v e
   ·simp only [hb,uG] at e;exact r.phi _ _ _ e,r.slen,
  λi c k A p=>by
   obtain ⟨u,o,G,F⟩:=r.blk i c k A p;refine ⟨u,o,G.mono (g.le_vow b f) rfl,λhd j=>?_⟩;have m:c ≠ b:=hs i c A (by rw [p];intro e;injection e with e;exact hd e);simp only [Gh.vow,m,uG];exact F hd j,r.tlen,
  λi t hi=>by
   obtain ⟨u,o⟩:=r.tok i t hi;refine ⟨u,λa l e n=>(o a l e n).mono (uh _) rfl λj z=>?_⟩;simp only [Gh.vow];by_cases hb:a=b
   ·subst hb;simp only [ut,(o a l e n).free j z];exact (y i t l e hi n).2 j z
   ·simp only [hb,uG],r.sinj,r.tinj,r.sep,r.dfr,
  λi k hi p=>(r.row i k hi p).mono (g.le_vow b f) (λ_ _ h _=>h) (λi t a x s H n=>⟨rfl,λj=>by
   have m:a ≠ b:=by
    rintro rfl
    have:=(y i t x.1 x.2 s n).1;rw [H] at this;cases this
   simp only [Gh.vow,m,uG]⟩),r.rinj,
  λa x d=>by
   by_cases hbb:a=b
   ·subst hbb;have d:g.N a=some x:=d;rw [q] at d;cases d
   ·exact (r.nb a x d).mono λ_ _ E=>⟨rfl,E,λh j=>by simp only [Gh.vow,hbb,uG];exact h j⟩,r.ob⟩

theorem Rel.newRow (r:Rel B w0 g h w) (vs:Array Value) (t:TypeId) (n:Nat) :
  Rel B w0 (g.vow w.heap.size λj=>if j < n then vs[j]? else none) h (w.alloc (.cells vs t)) :=
 (r.alloc0 _).vow (λj v e=>by
   split at e
   ·rw [World.cell?_alloc_new];exact e
   ·cases e)
  (λi c a _ e=>by
   have hi:i < h.blks.length:=by rw [<- r.slen];exact (uc.1 a).1
   have:=(r.blk i c _ a (ug hi)).2.1;omega)
  (λi t l e b d=>by
   have:=((r.tok i t b).2 _ l e d).lt;omega) (r.nnew (uh _))

theorem Rel.putObj (r:Rel B w0 g h w) {i c:Nat} {k k':Blk} (u:g.σ[i]?=some (some c)) (S:h.blks[i]?=some k) (hd:k ≠ .dead) {w':World} (N:w'.os=w.os) (O:w'.tape=w.tape)
  (R:w'.output=w.output) (m:w'.heap.size=w.heap.size) (d:∀b,b ≠ c->w'.heap[b]?=w.heap[b]?) (E:BlkOk g w' c k'):Rel B w0 g (h.put i k') w':=by
 obtain ⟨W,L,_,o⟩:=r.blk i c k u S;refine ⟨⟨N.trans r.below.os,O.trans r.below.tape,R.trans r.below.output,by rw [m];exact r.below.size,λb A=>(d b (by omega)).trans (r.below.block b A)⟩,
  by rw [m];exact r.bsz,λb j v e=>?_,by simp [AH.put,r.slen],λs J M p f=>?_,r.tlen,λs t H=>?_,r.sinj,r.tinj,r.sep,λx I=>⟨(r.dfr x I).1,(d x (by rintro rfl;exact (r.dfr x I).2.2 i u)).trans (r.dfr x I).2.1,(r.dfr x I).2.2⟩,λs q z P=>?_,λD Q t G U es es' n F=>?_,
  λb x A=>(r.nb b x A).mono λ_ _ T=>⟨d b (by rintro rfl;exact T.1 i u),T,λh=>h⟩,λb A=>⟨by rw [m];exact (r.ob b A).1,(r.ob b A).2⟩⟩
 ·have y:b ≠ c:=by rintro rfl;rw [o hd j] at e;cases e
  exact (World.cell?_of_block (w:=w) (w':=w') (a:=⟨b,j,none⟩) (d b y)).trans (r.phi b j v e)
 ·simp only [AH.put] at f;by_cases hi:s=i
  ·subst hi;have K:J=c:=by rw [u] at p;injection p with e;injection e with e;exact e.symm
   subst K;have C:s < h.blks.length:=(uc.1 S).1;rw [uA C] at f;injection f with e;subst e;exact ⟨W,by rw [m];exact L,E,λ_=>o hd⟩
  ·rw [uK (λe=>hi e.symm)] at f;obtain ⟨n,F,X,V⟩:=r.blk s J M p f;have y:J ≠ c:=by rintro rfl;exact hi (r.sinj _ _ _ p u)
   exact ⟨n,by rw [m];exact F,X.mono (Gh.le.refl g) (d J y),V⟩
 ·obtain ⟨n,F⟩:=r.tok s t H;refine ⟨n,λb l e C=>(F b l e C).mono (by rw [m];exact uh _) (d b ?_) λ_ _=>rfl⟩;exact r.sep i c s t b (l,e) u H C
 ·have hi:s ≠ i:=by rintro rfl;rw [u] at z;cases z
  simp only [AH.put] at P;rw [uK (λe=>hi e.symm)] at P;exact (r.row s q z P).mono (Gh.le.refl g) (λ_ _ h _=>h) (λQ t b x H _ C=>⟨d b (r.sep i c Q t b x u H C),λ_=>rfl⟩)
 ·have key:∀(D t G:Nat) (es:List (List AV)),(h.blks.set i k')[D]?=some (.row t G es)->h.blks[D]?=some (.row t G es):=by
   intro D t G es n;by_cases hi:D=i
   ·subst hi;rw [uA (uc.1 S).1] at n;injection n with n;subst n;exact E.elim
   ·rw [uK (λe=>hi e.symm)] at n;exact n
  exact r.rinj D Q t G U es es' (key _ _ _ _ n) (key _ _ _ _ F)
end
end Go.Vv
