/- How the abstract heap and the tokens stand to a world; each kind of step of the world keeps that. -/
import Derived.Test.YtonoilllklmacaaGreatVvA
import Derived.Lib.AppendStr
set_option linter.all false
namespace Go.Vv
open Go Go.RowKit
variable {w':World}

def ME (g:Gh):List (AV×AV)->List MapEntry->Prop
 | [],es=>es=[]
 | (k,x)::r,es=>∃e s,es=e::s/\V g k e.key/\V g x e.val/\ME g r s

theorem ME.mono {g g':Gh} (h:g.le g'):∀(a5:List (AV×AV)) (vs:List MapEntry),ME g a5 vs->ME g' a5 vs
 | [],_,hv=>by simpa only [ME] using hv
 | (k,x)::r,_,hv=>by
  simp only [ME] at hv ⊢;obtain ⟨e,s,rfl,b,a,c⟩:=hv;exact ⟨e,s,rfl,b.mono h,a.mono h,ME.mono h r s c⟩

theorem VA.dd {g:Gh} {d:List Nat} {a5:List AV} {vs:List Value} (h:VA g a5 vs):VA { g with δ:=d } a5 vs:=VA.monoV (g.lv_dd d) _ _ h
theorem ME.dd {g:Gh} {d:List Nat}:∀{a5:List (AV×AV)} {vs:List MapEntry},ME g a5 vs->ME { g with δ:=d } a5 vs
 | [],_,hv=>by simpa only [ME] using hv
 | (k,x)::r,_,hv=>by
  simp only [ME] at hv ⊢;obtain ⟨e,s,rfl,b,a,c⟩:=hv;exact ⟨e,s,rfl,V.monoV (g.lv_dd d) _ _ b,V.monoV (g.lv_dd d) _ _ a,ME.dd c⟩
def BlkOk (g:Gh) (w:World) (c:Nat):Blk->Prop
 | .cells cs=>∃vs t,w.heap[c]?=some (.cells vs t (0,0))/\VA g cs vs.toList
 | .siter s pos=>w.heap[c]?=some (.stringIter ⟨s.toArray⟩ pos)
 | .mapo es clock=>∃ents n,w.heap[c]?=some (.map ents n)/\ME g es ents.toList/\(clock=0->n=ents.size/\∀(i:Nat) (e:MapEntry),ents[i]?=some e->e.born=i)
 | .loop st pe env ps assign body=>∃fn tmps d,w.heap[c]?=some (.loop { state:=st,pending:=pe,fn,tmps,params:=ps,assign,body,defers:=d })/\VL g env tmps.toList
 | .row _ _ _=>False
 | .bld T x=>∃a v,w.heap[c]?=some (.cells #[a,v] T (0,0))/\(a=.pointer none \/ a=.pointer (some ⟨c,0,none⟩))/\x.one=true/\V g x v
 | .miter id n seen=>∃m,g.σ[id]?=some (some m)/\w.heap[c]?=some (.mapIter (some m) n seen.toArray n)
 | .miter0=>w.heap[c]?=some (.mapIter none 0 #[] 0)
 | .other | .dead=>True
def RowOk (g:Gh) (w:World) (i k:Nat) (es:List (List AV)):Prop :=
 ∃t,g.τ[i]?=some t/\t.row=true/\t.n=es.length/\(∀e ∈ es,e.length=k)/\es.flatten.all AV.pure=true/\(es=[] \/ ∃b o e cs ty,t.loc=some (b,o+es.length * k,e) /\
  w.heap[b]?=some (.cells cs ty (0,0))/\VA g es.flatten ((cs.toList.drop o).take (es.length * k))/\o+es.length * k<=cs.size/\∀j,o<=j->g.Φ b j=none)
def RowB (g:Gh) (w:World):Blk->Prop
 | .row i k es=>RowOk g w i k es
 | .dead=>True
 | _=>False

theorem BlkOk.mono {g g':Gh} {w w':World} {c:Nat} {k:Blk} (h:g.le g') (i:w'.heap[c]?=w.heap[c]?) (f:BlkOk g w c k):BlkOk g' w' c k:=by
 cases k with
 | cells cs=>obtain ⟨vs,t,e,b⟩:=f;exact ⟨vs,t,i.trans e,b.mono h⟩
 | bld T x=>obtain ⟨a,v,e,b,j,l⟩:=f;exact ⟨a,v,i.trans e,b,j,V.mono h _ _ l⟩
 | siter s pos=>exact i.trans f
 | mapo es clock=>obtain ⟨ents,n,e,b,j⟩:=f;exact ⟨ents,n,i.trans e,b.mono h,j⟩
 | loop st pe env ps assign body=>obtain ⟨fn,tmps,d,e,b⟩:=f;exact ⟨fn,tmps,d,i.trans e,b.mono h⟩
 | row _ _ _=>exact f
 | miter id n seen=>obtain ⟨m,e,b⟩:=f;exact ⟨m,h.sig _ _ e,i.trans b⟩
 | miter0=>exact i.trans f
 | other=>trivial
 | dead=>trivial
theorem RowOk.mono {g g':Gh} {w w':World} {i k:Nat} {es:List (List AV)} (h:g.le g') (f:g'.τ[i]?=g.τ[i]?)
  (r:∀t b x,g.τ[i]?=some t->t.row=true->t.loc=some (b,x)->w'.heap[b]?=w.heap[b]?/\∀j,g'.Φ b j=g.Φ b j) (s:RowOk g w i k es):RowOk g' w' i k es:=by
 obtain ⟨t,d,c,u,m,p,v⟩:=s;refine ⟨t,f.trans d,c,u,m,p,v.imp id ?_⟩
 rintro ⟨b,o,e,cs,ty,a,k2,l,z,q⟩
 obtain ⟨n,A⟩:=r t b _ d c a;exact ⟨b,o,e,cs,ty,a,n.trans k2,l.mono h,z,λj y=>(A j).trans (q j y)⟩
theorem RowB.mono {g g':Gh} {w w':World} {k:Blk} (h:g.le g') (f:∀(i:Nat) (t:TI),g.τ[i]?=some t->t.row=true->g'.τ[i]?=some t)
  (d:∀(i:Nat) t b x,g.τ[i]?=some t->t.row=true->t.loc=some (b,x)->w'.heap[b]?=w.heap[b]?/\∀j,g'.Φ b j=g.Φ b j) (a:RowB g w k):RowB g' w' k:=by
 cases k with
 | row i k es =>
  have a:RowOk g w i k es:=a;obtain ⟨t,c,e,_⟩:=id a;exact a.mono h ((f i t c e).trans c.symm) (d i)
 | dead=>trivial
 | _=>exact a.elim

structure LocOk (Φ:Nat->Nat->Option Value) (B:Nat) (w:World) (b l e:Nat):Prop where
 lo:B<=b
 lt:b < w.heap.size
 cells:∃cs ty,w.heap[b]?=some (.cells cs ty (0,0))/\e<=cs.size
 free:∀j,l<=j->Φ b j=none

theorem LocOk.mono {Φ Φ':Nat->Nat->Option Value} {B:Nat} {w:World} {b l e:Nat} (h:LocOk Φ B w b l e) (k:w.heap.size<=w'.heap.size) (c:w'.heap[b]?=w.heap[b]?)
  (d:∀j,l<=j->Φ' b j=Φ b j):LocOk Φ' B w' b l e :=
 ⟨h.lo,si h.lt k,by obtain ⟨cs,ty,i,f⟩:=h.cells;exact ⟨cs,ty,c.trans i,f⟩,λj a=>(d j a).trans (h.free j a)⟩

def Apart (g:Gh) (b:Nat):Prop:=(∀i:Nat,g.σ[i]? ≠ some (some b))/\b ∉ g.δ/\∀(i:Nat) (t:TI) (x:Nat×Nat),g.τ[i]?=some t->t.loc ≠ some (b,x)
def NOk (B:Nat) (g:Gh) (w:World) (b:Nat):BK->Prop
 | .new s=>B<=b/\Apart g b/\∃cs ty,w.heap[b]?=some (.cells cs ty (0,0))/\cs.size=s
 | .gar s f=>B<=b/\Apart g b/\(∃cs ty,w.heap[b]?=some (.cells cs ty (0,0))/\cs.size=s/\∀j k,f j=some k->∃v,cs[j]?=some v/\k.ok v)/\∀j,f j ≠ none->g.Φ b j=none
 | .shut o=>B<=b/\Apart g b/\w.heap[b]?=some o/\∀j,g.Φ b j=none
 | .frz o=>B<=b/\Apart g b/\w.heap[b]?=some o
theorem NOk.mono {B:Nat} {g g':Gh} {w:World} {b:Nat} {x:BK} (h:NOk B g w b x)
  (k:B<=b->b < w.heap.size->Apart g b->w'.heap[b]?=w.heap[b]?/\Apart g' b/\∀j,g.Φ b j=none->g'.Φ b j=none):NOk B g' w' b x:=by
 cases x with
 | new s =>
  obtain ⟨a,e,cs,ty,c,l⟩:=h;obtain ⟨d,k2,_⟩:=k a (uN.1 c).1 e;exact ⟨a,k2,cs,ty,d.trans c,l⟩
 | gar s f =>
  obtain ⟨a,e,⟨cs,ty,c,l⟩,m⟩:=h;obtain ⟨d,k2,i⟩:=k a (uN.1 c).1 e;exact ⟨a,k2,⟨cs,ty,d.trans c,l⟩,λj n=>i j (m j n)⟩
 | shut o =>
  obtain ⟨a,e,c,m⟩:=h;obtain ⟨d,k2,i⟩:=k a (uN.1 c).1 e;exact ⟨a,k2,d.trans c,λj=>i j (m j)⟩
 | frz o =>
  obtain ⟨a,e,c⟩:=h;obtain ⟨d,k2,_⟩:=k a (uN.1 c).1 e;exact ⟨a,k2,d.trans c⟩

structure Rel (B:Nat) (w0:World) (g:Gh) (h:AH) (w:World):Prop where
 below:Below B w0 w
 bsz:B<=w.heap.size
 phi:∀b j v,g.Φ b j=some v->w.cell? ⟨b,j,none⟩=some v
 slen:g.σ.length=h.blks.length
 blk:∀(i c:Nat) (k:Blk),g.σ[i]?=some (some c)->h.blks[i]?=some k->B<=c/\c < w.heap.size/\BlkOk g w c k/\(k ≠ .dead->∀j,g.Φ c j=none)
 tlen:g.τ.length=h.toks.length
 tok:∀(i:Nat) (t:TI),g.τ[i]?=some t->h.toks[i]?=some t.n/\∀b l e,t.loc=some (b,l,e)->LocOk g.Φ B w b l e
 sinj:∀(i j c:Nat),g.σ[i]?=some (some c)->g.σ[j]?=some (some c)->i=j
 tinj:∀(i j:Nat) (t t':TI) (b:Nat) (x y:Nat×Nat),g.τ[i]?=some t->g.τ[j]?=some t'->t.loc=some (b,x)->t'.loc=some (b,y)->i=j
 sep:∀(i c j:Nat) (t:TI) (b:Nat) (x:Nat×Nat),g.σ[i]?=some (some c)->g.τ[j]?=some t->t.loc=some (b,x)->b ≠ c
 dfr:∀c,c ∈ g.δ->B<=c/\w.heap[c]?=some (.deferred (some []))/\∀i:Nat,g.σ[i]? ≠ some (some c)
 row:∀(i:Nat) (k:Blk),g.σ[i]?=some none->h.blks[i]?=some k->RowB g w k
 rinj:∀(i j t k k':Nat) (es es':List (List AV)),h.blks[i]?=some (.row t k es)->h.blks[j]?=some (.row t k' es')->i=j
 nb:∀(b:Nat) (x:BK),g.N b=some x->NOk B g w b x
 ob:∀b:Nat,g.O b->b < w.heap.size/\∀s,g.N b ≠ some (.new s)/\∀f,g.N b ≠ some (.gar s f)
 oa:∀b:Nat,g.O b->Apart g b

section
variable {B:Nat} {w0 w:World} {g:Gh} {h:AH}

theorem Rel.phi_lt (r:Rel B w0 g h w) {b j:Nat} {v:Value} (e:g.Φ b j=some v):b < w.heap.size:=World.block_lt_of_cell? w ⟨b,j,none⟩ (r.phi b j v e)

theorem Rel.drew (r:Rel B w0 g h w):Rel B w0 g h w.drew :=
 ⟨r.below.drew,r.bsz,r.phi,r.slen,λi c k hc d=>by obtain ⟨f,a,p,n⟩:=r.blk i c k hc d;exact ⟨f,a,p.mono (Gh.le.refl g) rfl,n⟩,r.tlen,
   λi t j=>by obtain ⟨f,a⟩:=r.tok i t j;exact ⟨f,λb l e o=>(a b l e o).mono (ug _) rfl λ_ _=>rfl⟩,r.sinj,r.tinj,r.sep,r.dfr,λi k hi d=>(r.row i k hi d).mono (Gh.le.refl g) (λ_ _ h _=>h) (λ_ _ _ _ _ _ _=>⟨rfl,λ_=>rfl⟩),r.rinj,λb x m=>(r.nb b x m).mono λ_ _ q=>⟨rfl,q,λ_ h=>h⟩,r.ob,r.oa⟩
theorem Rel.nlt (r:Rel B w0 g h w) {b:Nat} {x:BK} (c:g.N b=some x):b < w.heap.size:=by
 have:=r.nb b x c;cases x with
 | new s=>obtain ⟨_,_,cs,ty,a,_⟩:=this;exact (uN.1 a).1
 | gar s f=>obtain ⟨_,_,⟨cs,ty,a,_⟩,_⟩:=this;exact (uN.1 a).1
 | shut o=>exact (uN.1 this.2.2.1).1
 | frz o=>exact (uN.1 this.2.2).1
theorem Rel.nnew (r:Rel B w0 g h w) {b:Nat} (a:w.heap.size<=b):g.N b=none:=by
 rcases hx:g.N b with _ | x
 ·rfl
 ·exact absurd (r.nlt hx) (by omega)
theorem Rel.ntok (r:Rel B w0 g h w) {i:Nat} {t:TI} {b:Nat} {y:Nat×Nat} (c:g.τ[i]?=some t) (a:t.loc=some (b,y)):g.N b=none:=by
 rcases hx:g.N b with _ | x
 ·rfl
 ·have:=r.nb b x hx;cases x <;> exact absurd a (this.2.1.2.2 i t y c)
theorem Rel.nsig (r:Rel B w0 g h w) {i c:Nat} (hi:g.σ[i]?=some (some c)):g.N c=none:=by
 rcases hx:g.N c with _ | x
 ·rfl
 ·have:=r.nb c x hx;cases x <;> exact absurd hi (this.2.1.1 i)
theorem Rel.otok (r:Rel B w0 g h w) {i:Nat} {t:TI} {b:Nat} {y:Nat×Nat} (c:g.τ[i]?=some t) (a:t.loc=some (b,y)):¬ g.O b:=λh=>(r.oa b h).2.2 i t y c a
theorem Rel.nold (r:Rel B w0 g h w) {b:Nat} (a:w.heap.size<=b):¬ g.O b:=λh=>absurd (r.ob b h).1 (by omega)
theorem Rel.dfr_lt (r:Rel B w0 g h w) {c:Nat} (hc:c ∈ g.δ):c < w.heap.size:=(uN.1 (r.dfr c hc).2.1).1

theorem Rel.alloc0 (r:Rel B w0 g h w) (o:Obj):Rel B w0 g h (w.alloc o) :=
 ⟨r.below.alloc r.bsz o,by have:=r.bsz;simp;omega,λb j v e=>(World.cell?_alloc_lt w o ⟨b,j,none⟩ (r.phi_lt e)).trans (r.phi b j v e),r.slen,
   λi c k hc n=>by
     obtain ⟨p,d,s,q⟩:=r.blk i c k hc n;exact ⟨p,by simp;omega,s.mono (Gh.le.refl g) (Below.heap_alloc w o c d),q⟩,r.tlen,
   λi t m=>by
     obtain ⟨p,d⟩:=r.tok i t m;exact ⟨p,λb l e a=>(d b l e a).mono (by simp) (Below.heap_alloc w o b (d b l e a).lt) λ_ _=>rfl⟩,r.sinj,r.tinj,r.sep,λc hc=>⟨(r.dfr c hc).1,(Below.heap_alloc w o c (r.dfr_lt hc)).trans (r.dfr c hc).2.1,(r.dfr c hc).2.2⟩,λi k hi n=>(r.row i k hi n).mono (Gh.le.refl g) (λ_ _ h _=>h) (λi t b x m _ a=>⟨Below.heap_alloc w o b ((r.tok i t m).2 b x.1 x.2 a).lt,λ_=>rfl⟩),r.rinj,λb x f=>(r.nb b x f).mono λ_ a u=>⟨Below.heap_alloc w o b a,u,λ_ h=>h⟩,λb f=>⟨by have:=(r.ob b f).1;simp;omega,(r.ob b f).2⟩,r.oa⟩

def Gh.addS (g:Gh) (c:Option Nat):Gh:={ g with σ:=g.σ++[c] }
theorem Gh.le_addS (g:Gh) (c:Option Nat):g.le (g.addS c) :=
 ⟨λ_ _ _ e=>e,λi x e=>by
  have:i < g.σ.length:=(uc.1 e).1;simp only [Gh.addS];rw [un this];exact e,λ_ t e=>⟨t,e,ug _,λ_=>rfl,rfl⟩,λ_ h=>h,λ_ _ h=>h,λ_ h=>h⟩
theorem addS_get {g:Gh} {c x:Option Nat} {i:Nat} (e:(g.addS c).σ[i]?=some x):g.σ[i]?=some x \/ (i=g.σ.length/\x=c):=by
 simp only [Gh.addS] at e
 grind

theorem Rel.adopt (r:Rel B w0 g h w) {c:Nat} (k:Blk) (J:B<=c) (hc:c < w.heap.size) (C:BlkOk (g.addS (some c)) w c k) (o:∀j,g.Φ c j=none)
  (hs:∀(i x:Nat),g.σ[i]?=some (some x)->x ≠ c) (F:∀(i:Nat) (t:TI) (b:Nat) (x:Nat×Nat),g.τ[i]?=some t->t.loc=some (b,x)->b ≠ c) (z:c ∉ g.δ) (A:g.N c=none) (v:¬ g.O c) :
  Rel B w0 (g.addS (some c)) (h.new k) w :=
 ⟨r.below,r.bsz,r.phi,by simp [Gh.addS,AH.new,r.slen],λi x k' d a=>by
   have n:=r.slen;rcases addS_get d with d | ⟨rfl,f⟩
   ·have hi:i < h.blks.length:=by rw [<- n];exact (uc.1 d).1
    simp only [AH.new] at a;rw [un hi] at a;obtain ⟨H,E,I,G⟩:=r.blk i x k' d a;exact ⟨H,E,I.mono (g.le_addS _) rfl,G⟩
   ·obtain rfl:=uo f;simp only [AH.new] at a;rw [n,uj (ug _)] at a;simp at a;subst a;exact ⟨J,hc,C,λ_=>o⟩,r.tlen,r.tok,
  λi j x hi p=>by
   rcases addS_get hi with hi | ⟨rfl,D⟩ <;> rcases addS_get p with p | ⟨rfl,e⟩
   ·exact r.sinj i j x hi p
   ·exact absurd (uo e) (hs i x hi)
   ·exact absurd (uo D) (hs j _ p)
   ·rfl,
  r.tinj,λi x j t b y d q u=>by
   rcases addS_get d with d | ⟨rfl,f⟩
   ·exact r.sep i x j t b y d q u
   ·obtain rfl:=uo f;exact F j t b y q u,
  λx d=>⟨(r.dfr x d).1,(r.dfr x d).2.1,λi hi=>by
   rcases addS_get hi with hi | ⟨_,f⟩
   ·exact (r.dfr x d).2.2 i hi
   ·obtain rfl:=uo f;exact z d⟩,
  λi k' hi a=>by
   rcases addS_get hi with hi | ⟨_,f⟩
   ·have u:i < h.blks.length:=by rw [<- r.slen];exact (uc.1 hi).1
    simp only [AH.new] at a;rw [un u] at a;exact (r.row i k' hi a).mono (g.le_addS _) (λ_ _ h _=>h) (λ_ _ _ _ _ _ _=>⟨rfl,λ_=>rfl⟩)
   ·exact absurd f (by simp),
  λi j t l k2 es es' hi p=>by
   have K:∀t l es,k ≠ .row t l es:=by rintro t l es rfl;exact C
   simp only [AH.new] at hi p;have key:∀(i t l:Nat) (es:List (List AV)),(h.blks++[k])[i]?=some (.row t l es)->h.blks[i]?=some (.row t l es):=by
    intro i t l es hi
    grind
   exact r.rinj i j t l k2 es es' (key _ _ _ _ hi) (key _ _ _ _ p),
  λb x m=>by
   by_cases hbc:b=c
   ·subst hbc;have m:g.N b=some x:=m;rw [A] at m;cases m
   ·exact (r.nb b x m).mono λ_ _ s=>⟨rfl,⟨λi hi=>by
     rcases addS_get hi with hi | ⟨_,f⟩
     ·exact s.1 i hi
     ·exact hbc (uo f),s.2⟩,λ_ h=>h⟩,r.ob,
  λb m=>by
   have s:=r.oa b m;refine ⟨λi hi=>?_,s.2⟩;rcases addS_get hi with hi | ⟨_,f⟩
   ·exact s.1 i hi
   ·obtain rfl:=uo f;exact v m⟩

theorem Rel.newBlk (r:Rel B w0 g h w) (o:Obj) (k:Blk) (c:BlkOk (g.addS (some w.heap.size)) (w.alloc o) w.heap.size k):Rel B w0 (g.addS (some w.heap.size)) (h.new k) (w.alloc o) :=
 (r.alloc0 o).adopt k r.bsz (by simp) c
  (λj=>by
   rcases he:g.Φ w.heap.size j with _ | v
   ·rfl
   ·exact absurd (r.phi_lt he) (tQ _))
  (λi x a e=>by
   have hi:i < h.blks.length:=by rw [<- r.slen];exact (uc.1 a).1
   have:=(r.blk i x _ a (uh hi)).2.1;omega)
  (λi t b x f d e=>by
   have:=((r.tok i t f).2 b x.1 x.2 d).lt;omega)
  (λhc=>tQ _ (r.dfr_lt hc)) (r.nnew (ug _)) (r.nold (ug _))

theorem Rel.newCells (r:Rel B w0 g h w) {cs:List AV} {vs:Array Value} (t:TypeId) (a:VA g cs vs.toList) :
  Rel B w0 (g.addS (some w.heap.size)) (h.new (.cells cs)) (w.alloc (.cells vs t)) :=
 r.newBlk _ _ ⟨vs,t,heap_alloc_new w _,a.mono (g.le_addS _)⟩

def Gh.vow (g:Gh) (b:Nat) (f:Nat->Option Value):Gh:={ g with Φ:=λb' j=>if b'=b then (match g.Φ b j with | some v=>some v | none=>f j) else g.Φ b' j }
theorem Gh.le_vow (g:Gh) (b:Nat) (f:Nat->Option Value):g.le (g.vow b f) :=
 ⟨λa j v e=>by
  simp only [Gh.vow];by_cases hb:a=b
  ·subst hb;simp [e]
  ·simp [hb,e],λ_ _ e=>e,λ_ t e=>⟨t,e,ug _,λ_=>rfl,rfl⟩,λ_ h=>h,λ_ _ h=>h,λ_ h=>h⟩

theorem Rel.vow (r:Rel B w0 g h w) {b:Nat} {f:Nat->Option Value} (C:∀j v,f j=some v->w.cell? ⟨b,j,none⟩=some v)
  (hs:∀(i c:Nat),g.σ[i]?=some (some c)->h.blks[i]? ≠ some .dead->c ≠ b)
  (y:∀(i:Nat) (t:TI) (l e:Nat),g.τ[i]?=some t->t.loc=some (b,l,e)->t.row=false/\∀j,l<=j->f j=none) (s:g.N b=none):Rel B w0 (g.vow b f) h w :=
 ⟨r.below,r.bsz,λa j v e=>by
   simp only [Gh.vow] at e;by_cases hb:a=b
   ·subst hb;simp only [ut] at e;split at e
    ·rename_i v' E;cases e;exact r.phi _ _ _ E
    ·exact C j v e
   ·simp only [hb,uJ] at e;exact r.phi _ _ _ e,r.slen,
  λi c k hc o=>by
   obtain ⟨q,n,D,z⟩:=r.blk i c k hc o;refine ⟨q,n,D.mono (g.le_vow b f) rfl,λhd j=>?_⟩;have m:c ≠ b:=hs i c hc (by rw [o];intro e;injection e with e;exact hd e);simp only [Gh.vow,m,uJ];exact z hd j,r.tlen,
  λi t hi=>by
   obtain ⟨q,n⟩:=r.tok i t hi;refine ⟨q,λa l e p=>(n a l e p).mono (ug _) rfl λj u=>?_⟩;simp only [Gh.vow];by_cases hb:a=b
   ·subst hb;simp only [ut,(n a l e p).free j u];exact (y i t l e hi p).2 j u
   ·simp only [hb,uJ],r.sinj,r.tinj,r.sep,r.dfr,
  λi k hi o=>(r.row i k hi o).mono (g.le_vow b f) (λ_ _ h _=>h) (λi t a x A G p=>⟨rfl,λj=>by
   have m:a ≠ b:=by
    rintro rfl
    grind
   simp only [Gh.vow,m,uJ]⟩),r.rinj,
  λa x d=>by
   by_cases hbb:a=b
   ·subst hbb;have d:g.N a=some x:=d;rw [s] at d;cases d
   ·exact (r.nb a x d).mono λ_ _ F=>⟨rfl,F,λj h=>by simp only [Gh.vow,hbb,uJ];exact h⟩,r.ob,r.oa⟩

theorem Rel.newRow (r:Rel B w0 g h w) (vs:Array Value) (t:TypeId) (n:Nat) :
  Rel B w0 (g.vow w.heap.size λj=>if j < n then vs[j]? else none) h (w.alloc (.cells vs t)) :=
 (r.alloc0 _).vow (λj v e=>by
   split at e
   ·simp_all
   ·cases e)
  (λi c hc _ e=>by
   have hi:i < h.blks.length:=by rw [<- r.slen];exact (uc.1 hc).1
   have:=(r.blk i c _ hc (uh hi)).2.1;omega)
  (λi t l e b a=>by
   have:=((r.tok i t b).2 _ l e a).lt;omega) (r.nnew (ug _))

theorem Rel.putObj (r:Rel B w0 g h w) {i c:Nat} {k k':Blk} (hc:g.σ[i]?=some (some c)) (P:h.blks[i]?=some k) (hd:k ≠ .dead) {w':World} (O:w'.os=w.os) (M:w'.tape=w.tape)
  (H:w'.output=w.output) (C:w'.heap.size=w.heap.size) (d:∀b,b ≠ c->w'.heap[b]?=w.heap[b]?) (N:BlkOk g w' c k'):Rel B w0 g (h.put i k') w':=by
 obtain ⟨U,R,_,p⟩:=r.blk i c k hc P;refine ⟨⟨O.trans r.below.os,M.trans r.below.tape,H.trans r.below.output,by rw [C];exact r.below.size,λb u=>(d b (by omega)).trans (r.below.block b u)⟩,
  by omega,λb j v e=>?_,by simp [AH.put,r.slen],λn I K A f=>?_,r.tlen,λn t E=>?_,r.sinj,r.tinj,r.sep,λx G=>⟨(r.dfr x G).1,(d x (by rintro rfl;exact (r.dfr x G).2.2 i hc)).trans (r.dfr x G).2.1,(r.dfr x G).2.2⟩,λn q s L=>?_,λy J t z k2 es es' m D=>?_,
  λb x u=>(r.nb b x u).mono λ_ _ Q=>⟨d b (by rintro rfl;exact Q.1 i hc),Q,λ_ h=>h⟩,λb u=>⟨by rw [C];exact (r.ob b u).1,(r.ob b u).2⟩,r.oa⟩
 ·have o:b ≠ c:=by rintro rfl;rw [p hd j] at e;cases e
  exact (World.cell?_of_block (w:=w) (w':=w') (a:=⟨b,j,none⟩) (d b o)).trans (r.phi b j v e)
 ·simp only [AH.put] at f;by_cases hi:n=i
  ·grind
  ·rw [uR (λe=>hi e.symm)] at f;obtain ⟨m,D,T,S⟩:=r.blk n I K A f;have o:I ≠ c:=by rintro rfl;exact hi (r.sinj _ _ _ A hc)
   exact ⟨m,by omega,T.mono (Gh.le.refl g) (d I o),S⟩
 ·obtain ⟨m,D⟩:=r.tok n t E;refine ⟨m,λb l e F=>(D b l e F).mono (by omega) (d b ?_) λ_ _=>rfl⟩;exact r.sep i c n t b (l,e) hc E F
 ·have hi:n ≠ i:=by rintro rfl;rw [hc] at s;cases s
  simp only [AH.put] at L;rw [uR (λe=>hi e.symm)] at L;exact (r.row n q s L).mono (Gh.le.refl g) (λ_ _ h _=>h) (λJ t b x E _ F=>⟨d b (r.sep i c J t b x hc E F),λ_=>rfl⟩)
 ·have key:∀(y t z:Nat) (es:List (List AV)),(h.blks.set i k')[y]?=some (.row t z es)->h.blks[y]?=some (.row t z es):=by
   intro y t z es m;by_cases hi:y=i
   ·subst hi;rw [uD (uc.1 P).1] at m;injection m with m;subst m;exact N.elim
   ·grind
  exact r.rinj y J t z k2 es es' (key _ _ _ _ m) (key _ _ _ _ D)
end
end Go.Vv
namespace Go.Vv
open Go Go.RowKit
section
variable {B:Nat} {w0 w:World} {g:Gh} {h:AH}

def Gh.setT (g:Gh) (i:Nat) (t:TI):Gh:={ g with τ:=g.τ.set i t }
def Gh.addT (g:Gh) (t:TI):Gh:={ g with τ:=g.τ++[t] }
theorem Gh.le_setT {g:Gh} {i:Nat} {t t':TI} (hi:g.τ[i]?=some t) (b:t.n < t'.n) (a:t'.row=t.row):g.le (g.setT i t') :=
 ⟨λ_ _ _ e=>e,λ_ _ e=>e,λj u e=>by
  simp only [Gh.setT];by_cases hj:j=i
  ·subst hj
   grind
  ·exact ⟨u,by grind,ug _,λ_=>rfl,rfl⟩,λ_ h=>h,λ_ _ h=>h,λ_ h=>h⟩
theorem Gh.le_addT (g:Gh) (t:TI):g.le (g.addT t) :=
 ⟨λ_ _ _ e=>e,λ_ _ e=>e,λj u e=>by
  simp only [Gh.addT];exact ⟨u,by grind,ug _,λ_=>rfl,rfl⟩,λ_ h=>h,λ_ _ h=>h,λ_ h=>h⟩

theorem Rel.setTok (r:Rel B w0 g h w) {i:Nat} {t t':TI} (hi:g.τ[i]?=some t) (P:t.n < t'.n) (M:t.row=false) (A:t'.row=false)
  (C:∀b l e,t'.loc=some (b,l,e)->LocOk g.Φ B w b l e)
  (hd:∀b x,t'.loc=some (b,x)->(∃y,t.loc=some (b,y)) \/ ((∀(j:Nat) (u:TI) (y:Nat×Nat),g.τ[j]?=some u->u.loc ≠ some (b,y))/\(∀(j c:Nat),g.σ[j]?=some (some c)->b ≠ c)/\g.N b=none/\¬ g.O b)) :
  Rel B w0 (g.setT i t') { h with toks:=h.toks.set i t'.n } w:=by
 have J:i < g.τ.length:=(uc.1 hi).1;have key:∀(j:Nat) (u:TI),(g.setT i t').τ[j]?=some u->(j=i/\u=t') \/ (j ≠ i/\g.τ[j]?=some u):=by
  intro j u e;simp only [Gh.setT] at e
  grind
 refine ⟨r.below,r.bsz,r.phi,r.slen,λU c k hc K=>?_,by simp [Gh.setT,r.tlen],λj u a=>?_,r.sinj,λj F u T b x y I f s L=>?_,λj c F u b x hc a s=>?_,r.dfr,
  λq k R K=>(r.row q k R K).mono (Gh.le_setT hi P (A.trans M.symm)) (λj u I V=>by
   have o:j ≠ i:=by grind
   simp only [Gh.setT];rw [uR (λe=>o e.symm)];exact I) (λ_ _ _ _ _ _ _=>⟨rfl,λ_=>rfl⟩),r.rinj,λb x p=>?_,r.ob,λb p=>?_⟩
 rotate_right
 rotate_right
 ·exact (r.nb b x p).mono λ_ _ m=>⟨rfl,⟨m.1,m.2.1,λj u y a D=>by
    rcases key j u a with ⟨rfl,rfl⟩ | ⟨_,a⟩
    ·rcases hd b y D with ⟨z,d⟩ | ⟨_,_,H,_⟩
     ·exact m.2.2 _ _ z hi d
     ·have p:g.N b=some x:=p
      simp_all
    ·exact m.2.2 j u y a D⟩,λ_ h=>h⟩
 ·have m:=r.oa b p;refine ⟨m.1,m.2.1,λj u y a D=>?_⟩;rcases key j u a with ⟨rfl,rfl⟩ | ⟨_,a⟩
  ·rcases hd b y D with ⟨z,d⟩ | ⟨_,_,_,H⟩
   ·exact m.2.2 _ _ z hi d
   ·exact H p
  ·exact m.2.2 j u y a D
 ·obtain ⟨G,v,H,S⟩:=r.blk U c k hc K;exact ⟨G,v,H.mono (Gh.le_setT hi P (A.trans M.symm)) rfl,S⟩
 ·rcases key j u a with ⟨rfl,rfl⟩ | ⟨I,a⟩
  ·exact ⟨uD (by rw [<- r.tlen];exact J),C⟩
  ·obtain ⟨G,v⟩:=r.tok j u a;exact ⟨by grind,v⟩
 ·rcases key j u I with ⟨rfl,rfl⟩ | ⟨o,E⟩ <;> rcases key F T f with ⟨rfl,rfl⟩ | ⟨Q,f⟩
  ·rfl
  ·rcases hd b x s with ⟨z,d⟩ | ⟨G,_⟩
   ·exact r.tinj _ _ _ _ b z y hi f d L
   ·grind
  ·rcases hd b y L with ⟨z,d⟩ | ⟨G,_⟩
   ·exact r.tinj _ _ _ _ b x z E hi s d
   ·grind
  ·exact r.tinj _ _ _ _ b x y E f s L
 ·rcases key F u a with ⟨rfl,rfl⟩ | ⟨o,a⟩
  ·rcases hd b x s with ⟨z,d⟩ | ⟨_,v,_⟩
   ·exact r.sep j c _ t b z hc hi d
   ·exact v j c hc
  ·exact r.sep j c F u b x hc a s

theorem Rel.addTok (r:Rel B w0 g h w) (t:TI) (m:∀b l e,t.loc=some (b,l,e)->LocOk g.Φ B w b l e)
  (hd:∀b x,t.loc=some (b,x)->(∀(j:Nat) (u:TI) (y:Nat×Nat),g.τ[j]?=some u->u.loc ≠ some (b,y))/\(∀(j c:Nat),g.σ[j]?=some (some c)->b ≠ c)/\g.N b=none/\¬ g.O b) :
  Rel B w0 (g.addT t) { h with toks:=h.toks++[t.n] } w:=by
 have key:∀(j:Nat) (u:TI),(g.addT t).τ[j]?=some u->(j=g.τ.length/\u=t) \/ (j < g.τ.length/\g.τ[j]?=some u):=by
  intro j u e;simp only [Gh.addT] at e
  grind
 refine ⟨r.below,r.bsz,r.phi,r.slen,λL c k hc C=>?_,by simp [Gh.addT,r.tlen],λj u a=>?_,r.sinj,λj p u I b x y o d v J=>?_,λj c p u b x hc a v=>?_,r.dfr,
  λq k G C=>(r.row q k G C).mono (Gh.le_addT g t) (λj u o _=>by
   simp only [Gh.addT];rw [un (uc.1 o).1];exact o) (λ_ _ _ _ _ _ _=>⟨rfl,λ_=>rfl⟩),r.rinj,λb x i=>?_,r.ob,λb i=>?_⟩
 rotate_right
 rotate_right
 ·exact (r.nb b x i).mono λ_ _ f=>⟨rfl,⟨f.1,f.2.1,λj u y a s=>by
    rcases key j u a with ⟨rfl,rfl⟩ | ⟨_,a⟩
    ·have i:g.N b=some x:=i
     simp_all
    ·exact f.2.2 j u y a s⟩,λ_ h=>h⟩
 ·have f:=r.oa b i;refine ⟨f.1,f.2.1,λj u y a s=>?_⟩;rcases key j u a with ⟨rfl,rfl⟩ | ⟨_,a⟩
  ·exact (hd b y s).2.2.2 i
  ·exact f.2.2 j u y a s
 ·obtain ⟨E,A,K,H⟩:=r.blk L c k hc C;exact ⟨E,A,K.mono (Gh.le_addT g t) rfl,H⟩
 ·rcases key j u a with ⟨rfl,rfl⟩ | ⟨o,a⟩
  ·refine ⟨?_,m⟩;rw [r.tlen,uj (ug _)];simp
  ·obtain ⟨E,A⟩:=r.tok j u a;exact ⟨by grind,A⟩
 ·rcases key j u o with ⟨rfl,rfl⟩ | ⟨z,D⟩ <;> rcases key p I d with ⟨rfl,rfl⟩ | ⟨F,d⟩
  ·rfl
  ·grind
  ·grind
  ·exact r.tinj _ _ _ _ b x y D d v J
 ·rcases key p u a with ⟨rfl,rfl⟩ | ⟨z,a⟩
  ·exact (hd b x v).2.1 j c hc
  ·exact r.sep j c p u b x hc a v

theorem Rel.setSpare (r:Rel B w0 g h w) {i:Nat} {t:TI} {b l e:Nat} (hi:g.τ[i]?=some t) (A:t.loc=some (b,l,e)) {cur new:Array Value} {ty:TypeId}
  (hc:w.heap[b]?=some (.cells cur ty (0,0))) (Y:new.size=cur.size) (z:∀j,j < l->new[j]?=cur[j]?):Rel B w0 g h (w.setRow b new):=by
 have lo:=(r.tok i t hi).2 b l e A;have n:(w.setRow b new).heap[b]?=some (.cells new ty (0,0)):=setRow_heap w b cur new ty (0,0) hc;refine ⟨⟨r.below.os,r.below.tape,r.below.output,by simp [r.below.size],λk C=>(setRow_other w b k new (by have:=lo.lo;omega)).trans (r.below.block k C)⟩,by simp [r.bsz],λd j v H=>?_,
  r.slen,λJ c k D C=>?_,r.tlen,λJ t' M=>?_,r.sinj,r.tinj,r.sep,λx I=>⟨(r.dfr x I).1,(setRow_other w b x new (by rintro rfl;have:=(r.dfr x I).2.1;rw [hc] at this;cases this)).trans (r.dfr x I).2.1,(r.dfr x I).2.2⟩,λq k U C=>?_,r.rinj,
  λd x f=>(r.nb d x f).mono λ_ _ R=>⟨setRow_other w b d new (by rintro rfl;exact R.2.2 i t _ hi A),R,λ_ h=>h⟩,λd f=>⟨by simpa using (r.ob d f).1,(r.ob d f).2⟩,r.oa⟩
 ·by_cases f:d=b
  ·subst f;have F:j < l:=by
    rcases sy j l with F | F
    ·exact F
    ·rw [lo.free j F] at H;cases H
   have:=r.phi d j v H;rw [cell_of_row w d j cur ty (0,0) hc] at this;rw [cell_of_row _ d j new ty (0,0) n,z j F];omega
  ·exact (World.cell?_of_block (w:=w) (a:=⟨d,j,none⟩) (setRow_other w b d new f)).trans (r.phi d j v H)
 ·obtain ⟨s,G,P,L⟩:=r.blk J c k D C;exact ⟨s,by simp_all,P.mono (Gh.le.refl g) (setRow_other w b c new (r.sep J c i t b (l,e) D hi A).symm),L⟩
 ·obtain ⟨s,G⟩:=r.tok J t' M;refine ⟨s,λd l' K N=>?_⟩;have u:=G d l' K N;by_cases f:d=b
  ·subst f;obtain ⟨cs,S,m,hle⟩:=u.cells;rw [hc] at m;injection m with m;injection m with m _ _;subst m;exact ⟨u.lo,by grind,⟨new,ty,n,by omega⟩,u.free⟩
  ·exact u.mono (by simp) (setRow_other w b d new f) λ_ _=>rfl
 ·have y:=r.row q k U C;cases k with
  | row i2 k es =>
   obtain ⟨T,s,G,P,L,W,h6⟩:=y;refine ⟨T,s,G,P,L,W,h6.imp id ?_⟩
   rintro ⟨E,o,X,cs,ty2,p,k2,V,k4,Q⟩
   by_cases f:E=b
   ·subst f;have O:=r.tinj _ _ _ _ E _ _ s hi p A;subst O;rw [hi] at s;injection s with s;subst s;rw [A] at p;injection p with p;injection p with _ p;injection p with p _;rw [hc] at k2;injection k2 with k2;injection k2 with k2 Z _;subst k2;refine ⟨E,o,e,new,ty,by rw [A,p],n,?_,by omega,Q⟩;have:(new.toList.drop o).take (es.length * k)=(cur.toList.drop o).take (es.length * k):=by
     apply uZ
     grind
    simp_all
   ·exact ⟨E,o,X,cs,ty2,p,(setRow_other w b E new f).trans k2,V,k4,Q⟩
  | dead=>trivial
  | _=>exact y.elim

theorem Rel.setRow (r:Rel B w0 g h w) {i q k:Nat} {t t':TI} {es es':List (List AV)} (hi:g.τ[i]?=some t) (hn:t.n < t'.n) (hf:t.row=true) (W:t'.row=true)
  (hq:g.σ[q]?=some none) (m:h.blks[q]?=some (.row i k es)) (K:RowOk (g.setT i t') w i k es')
  (I:∀b l e,t'.loc=some (b,l,e)->LocOk g.Φ B w b l e)
  (hd:∀b x,t'.loc=some (b,x)->(∃y,t.loc=some (b,y)) \/ ((∀(j:Nat) (u:TI) (y:Nat×Nat),g.τ[j]?=some u->u.loc ≠ some (b,y))/\(∀(j c:Nat),g.σ[j]?=some (some c)->b ≠ c)/\g.N b=none/\¬ g.O b)) :
  Rel B w0 (g.setT i t') { h.put q (.row i k es') with toks:=h.toks.set i t'.n } w:=by
 have T:i < g.τ.length:=(uc.1 hi).1;have L:=Gh.le_setT hi hn (W.trans hf.symm);have key:∀(j:Nat) (u:TI),(g.setT i t').τ[j]?=some u->(j=i/\u=t') \/ (j ≠ i/\g.τ[j]?=some u):=by
  intro j u e;simp only [Gh.setT] at e
  grind
 have hql:q < h.blks.length:=(uc.1 m).1;have d:∀(j:Nat) (b:Blk),(h.blks.set q (.row i k es'))[j]?=some b->(j=q/\b=.row i k es') \/ (j ≠ q/\h.blks[j]?=some b):=by
  grind
 refine ⟨r.below,r.bsz,r.phi,by simp [AH.put,Gh.setT,r.slen],λY c b hc H=>?_,by simp [Gh.setT,r.tlen],λj u a=>?_,r.sinj,λj M u u' b x y S s E X=>?_,λj c M u b x hc a E=>?_,r.dfr,
  λj b S H=>?_,λj1 j2 t1 k1 k2 e1 Z U A=>?_,λb x m=>?_,r.ob,λb m=>?_⟩
 rotate_right
 rotate_right
 ·exact (r.nb b x m).mono λ_ _ v=>⟨rfl,⟨v.1,v.2.1,λj u y a J=>by
    rcases key j u a with ⟨rfl,rfl⟩ | ⟨_,a⟩
    ·rcases hd b y J with ⟨z,p⟩ | ⟨_,_,R,_⟩
     ·exact v.2.2 _ _ z hi p
     ·have m:g.N b=some x:=m
      simp_all
    ·exact v.2.2 j u y a J⟩,λ_ h=>h⟩
 ·have v:=r.oa b m;refine ⟨v.1,v.2.1,λj u y a J=>?_⟩;rcases key j u a with ⟨rfl,rfl⟩ | ⟨_,a⟩
  ·rcases hd b y J with ⟨z,p⟩ | ⟨_,_,_,R⟩
   ·exact v.2.2 _ _ z hi p
   ·exact R m
  ·exact v.2.2 j u y a J
 ·have hc:g.σ[Y]?=some (some c):=hc;rcases d Y b H with ⟨rfl,rfl⟩ | ⟨o,H⟩
  ·simp_all
  ·obtain ⟨P,F,R,h4⟩:=r.blk Y c b hc H;exact ⟨P,F,R.mono L rfl,h4⟩
 ·rcases key j u a with ⟨rfl,rfl⟩ | ⟨S,a⟩
  ·exact ⟨uD (by rw [<- r.tlen];exact T),I⟩
  ·obtain ⟨P,F⟩:=r.tok j u a;exact ⟨by grind,F⟩
 ·rcases key j u S with ⟨rfl,rfl⟩ | ⟨o,A⟩ <;> rcases key M u' s with ⟨rfl,rfl⟩ | ⟨hne',s⟩
  ·rfl
  ·rcases hd b x E with ⟨z,p⟩ | ⟨P,_⟩
   ·exact r.tinj _ _ _ _ b z y hi s p X
   ·grind
  ·rcases hd b y X with ⟨z,p⟩ | ⟨P,_⟩
   ·exact r.tinj _ _ _ _ b x z A hi E p
   ·grind
  ·exact r.tinj _ _ _ _ b x y A s E X
 ·rcases key M u a with ⟨rfl,rfl⟩ | ⟨o,a⟩
  ·rcases hd b x E with ⟨z,p⟩ | ⟨_,F,_⟩
   ·exact r.sep j c _ t b z hc hi p
   ·exact F j c hc
  ·exact r.sep j c M u b x hc a E
 ·rcases d j b H with ⟨rfl,rfl⟩ | ⟨o,f⟩
  ·exact K
  ·have Q:=r.row j b S f;cases b with
   | row i2 k2 Z =>
    have Q:RowOk g w i2 k2 Z:=Q;have V:i2 ≠ i:=by rintro rfl;exact o (r.rinj _ _ _ _ _ _ _ f m)
    exact Q.mono L (by simp only [Gh.setT];exact uR (λe=>V e.symm)) (λ_ _ _ _ _ _=>⟨rfl,λ_=>rfl⟩)
   | dead=>trivial
   | _=>exact Q.elim
 ·rcases d j1 _ U with ⟨rfl,D⟩ | ⟨hne1,G⟩ <;> rcases d j2 _ A with ⟨rfl,C⟩ | ⟨hne2,f⟩
  ·rfl
  ·injection D with D _ _;subst D;exact r.rinj _ _ _ _ _ _ _ m f
  ·injection C with C _ _;subst C;exact r.rinj _ _ _ _ _ _ _ G m
  ·exact r.rinj _ _ _ _ _ _ _ G f

theorem Rel.rowAt (r:Rel B w0 g h w) {id q k:Nat} {es:List (List AV)} (a:h.blk id=some (.row q k es)):g.σ[id]?=some none/\RowOk g w q k es:=by
 have b:id < g.σ.length:=by rw [r.slen];exact (uc.1 a).1
 rcases hc:g.σ[id] with _ | c
 ·have hc:g.σ[id]?=some none:=by rw [uh b,hc]
  exact ⟨hc,r.row _ _ hc a⟩
 ·exact (r.blk id c _ (by simp_all) a).2.2.1.elim

theorem Rel.storeRow (r:Rel B w0 g h w) {q i k:Nat} {es es':List (List AV)} (p:h.blk q=some (.row i k es)) {t:TI} {b o e:Nat} {cur new:Array Value} {ty:TypeId} (hi:g.τ[i]?=some t)
  (O:t.loc=some (b,o+es.length * k,e)) (hc:w.heap[b]?=some (.cells cur ty (0,0))) (hsz:new.size=cur.size) (C:∀j,j < o->new[j]?=cur[j]?) (H:es'.length=es.length)
  (hk:∀e ∈ es',e.length=k) (hp:es'.flatten.all AV.pure=true) (hva:VA g es'.flatten ((new.toList.drop o).take (es.length * k))) (hne:es ≠ []) :
  Rel B w0 g (h.put q (.row i k es')) (w.setRow b new):=by
 obtain ⟨hσ,t2,m,U,S,_,_,hrow⟩:=r.rowAt p;rw [hi] at m;injection m with m;subst m;obtain ⟨F,G,N,cs,ty2,D,k2,k3,k4,k5⟩:∃F G N cs ty2,t.loc=some (F,G+es.length * k,N)/\w.heap[F]?=some (.cells cs ty2 (0,0))/\VA g es.flatten ((cs.toList.drop G).take (es.length * k))/\G+es.length * k<=cs.size/\∀j,G<=j->g.Φ F j=none:=by
  simp_all
 rw [O] at D;injection D with D;injection D with e1 D;injection D with D _;obtain rfl:o=G:=by omega
 subst e1;rw [hc] at k2;injection k2 with k2;injection k2 with k2 _ _;subst k2;have lo:=(r.tok i t hi).2 b _ e O;have n:(w.setRow b new).heap[b]?=some (.cells new ty (0,0)):=setRow_heap w b cur new ty (0,0) hc;have hql:q < h.blks.length:=(uc.1 p).1;have f:∀(j:Nat) (x:Blk),(h.blks.set q (.row i k es'))[j]?=some x->(j=q/\x=.row i k es') \/ (j ≠ q/\h.blks[j]?=some x):=by
  grind
 have I:∀(u c:Nat),g.σ[u]?=some (some c)->c ≠ b:=λu c h'=>(r.sep u c i t b _ h' hi O).symm;refine ⟨⟨r.below.os,r.below.tape,r.below.output,by simp [r.below.size],λx y=>(setRow_other w b x new (by have:=lo.lo;omega)).trans (r.below.block x y)⟩,by simp [r.bsz],λd j v e'=>?_,
  by simp [AH.put,r.slen],λu c x L z=>?_,r.tlen,λu t' T=>?_,r.sinj,r.tinj,r.sep,λx y=>⟨(r.dfr x y).1,(setRow_other w b x new (by rintro rfl;have:=(r.dfr x y).2.1;rw [hc] at this;cases this)).trans (r.dfr x y).2.1,(r.dfr x y).2.2⟩,
  λj x V y=>?_,λj1 j2 t1 x1 x2 e1 N W hj2=>?_,
  λd x p=>(r.nb d x p).mono λ_ _ ha=>⟨setRow_other w b d new (by rintro rfl;exact ha.2.2 i t _ hi O),ha,λ_ h=>h⟩,λd p=>⟨by simpa using (r.ob d p).1,(r.ob d p).2⟩,r.oa⟩
 ·by_cases hb':d=b
  ·subst hb';have V:j < o:=by
    grind
   have:=r.phi d j v e';rw [cell_of_row w d j cur ty (0,0) hc] at this;rw [cell_of_row _ d j new ty (0,0) n,C j V];omega
  ·exact (World.cell?_of_block (w:=w) (a:=⟨d,j,none⟩) (setRow_other w b d new hb')).trans (r.phi d j v e')
 ·rcases f u x z with ⟨rfl,rfl⟩ | ⟨_,z⟩
  ·simp_all
  ·obtain ⟨Y,h2,h3,h4⟩:=r.blk u c x L z;exact ⟨Y,by simp_all,h3.mono (Gh.le.refl g) (setRow_other w b c new (I u c L)),h4⟩
 ·obtain ⟨Y,h2⟩:=r.tok u t' T;refine ⟨Y,λd l' R Z=>?_⟩;have s:=h2 d l' R Z;by_cases hb':d=b
  ·subst hb';obtain ⟨cs,ty',l,hle⟩:=s.cells;rw [hc] at l;injection l with l;injection l with l _ _;subst l;exact ⟨s.lo,by grind,⟨new,ty,n,by omega⟩,s.free⟩
  ·exact s.mono (by simp) (setRow_other w b d new hb') λ_ _=>rfl
 ·rcases f j x y with ⟨rfl,rfl⟩ | ⟨J,M⟩
  ·exact ⟨t,hi,U,S.trans H.symm,hk,hp,.inr ⟨b,o,e,new,ty,by simp_all,n,by simp_all,by simp_all,k5⟩⟩
  ·have Q:=r.row j x V M;cases x with
   | row i2 k2 N =>
    have Q:RowOk g w i2 k2 N:=Q;refine Q.mono (Gh.le.refl g) rfl λt2 F x2 m _ X=>⟨setRow_other w b F new ?_,λ_=>rfl⟩
    rintro rfl
    have:=r.tinj _ _ _ _ F _ _ m hi X O;subst this;exact J (r.rinj _ _ _ _ _ _ _ M p)
   | dead=>trivial
   | _=>exact Q.elim
 ·rcases f j1 _ W with ⟨rfl,A⟩ | ⟨hne1,P⟩ <;> rcases f j2 _ hj2 with ⟨rfl,E⟩ | ⟨hne2,K⟩
  ·rfl
  ·injection A with A _ _;subst A;exact r.rinj _ _ _ _ _ _ _ p K
  ·injection E with E _ _;subst E;exact r.rinj _ _ _ _ _ _ _ P p
  ·exact r.rinj _ _ _ _ _ _ _ P K
theorem Rel.scribble (r:Rel B w0 g h w) {b s:Nat} {f:Nat->Option HK} (L:g.N b=some (.gar s f)) {cur new:Array Value} {ty:TypeId}
  (hc:w.heap[b]?=some (.cells cur ty (0,0))) (R:new.size=cur.size) (l:∀j,f j=none->new[j]?=cur[j]?) (H:∀j k,f j=some k->∃v,new[j]?=some v/\k.ok v):Rel B w0 g h (w.setRow b new):=by
 obtain ⟨X,⟨y,had,G⟩,⟨S,M,z,O,J⟩,o⟩:=r.nb b _ L;have i:(w.setRow b new).heap[b]?=some (.cells new ty (0,0)):=setRow_heap w b cur new ty (0,0) hc;refine ⟨⟨r.below.os,r.below.tape,r.below.output,by simp [r.below.size],λk n=>(setRow_other w b k new (by omega)).trans (r.below.block k n)⟩,by simp [r.bsz],λd j v u=>?_,
  r.slen,λI c k C n=>?_,r.tlen,λI t' D=>?_,r.sinj,r.tinj,r.sep,λx p=>⟨(r.dfr x p).1,(setRow_other w b x new (by grind)).trans (r.dfr x p).2.1,(r.dfr x p).2.2⟩,λq k P n=>?_,r.rinj,λd x e=>?_,λd e=>⟨by simpa using (r.ob d e).1,(r.ob d e).2⟩,r.oa⟩
 ·by_cases hne:d=b
  ·subst hne;have E:f j=none:=by
    rcases p:f j with _ | k
    ·rfl
    ·have:=o j (by rw [p];simp);rw [this] at u;cases u
   have m:=r.phi d j v u;rw [cell_of_row w d j cur ty (0,0) hc] at m;rw [cell_of_row _ d j new ty (0,0) i,l j E];exact m
  ·exact (World.cell?_of_block (w:=w) (a:=⟨d,j,none⟩) (setRow_other w b d new hne)).trans (r.phi d j v u)
 ·obtain ⟨m,K,U,Q⟩:=r.blk I c k C n;exact ⟨m,by simp_all,U.mono (Gh.le.refl g) (setRow_other w b c new (by grind)),Q⟩
 ·obtain ⟨m,K⟩:=r.tok I t' D;exact ⟨m,λd W A F=>(K d W A F).mono (by simp) (setRow_other w b d new (by grind)) λ_ _=>rfl⟩
 ·exact (r.row q k P n).mono (Gh.le.refl g) (λ_ _ h _=>h) (λY t T x Z _ hl=>⟨setRow_other w b T new (by grind),λ_=>rfl⟩)
 ·by_cases hbb:d=b
  ·subst hbb;rw [L] at e;injection e with e;subst e;rw [z] at hc;injection hc with hc;injection hc with hc _ _;subst hc;exact ⟨X,⟨y,had,G⟩,⟨new,ty,i,by omega,H⟩,o⟩
  ·exact (r.nb d x e).mono λ_ _ V=>⟨setRow_other w b d new hbb,V,λ_ h=>h⟩
def Gh.addN (g:Gh) (b:Nat) (x:BK):Gh:={ g with N:=λc=>if c=b then some x else g.N c }
theorem Gh.le_addN {g:Gh} {b:Nat} (x:BK) (h:g.N b=none):g.le (g.addN b x) :=
 ⟨λ_ _ _ e=>e,λ_ _ e=>e,λ_ t e=>⟨t,e,ug _,λ_=>rfl,rfl⟩,λ_ h=>h,λc y e=>by
  simp only [Gh.addN];by_cases hc:c=b
  ·subst hc;rw [h] at e;cases e
  ·simp [hc,e],λ_ h=>h⟩
theorem Rel.mark (r:Rel B w0 g h w) {b:Nat} {cs:Array Value} {ty:TypeId} (l:g.N b=none) (s:B<=b) (hc:w.heap[b]?=some (.cells cs ty (0,0))) (j:Apart g b) (p:¬ g.O b):Rel B w0 (g.addN b (.new cs.size)) h w :=
 ⟨r.below,r.bsz,r.phi,r.slen,λi c k hc f=>by obtain ⟨o,m,q,n⟩:=r.blk i c k hc f;exact ⟨o,m,q.mono (Gh.le_addN _ l) rfl,n⟩,r.tlen,r.tok,r.sinj,r.tinj,r.sep,r.dfr,
   λi k hi f=>(r.row i k hi f).mono (Gh.le_addN _ l) (λ_ _ h _=>h) (λ_ _ _ _ _ _ _=>⟨rfl,λ_=>rfl⟩),r.rinj,λd x a=>by
     simp only [Gh.addN] at a;by_cases hbb:d=b
     · subst hbb;simp only [ut,ui] at a;subst a;exact ⟨s,j,cs,ty,hc,rfl⟩
     · simp only [hbb,uJ] at a;exact (r.nb d x a).mono λ_ _ j=>⟨rfl,j,λ_ h=>h⟩,λd a=>by
     have e:d ≠ b:=by rintro rfl;exact p a
     have:=r.ob d a;simp only [Gh.addN,e,uJ];exact this,r.oa⟩
end
end Go.Vv
namespace Go.Vv
open Go Go.RowKit Go.Lib
variable {t u ty e:TypeId} {du:TypeDesc} {i:TypeInfo}
section
variable {g:Gh}
theorem VC.toVA {b:Nat}:∀{o:Nat} {a5:List AV},VC g b o a5->∃vs:List Value,VA g a5 vs/\a5.all AV.pure=true/\∀j u,vs[j]?=some u->g.Φ b (o+j)=some u
 | _,[],_=>⟨[],by rfl,rfl,by simp⟩
 | o,a::r,h=>by
  simp only [VC] at h;obtain ⟨⟨v,h0,c,k⟩,l⟩:=h;obtain ⟨vs,d,f,k2⟩:=VC.toVA l;refine ⟨v::vs,by simp only [VA];exact ⟨v,vs,rfl,⟨AV.one_of_pure c,k⟩,d⟩,by simp [c,f],λj u m=>?_⟩
  grind
theorem VCh.toVA {B:Nat} {w0 w:World} {h:AH} (r:Rel B w0 g h w) {b:Nat}:∀{o:Nat} {a5:List AV},VCh g b o a5->∃vs:List Value,VA g a5 vs/\∀j u,vs[j]?=some u->w.cell? ⟨b,o+j,none⟩=some u
 | _,[],_=>⟨[],by rfl,by simp⟩
 | o,a::rs,l=>by
  simp only [VCh] at l;obtain ⟨d,z⟩:=l;obtain ⟨vs,q,k2⟩:=VCh.toVA r z;obtain ⟨v,c,E,hc⟩:∃v,a.one=true/\V g a v/\w.cell? ⟨b,o,none⟩=some v:=by
   rcases d with d | ⟨v,C,x,D⟩
   ·cases a with
    | hol k =>
     obtain ⟨s,f,A,y⟩:=d;obtain ⟨_,_,⟨cs,ty,hh,_,n⟩,_⟩:=r.nb b _ A;obtain ⟨v,l,p⟩:=n o k y;refine ⟨v,rfl,by simp only [V];exact p,?_⟩;simp [World.cell?,hh,l]
    | _=>exact d.elim
   ·exact ⟨v,AV.one_of_pure x,D,r.phi _ _ _ C⟩
  refine ⟨v::vs,by simp only [VA];exact ⟨v,vs,rfl,⟨c,E⟩,q⟩,λj u m=>?_⟩;cases j with
  | zero=>simp only [sR,ui] at m;subst m;exact hc
  | succ j =>
   rw [show o+(j+1)=o+1+j by omega];exact k2 j u (by simpa using m)
theorem VCh.drop {b:Nat}:∀(n:Nat) {o:Nat} {a5:List AV},VCh g b o a5->VCh g b (o+n) (a5.drop n)
 | 0,_,_,h=>h
 | n+1,o,[],_=>by simp only [List.drop_nil,VCh]
 | n+1,o,a::r,h=>by
  simp only [VCh] at h;rw [r7,show o+(n+1)=o+1+n by omega];exact VCh.drop n h.2
theorem VEh.get {b k:Nat}:∀{o:Nat} {es:List (List AV)},VEh g b k o es->∀(i:Nat) (e:List AV),es[i]?=some e->e.length=k/\VCh g b (o+i * k) e
 | _,[],_,i,e,h=>by simp at h
 | o,x::r,h,i,e,hi=>by
  simp only [VEh] at h;cases i with
  | zero =>
   simp only [sR,ui] at hi;subst hi;rw [Nat.zero_mul,tL];exact h.1
  | succ i =>
   have:=VEh.get h.2 i e (by simpa using hi);rw [show o+(i+1) * k=o+k+i * k by rw [t8];omega];exact this
theorem VC.ofVA {b:Nat}:∀{o:Nat} {a5:List AV} {vs:List Value},VA g a5 vs->a5.all AV.pure=true->(∀j u,vs[j]?=some u->g.Φ b (o+j)=some u)->VC g b o a5
 | _,[],_,_,_,_=>by simp only [VC]
 | o,a::r,vs,h,hp,k=>by
  simp only [VA] at h;obtain ⟨v,s,rfl,⟨h0,d⟩,c⟩:=h;simp only [tf,ud] at hp;simp only [VC];refine ⟨⟨v,by simpa using k 0 v rfl,hp.1,d⟩,VC.ofVA (o:=o+1) c hp.2 λj u f=>?_⟩;rw [show o+1+j=o+(j+1) by omega]
  simp_all
theorem VE_iff {b k:Nat}:∀{o:Nat} {es:List (List AV)},VE g b k o es ↔ (∀e ∈ es,e.length=k)/\VC g b o es.flatten
 | o,[]=>by simp [VE,VC]
 | o,e::r=>by
  simp only [VE,VE_iff (es:=r),uU,uP,forall_eq_or_imp];constructor
  ·rintro ⟨⟨a,f⟩,d,c⟩
   exact ⟨⟨a,d⟩,VC.append f (by simp_all)⟩
  ·rintro ⟨⟨a,d⟩,c⟩
   refine ⟨⟨a,?_⟩,d,?_⟩
   ·have:=VC.take e.length c;rwa [pg] at this
   ·have:=VC.drop e.length c;rwa [rb,a] at this
theorem VA.one':∀{a5:List AV} {vs:List Value},VA g a5 vs->∀u ∈ vs,u.oneCell'=true
 | [],_,h,u,c=>by simp only [VA] at h;subst h;cases c
 | a::r,_,h,u,c=>by
  simp only [VA] at h;obtain ⟨v,s,rfl,⟨h0,b⟩,d⟩:=h;rcases uP.1 c with rfl | c
  ·cases a <;> simp only [V] at b <;> first
    | exact b
    | (subst b;rfl)
    | (obtain ⟨rfl,_⟩:=b;rfl)
    | (obtain ⟨_,_,rfl⟩:=b;rfl)
    | (obtain ⟨_,_,rfl,_⟩:=b;rfl)
    | (obtain ⟨_,_,_,rfl,_⟩:=b;rfl)
    | (obtain ⟨_,rfl,_⟩:=b;rfl)
    | (obtain ⟨_,_,_,rfl,_⟩:=b;rfl)
    | (rename_i k;cases k <;> obtain ⟨_,rfl⟩:=b <;> rfl)
    | (simp [AV.one] at h0;done)
  ·exact VA.one' d u c
theorem VA.length {a5:List AV} {vs:List Value} (h:VA g a5 vs):a5.length=vs.length:=h.toVL.length
theorem yT {k:Nat}:∀{es:List (List AV)},(∀e ∈ es,e.length=k)->es.flatten.length=es.length * k
 | [],_=>by simp
 | e::r,h=>by
  simp only [uU,uq,ux];rw [yT (es:=r) (λx a=>h x (by simp [a])),h e (by simp),t8];omega
end
section
variable {P:Program} {w:World}
structure News (P:Program) (size m:Nat) (x:Value) (news:List Value) (w:World):Prop where
 len:(Builtin.lenOf x).run P w=.ok m w
 cells:(Builtin.firstCells size m x).run P w=.ok news.toArray w

theorem News.slice {size m c:Nat} {b:Addr} {a:List Value} (d:a.length=m * size) (h:∀j v,a[j]?=some v->w.cell? (b.add j)=some v):News P size m (.slice (some b) m c) a w :=
 ⟨rfl,run_firstCells_some w size m b m c a d h⟩
theorem News.str {size:Nat} {s:ByteArray}:News P size s.size (.string s) (strCells s) w:=⟨rfl,run_firstCells_string w size s⟩

def NotInt (d:TypeDesc):Prop:=d=.string \/ ∃e,d=.slice e

theorem run_append_in (q:P.underlying t=some (.slice e)) (s:P.underlying u=some du) (k:NotInt du) (hi:P.info? e=some i)
  {b o n m c:Nat} {x:Value} {a:List Value} (p:News P i.size m x a w) (r:∀u ∈ a,u.oneCell'=true) {cur:Array Value} {l:TypeId} (hc:w.heap[b]?=some (.cells cur l (0,0)))
  (d:n+m<=c) (hfit:o+n * i.size+a.length<=cur.size) :
  (Builtin.append_ #[t,u] ty #[.slice (some ⟨b,o,none⟩) n c,x]).run P w =
   .ok (.slice (some ⟨b,o,none⟩) (n+m) c) (w.setRow b (cur.toList.take (o+n * i.size)++a++cur.toList.drop (o+n * i.size+a.length)).toArray):=by
 have f:=run_storeCells_at P b (o+n * i.size) l a 0 cur w hc (by omega) r;simp only [tL] at f;have j:(⟨b,o,none⟩:Addr).add (n * i.size)=⟨b,o+n * i.size,none⟩:=by unfold Addr.add;split <;> simp_all
 rcases k with rfl | ⟨_,rfl⟩ <;> simp [Builtin.append_,run_underlying q,run_underlying s,sizeOf,typeInfo,hi,p.len,d,p.cells,j,f]

theorem run_append_out {z:Value} (p:P.underlying t=some (.slice e)) (v:P.underlying u=some du) (l:NotInt du) (hi:P.info? e=some i) (r:i.zero=some z)
  {n m c:Nat} {a:Option Addr} {x:Value} {d b:List Value} (A:News P i.size m x b w) (k:News P i.size m x b w.drew) (s:(Builtin.firstCells i.size n (.slice a n c)).run P w.drew=.ok d.toArray w.drew)
  (f:c < n+m) (j:n+m<=maxLen) (hfit:Builtin.nextslicecap (n+m) c * i.bytes<=281474976710656) :
  (Builtin.append_ #[t,u] ty #[.slice a n c,x]).run P w =
   .ok (.slice (some ⟨w.heap.size,0,none⟩) (n+m) (grownCap w (n+m) c e))
    (w.drew.alloc (.cells (d.toArray++b.toArray++Builtin.zeroCells z.cells (grownCap w (n+m) c e - (n+m))) e)):=by
 have q:¬ (n+m<=c):=by omega
 have o:¬ (9223372036854775807 < ((n:Int)+(m:Int))):=by simp only [maxLen] at j;omega
 have y:¬ (281474976710656 < Builtin.nextslicecap (n+m) c * i.bytes):=by omega
 rcases l with rfl | ⟨_,rfl⟩ <;> simp [Builtin.append_,run_underlying p,run_underlying v,sizeOf,typeInfo,zeroValue,hi,r,A.len,q,o,y,s,k.cells,newRow,grownCap,Question.forced] <;> (congr 2;apply ph;simp [uC])
end
section
variable {P:Program} {w:World} {g:Gh} {h:AH} {B:Nat} {w0:World}

theorem append_row (r:Rel B w0 g h w) {t u ty e:TypeId} {du:TypeDesc} {i:TypeInfo} {z:Value} (ht:P.underlying t=some (.slice e)) (hu:P.underlying u=some du) (hdu:NotInt du) (hi:P.info? e=some i) (hz:i.zero=some z)
  (hzs:z.cells.size=i.size) (hby:i.bytes<=65536) {id q n:Nat} {es:List (List AV)} {sv x:Value} (hs:V g (.rsl id q i.size n) sv) {ys:List (List AV)} {news:List Value} (hl:∀e ∈ ys,e.length=i.size) (hva:VA g ys.flatten news) (hpu:ys.flatten.all AV.pure=true)
  (hn:∀W:World,(∀a v,w.cell? a=some v->W.cell? a=some v)->News P i.size ys.length x news W) (hb:h.blk id=some (.row q i.size es)) (hesn:es.length=n) (htok:h.toks[q]?=some n) (hlim:n+ys.length<=lim) (hy:ys.length ≠ 0) :
  ∃v w' g',(Builtin.append_ #[t,u] ty #[sv,x]).run P w=.ok v w'/\g.le g'/\Rel B w0 g' { h.put id (.row q i.size (es++ys)) with toks:=h.toks.set q (n+ys.length) } w'/\V g' (.rsl id q i.size (n+ys.length)) v:=by
 have hn0:=hn w λ_ _ h=>h;subst hesn;unfold lim at hlim;obtain ⟨hσ,ti,hti,htr,htn,hlen,hpe,hrow⟩:=r.rowAt hb;simp only [V] at hs;obtain ⟨a,c,rfl,hc1,hc2,t2,ht2,hrd,hle,hcap⟩:=hs;obtain rfl:ti=t2:=by simp_all
 have hcap:(es.length=0/\c=0) \/ ∃b o,a=some ⟨b,o,none⟩/\ti.loc=some (b,o+es.length * i.size,o+c * i.size):=hcap.imp (λh=>h) λ⟨b,o,h1,h2⟩=>⟨b,o,h1,h2 htn.symm⟩
 have hnl:news.length=ys.length * i.size:=by rw [<- hva.length,yT hl]
 have hfl:es.flatten.length=es.length * i.size:=yT hlen
 -- the row's cells
 obtain ⟨olds,hov,hold⟩:∃olds:List Value,VA g es.flatten olds/\(Builtin.firstCells i.size es.length (.slice a es.length c)).run P w.drew=.ok olds.toArray w.drew:=by
  rcases hrow with rfl | ⟨b,o,e2,cs,ty2,k1,k2,k3,k4,k5⟩
  ·refine ⟨[],by rfl,?_⟩;cases a with
   | none=>simp [Builtin.firstCells]
   | some ad=>simp [Builtin.firstCells,loadCells,loadCellsFrom]
  ·rcases hcap with ⟨h0,_⟩ | ⟨b',o',rfl,hl'⟩
   ·have:es=[]:=uH h0;subst this;refine ⟨[],by rfl,?_⟩;cases a with
    | none=>simp [Builtin.firstCells]
    | some ad=>simp [Builtin.firstCells,loadCells,loadCellsFrom]
   ·rw [k1] at hl';injection hl' with hl';injection hl' with e1 e2';injection e2' with e2' e3;obtain rfl:o=o':=by omega
    subst e1;refine ⟨_,k3,run_firstCells_some w.drew i.size es.length ⟨b,o,none⟩ es.length c _ (by grind) λj v hv=>?_⟩;rw [World.cell?_drew];have hadd:(⟨b,o,none⟩:Addr).add j=⟨b,o+j,none⟩:=by unfold Addr.add;split <;> simp_all
    rw [hadd,cell_of_row w b (o+j) cs ty2 (0,0) k2]
    grind
 have hol:olds.length=es.length * i.size:=by rw [<- hov.length,hfl]
 by_cases hroom:es.length+ys.length<=c
 ·-- in place
  rcases hcap with ⟨h0,h1⟩ | ⟨b,o,rfl,hlb⟩
  ·omega
  ·obtain ⟨_,hloc⟩:=r.tok _ _ hti;have lo:=hloc b _ _ hlb;obtain ⟨cur,ty',hcur,hce⟩:=lo.cells;have hmul:es.length * i.size+news.length<=c * i.size:=by rw [hnl,<- te];exact u7 _ hroom
   have hrun:=run_append_in (ty:=ty) ht hu hdu hi hn0 hva.one' hcur hroom (o:=o) (by omega);have hold2:VA g es.flatten ((cur.toList.drop o).take (es.length * i.size))/\∀j,o<=j->g.Φ b j=none:=by
    rcases hrow with rfl | ⟨b2,o2,e2,cs,ty2,k1,k2,k3,k4,k5⟩
    ·exact ⟨by simp [VA],λj hj=>lo.free j (by simp_all)⟩
    ·simp_all
   generalize hnew:(cur.toList.take (o+es.length * i.size)++news++cur.toList.drop (o+es.length * i.size+news.length)).toArray=new at hrun;have hfit:o+es.length * i.size+news.length<=cur.size:=by omega
   have hnsz:new.size=cur.size:=by grind
   have hlow:∀j,j < o+es.length * i.size->new[j]?=cur[j]?:=λj hj=>by
    grind
   have r1:=r.setSpare hti hlb hcur hnsz hlow;have hheap:=setRow_heap w b cur new ty' (0,0) hcur;have hcont:(new.toList.drop o).take ((es.length+ys.length) * i.size)=(cur.toList.drop o).take (es.length * i.size)++news:=by
    rw [<- hnew];simp only [uC];rw [sm (by simp;omega),pi,uv,te,<- hnl];rw [tV,uK (by simp;omega)];congr 1;rw [uV (by simp;omega),uK (by simp;omega)]
   let T:TI:=⟨es.length+ys.length,some (b,o+(es.length+ys.length) * i.size,o+c * i.size),true⟩
   have hle2:g.le (g.setT q T):=Gh.le_setT (t':=T) hti (by grind) htr.symm;have hT:(g.setT q T).τ[q]?=some T:=uD (uc.1 hti).1;have r2:=r1.setRow (t':=T) (q:=id) hti (by grind) htr rfl hσ hb (es':=es++ys)
    ⟨T,hT,rfl,by simp [T],λe he=>(uG.1 he).elim (hlen e) (hl e),by grind,
     .inr ⟨b,o,o+c * i.size,new,ty',by simp [T],hheap,by rw [uq,hcont,sf];exact (hold2.1.append hva).mono hle2,by rw [uq,te];omega,hold2.2⟩⟩
    (λb' l e hl'=>by
     injection hl' with hl';injection hl' with e1 e2;injection e2 with e2 e3;subst e1 e2 e3;exact ⟨lo.lo,by grind,⟨new,ty',hheap,by omega⟩,λj hj=>lo.free j (by grind)⟩)
    (λb' x hx=>by grind)
   refine ⟨_,_,_,hrun,hle2,r2,?_⟩;simp only [V];exact ⟨some ⟨b,o,none⟩,c,rfl,hroom,hc2,T,hT,rfl,ug _,.inr ⟨b,o,rfl,λ_=>rfl⟩⟩
 ·-- a new row
  have hroom':c < es.length+ys.length:=by omega
  have hrun:=run_append_out (ty:=ty) ht hu hdu hi hz hn0 (hn w.drew λ_ _ h=>h) hold hroom' (by simp only [maxLen];omega)
   (growslice_fits hroom' (by have:=sB hlim hby;omega))
  have hge:=grownCap_ge w (es.length+ys.length) c e;have hcm:grownCap w (es.length+ys.length) c e<=maxLen:=grownCap_le_maxLen w _ c e (by simp only [maxLen];omega);generalize hC:grownCap w (es.length+ys.length) c e=C at hrun hge hcm;generalize hrow':olds.toArray++news.toArray++Builtin.zeroCells z.cells (C - (es.length+ys.length))=row at hrun;have hrsz:row.size=C * i.size:=by
   rw [<- hrow'];simp only [s7,s8,size_zeroCells,hzs,hol,hnl,<- te]
   simp_all
  have hcont:(row.toList.drop 0).take ((es.length+ys.length) * i.size)=olds++news:=by
   rw [<- hrow',sa,tw,tw];rw [uV (by grind)];rw [uK (by grind)]
  have hΦn:∀j,g.Φ w.heap.size j=none:=λj=>by
   rcases he:g.Φ w.heap.size j with _ | v
   ·rfl
   ·exact absurd (r.phi_lt he) (tQ _)
  have r1:=(r.drew).alloc0 (.cells row e);have hheap:(w.drew.alloc (.cells row e)).heap[w.heap.size]?=some (.cells row e (0,0)):=heap_alloc_new w.drew _;have hloc:LocOk g.Φ B (w.drew.alloc (.cells row e)) w.heap.size ((es.length+ys.length) * i.size) (C * i.size) :=
   ⟨r.bsz,by simp,⟨row,e,hheap,by omega⟩,λj _=>hΦn j⟩
  have hsig:∀(j cc:Nat),g.σ[j]?=some (some cc)->w.heap.size ≠ cc:=λj cc hj e=>by
   have hi':j < h.blks.length:=by rw [<- r.slen];exact (uc.1 hj).1
   have:=(r.blk j cc _ hj (uh hi')).2.1;omega
  have htau:∀(j:Nat) (tt:TI) (y:Nat×Nat),g.τ[j]?=some tt->tt.loc ≠ some (w.heap.size,y):=λj tt y hj e=>by
   have:=((r.tok j tt hj).2 _ _ _ e).lt;omega
  let T:TI:=⟨es.length+ys.length,some (w.heap.size,(es.length+ys.length) * i.size,C * i.size),true⟩
  have hle2:g.le (g.setT q T):=Gh.le_setT (t':=T) hti (by grind) htr.symm;have hT:(g.setT q T).τ[q]?=some T:=uD (uc.1 hti).1;have r2:=r1.setRow (t':=T) (q:=id) hti (by grind) htr rfl hσ hb (es':=es++ys)
   ⟨T,hT,rfl,by simp [T],λe he=>(uG.1 he).elim (hlen e) (hl e),by grind,
    .inr ⟨w.heap.size,0,C * i.size,row,e,by simp [T],hheap,by rw [uq,hcont,sf];exact (hov.append hva).mono hle2,by rw [uq,hrsz];simpa using u7 i.size hge,λj _=>hΦn j⟩⟩
   (λb' l e' hl'=>by grind)
   (λb' x hx=>by injection hx with hx;injection hx with e1 _;subst e1;exact .inr ⟨htau,hsig,r.nnew (ug _),r.nold (ug _)⟩)
  refine ⟨_,_,_,hrun,hle2,r2,?_⟩;simp only [V];exact ⟨some ⟨w.heap.size,0,none⟩,C,rfl,hge,hcm,T,hT,rfl,ug _,.inr ⟨w.heap.size,0,rfl,λ_=>by simp [T]⟩⟩

theorem append_sound (r:Rel B w0 g h w) {t u ty e:TypeId} {du:TypeDesc} {i:TypeInfo} {z:Value} (ht:P.underlying t=some (.slice e)) (hu:P.underlying u=some du) (U:NotInt du) (hi:P.info? e=some i) (hz:i.zero=some z)
  (hzs:z.cells.size=i.size) (hby:i.bytes<=65536) {s s':AV} {sv x:Value} (hs:V g s sv) {G:List (List AV)} {k:List Value} (hl:∀e ∈ G,e.length=i.size) (hva:VA g G.flatten k) (hpu:G.flatten.all AV.pure=true)
  (hn:∀W:World,(∀a v,w.cell? a=some v->W.cell? a=some v)->News P i.size G.length x k W) {h':AH} (H:aAppend h i.size s G=some (s',h')) :
  ∃v w' g',(Builtin.append_ #[t,u] ty #[sv,x]).run P w=.ok v w'/\g.le g'/\Rel B w0 g' h' w'/\V g' s' v:=by
 have hn0:=hn w λ_ _ h=>h;unfold aAppend at H;split at H
 ·rename_i q k' es;simp only [V] at hs;obtain ⟨a,c,rfl,hc1,hc2,hes,hq⟩:=hs;have hnl:k.length=G.length * i.size:=by rw [<- hva.length,yT hl]
  split at H
  ·-- nothing to append
   rename_i R;have hne:k=[]:=uH (by rw [hnl,R];simp);subst hne;have I:=hn0.len;have J:=hn0.cells;rw [R] at I J;have A:(Builtin.append_ #[t,u] ty #[.slice a es.length c,x]).run P w=.ok (.slice a es.length c) w:=by
    cases a with
    | none=>rcases U with rfl | ⟨_,rfl⟩ <;> simp [Builtin.append_,run_underlying ht,run_underlying hu,sizeOf,typeInfo,hi,I,J] <;> omega
    | some ad=>rcases U with rfl | ⟨_,rfl⟩ <;> simp [Builtin.append_,run_underlying ht,run_underlying hu,sizeOf,typeInfo,hi,I,J,storeCells] <;> omega
   cases q with
   | none =>
    injection H with H;injection H with D p;subst D p;simp only at hq;refine ⟨.slice a es.length c,w,g.addT ⟨es.length,none,false⟩,A,g.le_addT _,r.addTok ⟨es.length,none,false⟩ (λ_ _ _ h=>by cases h) (λ_ _ h=>by cases h),?_⟩;simp only [V];refine ⟨a,c,rfl,hc1,hc2,hes.imp id λ⟨b,o,e,hh⟩=>⟨b,o,e,hh.mono (g.le_addT _) _ _ _ _⟩,⟨es.length,none,false⟩,?_,rfl,ug _,λ_=>.inl hq⟩;simp only [Gh.addT];rw [<- r.tlen,uj (ug _)];simp
   | some id =>
    injection H with H;injection H with D p;subst D p;exact ⟨.slice a es.length c,w,g,A,Gh.le.refl g,r,by simp only [V];exact ⟨a,c,rfl,hc1,hc2,hes,hq⟩⟩
  ·rename_i R;split at H
   ·rename_i hk;obtain ⟨rfl,hlim⟩:=hk;unfold lim at hlim;split at H
    ·rename_i id h2 d;injection H with H;injection H with D p;subst D p
     -- the two ways
     by_cases hroom:es.length+G.length<=c
     ·-- in place: there is a token
      unfold AH.grow at d;split at d
      ·simp only at hq;omega
      ·rename_i id';split at d
       ·rename_i Q;injection d with d;injection d with D p;subst D p;simp only at hq;obtain ⟨ti,E,hrf,hle,hcap⟩:=hq;obtain ⟨htn,Y⟩:=r.tok _ _ E;have hnn:es.length=ti.n:=by rw [Q] at htn;injection htn
        rcases hcap hnn with hcc | ⟨b,o,rfl,hlb⟩
        ·omega
        ·have lo:=Y b _ _ hlb;obtain ⟨cur,ty',hcur,hce⟩:=lo.cells;have hmul:es.length * i.size+k.length<=c * i.size:=by rw [hnl,<- te];exact u7 _ hroom
         have A:=run_append_in (ty:=ty) ht hu U hi hn0 hva.one' hcur hroom (o:=o) (by omega);have S:VE g b i.size o es:=by
          rcases hes with rfl | ⟨b',o',D,hh⟩
          ·simp only [VE]
          ·injection D with D;injection D with D p;subst D p;exact hh
         generalize hnew:(cur.toList.take (o+es.length * i.size)++k++cur.toList.drop (o+es.length * i.size+k.length)).toArray=new at A;have hfit:o+es.length * i.size+k.length<=cur.size:=by omega
         have hnsz:new.size=cur.size:=by rw [<- hnew];simp;omega
         have hlow:∀j,j < o+es.length * i.size->new[j]?=cur[j]?:=λj m=>by
          rw [<- hnew,sD,uC,un (by simp;omega),uu,uz m,uF]
         have hmid:∀j v,k[j]?=some v->new[o+es.length * i.size+j]?=some v:=λj v L=>by
          have m:j < k.length:=(uc.1 L).1;rw [<- hnew,sD,uC,uj (by simp;omega),un (by simp;omega)];rw [<- L];congr 1;simp;omega
         have r1:=r.setSpare E hlb hcur hnsz hlow;have K:=setRow_heap w b cur new ty' (0,0) hcur
         -- the token
         have r2:=r1.setTok (t':=⟨es.length+G.length,some (b,o+(es.length+G.length) * i.size,o+c * i.size),false⟩) E (by show ti.n < es.length+G.length;omega) hrf rfl
          (λb' l e F=>by
           injection F with F;injection F with D p;injection p with p e3;subst D p e3;exact ⟨lo.lo,by simpa using lo.lt,⟨new,ty',K,by omega⟩,λj m=>lo.free j (by rw [te] at m;omega)⟩)
          (λb' x hx=>by injection hx with hx;injection hx with D _;subst D;exact .inl ⟨_,hlb⟩)
         -- the promise
         have r3:=r2.vow (b:=b) (f:=λj=>if o+es.length * i.size<=j/\j < o+(es.length+G.length) * i.size then new[j]? else none)
          (λj v L=>by
           split at L
           ·rw [cell_of_row _ b j new ty' (0,0) K];exact L
           ·cases L)
          (λj cc hcj _=>(r.sep j cc _ ti b _ hcj E hlb).symm)
          (λj tt l e m O=>by
           by_cases hjid:j=id'
           ·subst hjid;simp only [Gh.setT] at m;rw [uD (uc.1 E).1] at m;injection m with m;subst m;injection O with O;injection O with D p;injection p with p e3;subst p e3;exact ⟨rfl,λjj hjj=>by grind⟩
           ·simp only [Gh.setT] at m;rw [uR (λe=>hjid e.symm)] at m;exact absurd (r.tinj _ _ _ _ b _ _ m E O hlb) hjid)
          (r.ntok E hlb)
         have hle2:=Gh.le_setT (t':=⟨es.length+G.length,some (b,o+(es.length+G.length) * i.size,o+c * i.size),false⟩) E (by show ti.n < es.length+G.length;omega) hrf.symm;have N:=hle2.trans (Gh.le_vow (g.setT id' ⟨es.length+G.length,some (b,o+(es.length+G.length) * i.size,o+c * i.size),false⟩) b
          (λj=>if o+es.length * i.size<=j/\j < o+(es.length+G.length) * i.size then new[j]? else none))
         refine ⟨_,_,_,A,N,r3,?_⟩;simp only [V];refine ⟨some ⟨b,o,none⟩,c,by simp,by simpa using hroom,hc2,.inr ⟨b,o,rfl,?_⟩,_,uD (uc.1 E).1,rfl,by simp,λ_=>.inr ⟨b,o,rfl,by simp⟩⟩;refine VE.append (S.mono N _ _ _ _) (VE_iff.2 ⟨hl,VC.ofVA (hva.mono N _ _) hpu λj v L=>?_⟩);have m:j < k.length:=(uc.1 L).1;simp only [Gh.vow,Gh.setT,ut];rw [lo.free _ (by omega),uz ⟨by omega,by rw [te];omega⟩];exact hmid j v L
       ·cases d
     ·-- a new row
      have X:c < es.length+G.length:=by omega
      have hfl:es.flatten.length=es.length * i.size:=by
       rcases hes with rfl | ⟨b,o,_,S⟩
       ·simp
       ·exact yT (VE_iff.1 S).1
      obtain ⟨M,⟨hov,hopu⟩,hold⟩:∃M:List Value,(VA g es.flatten M/\es.flatten.all AV.pure=true)/\(Builtin.firstCells i.size es.length (.slice a es.length c)).run P w.drew=.ok M.toArray w.drew:=by
       rcases hes with rfl | ⟨b,o,rfl,S⟩
       ·refine ⟨[],⟨by simp only [rP,VA],rfl⟩,?_⟩;cases a with
        | none=>simp [Builtin.firstCells]
        | some ad=>simp [Builtin.firstCells,loadCells,loadCellsFrom]
       ·obtain ⟨us,hus,hup,hΦ⟩:=VC.toVA (VE_iff.1 S).2;refine ⟨us,⟨hus,hup⟩,run_firstCells_some w.drew i.size es.length ⟨b,o,none⟩ es.length c us (by rw [<- hus.length,hfl]) λj v L=>?_⟩;rw [World.cell?_drew];have hadd:(⟨b,o,none⟩:Addr).add j=⟨b,o+j,none⟩:=by unfold Addr.add;split <;> simp_all
        rw [hadd];exact r.phi _ _ _ (hΦ j v L)
      have hol:M.length=es.length * i.size:=by rw [<- hov.length,hfl]
      have A:=run_append_out (ty:=ty) ht hu U hi hz hn0 (hn w.drew λ_ _ h=>h) hold X (by simp only [maxLen];omega)
       (growslice_fits X (by have:=sB hlim hby;omega))
      have hge:=grownCap_ge w (es.length+G.length) c e;have hcm:grownCap w (es.length+G.length) c e<=maxLen:=grownCap_le_maxLen w _ c e (by simp only [maxLen];omega);generalize hC:grownCap w (es.length+G.length) c e=C at A hge hcm;generalize hrow:M.toArray++k.toArray++Builtin.zeroCells z.cells (C - (es.length+G.length))=row at A;have hrsz:row.size=C * i.size:=by
       rw [<- hrow];simp only [s7,s8,size_zeroCells,hzs,hol,hnl,<- te];congr 1;omega
      have hrl:∀j v,(M++k)[j]?=some v->row[j]?=some v:=λj v L=>by
       rw [<- hrow,<- uF];simp only [tw];rw [un (by simpa using (uc.1 L).1)];exact L
      have hbl:∀j v,g.Φ w.heap.size j=some v->False:=λj v L=>absurd (r.phi_lt L) (tQ _);have hΦn:∀j,g.Φ w.heap.size j=none:=λj=>by
       rcases he:g.Φ w.heap.size j with _ | v
       ·rfl
       ·exact (hbl j v he).elim
      have r1:=(r.drew).alloc0 (.cells row e);have K:(w.drew.alloc (.cells row e)).heap[w.heap.size]?=some (.cells row e (0,0)):=heap_alloc_new w.drew _;have Y:LocOk g.Φ B (w.drew.alloc (.cells row e)) w.heap.size ((es.length+G.length) * i.size) (C * i.size) :=
       ⟨r.bsz,by simp,⟨row,e,K,by omega⟩,λj _=>hΦn j⟩
      have hsig:∀(j cc:Nat),g.σ[j]?=some (some cc)->w.heap.size ≠ cc:=λj cc m e=>by
       have hi':j < h.blks.length:=by rw [<- r.slen];exact (uc.1 m).1
       have:=(r.blk j cc _ m (uh hi')).2.1;omega
      have Z:∀(j:Nat) (tt:TI) (y:Nat×Nat),g.τ[j]?=some tt->tt.loc ≠ some (w.heap.size,y):=λj tt y m e=>by
       have:=((r.tok j tt m).2 _ _ _ e).lt;omega
      let T:TI:=⟨es.length+G.length,some (w.heap.size,(es.length+G.length) * i.size,C * i.size),false⟩
      have Q:∃g2,g.le g2/\Rel B w0 g2 h2 (w.drew.alloc (.cells row e))/\g2.τ[id]?=some T/\g2.Φ=g.Φ/\(∀(j:Nat) (tt:TI) (l e':Nat),g2.τ[j]?=some tt->tt.loc=some (w.heap.size,l,e')->tt=T)/\g2.σ=g.σ:=by
       unfold AH.grow at d;split at d
       ·injection d with d;injection d with D p;subst D p;refine ⟨g.addT T,g.le_addT T,r1.addTok T (λb l e' F=>?_) (λb x hx=>?_),?_,rfl,λj tt l e' m F=>?_,rfl⟩
        ·injection F with F;injection F with D p;injection p with p e3;subst D p e3;exact Y
        ·injection hx with hx;injection hx with D _;subst D;exact ⟨Z,hsig,r.nnew (ug _),r.nold (ug _)⟩
        ·simp only [Gh.addT];rw [<- r.tlen,uj (ug _)];simp
        ·simp only [Gh.addT] at m;rcases sy j g.τ.length with hjl | hjl
         ·rw [un hjl] at m;exact absurd F (Z _ _ _ m)
         ·rw [uj hjl] at m;have:=uX m;simpa using this
       ·rename_i id';split at d
        ·rename_i Q;injection d with d;injection d with D p;subst D p;simp only at hq;obtain ⟨ti,E,hrf,hle,_⟩:=hq;have hti':=E;obtain ⟨htn,_⟩:=r.tok _ _ E;have hnn:es.length=ti.n:=by rw [Q] at htn;injection htn
         refine ⟨g.setT id' T,Gh.le_setT (t':=T) E (by show ti.n < es.length+G.length;omega) hrf.symm,r1.setTok E (by show ti.n < es.length+G.length;omega) hrf rfl (λb l e' F=>?_) (λb x hx=>?_),?_,rfl,λj tt l e' m F=>?_,rfl⟩
         ·injection F with F;injection F with D p;injection p with p e3;subst D p e3;exact Y
         ·injection hx with hx;injection hx with D _;subst D;exact .inr ⟨Z,hsig,r.nnew (ug _),r.nold (ug _)⟩
         ·exact uD (uc.1 E).1
         ·simp only [Gh.setT] at m;by_cases hjid:j=id'
          ·subst hjid;rw [uD (uc.1 E).1] at m;injection m with m;exact m.symm
          ·rw [uR (λe=>hjid e.symm)] at m;exact absurd F (Z _ _ _ m)
        ·cases d
      obtain ⟨g2,hg2,r2,hT,hΦ2,hT2,hσ2⟩:=Q;have r3:=r2.vow (b:=w.heap.size) (f:=λj=>if j < (es.length+G.length) * i.size then row[j]? else none)
       (λj v L=>by
        split at L
        ·rw [cell_of_row _ _ j row e (0,0) K];exact L
        ·cases L)
       (λj cc hcj _ e=>hsig j cc (by rw [<- hσ2];exact hcj) e.symm)
       (λj tt l e' m O=>by
        have:=hT2 j tt l e' m O;subst this;injection O with O;injection O with _ p;injection p with p _;subst p;exact ⟨rfl,λjj hjj=>by grind⟩)
       (r2.ntok hT rfl)
      have N:=hg2.trans (g2.le_vow w.heap.size λj=>if j < (es.length+G.length) * i.size then row[j]? else none);refine ⟨_,_,_,A,N,r3,?_⟩;simp only [V];refine ⟨some ⟨w.heap.size,0,none⟩,C,by simp,by simpa using hge,hcm,.inr ⟨w.heap.size,0,rfl,?_⟩,T,hT,rfl,by simp [T],λ_=>.inr ⟨w.heap.size,0,rfl,by simp [T]⟩⟩;refine VE_iff.2 ⟨?_,?_⟩
      ·intro e he;rcases uG.1 he with he | he
       ·rcases hes with rfl | ⟨b,o,_,S⟩
        ·cases he
        ·exact (VE_iff.1 S).1 e he
       ·exact hl e he
      ·rw [sf];refine VC.ofVA (VA.mono N _ _ (hov.append hva)) (by rw [pN,hopu,hpu];rfl) λj v L=>?_;have m:j < (M++k).length:=(uc.1 L).1;simp only [Gh.vow,ut,hΦ2,hΦn,tx];rw [uz (by rw [te];simp at m;omega)];exact hrl j v L
    ·cases H
   ·cases H
 ·rename_i id q k' n;split at H
  ·rename_i R;injection H with H;injection H with D p;subst D p;have hs':=hs;simp only [V] at hs;obtain ⟨a,c,rfl,hc1,hc2,hq⟩:=hs;have hnl:k.length=G.length * i.size:=by rw [<- hva.length,yT hl]
   have hne:k=[]:=uH (by rw [hnl,R];simp);subst hne;have I:=hn0.len;have J:=hn0.cells;rw [R] at I J;have A:(Builtin.append_ #[t,u] ty #[.slice a n c,x]).run P w=.ok (.slice a n c) w:=by
    cases a with
    | none=>rcases U with rfl | ⟨_,rfl⟩ <;> simp [Builtin.append_,run_underlying ht,run_underlying hu,sizeOf,typeInfo,hi,I,J] <;> omega
    | some ad=>rcases U with rfl | ⟨_,rfl⟩ <;> simp [Builtin.append_,run_underlying ht,run_underlying hu,sizeOf,typeInfo,hi,I,J,storeCells] <;> omega
   exact ⟨_,w,g,A,Gh.le.refl g,r,hs'⟩
  ·rename_i R;split at H
   ·rename_i t' k'' es hb;split at H
    ·rename_i hc;obtain ⟨⟨rfl,rfl,rfl⟩,h1,h2,h3⟩:=hc;injection H with H;injection H with D p;subst D p;exact append_row r ht hu U hi hz hzs hby hs hl hva hpu hn hb h1 h2 h3 R
    ·cases H
   ·cases H
 ·cases H
theorem append_new (r:Rel B w0 g h w) {t u ty e:TypeId} {du:TypeDesc} {i:TypeInfo} {z:Value} (X:P.underlying t=some (.slice e)) (hu:P.underlying u=some du) (K:NotInt du) (hi:P.info? e=some i) (hz:i.zero=some z)
  (hzs:z.cells.size=i.size) (hby:i.bytes<=65536) {sv x:Value} (hs:V g (.osl none i.size []) sv) {m:List (List AV)} {d:List Value} (T:∀e ∈ m,e.length=i.size) (R:VA g m.flatten d) (hpu:m.flatten.all AV.pure=true)
  (hn:∀W:World,(∀a v,w.cell? a=some v->W.cell? a=some v)->News P i.size m.length x d W) (F:m.length<=lim) :
  ∃v w' g',(Builtin.append_ #[t,u] ty #[sv,x]).run P w=.ok v w'/\g.le g'/\Rel B w0 g' h w'/\V g' (.nsl i.size m) v:=by
 have L:=hn w λ_ _ h=>h;simp only [V] at hs;obtain ⟨a,c,rfl,hc1,hc2,_,O⟩:=hs;simp only [u6] at O;subst O;have hnl:d.length=m.length * i.size:=by rw [<- R.length,yT T]
 by_cases hy0:m.length=0
 ·have U:d=[]:=uH (by simp_all);have hye:m=[]:=uH hy0;subst U;have p:=L.len;have q:=L.cells;rw [hy0] at p q;have k:(Builtin.append_ #[t,u] ty #[.slice a ([]:List (List AV)).length 0,x]).run P w=.ok (.slice a 0 0) w:=by
   cases a with
   | none=>rcases K with rfl | ⟨_,rfl⟩ <;> simp [Builtin.append_,run_underlying X,run_underlying hu,sizeOf,typeInfo,hi,p,q]
   | some ad=>rcases K with rfl | ⟨_,rfl⟩ <;> simp [Builtin.append_,run_underlying X,run_underlying hu,sizeOf,typeInfo,hi,p,q,storeCells]
  refine ⟨_,w,g,k,Gh.le.refl g,r,?_⟩;subst hye;simp only [V]
  grind
 ·have n:0 < ([]:List (List AV)).length+m.length:=by simp;omega
  have Q:(Builtin.firstCells i.size ([]:List (List AV)).length (.slice a ([]:List (List AV)).length 0)).run P w.drew=.ok ([]:List Value).toArray w.drew:=by
   cases a with
   | none=>simp [Builtin.firstCells]
   | some ad=>simp [Builtin.firstCells,loadCells,loadCellsFrom]
  unfold lim at F;have k:=run_append_out (ty:=ty) X hu K hi hz L (hn w.drew λ_ _ h=>h) Q n (by simp only [maxLen,u6];omega)
   (growslice_fits n (by have:=sB F hby;simp only [u6,tx];omega))
  have H:=grownCap_ge w (([]:List (List AV)).length+m.length) 0 e;have I:grownCap w (([]:List (List AV)).length+m.length) 0 e<=maxLen:=grownCap_le_maxLen w _ 0 e (by simp only [maxLen,u6];omega);generalize hC:grownCap w (([]:List (List AV)).length+m.length) 0 e=C at k H I;simp only [u6,tx] at H I k;generalize hrow:([]:List Value).toArray++d.toArray++Builtin.zeroCells z.cells (C - m.length)=row at k;have hrsz:row.size=C * i.size:=by
   rw [<- hrow];simp only [s7,s8,size_zeroCells,hzs,hnl,u6,tx,<- te]
   simp_all
  have hrl:∀j v,d[j]?=some v->row[j]?=some v:=λj v G=>by
   rw [<- hrow,<- uF];simp only [tw,uI];rw [un (by simpa using (uc.1 G).1)];exact G
  have S:∀j,g.Φ w.heap.size j=none:=λj=>by
   rcases he:g.Φ w.heap.size j with _ | v
   ·rfl
   ·exact absurd (r.phi_lt he) (tQ _)
  have r1:=(r.drew).alloc0 (.cells row e);have o:(w.drew.alloc (.cells row e)).heap[w.heap.size]?=some (.cells row e (0,0)):=heap_alloc_new w.drew _;have hN:g.N w.heap.size=none:=r.nnew (ug _);have E:∀(j M:Nat),g.σ[j]?=some (some M)->w.heap.size ≠ M:=λj M s e=>by
   have Z:j < h.blks.length:=by rw [<- r.slen];exact (uc.1 s).1
   have:=(r.blk j M _ s (uh Z)).2.1;omega
  have A:∀(j:Nat) (J:TI) (y:Nat×Nat),g.τ[j]?=some J->J.loc ≠ some (w.heap.size,y):=λj J y s e=>by
   have:=((r.tok j J s).2 _ _ _ e).lt;omega
  have r3:=r1.vow (b:=w.heap.size) (f:=λj=>if j < m.length * i.size then row[j]? else none)
   (λj v G=>by
    split at G
    ·rw [cell_of_row _ _ j row e (0,0) o];exact G
    ·cases G)
   (λj M Y _ e=>E j M Y e.symm)
   (λj J l e' s hlj=>absurd hlj (A _ _ _ s)) hN
  have r4:=r3.mark (b:=w.heap.size) (r.nnew (ug _)) r.bsz o ⟨λj s=>E j _ s rfl,λhc=>tQ _ (r.dfr_lt hc),λj J y s T=>A j J y s T⟩ (r.nold (ug _));have D:=(g.le_vow w.heap.size λj=>if j < m.length * i.size then row[j]? else none).trans (Gh.le_addN (.new row.size) (r.nnew (ug _)));refine ⟨_,_,_,k,D,r4,?_⟩;simp only [V];refine ⟨some ⟨w.heap.size,0,none⟩,C,rfl,H,I,.inr ⟨w.heap.size,0,rfl,VE_iff.2 ⟨T,?_⟩,row.size,by simp [Gh.addN]⟩⟩;refine VC.ofVA (VA.mono D _ _ R) hpu λj v G=>?_;have s:j < d.length:=(uc.1 G).1;simp only [Gh.addN,Gh.vow,ut,S,tx]
  simp_all
end
end Go.Vv
