/- How the abstract heap and the tokens stand to a world; each kind of step of the world keeps that. -/
import Derived.Test.YthnmdghfecoafaaGreatVvA
import Derived.Lib.AppendStr
set_option linter.all false
namespace Go.Vv
open Go Go.RowKit
variable {i:Nat} {w':World}

def ME (g:Gh):List (AV×AV)->List MapEntry->Prop
 | [],es=>es=[]
 | (k,x)::r,es=>∃e s,es=e::s/\V g k e.key/\V g x e.val/\ME g r s

theorem ME.mono {g g':Gh} (h:g.le g'):∀(a5:List (AV×AV)) (vs:List MapEntry),ME g a5 vs->ME g' a5 vs
 | [],_,hv=>by simpa only [ME] using hv
 | (k,x)::r,_,hv=>by
  simp only [ME] at hv ⊢;obtain ⟨e,s,rfl,b,a,c⟩:=hv;exact ⟨e,s,rfl,b.mono h,a.mono h,ME.mono h r s c⟩

theorem VA.dd {g:Gh} {d:List Nat} {a5:List AV} {vs:List Value} (h:VA g a5 vs):VA { g with δ:=d } a5 vs:=VA.monoV (g.lv_dd d) _ _ h
theorem ME.dd {g:Gh} {d:List Nat}:∀{a5:List (AV×AV)} {vs:List MapEntry},ME g a5 vs->ME { g with δ:=d } a5 vs
 | [],_,hv=>by simpa only [ME] using hv
 | (k,x)::r,_,hv=>by
  simp only [ME] at hv ⊢;obtain ⟨e,s,rfl,b,a,c⟩:=hv;exact ⟨e,s,rfl,V.monoV (g.lv_dd d) _ _ b,V.monoV (g.lv_dd d) _ _ a,ME.dd c⟩
def MTE (g:Gh):Nat->List (Option (AV×AV))->List MapEntry->Prop
 | _,[],es=>es=[]
 | i,none::r,es=>MTE g (i+1) r es
 | i,some (k,x)::r,es=>∃e s,es=e::s/\e.born=i/\V g k e.key/\V g x e.val/\MTE g (i+1) r s
theorem MTE.monoV {g g':Gh} (h:g.lv g'):∀(i:Nat) (a5:List (Option (AV×AV))) (vs:List MapEntry),MTE g i a5 vs->MTE g' i a5 vs
 | _,[],_,hv=>by simpa only [MTE] using hv
 | i,none::r,_,hv=>by
  simp only [MTE] at hv ⊢;exact MTE.monoV h _ r _ hv
 | i,some (k,x)::r,_,hv=>by
  simp only [MTE] at hv ⊢;obtain ⟨e,s,rfl,h0,b,a,c⟩:=hv;exact ⟨e,s,rfl,h0,V.monoV h _ _ b,V.monoV h _ _ a,MTE.monoV h _ r s c⟩
def MapT (g:Gh) (w:World) (c:Nat) (m:List (Option (AV×AV))):Prop:=∃ents,w.heap[c]?=some (.map ents m.length)/\MTE g 0 m ents.toList
def PoolOk (g:Gh) (w:World) (i:Nat) (ms:List (List (Option (AV×AV)))):Prop :=
 (∀(q:Nat) m,ms[q]?=some m->∃c,g.N c=some (.own i q)/\(∀c',g.N c'=some (.own i q)->c'=c)/\MapT g w c m)/\∀c q,g.N c=some (.own i q)->q < ms.length
def PlK (g g':Gh) (w w':World) (i:Nat):Prop:=(∀b q,g'.N b=some (.own i q)->g.N b=some (.own i q))/\∀b q,g.N b=some (.own i q)->w'.heap[b]?=w.heap[b]?
theorem PlK.refl {g:Gh} {w:World}:PlK g g w w i:=⟨λ_ _ h=>h,λ_ _ _=>rfl⟩
theorem PlK.same {g g':Gh} {w:World} (h:g'.N=g.N):PlK g g' w w i:=⟨λb q e=>by rw [<- h];exact e,λ_ _ _=>rfl⟩
theorem PoolOk.mono {g g':Gh} {w:World} {ms:List (List (Option (AV×AV)))} (h:g.lv g') (b:PlK g g' w w' i) (e:PoolOk g w i ms):PoolOk g' w' i ms:=by
 refine ⟨λq m n=>?_,λc q o=>e.2 c q (b.1 c q o)⟩;obtain ⟨c,d,f,ents,l,k⟩:=e.1 q m n;exact ⟨c,h.new _ _ d,λj a=>f j (b.1 _ _ a),ents,(b.2 c q d).trans l,MTE.monoV h _ _ _ k⟩
def BlkOk (g:Gh) (w:World) (c:Nat):Blk->Prop
 | .cells cs=>∃vs t,w.heap[c]?=some (.cells vs t (0,0))/\VA g cs vs.toList
 | .siter s pos=>w.heap[c]?=some (.stringIter ⟨s.toArray⟩ pos)
 | .mapo es clock=>∃ents n,w.heap[c]?=some (.map ents n)/\ME g es ents.toList/\(clock=0->n=ents.size/\∀(i:Nat) (e:MapEntry),ents[i]?=some e->e.born=i)
 | .loop st pe env ps assign body=>∃fn tmps d,w.heap[c]?=some (.loop { state:=st,pending:=pe,fn,tmps,params:=ps,assign,body,defers:=d })/\VL g env tmps.toList
 | .row _ _ _=>False
 | .bld T x=>∃a v,w.heap[c]?=some (.cells #[a,v] T (0,0))/\(a=.pointer none \/ a=.pointer (some ⟨c,0,none⟩))/\x.one=true/\V g x v
 | .miter id n seen=>∃m,g.σ[id]?=some (some m)/\w.heap[c]?=some (.mapIter (some m) n seen.toArray n)
 | .miter0=>w.heap[c]?=some (.mapIter none 0 #[] 0)
 | .pool _=>False
 | .pmiter id q n seen=>∃m,g.N m=some (.own id q)/\w.heap[c]?=some (.mapIter (some m) n seen.toArray n)
 | .other | .dead=>True
def RowOk (g:Gh) (w:World) (i k:Nat) (es:List (List AV)):Prop :=
 ∃t,g.τ[i]?=some t/\t.row=true/\t.n=es.length/\(∀e ∈ es,e.length=k)/\es.flatten.all AV.pure=true/\(es=[] \/ ∃b o e cs ty,t.loc=some (b,o+es.length * k,e) /\
  w.heap[b]?=some (.cells cs ty (0,0))/\VA g es.flatten ((cs.toList.drop o).take (es.length * k))/\o+es.length * k<=cs.size/\∀j,o<=j->g.Φ b j=none)
def RowB (g:Gh) (w:World) (p:Nat):Blk->Prop
 | .row i k es=>RowOk g w i k es
 | .pool ms=>PoolOk g w p ms
 | .dead=>True
 | _=>False

theorem BlkOk.mono {g g':Gh} {w w':World} {c:Nat} {k:Blk} (h:g.le g') (j:w'.heap[c]?=w.heap[c]?) (f:BlkOk g w c k):BlkOk g' w' c k:=by
 cases k with
 | cells cs=>obtain ⟨vs,t,e,b⟩:=f;exact ⟨vs,t,j.trans e,b.mono h⟩
 | bld T x=>obtain ⟨a,v,e,b,l,o⟩:=f;exact ⟨a,v,j.trans e,b,l,V.mono h _ _ o⟩
 | siter s pos=>exact j.trans f
 | mapo es clock=>obtain ⟨ents,n,e,b,l⟩:=f;exact ⟨ents,n,j.trans e,b.mono h,l⟩
 | loop st pe env ps assign body=>obtain ⟨fn,tmps,d,e,b⟩:=f;exact ⟨fn,tmps,d,j.trans e,b.mono h⟩
 | row _ _ _=>exact f
 | miter id n seen=>obtain ⟨m,e,b⟩:=f;exact ⟨m,h.sig _ _ e,j.trans b⟩
 | miter0=>exact j.trans f
 | pool _=>exact f
 | pmiter id q n seen=>obtain ⟨m,e,b⟩:=f;exact ⟨m,h.new _ _ e,j.trans b⟩
 | other=>trivial
 | dead=>trivial
theorem RowOk.mono {g g':Gh} {w w':World} {i k:Nat} {es:List (List AV)} (h:g.le g') (f:g'.τ[i]?=g.τ[i]?)
  (r:∀t b x,g.τ[i]?=some t->t.row=true->t.loc=some (b,x)->w'.heap[b]?=w.heap[b]?/\∀j,g'.Φ b j=g.Φ b j) (s:RowOk g w i k es):RowOk g' w' i k es:=by
 obtain ⟨t,d,c,u,m,p,v⟩:=s;refine ⟨t,f.trans d,c,u,m,p,v.imp id ?_⟩
 rintro ⟨b,o,e,cs,ty,a,y,l,A,q⟩
 obtain ⟨n,C⟩:=r t b _ d c a;exact ⟨b,o,e,cs,ty,a,n.trans y,l.mono h,A,λj z=>(C j).trans (q j z)⟩
theorem RowB.mono {g g':Gh} {w w':World} {p:Nat} {k:Blk} (h:g.le g') (l:PlK g g' w w' p) (e:∀(i:Nat) (t:TI),g.τ[i]?=some t->t.row=true->g'.τ[i]?=some t)
  (f:∀(i:Nat) t b x,g.τ[i]?=some t->t.row=true->t.loc=some (b,x)->w'.heap[b]?=w.heap[b]?/\∀j,g'.Φ b j=g.Φ b j) (a:RowB g w p k):RowB g' w' p k:=by
 cases k with
 | row i k es =>
  have a:RowOk g w i k es:=a;obtain ⟨t,c,d,_⟩:=id a;exact a.mono h ((e i t c d).trans c.symm) (f i)
 | pool ms=>exact PoolOk.mono h.lv l a
 | dead=>trivial
 | _=>exact a.elim

structure LocOk (Φ:Nat->Nat->Option Value) (B:Nat) (w:World) (b l e:Nat):Prop where
 lo:B<=b
 lt:b < w.heap.size
 cells:∃cs ty,w.heap[b]?=some (.cells cs ty (0,0))/\e<=cs.size
 free:∀j,l<=j->Φ b j=none

theorem LocOk.mono {Φ Φ':Nat->Nat->Option Value} {B:Nat} {w:World} {b l e:Nat} (h:LocOk Φ B w b l e) (m:w.heap.size<=w'.heap.size) (c:w'.heap[b]?=w.heap[b]?)
  (d:∀j,l<=j->Φ' b j=Φ b j):LocOk Φ' B w' b l e :=
 ⟨h.lo,th h.lt m,by obtain ⟨cs,ty,k,f⟩:=h.cells;exact ⟨cs,ty,c.trans k,f⟩,λj a=>(d j a).trans (h.free j a)⟩

def Apart (g:Gh) (b:Nat):Prop:=(∀i:Nat,g.σ[i]? ≠ some (some b))/\b ∉ g.δ/\∀(i:Nat) (t:TI) (x:Nat×Nat),g.τ[i]?=some t->t.loc ≠ some (b,x)
def NOk (B:Nat) (g:Gh) (w:World) (b:Nat):BK->Prop
 | .new s=>B<=b/\Apart g b/\∃cs ty,w.heap[b]?=some (.cells cs ty (0,0))/\cs.size=s
 | .gar s=>B<=b/\Apart g b/\(∃cs ty,w.heap[b]?=some (.cells cs ty (0,0))/\cs.size=s)/\∀j,g.Φ b j=none
 | .shut o=>B<=b/\Apart g b/\w.heap[b]?=some o/\∀j,g.Φ b j=none
 | .frz o=>B<=b/\Apart g b/\w.heap[b]?=some o
 | .own i _=>B<=b/\Apart g b/\i < g.σ.length/\b < w.heap.size/\∀j,g.Φ b j=none
theorem NOk.mono {B:Nat} {g g':Gh} {w:World} {b:Nat} {x:BK} (h:NOk B g w b x) (hs:g.σ.length<=g'.σ.length) (p:w.heap.size<=w'.heap.size)
  (k:B<=b->b < w.heap.size->Apart g b->w'.heap[b]?=w.heap[b]?/\Apart g' b/\((∀j,g.Φ b j=none)->∀j,g'.Φ b j=none)):NOk B g' w' b x:=by
 cases x with
 | new s =>
  obtain ⟨a,d,cs,ty,c,l⟩:=h;obtain ⟨f,e,_⟩:=k a (uI.1 c).1 d;exact ⟨a,e,cs,ty,f.trans c,l⟩
 | gar s =>
  obtain ⟨a,d,⟨cs,ty,c,l⟩,n⟩:=h;obtain ⟨f,e,m⟩:=k a (uI.1 c).1 d;exact ⟨a,e,⟨cs,ty,f.trans c,l⟩,m n⟩
 | shut o =>
  obtain ⟨a,d,c,n⟩:=h;obtain ⟨f,e,m⟩:=k a (uI.1 c).1 d;exact ⟨a,e,f.trans c,m n⟩
 | frz o =>
  obtain ⟨a,d,c⟩:=h;obtain ⟨f,e,_⟩:=k a (uI.1 c).1 d;exact ⟨a,e,f.trans c⟩
 | own i q =>
  obtain ⟨a,d,c,l,n⟩:=h;obtain ⟨f,e,m⟩:=k a l d;exact ⟨a,e,th c hs,th l p,m n⟩

structure Rel (B:Nat) (w0:World) (g:Gh) (h:AH) (w:World):Prop where
 below:Below B w0 w
 bsz:B<=w.heap.size
 phi:∀b j v,g.Φ b j=some v->w.cell? ⟨b,j,none⟩=some v
 slen:g.σ.length=h.blks.length
 blk:∀(i c:Nat) (k:Blk),g.σ[i]?=some (some c)->h.blks[i]?=some k->B<=c/\c < w.heap.size/\BlkOk g w c k/\(k ≠ .dead->∀j,g.Φ c j=none)
 tlen:g.τ.length=h.toks.length
 tok:∀(i:Nat) (t:TI),g.τ[i]?=some t->h.toks[i]?=some t.n/\∀b l e,t.loc=some (b,l,e)->LocOk g.Φ B w b l e
 sinj:∀(i j c:Nat),g.σ[i]?=some (some c)->g.σ[j]?=some (some c)->i=j
 tinj:∀(i j:Nat) (t t':TI) (b:Nat) (x y:Nat×Nat),g.τ[i]?=some t->g.τ[j]?=some t'->t.loc=some (b,x)->t'.loc=some (b,y)->i=j
 sep:∀(i c j:Nat) (t:TI) (b:Nat) (x:Nat×Nat),g.σ[i]?=some (some c)->g.τ[j]?=some t->t.loc=some (b,x)->b ≠ c
 dfr:∀c,c ∈ g.δ->B<=c/\w.heap[c]?=some (.deferred (some []))/\∀i:Nat,g.σ[i]? ≠ some (some c)
 row:∀(i:Nat) (k:Blk),g.σ[i]?=some none->h.blks[i]?=some k->RowB g w i k
 rinj:∀(i j t k k':Nat) (es es':List (List AV)),h.blks[i]?=some (.row t k es)->h.blks[j]?=some (.row t k' es')->i=j
 nb:∀(b:Nat) (x:BK),g.N b=some x->NOk B g w b x
 ob:∀b:Nat,g.O b->b < w.heap.size/\∀s,g.N b ≠ some (.new s)/\g.N b ≠ some (.gar s)
 oa:∀b:Nat,g.O b->Apart g b

section
variable {B:Nat} {w0 w:World} {g:Gh} {h:AH}

theorem Rel.phi_lt (r:Rel B w0 g h w) {b j:Nat} {v:Value} (e:g.Φ b j=some v):b < w.heap.size:=World.block_lt_of_cell? w ⟨b,j,none⟩ (r.phi b j v e)

theorem Rel.drew (r:Rel B w0 g h w):Rel B w0 g h w.drew :=
 ⟨r.below.drew,r.bsz,r.phi,r.slen,λi c k s d=>by obtain ⟨f,a,p,n⟩:=r.blk i c k s d;exact ⟨f,a,p.mono (Gh.le.refl g) rfl,n⟩,r.tlen,
   λi t j=>by obtain ⟨f,a⟩:=r.tok i t j;exact ⟨f,λb l e o=>(a b l e o).mono (ue _) rfl λ_ _=>rfl⟩,r.sinj,r.tinj,r.sep,r.dfr,λi k hi d=>(r.row i k hi d).mono (Gh.le.refl g) ⟨λ_ _ h=>h,λ_ _ _=>rfl⟩ (λ_ _ h _=>h) (λ_ _ _ _ _ _ _=>⟨rfl,λ_=>rfl⟩),r.rinj,λb x m=>(r.nb b x m).mono (ue _) (ue _) λ_ _ q=>⟨rfl,q,λh=>h⟩,r.ob,r.oa⟩
theorem Rel.nlt (r:Rel B w0 g h w) {b:Nat} {x:BK} (c:g.N b=some x):b < w.heap.size:=by
 have:=r.nb b x c;cases x with
 | new s=>obtain ⟨_,_,cs,ty,a,_⟩:=this;exact (uI.1 a).1
 | gar s=>obtain ⟨_,_,⟨cs,ty,a,_⟩,_⟩:=this;exact (uI.1 a).1
 | shut o=>exact (uI.1 this.2.2.1).1
 | frz o=>exact (uI.1 this.2.2).1
 | own i q=>exact this.2.2.2.1
theorem Rel.nnew (r:Rel B w0 g h w) {b:Nat} (a:w.heap.size<=b):g.N b=none:=by
 rcases hx:g.N b with _ | x
 ·rfl
 ·exact absurd (r.nlt hx) (by omega)
theorem Rel.ntok (r:Rel B w0 g h w) {i:Nat} {t:TI} {b:Nat} {y:Nat×Nat} (c:g.τ[i]?=some t) (a:t.loc=some (b,y)):g.N b=none:=by
 rcases hx:g.N b with _ | x
 ·rfl
 ·have:=r.nb b x hx;cases x <;> exact absurd a (this.2.1.2.2 i t y c)
theorem Rel.nsig (r:Rel B w0 g h w) {i c:Nat} (hi:g.σ[i]?=some (some c)):g.N c=none:=by
 rcases hx:g.N c with _ | x
 ·rfl
 ·have:=r.nb c x hx;cases x <;> exact absurd hi (this.2.1.1 i)
theorem Rel.otok (r:Rel B w0 g h w) {i:Nat} {t:TI} {b:Nat} {y:Nat×Nat} (c:g.τ[i]?=some t) (a:t.loc=some (b,y)):¬ g.O b:=λh=>(r.oa b h).2.2 i t y c a
theorem Rel.nold (r:Rel B w0 g h w) {b:Nat} (a:w.heap.size<=b):¬ g.O b:=λh=>absurd (r.ob b h).1 (by omega)
theorem Rel.dfr_lt (r:Rel B w0 g h w) {c:Nat} (a:c ∈ g.δ):c < w.heap.size:=(uI.1 (r.dfr c a).2.1).1

theorem Rel.alloc0 (r:Rel B w0 g h w) (o:Obj):Rel B w0 g h (w.alloc o) :=
 ⟨r.below.alloc r.bsz o,by have:=r.bsz;simp;omega,λb j v e=>(World.cell?_alloc_lt w o ⟨b,j,none⟩ (r.phi_lt e)).trans (r.phi b j v e),r.slen,
   λi c k f p=>by
     obtain ⟨s,m,y,u⟩:=r.blk i c k f p;exact ⟨s,by simp;omega,y.mono (Gh.le.refl g) (Below.heap_alloc w o c m),u⟩,r.tlen,
   λi t n=>by
     obtain ⟨s,m⟩:=r.tok i t n;exact ⟨s,λb l e d=>(m b l e d).mono (by simp) (Below.heap_alloc w o b (m b l e d).lt) λ_ _=>rfl⟩,r.sinj,r.tinj,r.sep,λc f=>⟨(r.dfr c f).1,(Below.heap_alloc w o c (r.dfr_lt f)).trans (r.dfr c f).2.1,(r.dfr c f).2.2⟩,λi k hi p=>(r.row i k hi p).mono (Gh.le.refl g) ⟨λ_ _ h=>h,λb q a=>Below.heap_alloc w o b (r.nlt a)⟩ (λ_ _ h _=>h) (λi t b x n _ d=>⟨Below.heap_alloc w o b ((r.tok i t n).2 b x.1 x.2 d).lt,λ_=>rfl⟩),r.rinj,λb x a=>(r.nb b x a).mono (ue _) (by simp) λ_ d z=>⟨Below.heap_alloc w o b d,z,λh=>h⟩,λb a=>⟨by have:=(r.ob b a).1;simp;omega,(r.ob b a).2⟩,r.oa⟩

def Gh.addS (g:Gh) (c:Option Nat):Gh:={ g with σ:=g.σ++[c] }
theorem Gh.le_addS (g:Gh) (c:Option Nat):g.le (g.addS c) :=
 ⟨λ_ _ _ e=>e,λi x e=>by
  have:i < g.σ.length:=(ua.1 e).1;simp only [Gh.addS];rw [uo this];exact e,λ_ t e=>⟨t,e,ue _,λ_=>rfl,rfl⟩,λ_ h=>h,λ_ _ h=>h,λ_ h=>h⟩
theorem addS_get {g:Gh} {c x:Option Nat} (e:(g.addS c).σ[i]?=some x):g.σ[i]?=some x \/ (i=g.σ.length/\x=c):=by
 simp only [Gh.addS] at e
 grind

theorem Rel.adopt (r:Rel B w0 g h w) {c:Nat} (k:Blk) (K:B<=c) (L:c < w.heap.size) (C:BlkOk (g.addS (some c)) w c k) (o:∀j,g.Φ c j=none)
  (hs:∀(i x:Nat),g.σ[i]?=some (some x)->x ≠ c) (F:∀(i:Nat) (t:TI) (b:Nat) (x:Nat×Nat),g.τ[i]?=some t->t.loc=some (b,x)->b ≠ c) (z:c ∉ g.δ) (A:g.N c=none) (v:¬ g.O c) :
  Rel B w0 (g.addS (some c)) (h.new k) w :=
 ⟨r.below,r.bsz,r.phi,by simp [Gh.addS,AH.new,r.slen],λi x k' d a=>by
   have n:=r.slen;rcases addS_get d with d | ⟨rfl,f⟩
   ·have hi:i < h.blks.length:=by rw [<- n];exact (ua.1 d).1
    simp only [AH.new] at a;rw [uo hi] at a;obtain ⟨H,E,I,G⟩:=r.blk i x k' d a;exact ⟨H,E,I.mono (g.le_addS _) rfl,G⟩
   ·obtain rfl:=uj f;simp only [AH.new] at a;rw [n,un (ue _)] at a;simp at a;subst a;exact ⟨K,L,C,λ_=>o⟩,r.tlen,r.tok,
  λi j x hi p=>by
   rcases addS_get hi with hi | ⟨rfl,D⟩ <;> rcases addS_get p with p | ⟨rfl,e⟩
   ·exact r.sinj i j x hi p
   ·exact absurd (uj e) (hs i x hi)
   ·exact absurd (uj D) (hs j _ p)
   ·rfl,
  r.tinj,λi x j t b y d q u=>by
   rcases addS_get d with d | ⟨rfl,f⟩
   ·exact r.sep i x j t b y d q u
   ·obtain rfl:=uj f;exact F j t b y q u,
  λx d=>⟨(r.dfr x d).1,(r.dfr x d).2.1,λi hi=>by
   rcases addS_get hi with hi | ⟨_,f⟩
   ·exact (r.dfr x d).2.2 i hi
   ·obtain rfl:=uj f;exact z d⟩,
  λi k' hi a=>by
   rcases addS_get hi with hi | ⟨_,f⟩
   ·have u:i < h.blks.length:=by rw [<- r.slen];exact (ua.1 hi).1
    simp only [AH.new] at a;rw [uo u] at a;exact (r.row i k' hi a).mono (g.le_addS _) (PlK.same rfl) (λ_ _ h _=>h) (λ_ _ _ _ _ _ _=>⟨rfl,λ_=>rfl⟩)
   ·exact absurd f (by simp),
  λi j t l J es es' hi p=>by
   have M:∀t l es,k ≠ .row t l es:=by rintro t l es rfl;exact C
   simp only [AH.new] at hi p;have key:∀(i t l:Nat) (es:List (List AV)),(h.blks++[k])[i]?=some (.row t l es)->h.blks[i]?=some (.row t l es):=by
    intro i t l es hi
    grind
   exact r.rinj i j t l J es es' (key _ _ _ _ hi) (key _ _ _ _ p),
  λb x m=>by
   by_cases hbc:b=c
   ·subst hbc;have m:g.N b=some x:=m;rw [A] at m;cases m
   ·exact (r.nb b x m).mono (by simp [Gh.addS]) (ue _) λ_ _ s=>⟨rfl,⟨λi hi=>by
     rcases addS_get hi with hi | ⟨_,f⟩
     ·exact s.1 i hi
     ·exact hbc (uj f),s.2⟩,λh=>h⟩,r.ob,
  λb m=>by
   have s:=r.oa b m;refine ⟨λi hi=>?_,s.2⟩;rcases addS_get hi with hi | ⟨_,f⟩
   ·exact s.1 i hi
   ·obtain rfl:=uj f;exact v m⟩

theorem Rel.newBlk (r:Rel B w0 g h w) (o:Obj) (k:Blk) (c:BlkOk (g.addS (some w.heap.size)) (w.alloc o) w.heap.size k):Rel B w0 (g.addS (some w.heap.size)) (h.new k) (w.alloc o) :=
 (r.alloc0 o).adopt k r.bsz (by simp) c
  (λj=>by
   rcases he:g.Φ w.heap.size j with _ | v
   ·rfl
   ·exact absurd (r.phi_lt he) (tu _))
  (λi x a e=>by
   have hi:i < h.blks.length:=by rw [<- r.slen];exact (ua.1 a).1
   have:=(r.blk i x _ a (ui hi)).2.1;omega)
  (λi t b x f d e=>by
   have:=((r.tok i t f).2 b x.1 x.2 d).lt;omega)
  (λl=>tu _ (r.dfr_lt l)) (r.nnew (ue _)) (r.nold (ue _))

theorem Rel.newCells (r:Rel B w0 g h w) {cs:List AV} {vs:Array Value} (t:TypeId) (a:VA g cs vs.toList) :
  Rel B w0 (g.addS (some w.heap.size)) (h.new (.cells cs)) (w.alloc (.cells vs t)) :=
 r.newBlk _ _ ⟨vs,t,heap_alloc_new w _,a.mono (g.le_addS _)⟩

def Gh.vow (g:Gh) (b:Nat) (f:Nat->Option Value):Gh:={ g with Φ:=λb' j=>if b'=b then (match g.Φ b j with | some v=>some v | none=>f j) else g.Φ b' j }
theorem Gh.le_vow (g:Gh) (b:Nat) (f:Nat->Option Value):g.le (g.vow b f) :=
 ⟨λa j v e=>by
  simp only [Gh.vow];by_cases hb:a=b
  ·subst hb;simp [e]
  ·simp [hb,e],λ_ _ e=>e,λ_ t e=>⟨t,e,ue _,λ_=>rfl,rfl⟩,λ_ h=>h,λ_ _ h=>h,λ_ h=>h⟩

theorem Rel.vow (r:Rel B w0 g h w) {b:Nat} {f:Nat->Option Value} (D:∀j v,f j=some v->w.cell? ⟨b,j,none⟩=some v)
  (hs:∀(i c:Nat),g.σ[i]?=some (some c)->h.blks[i]? ≠ some .dead->c ≠ b)
  (z:∀(i:Nat) (t:TI) (l e:Nat),g.τ[i]?=some t->t.loc=some (b,l,e)->t.row=false/\∀j,l<=j->f j=none) (s:g.N b=none):Rel B w0 (g.vow b f) h w :=
 ⟨r.below,r.bsz,λa j v e=>by
   simp only [Gh.vow] at e;by_cases hb:a=b
   ·subst hb;simp only [ur] at e;split at e
    ·rename_i H F;cases e;exact r.phi _ _ _ F
    ·exact D j v e
   ·simp only [hb,uJ] at e;exact r.phi _ _ _ e,r.slen,
  λi c k y o=>by
   obtain ⟨q,n,E,A⟩:=r.blk i c k y o;refine ⟨q,n,E.mono (g.le_vow b f) rfl,λhd j=>?_⟩;have m:c ≠ b:=hs i c y (by rw [o];intro e;injection e with e;exact hd e);simp only [Gh.vow,m,uJ];exact A hd j,r.tlen,
  λi t hi=>by
   obtain ⟨q,n⟩:=r.tok i t hi;refine ⟨q,λa l e p=>(n a l e p).mono (ue _) rfl λj u=>?_⟩;simp only [Gh.vow];by_cases hb:a=b
   ·subst hb;simp only [ur,(n a l e p).free j u];exact (z i t l e hi p).2 j u
   ·simp only [hb,uJ],r.sinj,r.tinj,r.sep,r.dfr,
  λi k hi o=>(r.row i k hi o).mono (g.le_vow b f) (PlK.same rfl) (λ_ _ h _=>h) (λi t a x C I p=>⟨rfl,λj=>by
   have m:a ≠ b:=by
    rintro rfl
    grind
   simp only [Gh.vow,m,uJ]⟩),r.rinj,
  λa x d=>by
   by_cases hbb:a=b
   ·subst hbb;have d:g.N a=some x:=d;rw [s] at d;cases d
   ·exact (r.nb a x d).mono (ue _) (ue _) λ_ _ G=>⟨rfl,G,λh j=>by simp only [Gh.vow,hbb,uJ];exact h j⟩,r.ob,r.oa⟩

theorem Rel.newRow (r:Rel B w0 g h w) (vs:Array Value) (t:TypeId) (n:Nat) :
  Rel B w0 (g.vow w.heap.size λj=>if j < n then vs[j]? else none) h (w.alloc (.cells vs t)) :=
 (r.alloc0 _).vow (λj v e=>by
   split at e
   ·simp_all
   ·cases e)
  (λi c a _ e=>by
   have hi:i < h.blks.length:=by rw [<- r.slen];exact (ua.1 a).1
   have:=(r.blk i c _ a (ui hi)).2.1;omega)
  (λi t l e d b=>by
   have:=((r.tok i t d).2 _ l e b).lt;omega) (r.nnew (ue _))

theorem Rel.putObj (r:Rel B w0 g h w) {i c:Nat} {k k':Blk} (p:g.σ[i]?=some (some c)) (Q:h.blks[i]?=some k) (hd:k ≠ .dead) {w':World} (P:w'.os=w.os) (N:w'.tape=w.tape)
  (I:w'.output=w.output) (z:w'.heap.size=w.heap.size) (d:∀b,b ≠ c->w'.heap[b]?=w.heap[b]?) (O:BlkOk g w' c k'):Rel B w0 g (h.put i k') w':=by
 obtain ⟨W,S,_,u⟩:=r.blk i c k p Q;refine ⟨⟨P.trans r.below.os,N.trans r.below.tape,I.trans r.below.output,by rw [z];exact r.below.size,λb n=>(d b (by omega)).trans (r.below.block b n)⟩,
  by omega,λb j v e=>?_,by simp [AH.put,r.slen],λo J L D f=>?_,r.tlen,λo t F=>?_,r.sinj,r.tinj,r.sep,λx H=>⟨(r.dfr x H).1,(d x (by rintro rfl;exact (r.dfr x H).2.2 i p)).trans (r.dfr x H).2.1,(r.dfr x H).2.2⟩,λo q y M=>?_,λA K t C V es es' m E=>?_,
  λb x n=>(r.nb b x n).mono (ue _) (by rw [z];exact ue _) λ_ _ R=>⟨d b (by rintro rfl;exact R.1 i p),R,λh=>h⟩,λb n=>⟨by rw [z];exact (r.ob b n).1,(r.ob b n).2⟩,r.oa⟩
 ·have s:b ≠ c:=by rintro rfl;rw [u hd j] at e;cases e
  exact (World.cell?_of_block (w:=w) (w':=w') (a:=⟨b,j,none⟩) (d b s)).trans (r.phi b j v e)
 ·simp only [AH.put] at f;by_cases hi:o=i
  ·grind
  ·rw [uR (λe=>hi e.symm)] at f;obtain ⟨m,E,U,T⟩:=r.blk o J L D f;have s:J ≠ c:=by rintro rfl;exact hi (r.sinj _ _ _ D p)
   exact ⟨m,by omega,U.mono (Gh.le.refl g) (d J s),T⟩
 ·obtain ⟨m,E⟩:=r.tok o t F;refine ⟨m,λb l e G=>(E b l e G).mono (by omega) (d b ?_) λ_ _=>rfl⟩;exact r.sep i c o t b (l,e) p F G
 ·have hi:o ≠ i:=by rintro rfl;rw [p] at y;cases y
  simp only [AH.put] at M;rw [uR (λe=>hi e.symm)] at M;exact (r.row o q y M).mono (Gh.le.refl g) ⟨λ_ _ h=>h,λb q n=>d b (by rintro rfl;exact (r.nb b _ n).2.1.1 i p)⟩ (λ_ _ h _=>h) (λK t b x F _ G=>⟨d b (r.sep i c K t b x p F G),λ_=>rfl⟩)
 ·have key:∀(A t C:Nat) (es:List (List AV)),(h.blks.set i k')[A]?=some (.row t C es)->h.blks[A]?=some (.row t C es):=by
   intro A t C es m;by_cases hi:A=i
   ·subst hi;rw [uz (ua.1 Q).1] at m;injection m with m;subst m;exact O.elim
   ·grind
  exact r.rinj A K t C V es es' (key _ _ _ _ m) (key _ _ _ _ E)
end
end Go.Vv
namespace Go.Vv
open Go Go.RowKit
section
variable {B:Nat} {w0 w:World} {g:Gh} {h:AH}

def Gh.setT (g:Gh) (i:Nat) (t:TI):Gh:={ g with τ:=g.τ.set i t }
def Gh.addT (g:Gh) (t:TI):Gh:={ g with τ:=g.τ++[t] }
theorem Gh.le_setT {g:Gh} {i:Nat} {t t':TI} (hi:g.τ[i]?=some t) (b:t.n < t'.n) (a:t'.row=t.row):g.le (g.setT i t') :=
 ⟨λ_ _ _ e=>e,λ_ _ e=>e,λj u e=>by
  simp only [Gh.setT];by_cases hj:j=i
  ·subst hj
   grind
  ·exact ⟨u,by grind,ue _,λ_=>rfl,rfl⟩,λ_ h=>h,λ_ _ h=>h,λ_ h=>h⟩
theorem Gh.le_addT (g:Gh) (t:TI):g.le (g.addT t) :=
 ⟨λ_ _ _ e=>e,λ_ _ e=>e,λj u e=>by
  simp only [Gh.addT];exact ⟨u,by grind,ue _,λ_=>rfl,rfl⟩,λ_ h=>h,λ_ _ h=>h,λ_ h=>h⟩

theorem Rel.setTok (r:Rel B w0 g h w) {i:Nat} {t t':TI} (hi:g.τ[i]?=some t) (Q:t.n < t'.n) (P:t.row=false) (A:t'.row=false)
  (C:∀b l e,t'.loc=some (b,l,e)->LocOk g.Φ B w b l e)
  (hd:∀b x,t'.loc=some (b,x)->(∃y,t.loc=some (b,y)) \/ ((∀(j:Nat) (u:TI) (y:Nat×Nat),g.τ[j]?=some u->u.loc ≠ some (b,y))/\(∀(j c:Nat),g.σ[j]?=some (some c)->b ≠ c)/\g.N b=none/\¬ g.O b)) :
  Rel B w0 (g.setT i t') { h with toks:=h.toks.set i t'.n } w:=by
 have K:i < g.τ.length:=(ua.1 hi).1;have key:∀(j:Nat) (u:TI),(g.setT i t').τ[j]?=some u->(j=i/\u=t') \/ (j ≠ i/\g.τ[j]?=some u):=by
  intro j u e;simp only [Gh.setT] at e
  grind
 refine ⟨r.below,r.bsz,r.phi,r.slen,λV c k F L=>?_,by simp [Gh.setT,r.tlen],λj u a=>?_,r.sinj,λj G u U b x y J f s M=>?_,λj c G u b x F a s=>?_,r.dfr,
  λq k S L=>(r.row q k S L).mono (Gh.le_setT hi Q (A.trans P.symm)) (PlK.same rfl) (λj u J W=>by
   have o:j ≠ i:=by grind
   simp only [Gh.setT];rw [uR (λe=>o e.symm)];exact J) (λ_ _ _ _ _ _ _=>⟨rfl,λ_=>rfl⟩),r.rinj,λb x p=>?_,r.ob,λb p=>?_⟩
 rotate_right
 rotate_right
 ·exact (r.nb b x p).mono (ue _) (ue _) λ_ _ m=>⟨rfl,⟨m.1,m.2.1,λj u y a D=>by
    rcases key j u a with ⟨rfl,rfl⟩ | ⟨_,a⟩
    ·rcases hd b y D with ⟨z,d⟩ | ⟨_,_,I,_⟩
     ·exact m.2.2 _ _ z hi d
     ·have p:g.N b=some x:=p
      simp_all
    ·exact m.2.2 j u y a D⟩,λh=>h⟩
 ·have m:=r.oa b p;refine ⟨m.1,m.2.1,λj u y a D=>?_⟩;rcases key j u a with ⟨rfl,rfl⟩ | ⟨_,a⟩
  ·rcases hd b y D with ⟨z,d⟩ | ⟨_,_,_,I⟩
   ·exact m.2.2 _ _ z hi d
   ·exact I p
  ·exact m.2.2 j u y a D
 ·obtain ⟨H,v,I,T⟩:=r.blk V c k F L;exact ⟨H,v,I.mono (Gh.le_setT hi Q (A.trans P.symm)) rfl,T⟩
 ·rcases key j u a with ⟨rfl,rfl⟩ | ⟨J,a⟩
  ·exact ⟨uz (by rw [<- r.tlen];exact K),C⟩
  ·obtain ⟨H,v⟩:=r.tok j u a;exact ⟨by grind,v⟩
 ·rcases key j u J with ⟨rfl,rfl⟩ | ⟨o,E⟩ <;> rcases key G U f with ⟨rfl,rfl⟩ | ⟨R,f⟩
  ·rfl
  ·rcases hd b x s with ⟨z,d⟩ | ⟨H,_⟩
   ·exact r.tinj _ _ _ _ b z y hi f d M
   ·grind
  ·rcases hd b y M with ⟨z,d⟩ | ⟨H,_⟩
   ·exact r.tinj _ _ _ _ b x z E hi s d
   ·grind
  ·exact r.tinj _ _ _ _ b x y E f s M
 ·rcases key G u a with ⟨rfl,rfl⟩ | ⟨o,a⟩
  ·rcases hd b x s with ⟨z,d⟩ | ⟨_,v,_⟩
   ·exact r.sep j c _ t b z F hi d
   ·exact v j c F
  ·exact r.sep j c G u b x F a s

theorem Rel.addTok (r:Rel B w0 g h w) (t:TI) (m:∀b l e,t.loc=some (b,l,e)->LocOk g.Φ B w b l e)
  (hd:∀b x,t.loc=some (b,x)->(∀(j:Nat) (u:TI) (y:Nat×Nat),g.τ[j]?=some u->u.loc ≠ some (b,y))/\(∀(j c:Nat),g.σ[j]?=some (some c)->b ≠ c)/\g.N b=none/\¬ g.O b) :
  Rel B w0 (g.addT t) { h with toks:=h.toks++[t.n] } w:=by
 have key:∀(j:Nat) (u:TI),(g.addT t).τ[j]?=some u->(j=g.τ.length/\u=t) \/ (j < g.τ.length/\g.τ[j]?=some u):=by
  intro j u e;simp only [Gh.addT] at e
  grind
 refine ⟨r.below,r.bsz,r.phi,r.slen,λM c k z D=>?_,by simp [Gh.addT,r.tlen],λj u a=>?_,r.sinj,λj p u J b x y o d v K=>?_,λj c p u b x z a v=>?_,r.dfr,
  λq k H D=>(r.row q k H D).mono (Gh.le_addT g t) (PlK.same rfl) (λj u o _=>by
   simp only [Gh.addT];rw [uo (ua.1 o).1];exact o) (λ_ _ _ _ _ _ _=>⟨rfl,λ_=>rfl⟩),r.rinj,λb x i=>?_,r.ob,λb i=>?_⟩
 rotate_right
 rotate_right
 ·exact (r.nb b x i).mono (ue _) (ue _) λ_ _ f=>⟨rfl,⟨f.1,f.2.1,λj u y a s=>by
    rcases key j u a with ⟨rfl,rfl⟩ | ⟨_,a⟩
    ·have i:g.N b=some x:=i
     simp_all
    ·exact f.2.2 j u y a s⟩,λh=>h⟩
 ·have f:=r.oa b i;refine ⟨f.1,f.2.1,λj u y a s=>?_⟩;rcases key j u a with ⟨rfl,rfl⟩ | ⟨_,a⟩
  ·exact (hd b y s).2.2.2 i
  ·exact f.2.2 j u y a s
 ·obtain ⟨F,C,L,I⟩:=r.blk M c k z D;exact ⟨F,C,L.mono (Gh.le_addT g t) rfl,I⟩
 ·rcases key j u a with ⟨rfl,rfl⟩ | ⟨o,a⟩
  ·refine ⟨?_,m⟩;rw [r.tlen,un (ue _)];simp
  ·obtain ⟨F,C⟩:=r.tok j u a;exact ⟨by grind,C⟩
 ·rcases key j u o with ⟨rfl,rfl⟩ | ⟨A,E⟩ <;> rcases key p J d with ⟨rfl,rfl⟩ | ⟨G,d⟩
  ·rfl
  ·grind
  ·grind
  ·exact r.tinj _ _ _ _ b x y E d v K
 ·rcases key p u a with ⟨rfl,rfl⟩ | ⟨A,a⟩
  ·exact (hd b x v).2.1 j c z
  ·exact r.sep j c p u b x z a v

theorem Rel.setSpare (r:Rel B w0 g h w) {i:Nat} {t:TI} {b l e:Nat} (hi:g.τ[i]?=some t) (A:t.loc=some (b,l,e)) {cur new:Array Value} {ty:TypeId}
  (H:w.heap[b]?=some (.cells cur ty (0,0))) (hsz:new.size=cur.size) (C:∀j,j < l->new[j]?=cur[j]?):Rel B w0 g h (w.setRow b new):=by
 have lo:=(r.tok i t hi).2 b l e A;have n:(w.setRow b new).heap[b]?=some (.cells new ty (0,0)):=setRow_heap w b cur new ty (0,0) H;refine ⟨⟨r.below.os,r.below.tape,r.below.output,by simp [r.below.size],λk E=>(setRow_other w b k new (by have:=lo.lo;omega)).trans (r.below.block k E)⟩,by simp [r.bsz],λd j v J=>?_,
  r.slen,λL c k F E=>?_,r.tlen,λL t' O=>?_,r.sinj,r.tinj,r.sep,λx K=>⟨(r.dfr x K).1,(setRow_other w b x new (by rintro rfl;have:=(r.dfr x K).2.1;rw [H] at this;cases this)).trans (r.dfr x K).2.1,(r.dfr x K).2.2⟩,λq k W E=>?_,r.rinj,
  λd x f=>(r.nb d x f).mono (ue _) (by simp) λ_ _ T=>⟨setRow_other w b d new (by rintro rfl;exact T.2.2 i t _ hi A),T,λh=>h⟩,λd f=>⟨by simpa using (r.ob d f).1,(r.ob d f).2⟩,r.oa⟩
 ·by_cases f:d=b
  ·subst f;have G:j < l:=by
    rcases sn j l with G | G
    ·exact G
    ·rw [lo.free j G] at J;cases J
   have:=r.phi d j v J;rw [cell_of_row w d j cur ty (0,0) H] at this;rw [cell_of_row _ d j new ty (0,0) n,C j G];omega
  ·exact (World.cell?_of_block (w:=w) (a:=⟨d,j,none⟩) (setRow_other w b d new f)).trans (r.phi d j v J)
 ·obtain ⟨u,I,R,N⟩:=r.blk L c k F E;exact ⟨u,by simp_all,R.mono (Gh.le.refl g) (setRow_other w b c new (r.sep L c i t b (l,e) F hi A).symm),N⟩
 ·obtain ⟨u,I⟩:=r.tok L t' O;refine ⟨u,λd l' M P=>?_⟩;have y:=I d l' M P;by_cases f:d=b
  ·subst f;obtain ⟨cs,U,m,hle⟩:=y.cells;rw [H] at m;injection m with m;injection m with m _ _;subst m;exact ⟨y.lo,by grind,⟨new,ty,n,by omega⟩,y.free⟩
  ·exact y.mono (by simp) (setRow_other w b d new f) λ_ _=>rfl
 ·have p:=r.row q k W E;cases k with
  | row i2 k es =>
   obtain ⟨V,u,I,R,N,Y,h6⟩:=p;refine ⟨V,u,I,R,N,Y,h6.imp id ?_⟩
   rintro ⟨z,o,Z,cs,ty2,s,D,X,k4,S⟩
   by_cases f:z=b
   ·subst f;have Q:=r.tinj _ _ _ _ z _ _ u hi s A;subst Q;rw [hi] at u;injection u with u;subst u;rw [A] at s;injection s with s;injection s with _ s;injection s with s _;rw [H] at D;injection D with D;injection D with D k22 _;subst D;refine ⟨z,o,e,new,ty,by rw [A,s],n,?_,by omega,S⟩;have:(new.toList.drop o).take (es.length * k)=(cur.toList.drop o).take (es.length * k):=by
     apply uT
     grind
    simp_all
   ·exact ⟨z,o,Z,cs,ty2,s,(setRow_other w b z new f).trans D,X,k4,S⟩
  | pool ms=>exact PoolOk.mono (Gh.le.refl g).lv ⟨λ_ _ h=>h,λz q2 f=>setRow_other w b z new (by rintro rfl;exact (r.nb z _ f).2.1.2.2 i t _ hi A)⟩ p
  | dead=>trivial
  | _=>exact p.elim

theorem Rel.setRow (r:Rel B w0 g h w) {i q k:Nat} {t t':TI} {es es':List (List AV)} (hi:g.τ[i]?=some t) (hn:t.n < t'.n) (hf:t.row=true) (X:t'.row=true)
  (hq:g.σ[q]?=some none) (m:h.blks[q]?=some (.row i k es)) (P:RowOk (g.setT i t') w i k es')
  (K:∀b l e,t'.loc=some (b,l,e)->LocOk g.Φ B w b l e)
  (hd:∀b x,t'.loc=some (b,x)->(∃y,t.loc=some (b,y)) \/ ((∀(j:Nat) (u:TI) (y:Nat×Nat),g.τ[j]?=some u->u.loc ≠ some (b,y))/\(∀(j c:Nat),g.σ[j]?=some (some c)->b ≠ c)/\g.N b=none/\¬ g.O b)) :
  Rel B w0 (g.setT i t') { h.put q (.row i k es') with toks:=h.toks.set i t'.n } w:=by
 have U:i < g.τ.length:=(ua.1 hi).1;have E:=Gh.le_setT hi hn (X.trans hf.symm);have key:∀(j:Nat) (u:TI),(g.setT i t').τ[j]?=some u->(j=i/\u=t') \/ (j ≠ i/\g.τ[j]?=some u):=by
  intro j u e;simp only [Gh.setT] at e
  grind
 have hql:q < h.blks.length:=(ua.1 m).1;have d:∀(j:Nat) (b:Blk),(h.blks.set q (.row i k es'))[j]?=some b->(j=q/\b=.row i k es') \/ (j ≠ q/\h.blks[j]?=some b):=by
  grind
 refine ⟨r.below,r.bsz,r.phi,by simp [AH.put,Gh.setT,r.slen],λZ c b F J=>?_,by simp [Gh.setT,r.tlen],λj u a=>?_,r.sinj,λj Q u u' b x y T s G Y=>?_,λj c Q u b x F a G=>?_,r.dfr,
  λj b T J=>?_,λj1 j2 t1 k1 k2 e1 e2 V A=>?_,λb x m=>?_,r.ob,λb m=>?_⟩
 rotate_right
 rotate_right
 ·exact (r.nb b x m).mono (ue _) (ue _) λ_ _ v=>⟨rfl,⟨v.1,v.2.1,λj u y a L=>by
    rcases key j u a with ⟨rfl,rfl⟩ | ⟨_,a⟩
    ·rcases hd b y L with ⟨z,p⟩ | ⟨_,_,S,_⟩
     ·exact v.2.2 _ _ z hi p
     ·have m:g.N b=some x:=m
      simp_all
    ·exact v.2.2 j u y a L⟩,λh=>h⟩
 ·have v:=r.oa b m;refine ⟨v.1,v.2.1,λj u y a L=>?_⟩;rcases key j u a with ⟨rfl,rfl⟩ | ⟨_,a⟩
  ·rcases hd b y L with ⟨z,p⟩ | ⟨_,_,_,S⟩
   ·exact v.2.2 _ _ z hi p
   ·exact S m
  ·exact v.2.2 j u y a L
 ·have F:g.σ[Z]?=some (some c):=F;rcases d Z b J with ⟨rfl,rfl⟩ | ⟨o,J⟩
  ·simp_all
  ·obtain ⟨R,H,S,h4⟩:=r.blk Z c b F J;exact ⟨R,H,S.mono E rfl,h4⟩
 ·rcases key j u a with ⟨rfl,rfl⟩ | ⟨T,a⟩
  ·exact ⟨uz (by rw [<- r.tlen];exact U),K⟩
  ·obtain ⟨R,H⟩:=r.tok j u a;exact ⟨by grind,H⟩
 ·rcases key j u T with ⟨rfl,rfl⟩ | ⟨o,A⟩ <;> rcases key Q u' s with ⟨rfl,rfl⟩ | ⟨hne',s⟩
  ·rfl
  ·rcases hd b x G with ⟨z,p⟩ | ⟨R,_⟩
   ·exact r.tinj _ _ _ _ b z y hi s p Y
   ·grind
  ·rcases hd b y Y with ⟨z,p⟩ | ⟨R,_⟩
   ·exact r.tinj _ _ _ _ b x z A hi G p
   ·grind
  ·exact r.tinj _ _ _ _ b x y A s G Y
 ·rcases key Q u a with ⟨rfl,rfl⟩ | ⟨o,a⟩
  ·rcases hd b x G with ⟨z,p⟩ | ⟨_,H,_⟩
   ·exact r.sep j c _ t b z F hi p
   ·exact H j c F
  ·exact r.sep j c Q u b x F a G
 ·rcases d j b J with ⟨rfl,rfl⟩ | ⟨o,f⟩
  ·exact P
  ·have M:=r.row j b T f;cases b with
   | row i2 k2 e2 =>
    have M:RowOk g w i2 k2 e2:=M;have W:i2 ≠ i:=by rintro rfl;exact o (r.rinj _ _ _ _ _ _ _ f m)
    exact M.mono E (by simp only [Gh.setT];exact uR (λe=>W e.symm)) (λ_ _ _ _ _ _=>⟨rfl,λ_=>rfl⟩)
   | pool ms=>exact PoolOk.mono E.lv (PlK.same rfl) M
   | dead=>trivial
   | _=>exact M.elim
 ·rcases d j1 _ V with ⟨rfl,D⟩ | ⟨hne1,I⟩ <;> rcases d j2 _ A with ⟨rfl,C⟩ | ⟨hne2,f⟩
  ·rfl
  ·injection D with D _ _;subst D;exact r.rinj _ _ _ _ _ _ _ m f
  ·injection C with C _ _;subst C;exact r.rinj _ _ _ _ _ _ _ I m
  ·exact r.rinj _ _ _ _ _ _ _ I f

theorem Rel.rowAt (r:Rel B w0 g h w) {id q k:Nat} {es:List (List AV)} (b:h.blk id=some (.row q k es)):g.σ[id]?=some none/\RowOk g w q k es:=by
 have d:id < g.σ.length:=by rw [r.slen];exact (ua.1 b).1
 rcases a:g.σ[id] with _ | c
 ·have a:g.σ[id]?=some none:=by rw [ui d,a]
  exact ⟨a,r.row _ _ a b⟩
 ·exact (r.blk id c _ (by simp_all) b).2.2.1.elim

theorem Rel.storeRow (r:Rel B w0 g h w) {q i k:Nat} {es es':List (List AV)} (n:h.blk q=some (.row i k es)) {t:TI} {b o e:Nat} {cur new:Array Value} {ty:TypeId} (hi:g.τ[i]?=some t)
  (I:t.loc=some (b,o+es.length * k,e)) (L:w.heap[b]?=some (.cells cur ty (0,0))) (hsz:new.size=cur.size) (E:∀j,j < o->new[j]?=cur[j]?) (J:es'.length=es.length)
  (hk:∀e ∈ es',e.length=k) (hp:es'.flatten.all AV.pure=true) (hva:VA g es'.flatten ((new.toList.drop o).take (es.length * k))) (hne:es ≠ []) :
  Rel B w0 g (h.put q (.row i k es')) (w.setRow b new):=by
 obtain ⟨hσ,t2,m,W,U,_,_,hrow⟩:=r.rowAt n;rw [hi] at m;injection m with m;subst m;obtain ⟨s,H,Q,cs,ty2,F,A,k3,k4,k5⟩:∃s H Q cs ty2,t.loc=some (s,H+es.length * k,Q)/\w.heap[s]?=some (.cells cs ty2 (0,0))/\VA g es.flatten ((cs.toList.drop H).take (es.length * k))/\H+es.length * k<=cs.size/\∀j,H<=j->g.Φ s j=none:=by
  simp_all
 rw [I] at F;injection F with F;injection F with e1 F;injection F with F _;obtain rfl:o=H:=by omega
 subst e1;rw [L] at A;injection A with A;injection A with A _ _;subst A;have lo:=(r.tok i t hi).2 b _ e I;have p:(w.setRow b new).heap[b]?=some (.cells new ty (0,0)):=setRow_heap w b cur new ty (0,0) L;have hql:q < h.blks.length:=(ua.1 n).1;have f:∀(j:Nat) (x:Blk),(h.blks.set q (.row i k es'))[j]?=some x->(j=q/\x=.row i k es') \/ (j ≠ q/\h.blks[j]?=some x):=by
  grind
 have K:∀(y c:Nat),g.σ[y]?=some (some c)->c ≠ b:=λy c h'=>(r.sep y c i t b _ h' hi I).symm;refine ⟨⟨r.below.os,r.below.tape,r.below.output,by simp [r.below.size],λx z=>(setRow_other w b x new (by have:=lo.lo;omega)).trans (r.below.block x z)⟩,by simp [r.bsz],λd j v e'=>?_,
  by simp [AH.put,r.slen],λy c x O C=>?_,r.tlen,λy t' V=>?_,r.sinj,r.tinj,r.sep,λx z=>⟨(r.dfr x z).1,(setRow_other w b x new (by rintro rfl;have:=(r.dfr x z).2.1;rw [L] at this;cases this)).trans (r.dfr x z).2.1,(r.dfr x z).2.2⟩,
  λj x X z=>?_,λj1 j2 t1 x1 x2 e1 Q Y hj2=>?_,
  λd x n=>(r.nb d x n).mono (ue _) (by simp) λ_ _ ha=>⟨setRow_other w b d new (by rintro rfl;exact ha.2.2 i t _ hi I),ha,λh=>h⟩,λd n=>⟨by simpa using (r.ob d n).1,(r.ob d n).2⟩,r.oa⟩
 ·by_cases hb':d=b
  ·subst hb';have X:j < o:=by
    grind
   have:=r.phi d j v e';rw [cell_of_row w d j cur ty (0,0) L] at this;rw [cell_of_row _ d j new ty (0,0) p,E j X];omega
  ·exact (World.cell?_of_block (w:=w) (a:=⟨d,j,none⟩) (setRow_other w b d new hb')).trans (r.phi d j v e')
 ·rcases f y x C with ⟨rfl,rfl⟩ | ⟨_,C⟩
  ·simp_all
  ·obtain ⟨h1,h2,h3,h4⟩:=r.blk y c x O C;exact ⟨h1,by simp_all,h3.mono (Gh.le.refl g) (setRow_other w b c new (K y c O)),h4⟩
 ·obtain ⟨h1,h2⟩:=r.tok y t' V;refine ⟨h1,λd l' T hl'=>?_⟩;have u:=h2 d l' T hl';by_cases hb':d=b
  ·subst hb';obtain ⟨cs,ty',l,hle⟩:=u.cells;rw [L] at l;injection l with l;injection l with l _ _;subst l;exact ⟨u.lo,by grind,⟨new,ty,p,by omega⟩,u.free⟩
  ·exact u.mono (by simp) (setRow_other w b d new hb') λ_ _=>rfl
 ·rcases f j x z with ⟨rfl,rfl⟩ | ⟨M,P⟩
  ·exact ⟨t,hi,W,U.trans J.symm,hk,hp,.inr ⟨b,o,e,new,ty,by simp_all,p,by simp_all,by simp_all,k5⟩⟩
  ·have S:=r.row j x X P;cases x with
   | row i2 A Q =>
    have S:RowOk g w i2 A Q:=S;refine S.mono (Gh.le.refl g) rfl λt2 s x2 m _ Z=>⟨setRow_other w b s new ?_,λ_=>rfl⟩
    rintro rfl
    have:=r.tinj _ _ _ _ s _ _ m hi Z I;subst this;exact M (r.rinj _ _ _ _ _ _ _ P n)
   | pool ms=>exact PoolOk.mono (Gh.le.refl g).lv ⟨λ_ _ h=>h,λs q2 n=>setRow_other w b s new (by rintro rfl;exact (r.nb s _ n).2.1.2.2 i t _ hi I)⟩ S
   | dead=>trivial
   | _=>exact S.elim
 ·rcases f j1 _ Y with ⟨rfl,D⟩ | ⟨hne1,R⟩ <;> rcases f j2 _ hj2 with ⟨rfl,G⟩ | ⟨hne2,N⟩
  ·rfl
  ·injection D with D _ _;subst D;exact r.rinj _ _ _ _ _ _ _ n N
  ·injection G with G _ _;subst G;exact r.rinj _ _ _ _ _ _ _ R n
  ·exact r.rinj _ _ _ _ _ _ _ R N
theorem Rel.scribble (r:Rel B w0 g h w) {b s:Nat} (H:g.N b=some (.gar s)) {cur new:Array Value} {ty:TypeId}
  (f:w.heap[b]?=some (.cells cur ty (0,0))) (P:new.size=cur.size):Rel B w0 g h (w.setRow b new):=by
 obtain ⟨U,⟨n,had,F⟩,⟨Q,K,p,L⟩,m⟩:=r.nb b _ H;have l:(w.setRow b new).heap[b]?=some (.cells new ty (0,0)):=setRow_heap w b cur new ty (0,0) f;refine ⟨⟨r.below.os,r.below.tape,r.below.output,by simp [r.below.size],λk i=>(setRow_other w b k new (by omega)).trans (r.below.block k i)⟩,by simp [r.bsz],λd j v A=>?_,
  r.slen,λI c k y i=>?_,r.tlen,λI t' C=>?_,r.sinj,r.tinj,r.sep,λx G=>⟨(r.dfr x G).1,(setRow_other w b x new (by grind)).trans (r.dfr x G).2.1,(r.dfr x G).2.2⟩,λq k M i=>?_,r.rinj,λd x e=>?_,λd e=>⟨by simpa using (r.ob d e).1,(r.ob d e).2⟩,r.oa⟩
 ·have o:d ≠ b:=by rintro rfl;rw [m] at A;cases A
  exact (World.cell?_of_block (w:=w) (a:=⟨d,j,none⟩) (setRow_other w b d new o)).trans (r.phi d j v A)
 ·obtain ⟨z,J,R,O⟩:=r.blk I c k y i;exact ⟨z,by simp_all,R.mono (Gh.le.refl g) (setRow_other w b c new (by grind)),O⟩
 ·obtain ⟨z,J⟩:=r.tok I t' C;exact ⟨z,λd T u D=>(J d T u D).mono (by simp) (setRow_other w b d new (by grind)) λ_ _=>rfl⟩
 ·exact (r.row q k M i).mono (Gh.le.refl g) ⟨λ_ _ h=>h,λE q e=>setRow_other w b E new (by rintro rfl;rw [H] at e;cases e)⟩ (λ_ _ h _=>h) (λV t E x W _ X=>⟨setRow_other w b E new (by grind),λ_=>rfl⟩)
 ·by_cases hbb:d=b
  ·subst hbb;rw [H] at e;injection e with e;subst e;rw [p] at f;injection f with f;injection f with f _ _;subst f;exact ⟨U,⟨n,had,F⟩,⟨new,ty,l,by omega⟩,m⟩
  ·exact (r.nb d x e).mono (ue _) (by simp) λ_ _ S=>⟨setRow_other w b d new hbb,S,λh=>h⟩
def Gh.addN (g:Gh) (b:Nat) (x:BK):Gh:={ g with N:=λc=>if c=b then some x else g.N c }
theorem Gh.le_addN {g:Gh} {b:Nat} (x:BK) (h:g.N b=none):g.le (g.addN b x) :=
 ⟨λ_ _ _ e=>e,λ_ _ e=>e,λ_ t e=>⟨t,e,ue _,λ_=>rfl,rfl⟩,λ_ h=>h,λc y e=>by
  simp only [Gh.addN];by_cases hc:c=b
  ·subst hc;rw [h] at e;cases e
  ·simp [hc,e],λ_ h=>h⟩
theorem Rel.mark (r:Rel B w0 g h w) {b:Nat} {cs:Array Value} {ty:TypeId} (m:g.N b=none) (u:B<=b) (l:w.heap[b]?=some (.cells cs ty (0,0))) (j:Apart g b) (s:¬ g.O b):Rel B w0 (g.addN b (.new cs.size)) h w :=
 ⟨r.below,r.bsz,r.phi,r.slen,λi c k l f=>by obtain ⟨p,n,t,o⟩:=r.blk i c k l f;exact ⟨p,n,t.mono (Gh.le_addN _ m) rfl,o⟩,r.tlen,r.tok,r.sinj,r.tinj,r.sep,r.dfr,
   λi k hi f=>(r.row i k hi f).mono (Gh.le_addN _ m) ⟨λv q h=>by
     simp only [Gh.addN] at h;split at h
     · cases h
     · exact h,λ_ _ _=>rfl⟩ (λ_ _ h _=>h) (λ_ _ _ _ _ _ _=>⟨rfl,λ_=>rfl⟩),r.rinj,λd x a=>by
     simp only [Gh.addN] at a;by_cases hbb:d=b
     · subst hbb;simp only [ur,uf] at a;subst a;exact ⟨u,j,cs,ty,l,rfl⟩
     · simp only [hbb,uJ] at a;exact (r.nb d x a).mono (ue _) (ue _) λ_ _ j=>⟨rfl,j,λh=>h⟩,λd a=>by
     have e:d ≠ b:=by rintro rfl;exact s a
     have:=r.ob d a;simp only [Gh.addN,e,uJ];exact this,r.oa⟩
end
end Go.Vv
namespace Go.Vv
open Go Go.RowKit Go.Lib
variable {t u ty e:TypeId} {du:TypeDesc} {i:TypeInfo}
section
variable {g:Gh}
theorem VC.toVA {b:Nat}:∀{o:Nat} {a5:List AV},VC g b o a5->∃vs:List Value,VA g a5 vs/\a5.all AV.pure=true/\∀j u,vs[j]?=some u->g.Φ b (o+j)=some u
 | _,[],_=>⟨[],by rfl,rfl,by simp⟩
 | o,a::r,h=>by
  simp only [VC] at h;obtain ⟨⟨v,h0,c,k⟩,l⟩:=h;obtain ⟨vs,d,f,m⟩:=VC.toVA l;refine ⟨v::vs,by simp only [VA];exact ⟨v,vs,rfl,⟨AV.one_of_pure c,k⟩,d⟩,by simp [c,f],λj u n=>?_⟩
  grind
theorem VC.ofVA {b:Nat}:∀{o:Nat} {a5:List AV} {vs:List Value},VA g a5 vs->a5.all AV.pure=true->(∀j u,vs[j]?=some u->g.Φ b (o+j)=some u)->VC g b o a5
 | _,[],_,_,_,_=>by simp only [VC]
 | o,a::r,vs,h,hp,k=>by
  simp only [VA] at h;obtain ⟨v,s,rfl,⟨h0,d⟩,c⟩:=h;simp only [uZ,ud] at hp;simp only [VC];refine ⟨⟨v,by simpa using k 0 v rfl,hp.1,d⟩,VC.ofVA (o:=o+1) c hp.2 λj u f=>?_⟩;rw [show o+1+j=o+(j+1) by omega]
  simp_all
theorem VE_iff {b k:Nat}:∀{o:Nat} {es:List (List AV)},VE g b k o es ↔ (∀e ∈ es,e.length=k)/\VC g b o es.flatten
 | o,[]=>by simp [VE,VC]
 | o,e::r=>by
  simp only [VE,VE_iff (es:=r),uY,ux,forall_eq_or_imp];constructor
  ·rintro ⟨⟨a,f⟩,d,c⟩
   exact ⟨⟨a,d⟩,VC.append f (by simp_all)⟩
  ·rintro ⟨⟨a,d⟩,c⟩
   refine ⟨⟨a,?_⟩,d,?_⟩
   ·have:=VC.take e.length c;rwa [pK] at this
   ·have:=VC.drop e.length c;rwa [rB,a] at this
theorem VA.one':∀{a5:List AV} {vs:List Value},VA g a5 vs->∀u ∈ vs,u.oneCell'=true
 | [],_,h,u,c=>by simp only [VA] at h;subst h;cases c
 | a::r,_,h,u,c=>by
  simp only [VA] at h;obtain ⟨v,s,rfl,⟨h0,b⟩,d⟩:=h;rcases ux.1 c with rfl | c
  ·cases a <;> simp only [V] at b <;> first
    | exact b
    | (subst b;rfl)
    | (obtain ⟨rfl,_⟩:=b;rfl)
    | (obtain ⟨_,_,rfl⟩:=b;rfl)
    | (obtain ⟨_,_,rfl,_⟩:=b;rfl)
    | (obtain ⟨_,_,_,rfl,_⟩:=b;rfl)
    | (obtain ⟨_,rfl,_⟩:=b;rfl)
    | (obtain ⟨_,_,_,rfl,_⟩:=b;rfl)
    | (simp [AV.one] at h0;done)
  ·exact VA.one' d u c
theorem VA.length {a5:List AV} {vs:List Value} (h:VA g a5 vs):a5.length=vs.length:=h.toVL.length
theorem yF {k:Nat}:∀{es:List (List AV)},(∀e ∈ es,e.length=k)->es.flatten.length=es.length * k
 | [],_=>by simp
 | e::r,h=>by
  simp only [uY,uq,ul];rw [yF (es:=r) (λx a=>h x (by simp [a])),h e (by simp),so];omega
end
section
variable {P:Program} {w:World}
structure News (P:Program) (size m:Nat) (x:Value) (news:List Value) (w:World):Prop where
 len:(Builtin.lenOf x).run P w=.ok m w
 cells:(Builtin.firstCells size m x).run P w=.ok news.toArray w

theorem News.slice {size m c:Nat} {b:Addr} {a:List Value} (d:a.length=m * size) (h:∀j v,a[j]?=some v->w.cell? (b.add j)=some v):News P size m (.slice (some b) m c) a w :=
 ⟨rfl,run_firstCells_some w size m b m c a d h⟩
theorem News.str {size:Nat} {s:ByteArray}:News P size s.size (.string s) (strCells s) w:=⟨rfl,run_firstCells_string w size s⟩

def NotInt (d:TypeDesc):Prop:=d=.string \/ ∃e,d=.slice e

theorem run_append_in (r:P.underlying t=some (.slice e)) (v:P.underlying u=some du) (k:NotInt du) (hi:P.info? e=some i)
  {b o n m c:Nat} {x:Value} {a:List Value} (q:News P i.size m x a w) (s:∀u ∈ a,u.oneCell'=true) {cur:Array Value} {l:TypeId} (y:w.heap[b]?=some (.cells cur l (0,0)))
  (d:n+m<=c) (p:o+n * i.size+a.length<=cur.size) :
  (Builtin.append_ #[t,u] ty #[.slice (some ⟨b,o,none⟩) n c,x]).run P w =
   .ok (.slice (some ⟨b,o,none⟩) (n+m) c) (w.setRow b (cur.toList.take (o+n * i.size)++a++cur.toList.drop (o+n * i.size+a.length)).toArray):=by
 have f:=run_storeCells_at P b (o+n * i.size) l a 0 cur w y (by omega) s;simp only [tB] at f;have j:(⟨b,o,none⟩:Addr).add (n * i.size)=⟨b,o+n * i.size,none⟩:=by unfold Addr.add;split <;> simp_all
 rcases k with rfl | ⟨_,rfl⟩ <;> simp [Builtin.append_,run_underlying r,run_underlying v,sizeOf,typeInfo,hi,q.len,d,q.cells,j,f]

theorem qy {z:Value} (q:P.underlying t=some (.slice e)) (y:P.underlying u=some du) (l:NotInt du) (hi:P.info? e=some i) (s:i.zero=some z)
  {n m c:Nat} {a:Option Addr} {x:Value} {d b:List Value} (C:News P i.size m x b w) (k:News P i.size m x b w.drew) (v:(Builtin.firstCells i.size n (.slice a n c)).run P w.drew=.ok d.toArray w.drew)
  (f:c < n+m) (j:n+m<=maxLen) (o:Builtin.nextslicecap (n+m) c * i.bytes<=281474976710656) :
  (Builtin.append_ #[t,u] ty #[.slice a n c,x]).run P w =
   .ok (.slice (some ⟨w.heap.size,0,none⟩) (n+m) (grownCap w (n+m) c e))
    (w.drew.alloc (.cells (d.toArray++b.toArray++Builtin.zeroCells z.cells (grownCap w (n+m) c e - (n+m))) e)):=by
 have r:¬ (n+m<=c):=by omega
 have p:¬ (9223372036854775807 < ((n:Int)+(m:Int))):=by simp only [maxLen] at j;omega
 have A:¬ (281474976710656 < Builtin.nextslicecap (n+m) c * i.bytes):=by omega
 rcases l with rfl | ⟨_,rfl⟩ <;> simp [Builtin.append_,run_underlying q,run_underlying y,sizeOf,typeInfo,zeroValue,hi,s,C.len,r,p,A,v,k.cells,newRow,grownCap,Question.forced] <;> (congr 2;apply rZ;simp [uy])
end
section
variable {P:Program} {w:World} {g:Gh} {h:AH} {B:Nat} {w0:World}

theorem append_row (r:Rel B w0 g h w) {t u ty e:TypeId} {du:TypeDesc} {i:TypeInfo} {z:Value} (ht:P.underlying t=some (.slice e)) (hu:P.underlying u=some du) (hdu:NotInt du) (hi:P.info? e=some i) (hz:i.zero=some z)
  (hzs:z.cells.size=i.size) (hby:i.bytes<=65536) {id q n:Nat} {es:List (List AV)} {sv x:Value} (hs:V g (.rsl id q i.size n) sv) {ys:List (List AV)} {news:List Value} (hl:∀e ∈ ys,e.length=i.size) (hva:VA g ys.flatten news) (hpu:ys.flatten.all AV.pure=true)
  (hn:∀W:World,(∀a v,w.cell? a=some v->W.cell? a=some v)->News P i.size ys.length x news W) (hb:h.blk id=some (.row q i.size es)) (hesn:es.length=n) (htok:h.toks[q]?=some n) (hlim:n+ys.length<=xe) (hy:ys.length ≠ 0) :
  ∃v w' g',(Builtin.append_ #[t,u] ty #[sv,x]).run P w=.ok v w'/\g.le g'/\Rel B w0 g' { h.put id (.row q i.size (es++ys)) with toks:=h.toks.set q (n+ys.length) } w'/\V g' (.rsl id q i.size (n+ys.length)) v:=by
 have hn0:=hn w λ_ _ h=>h;subst hesn;unfold xe at hlim;obtain ⟨hσ,ti,hti,htr,htn,hlen,hpe,hrow⟩:=r.rowAt hb;simp only [V] at hs;obtain ⟨a,c,rfl,hc1,hc2,t2,ht2,hrd,hle,hcap⟩:=hs;obtain rfl:ti=t2:=by simp_all
 have hcap:(es.length=0/\c=0) \/ ∃b o,a=some ⟨b,o,none⟩/\ti.loc=some (b,o+es.length * i.size,o+c * i.size):=hcap.imp (λh=>h) λ⟨b,o,h1,h2⟩=>⟨b,o,h1,h2 htn.symm⟩
 have hnl:news.length=ys.length * i.size:=by rw [<- hva.length,yF hl]
 have hfl:es.flatten.length=es.length * i.size:=yF hlen
 -- the row's cells
 obtain ⟨olds,hov,hold⟩:∃olds:List Value,VA g es.flatten olds/\(Builtin.firstCells i.size es.length (.slice a es.length c)).run P w.drew=.ok olds.toArray w.drew:=by
  rcases hrow with rfl | ⟨b,o,e2,cs,ty2,k1,k2,k3,k4,k5⟩
  ·refine ⟨[],by rfl,?_⟩;cases a with
   | none=>simp [Builtin.firstCells]
   | some ad=>simp [Builtin.firstCells,loadCells,loadCellsFrom]
  ·rcases hcap with ⟨h0,_⟩ | ⟨b',o',rfl,hl'⟩
   ·have:es=[]:=uD h0;subst this;refine ⟨[],by rfl,?_⟩;cases a with
    | none=>simp [Builtin.firstCells]
    | some ad=>simp [Builtin.firstCells,loadCells,loadCellsFrom]
   ·rw [k1] at hl';injection hl' with hl';injection hl' with e1 e2';injection e2' with e2' e3;obtain rfl:o=o':=by omega
    subst e1;refine ⟨_,k3,run_firstCells_some w.drew i.size es.length ⟨b,o,none⟩ es.length c _ (by grind) λj v hv=>?_⟩;rw [World.cell?_drew];have hadd:(⟨b,o,none⟩:Addr).add j=⟨b,o+j,none⟩:=by unfold Addr.add;split <;> simp_all
    rw [hadd,cell_of_row w b (o+j) cs ty2 (0,0) k2]
    grind
 have hol:olds.length=es.length * i.size:=by rw [<- hov.length,hfl]
 by_cases hroom:es.length+ys.length<=c
 ·-- in place
  rcases hcap with ⟨h0,h1⟩ | ⟨b,o,rfl,hlb⟩
  ·omega
  ·obtain ⟨_,hloc⟩:=r.tok _ _ hti;have lo:=hloc b _ _ hlb;obtain ⟨cur,ty',hcur,hce⟩:=lo.cells;have hmul:es.length * i.size+news.length<=c * i.size:=by rw [hnl,<- tg];exact u9 _ hroom
   have hrun:=run_append_in (ty:=ty) ht hu hdu hi hn0 hva.one' hcur hroom (o:=o) (by omega);have hold2:VA g es.flatten ((cur.toList.drop o).take (es.length * i.size))/\∀j,o<=j->g.Φ b j=none:=by
    rcases hrow with rfl | ⟨b2,o2,e2,cs,ty2,k1,k2,k3,k4,k5⟩
    ·exact ⟨by simp [VA],λj hj=>lo.free j (by simp_all)⟩
    ·simp_all
   generalize hnew:(cur.toList.take (o+es.length * i.size)++news++cur.toList.drop (o+es.length * i.size+news.length)).toArray=new at hrun;have hfit:o+es.length * i.size+news.length<=cur.size:=by omega
   have hnsz:new.size=cur.size:=by grind
   have hlow:∀j,j < o+es.length * i.size->new[j]?=cur[j]?:=λj hj=>by
    grind
   have r1:=r.setSpare hti hlb hcur hnsz hlow;have hheap:=setRow_heap w b cur new ty' (0,0) hcur;have hcont:(new.toList.drop o).take ((es.length+ys.length) * i.size)=(cur.toList.drop o).take (es.length * i.size)++news:=by
    rw [<- hnew];simp only [uy];rw [se (by simp;omega),r5,uQ,tg,<- hnl];rw [tN,uO (by simp;omega)];congr 1;rw [u2 (by simp;omega),uO (by simp;omega)]
   let T:TI:=⟨es.length+ys.length,some (b,o+(es.length+ys.length) * i.size,o+c * i.size),true⟩
   have hle2:g.le (g.setT q T):=Gh.le_setT (t':=T) hti (by grind) htr.symm;have hT:(g.setT q T).τ[q]?=some T:=uz (ua.1 hti).1;have r2:=r1.setRow (t':=T) (q:=id) hti (by grind) htr rfl hσ hb (es':=es++ys)
    ⟨T,hT,rfl,by simp [T],λe he=>(uK.1 he).elim (hlen e) (hl e),by grind,
     .inr ⟨b,o,o+c * i.size,new,ty',by simp [T],hheap,by rw [uq,hcont,tY];exact (hold2.1.append hva).mono hle2,by rw [uq,tg];omega,hold2.2⟩⟩
    (λb' l e hl'=>by
     injection hl' with hl';injection hl' with e1 e2;injection e2 with e2 e3;subst e1 e2 e3;exact ⟨lo.lo,by grind,⟨new,ty',hheap,by omega⟩,λj hj=>lo.free j (by grind)⟩)
    (λb' x hx=>by grind)
   refine ⟨_,_,_,hrun,hle2,r2,?_⟩;simp only [V];exact ⟨some ⟨b,o,none⟩,c,rfl,hroom,hc2,T,hT,rfl,ue _,.inr ⟨b,o,rfl,λ_=>rfl⟩⟩
 ·-- a new row
  have hroom':c < es.length+ys.length:=by omega
  have hrun:=qy (ty:=ty) ht hu hdu hi hz hn0 (hn w.drew λ_ _ h=>h) hold hroom' (by simp only [maxLen];omega)
   (growslice_fits hroom' (by have:=sX hlim hby;omega))
  have hge:=grownCap_ge w (es.length+ys.length) c e;have hcm:grownCap w (es.length+ys.length) c e<=maxLen:=grownCap_le_maxLen w _ c e (by simp only [maxLen];omega);generalize hC:grownCap w (es.length+ys.length) c e=C at hrun hge hcm;generalize hrow':olds.toArray++news.toArray++Builtin.zeroCells z.cells (C - (es.length+ys.length))=row at hrun;have hrsz:row.size=C * i.size:=by
   rw [<- hrow'];simp only [rC,sV,size_zeroCells,hzs,hol,hnl,<- tg]
   simp_all
  have hcont:(row.toList.drop 0).take ((es.length+ys.length) * i.size)=olds++news:=by
   rw [<- hrow',sq,tK,tK];rw [u2 (by grind)];rw [uO (by grind)]
  have hΦn:∀j,g.Φ w.heap.size j=none:=λj=>by
   rcases he:g.Φ w.heap.size j with _ | v
   ·rfl
   ·exact absurd (r.phi_lt he) (tu _)
  have r1:=(r.drew).alloc0 (.cells row e);have hheap:(w.drew.alloc (.cells row e)).heap[w.heap.size]?=some (.cells row e (0,0)):=heap_alloc_new w.drew _;have hloc:LocOk g.Φ B (w.drew.alloc (.cells row e)) w.heap.size ((es.length+ys.length) * i.size) (C * i.size) :=
   ⟨r.bsz,by simp,⟨row,e,hheap,by omega⟩,λj _=>hΦn j⟩
  have hsig:∀(j cc:Nat),g.σ[j]?=some (some cc)->w.heap.size ≠ cc:=λj cc hj e=>by
   have hi':j < h.blks.length:=by rw [<- r.slen];exact (ua.1 hj).1
   have:=(r.blk j cc _ hj (ui hi')).2.1;omega
  have htau:∀(j:Nat) (tt:TI) (y:Nat×Nat),g.τ[j]?=some tt->tt.loc ≠ some (w.heap.size,y):=λj tt y hj e=>by
   have:=((r.tok j tt hj).2 _ _ _ e).lt;omega
  let T:TI:=⟨es.length+ys.length,some (w.heap.size,(es.length+ys.length) * i.size,C * i.size),true⟩
  have hle2:g.le (g.setT q T):=Gh.le_setT (t':=T) hti (by grind) htr.symm;have hT:(g.setT q T).τ[q]?=some T:=uz (ua.1 hti).1;have r2:=r1.setRow (t':=T) (q:=id) hti (by grind) htr rfl hσ hb (es':=es++ys)
   ⟨T,hT,rfl,by simp [T],λe he=>(uK.1 he).elim (hlen e) (hl e),by grind,
    .inr ⟨w.heap.size,0,C * i.size,row,e,by simp [T],hheap,by rw [uq,hcont,tY];exact (hov.append hva).mono hle2,by rw [uq,hrsz];simpa using u9 i.size hge,λj _=>hΦn j⟩⟩
   (λb' l e' hl'=>by grind)
   (λb' x hx=>by injection hx with hx;injection hx with e1 _;subst e1;exact .inr ⟨htau,hsig,r.nnew (ue _),r.nold (ue _)⟩)
  refine ⟨_,_,_,hrun,hle2,r2,?_⟩;simp only [V];exact ⟨some ⟨w.heap.size,0,none⟩,C,rfl,hge,hcm,T,hT,rfl,ue _,.inr ⟨w.heap.size,0,rfl,λ_=>by simp [T]⟩⟩

theorem append_sound (r:Rel B w0 g h w) {t u ty e:TypeId} {du:TypeDesc} {i:TypeInfo} {z:Value} (ht:P.underlying t=some (.slice e)) (hu:P.underlying u=some du) (U:NotInt du) (hi:P.info? e=some i) (hz:i.zero=some z)
  (hzs:z.cells.size=i.size) (hby:i.bytes<=65536) {s s':AV} {sv x:Value} (hs:V g s sv) {G:List (List AV)} {k:List Value} (hl:∀e ∈ G,e.length=i.size) (hva:VA g G.flatten k) (hpu:G.flatten.all AV.pure=true)
  (hn:∀W:World,(∀a v,w.cell? a=some v->W.cell? a=some v)->News P i.size G.length x k W) {h':AH} (H:aAppend h i.size s G=some (s',h')) :
  ∃v w' g',(Builtin.append_ #[t,u] ty #[sv,x]).run P w=.ok v w'/\g.le g'/\Rel B w0 g' h' w'/\V g' s' v:=by
 have hn0:=hn w λ_ _ h=>h;unfold aAppend at H;split at H
 ·rename_i q k' es;simp only [V] at hs;obtain ⟨a,c,rfl,hc1,hc2,hes,hq⟩:=hs;have hnl:k.length=G.length * i.size:=by rw [<- hva.length,yF hl]
  split at H
  ·-- nothing to append
   rename_i R;have hne:k=[]:=uD (by rw [hnl,R];simp);subst hne;have I:=hn0.len;have J:=hn0.cells;rw [R] at I J;have A:(Builtin.append_ #[t,u] ty #[.slice a es.length c,x]).run P w=.ok (.slice a es.length c) w:=by
    cases a with
    | none=>rcases U with rfl | ⟨_,rfl⟩ <;> simp [Builtin.append_,run_underlying ht,run_underlying hu,sizeOf,typeInfo,hi,I,J] <;> omega
    | some ad=>rcases U with rfl | ⟨_,rfl⟩ <;> simp [Builtin.append_,run_underlying ht,run_underlying hu,sizeOf,typeInfo,hi,I,J,storeCells] <;> omega
   cases q with
   | none =>
    injection H with H;injection H with D p;subst D p;simp only at hq;refine ⟨.slice a es.length c,w,g.addT ⟨es.length,none,false⟩,A,g.le_addT _,r.addTok ⟨es.length,none,false⟩ (λ_ _ _ h=>by cases h) (λ_ _ h=>by cases h),?_⟩;simp only [V];refine ⟨a,c,rfl,hc1,hc2,hes.imp id λ⟨b,o,e,hh⟩=>⟨b,o,e,hh.mono (g.le_addT _) _ _ _ _⟩,⟨es.length,none,false⟩,?_,rfl,ue _,λ_=>.inl hq⟩;simp only [Gh.addT];rw [<- r.tlen,un (ue _)];simp
   | some id =>
    injection H with H;injection H with D p;subst D p;exact ⟨.slice a es.length c,w,g,A,Gh.le.refl g,r,by simp only [V];exact ⟨a,c,rfl,hc1,hc2,hes,hq⟩⟩
  ·rename_i R;split at H
   ·rename_i hk;obtain ⟨rfl,hlim⟩:=hk;unfold xe at hlim;split at H
    ·rename_i id h2 d;injection H with H;injection H with D p;subst D p
     -- the two ways
     by_cases hroom:es.length+G.length<=c
     ·-- in place: there is a token
      unfold AH.grow at d;split at d
      ·simp only at hq;omega
      ·rename_i id';split at d
       ·rename_i Q;injection d with d;injection d with D p;subst D p;simp only at hq;obtain ⟨ti,E,hrf,hle,hcap⟩:=hq;obtain ⟨htn,Y⟩:=r.tok _ _ E;have hnn:es.length=ti.n:=by rw [Q] at htn;injection htn
        rcases hcap hnn with hcc | ⟨b,o,rfl,hlb⟩
        ·omega
        ·have lo:=Y b _ _ hlb;obtain ⟨cur,ty',hcur,hce⟩:=lo.cells;have hmul:es.length * i.size+k.length<=c * i.size:=by rw [hnl,<- tg];exact u9 _ hroom
         have A:=run_append_in (ty:=ty) ht hu U hi hn0 hva.one' hcur hroom (o:=o) (by omega);have S:VE g b i.size o es:=by
          rcases hes with rfl | ⟨b',o',D,hh⟩
          ·simp only [VE]
          ·injection D with D;injection D with D p;subst D p;exact hh
         generalize hnew:(cur.toList.take (o+es.length * i.size)++k++cur.toList.drop (o+es.length * i.size+k.length)).toArray=new at A;have hfit:o+es.length * i.size+k.length<=cur.size:=by omega
         have hnsz:new.size=cur.size:=by rw [<- hnew];simp;omega
         have hlow:∀j,j < o+es.length * i.size->new[j]?=cur[j]?:=λj m=>by
          rw [<- hnew,sr,uy,uo (by simp;omega),uu,uG m,uC]
         have hmid:∀j v,k[j]?=some v->new[o+es.length * i.size+j]?=some v:=λj v L=>by
          have m:j < k.length:=(ua.1 L).1;rw [<- hnew,sr,uy,un (by simp;omega),uo (by simp;omega)];rw [<- L];congr 1;simp;omega
         have r1:=r.setSpare E hlb hcur hnsz hlow;have K:=setRow_heap w b cur new ty' (0,0) hcur
         -- the token
         have r2:=r1.setTok (t':=⟨es.length+G.length,some (b,o+(es.length+G.length) * i.size,o+c * i.size),false⟩) E (by show ti.n < es.length+G.length;omega) hrf rfl
          (λb' l e F=>by
           injection F with F;injection F with D p;injection p with p e3;subst D p e3;exact ⟨lo.lo,by simpa using lo.lt,⟨new,ty',K,by omega⟩,λj m=>lo.free j (by rw [tg] at m;omega)⟩)
          (λb' x hx=>by injection hx with hx;injection hx with D _;subst D;exact .inl ⟨_,hlb⟩)
         -- the promise
         have r3:=r2.vow (b:=b) (f:=λj=>if o+es.length * i.size<=j/\j < o+(es.length+G.length) * i.size then new[j]? else none)
          (λj v L=>by
           split at L
           ·rw [cell_of_row _ b j new ty' (0,0) K];exact L
           ·cases L)
          (λj cc hcj _=>(r.sep j cc _ ti b _ hcj E hlb).symm)
          (λj tt l e m O=>by
           by_cases hjid:j=id'
           ·subst hjid;simp only [Gh.setT] at m;rw [uz (ua.1 E).1] at m;injection m with m;subst m;injection O with O;injection O with D p;injection p with p e3;subst p e3;exact ⟨rfl,λjj hjj=>by grind⟩
           ·simp only [Gh.setT] at m;rw [uR (λe=>hjid e.symm)] at m;exact absurd (r.tinj _ _ _ _ b _ _ m E O hlb) hjid)
          (r.ntok E hlb)
         have hle2:=Gh.le_setT (t':=⟨es.length+G.length,some (b,o+(es.length+G.length) * i.size,o+c * i.size),false⟩) E (by show ti.n < es.length+G.length;omega) hrf.symm;have N:=hle2.trans (Gh.le_vow (g.setT id' ⟨es.length+G.length,some (b,o+(es.length+G.length) * i.size,o+c * i.size),false⟩) b
          (λj=>if o+es.length * i.size<=j/\j < o+(es.length+G.length) * i.size then new[j]? else none))
         refine ⟨_,_,_,A,N,r3,?_⟩;simp only [V];refine ⟨some ⟨b,o,none⟩,c,by simp,by simpa using hroom,hc2,.inr ⟨b,o,rfl,?_⟩,_,uz (ua.1 E).1,rfl,by simp,λ_=>.inr ⟨b,o,rfl,by simp⟩⟩;refine VE.append (S.mono N _ _ _ _) (VE_iff.2 ⟨hl,VC.ofVA (hva.mono N _ _) hpu λj v L=>?_⟩);have m:j < k.length:=(ua.1 L).1;simp only [Gh.vow,Gh.setT,ur];rw [lo.free _ (by omega),uG ⟨by omega,by rw [tg];omega⟩];exact hmid j v L
       ·cases d
     ·-- a new row
      have X:c < es.length+G.length:=by omega
      have hfl:es.flatten.length=es.length * i.size:=by
       rcases hes with rfl | ⟨b,o,_,S⟩
       ·simp
       ·exact yF (VE_iff.1 S).1
      obtain ⟨M,⟨hov,hopu⟩,hold⟩:∃M:List Value,(VA g es.flatten M/\es.flatten.all AV.pure=true)/\(Builtin.firstCells i.size es.length (.slice a es.length c)).run P w.drew=.ok M.toArray w.drew:=by
       rcases hes with rfl | ⟨b,o,rfl,S⟩
       ·refine ⟨[],⟨by simp only [rI,VA],rfl⟩,?_⟩;cases a with
        | none=>simp [Builtin.firstCells]
        | some ad=>simp [Builtin.firstCells,loadCells,loadCellsFrom]
       ·obtain ⟨us,hus,hup,hΦ⟩:=VC.toVA (VE_iff.1 S).2;refine ⟨us,⟨hus,hup⟩,run_firstCells_some w.drew i.size es.length ⟨b,o,none⟩ es.length c us (by rw [<- hus.length,hfl]) λj v L=>?_⟩;rw [World.cell?_drew];have hadd:(⟨b,o,none⟩:Addr).add j=⟨b,o+j,none⟩:=by unfold Addr.add;split <;> simp_all
        rw [hadd];exact r.phi _ _ _ (hΦ j v L)
      have hol:M.length=es.length * i.size:=by rw [<- hov.length,hfl]
      have A:=qy (ty:=ty) ht hu U hi hz hn0 (hn w.drew λ_ _ h=>h) hold X (by simp only [maxLen];omega)
       (growslice_fits X (by have:=sX hlim hby;omega))
      have hge:=grownCap_ge w (es.length+G.length) c e;have hcm:grownCap w (es.length+G.length) c e<=maxLen:=grownCap_le_maxLen w _ c e (by simp only [maxLen];omega);generalize hC:grownCap w (es.length+G.length) c e=C at A hge hcm;generalize hrow:M.toArray++k.toArray++Builtin.zeroCells z.cells (C - (es.length+G.length))=row at A;have hrsz:row.size=C * i.size:=by
       rw [<- hrow];simp only [rC,sV,size_zeroCells,hzs,hol,hnl,<- tg];congr 1;omega
      have hrl:∀j v,(M++k)[j]?=some v->row[j]?=some v:=λj v L=>by
       rw [<- hrow,<- uC];simp only [tK];rw [uo (by simpa using (ua.1 L).1)];exact L
      have hbl:∀j v,g.Φ w.heap.size j=some v->False:=λj v L=>absurd (r.phi_lt L) (tu _);have hΦn:∀j,g.Φ w.heap.size j=none:=λj=>by
       rcases he:g.Φ w.heap.size j with _ | v
       ·rfl
       ·exact (hbl j v he).elim
      have r1:=(r.drew).alloc0 (.cells row e);have K:(w.drew.alloc (.cells row e)).heap[w.heap.size]?=some (.cells row e (0,0)):=heap_alloc_new w.drew _;have Y:LocOk g.Φ B (w.drew.alloc (.cells row e)) w.heap.size ((es.length+G.length) * i.size) (C * i.size) :=
       ⟨r.bsz,by simp,⟨row,e,K,by omega⟩,λj _=>hΦn j⟩
      have hsig:∀(j cc:Nat),g.σ[j]?=some (some cc)->w.heap.size ≠ cc:=λj cc m e=>by
       have hi':j < h.blks.length:=by rw [<- r.slen];exact (ua.1 m).1
       have:=(r.blk j cc _ m (ui hi')).2.1;omega
      have Z:∀(j:Nat) (tt:TI) (y:Nat×Nat),g.τ[j]?=some tt->tt.loc ≠ some (w.heap.size,y):=λj tt y m e=>by
       have:=((r.tok j tt m).2 _ _ _ e).lt;omega
      let T:TI:=⟨es.length+G.length,some (w.heap.size,(es.length+G.length) * i.size,C * i.size),false⟩
      have Q:∃g2,g.le g2/\Rel B w0 g2 h2 (w.drew.alloc (.cells row e))/\g2.τ[id]?=some T/\g2.Φ=g.Φ/\(∀(j:Nat) (tt:TI) (l e':Nat),g2.τ[j]?=some tt->tt.loc=some (w.heap.size,l,e')->tt=T)/\g2.σ=g.σ:=by
       unfold AH.grow at d;split at d
       ·injection d with d;injection d with D p;subst D p;refine ⟨g.addT T,g.le_addT T,r1.addTok T (λb l e' F=>?_) (λb x hx=>?_),?_,rfl,λj tt l e' m F=>?_,rfl⟩
        ·injection F with F;injection F with D p;injection p with p e3;subst D p e3;exact Y
        ·injection hx with hx;injection hx with D _;subst D;exact ⟨Z,hsig,r.nnew (ue _),r.nold (ue _)⟩
        ·simp only [Gh.addT];rw [<- r.tlen,un (ue _)];simp
        ·simp only [Gh.addT] at m;rcases sn j g.τ.length with hjl | hjl
         ·rw [uo hjl] at m;exact absurd F (Z _ _ _ m)
         ·rw [un hjl] at m;have:=uF m;simpa using this
       ·rename_i id';split at d
        ·rename_i Q;injection d with d;injection d with D p;subst D p;simp only at hq;obtain ⟨ti,E,hrf,hle,_⟩:=hq;have hti':=E;obtain ⟨htn,_⟩:=r.tok _ _ E;have hnn:es.length=ti.n:=by rw [Q] at htn;injection htn
         refine ⟨g.setT id' T,Gh.le_setT (t':=T) E (by show ti.n < es.length+G.length;omega) hrf.symm,r1.setTok E (by show ti.n < es.length+G.length;omega) hrf rfl (λb l e' F=>?_) (λb x hx=>?_),?_,rfl,λj tt l e' m F=>?_,rfl⟩
         ·injection F with F;injection F with D p;injection p with p e3;subst D p e3;exact Y
         ·injection hx with hx;injection hx with D _;subst D;exact .inr ⟨Z,hsig,r.nnew (ue _),r.nold (ue _)⟩
         ·exact uz (ua.1 E).1
         ·simp only [Gh.setT] at m;by_cases hjid:j=id'
          ·subst hjid;rw [uz (ua.1 E).1] at m;injection m with m;exact m.symm
          ·rw [uR (λe=>hjid e.symm)] at m;exact absurd F (Z _ _ _ m)
        ·cases d
      obtain ⟨g2,hg2,r2,hT,hΦ2,hT2,hσ2⟩:=Q;have r3:=r2.vow (b:=w.heap.size) (f:=λj=>if j < (es.length+G.length) * i.size then row[j]? else none)
       (λj v L=>by
        split at L
        ·rw [cell_of_row _ _ j row e (0,0) K];exact L
        ·cases L)
       (λj cc hcj _ e=>hsig j cc (by rw [<- hσ2];exact hcj) e.symm)
       (λj tt l e' m O=>by
        have:=hT2 j tt l e' m O;subst this;injection O with O;injection O with _ p;injection p with p _;subst p;exact ⟨rfl,λjj hjj=>by grind⟩)
       (r2.ntok hT rfl)
      have N:=hg2.trans (g2.le_vow w.heap.size λj=>if j < (es.length+G.length) * i.size then row[j]? else none);refine ⟨_,_,_,A,N,r3,?_⟩;simp only [V];refine ⟨some ⟨w.heap.size,0,none⟩,C,by simp,by simpa using hge,hcm,.inr ⟨w.heap.size,0,rfl,?_⟩,T,hT,rfl,by simp [T],λ_=>.inr ⟨w.heap.size,0,rfl,by simp [T]⟩⟩;refine VE_iff.2 ⟨?_,?_⟩
      ·intro e he;rcases uK.1 he with he | he
       ·rcases hes with rfl | ⟨b,o,_,S⟩
        ·cases he
        ·exact (VE_iff.1 S).1 e he
       ·exact hl e he
      ·rw [tY];refine VC.ofVA (VA.mono N _ _ (hov.append hva)) (by rw [t6,hopu,hpu];rfl) λj v L=>?_;have m:j < (M++k).length:=(ua.1 L).1;simp only [Gh.vow,ur,hΦ2,hΦn,u5];rw [uG (by rw [tg];simp at m;omega)];exact hrl j v L
    ·cases H
   ·cases H
 ·rename_i id q k' n;split at H
  ·rename_i R;injection H with H;injection H with D p;subst D p;have hs':=hs;simp only [V] at hs;obtain ⟨a,c,rfl,hc1,hc2,hq⟩:=hs;have hnl:k.length=G.length * i.size:=by rw [<- hva.length,yF hl]
   have hne:k=[]:=uD (by rw [hnl,R];simp);subst hne;have I:=hn0.len;have J:=hn0.cells;rw [R] at I J;have A:(Builtin.append_ #[t,u] ty #[.slice a n c,x]).run P w=.ok (.slice a n c) w:=by
    cases a with
    | none=>rcases U with rfl | ⟨_,rfl⟩ <;> simp [Builtin.append_,run_underlying ht,run_underlying hu,sizeOf,typeInfo,hi,I,J] <;> omega
    | some ad=>rcases U with rfl | ⟨_,rfl⟩ <;> simp [Builtin.append_,run_underlying ht,run_underlying hu,sizeOf,typeInfo,hi,I,J,storeCells] <;> omega
   exact ⟨_,w,g,A,Gh.le.refl g,r,hs'⟩
  ·rename_i R;split at H
   ·rename_i t' k'' es hb;split at H
    ·rename_i hc;obtain ⟨⟨rfl,rfl,rfl⟩,h1,h2,h3⟩:=hc;injection H with H;injection H with D p;subst D p;exact append_row r ht hu U hi hz hzs hby hs hl hva hpu hn hb h1 h2 h3 R
    ·cases H
   ·cases H
 ·cases H
theorem append_new (r:Rel B w0 g h w) {t u ty e:TypeId} {du:TypeDesc} {i:TypeInfo} {z:Value} (U:P.underlying t=some (.slice e)) (hu:P.underlying u=some du) (J:NotInt du) (hi:P.info? e=some i) (hz:i.zero=some z)
  (hzs:z.cells.size=i.size) (Z:i.bytes<=65536) {sv x:Value} (hs:V g (.osl none i.size []) sv) {m:List (List AV)} {d:List Value} (S:∀e ∈ m,e.length=i.size) (Q:VA g m.flatten d) (hpu:m.flatten.all AV.pure=true)
  (hn:∀W:World,(∀a v,w.cell? a=some v->W.cell? a=some v)->News P i.size m.length x d W) (F:m.length<=xe) :
  ∃v w' g',(Builtin.append_ #[t,u] ty #[sv,x]).run P w=.ok v w'/\g.le g'/\Rel B w0 g' h w'/\V g' (.nsl i.size m) v:=by
 have K:=hn w λ_ _ h=>h;simp only [V] at hs;obtain ⟨a,c,rfl,hc1,hc2,_,M⟩:=hs;simp only [uE] at M;subst M;have hnl:d.length=m.length * i.size:=by rw [<- Q.length,yF S]
 by_cases hy0:m.length=0
 ·have T:d=[]:=uD (by simp_all);have hye:m=[]:=uD hy0;subst T;have p:=K.len;have q:=K.cells;rw [hy0] at p q;have k:(Builtin.append_ #[t,u] ty #[.slice a ([]:List (List AV)).length 0,x]).run P w=.ok (.slice a 0 0) w:=by
   cases a with
   | none=>rcases J with rfl | ⟨_,rfl⟩ <;> simp [Builtin.append_,run_underlying U,run_underlying hu,sizeOf,typeInfo,hi,p,q]
   | some ad=>rcases J with rfl | ⟨_,rfl⟩ <;> simp [Builtin.append_,run_underlying U,run_underlying hu,sizeOf,typeInfo,hi,p,q,storeCells]
  refine ⟨_,w,g,k,Gh.le.refl g,r,?_⟩;subst hye;simp only [V]
  grind
 ·have n:0 < ([]:List (List AV)).length+m.length:=by simp;omega
  have O:(Builtin.firstCells i.size ([]:List (List AV)).length (.slice a ([]:List (List AV)).length 0)).run P w.drew=.ok ([]:List Value).toArray w.drew:=by
   cases a with
   | none=>simp [Builtin.firstCells]
   | some ad=>simp [Builtin.firstCells,loadCells,loadCellsFrom]
  unfold xe at F;have k:=qy (ty:=ty) U hu J hi hz K (hn w.drew λ_ _ h=>h) O n (by simp only [maxLen,uE];omega)
   (growslice_fits n (by have:=sX F Z;simp only [uE,u5];omega))
  have H:=grownCap_ge w (([]:List (List AV)).length+m.length) 0 e;have I:grownCap w (([]:List (List AV)).length+m.length) 0 e<=maxLen:=grownCap_le_maxLen w _ 0 e (by simp only [maxLen,uE];omega);generalize hC:grownCap w (([]:List (List AV)).length+m.length) 0 e=C at k H I;simp only [uE,u5] at H I k;generalize hrow:([]:List Value).toArray++d.toArray++Builtin.zeroCells z.cells (C - m.length)=row at k;have hrsz:row.size=C * i.size:=by
   rw [<- hrow];simp only [rC,sV,size_zeroCells,hzs,hnl,uE,u5,<- tg]
   simp_all
  have hrl:∀j v,d[j]?=some v->row[j]?=some v:=λj v G=>by
   rw [<- hrow,<- uC];simp only [tK,uV];rw [uo (by simpa using (ua.1 G).1)];exact G
  have R:∀j,g.Φ w.heap.size j=none:=λj=>by
   rcases he:g.Φ w.heap.size j with _ | v
   ·rfl
   ·exact absurd (r.phi_lt he) (tu _)
  have r1:=(r.drew).alloc0 (.cells row e);have o:(w.drew.alloc (.cells row e)).heap[w.heap.size]?=some (.cells row e (0,0)):=heap_alloc_new w.drew _;have hN:g.N w.heap.size=none:=r.nnew (ue _);have E:∀(j L:Nat),g.σ[j]?=some (some L)->w.heap.size ≠ L:=λj L s e=>by
   have Y:j < h.blks.length:=by rw [<- r.slen];exact (ua.1 s).1
   have:=(r.blk j L _ s (ui Y)).2.1;omega
  have A:∀(j:Nat) (tt:TI) (y:Nat×Nat),g.τ[j]?=some tt->tt.loc ≠ some (w.heap.size,y):=λj tt y s e=>by
   have:=((r.tok j tt s).2 _ _ _ e).lt;omega
  have r3:=r1.vow (b:=w.heap.size) (f:=λj=>if j < m.length * i.size then row[j]? else none)
   (λj v G=>by
    split at G
    ·rw [cell_of_row _ _ j row e (0,0) o];exact G
    ·cases G)
   (λj L X _ e=>E j L X e.symm)
   (λj tt l e' s hlj=>absurd hlj (A _ _ _ s)) hN
  have r4:=r3.mark (b:=w.heap.size) (r.nnew (ue _)) r.bsz o ⟨λj s=>E j _ s rfl,λhc=>tu _ (r.dfr_lt hc),λj tt y s S=>A j tt y s S⟩ (r.nold (ue _));have D:=(g.le_vow w.heap.size λj=>if j < m.length * i.size then row[j]? else none).trans (Gh.le_addN (.new row.size) (r.nnew (ue _)));refine ⟨_,_,_,k,D,r4,?_⟩;simp only [V];refine ⟨some ⟨w.heap.size,0,none⟩,C,rfl,H,I,.inr ⟨w.heap.size,0,rfl,VE_iff.2 ⟨S,?_⟩,row.size,by simp [Gh.addN]⟩⟩;refine VC.ofVA (VA.mono D _ _ Q) hpu λj v G=>?_;have s:j < d.length:=(ua.1 G).1;simp only [Gh.addN,Gh.vow,ur,R,u5]
  simp_all
end
end Go.Vv
