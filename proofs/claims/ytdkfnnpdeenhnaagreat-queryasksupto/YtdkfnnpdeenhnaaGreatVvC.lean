/- How the abstract heap and the tokens stand to a world; each kind of step of the world keeps that. -/
import Derived.Test.YtdkfnnpdeenhnaaGreatVvB
namespace Go.Vv
open Go Go.RowKit

def ME (g:Gh):List (AV×AV)->List MapEntry->Prop
 | [],es=>es=[]
 | (k,x)::r,es=>∃e s,es=e::s/\V g k e.key/\V g x e.val/\ME g r s

theorem ME.mono {g g':Gh} (h:g.le g'):∀(a:List (AV×AV)) (vs:List MapEntry),ME g a vs->ME g' a vs
 | [],_,hv=>by simpa only [ME] using hv
 | (k,x)::r,_,hv=>by
  simp only [ME] at hv ⊢;obtain ⟨e,s,rfl,b,c,d⟩:=hv;exact ⟨e,s,rfl,b.mono h,c.mono h,ME.mono h r s d⟩

theorem VA.dd {g:Gh} {d:List Nat} {a:List AV} {vs:List Value} (h:VA g a vs):VA { g with δ:=d } a vs:=VA.monoV (g.lv_dd d) _ _ h
theorem ME.dd {g:Gh} {d:List Nat}:∀{a:List (AV×AV)} {vs:List MapEntry},ME g a vs->ME { g with δ:=d } a vs
 | [],_,hv=>by simpa only [ME] using hv
 | (k,x)::r,_,hv=>by
  simp only [ME] at hv ⊢;obtain ⟨e,s,rfl,b,c,f⟩:=hv;exact ⟨e,s,rfl,V.monoV (g.lv_dd d) _ _ b,V.monoV (g.lv_dd d) _ _ c,ME.dd f⟩
def BlkOk (g:Gh) (w:World) (c:Nat):Blk->Prop
 | .cells cs=>∃vs t,w.heap[c]?=some (.cells vs t (0,0))/\VA g cs vs.toList
 | .siter s pos=>w.heap[c]?=some (.stringIter ⟨s.toArray⟩ pos)
 | .mapo es clock=>∃ents n,w.heap[c]?=some (.map ents n)/\ME g es ents.toList/\(clock=0->n=ents.size/\∀(i:Nat) (e:MapEntry),ents[i]?=some e->e.born=i)
 | .loop st pe env ps assign body=>∃fn tmps d,w.heap[c]?=some (.loop { state:=st,pending:=pe,fn,tmps,params:=ps,assign,body,defers:=d })/\VL g env tmps.toList
 | .row _ _ _=>False
 | .miter id n seen=>∃m,g.σ[id]?=some (some m)/\w.heap[c]?=some (.mapIter (some m) n seen.toArray n)
 | .miter0=>w.heap[c]?=some (.mapIter none 0 #[] 0)
 | .other | .dead=>True
def RowOk (g:Gh) (w:World) (i k:Nat) (es:List (List AV)):Prop :=
 ∃t,g.τ[i]?=some t/\t.row=true/\t.n=es.length/\(∀e ∈ es,e.length=k)/\es.flatten.all AV.pure=true/\(es=[] \/ ∃b o e cs ty,t.loc=some (b,o+es.length * k,e) /\
  w.heap[b]?=some (.cells cs ty (0,0))/\VA g es.flatten ((cs.toList.drop o).take (es.length * k))/\o+es.length * k<=cs.size/\∀j,o<=j->g.Φ b j=none)
def RowB (g:Gh) (w:World):Blk->Prop
 | .row i k es=>RowOk g w i k es
 | .dead=>True
 | _=>False

theorem BlkOk.mono {g g':Gh} {w w':World} {c:Nat} {k:Blk} (h:g.le g') (f:w'.heap[c]?=w.heap[c]?) (a:BlkOk g w c k):BlkOk g' w' c k:=by
 cases k with
 | cells cs=>obtain ⟨vs,t,e,b⟩:=a;exact ⟨vs,t,f.trans e,b.mono h⟩
 | siter s pos=>exact f.trans a
 | mapo es clock=>obtain ⟨ents,n,e,b,i⟩:=a;exact ⟨ents,n,f.trans e,b.mono h,i⟩
 | loop st pe env ps assign body=>obtain ⟨fn,tmps,d,e,b⟩:=a;exact ⟨fn,tmps,d,f.trans e,b.mono h⟩
 | row _ _ _=>exact a
 | miter id n seen=>obtain ⟨m,e,b⟩:=a;exact ⟨m,h.sig _ _ e,f.trans b⟩
 | miter0=>exact f.trans a
 | other=>trivial
 | dead=>trivial
theorem RowOk.mono {g g':Gh} {w w':World} {i k:Nat} {es:List (List AV)} (h:g.le g') (A:g'.τ[i]?=g.τ[i]?)
  (q:∀t b x,g.τ[i]?=some t->t.row=true->t.loc=some (b,x)->w'.heap[b]?=w.heap[b]?/\∀j,g'.Φ b j=g.Φ b j) (p:RowOk g w i k es):RowOk g' w' i k es:=by
 obtain ⟨t,d,c,f,u,m,s⟩:=p;refine ⟨t,A.trans d,c,f,u,m,s.imp id ?_⟩
 rintro ⟨b,o,e,cs,ty,a,y,v,r,n⟩
 obtain ⟨z,C⟩:=q t b _ d c a;exact ⟨b,o,e,cs,ty,a,z.trans y,v.mono h,r,λj l=>(C j).trans (n j l)⟩
theorem RowB.mono {g g':Gh} {w w':World} {k:Blk} (h:g.le g') (d:∀(i:Nat) (t:TI),g.τ[i]?=some t->t.row=true->g'.τ[i]?=some t)
  (e:∀(i:Nat) t b x,g.τ[i]?=some t->t.row=true->t.loc=some (b,x)->w'.heap[b]?=w.heap[b]?/\∀j,g'.Φ b j=g.Φ b j) (a:RowB g w k):RowB g' w' k:=by
 cases k with
 | row i k es =>
  have a:RowOk g w i k es:=a;obtain ⟨t,c,f,_⟩:=id a;exact a.mono h ((d i t c f).trans c.symm) (e i)
 | dead=>trivial
 | _=>exact a.elim

structure LocOk (Φ:Nat->Nat->Option Value) (B:Nat) (w:World) (b l e:Nat):Prop where
 lo:B<=b
 lt:b < w.heap.size
 cells:∃cs ty,w.heap[b]?=some (.cells cs ty (0,0))/\e<=cs.size
 free:∀j,l<=j->Φ b j=none

theorem LocOk.mono {Φ Φ':Nat->Nat->Option Value} {B:Nat} {w w':World} {b l e:Nat} (h:LocOk Φ B w b l e) (c:w.heap.size<=w'.heap.size) (i:w'.heap[b]?=w.heap[b]?)
  (d:∀j,l<=j->Φ' b j=Φ b j):LocOk Φ' B w' b l e :=
 ⟨h.lo,Nat.lt_of_lt_of_le h.lt c,by obtain ⟨cs,ty,f,k⟩:=h.cells;exact ⟨cs,ty,i.trans f,k⟩,λj a=>(d j a).trans (h.free j a)⟩

structure Rel (B:Nat) (w0:World) (g:Gh) (h:AH) (w:World):Prop where
 below:Below B w0 w
 bsz:B<=w.heap.size
 phi:∀b j v,g.Φ b j=some v->w.cell? ⟨b,j,none⟩=some v
 slen:g.σ.length=h.blks.length
 blk:∀(i c:Nat) (k:Blk),g.σ[i]?=some (some c)->h.blks[i]?=some k->B<=c/\c < w.heap.size/\BlkOk g w c k/\(k ≠ .dead->∀j,g.Φ c j=none)
 tlen:g.τ.length=h.toks.length
 tok:∀(i:Nat) (t:TI),g.τ[i]?=some t->h.toks[i]?=some t.n/\∀b l e,t.loc=some (b,l,e)->LocOk g.Φ B w b l e
 sinj:∀(i j c:Nat),g.σ[i]?=some (some c)->g.σ[j]?=some (some c)->i=j
 tinj:∀(i j:Nat) (t t':TI) (b:Nat) (x y:Nat×Nat),g.τ[i]?=some t->g.τ[j]?=some t'->t.loc=some (b,x)->t'.loc=some (b,y)->i=j
 sep:∀(i c j:Nat) (t:TI) (b:Nat) (x:Nat×Nat),g.σ[i]?=some (some c)->g.τ[j]?=some t->t.loc=some (b,x)->b ≠ c
 dfr:∀c,c ∈ g.δ->B<=c/\w.heap[c]?=some (.deferred (some []))/\∀i:Nat,g.σ[i]? ≠ some (some c)
 row:∀(i:Nat) (k:Blk),g.σ[i]?=some none->h.blks[i]?=some k->RowB g w k
 rinj:∀(i j t k k':Nat) (es es':List (List AV)),h.blks[i]?=some (.row t k es)->h.blks[j]?=some (.row t k' es')->i=j

section
variable {B:Nat} {w0 w:World} {g:Gh} {h:AH}

theorem Rel.phi_lt (r:Rel B w0 g h w) {b j:Nat} {v:Value} (e:g.Φ b j=some v):b < w.heap.size:=World.block_lt_of_cell? w ⟨b,j,none⟩ (r.phi b j v e)

theorem Rel.drew (r:Rel B w0 g h w):Rel B w0 g h w.drew :=
 ⟨r.below.drew,r.bsz,r.phi,r.slen,λi c k p f=>by obtain ⟨d,a,j,m⟩:=r.blk i c k p f;exact ⟨d,a,j.mono (Gh.le.refl g) rfl,m⟩,r.tlen,
   λi t n=>by obtain ⟨d,a⟩:=r.tok i t n;exact ⟨d,λb l e o=>(a b l e o).mono (Nat.le_refl _) rfl λ_ _=>rfl⟩,r.sinj,r.tinj,r.sep,r.dfr,λi k hi f=>(r.row i k hi f).mono (Gh.le.refl g) (λ_ _ h _=>h) (λ_ _ _ _ _ _ _=>⟨rfl,λ_=>rfl⟩),r.rinj⟩
theorem Rel.dfr_lt (r:Rel B w0 g h w) {c:Nat} (a:c ∈ g.δ):c < w.heap.size:=(Array.getElem?_eq_some_iff.1 (r.dfr c a).2.1).1

theorem Rel.alloc0 (r:Rel B w0 g h w) (o:Obj):Rel B w0 g h (w.alloc o) :=
 ⟨r.below.alloc r.bsz o,by have:=r.bsz;simp;omega,λb j v e=>(World.cell?_alloc_lt w o ⟨b,j,none⟩ (r.phi_lt e)).trans (r.phi b j v e),r.slen,
   λi c k a p=>by
     obtain ⟨n,d,q,s⟩:=r.blk i c k a p;exact ⟨n,by simp;omega,q.mono (Gh.le.refl g) (Below.heap_alloc w o c d),s⟩,r.tlen,
   λi t m=>by
     obtain ⟨n,d⟩:=r.tok i t m;exact ⟨n,λb l e f=>(d b l e f).mono (by simp) (Below.heap_alloc w o b (d b l e f).lt) λ_ _=>rfl⟩,r.sinj,r.tinj,r.sep,λc a=>⟨(r.dfr c a).1,(Below.heap_alloc w o c (r.dfr_lt a)).trans (r.dfr c a).2.1,(r.dfr c a).2.2⟩,λi k hi p=>(r.row i k hi p).mono (Gh.le.refl g) (λ_ _ h _=>h) (λi t b x m _ f=>⟨Below.heap_alloc w o b ((r.tok i t m).2 b x.1 x.2 f).lt,λ_=>rfl⟩),r.rinj⟩

def Gh.addS (g:Gh) (c:Option Nat):Gh:={ g with σ:=g.σ++[c] }
theorem Gh.le_addS (g:Gh) (c:Option Nat):g.le (g.addS c) :=
 ⟨λ_ _ _ e=>e,λi x e=>by
  have:i < g.σ.length:=(List.getElem?_eq_some_iff.1 e).1;simp only [Gh.addS];rw [List.getElem?_append_left this];exact e,λ_ t e=>⟨t,e,Nat.le_refl _,λ_=>rfl,rfl⟩,λ_ h=>h⟩
theorem addS_get {g:Gh} {c x:Option Nat} {i:Nat} (e:(g.addS c).σ[i]?=some x):g.σ[i]?=some x \/ (i=g.σ.length/\x=c):=by
 simp only [Gh.addS] at e;rcases Nat.lt_or_ge i g.σ.length with a | a
 ·rw [List.getElem?_append_left a] at e;exact .inl e
 ·rw [List.getElem?_append_right a] at e;rcases Nat.eq_zero_or_pos (i - g.σ.length) with h0 | h0
  ·rw [h0] at e;simp at e;exact .inr ⟨by omega,e.symm⟩
  ·rw [List.getElem?_eq_none (by simp;omega)] at e;cases e

theorem Rel.adopt (r:Rel B w0 g h w) {c:Nat} (k:Blk) (C:B<=c) (J:c < w.heap.size) (v:BlkOk (g.addS (some c)) w c k) (p:∀j,g.Φ c j=none)
  (hs:∀(i x:Nat),g.σ[i]?=some (some x)->x ≠ c) (H:∀(i:Nat) (t:TI) (b:Nat) (x:Nat×Nat),g.τ[i]?=some t->t.loc=some (b,x)->b ≠ c) (s:c ∉ g.δ) :
  Rel B w0 (g.addS (some c)) (h.new k) w :=
 ⟨r.below,r.bsz,r.phi,by simp [Gh.addS,AH.new,r.slen],λi x u d a=>by
   have m:=r.slen;rcases addS_get d with d | ⟨rfl,n⟩
   ·have hi:i < h.blks.length:=by rw [<- m];exact (List.getElem?_eq_some_iff.1 d).1
    simp only [AH.new] at a;rw [List.getElem?_append_left hi] at a;obtain ⟨I,E,z,F⟩:=r.blk i x u d a;exact ⟨I,E,z.mono (g.le_addS _) rfl,F⟩
   ·obtain rfl:=Option.some.inj n;simp only [AH.new] at a;rw [m,List.getElem?_append_right (Nat.le_refl _)] at a;simp at a;subst a;exact ⟨C,J,v,λ_=>p⟩,r.tlen,r.tok,
  λi j x hi o=>by
   rcases addS_get hi with hi | ⟨rfl,A⟩ <;> rcases addS_get o with o | ⟨rfl,e⟩
   ·exact r.sinj i j x hi o
   ·exact absurd (Option.some.inj e) (hs i x hi)
   ·exact absurd (Option.some.inj A) (hs j _ o)
   ·rfl,
  r.tinj,λi x j t b y d q l=>by
   rcases addS_get d with d | ⟨rfl,n⟩
   ·exact r.sep i x j t b y d q l
   ·obtain rfl:=Option.some.inj n;exact H j t b y q l,
  λx d=>⟨(r.dfr x d).1,(r.dfr x d).2.1,λi hi=>by
   rcases addS_get hi with hi | ⟨_,n⟩
   ·exact (r.dfr x d).2.2 i hi
   ·obtain rfl:=Option.some.inj n;exact s d⟩,
  λi u hi a=>by
   rcases addS_get hi with hi | ⟨_,n⟩
   ·have l:i < h.blks.length:=by rw [<- r.slen];exact (List.getElem?_eq_some_iff.1 hi).1
    simp only [AH.new] at a;rw [List.getElem?_append_left l] at a;exact (r.row i u hi a).mono (g.le_addS _) (λ_ _ h _=>h) (λ_ _ _ _ _ _ _=>⟨rfl,λ_=>rfl⟩)
   ·exact absurd n (by simp),
  λi j t f G es es' hi o=>by
   have D:∀t f es,k ≠ .row t f es:=by rintro t f es rfl;exact v
   simp only [AH.new] at hi o;have key:∀(i t f:Nat) (es:List (List AV)),(h.blks++[k])[i]?=some (.row t f es)->h.blks[i]?=some (.row t f es):=by
    intro i t f es hi;rcases Nat.lt_or_ge i h.blks.length with l | l
    ·rw [List.getElem?_append_left l] at hi;exact hi
    ·rw [List.getElem?_append_right l] at hi;have:=List.mem_of_getElem? hi;exact absurd (List.mem_singleton.1 this).symm (D _ _ _)
   exact r.rinj i j t f G es es' (key _ _ _ _ hi) (key _ _ _ _ o)⟩

theorem Rel.newBlk (r:Rel B w0 g h w) (o:Obj) (k:Blk) (l:BlkOk (g.addS (some w.heap.size)) (w.alloc o) w.heap.size k):Rel B w0 (g.addS (some w.heap.size)) (h.new k) (w.alloc o) :=
 (r.alloc0 o).adopt k r.bsz (by simp) l
  (λj=>by
   rcases he:g.Φ w.heap.size j with _ | v
   ·rfl
   ·exact absurd (r.phi_lt he) (Nat.lt_irrefl _))
  (λi x a e=>by
   have hi:i < h.blks.length:=by rw [<- r.slen];exact (List.getElem?_eq_some_iff.1 a).1
   have:=(r.blk i x _ a (List.getElem?_eq_getElem hi)).2.1;omega)
  (λi t b x c d e=>by
   have:=((r.tok i t c).2 b x.1 x.2 d).lt;omega)
  (λf=>Nat.lt_irrefl _ (r.dfr_lt f))

theorem Rel.newCells (r:Rel B w0 g h w) {cs:List AV} {vs:Array Value} (t:TypeId) (a:VA g cs vs.toList) :
  Rel B w0 (g.addS (some w.heap.size)) (h.new (.cells cs)) (w.alloc (.cells vs t)) :=
 r.newBlk _ _ ⟨vs,t,heap_alloc_new w _,a.mono (g.le_addS _)⟩

def Gh.vow (g:Gh) (b:Nat) (f:Nat->Option Value):Gh:={ g with Φ:=λb' j=>if b'=b then (match g.Φ b j with | some v=>some v | none=>f j) else g.Φ b' j }
theorem Gh.le_vow (g:Gh) (b:Nat) (f:Nat->Option Value):g.le (g.vow b f) :=
 ⟨λa j v e=>by
  simp only [Gh.vow];by_cases hb:a=b
  ·subst hb;simp [e]
  ·simp [hb,e],λ_ _ e=>e,λ_ t e=>⟨t,e,Nat.le_refl _,λ_=>rfl,rfl⟩,λ_ h=>h⟩

theorem Rel.vow (r:Rel B w0 g h w) {b:Nat} {f:Nat->Option Value} (C:∀j v,f j=some v->w.cell? ⟨b,j,none⟩=some v)
  (hs:∀(i c:Nat),g.σ[i]?=some (some c)->h.blks[i]? ≠ some .dead->c ≠ b)
  (u:∀(i:Nat) (t:TI) (l e:Nat),g.τ[i]?=some t->t.loc=some (b,l,e)->t.row=false/\∀j,l<=j->f j=none):Rel B w0 (g.vow b f) h w :=
 ⟨r.below,r.bsz,λa j v e=>by
   simp only [Gh.vow] at e;by_cases hb:a=b
   ·subst hb;simp only [if_true] at e;split at e
    ·rename_i v' z;cases e;exact r.phi _ _ _ z
    ·exact C j v e
   ·simp only [hb,if_false] at e;exact r.phi _ _ _ e,r.slen,
  λi c k y o=>by
   obtain ⟨q,n,A,E⟩:=r.blk i c k y o;refine ⟨q,n,A.mono (g.le_vow b f) rfl,λhd j=>?_⟩;have d:c ≠ b:=hs i c y (by rw [o];intro e;injection e with e;exact hd e);simp only [Gh.vow,d,if_false];exact E hd j,r.tlen,
  λi t hi=>by
   obtain ⟨q,n⟩:=r.tok i t hi;refine ⟨q,λa l e m=>(n a l e m).mono (Nat.le_refl _) rfl λj s=>?_⟩;simp only [Gh.vow];by_cases hb:a=b
   ·subst hb;simp only [if_true,(n a l e m).free j s];exact (u i t l e hi m).2 j s
   ·simp only [hb,if_false],r.sinj,r.tinj,r.sep,r.dfr,
  λi k hi o=>(r.row i k hi o).mono (g.le_vow b f) (λ_ _ h _=>h) (λi t a x p D m=>⟨rfl,λj=>by
   have d:a ≠ b:=by
    rintro rfl
    have:=(u i t x.1 x.2 p m).1;rw [D] at this;cases this
   simp only [Gh.vow,d,if_false]⟩),r.rinj⟩

theorem Rel.newRow (r:Rel B w0 g h w) (vs:Array Value) (t:TypeId) (n:Nat) :
  Rel B w0 (g.vow w.heap.size λj=>if j < n then vs[j]? else none) h (w.alloc (.cells vs t)) :=
 (r.alloc0 _).vow (λj v e=>by
   split at e
   ·rw [World.cell?_alloc_new];exact e
   ·cases e)
  (λi c a _ e=>by
   have hi:i < h.blks.length:=by rw [<- r.slen];exact (List.getElem?_eq_some_iff.1 a).1
   have:=(r.blk i c _ a (List.getElem?_eq_getElem hi)).2.1;omega)
  (λi t l e b d=>by
   have:=((r.tok i t b).2 _ l e d).lt;omega)

theorem Rel.putObj (r:Rel B w0 g h w) {i c:Nat} {k N:Blk} (z:g.σ[i]?=some (some c)) (S:h.blks[i]?=some k) (hd:k ≠ .dead) {w':World} (J:w'.os=w.os) (Q:w'.tape=w.tape)
  (M:w'.output=w.output) (o:w'.heap.size=w.heap.size) (d:∀b,b ≠ c->w'.heap[b]?=w.heap[b]?) (E:BlkOk g w' c N):Rel B w0 g (h.put i N) w':=by
 obtain ⟨V,R,_,n⟩:=r.blk i c k z S;refine ⟨⟨J.trans r.below.os,Q.trans r.below.tape,M.trans r.below.output,by rw [o];exact r.below.size,λb T=>(d b (by omega)).trans (r.below.block b T)⟩,
  by rw [o];exact r.bsz,λb j v e=>?_,by simp [AH.put,r.slen],λs G P p f=>?_,r.tlen,λs t I=>?_,r.sinj,r.tinj,r.sep,λx H=>⟨(r.dfr x H).1,(d x (by rintro rfl;exact (r.dfr x H).2.2 i z)).trans (r.dfr x H).2.1,(r.dfr x H).2.2⟩,λs q y L=>?_,λA K t D X es es' m F=>?_⟩
 ·have u:b ≠ c:=by rintro rfl;rw [n hd j] at e;cases e
  exact (World.cell?_of_block (w:=w) (w':=w') (a:=⟨b,j,none⟩) (d b u)).trans (r.phi b j v e)
 ·simp only [AH.put] at f;by_cases hi:s=i
  ·subst hi;have O:G=c:=by rw [z] at p;injection p with e;injection e with e;exact e.symm
   subst O;have C:s < h.blks.length:=(List.getElem?_eq_some_iff.1 S).1;rw [List.getElem?_set_self C] at f;injection f with e;subst e;exact ⟨V,by rw [o];exact R,E,λ_=>n hd⟩
  ·rw [List.getElem?_set_ne (λe=>hi e.symm)] at f;obtain ⟨m,F,U,W⟩:=r.blk s G P p f;have u:G ≠ c:=by rintro rfl;exact hi (r.sinj _ _ _ p z)
   exact ⟨m,by rw [o];exact F,U.mono (Gh.le.refl g) (d G u),W⟩
 ·obtain ⟨m,F⟩:=r.tok s t I;refine ⟨m,λb l e C=>(F b l e C).mono (by rw [o];exact Nat.le_refl _) (d b ?_) λ_ _=>rfl⟩;exact r.sep i c s t b (l,e) z I C
 ·have hi:s ≠ i:=by rintro rfl;rw [z] at y;cases y
  simp only [AH.put] at L;rw [List.getElem?_set_ne (λe=>hi e.symm)] at L;exact (r.row s q y L).mono (Gh.le.refl g) (λ_ _ h _=>h) (λK t b x I _ C=>⟨d b (r.sep i c K t b x z I C),λ_=>rfl⟩)
 ·have key:∀(A t D:Nat) (es:List (List AV)),(h.blks.set i N)[A]?=some (.row t D es)->h.blks[A]?=some (.row t D es):=by
   intro A t D es m;by_cases hi:A=i
   ·subst hi;rw [List.getElem?_set_self (List.getElem?_eq_some_iff.1 S).1] at m;injection m with m;subst m;exact E.elim
   ·rw [List.getElem?_set_ne (λe=>hi e.symm)] at m;exact m
  exact r.rinj A K t D X es es' (key _ _ _ _ m) (key _ _ _ _ F)
end
end Go.Vv
