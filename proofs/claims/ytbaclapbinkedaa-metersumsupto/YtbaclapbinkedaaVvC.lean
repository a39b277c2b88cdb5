/- How the abstract heap and the tokens stand to a world; each kind of step of the world keeps that. -/
import Derived.Test.YtbaclapbinkedaaVvB
namespace Go.Vv
open Go Go.RowKit

def ME (g:Gh):List (AV×AV)→List MapEntry→Prop
 | [],es=>es=[]
 | (k,x)::r,es=>∃ e s,es=e::s∧V g k e.key∧V g x e.val∧ME g r s

theorem ME.mono {g g':Gh} (h:g.le g'):∀ (as:List (AV×AV)) (vs:List MapEntry),ME g as vs→ME g' as vs
 | [],_,hv=>by simpa only [ME] using hv
 | (k,x)::r,_,hv=>by
  simp only [ME] at hv ⊢
  obtain ⟨e,s,rfl,h1,h2,h3⟩:=hv
  exact ⟨e,s,rfl,h1.mono h,h2.mono h,ME.mono h r s h3⟩

theorem VA.dd {g:Gh} {d:List Nat} {as:List AV} {vs:List Value} (h:VA g as vs):VA { g with δ:=d } as vs:=VA.monoV (g.lv_dd d) _ _ h
theorem ME.dd {g:Gh} {d:List Nat}:∀ {as:List (AV×AV)} {vs:List MapEntry},ME g as vs→ME { g with δ:=d } as vs
 | [],_,hv=>by simpa only [ME] using hv
 | (k,x)::r,_,hv=>by
  simp only [ME] at hv ⊢
  obtain ⟨e,s,rfl,h1,h2,h3⟩:=hv
  exact ⟨e,s,rfl,V.monoV (g.lv_dd d) _ _ h1,V.monoV (g.lv_dd d) _ _ h2,ME.dd h3⟩
def BlkOk (g:Gh) (w:World) (c:Nat):Blk→Prop
 | .cells cs=>∃ vs t,w.heap[c]?=some (.cells vs t (0,0))∧VA g cs vs.toList
 | .siter s pos=>w.heap[c]?=some (.stringIter ⟨s.toArray⟩ pos)
 | .mapo es clock=>∃ ents n,w.heap[c]?=some (.map ents n)∧ME g es ents.toList∧(clock=0→n=ents.size∧∀ (i:Nat) (e:MapEntry),ents[i]?=some e→e.born=i)
 | .loop st pe env ps assign body=>∃ fn tmps d,w.heap[c]?=some (.loop { state:=st,pending:=pe,fn,tmps,params:=ps,assign,body,defers:=d })∧VL g env tmps.toList
 | .row _ _ _=>False
 | .miter id n seen=>∃ m,g.σ[id]?=some (some m)∧w.heap[c]?=some (.mapIter (some m) n seen.toArray n)
 | .miter0=>w.heap[c]?=some (.mapIter none 0 #[] 0)
 | .other | .dead=>True
def RowOk (g:Gh) (w:World) (i k:Nat) (es:List (List AV)):Prop :=
 ∃ t,g.τ[i]?=some t∧t.row=true∧t.n=es.length∧(∀ e ∈ es,e.length=k)∧es.flatten.all AV.pure=true∧(es=[] ∨ ∃ b o e cs ty,t.loc=some (b,o+es.length * k,e) ∧
  w.heap[b]?=some (.cells cs ty (0,0))∧VA g es.flatten ((cs.toList.drop o).take (es.length * k))∧o+es.length * k≤cs.size∧∀ j,o≤j→g.Φ b j=none)
def RowB (g:Gh) (w:World):Blk→Prop
 | .row i k es=>RowOk g w i k es
 | .dead=>True
 | _=>False

theorem BlkOk.mono {g g':Gh} {w w':World} {c:Nat} {k:Blk} (h:g.le g') (hw:w'.heap[c]?=w.heap[c]?) (hb:BlkOk g w c k):BlkOk g' w' c k:=by
 cases k with
 | cells cs=>obtain ⟨vs,t,h1,h2⟩:=hb;exact ⟨vs,t,hw.trans h1,h2.mono h⟩
 | siter s pos=>exact hw.trans hb
 | mapo es clock=>obtain ⟨ents,n,h1,h2,h3⟩:=hb;exact ⟨ents,n,hw.trans h1,h2.mono h,h3⟩
 | loop st pe env ps assign body=>obtain ⟨fn,tmps,d,h1,h2⟩:=hb;exact ⟨fn,tmps,d,hw.trans h1,h2.mono h⟩
 | row _ _ _=>exact hb
 | miter id n seen=>obtain ⟨m,h1,h2⟩:=hb;exact ⟨m,h.sig _ _ h1,hw.trans h2⟩
 | miter0=>exact hw.trans hb
 | other=>trivial
 | dead=>trivial
theorem RowOk.mono {g g':Gh} {w w':World} {i k:Nat} {es:List (List AV)} (h:g.le g') (ht:g'.τ[i]?=g.τ[i]?)
  (hw:∀ t b x,g.τ[i]?=some t→t.row=true→t.loc=some (b,x)→w'.heap[b]?=w.heap[b]?∧∀ j,g'.Φ b j=g.Φ b j) (hr:RowOk g w i k es):RowOk g' w' i k es:=by
 obtain ⟨t,h1,h2,h3,h4,h5,h6⟩:=hr
 refine ⟨t,ht.trans h1,h2,h3,h4,h5,h6.imp id ?_⟩
 rintro ⟨b,o,e,cs,ty,k1,k2,k3,k4,k5⟩
 obtain ⟨q1,q2⟩:=hw t b _ h1 h2 k1
 exact ⟨b,o,e,cs,ty,k1,q1.trans k2,k3.mono h,k4,fun j hj=>(q2 j).trans (k5 j hj)⟩
theorem RowB.mono {g g':Gh} {w w':World} {k:Blk} (h:g.le g') (ht:∀ (i:Nat) (t:TI),g.τ[i]?=some t→t.row=true→g'.τ[i]?=some t)
  (hw:∀ (i:Nat) t b x,g.τ[i]?=some t→t.row=true→t.loc=some (b,x)→w'.heap[b]?=w.heap[b]?∧∀ j,g'.Φ b j=g.Φ b j) (hr:RowB g w k):RowB g' w' k:=by
 cases k with
 | row i k es =>
  have hr:RowOk g w i k es:=hr
  obtain ⟨t,h1,h2,_⟩:=id hr
  exact hr.mono h ((ht i t h1 h2).trans h1.symm) (hw i)
 | dead=>trivial
 | _=>exact hr.elim

structure LocOk (Φ:Nat→Nat→Option Value) (B:Nat) (w:World) (b l e:Nat):Prop where
 lo:B≤b
 lt:b < w.heap.size
 cells:∃ cs ty,w.heap[b]?=some (.cells cs ty (0,0))∧e≤cs.size
 free:∀ j,l≤j→Φ b j=none

theorem LocOk.mono {Φ Φ':Nat→Nat→Option Value} {B:Nat} {w w':World} {b l e:Nat} (h:LocOk Φ B w b l e) (hz:w.heap.size≤w'.heap.size) (hw:w'.heap[b]?=w.heap[b]?)
  (hf:∀ j,l≤j→Φ' b j=Φ b j):LocOk Φ' B w' b l e :=
 ⟨h.lo,Nat.lt_of_lt_of_le h.lt hz,by obtain ⟨cs,ty,h1,h2⟩:=h.cells;exact ⟨cs,ty,hw.trans h1,h2⟩,fun j hj=>(hf j hj).trans (h.free j hj)⟩

def Apart (g:Gh) (b:Nat):Prop:=(∀ i:Nat,g.σ[i]? ≠ some (some b))∧b ∉ g.δ∧∀ (i:Nat) (t:TI) (x:Nat×Nat),g.τ[i]?=some t→t.loc ≠ some (b,x)
def NOk (B:Nat) (g:Gh) (w:World) (b:Nat):BK→Prop
 | .new s=>B≤b∧Apart g b∧∃ cs ty,w.heap[b]?=some (.cells cs ty (0,0))∧cs.size=s
 | .gar s=>B≤b∧Apart g b∧(∃ cs ty,w.heap[b]?=some (.cells cs ty (0,0))∧cs.size=s)∧∀ j,g.Φ b j=none
 | .shut o=>B≤b∧Apart g b∧(∃ cs ty,w.heap[b]?=some (.cells cs ty (0,0))∧o=.cells cs ty (0,0))∧∀ j,g.Φ b j=none
 | .frz o=>B≤b∧Apart g b∧w.heap[b]?=some o
theorem NOk.mono {B:Nat} {g g':Gh} {w w':World} {b:Nat} {x:BK} (h:NOk B g w b x)
  (k:B≤b→b < w.heap.size→Apart g b→w'.heap[b]?=w.heap[b]?∧Apart g' b∧((∀ j,g.Φ b j=none)→∀ j,g'.Φ b j=none)):NOk B g' w' b x:=by
 cases x with
 | new s =>
  obtain ⟨h1,h2,cs,ty,h3,h4⟩:=h
  obtain ⟨k1,k2,_⟩:=k h1 (Array.getElem?_eq_some_iff.1 h3).1 h2
  exact ⟨h1,k2,cs,ty,k1.trans h3,h4⟩
 | gar s =>
  obtain ⟨h1,h2,⟨cs,ty,h3,h4⟩,h5⟩:=h
  obtain ⟨k1,k2,k3⟩:=k h1 (Array.getElem?_eq_some_iff.1 h3).1 h2
  exact ⟨h1,k2,⟨cs,ty,k1.trans h3,h4⟩,k3 h5⟩
 | shut o =>
  obtain ⟨h1,h2,⟨cs,ty,h3,h4⟩,h5⟩:=h
  obtain ⟨k1,k2,k3⟩:=k h1 (Array.getElem?_eq_some_iff.1 h3).1 h2
  exact ⟨h1,k2,⟨cs,ty,k1.trans h3,h4⟩,k3 h5⟩
 | frz o =>
  obtain ⟨h1,h2,h3⟩:=h
  obtain ⟨k1,k2,_⟩:=k h1 (Array.getElem?_eq_some_iff.1 h3).1 h2
  exact ⟨h1,k2,k1.trans h3⟩

structure Rel (B:Nat) (w0:World) (g:Gh) (h:AH) (w:World):Prop where
 below:Below B w0 w
 bsz:B≤w.heap.size
 phi:∀ b j v,g.Φ b j=some v→w.cell? ⟨b,j,none⟩=some v
 slen:g.σ.length=h.blks.length
 blk:∀ (i c:Nat) (k:Blk),g.σ[i]?=some (some c)→h.blks[i]?=some k→B≤c∧c < w.heap.size∧BlkOk g w c k∧(k ≠ .dead→∀ j,g.Φ c j=none)
 tlen:g.τ.length=h.toks.length
 tok:∀ (i:Nat) (t:TI),g.τ[i]?=some t→h.toks[i]?=some t.n∧∀ b l e,t.loc=some (b,l,e)→LocOk g.Φ B w b l e
 sinj:∀ (i j c:Nat),g.σ[i]?=some (some c)→g.σ[j]?=some (some c)→i=j
 tinj:∀ (i j:Nat) (t t':TI) (b:Nat) (x y:Nat×Nat),g.τ[i]?=some t→g.τ[j]?=some t'→t.loc=some (b,x)→t'.loc=some (b,y)→i=j
 sep:∀ (i c j:Nat) (t:TI) (b:Nat) (x:Nat×Nat),g.σ[i]?=some (some c)→g.τ[j]?=some t→t.loc=some (b,x)→b ≠ c
 dfr:∀ c,c ∈ g.δ→B≤c∧w.heap[c]?=some (.deferred (some []))∧∀ i:Nat,g.σ[i]? ≠ some (some c)
 row:∀ (i:Nat) (k:Blk),g.σ[i]?=some none→h.blks[i]?=some k→RowB g w k
 rinj:∀ (i j t k k':Nat) (es es':List (List AV)),h.blks[i]?=some (.row t k es)→h.blks[j]?=some (.row t k' es')→i=j
 nb:∀ (b:Nat) (x:BK),g.N b=some x→NOk B g w b x
 ob:∀ b:Nat,g.O b→b < w.heap.size∧∀ s,g.N b ≠ some (.new s)∧g.N b ≠ some (.gar s)

section
variable {B:Nat} {w0 w:World} {g:Gh} {h:AH}

theorem Rel.phi_lt (r:Rel B w0 g h w) {b j:Nat} {v:Value} (e:g.Φ b j=some v):b < w.heap.size:=World.block_lt_of_cell? w ⟨b,j,none⟩ (r.phi b j v e)

theorem Rel.drew (r:Rel B w0 g h w):Rel B w0 g h w.drew :=
 ⟨r.below.drew,r.bsz,r.phi,r.slen,fun i c k hc hk=>by obtain ⟨h1,h2,h3,h4⟩:=r.blk i c k hc hk;exact ⟨h1,h2,h3.mono (Gh.le.refl g) rfl,h4⟩,r.tlen,
   fun i t ht=>by obtain ⟨h1,h2⟩:=r.tok i t ht;exact ⟨h1,fun b l e hl=>(h2 b l e hl).mono (Nat.le_refl _) rfl fun _ _=>rfl⟩,r.sinj,r.tinj,r.sep,r.dfr,fun i k hi hk=>(r.row i k hi hk).mono (Gh.le.refl g) (fun _ _ h _=>h) (fun _ _ _ _ _ _ _=>⟨rfl,fun _=>rfl⟩),r.rinj,fun b x hb=>(r.nb b x hb).mono fun _ _ ha=>⟨rfl,ha,fun h=>h⟩,r.ob⟩
theorem Rel.nlt (r:Rel B w0 g h w) {b:Nat} {x:BK} (hb:g.N b=some x):b < w.heap.size:=by
 have:=r.nb b x hb
 cases x with
 | new s=>obtain ⟨_,_,cs,ty,h3,_⟩:=this;exact (Array.getElem?_eq_some_iff.1 h3).1
 | gar s=>obtain ⟨_,_,⟨cs,ty,h3,_⟩,_⟩:=this;exact (Array.getElem?_eq_some_iff.1 h3).1
 | shut o=>obtain ⟨_,_,⟨cs,ty,h3,_⟩,_⟩:=this;exact (Array.getElem?_eq_some_iff.1 h3).1
 | frz o=>exact (Array.getElem?_eq_some_iff.1 this.2.2).1
theorem Rel.nnew (r:Rel B w0 g h w) {b:Nat} (hb:w.heap.size≤b):g.N b=none:=by
 rcases hx:g.N b with _ | x
 ·rfl
 ·exact absurd (r.nlt hx) (by omega)
theorem Rel.ntok (r:Rel B w0 g h w) {i:Nat} {t:TI} {b:Nat} {y:Nat×Nat} (ht:g.τ[i]?=some t) (hl:t.loc=some (b,y)):g.N b=none:=by
 rcases hx:g.N b with _ | x
 ·rfl
 ·have:=r.nb b x hx
  cases x <;> exact absurd hl (this.2.1.2.2 i t y ht)
theorem Rel.nsig (r:Rel B w0 g h w) {i c:Nat} (hi:g.σ[i]?=some (some c)):g.N c=none:=by
 rcases hx:g.N c with _ | x
 ·rfl
 ·have:=r.nb c x hx
  cases x <;> exact absurd hi (this.2.1.1 i)
theorem Rel.nold (r:Rel B w0 g h w) {b:Nat} (hb:w.heap.size≤b):¬ g.O b:=fun h=>absurd (r.ob b h).1 (by omega)
theorem Rel.dfr_lt (r:Rel B w0 g h w) {c:Nat} (hc:c ∈ g.δ):c < w.heap.size:=(Array.getElem?_eq_some_iff.1 (r.dfr c hc).2.1).1

theorem Rel.alloc0 (r:Rel B w0 g h w) (o:Obj):Rel B w0 g h (w.alloc o) :=
 ⟨r.below.alloc r.bsz o,by have:=r.bsz;simp;omega,fun b j v e=>(World.cell?_alloc_lt w o ⟨b,j,none⟩ (r.phi_lt e)).trans (r.phi b j v e),r.slen,
   fun i c k hc hk=>by
     obtain ⟨h1,h2,h3,h4⟩:=r.blk i c k hc hk
     exact ⟨h1,by simp;omega,h3.mono (Gh.le.refl g) (Below.heap_alloc w o c h2),h4⟩,r.tlen,
   fun i t ht=>by
     obtain ⟨h1,h2⟩:=r.tok i t ht
     exact ⟨h1,fun b l e hl=>(h2 b l e hl).mono (by simp) (Below.heap_alloc w o b (h2 b l e hl).lt) fun _ _=>rfl⟩,r.sinj,r.tinj,r.sep,fun c hc=>⟨(r.dfr c hc).1,(Below.heap_alloc w o c (r.dfr_lt hc)).trans (r.dfr c hc).2.1,(r.dfr c hc).2.2⟩,fun i k hi hk=>(r.row i k hi hk).mono (Gh.le.refl g) (fun _ _ h _=>h) (fun i t b x ht _ hl=>⟨Below.heap_alloc w o b ((r.tok i t ht).2 b x.1 x.2 hl).lt,fun _=>rfl⟩),r.rinj,fun b x hb=>(r.nb b x hb).mono fun _ hl ha=>⟨Below.heap_alloc w o b hl,ha,fun h=>h⟩,fun b hb=>⟨by have:=(r.ob b hb).1;simp;omega,(r.ob b hb).2⟩⟩

def Gh.addS (g:Gh) (c:Option Nat):Gh:={ g with σ:=g.σ++[c] }
theorem Gh.le_addS (g:Gh) (c:Option Nat):g.le (g.addS c) :=
 ⟨fun _ _ _ e=>e,fun i x e=>by
  have:i < g.σ.length:=(List.getElem?_eq_some_iff.1 e).1
  simp only [Gh.addS];rw [List.getElem?_append_left this];exact e,fun _ t e=>⟨t,e,Nat.le_refl _,fun _=>rfl,rfl⟩,fun _ h=>h,fun _ _ h=>h,fun _ h=>h⟩
theorem addS_get {g:Gh} {c x:Option Nat} {i:Nat} (e:(g.addS c).σ[i]?=some x):g.σ[i]?=some x ∨ (i=g.σ.length∧x=c):=by
 simp only [Gh.addS] at e
 rcases Nat.lt_or_ge i g.σ.length with hl | hl
 ·rw [List.getElem?_append_left hl] at e;exact .inl e
 ·rw [List.getElem?_append_right hl] at e
  rcases Nat.eq_zero_or_pos (i - g.σ.length) with h0 | h0
  ·rw [h0] at e;simp at e;exact .inr ⟨by omega,e.symm⟩
  ·rw [List.getElem?_eq_none (by simp;omega)] at e;cases e

theorem Rel.adopt (r:Rel B w0 g h w) {c:Nat} (k:Blk) (hB:B≤c) (hc:c < w.heap.size) (hk:BlkOk (g.addS (some c)) w c k) (hfree:∀ j,g.Φ c j=none)
  (hs:∀ (i x:Nat),g.σ[i]?=some (some x)→x ≠ c) (ht:∀ (i:Nat) (t:TI) (b:Nat) (x:Nat×Nat),g.τ[i]?=some t→t.loc=some (b,x)→b ≠ c) (hdl:c ∉ g.δ) (hnb:g.N c=none) :
  Rel B w0 (g.addS (some c)) (h.new k) w :=
 ⟨r.below,r.bsz,r.phi,by simp [Gh.addS,AH.new,r.slen],fun i x k' hx hk'=>by
   have hlen:=r.slen
   rcases addS_get hx with hx | ⟨rfl,he⟩
   ·have hi:i < h.blks.length:=by rw [← hlen];exact (List.getElem?_eq_some_iff.1 hx).1
    simp only [AH.new] at hk'
    rw [List.getElem?_append_left hi] at hk'
    obtain ⟨h1,h2,h3,h4⟩:=r.blk i x k' hx hk'
    exact ⟨h1,h2,h3.mono (g.le_addS _) rfl,h4⟩
   ·obtain rfl:=Option.some.inj he
    simp only [AH.new] at hk'
    rw [hlen,List.getElem?_append_right (Nat.le_refl _)] at hk'
    simp at hk';subst hk'
    exact ⟨hB,hc,hk,fun _=>hfree⟩,r.tlen,r.tok,
  fun i j x hi hj=>by
   rcases addS_get hi with hi | ⟨rfl,e0⟩ <;> rcases addS_get hj with hj | ⟨rfl,e⟩
   ·exact r.sinj i j x hi hj
   ·exact absurd (Option.some.inj e) (hs i x hi)
   ·exact absurd (Option.some.inj e0) (hs j _ hj)
   ·rfl,
  r.tinj,fun i x j t b y hx ht' hl=>by
   rcases addS_get hx with hx | ⟨rfl,he⟩
   ·exact r.sep i x j t b y hx ht' hl
   ·obtain rfl:=Option.some.inj he
    exact ht j t b y ht' hl,
  fun x hx=>⟨(r.dfr x hx).1,(r.dfr x hx).2.1,fun i hi=>by
   rcases addS_get hi with hi | ⟨_,he⟩
   ·exact (r.dfr x hx).2.2 i hi
   ·obtain rfl:=Option.some.inj he
    exact hdl hx⟩,
  fun i k' hi hk'=>by
   rcases addS_get hi with hi | ⟨_,he⟩
   ·have hl:i < h.blks.length:=by rw [← r.slen];exact (List.getElem?_eq_some_iff.1 hi).1
    simp only [AH.new] at hk'
    rw [List.getElem?_append_left hl] at hk'
    exact (r.row i k' hi hk').mono (g.le_addS _) (fun _ _ h _=>h) (fun _ _ _ _ _ _ _=>⟨rfl,fun _=>rfl⟩)
   ·exact absurd he (by simp),
  fun i j t k1 k2 es es' hi hj=>by
   have nr:∀ t k1 es,k ≠ .row t k1 es:=by rintro t k1 es rfl;exact hk
   simp only [AH.new] at hi hj
   have key:∀ (i t k1:Nat) (es:List (List AV)),(h.blks++[k])[i]?=some (.row t k1 es)→h.blks[i]?=some (.row t k1 es):=by
    intro i t k1 es hi
    rcases Nat.lt_or_ge i h.blks.length with hl | hl
    ·rw [List.getElem?_append_left hl] at hi;exact hi
    ·rw [List.getElem?_append_right hl] at hi
     have:=List.mem_of_getElem? hi
     exact absurd (List.mem_singleton.1 this).symm (nr _ _ _)
   exact r.rinj i j t k1 k2 es es' (key _ _ _ _ hi) (key _ _ _ _ hj),
  fun b x hb=>by
   by_cases hbc:b=c
   ·subst hbc
    have hb:g.N b=some x:=hb
    rw [hnb] at hb;cases hb
   ·exact (r.nb b x hb).mono fun _ _ ha=>⟨rfl,⟨fun i hi=>by
     rcases addS_get hi with hi | ⟨_,he⟩
     ·exact ha.1 i hi
     ·exact hbc (Option.some.inj he),ha.2⟩,fun h=>h⟩,r.ob⟩

theorem Rel.newBlk (r:Rel B w0 g h w) (o:Obj) (k:Blk) (hk:BlkOk (g.addS (some w.heap.size)) (w.alloc o) w.heap.size k):Rel B w0 (g.addS (some w.heap.size)) (h.new k) (w.alloc o) :=
 (r.alloc0 o).adopt k r.bsz (by simp) hk
  (fun j=>by
   rcases he:g.Φ w.heap.size j with _ | v
   ·rfl
   ·exact absurd (r.phi_lt he) (Nat.lt_irrefl _))
  (fun i x hx e=>by
   have hi:i < h.blks.length:=by rw [← r.slen];exact (List.getElem?_eq_some_iff.1 hx).1
   have:=(r.blk i x _ hx (List.getElem?_eq_getElem hi)).2.1
   omega)
  (fun i t b x ht hl e=>by
   have:=((r.tok i t ht).2 b x.1 x.2 hl).lt
   omega)
  (fun hc=>Nat.lt_irrefl _ (r.dfr_lt hc)) (r.nnew (Nat.le_refl _))

theorem Rel.newCells (r:Rel B w0 g h w) {cs:List AV} {vs:Array Value} (t:TypeId) (hv:VA g cs vs.toList) :
  Rel B w0 (g.addS (some w.heap.size)) (h.new (.cells cs)) (w.alloc (.cells vs t)) :=
 r.newBlk _ _ ⟨vs,t,heap_alloc_new w _,hv.mono (g.le_addS _)⟩

def Gh.vow (g:Gh) (b:Nat) (f:Nat→Option Value):Gh:={ g with Φ:=fun b' j=>if b'=b then (match g.Φ b j with | some v=>some v | none=>f j) else g.Φ b' j }
theorem Gh.le_vow (g:Gh) (b:Nat) (f:Nat→Option Value):g.le (g.vow b f) :=
 ⟨fun b' j v e=>by
  simp only [Gh.vow]
  by_cases hb:b'=b
  ·subst hb;simp [e]
  ·simp [hb,e],fun _ _ e=>e,fun _ t e=>⟨t,e,Nat.le_refl _,fun _=>rfl,rfl⟩,fun _ h=>h,fun _ _ h=>h,fun _ h=>h⟩

theorem Rel.vow (r:Rel B w0 g h w) {b:Nat} {f:Nat→Option Value} (hf:∀ j v,f j=some v→w.cell? ⟨b,j,none⟩=some v)
  (hs:∀ (i c:Nat),g.σ[i]?=some (some c)→h.blks[i]? ≠ some .dead→c ≠ b)
  (ht:∀ (i:Nat) (t:TI) (l e:Nat),g.τ[i]?=some t→t.loc=some (b,l,e)→t.row=false∧∀ j,l≤j→f j=none) (hnb:g.N b=none):Rel B w0 (g.vow b f) h w :=
 ⟨r.below,r.bsz,fun b' j v e=>by
   simp only [Gh.vow] at e
   by_cases hb:b'=b
   ·subst hb
    simp only [if_true] at e
    split at e
    ·rename_i v' he;cases e;exact r.phi _ _ _ he
    ·exact hf j v e
   ·simp only [hb,if_false] at e;exact r.phi _ _ _ e,r.slen,
  fun i c k hc hk=>by
   obtain ⟨h1,h2,h3,h4⟩:=r.blk i c k hc hk
   refine ⟨h1,h2,h3.mono (g.le_vow b f) rfl,fun hd j=>?_⟩
   have hne:c ≠ b:=hs i c hc (by rw [hk];intro e;injection e with e;exact hd e)
   simp only [Gh.vow,hne,if_false]
   exact h4 hd j,r.tlen,
  fun i t hi=>by
   obtain ⟨h1,h2⟩:=r.tok i t hi
   refine ⟨h1,fun b' l e hl=>(h2 b' l e hl).mono (Nat.le_refl _) rfl fun j hj=>?_⟩
   simp only [Gh.vow]
   by_cases hb:b'=b
   ·subst hb
    simp only [if_true,(h2 b' l e hl).free j hj]
    exact (ht i t l e hi hl).2 j hj
   ·simp only [hb,if_false],r.sinj,r.tinj,r.sep,r.dfr,
  fun i k hi hk=>(r.row i k hi hk).mono (g.le_vow b f) (fun _ _ h _=>h) (fun i t b' x ht' hr hl=>⟨rfl,fun j=>by
   have hne:b' ≠ b:=by
    rintro rfl
    have:=(ht i t x.1 x.2 ht' hl).1
    rw [hr] at this;cases this
   simp only [Gh.vow,hne,if_false]⟩),r.rinj,
  fun b' x hb'=>by
   by_cases hbb:b'=b
   ·subst hbb
    have hb':g.N b'=some x:=hb'
    rw [hnb] at hb';cases hb'
   ·exact (r.nb b' x hb').mono fun _ _ ha=>⟨rfl,ha,fun h j=>by simp only [Gh.vow,hbb,if_false];exact h j⟩,r.ob⟩

theorem Rel.newRow (r:Rel B w0 g h w) (vs:Array Value) (t:TypeId) (n:Nat) :
  Rel B w0 (g.vow w.heap.size fun j=>if j < n then vs[j]? else none) h (w.alloc (.cells vs t)) :=
 (r.alloc0 _).vow (fun j v e=>by
   split at e
   ·rw [World.cell?_alloc_new];exact e
   ·cases e)
  (fun i c hc _ e=>by
   have hi:i < h.blks.length:=by rw [← r.slen];exact (List.getElem?_eq_some_iff.1 hc).1
   have:=(r.blk i c _ hc (List.getElem?_eq_getElem hi)).2.1
   omega)
  (fun i t l e ht hl=>by
   have:=((r.tok i t ht).2 _ l e hl).lt
   omega) (r.nnew (Nat.le_refl _))

theorem Rel.putObj (r:Rel B w0 g h w) {i c:Nat} {k k':Blk} (hc:g.σ[i]?=some (some c)) (hk:h.blks[i]?=some k) (hd:k ≠ .dead) {w':World} (hos:w'.os=w.os) (htp:w'.tape=w.tape)
  (hou:w'.output=w.output) (hsz:w'.heap.size=w.heap.size) (hoth:∀ b,b ≠ c→w'.heap[b]?=w.heap[b]?) (hok:BlkOk g w' c k'):Rel B w0 g (h.put i k') w':=by
 obtain ⟨hB,hlt,_,hfree⟩:=r.blk i c k hc hk
 refine ⟨⟨hos.trans r.below.os,htp.trans r.below.tape,hou.trans r.below.output,by rw [hsz];exact r.below.size,fun b hb=>(hoth b (by omega)).trans (r.below.block b hb)⟩,
  by rw [hsz];exact r.bsz,fun b j v e=>?_,by simp [AH.put,r.slen],fun i' c' k'' hc' hk''=>?_,r.tlen,fun i' t ht=>?_,r.sinj,r.tinj,r.sep,fun x hx=>⟨(r.dfr x hx).1,(hoth x (by rintro rfl;exact (r.dfr x hx).2.2 i hc)).trans (r.dfr x hx).2.1,(r.dfr x hx).2.2⟩,fun i' q hi' hq=>?_,fun i1 i2 t k1 k2 es es' h1 h2=>?_,
  fun b x hb=>(r.nb b x hb).mono fun _ _ ha=>⟨hoth b (by rintro rfl;exact ha.1 i hc),ha,fun h=>h⟩,fun b hb=>⟨by rw [hsz];exact (r.ob b hb).1,(r.ob b hb).2⟩⟩
 ·have hne:b ≠ c:=by rintro rfl;rw [hfree hd j] at e;cases e
  exact (World.cell?_of_block (w:=w) (w':=w') (a:=⟨b,j,none⟩) (hoth b hne)).trans (r.phi b j v e)
 ·simp only [AH.put] at hk''
  by_cases hi:i'=i
  ·subst hi
   have hcc:c'=c:=by rw [hc] at hc';injection hc' with e;injection e with e;exact e.symm
   subst hcc
   have hl:i' < h.blks.length:=(List.getElem?_eq_some_iff.1 hk).1
   rw [List.getElem?_set_self hl] at hk''
   injection hk'' with e;subst e
   exact ⟨hB,by rw [hsz];exact hlt,hok,fun _=>hfree hd⟩
  ·rw [List.getElem?_set_ne (fun e=>hi e.symm)] at hk''
   obtain ⟨h1,h2,h3,h4⟩:=r.blk i' c' k'' hc' hk''
   have hne:c' ≠ c:=by rintro rfl;exact hi (r.sinj _ _ _ hc' hc)
   exact ⟨h1,by rw [hsz];exact h2,h3.mono (Gh.le.refl g) (hoth c' hne),h4⟩
 ·obtain ⟨h1,h2⟩:=r.tok i' t ht
  refine ⟨h1,fun b l e hl=>(h2 b l e hl).mono (by rw [hsz];exact Nat.le_refl _) (hoth b ?_) fun _ _=>rfl⟩
  exact r.sep i c i' t b (l,e) hc ht hl
 ·have hi:i' ≠ i:=by rintro rfl;rw [hc] at hi';cases hi'
  simp only [AH.put] at hq
  rw [List.getElem?_set_ne (fun e=>hi e.symm)] at hq
  exact (r.row i' q hi' hq).mono (Gh.le.refl g) (fun _ _ h _=>h) (fun i2 t b x ht _ hl=>⟨hoth b (r.sep i c i2 t b x hc ht hl),fun _=>rfl⟩)
 ·have key:∀ (i1 t k1:Nat) (es:List (List AV)),(h.blks.set i k')[i1]?=some (.row t k1 es)→h.blks[i1]?=some (.row t k1 es):=by
   intro i1 t k1 es h1
   by_cases hi:i1=i
   ·subst hi
    rw [List.getElem?_set_self (List.getElem?_eq_some_iff.1 hk).1] at h1
    injection h1 with h1;subst h1
    exact hok.elim
   ·rw [List.getElem?_set_ne (fun e=>hi e.symm)] at h1;exact h1
  exact r.rinj i1 i2 t k1 k2 es es' (key _ _ _ _ h1) (key _ _ _ _ h2)
end
end Go.Vv
