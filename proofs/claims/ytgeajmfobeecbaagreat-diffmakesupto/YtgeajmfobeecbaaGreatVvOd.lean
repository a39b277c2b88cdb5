/- A call of what is of old, and of numbers and texts: what it hands back is of old. -/
import Derived.Test.YtgeajmfobeecbaaGreatVvIn
import Derived.Test.YtgeajmfobeecbaaGreatVvSh
import Derived.Test.YtgeajmfobeecbaaGreatVvSo
set_option linter.all false
namespace Go.Vv
open Go Go.RowKit
variable {k:Nat} {es es':List (List AV)} {K:AV->AH->Prop}

def otV (p:Gh->Gh->Prop) (a b:AV):Prop:=∀g g2 v,p g g2->V g a v->V g2 b v
inductive otR (p:Gh->Gh->Prop):List AV->List AV->Prop
 | nil:otR p [] []
 | cons {a b:AV} {a5 bs:List AV} (hp:b.pure=true) (h:otV p a b) (t:otR p a5 bs):otR p (a::a5) (b::bs)
inductive otE (p:Gh->Gh->Prop):List (List AV)->List (List AV)->Prop
 | nil:otE p [] []
 | cons {a b:List AV} {a5 bs:List (List AV)} (h:otR p a b) (t:otE p a5 bs):otE p (a::a5) (b::bs)
inductive otL (p:Gh->Gh->Prop):List AV->List AV->Prop
 | nil:otL p [] []
 | cons {a b:AV} {a5 bs:List AV} (h:otV p a b) (t:otL p a5 bs):otL p (a::a5) (b::bs)
def InG (g g2:Gh):Prop:=∀b j x,g.O b->g.Φ b j=some x->g2.Φ b j=some x
def OutG (g g2:Gh):Prop:=∀b j x,g.Φ b j=some x->g2.Φ b j=some x/\g2.O b
section
variable {p:Gh->Gh->Prop}
theorem otV.plain {a:AV} (h:a.plain=true):otV p a a:=λg c v _ b=>by
 unfold AV.plain at h;split at h <;> first | (simp only [V];done) | (simp only [V,VL] at b ⊢;exact b) | cases h
theorem otR.plain:∀{a5:List AV},a5.all AV.plain=true->a5.all AV.pure=true->otR p a5 a5
 | [],_,_=>.nil
 | a::r,h,k=>by
  simp only [tc,ud] at h k;exact .cons k.1 (.plain h.1) (otR.plain h.2 k.2)
theorem otR.len:∀{a5 bs:List AV},otR p a5 bs->a5.length=bs.length
 | _,_,.nil=>rfl
 | _,_,.cons _ _ t=>by simp [t.len]
theorem otE.len:∀{a5 bs:List (List AV)},otE p a5 bs->a5.length=bs.length
 | _,_,.nil=>rfl
 | _,_,.cons _ t=>by simp [t.len]
theorem otE.map {α:Type} {row a:α->List AV} (h:∀x,otR p (row x) (a x)):∀L:List α,otE p (L.map row) (L.map a)
 | []=>.nil
 | x::r=>.cons (h x) (otE.map h r)
theorem VC.otV {g a:Gh} (c:p g a) {b:Nat} (d:∀j v,g.Φ b j=some v->a.Φ b j=some v):∀{o:Nat} {a5 bs:List AV},otR p a5 bs->VC g b o a5->VC a b o bs
 | _,_,_,.nil,_=>by simp only [VC]
 | _,_,_,.cons q h t,hv=>by
  simp only [VC] at hv ⊢;obtain ⟨⟨v,f,_,i⟩,e⟩:=hv;exact ⟨⟨v,d _ _ f,q,h _ _ _ c i⟩,VC.otV c d t e⟩
theorem VE.otV {g a:Gh} (c:p g a) {b k:Nat} (d:∀j v,g.Φ b j=some v->a.Φ b j=some v):∀{o:Nat} {a5 bs:List (List AV)},otE p a5 bs->VE g b k o a5->VE a b k o bs
 | _,_,_,.nil,_=>by simp only [VE]
 | _,_,_,.cons h t,hv=>by
  simp only [VE] at hv ⊢;obtain ⟨⟨f,e⟩,i⟩:=hv;exact ⟨⟨h.len.symm.trans f,VC.otV c d h e⟩,VE.otV c d t i⟩
theorem VL.otV {g b:Gh} (a:p g b):∀{a5 bs:List AV} {vs:List Value},otL p a5 bs->VL g a5 vs->VL b bs vs
 | _,_,_,.nil,hv=>by simpa only [VL] using hv
 | _,_,_,.cons h t,hv=>by
  simp only [VL] at hv ⊢;obtain ⟨v,s,rfl,d,c⟩:=hv;exact ⟨v,s,rfl,h _ _ _ a d,VL.otV a t c⟩
theorem otV.tup {a5 bs:List AV} (h:otL p a5 bs):otV p (.tup a5) (.tup bs):=λg d v b a=>by
 simp only [V] at a ⊢;obtain ⟨vs,rfl,c⟩:=a;exact ⟨vs,rfl,VL.otV b h c⟩
end
theorem otV.inB (h:otE InG es es'):otV InG (.bsl k es) (.sl k es'):=λg q v d f=>by
 simp only [V] at f ⊢;obtain ⟨a,c,e,l,i,m⟩:=f;refine ⟨a,c,by rw [<- h.len];exact e,by rw [<- h.len];exact l,i,m.imp (λe=>?_) λ⟨b,o,e,hh,n⟩=>⟨b,o,e,VE.otV d (λj v=>d b j v n) h hh⟩⟩;subst e;cases h;rfl
theorem otV.inM {α:Type} {row a:α->List AV} {L:List α} (h:∀x,otR InG (row x) (a x)):otV InG (.bsl k (L.map row)) (.sl k (L.map a)):=otV.inB (otE.map h L)
theorem otV.out (z:0 < k) (h:otE OutG es es'):otV OutG (.sl k es) (.bsl k es'):=λg A v f d=>by
 simp only [V] at d ⊢;obtain ⟨a,c,e,n,l,t⟩:=d;refine ⟨a,c,by rw [<- h.len];exact e,by rw [<- h.len];exact n,l,?_⟩;rcases t with rfl | ⟨b,o,s,hh⟩
 ·left;cases h;rfl
 ·cases es with
  | nil=>left;cases h;rfl
  | cons x r =>
   refine .inr ⟨b,o,s,VE.otV f (λj v d=>(f b j v d).1) h hh,?_⟩;simp only [VE] at hh;obtain ⟨⟨m,i⟩,_⟩:=hh;cases x with
   | nil=>simp at m;omega
   | cons y q =>
    simp only [VC] at i;obtain ⟨⟨v,u,_⟩,_⟩:=i;exact (f b o v u).2
theorem otV.outM {α:Type} {row a:α->List AV} {L:List α} (b:0 < k) (h:∀x,otR OutG (row x) (a x)):otV OutG (.sl k (L.map row)) (.bsl k (L.map a)):=otV.out b (otE.map h L)

section
open Classical
noncomputable def gO (B:Nat) (w:World) (g:Gh):Gh :=
 { Φ:=λb j=>if g.O b then g.Φ b j else none,σ:=[],τ:=[],δ:=[],O:=g.O,N:=λb=>if b < B then none else if g.O b then (match g.N b with | some x=>some x | none=>(w.heap[b]?).map .frz) else (w.heap[b]?).map .shut }
noncomputable def gOr (g g':Gh):Gh :=
 { g with Φ:=λb j=>match g.Φ b j with | some v=>some v | none=>g'.Φ b j,O:=λb=>g.O b \/ ∃j v,g'.Φ b j=some v }
variable {B:Nat} {w0 w w':World} {g g':Gh} {h h':AH}
theorem le_gOr (g g':Gh):g.le (gOr g g'):=⟨λb j v e=>by simp only [gOr,e],λ_ _ e=>e,λ_ t e=>⟨t,e,uh _,λ_=>rfl,rfl⟩,λ_ e=>e,λ_ _ e=>e,λ_ e=>.inl e⟩
theorem relO (r:Rel B w0 g h w):Rel B w0 (gO B w g) h0 w:=by
 refine ⟨r.below,r.bsz,λb j v h=>?_,rfl,λi c k q _=>by simp [gO] at q,rfl,λi t f=>by simp [gO] at f,λi j c hi=>by simp [gO] at hi,λi j t t' b x y hi=>by simp [gO] at hi,λi c j t b x hi=>by simp [gO] at hi,λc q=>by simp [gO] at q,λi k hi=>by simp [gO] at hi,λi j t k k' es es' hi=>by simp [h0] at hi,λb x a=>?_,λb a=>⟨(r.ob b a).1,λs=>?_⟩,λb _=>⟨λi=>by simp [gO],by simp [gO],λi t y f=>by simp [gO] at f⟩⟩
 ·simp only [gO] at h;split at h
  ·exact r.phi b j v h
  ·cases h
 ·have d:Apart (gO B w g) b:=⟨λi=>by simp [gO],by simp [gO],λi t y f=>by simp [gO] at f⟩
  simp only [gO] at a;split at a
  ·cases a
  ·rename_i l;have l:B<=b:=by omega
   split at a
   ·rename_i m;split at a
    ·rename_i y n;injection a with a;subst a;have:=r.nb b _ n;have e:=(r.ob b m).2;cases y with
     | new s=>exact absurd n (e s).1
     | gar s=>exact absurd n (e s).2
     | shut o=>exact ⟨l,d,this.2.2.1,λj=>by simp only [gO,m,uq];exact this.2.2.2 j⟩
     | frz o=>exact ⟨l,d,this.2.2⟩
    ·obtain ⟨o,e,rfl⟩:=tQ.1 a;exact ⟨l,d,e⟩
   ·rename_i m;obtain ⟨o,e,rfl⟩:=tQ.1 a;exact ⟨l,d,e,λj=>by simp only [gO,m,uK]⟩
 ·have a:g.O b:=a;have:=(r.ob b a).2 s;simp only [gO,a,uq];split
  ·simp
  ·rcases hx:g.N b with _ | y
   ·rcases w.heap[b]? with _ | o <;> simp
   ·rw [hx] at this;exact this
theorem gO_shut (a:(gO B w g).le g') (c:Rel B w0 g' h' w') {b:Nat} (e:B<=b) (f:b < w.heap.size) (i:¬ g.O b):∀j,g'.Φ b j=none:=by
 have d:(gO B w g).N b=some (.shut w.heap[b]):=by
  simp only [gO,th (Nat.not_lt.2 e),th i,uy f];rfl
 exact (c.nb b _ (a.new _ _ d)).2.2.2
theorem gO_same (r:Rel B w0 g h w) (a:(gO B w g).le g') (d:Rel B w0 g' h' w') {b:Nat} (e:b < w.heap.size):w'.heap[b]?=w.heap[b]?:=by
 by_cases hB:b < B
 ·exact (d.below.block b hB).trans (r.below.block b hB).symm
 ·by_cases hO:g.O b
  ·rcases hx:g.N b with _ | y
   ·have c:(gO B w g).N b=some (.frz w.heap[b]):=by simp only [gO,th hB,uF hO,hx,uy e];rfl
    exact (d.nb b _ (a.new _ _ c)).2.2.trans (uy e).symm
   ·have c:(gO B w g).N b=some y:=by simp only [gO,th hB,uF hO,hx]
    have i:=d.nb b _ (a.new _ _ c);have j:=r.nb b _ hx;have f:=(r.ob b hO).2;cases y with
    | new s=>exact absurd hx (f s).1
    | gar s=>exact absurd hx (f s).2
    | shut o=>exact i.2.2.1.trans j.2.2.1.symm
    | frz o=>exact i.2.2.trans j.2.2.symm
  ·have c:(gO B w g).N b=some (.shut w.heap[b]):=by simp only [gO,th hB,th hO,uy e];rfl
   exact (d.nb b _ (a.new _ _ c)).2.2.1.trans (uy e).symm
theorem gO_below (r:Rel B w0 g h w) (c:(gO B w g).le g') (a:Rel B w0 g' h' w'):Below w.heap.size w w':=by
 have f:w.heap.size<=w'.heap.size:=by
  rcases sU w.heap.size with h0 | h0
  ·omega
  ·have d:=gO_same r c a (b:=w.heap.size - 1) (by omega);rw [uy (show w.heap.size - 1 < w.heap.size by omega)] at d;have:=(uG.1 d).1;omega
 exact ⟨a.below.os.trans r.below.os.symm,a.below.tape.trans r.below.tape.symm,a.below.output.trans r.below.output.symm,f,λb e=>gO_same r c a e⟩
theorem gO_apart (r:Rel B w0 g h w) {b:Nat} (j:b < B \/ w.heap.size<=b):Apart g b:=by
 refine ⟨λi hi=>?_,λhd=>?_,λi t x d a=>?_⟩
 ·have a:i < h.blks.length:=by rw [<- r.slen];exact (uc.1 hi).1
  have:=r.blk i b _ hi (ug a);omega
 ·have:=(r.dfr b hd).1;have:=r.dfr_lt hd;omega
 ·have c:=(r.tok i t d).2 b x.1 x.2 a;have e:=c.lo;have f:=c.lt;omega
theorem relOr (r:Rel B w0 g h w) (n:(gO B w g).le g') (D:Rel B w0 g' h' w'):Rel B w0 (gOr g g') h w':=by
 have d:=r.beyond (gO_below r n D);have q:∀b j,B<=b->b < w.heap.size->¬ g.O b->(gOr g g').Φ b j=g.Φ b j:=λb j R m f=>by
  simp only [gOr,gO_shut n D R m f j];rcases g.Φ b j with _ | v <;> rfl
 have A:=le_gOr g g';have Q:∀(i c:Nat),g.σ[i]?=some (some c)->B<=c/\c < w.heap.size/\¬ g.O c:=λi c F=>by
  have y:i < h.blks.length:=by rw [<- r.slen];exact (uc.1 F).1
  have:=r.blk i c _ F (ug y);exact ⟨this.1,this.2.1,λV=>(r.oa c V).1 i F⟩
 have T:∀(i:Nat) (t:TI) (b:Nat) (x:Nat×Nat),g.τ[i]?=some t->t.loc=some (b,x)->B<=b/\b < w.heap.size/\¬ g.O b:=λi t b x E y=>by
  have:=(r.tok i t E).2 b x.1 x.2 y;exact ⟨this.lo,this.lt,r.otok E y⟩
 refine ⟨d.below,d.bsz,λb j v e=>?_,d.slen,λi c k F P=>?_,d.tlen,λi t E=>?_,d.sinj,d.tinj,d.sep,d.dfr,λi k hi P=>?_,d.rinj,λb x m=>?_,λb m=>?_,λb m=>?_⟩
 ·simp only [gOr] at e;split at e
  ·rename_i v' C;injection e with e;subst e;exact d.phi b j _ C
  ·exact D.phi b j v e
 ·obtain ⟨J,H,W,U⟩:=d.blk i c k F P;obtain ⟨G,L,I⟩:=Q i c F;exact ⟨J,H,W.mono A rfl,λhd j=>(q c j G L I).trans (U hd j)⟩
 ·obtain ⟨J,H⟩:=d.tok i t E;refine ⟨J,λb l e y=>?_⟩;obtain ⟨G,L,I⟩:=T i t b _ E y;exact (H b l e y).mono (uh _) rfl λj _=>q b j G L I
 ·exact (d.row i k hi P).mono A (λ_ _ h _=>h) λi t b x E _ y=>⟨rfl,λj=>by
   obtain ⟨G,L,I⟩:=T i t b x E y;exact q b j G L I⟩
 ·have z:g.N b=some x:=m;have a:=d.nb b x z;have M:=r.nlt z;have S:(∃o,x=.shut o) \/ (∃s,x=.gar s)->∀j,(gOr g g').Φ b j=g.Φ b j:=λhs j=>by
   have u:B<=b:=by
    rcases hs with ⟨o,rfl⟩ | ⟨s,rfl⟩
    ·exact a.1
    ·exact a.1
   by_cases f:g.O b
   ·rcases hs with ⟨o,rfl⟩ | ⟨s,rfl⟩
    ·have J:(gO B w g).N b=some (.shut o):=by simp only [gO,th (Nat.not_lt.2 u),uF f,z]
     have H:=(D.nb b _ (n.new _ _ J)).2.2.2 j;simp only [gOr,H];rcases g.Φ b j with _ | v <;> rfl
    ·exact absurd z ((r.ob b f).2 s).2
   ·exact q b j u M f
  cases x with
  | new s=>exact ⟨a.1,a.2.1,a.2.2⟩
  | gar s=>exact ⟨a.1,a.2.1,a.2.2.1,λj=>(S (.inr ⟨s,rfl⟩) j).trans (a.2.2.2 j)⟩
  | shut o=>exact ⟨a.1,a.2.1,a.2.2.1,λj=>(S (.inl ⟨o,rfl⟩) j).trans (a.2.2.2 j)⟩
  | frz o=>exact ⟨a.1,a.2.1,a.2.2⟩
 ·rcases m with m | ⟨j,v,C⟩
  ·exact d.ob b m
  ·refine ⟨D.phi_lt C,λs=>?_⟩;have key:∀x,g.N b=some x->(∃s,x=.new s) \/ (∃s,x=.gar s)->False:=λx z hs=>by
    have a:=r.nb b x z;have u:B<=b:=by
     rcases hs with ⟨o,rfl⟩ | ⟨s,rfl⟩
     ·exact a.1
     ·exact a.1
    have f:¬ g.O b:=λf=>by
     have:=(r.ob b f).2;rcases hs with ⟨o,rfl⟩ | ⟨s,rfl⟩
     ·exact (this o).1 z
     ·exact (this s).2 z
    rw [gO_shut n D u (r.nlt z) f j] at C;cases C
   exact ⟨λe=>key _ e (.inl ⟨s,rfl⟩),λe=>key _ e (.inr ⟨s,rfl⟩)⟩
 ·have:Apart g b:=by
   rcases m with m | ⟨j,v,C⟩
   ·exact r.oa b m
   ·by_cases R:b < B
    ·exact gO_apart r (.inl R)
    ·by_cases hz:w.heap.size<=b
     ·exact gO_apart r (.inr hz)
     ·by_cases f:g.O b
      ·exact r.oa b f
      ·rw [gO_shut n D (by omega) (by omega) f j] at C;cases C
  exact this
theorem spec_old {P:Program} {f:FuncId} {xs bs:List AV} {h:AH} {l R:AV} (u:otL InG xs bs) (hs:otV OutG l R) (s:Spec P f bs h0 K) (o:∀a hh,K a hh->a=l) :
  Spec P f xs h (λa hh=>a=R/\hh=h) :=
 ⟨s.1,λB w0 _ g w vs r A=>by
  refine (s.2 B w0 (gO B w g) w vs (relO r) (VL.otV (λb j x t e=>by simp only [gO,t,uq];exact e) u A)).mono ?_
  rintro e w' ⟨v,x,h',g',rfl,n,c,d,z⟩
  obtain rfl:=o _ _ n;have m:=relOr r c d;refine ⟨v,_,h,gOr g g',rfl,⟨rfl,rfl⟩,le_gOr g g',m,hs _ _ _ (λb j x e=>⟨?_,.inr ⟨j,x,e⟩⟩) z⟩;rcases hy:g.Φ b j with _ | y
  ·simp only [gOr,hy,e]
  ·have q:=m.phi b j y (by simp only [gOr,hy]);have i:=d.phi b j x e;rw [q] at i;simp only [gOr,hy,i]⟩
end
theorem fin_row1t {h:AH} {q e:AV} {B:List Blk} {T:List Nat} {b:Nat} {a:List (List AV)} (A:HdS h B b a q) (C:e.low h.blks.length h.toks.length=true)
  (z:K (.tup [.rsl h.blks.length h.toks.length b a.length,e]) (h.ext [.row h.toks.length b a] [a.length])):finK h K (.tup [q,e]) (h.ext B T):=by
 refine fin_wk (λB0 w0 w D E g vs x y r s=>?_) z;simp only [VL] at s;obtain ⟨v,_,rfl,t,rfl⟩:=s;simp only [V,VL] at t;obtain ⟨us,rfl,u,_,l,d,o,_,rfl,i,rfl⟩:=t;obtain ⟨g',m,f,j,n,c⟩:=rows1 x y r A d;refine ⟨g',m,f,?_,c⟩;simp only [VL,V];exact ⟨_,_,rfl,⟨us,rfl,u,_,l,by simpa only [V] using j,o,_,rfl,n e o C i,rfl⟩,rfl⟩
end Go.Vv
namespace Go.Vv
open Go Go.RowKit Go.Lib Go.Sort Go.Shelf
variable {P:Program}

theorem VA.leGR {p:Gh->Prop} {g:Gh} (hp:p g):∀{xs bs:List AV} {vs:List Value},leGR p xs bs->VA g xs vs->VA g bs vs
 | _,_,_,.nil,hv=>by simpa only [VA] using hv
 | _,_,_,.cons q h t,hv=>by
  simp only [VA] at hv ⊢;obtain ⟨v,s,rfl,⟨_,h1⟩,h2⟩:=hv;exact ⟨v,s,rfl,⟨AV.one_of_pure q,h _ _ hp h1⟩,VA.leGR hp t h2⟩
theorem CmpOk.weak {α:Type} {e:Nat} {row a:α->List AV} {L:List α} {cf:α->α->Int} (h:∀x,leGR AnyG (row x) (a x)) (o:CmpOk P e a L cf):CmpOk P e row L cf :=
 λf W x y i m j c d n l b k g=>o f W x y i m j c d n l b (VA.leGR trivial (h x) k) (VA.leGR trivial (h y) g)
theorem spec_sortN {ρ:Ren} (L:Go.Proofs.SlLaysF0.n6 P ρ) {k:Nat} (j:∀w,(isAgg (ρ.t 24)).run P w=.ok true w) (n:∀w,(Go.sizeOf (ρ.t 24)).run P w=.ok k w)
  {α:Type} {row a:α->List AV} (A:∀x,leGR AnyG (row x) (a x)) (o:∀x,(row x).length=k) (C:∀x,(a x).all AV.pure=true) (d:∀x,plL (a x)=true) {Lx R:List α} {c:α->α->Option Int} {b:Nat} (s:∀args w,(callFunc b args).run P w=.ok (.enter b args) w)
  (F:∀x y v,c x y=some v->Spec P b [.agg (a x),.agg (a y)] h0 (λr h=>r=.int .i64 v/\h=h0)) (u:sortO c Lx=some R)
  {q:Nat} {h:AH} {B B':List Blk} {T:List Nat} {i:Nat} (m:B[i]?=some (.row q k (Lx.map row))) (G:B.set i (.row q k (R.map row))=B') :
  Spec P (ρ.f 6) [.rsl (h.blks.length+i) q k Lx.length,.fn (.func b) [] []] (h.ext B T) (λz hh=>z=.tup []/\hh=h.ext B' T):=by
 obtain ⟨p,l⟩:=sortO_is u;refine spec_sortF L j n o s (CmpOk.weak A (CmpOk.of_spec C d λx y E D=>?_)) l m G;obtain ⟨v,g⟩:=rn.1 (p x E y D);have e:(c x y).getD 0=v:=by rw [g];rfl
 rw [e];exact F _ _ _ g
end Go.Vv
