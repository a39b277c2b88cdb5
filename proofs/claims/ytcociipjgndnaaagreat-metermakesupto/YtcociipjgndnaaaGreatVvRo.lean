/- Mutable rows: how one begins, and how it becomes an unchanging slice. -/
import Derived.Test.YtcociipjgndnaaaGreatVvIt
import Derived.Test.YtcociipjgndnaaaGreatVvRw
import Derived.Test.YtcociipjgndnaaaGreatVvRd
namespace Go.Vv
open Go Go.RowKit
section
variable {B:Nat} {w0 w:World} {g:Gh} {h:AH}
theorem Rel.freeze (r:Rel B w0 g h w) {q i k:Nat} {es:List (List AV)} (S:h.blks[q]?=some (.row i k es)) :
  ∃g',g.le g'/\Rel B w0 g' { h.put q .dead with toks:=h.toks.set i (es.length+1) } w/\g'.δ=g.δ/\∀Q v,V g (.rsl Q i k es.length) v->V g' (.sl k es) v:=by
 obtain ⟨O,t,x,F,N,z,J,y⟩:=r.rowAt S
 let T:TI:=⟨es.length+1,none,true⟩
 have A:t.n < T.n:=by show t.n < es.length+1;omega
 have C:=Gh.le_setT (g:=g) (t':=T) x A F.symm;have U:=r.setRowG (t':=T) (nb:=.dead) x A F rfl O S trivial (λ_ _ _ e=>by cases e) (λ_ _ _ e=>by cases e) (λ_ _ e=>by cases e);rcases y with rfl | ⟨b,o,e,cs,ty,H,W,k3,k4,k5⟩
 ·refine ⟨_,C,U,rfl,λQ v m=>?_⟩;simp only [V] at m ⊢;obtain ⟨a,c,rfl,R,K,_⟩:=m;exact ⟨a,c,rfl,R,K,.inl trivial⟩
 ·have D:∀(j:Nat) (u:TI) (l G:Nat),(g.setT i T).τ[j]?=some u->u.loc=some (b,l,G)->False:=by
   intro j u l G p I;simp only [Gh.setT] at p;by_cases hji:j=i
   ·subst hji;rw [uA (uc.1 x).1] at p;injection p with p;subst p;cases I
   ·rw [uK (λe=>hji e.symm)] at p;exact hji (r.tinj _ _ _ _ b _ _ p x I H)
  have X:=U.vow (b:=b) (f:=λj=>if o<=j/\j < o+es.length * k then cs[j]? else none)
   (λj v m=>by
    split at m
    ·rw [cell_of_row w b j cs ty (0,0) W];exact m
    ·cases m)
   (λj c p _=>(r.sep j c i t b _ p x H).symm)
   (λj u l G p I=>(D j u l G p I).elim)
   (r.ntok x H)
  have s:=C.trans (Gh.le_vow (g.setT i T) b λj=>if o<=j/\j < o+es.length * k then cs[j]? else none);refine ⟨_,s,X,rfl,λQ v m=>?_⟩;simp only [V] at m ⊢;obtain ⟨a,c,rfl,R,K,Z,E,_,_,d⟩:=m;obtain rfl:t=Z:=by rw [x] at E;injection E
  refine ⟨a,c,rfl,R,K,?_⟩;rcases d with ⟨h0,_⟩ | ⟨b',o',rfl,d⟩
  ·left;exact uP h0
  ·have d:=d N.symm;rw [H] at d;injection d with d;injection d with Y d;injection d with e2 _;obtain rfl:o=o':=by omega
   subst Y;refine .inr ⟨b,o,rfl,VE_iff.2 ⟨z,VC.ofVA (k3.mono s) J λj v m=>?_⟩⟩;rw [uw] at m;split at m
   ·rename_i p;rw [uF,uv] at m;simp only [Gh.vow,Gh.setT,ut];rw [k5 _ (by omega),up ⟨by omega,by omega⟩];exact m
   ·cases m
end
def AV.scal:AV->Bool
 | .bool _ | .int _ _ | .str _=>true
 | .tup [.bool _] | .tup [.int _ _] | .tup [.int _ _,.bool _]=>true
 | _=>false
theorem V.scal {g g':Gh} {a:AV} {v:Value} (hs:a.scal=true) (b:V g a v):V g' a v:=by
 unfold AV.scal at hs;split at hs <;> first | (simpa only [V,VL] using b) | cases hs
def sealed:Option BK->Bool
 | some (.gar _) | some (.shut _)=>true
 | _=>false
def gR (B:Nat) (w:World) (g:Gh):Gh :=
 { Φ:=λb j=>if b < w.heap.size/\sealed (g.N b)=false then w.cell? ⟨b,j,none⟩ else none,σ:=[],τ:=[],δ:=[],N:=λb=>match g.N b with | some x=>some x | none=>if B<=b then (w.heap[b]?).map .frz else none,O:=g.O }
theorem Rel.unsealed {B:Nat} {w0 w:World} {g:Gh} {h:AH} (r:Rel B w0 g h w) {b j:Nat} {v:Value} (e:g.Φ b j=some v):sealed (g.N b)=false:=by
 rcases hx:g.N b with _ | x
 ·rfl
 ·have:=r.nb b x hx;cases x with
  | gar s=>rw [this.2.2.2 j] at e;cases e
  | shut o=>rw [this.2.2.2 j] at e;cases e
  | _=>rfl
theorem lv_now {B:Nat} {w0 w:World} {g:Gh} {h:AH} (r:Rel B w0 g h w):(g.cut 0 0).lv (gR B w g) :=
 ⟨λb j v e=>by
     have e:g.Φ b j=some v:=e;simp only [gR,up (And.intro (r.phi_lt e) (r.unsealed e))];exact r.phi b j v e,λi c e=>by simp [Gh.cut] at e,λi t e=>by simp [Gh.cut] at e,λb x e=>by
     have e:g.N b=some x:=e;simp only [gR,e],λ_ e=>e⟩
theorem relR {B:Nat} {w0 w:World} {g:Gh} {h:AH} (r:Rel B w0 g h w):Rel B w0 (gR B w g) h0 w:=by
 refine ⟨r.below,r.bsz,λb j v h=>?_,rfl,λi c k f _=>by simp [gR] at f,rfl,λi t e=>by simp [gR] at e,λi j c hi=>by simp [gR] at hi,λi j t t' b x y hi=>by simp [gR] at hi,λi c j t b x hi=>by simp [gR] at hi,λc f=>by simp [gR] at f,λi k hi=>by simp [gR] at hi,λi j t k k' es es' hi=>by simp [h0] at hi,λb x d=>?_,λb d=>⟨(r.ob b d).1,λs=>?_⟩⟩
 ·simp only [gR] at h;split at h
  ·exact h
  ·cases h
 ·have a:Apart (gR B w g) b:=⟨λi=>by simp [gR],by simp [gR],λi t y e=>by simp [gR] at e⟩
  rcases hx:g.N b with _ | y
  ·simp only [gR,hx] at d;split at d
   ·rename_i l;obtain ⟨o,m,rfl⟩:=sP.1 d;exact ⟨l,a,m⟩
   ·cases d
  ·simp only [gR,hx,un] at d;subst d;have:=r.nb b _ hx;cases y with
   | new s=>exact ⟨this.1,a,this.2.2⟩
   | gar s=>exact ⟨this.1,a,this.2.2.1,λj=>by simp [gR,hx,sealed]⟩
   | shut o=>exact ⟨this.1,a,this.2.2.1,λj=>by simp [gR,hx,sealed]⟩
   | frz o=>exact ⟨this.1,a,this.2.2⟩
 ·have:=(r.ob b d).2 s;rcases hx:g.N b with _ | y
  ·simp only [gR,hx];split
   ·cases w.heap[b]? <;> simp
   ·simp
  ·rw [hx] at this;simp only [gR,hx];exact this
theorem Rel.after {B:Nat} {w0 w w':World} {g H:Gh} {h f:AH} (r:Rel B w0 g h w) (m:(gR B w g).le H) (p:Rel B w0 H f w'):Rel B w0 g h w':=by
 have a:∀b,b < w.heap.size->(g.N b=none \/ ∃o,g.N b=some (.frz o))->w'.heap[b]?=w.heap[b]?:=by
  intro b q A;by_cases hB:b < B
  ·exact (p.below.block b hB).trans (r.below.block b hB).symm
  ·rcases A with A | ⟨o,A⟩
   ·have d:(gR B w g).N b=some (.frz w.heap[b]):=by simp only [gR,A,up (Nat.not_lt.1 hB)];rw [uH q];rfl
    have:=p.nb b _ (m.new _ _ d);rw [this.2.2,uH q]
   ·have d:(gR B w g).N b=some (.frz o):=by simp only [gR,A]
    exact (p.nb b _ (m.new _ _ d)).2.2.trans (r.nb b _ A).2.2.symm
 have I:w.heap.size<=w'.heap.size:=by
  rcases su w.heap.size with h0 | h0
  ·omega
  ·by_cases hB:w.heap.size - 1 < B
   ·have:=p.bsz;omega
   ·have:∃x,(gR B w g).N (w.heap.size - 1)=some x:=by
     simp only [gR];cases E:g.N (w.heap.size - 1) with
     | some x=>exact ⟨x,rfl⟩
     | none=>exact ⟨.frz (w.heap[w.heap.size - 1]),by simp only [up (Nat.not_lt.1 hB)];rw [uH (by omega)];rfl⟩
    obtain ⟨x,E⟩:=this;have:=p.nlt (m.new _ _ E);omega
 have D:∀(i:Nat) (t:TI) (b:Nat) (y:Nat×Nat),g.τ[i]?=some t->t.loc=some (b,y)->w'.heap[b]?=w.heap[b]?:=λi t b y u z=>by
  exact a b ((r.tok i t u).2 b y.1 y.2 z).lt (.inl (r.ntok u z))
 refine ⟨p.below,p.bsz,λb j v e=>?_,r.slen,λi c k C G=>?_,r.tlen,λi t u=>?_,r.sinj,r.tinj,r.sep,λc C=>?_,λi k hi G=>?_,r.rinj,λb x q=>?_,λb q=>⟨so (r.ob b q).1 I,(r.ob b q).2⟩⟩
 ·have d:(gR B w g).Φ b j=some v:=by simp only [gR,up (And.intro (r.phi_lt e) (r.unsealed e))];exact r.phi b j v e
  exact p.phi b j v (m.phi _ _ _ d)
 ·obtain ⟨d,f,F,J⟩:=r.blk i c k C G;exact ⟨d,by omega,F.mono (Gh.le.refl g) (a c f (.inl (r.nsig C))),J⟩
 ·obtain ⟨d,f⟩:=r.tok i t u;exact ⟨d,λb l e z=>(f b l e z).mono I (D i t b _ u z) λ_ _=>rfl⟩
 ·obtain ⟨d,f,F⟩:=r.dfr c C;refine ⟨d,(a c (r.dfr_lt C) ?_).trans f,F⟩;rcases E:g.N c with _ | x
  ·exact .inl rfl
  ·have:=r.nb c x E;cases x <;> exact absurd C this.2.1.2.1
 ·exact (r.row i k hi G).mono (Gh.le.refl g) (λ_ _ h _=>h) (λi t b x u _ z=>⟨D i t b x u z,λ_=>rfl⟩)
 ·have n:=r.nb b x q;have d:(gR B w g).N b=some x:=by simp only [gR,q]
  have f:=p.nb b x (m.new _ _ d);cases x with
  | new s=>exact ⟨n.1,n.2.1,f.2.2⟩
  | gar s=>exact ⟨n.1,n.2.1,f.2.2.1,n.2.2.2⟩
  | shut o=>exact ⟨n.1,n.2.1,f.2.2.1,n.2.2.2⟩
  | frz o=>exact ⟨n.1,n.2.1,f.2.2⟩

theorem RdA.soundRow {B:Nat} {w0 w:World} {g:Gh} {h:AH} (r:Rel B w0 g h w) {id t k n:Nat} {es:List (List AV)} (s:h.blk id=some (.row t k es)) (D:n=es.length) {v:Value} (f:V g (.rsl id t k n) v):V (gR B w g) (.sl k es) v:=by
 subst D;obtain ⟨_,C,q,J,x,m,i,l⟩:=r.rowAt s;simp only [V] at f ⊢;obtain ⟨a,c,rfl,K,H,F,p,_,_,d⟩:=f;obtain rfl:C=F:=by rw [q] at p;injection p
 refine ⟨a,c,rfl,K,H,?_⟩;rcases d with ⟨h0,_⟩ | ⟨O,G,rfl,d⟩
 ·left;exact uP h0
 ·have d:=d x.symm;rcases l with rfl | ⟨b,o,e,cs,ty,A,z,I,Q,S⟩
  ·exact .inl rfl
  ·rw [A] at d;injection d with d;injection d with E d;injection d with R _;obtain rfl:o=G:=by omega
   subst E;have s:b < w.heap.size:=(uQ.1 z).1;have y:VA (gR B w g) es.flatten ((cs.toList.drop o).take (es.length * k)):=VA.monoV (lv_now r) _ _ (VA.cut _ _ (lowL_of_pure i) I);refine .inr ⟨b,o,rfl,VE_iff.2 ⟨m,VC.ofVA y i λj v f=>?_⟩⟩;rw [uw] at f;split at f
   ·rw [uF,uv] at f;have u:sealed (g.N b)=false:=by rw [r.ntok q A];rfl
    simp only [gR,up (And.intro s u)];rw [cell_of_row w b (o+j) cs ty (0,0) z];exact f
   ·cases f
mutual
inductive RdA (h:AH):AV->AV->Prop
 | low (a:AV) (hl:a.low 0 0=true):RdA h a a
 | row (id t k n:Nat) (es:List (List AV)) (hb:h.blk id=some (.row t k es)) (hn:n=es.length):RdA h (.rsl id t k n) (.sl k es)
 | osl (q:Option Nat) (k:Nat) (es:List (List AV)) (hl:(AV.sl k es).low 0 0=true):RdA h (.osl q k es) (.sl k es)
 | agg {cs bs:List AV} (x:RdL h cs bs) (ho:bs.all AV.one=true):RdA h (.agg cs) (.agg bs)
inductive RdL (h:AH):List AV->List AV->Prop
 | nil:RdL h [] []
 | cons {a b:AV} {xs bs:List AV} (x:RdA h a b) (y:RdL h xs bs):RdL h (a::xs) (b::bs)
end
theorem V.low0 {B:Nat} {w0 w:World} {g:Gh} {h:AH} (r:Rel B w0 g h w) {a:AV} {v:Value} (b:a.low 0 0=true) (c:V g a v):V (gR B w g) a v:=V.monoV (lv_now r) _ _ (V.cut _ _ b c)
mutual
theorem RdA.sound {B:Nat} {w0 w:World} {g:Gh} {h:AH} (r:Rel B w0 g h w):∀{a b:AV} {v:Value},RdA h a b->V g a v->V (gR B w g) b v
 | _,_,_,.low _ hl,hv=>V.low0 r hl hv
 | _,_,_,.row _ _ _ _ _ hb hn,hv=>RdA.soundRow r hb hn hv
 | _,_,_,.osl q k es hl,hv=>V.low0 r hl (leV.osl q k es g _ hv)
 | _,_,_,.agg x ho,hv=>by
  simp only [V] at hv ⊢;obtain ⟨vs,rfl,c⟩:=hv;exact ⟨vs,rfl,VA.mk (RdL.sound r x c.toVL) ho⟩
theorem RdL.sound {B:Nat} {w0 w:World} {g:Gh} {h:AH} (r:Rel B w0 g h w):∀{xs bs:List AV} {vs:List Value},RdL h xs bs->VL g xs vs->VL (gR B w g) bs vs
 | _,_,_,.nil,hv=>by simpa only [VL] using hv
 | _,_,_,.cons x y,hv=>by
  simp only [VL] at hv ⊢;obtain ⟨v,s,rfl,c,d⟩:=hv;exact ⟨v,s,rfl,RdA.sound r x c,RdL.sound r y d⟩
end
theorem qE {P:Program} {f:FuncId} {xs bs:List AV} {h:AH} {R:AV} {K:AV->AH->Prop} (m:RdL h xs bs) (hs:R.scal=true) (s:Spec P f bs h0 K) (j:∀a hh,K a hh->a=R) :
  Spec P f xs h (λa hh=>a=R/\hh=h) :=
 ⟨s.1,λB w0 _ g w vs r c=>by
  refine (s.2 B w0 (gR B w g) w vs (relR r) (m.sound r c)).mono ?_
  rintro e w' ⟨v,x,n,g',rfl,l,b,i,d⟩
  obtain rfl:=j _ _ l;exact ⟨v,_,h,g,rfl,⟨rfl,rfl⟩,Gh.le.refl g,r.after b i,V.scal hs d⟩⟩

theorem V.thaw {g:Gh} {k:Nat} {v:Value} {q:Nat} (d:V g (.osl none k []) v):V ((g.addT ⟨0,none,true⟩).addS none) (.rsl q g.τ.length k 0) v:=by
 simp only [V] at d ⊢;obtain ⟨a,c,rfl,f,e,_,b⟩:=d;have b:c=0:=b;refine ⟨a,c,rfl,f,e,⟨0,none,true⟩,?_,rfl,uh _,.inl ⟨rfl,b⟩⟩;simp [Gh.addT,Gh.addS]
theorem rowOk_nil {g:Gh} {w:World} {k:Nat}:RowOk ((g.addT ⟨0,none,true⟩).addS none) w g.τ.length k [] :=
 ⟨⟨0,none,true⟩,by simp [Gh.addT,Gh.addS],rfl,rfl,by simp,by simp,.inl rfl⟩
theorem swk.wk {hd h b:AH} {env a:List AV} (k:swk env h a b):wk hd env h a b:=λB w0 w _ j g vs _ i r e=>by
 obtain ⟨g',c,d,f⟩:=k B w0 w g vs r e;exact ⟨g',i.trans c,d,f,c.del⟩
theorem swk_thaw {h:AH} {env c:List AV} {B B':List Blk} {T T':List Nat} {d k n m:Nat} (x:yF env (.tmp d)=some (.osl none k [])) (u:B.length=n) (t:T.length=m)
  (q:vZ (some d) env (.rsl (h.blks.length+n) (h.toks.length+m) k 0)=some c) (z:B++[.row (h.toks.length+m) k []]=B') (A:T++[0]=T') :
  swk env (h.ext B T) c (h.ext B' T'):=λ_ _ w g vs r p=>by
 subst u t z A;simp only [vZ,un] at q;subst q;have b:g.τ.length=h.toks.length+T.length:=by rw [r.tlen];simp [AH.ext]
 have f:=(g.le_addT ⟨0,none,true⟩).trans (Gh.le_addS _ none);have s:=r.newRowT ⟨0,none,true⟩ k [] (λ_ _ _ h=>by cases h) (λ_ _ h=>by cases h) rowOk_nil;have e:(({ (h.ext B T) with toks:=(h.ext B T).toks++[0] }:AH).new (.row g.τ.length k []))=h.ext (B++[.row (h.toks.length+T.length) k []]) (T++[0]):=by
  rw [b];simp [AH.ext,AH.new,uy]
 rw [e] at s;refine ⟨_,f,s,VL.setE (VL.mono f _ _ p) d _ λv l=>?_⟩;obtain ⟨a,i,y⟩:=p.getR _ _ l;have j:env[d]?=some (.osl none k []):=x;rw [j] at i;injection i with i;subst i;rw [<- b];exact y.thaw

mutual
inductive FzA (i k:Nat) (es:List (List AV)):AV->AV->Prop
 | same (a:AV):FzA i k es a a
 | hit (q:Nat):FzA i k es (.rsl q i k es.length) (.sl k es)
 | hit2 (q n:Nat) (hn:n=es.length):FzA i k es (.rsl q i k n) (.sl k es)
 | agg {cs bs:List AV} (x:FzL i k es cs bs) (ho:bs.all AV.one=true):FzA i k es (.agg cs) (.agg bs)
 | tup {cs bs:List AV} (x:FzL i k es cs bs):FzA i k es (.tup cs) (.tup bs)
inductive FzL (i k:Nat) (es:List (List AV)):List AV->List AV->Prop
 | refl (xs:List AV):FzL i k es xs xs
 | cons {a b:AV} {xs bs:List AV} (x:FzA i k es a b) (y:FzL i k es xs bs):FzL i k es (a::xs) (b::bs)
end
theorem FzL.s {i k:Nat} {es:List (List AV)} {a:AV} {xs bs:List AV} (y:FzL i k es xs bs):FzL i k es (a::xs) (a::bs):=.cons (.same _) y
mutual
theorem FzA.sound {g g':Gh} (c:g.le g') {i k:Nat} {es:List (List AV)} (d:∀q v,V g (.rsl q i k es.length) v->V g' (.sl k es) v):∀{a b:AV} {v:Value},FzA i k es a b->V g a v->V g' b v
 | _,_,_,.same _,hv=>hv.mono c
 | _,_,_,.hit q,hv=>d q _ hv
 | _,_,_,.hit2 q n hn,hv=>by subst hn;exact d q _ hv
 | _,_,_,.agg x ho,hv=>by
  simp only [V] at hv ⊢;obtain ⟨vs,rfl,e⟩:=hv;exact ⟨vs,rfl,VA.mk (FzL.sound c d x e.toVL) ho⟩
 | _,_,_,.tup x,hv=>by
  simp only [V] at hv ⊢;obtain ⟨vs,rfl,e⟩:=hv;exact ⟨vs,rfl,FzL.sound c d x e⟩
theorem FzL.sound {g g':Gh} (c:g.le g') {i k:Nat} {es:List (List AV)} (d:∀q v,V g (.rsl q i k es.length) v->V g' (.sl k es) v):∀{xs bs:List AV} {vs:List Value},FzL i k es xs bs->VL g xs vs->VL g' bs vs
 | _,_,_,.refl _,hv=>hv.mono c
 | _,_,_,.cons x y,hv=>by
  simp only [VL] at hv ⊢;obtain ⟨v,s,rfl,e,f⟩:=hv;exact ⟨v,s,rfl,FzA.sound c d x e,FzL.sound c d y f⟩
end
theorem yO {h:AH} {env a:List AV} {B B':List Blk} {T T':List Nat} {j m k:Nat} {es:List (List AV)} (f:B[j]?=some (.row (h.toks.length+m) k es)) (s:FzL (h.toks.length+m) k es env a)
  (p:B.set j .dead=B') (q:T.set m (es.length+1)=T'):swk env (h.ext B T) a (h.ext B' T'):=λ_ _ w g vs r i=>by
 subst p q;have c:(h.ext B T).blks[h.blks.length+j]?=some (.row (h.toks.length+m) k es):=by
  simp only [AH.ext];rw [ui (by omega),uq];exact f
 obtain ⟨g',b,d,n,l⟩:=r.freeze c;have e:({ (h.ext B T).put (h.blks.length+j) .dead with toks:=(h.ext B T).toks.set (h.toks.length+m) (es.length+1) }:AH)=h.ext (B.set j .dead) (T.set m (es.length+1)):=by
  simp only [AH.ext,AH.put,AH.mk.injEq];exact ⟨by rw [uO _ _ (by omega),uq],by rw [uO _ _ (by omega),uq]⟩
 rw [e] at d;exact ⟨g',b,d,s.sound b l i⟩

section
variable {α:Type} {row:α->List AV} {L M:List α} {k:Nat}
theorem flat_len (a:∀x,(row x).length=k):∀L:List α,(L.map row).flatten.length=L.length * k
 | []=>by simp
 | x::t=>by simp only [uC,tq,uo,uk,flat_len a t,a x,sn];omega
theorem flat_drop (a:∀x,(row x).length=k):∀(L:List α) (i:Nat),(L.map row).flatten.drop (i * k)=((L.drop i).map row).flatten
 | [],i=>by simp
 | x::t,0=>by simp
 | x::t,i+1=>by
  rw [uC,tq,sn,p8,<- tB,py (a x),flat_drop a t i];rfl
theorem flat_take (a:∀x,(row x).length=k):∀(L:List α) (i:Nat),(L.map row).flatten.take (i * k)=((L.take i).map row).flatten
 | [],i=>by simp
 | x::t,0=>by simp
 | x::t,i+1=>by
  rw [uC,tq,sn,p8,sd,uM (by rw [a x];omega),a x,uq,flat_take a t i];rfl
theorem drop_at {i:Nat} {y:α} (a:L[i]?=some y):L.drop i=y::L.drop (i+1):=by
 obtain ⟨h,rfl⟩:=uc.1 a;exact (re h).symm
theorem ldC_row (b:∀x,(row x).length=k) {c:Bool} {m i off:Nat} {y:α} {v:AV} (f:L[i]?=some y) (a:ldC c m off (row y)=some v) (n:0 < m):ldC c m (i * k+off) (L.map row).flatten=some v:=by
 have e:(L.map row).flatten.drop (i * k)=row y++((L.drop (i+1)).map row).flatten:=by rw [flat_drop b,drop_at f];rfl
 have hi:i < L.length:=(uc.1 f).1;have l:(i+1) * k<=L.length * k:=tw k hi;rw [sn] at l;unfold ldC at a ⊢;cases c with
 | true =>
  simp only [ut] at a ⊢;split at a
  ·rename_i d;rw [b y] at d;rw [up (by rw [flat_len b];omega),<- tB,e,sY (by rw [b y];omega),uY (by rw [sB,b y];omega)];exact a
  ·cases a
 | false =>
  simp only [ul,uG] at a ⊢;have j:off < (row y).length:=(uc.1 a).1;have:(L.map row).flatten[i * k+off]?=((L.map row).flatten.drop (i * k))[off]?:=by rw [uF]
  rw [this,e,uj j];exact a
theorem rows_map (a:∀x,(row x).length=k):∀L:List α,rows k L.length (L.map row).flatten=L.map row
 | []=>rfl
 | x::t=>by
  simp only [uk,rows,uC,tq];rw [ol (a x),py (a x),rows_map a t]
theorem splice_row (a:∀x,(row x).length=k) {i off:Nat} {y y':α} {vs:List AV} (c:L[i]?=some y) (hs:yX (row y) off vs=row y') (j:off+vs.length<=k) :
  rows k L.length (yX (L.map row).flatten (i * k+off) vs)=(L.set i y').map row:=by
 have hi:i < L.length:=(uc.1 c).1;have e:(L.map row).flatten=((L.take i).map row).flatten++(row y++((L.drop (i+1)).map row).flatten):=by
  conv=>lhs;rw [<- sG i L,drop_at c]
  simp
 have b:((L.take i).map row).flatten.length=i * k:=by rw [flat_len a,se,s8 (by omega)]
 have f:yX (L.map row).flatten (i * k+off) vs=((L.set i y').map row).flatten:=by
  rw [List.set_eq_take_append_cons_drop,up hi];simp only [sJ,uC,tO,tq,<- hs];rw [e];unfold yX;have d:=a y;rw [sd,b,uM (by omega),uq,uY (by omega)];rw [tM,rz,b,tI (by omega),uq,u6,sY (by omega)];simp only [uy]
 rw [f];have:=rows_map a (L.set i y')
 rwa [uI] at this
variable {P:Program} {o:Oper} {env:List AV} {h:AH} {B:List Blk} {T:List Nat}
theorem yE {t e:TypeId} {x i:Operand} {id q n:Nat} {b:IntKind} {z:Int} (f:o.op=.indexAddr t x i) (d:El P t e k) (c:yF env x=some (.rsl id q k n)) (hi:yF env i=some (.int b z)) (a:0<=z/\z < n) :
  zw P o env h=.ok (.rptr id q k n (z.toNat * k+0)) h:=s_indexAddr f d c hi (by simp only [qy];rw [up ⟨trivial,a.1,a.2⟩];rfl)
theorem wW (r:∀x,(row x).length=k) {t:TypeId} {d:TypeDesc} {m i q n z off:Nat} {x:Operand} {y:α} {v v':AV} (p:o.op=.load t x) (e:Ty P t d m) (b:0 < m) (l:yF env x=some (.rptr (h.blks.length+i) q k n (z * k+off)))
  (a:B[i]?=some (.row q k (L.map row))) (c:L.length=n) (s:L[z]?=some y) (f:ldC (yh d) m off (row y)=some v) (j:tyfix P t v=v'):zw P o env (h.ext B T)=.ok v' (h.ext B T):=by
 refine s_load p e l ?_ j;simp only [aLoad,yA,a];rw [up ⟨trivial,trivial,by simpa using c⟩];exact ldC_row r s f b
theorem qP (p:∀x,(row x).length=k) {t:TypeId} {d:TypeDesc} {m i q n z off:Nat} {x w:Operand} {y y':α} {b f:AV} {vs us:List AV} {B':List Blk} (F:o.op=.store t x w) (u:Ty P t d m) (A:yF env x=some (.rptr (h.blks.length+i) q k n (z * k+off)))
  (C:yF env w=some b) (v:tyfix P t b=f) (G:f.cells?=some vs) (l:vs.length=m) (c:x5 vs=some us) (s:B[i]?=some (.row q k (L.map row))) (j:L.length=n) (r:L[z]?=some y) (D:off+m<=k)
  (hs:yX (row y) off us=row y') (E:B.set i (.row q k ((L.set z y').map row))=B'):zw P o env (h.ext B T)=.ok aundef (h.ext B' T):=by
 refine s_store F u A C v ?_;simp only [aStore,G,yA,s];have e:z < L.length:=(uc.1 r).1;have a:(z+1) * k<=L.length * k:=tw k e;rw [sn] at a;rw [up ⟨trivial,trivial,by simpa using j,l,by rw [flat_len p];omega⟩,c];simp only [<- j];rw [splice_row p r hs (by rw [clean_len c,l];omega),ext_put,E]
theorem e_appR {c:Call} {x y:Operand} {t u e D:TypeId} {k' i j n:Nat} {a b q:AV} {B':List Blk} {T':List Nat} (H:o.op=.call c) (J:c.callee=.builtin .append) (hs:c.args=#[x,y]) (v:c.argTypes=#[t,u]) (I:El P t e k)
  (p:El P u D k') (E:yF env x=some a) (N:yF env y=some b) (F:tyfix P t a=.rsl (h.blks.length+i) (h.toks.length+j) k n) (r:tyfix P u b=q) (s:qq k q=some (M.map row)) (C:L.length+M.length<=yK)
  (hi:B[i]?=some (.row (h.toks.length+j) k (L.map row))) (l:L.length=n) (m:T[j]?=some n) (d:B.set i (.row (h.toks.length+j) k ((L++M).map row))=B') (f:T.set j (L++M).length=T') :
  zw P o env (h.ext B T)=.ok (.rsl (h.blks.length+i) (h.toks.length+j) k (L++M).length) (h.ext B' T'):=by
 subst l;refine s_append H J hs v I p E N F r s ?_;simp only [aAppend,uz];by_cases h0:M.length=0
 ·have:M=[]:=uP h0;subst this;simp only [tA] at d f ⊢;simp only [uV,ut];have A:B.set i (.row (h.toks.length+j) k (L.map row))=B:=by
   refine tu λz=>?_;by_cases hz:z=i
   ·subst hz;rw [uA (uc.1 hi).1];exact hi.symm
   ·rw [uK (λe=>hz e.symm)]
  have G:T.set j L.length=T:=by
   refine tu λz=>?_;by_cases hz:z=j
   ·subst hz;rw [uA (uc.1 m).1];exact m.symm
   ·rw [uK (λe=>hz e.symm)]
  rw [<- d,<- f,A,G]
 ·rw [uu h0,yA,hi];simp only;have K:(h.ext B T).toks[h.toks.length+j]?=some L.length:=by simp only [AH.ext];rw [ui (by omega),uq];exact m
  rw [up (by refine ⟨⟨?_,?_,?_⟩,?_,K,C⟩ <;> simp)];rw [ext_put];simp only [AH.ext,uO _ _ (sC _ _),uq,<- sJ,uo] at d f ⊢;rw [d,f]
end
end Go.Vv
