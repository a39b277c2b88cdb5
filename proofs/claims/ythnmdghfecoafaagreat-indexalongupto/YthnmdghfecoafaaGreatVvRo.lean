/- Mutable rows: how one begins, and how it becomes an unchanging slice. -/
import Derived.Test.YthnmdghfecoafaaGreatVvIt
import Derived.Test.YthnmdghfecoafaaGreatVvRw
import Derived.Test.YthnmdghfecoafaaGreatVvMr
set_option linter.all false
namespace Go.Vv
open Go Go.RowKit
variable {x:Operand} {B':List Blk} {T':List Nat} {n i:Nat} {t e:TypeId}
section
variable {B:Nat} {w0 w:World} {g:Gh} {h:AH}
theorem Rel.freeze (r:Rel B w0 g h w) {q i k:Nat} {es:List (List AV)} (R:h.blks[q]?=some (.row i k es)) :
  ∃g',g.le g'/\Rel B w0 g' { h.put q .dead with toks:=h.toks.set i (es.length+1) } w/\g'.δ=g.δ/\∀O v,V g (.rsl O i k es.length) v->V g' (.sl k es) v:=by
 obtain ⟨N,t,z,D,J,C,I,F⟩:=r.rowAt R
 let T:TI:=⟨es.length+1,none,true⟩
 have y:t.n < T.n:=by grind
 have E:=Gh.le_setT (g:=g) (t':=T) z y D.symm;have Q:=r.setRowG (t':=T) (nb:=.dead) z y D rfl N R trivial (λ_ _ _ e=>by cases e) (λ_ _ _ e=>by cases e) (λ_ _ e=>by cases e);rcases F with rfl | ⟨b,o,e,cs,ty,G,k2,W,k4,k5⟩
 ·refine ⟨_,E,Q,rfl,λO v m=>?_⟩;simp only [V] at m ⊢
  grind
 ·have A:∀(j:Nat) (u:TI) (l H:Nat),(g.setT i T).τ[j]?=some u->u.loc=some (b,l,H)->False:=by
   intro j u l H s K;simp only [Gh.setT] at s;by_cases hji:j=i
   ·grind
   ·rw [uR (λe=>hji e.symm)] at s;exact hji (r.tinj _ _ _ _ b _ _ s z K G)
  have r2:=Q.vow (b:=b) (f:=λj=>if o<=j/\j < o+es.length * k then cs[j]? else none)
   (λj v m=>by
    split at m
    ·rw [cell_of_row w b j cs ty (0,0) k2];exact m
    ·cases m)
   (λj c s _=>(r.sep j c i t b _ s z G).symm)
   (λj u l H s K=>(A j u l H s K).elim)
   (r.ntok z G)
  have p:=E.trans (Gh.le_vow (g.setT i T) b λj=>if o<=j/\j < o+es.length * k then cs[j]? else none);refine ⟨_,p,r2,rfl,λO v m=>?_⟩;simp only [V] at m ⊢;obtain ⟨a,c,rfl,X,U,S,Y,_,_,d⟩:=m;obtain rfl:t=S:=by simp_all
  refine ⟨a,c,rfl,X,U,?_⟩;rcases d with ⟨h0,_⟩ | ⟨b',Z,rfl,d⟩
  ·simp_all
  ·have d:=d J.symm;rw [G] at d;injection d with d;injection d with e1 d;injection d with e2 _;obtain rfl:o=Z:=by omega
   subst e1;refine .inr ⟨b,o,rfl,VE_iff.2 ⟨C,VC.ofVA (W.mono p) I λj v m=>?_⟩⟩;rw [uu] at m;split at m
   ·rename_i s;rw [uH,uC] at m;simp only [Gh.vow,Gh.setT,ur]
    simp_all
   ·cases m
end

theorem gok_now {P:Program} {B:Nat} {w0 w:World} [G:GOk P B w0] (hb:Below B w0 w):GOk P w.heap.size w :=
 ⟨World.ShapedOpen.keptBut G.sh ((hb.mono G.sz).frame (λ_=>False)) (λ_ h=>h.elim),ue _,laid_below G.lay G.sz hb⟩
def AV.scal:AV->Bool
 | .bool _ | .int _ _ | .str _=>true
 | .tup [.bool _] | .tup [.int _ _] | .tup [.int _ _,.bool _]=>true
 | _=>false
theorem V.scal {g g':Gh} {a:AV} {v:Value} (hs:a.scal=true) (b:V g a v):V g' a v:=by
 unfold AV.scal at hs;split at hs <;> first | (simpa only [V,VL] using b) | cases hs
def sealed:Option BK->Bool
 | some (.gar _) | some (.shut _)=>true
 | _=>false
def rdN (d:Option BK):Option BK->Option BK
 | some (.own _ _)=>d
 | some x=>some x
 | none=>d
theorem rdN_keep {d:Option BK} {x:BK} (a:∀i q,x ≠ .own i q):rdN d (some x)=some x:=by
 cases x <;> first | rfl | exact absurd rfl (a _ _)
def gR (B:Nat) (w:World) (g:Gh):Gh :=
 { Φ:=λb j=>if b < w.heap.size/\sealed (g.N b)=false then w.cell? ⟨b,j,none⟩ else none,σ:=[],τ:=[],δ:=[],N:=λb=>rdN (if B<=b then (w.heap[b]?).map .frz else none) (g.N b),O:=g.O }
theorem Rel.unsealed {B:Nat} {w0 w:World} {g:Gh} {h:AH} (r:Rel B w0 g h w) {b j:Nat} {v:Value} (e:g.Φ b j=some v):sealed (g.N b)=false:=by
 rcases hx:g.N b with _ | x
 ·rfl
 ·have:=r.nb b x hx;cases x with
  | gar s=>rw [this.2.2.2 j] at e;cases e
  | shut o=>rw [this.2.2.2 j] at e;cases e
  | _=>rfl
theorem lv_now {B:Nat} {w0 w:World} {g:Gh} {h:AH} (r:Rel B w0 g h w):(g.cut 0 0).lv (gR B w g) :=
 ⟨λb j v e=>by
     have e:g.Φ b j=some v:=e;simp only [gR,uG (And.intro (r.phi_lt e) (r.unsealed e))];exact r.phi b j v e,λi c e=>by simp [Gh.cut] at e,λi t e=>by simp [Gh.cut] at e,λb x e=>by
     have a:g.N b=some x:=wL e;have e:qC 0 (g.N b)=some x:=e;have d:∀i q,x ≠ .own i q:=by
       rintro i q rfl
       rw [a] at e;simp [qC] at e
     simp only [gR,a,rdN_keep d],λ_ e=>e⟩
theorem Rel.after {B:Nat} {w0 w w':World} {g K:Gh} {h f:AH} (r:Rel B w0 g h w) (u:(gR B w g).le K) (z:Rel B w0 K f w'):Rel B w0 g h w':=by
 have a:∀b,b < w.heap.size->(g.N b=none \/ (∃i q,g.N b=some (.own i q)) \/ ∃o,g.N b=some (.frz o))->w'.heap[b]?=w.heap[b]?:=by
  intro b m C;by_cases hB:b < B
  ·exact (z.below.block b hB).trans (r.below.block b hB).symm
  ·have O:rdN (if B<=b then (w.heap[b]?).map BK.frz else none) (g.N b)=(if B<=b then (w.heap[b]?).map BK.frz else none)->w'.heap[b]?=w.heap[b]?:=λR=>by
    have d:(gR B w g).N b=some (.frz w.heap[b]):=by
     show rdN _ (g.N b)=_;rw [R,uG (Nat.not_lt.1 hB),uM m];rfl
    have:=z.nb b _ (u.new _ _ d);rw [this.2.2,uM m]
   rcases C with C | ⟨i,q,C⟩ | ⟨o,C⟩
   ·exact O (by rw [C];rfl)
   ·exact O (by rw [C];rfl)
   ·have d:(gR B w g).N b=some (.frz o):=by simp only [gR,C,rdN]
    exact (z.nb b _ (u.new _ _ d)).2.2.trans (r.nb b _ C).2.2.symm
 have I:w.heap.size<=w'.heap.size:=by
  rcases ru w.heap.size with h0 | h0
  ·omega
  ·by_cases hB:w.heap.size - 1 < B
   ·have:=z.bsz;omega
   ·have:∃x,(gR B w g).N (w.heap.size - 1)=some x:=by
     have hd:(if B<=w.heap.size - 1 then (w.heap[w.heap.size - 1]?).map BK.frz else none)=some (.frz w.heap[w.heap.size - 1]):=by
      rw [uG (by omega),uM (by omega)];rfl
     simp only [gR];rcases G:g.N (w.heap.size - 1) with _ | x
     ·exact ⟨_,hd⟩
     ·cases x <;> first | exact ⟨_,rfl⟩ | exact ⟨_,hd⟩
    obtain ⟨x,G⟩:=this;have:=z.nlt (u.new _ _ G);omega
 have F:∀(i:Nat) (t:TI) (b:Nat) (y:Nat×Nat),g.τ[i]?=some t->t.loc=some (b,y)->w'.heap[b]?=w.heap[b]?:=λi t b y D A=>by
  exact a b ((r.tok i t D).2 b y.1 y.2 A).lt (.inl (r.ntok D A))
 refine ⟨z.below,z.bsz,λb j v e=>?_,r.slen,λi c k E H=>?_,r.tlen,λi t D=>?_,r.sinj,r.tinj,r.sep,λc E=>?_,λi k hi H=>?_,r.rinj,λb x m=>?_,λb m=>⟨th (r.ob b m).1 I,(r.ob b m).2⟩,r.oa⟩
 ·have d:(gR B w g).Φ b j=some v:=by simp only [gR,uG (And.intro (r.phi_lt e) (r.unsealed e))];exact r.phi b j v e
  exact z.phi b j v (u.phi _ _ _ d)
 ·obtain ⟨d,f,J,Q⟩:=r.blk i c k E H;exact ⟨d,by omega,J.mono (Gh.le.refl g) (a c f (.inl (r.nsig E))),Q⟩
 ·obtain ⟨d,f⟩:=r.tok i t D;exact ⟨d,λb l e A=>(f b l e A).mono I (F i t b _ D A) λ_ _=>rfl⟩
 ·obtain ⟨d,f,J⟩:=r.dfr c E;refine ⟨d,(a c (r.dfr_lt E) ?_).trans f,J⟩;rcases G:g.N c with _ | x
  ·simp_all
  ·have:=r.nb c x G;cases x <;> exact absurd E this.2.1.2.1
 ·exact (r.row i k hi H).mono (Gh.le.refl g) ⟨λ_ _ h=>h,λb q m=>a b (r.nlt m) (.inr (.inl ⟨_,_,m⟩))⟩ (λ_ _ h _=>h) (λi t b x D _ A=>⟨F i t b x D A,λ_=>rfl⟩)
 ·have p:=r.nb b x m;by_cases hy:∃i q,x=.own i q
  ·obtain ⟨i,q,rfl⟩:=hy;exact p.mono (ue _) I λ_ A S=>⟨a b A (.inr (.inl ⟨i,q,m⟩)),S,λh=>h⟩
  have d:(gR B w g).N b=some x:=by simp only [gR,m,rdN_keep λi q e=>hy ⟨i,q,e⟩]
  have f:=z.nb b x (u.new _ _ d);cases x with
  | own i q=>exact absurd ⟨i,q,rfl⟩ hy
  | new s=>exact ⟨p.1,p.2.1,f.2.2⟩
  | gar s=>exact ⟨p.1,p.2.1,f.2.2.1,p.2.2.2⟩
  | shut o=>exact ⟨p.1,p.2.1,f.2.2.1,p.2.2.2⟩
  | frz o=>exact ⟨p.1,p.2.1,f.2.2⟩

theorem RdA.soundRow {B:Nat} {w0 w:World} {g:Gh} {h:AH} (r:Rel B w0 g h w) {id t k n:Nat} {es:List (List AV)} (q:h.blk id=some (.row t k es)) (K:n=es.length) {v:Value} (f:V g (.rsl id t k n) v):V (gR B w g) (.sl k es) v:=by
 subst K;obtain ⟨_,O,z,H,y,m,l,p⟩:=r.rowAt q;simp only [V] at f ⊢;obtain ⟨a,c,rfl,G,E,D,I,_,_,d⟩:=f;obtain rfl:O=D:=by simp_all
 refine ⟨a,c,rfl,G,E,?_⟩;rcases d with ⟨h0,_⟩ | ⟨R,J,rfl,d⟩
 ·simp_all
 ·have d:=d y.symm;rcases p with rfl | ⟨b,o,e,cs,ty,A,C,F,W,S⟩
  ·simp_all
  ·rw [A] at d;injection d with d;injection d with Q d;injection d with U _;obtain rfl:o=J:=by omega
   subst Q;have q:b < w.heap.size:=(uI.1 C).1;have s:VA (gR B w g) es.flatten ((cs.toList.drop o).take (es.length * k)):=VA.monoV (lv_now r) _ _ (VA.cut _ _ (lowL_of_pure l) F);refine .inr ⟨b,o,rfl,VE_iff.2 ⟨m,VC.ofVA s l λj v f=>?_⟩⟩;rw [uu] at f;split at f
   ·rw [uH,uC] at f;have u:sealed (g.N b)=false:=by rw [r.ntok z A];rfl
    simp only [gR,uG (And.intro q u)];rw [cell_of_row w b (o+j) cs ty (0,0) C];exact f
   ·cases f
mutual
inductive RdA (h:AH):AV->AV->Prop
 | low (a:AV) (hl:a.low 0 0=true):RdA h a a
 | row (id t k n:Nat) (es:List (List AV)) (hb:h.blk id=some (.row t k es)) (hn:n=es.length):RdA h (.rsl id t k n) (.sl k es)
 | osl (q:Option Nat) (k:Nat) (es:List (List AV)) (hl:(AV.sl k es).low 0 0=true):RdA h (.osl q k es) (.sl k es)
 | agg {cs bs:List AV} (x:RdL h cs bs) (ho:bs.all AV.one=true):RdA h (.agg cs) (.agg bs)
inductive RdL (h:AH):List AV->List AV->Prop
 | nil:RdL h [] []
 | cons {a b:AV} {xs bs:List AV} (x:RdA h a b) (y:RdL h xs bs):RdL h (a::xs) (b::bs)
end
theorem V.low0 {B:Nat} {w0 w:World} {g:Gh} {h:AH} (r:Rel B w0 g h w) {a:AV} {v:Value} (b:a.low 0 0=true) (c:V g a v):V (gR B w g) a v:=V.monoV (lv_now r) _ _ (V.cut _ _ b c)
mutual
theorem RdA.sound {B:Nat} {w0 w:World} {g:Gh} {h:AH} (r:Rel B w0 g h w):∀{a b:AV} {v:Value},RdA h a b->V g a v->V (gR B w g) b v
 | _,_,_,.low _ hl,hv=>V.low0 r hl hv
 | _,_,_,.row _ _ _ _ _ hb hn,hv=>RdA.soundRow r hb hn hv
 | _,_,_,.osl q k es hl,hv=>V.low0 r hl (leV.osl q k es g _ hv)
 | _,_,_,.agg x ho,hv=>by
  simp only [V] at hv ⊢;obtain ⟨vs,rfl,c⟩:=hv;exact ⟨vs,rfl,VA.mk (RdL.sound r x c.toVL) ho⟩
theorem RdL.sound {B:Nat} {w0 w:World} {g:Gh} {h:AH} (r:Rel B w0 g h w):∀{xs bs:List AV} {vs:List Value},RdL h xs bs->VL g xs vs->VL (gR B w g) bs vs
 | _,_,_,.nil,hv=>by simpa only [VL] using hv
 | _,_,_,.cons x y,hv=>by
  simp only [VL] at hv ⊢;obtain ⟨v,s,rfl,c,d⟩:=hv;exact ⟨v,s,rfl,RdA.sound r x c,RdL.sound r y d⟩
end
theorem V.thaw {g:Gh} {k:Nat} {v:Value} {q:Nat} (d:V g (.osl none k []) v):V ((g.addT ⟨0,none,true⟩).addS none) (.rsl q g.τ.length k 0) v:=by
 simp only [V] at d ⊢;obtain ⟨a,c,rfl,j,f,_,b⟩:=d;have b:c=0:=b;refine ⟨a,c,rfl,j,f,⟨0,none,true⟩,?_,rfl,ue _,.inl ⟨rfl,b⟩⟩;simp [Gh.addT,Gh.addS]
theorem rowOk_nil {g:Gh} {w:World} {k:Nat}:RowOk ((g.addT ⟨0,none,true⟩).addS none) w g.τ.length k [] :=
 ⟨⟨0,none,true⟩,by simp [Gh.addT,Gh.addS],rfl,rfl,by simp,by simp,.inl rfl⟩
theorem swk.wk {hd h h':AH} {env a:List AV} (k:swk env h a h'):wk hd env h a h':=λB w0 w _ l g vs _ c r j=>by
 obtain ⟨g',b,f,d⟩:=k B w0 w g vs r j;exact ⟨g',c.trans b,f,d,b.del⟩
theorem vU {h:AH} {env b:List AV} {B:List Blk} {T:List Nat} {d k m:Nat} (C:yk env (.tmp d)=some (.osl none k [])) (z:B.length=n) (A:T.length=m)
  (s:xO (some d) env (.rsl (h.blks.length+n) (h.toks.length+m) k 0)=some b) (D:B++[.row (h.toks.length+m) k []]=B') (y:T++[0]=T') :
  swk env (h.ext B T) b (h.ext B' T'):=λ_ _ w g vs r u=>by
 subst z A D y;simp only [xO,uf] at s;subst s;have c:g.τ.length=h.toks.length+T.length:=by rw [r.tlen];simp [AH.ext]
 have f:=(g.le_addT ⟨0,none,true⟩).trans (Gh.le_addS _ none);have q:=r.newRowT ⟨0,none,true⟩ k [] (λ_ _ _ h=>by cases h) (λ_ _ h=>by cases h) rowOk_nil;have e:(({ (h.ext B T) with toks:=(h.ext B T).toks++[0] }:AH).new (.row g.τ.length k []))=h.ext (B++[.row (h.toks.length+T.length) k []]) (T++[0]):=by
  rw [c];simp [AH.ext,AH.new,uy]
 rw [e] at q;refine ⟨_,f,q,VL.setE (VL.mono f _ _ u) d _ λv l=>?_⟩;obtain ⟨a,j,E⟩:=u.getR _ _ l;have p:env[d]?=some (.osl none k []):=C;rw [p] at j;injection j with j;subst j;rw [<- c];exact E.thaw

mutual
inductive FzA (i k:Nat) (es:List (List AV)):AV->AV->Prop
 | same (a:AV):FzA i k es a a
 | hit (q:Nat):FzA i k es (.rsl q i k es.length) (.sl k es)
 | hit2 (q n:Nat) (hn:n=es.length):FzA i k es (.rsl q i k n) (.sl k es)
 | agg {cs bs:List AV} (x:FzL i k es cs bs) (ho:bs.all AV.one=true):FzA i k es (.agg cs) (.agg bs)
 | tup {cs bs:List AV} (x:FzL i k es cs bs):FzA i k es (.tup cs) (.tup bs)
inductive FzL (i k:Nat) (es:List (List AV)):List AV->List AV->Prop
 | refl (xs:List AV):FzL i k es xs xs
 | cons {a b:AV} {xs bs:List AV} (x:FzA i k es a b) (y:FzL i k es xs bs):FzL i k es (a::xs) (b::bs)
end
theorem FzL.s {k:Nat} {es:List (List AV)} {a:AV} {xs bs:List AV} (y:FzL i k es xs bs):FzL i k es (a::xs) (a::bs):=.cons (.same _) y
theorem FzL.s4 {k:Nat} {es:List (List AV)} {a b c d:AV} {xs bs:List AV} (y:FzL i k es xs bs):FzL i k es (a::b::c::d::xs) (a::b::c::d::bs):=.s (.s (.s (.s y)))
theorem FzL.s16 {k:Nat} {es:List (List AV)} {a b c d e f g h j l m n o p q r:AV} {xs bs:List AV} (y:FzL i k es xs bs):FzL i k es (a::b::c::d::e::f::g::h::j::l::m::n::o::p::q::r::xs) (a::b::c::d::e::f::g::h::j::l::m::n::o::p::q::r::bs):=.s4 (.s4 (.s4 (.s4 y)))
mutual
theorem FzA.sound {g g':Gh} (c:g.le g') {i k:Nat} {es:List (List AV)} (d:∀q v,V g (.rsl q i k es.length) v->V g' (.sl k es) v):∀{a b:AV} {v:Value},FzA i k es a b->V g a v->V g' b v
 | _,_,_,.same _,hv=>hv.mono c
 | _,_,_,.hit q,hv=>d q _ hv
 | _,_,_,.hit2 q n hn,hv=>by grind
 | _,_,_,.agg x ho,hv=>by
  simp only [V] at hv ⊢;obtain ⟨vs,rfl,f⟩:=hv;exact ⟨vs,rfl,VA.mk (FzL.sound c d x f.toVL) ho⟩
 | _,_,_,.tup x,hv=>by
  simp only [V] at hv ⊢;obtain ⟨vs,rfl,f⟩:=hv;exact ⟨vs,rfl,FzL.sound c d x f⟩
theorem FzL.sound {g g':Gh} (c:g.le g') {i k:Nat} {es:List (List AV)} (d:∀q v,V g (.rsl q i k es.length) v->V g' (.sl k es) v):∀{xs bs:List AV} {vs:List Value},FzL i k es xs bs->VL g xs vs->VL g' bs vs
 | _,_,_,.refl _,hv=>hv.mono c
 | _,_,_,.cons x y,hv=>by
  simp only [VL] at hv ⊢;obtain ⟨v,s,rfl,f,j⟩:=hv;exact ⟨v,s,rfl,FzA.sound c d x f,FzL.sound c d y j⟩
end
theorem vl {h:AH} {env a:List AV} {B:List Blk} {T:List Nat} {j m k:Nat} {es:List (List AV)} (f:B[j]?=some (.row (h.toks.length+m) k es)) (q:FzL (h.toks.length+m) k es env a)
  (v:B.set j .dead=B') (l:T.set m (es.length+1)=T'):swk env (h.ext B T) a (h.ext B' T'):=λ_ _ w g vs r u=>by
 subst v l;have c:(h.ext B T).blks[h.blks.length+j]?=some (.row (h.toks.length+m) k es):=by
  simp only [AH.ext];rw [un (by omega),uQ];exact f
 obtain ⟨g',b,d,p,s⟩:=r.freeze c;have e:({ (h.ext B T).put (h.blks.length+j) .dead with toks:=(h.ext B T).toks.set (h.toks.length+m) (es.length+1) }:AH)=h.ext (B.set j .dead) (T.set m (es.length+1)):=by
  simp only [AH.ext,AH.put,AH.mk.injEq]
  simp_all
 rw [e] at d;exact ⟨g',b,d,q.sound b s u⟩

section
variable {α:Type} {row:α->List AV} {L M:List α} {k:Nat}
theorem flat_len (a:∀x,(row x).length=k):∀L:List α,(L.map row).flatten.length=L.length * k
 | []=>by simp
 | x::t=>by simp only [uw,uY,uq,ul,flat_len a t,a x,so];omega
theorem flat_drop (a:∀x,(row x).length=k):∀(L:List α) (i:Nat),(L.map row).flatten.drop (i * k)=((L.drop i).map row).flatten
 | [],i=>by simp
 | x::t,0=>by simp
 | x::t,i+1=>by
  rw [uw,uY,so,pP,<- tG,rN (a x),flat_drop a t i];rfl
theorem flat_take (a:∀x,(row x).length=k):∀(L:List α) (i:Nat),(L.map row).flatten.take (i * k)=((L.take i).map row).flatten
 | [],i=>by simp
 | x::t,0=>by simp
 | x::t,i+1=>by
  rw [uw,uY,so,pP,tN,uO (by simp_all),a x,uQ,flat_take a t i];rfl
theorem drop_at {y:α} (a:L[i]?=some y):L.drop i=y::L.drop (i+1):=by
 obtain ⟨h,rfl⟩:=ua.1 a
 simp_all
theorem ldC_row (b:∀x,(row x).length=k) {d:Bool} {m i off:Nat} {y:α} {v:AV} (f:L[i]?=some y) (a:ldC d m off (row y)=some v) (l:0 < m):ldC d m (i * k+off) (L.map row).flatten=some v:=by
 have e:(L.map row).flatten.drop (i * k)=row y++((L.drop (i+1)).map row).flatten:=by rw [flat_drop b,drop_at f];rfl
 have hi:i < L.length:=(ua.1 f).1;have j:(i+1) * k<=L.length * k:=u9 k hi;rw [so] at j;unfold ldC at a ⊢;cases d with
 | true =>
  simp only [ur] at a ⊢;split at a
  ·rename_i c;rw [b y] at c;rw [uG (by rw [flat_len b];omega),<- tG,e,se (by grind),u2 (by grind)];exact a
  ·cases a
 | false =>
  simp only [um,uJ] at a ⊢;have p:off < (row y).length:=(ua.1 a).1;have:(L.map row).flatten[i * k+off]?=((L.map row).flatten.drop (i * k))[off]?:=by grind
  grind
theorem rows_map (a:∀x,(row x).length=k):∀L:List α,rows k L.length (L.map row).flatten=L.map row
 | []=>rfl
 | x::t=>by
  simp only [ul,rows,uw,uY];rw [pH (a x),rN (a x),rows_map a t]
theorem splice_row (a:∀x,(row x).length=k) {i off:Nat} {y y':α} {vs:List AV} (c:L[i]?=some y) (hs:yP (row y) off vs=row y') (l:off+vs.length<=k) :
  rows k L.length (yP (L.map row).flatten (i * k+off) vs)=(L.set i y').map row:=by
 have hi:i < L.length:=(ua.1 c).1;have f:(L.map row).flatten=((L.take i).map row).flatten++(row y++((L.drop (i+1)).map row).flatten):=by
  conv=>lhs;rw [<- List.take_append_drop i L,drop_at c]
  simp
 have b:((L.take i).map row).flatten.length=i * k:=by rw [flat_len a,tI,sO (by omega)]
 have j:yP (L.map row).flatten (i * k+off) vs=((L.set i y').map row).flatten:=by
  rw [List.set_eq_take_append_cons_drop,uG hi];simp only [si,uw,tY,uY,<- hs];rw [f];unfold yP;have d:=a y;rw [tN,b,uO (by omega),uQ,u2 (by omega)];rw [t8,s9,b,tq (by omega),uQ,uV,se (by omega)]
  simp_all
 rw [j];have:=rows_map a (L.set i y')
 rwa [rO] at this
variable {P:Program} {o:Oper} {env:List AV} {h:AH} {B:List Blk} {T:List Nat}
theorem e_idxR {i:Operand} {id q:Nat} {d:IntKind} {z:Int} (b:o.op=.indexAddr t x i) (c:El P t e k) (f:yk env x=some (.rsl id q k n)) (hi:yk env i=some (.int d z)) (a:0<=z/\z < n) :
  zB P o env h=.ok (.rptr id q k n (z.toNat * k+0)) h:=s_indexAddr b c f hi (by simp only [aIndexAddr];rw [uG ⟨trivial,a.1,a.2⟩];rfl)
theorem e_ldR (f:∀x,(row x).length=k) {t:TypeId} {d:TypeDesc} {m i q n z off:Nat} {x:Operand} {y:α} {v a:AV} (l:o.op=.load t x) (b:Ty P t d m) (s:0 < m) (r:yk env x=some (.rptr (h.blks.length+i) q k n (z * k+off)))
  (c:B[i]?=some (.row q k (L.map row))) (A:L.length=n) (p:L[z]?=some y) (u:ldC (yq d) m off (row y)=some v) (j:tyfix P t v=a):zB P o env (h.ext B T)=.ok a (h.ext B T):=by
 refine s_load l b r ?_ j;simp only [aLoad,yC,c];rw [uG ⟨trivial,trivial,by simp_all⟩];exact ldC_row f p u s
theorem e_stR (l:∀x,(row x).length=k) {t:TypeId} {d:TypeDesc} {m i q n z off:Nat} {x w:Operand} {y y':α} {b j:AV} {vs us:List AV} {B':List Blk} (C:o.op=.store t x w) (s:Ty P t d m) (D:yk env x=some (.rptr (h.blks.length+i) q k n (z * k+off)))
  (v:yk env w=some b) (A:tyfix P t b=j) (H:j.cells?=some vs) (p:vs.length=m) (c:xF vs=some us) (u:B[i]?=some (.row q k (L.map row))) (E:L.length=n) (r:L[z]?=some y) (F:off+m<=k)
  (hs:yP (row y) off us=row y') (G:B.set i (.row q k ((L.set z y').map row))=B'):zB P o env (h.ext B T)=.ok aundef (h.ext B' T):=by
 refine s_store C s D v A ?_;simp only [aStore,H,yC,u];have f:z < L.length:=(ua.1 r).1;have a:(z+1) * k<=L.length * k:=u9 k f;rw [so] at a;rw [uG ⟨trivial,trivial,by simp_all,p,by rw [flat_len l];omega⟩,c];simp only [<- E];rw [splice_row l r hs (by rw [clean_len c,p];omega),wi,G]
theorem e_appR {c:Call} {y:Operand} {u s:TypeId} {k' j:Nat} {a b p:AV} (v:o.op=.call c) (H:c.callee=.builtin .append) (hs:c.args=#[x,y]) (q:c.argTypes=#[t,u]) (C:El P t e k)
  (f:El P u s k') (D:yk env x=some a) (A:yk env y=some b) (G:tyfix P t a=.rsl (h.blks.length+i) (h.toks.length+j) k n) (r:tyfix P u b=p) (E:aNews k p=some (M.map row)) (K:L.length+M.length<=xe)
  (hi:B[i]?=some (.row (h.toks.length+j) k (L.map row))) (l:L.length=n) (F:T[j]?=some n) (m:B.set i (.row (h.toks.length+j) k ((L++M).map row))=B') (d:T.set j (L++M).length=T') :
  zB P o env (h.ext B T)=.ok (.rsl (h.blks.length+i) (h.toks.length+j) k (L++M).length) (h.ext B' T'):=by
 subst l;refine s_append v H hs q C f D A G r E ?_;simp only [aAppend,ut];by_cases h0:M.length=0
 ·have:M=[]:=uD h0;subst this;simp only [tC] at m d ⊢;simp only [uE,ur];have N:B.set i (.row (h.toks.length+j) k (L.map row))=B:=by
   refine uT λz=>?_
   grind
  have J:T.set j L.length=T:=by
   refine uT λz=>?_
   grind
  simp_all
 ·rw [te h0,yC,hi];simp only;have I:(h.ext B T).toks[h.toks.length+j]?=some L.length:=by simp only [AH.ext];rw [un (by omega),uQ];exact F
  rw [uG (by simp_all)];rw [wi];simp only [AH.ext,rH _ _ (tV _ _),uQ,<- si,uq] at m d ⊢;rw [m,d]
end
end Go.Vv
namespace Go.Vv
open Go Go.RowKit
variable {env' a5:List AV} {j m n i:Nat} {f:FuncId} {K:AV->AH->Prop} {v:AV} {B1:List Blk} {T1:List Nat} {t e:TypeId} {x y:Operand} {kd:IntKind} {z:Int}

theorem FzL.ones {i k:Nat} {es:List (List AV)}:∀{xs bs:List AV},FzL i k es xs bs->xs.all AV.one=true->bs.all AV.one=true
 | _,_,.refl _,h=>h
 | _,_,.cons x y,h=>by
  simp only [uZ,ud] at h ⊢;refine ⟨?_,y.ones h.2⟩;cases x with
  | same=>exact h.1
  | hit=>rfl
  | hit2=>rfl
  | agg=>simp [AV.one] at h
  | tup=>simp [AV.one] at h
theorem swk_freezeB {h:AH} {env:List AV} {B B':List Blk} {T T':List Nat} {jb k:Nat} {es:List (List AV)} {cs cs':List AV} (H:B[j]?=some (.row (h.toks.length+m) k es)) (O:FzL (h.toks.length+m) k es env env')
  (F:B[jb]?=some (.cells cs)) (d:FzL (h.toks.length+m) k es cs cs') (R:(B.set j .dead).set jb (.cells cs')=B') (J:T.set m (es.length+1)=T'):swk env (h.ext B T) env' (h.ext B' T'):=λ_ _ w g vs r Q=>by
 subst R J;have u:(h.ext B T).blks[h.blks.length+j]?=some (.row (h.toks.length+m) k es):=by
  simp only [AH.ext];rw [un (by omega),uQ];exact H
 have b:(h.ext B T).blks[h.blks.length+jb]?=some (.cells cs):=by
  simp only [AH.ext];rw [un (by omega),uQ];exact F
 have p:j ≠ jb:=by grind
 obtain ⟨g',a,A,M,C⟩:=r.freeze u;have e:({ (h.ext B T).put (h.blks.length+j) .dead with toks:=(h.ext B T).toks.set (h.toks.length+m) (es.length+1) }:AH)=h.ext (B.set j .dead) (T.set m (es.length+1)):=by
  simp only [AH.ext,AH.put,AH.mk.injEq]
  simp_all
 rw [e] at A;have q:h.blks.length+jb < g.σ.length:=by rw [r.slen];exact (ua.1 b).1
 obtain ⟨x,s⟩:∃x,g.σ[h.blks.length+jb]?=some x:=⟨_,ui q⟩
 cases x with
 | none=>exact (r.row _ _ s b).elim
 | some c =>
  obtain ⟨_,_,⟨us,t,G,E⟩,_⟩:=r.blk _ c _ s b;have I:(h.ext (B.set j .dead) (T.set m (es.length+1))).blks[h.blks.length+jb]?=some (.cells cs):=by
   simp only [AH.ext];rw [un (by omega),uQ,uR p];exact F
  have l:=a.sig _ _ s;have D:=A.putObj (k':=.cells cs') l I (by simp) rfl rfl rfl rfl (λ_ _=>rfl) ⟨us,t,G,VA.mk (d.sound a C E.toVL) (d.ones E.ones)⟩;have N:(h.ext (B.set j .dead) (T.set m (es.length+1))).put (h.blks.length+jb) (.cells cs')=h.ext ((B.set j .dead).set jb (.cells cs')) (T.set m (es.length+1)):=by
   simp only [AH.ext,AH.put,AH.mk.injEq,tT]
   simp_all
  rw [N] at D;exact ⟨g',a,D,O.sound a C Q⟩
theorem zM {P : Program} {fn : Func} {c : Code} (hf : P.funcs[f]? = some fn) (hb : fn.body = some c) (hname : (fn.name == "runtime.NumGoroutine") = false) {args : List AV} {h : AH} {K : AV → AH → Prop} {env : List AV}
  (he:args++List.replicate (fn.ntmps - args.length) aundef=env) (hw:vB P c (qU P fn h K) env h):Spec P f args h K:=spec_of_body hf hb hname (by simp_all)
theorem fin_extR {h:AH} {B0 B L:List Blk} {T0 T M:List Nat} {a:AV} (l:B0++L=B) (g:T0++M=T) (c:leV v a) (d:a.low (h.ext B0 T0).blks.length (h.ext B0 T0).toks.length=true) (b:K a (h.ext B0 T0)):finK (h.ext B0 T0) K v (h.ext B T):=by
 subst l g;rw [<- xE];exact fin_ext c d b
theorem vt {h0 h:AH} (a:K v h):finK h0 K v h:=wa (wk.refl _ _ _) a
theorem fin_row0 {h:AH} {k:Nat} (a:K (.rsl h.blks.length h.toks.length k 0) (h.ext [.row h.toks.length k []] [0])):finK h K (.osl none k []) (h.ext [] []) :=
 wa (vU (env:=[.osl none k []]) (d:=0) rfl rfl rfl rfl rfl rfl).wk a
theorem row_read {P:Program} {h:AH} {B:List Blk} {T:List Nat} {b:Blk} (s:Spec P f a5 ((h.ext B1 T1).ext [b] [n]) (λa hh=>a=v/\hh=(h.ext B1 T1).ext [b] [n])) (d:B1++[b]=B) (c:T1++[n]=T) :
  Spec P f a5 (h.ext B T) (λa hh=>a=v/\hh=h.ext B T):=by
 subst d c;rw [xE] at s;exact s
def TurnK (h:AH) (bl tl k m:Nat) (R:List (List AV)) (rr:AV) (hh:AH):Prop:=rr=.rsl (bl+1) (tl+1) k m/\∃n0,hh=h.ext [.dead,.row (tl+1) k R] [n0,m]
theorem ops_turn {P:Program} {a:Array Oper} {Q:List AV->AH->Prop} {o:Oper} {rest:List Oper} {env:List AV} {h:AH} {B B':List Blk} {T:List Nat} {args:List AV} {b:Blk} {k:Nat} {R:List (List AV)} (g:aG a o env=some true) (s:zB P o env (h.ext B T)=.call f args)
  (hs:Spec P f args ((h.ext B1 T1).ext [b] [n]) (TurnK (h.ext B1 T1) (h.blks.length+j) (h.toks.length+i) k m R)) (u:B1++[b]=B) (l:T1++[n]=T)
  (hd:xO o.dst env (.rsl (h.blks.length+(j+1)) (h.toks.length+(i+1)) k m)=some env') (c:B1++[.dead,.row (h.toks.length+(i+1)) k R]=B') (w:∀d,zJ P a Q rest env' (h.ext B' (T1++[d,m]))):zJ P a Q (o::rest) env (h.ext B T):=by
 subst u l c;rw [xE] at hs;refine ops_call g s hs λr h' ⟨q,d,p⟩=>?_;subst q;subst p;rw [xE];rw [yQ (v:=.rsl (h.blks.length+j+1) (h.toks.length+i+1) k m) (by omega)]
 grind
theorem fin_turn0 {h0 h:AH} {α:Type} {row:α->List AV} {L:List α} {k:Nat} (u:K (.rsl (h.blks.length+1) (h.toks.length+1) k L.length) (h.ext [.dead,.row (h.toks.length+1) k (L.map row)] [L.length+1,L.length])) :
  finK h0 K (.rsl (h.blks.length+0) (h.toks.length+0) k L.length) (h.ext [.row (h.toks.length+0) k (L.map row)] [L.length]):=by
 refine wa (swk.wk λB w0 w g vs r l=>?_) u;simp only [VL] at l;obtain ⟨v,s,rfl,p,rfl⟩:=l;have q:(h.ext [.row (h.toks.length+0) k (L.map row)] [L.length]).blk (h.blks.length+0)=some (.row (h.toks.length+0) k (L.map row)):=by rw [yC];rfl
 have d:=p;simp only [V] at d;obtain ⟨a,c,rfl,_⟩:=d;have b:(L.map row).length=L.length:=ut ..;obtain ⟨g',A,C,E⟩:=r.shrink (n:=L.length) (a':=a) q (by omega) (.inl rfl) (by rw [b];exact p);refine ⟨g',A,?_,VL.cons ?_ (by simp [VL])⟩
 ·have e:(h.ext [.row (h.toks.length+0) k (L.map row)] [L.length]).shr (h.blks.length+0) (h.toks.length+0) k L.length (L.map row)=h.ext [.dead,.row (h.toks.length+1) k (L.map row)] [L.length+1,L.length]:=by
   simp only [AH.shr,AH.ext,AH.put,AH.new,b,AH.mk.injEq,uq,rG,tB]
   grind
  simp_all
 ·have F:(h.ext [Blk.row (h.toks.length+0) k (L.map row)] [L.length]).blks.length=h.blks.length+1:=by simp [AH.ext]
  have D:(h.ext [Blk.row (h.toks.length+0) k (L.map row)] [L.length]).toks.length=h.toks.length+1:=by simp [AH.ext]
  simp_all
def NewK (h:AH) (k m:Nat) (R:List (List AV)) (rr:AV) (hh:AH):Prop:=rr=.rsl h.blks.length h.toks.length k m/\hh=h.ext [.row h.toks.length k R] [m]
theorem row_new {P:Program} {h:AH} {B B':List Blk} {T T':List Nat} {k:Nat} {R:List (List AV)} (s:Spec P f a5 (h.ext B T) (NewK (h.ext B T) k m R)) (b:B.length=j) (hi:T.length=i) (g:B++[.row (h.toks.length+i) k R]=B') (d:T++[m]=T') :
  Spec P f a5 (h.ext B T) (λl hh=>l=.rsl (h.blks.length+j) (h.toks.length+i) k m/\hh=h.ext B' T'):=by
 refine s.mono ?_
 rintro r h' ⟨rfl,rfl⟩
 subst b hi g d;have c:(h.ext B T).blks.length=h.blks.length+B.length:=by simp [AH.ext]
 have a:(h.ext B T).toks.length=h.toks.length+T.length:=by simp [AH.ext]
 exact ⟨by rw [c,a],by rw [xE,a]⟩
theorem clr_len {α:Type} {L:List α} {d:α} (h:L.length=n) (a:m<=n):(L.take m++List.replicate (n - m) d).length=n:=by
 simp;omega
section
variable {α:Type} {row:α->List AV} {L:List α} {k:Nat} {P:Program} {o:Oper} {env:List AV} {h:AH} {B B':List Blk} {T T':List Nat}
theorem e_sufR {id q:Nat} (b:o.op=.slice t x (some y) none none) (a:El P t e k) (r:yk env x=some (.rsl id q k n)) (c:yk env y=some (.int kd z)) (s:0<=z/\z<=n) :
  xT P o env h=some [(.rsuf id q k n z.toNat,h)]:=by
 obtain ⟨l,d⟩:=zS r;obtain ⟨p,g⟩:=zS c;obtain ⟨i,hi,hs,_⟩:=a.i;simp only [xT,b,l,d,p,g,a.u,hi,hs,uW,ur]
 simp_all
theorem e_clrR (a:∀x,(row x).length=k) {d:α} {t e:TypeId} {x:Operand} {c:Call} {i q n m:Nat} {z:List AV} (E:o.op=.call c) (M:c.callee=.builtin .clear) (I:c.args=#[x]) (p:c.argTypes=#[t]) (s:El P t e k) (D:xQ P e=some z) (b:xF z=some (row d))
  (F:yk env x=some (.rsuf (h.blks.length+i) q k n m)) (A:B[i]?=some (.row q k (L.map row))) (G:L.length=n) (O:m<=n) (J:B.set i (.row q k ((L.take m++List.replicate (n - m) d).map row))=B') :
  xT P o env (h.ext B T)=some [(.tup [],h.ext B' T)]:=by
 obtain ⟨C,w⟩:=zS F;obtain ⟨_,_,_,_,g,_⟩:=s.i;subst G J;have l:z.length=k:=by rw [<- clean_len b,a d]
 simp only [xT,E,M,I,p,C,w,ur,s.u,D,yC,A];rw [uG ⟨⟨trivial,trivial,by simp⟩,l,g⟩,b];simp only [AH.clr,wi,ut];have H:yP (L.map row).flatten (m * k) (zsuf (row d) L.length m)=((L.take m++List.replicate (L.length - m) d).map row).flatten:=by
  have r:(zsuf (row d) L.length m).length=(L.length - m) * k:=by simp [zsuf,a d]
  unfold yP;rw [flat_take a,r,tq (by rw [flat_len a,<- tg];exact u9 k (by omega))];simp [zsuf,List.map_replicate]
 rw [H];have N:=rows_map a (L.take m++List.replicate (L.length - m) d)
 simp_all
theorem e_cutR {c t':Nat} {M:List α} (w:o.op=.slice t x none (some y) none) (d:El P t e k) (E:yk env x=some (.rsl (h.blks.length+i) (h.toks.length+j) k n)) (C:yk env y=some (.int kd z))
  (p:B[i]?=some (.row (h.toks.length+j) k (L.map row))) (F:L.length=n) (l:slc L 0 z=some M) (a:B.length=c) (b:T.length=t') (H:B.set i .dead++[.row (h.toks.length+t') k (M.map row)]=B') (r:T.set j (n+1)++[M.length]=T') :
  xT P o env (h.ext B T)=some [(.rsl (h.blks.length+c) (h.toks.length+t') k M.length,h.ext B' T')]:=by
 obtain ⟨s,g⟩:=zS E;obtain ⟨D,q⟩:=zS C;obtain ⟨N,hi,hs,_⟩:=d.i;obtain ⟨⟨J,G,I⟩,rfl⟩:=slcF l;subst F a b H r;simp only [xT,w,s,g,D,q,d.u,hi,uW,ur,yC,p];rw [uG ⟨⟨trivial,trivial,by simp⟩,G,by omega⟩];have A:((L.take z.toNat).drop (0:Int).toNat).length=z.toNat:=by simp;omega
 have hd:(L.take z.toNat).drop (0:Int).toNat=L.take z.toNat:=rfl;rw [A,hd];simp only [AH.shr,AH.ext,AH.put,AH.new,uq,uf,rp,tD,AH.mk.injEq,tT,ut,rk]
 simp_all
theorem idxR {n:Int} {y:α} (h:qO L n=some y):0<=n/\n < L.length/\L[n.toNat]?=some y:=by
 unfold qO at h
 grind
theorem idxRn {y:α} (h:qO L z=some y) (c:L.length=n):0<=z/\z < n:=by
 obtain ⟨b,a,_⟩:=idxR h;omega
end
def insO {α:Type} (xs:List α) (z:Int) (M:List α):Option (List α):=if (0<=z/\z<=xs.length)/\0 < M.length/\xs.length+M.length<=xe then some (xs.take z.toNat++(M++xs.drop z.toNat)) else none
end Go.Vv
namespace Go.Vv
open Go Go.RowKit
variable {a b:List Blk} {ops:Array Oper} {Q:List AV->AH->Prop} {rest:List Oper} {env' args:List AV} {f:FuncId}

inductive KillL:List Blk->List Blk->Prop
 | nil:KillL [] []
 | keep {x:Blk} {a b:List Blk} (k:KillL a b):KillL (x::a) (x::b)
 | dead {x:Blk} {a b:List Blk} (k:KillL a b):KillL (x::a) (.dead::b)
theorem KillL.len (k:KillL a b):b.length=a.length:=by induction k <;> simp_all
theorem KillL.get (k:KillL a b):∀(j:Nat) (x:Blk),b[j]?=some x->x=.dead \/ a[j]?=some x:=by
 induction k with
 | nil=>intro j x h;simp at h
 | keep _ ih =>
  grind
 | dead _ ih =>
  grind
theorem xc {P:Program} {o:Oper} {env:List AV} {h:AH} {X:Type} {v:AV} {H':X->AH} (i:aG ops o env=some true) (g:zB P o env h=.call f args)
  (hs:Spec P f args h λr hh=>r=v/\∃x,hh=H' x) (hd:xO o.dst env v=some env') (d:∀x,zJ P ops Q rest env' (H' x)):zJ P ops Q (o::rest) env h :=
 ops_call i g hs λr h' ⟨e,x,l⟩=>by subst e;subst l;rw [yQ hd];exact d x
theorem ops_ginl {P:Program} {o:Oper} {env:List AV} {h:AH} {Y:Type} {b:Bool} {v:AV} {Ky:Y->AH} (g:aG ops o env=some b) (l:b=true->zB P o env h=.call f args)
  (hs:b=true->Spec P f args h λr hh=>r=v/\∃x,hh=Ky x) (n:b=false->∃x,h=Ky x) (hd:xO o.dst env (gv b v)=some env') (d:∀x,zJ P ops Q rest env' (Ky x)):zJ P ops Q (o::rest) env h:=by
 cases b with
 | true=>exact ops_call g (l rfl) (hs rfl) λr h' ⟨i,x,m⟩=>by subst i;subst m;rw [gv_true] at hd;rw [yQ hd];exact d x
 | false=>rw [gv_false] at hd;obtain ⟨x,e⟩:=n rfl;exact ops_skip g hd (e ▸ d x)
section
variable {P:Program} {o:Oper} {env:List AV} {h:AH} {L:List Blk} {M:List Nat} {t kt et:TypeId} {x y z:Operand} {j:Nat} {es:List (AV×AV)} {c:Nat}
end
section
variable {α:Type} {row:α->List AV} {L:List α} {k:Nat} {P:Program} {o:Oper} {env:List AV} {h:AH}
end
def HdS (h:AH) (B:List Blk) (k:Nat) (es:List (List AV)) (a:AV):Prop:=(∃j i:Nat,a=.rsl (h.blks.length+j) (h.toks.length+i) k es.length/\B[j]?=some (Blk.row (h.toks.length+i) k es)) \/ (a=.osl none k []/\es=[])
theorem HdS.tok {B0:Nat} {w0 w:World} {g:Gh} {h:AH} {B:List Blk} {T:List Nat} (r:Rel B0 w0 g (h.ext B T) w) {k:Nat} {es:List (List AV)} {a:AV} (hd:HdS h B k es a) {v:Value} (m:V g a v) :
  ∃t:TI,(∃x c,v=.slice x es.length c/\es.length<=c/\c<=maxLen/\rowHd t x es.length c k)/\t.row=true/\t.n=es.length/\(∀e ∈ es,e.length=k)/\es.flatten.all AV.pure=true /\
   (es=[] \/ ∃b o e cs ty,t.loc=some (b,o+es.length * k,e)/\w.heap[b]?=some (.cells cs ty (0,0))/\VA g es.flatten ((cs.toList.drop o).take (es.length * k))/\o+es.length * k<=cs.size/\∀j,o<=j->g.Φ b j=none) /\
   ((t=⟨0,none,true⟩) \/ ∃j i:Nat,B[j]?=some (Blk.row (h.toks.length+i) k es)/\g.τ[h.toks.length+i]?=some t):=by
 rcases hd with ⟨j,i,rfl,A⟩ | ⟨rfl,rfl⟩
 ·have l:(h.ext B T).blk (h.blks.length+j)=some (.row (h.toks.length+i) k es):=by rw [yC];exact A
  obtain ⟨_,G,E,F,C,p,u,q⟩:=r.rowAt l;simp only [V] at m
  grind
 ·simp only [V] at m;obtain ⟨x,c,rfl,D,s,_,d⟩:=m;have d:c=0:=d;exact ⟨⟨0,none,true⟩,⟨x,c,rfl,D,s,rfl,ue _,.inl ⟨rfl,d⟩⟩,rfl,rfl,by simp,by simp,.inl rfl,.inl rfl⟩
end Go.Vv
namespace Go.Vv
open Go
end Go.Vv
