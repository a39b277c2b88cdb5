/- The weakest preconditions over abstract states are sound: code, and functions. -/
import Derived.Test.YtcociipjgndnaaaGreatVvO
namespace Go.Vv
open Go Go.RowKit Go.Lib

theorem min_exists {p:Nat->Prop} (h:∃n,p n):∃m,p m/\∀k,p k->m<=k:=by
 obtain ⟨n,hn⟩:=h
 induction n using Nat.strongRecOn with
 | _ n ih =>
  by_cases hk:∃k,k < n/\p k
  ·obtain ⟨k,h1,h2⟩:=hk;exact ih k h1 h2
  ·exact ⟨n,hn,λk hp=>by
    rcases tz k n with h1 | h1
    ·exact absurd ⟨k,h1,hp⟩ hk
    ·exact h1⟩
open Classical in
noncomputable def least (p:Nat->Prop):Nat:=if h:∃n,p n then Classical.choose (min_exists h) else 0
theorem least_spec {p:Nat->Prop} (h:∃n,p n):p (least p):=by
 unfold least;rw [p9 h];exact (tN (min_exists h)).1
theorem least_le {p:Nat->Prop} {n:Nat} (h:p n):least p<=n:=by
 unfold least;rw [p9 ⟨n,h⟩];exact (tN (min_exists ⟨n,h⟩)).2 n h

section
variable {P:Program} {B:Nat} {w0:World} {ro:Option Nat} {n:Nat} [GOk P B w0]

def Marks (gb g:Gh) (D:List Deferred):Prop:=∃cs:List Nat,D.map (·.target)=cs.map Target.collected/\cs.Nodup/\∀c ∈ cs,c ∈ g.δ/\c ∉ gb.δ
theorem Marks.mono {gb g g':Gh} {D:List Deferred} (h:Marks gb g D) (k:∀c,c ∈ g.δ->c ∈ g'.δ):Marks gb g' D:=by
 obtain ⟨cs,e,d,a⟩:=h;exact ⟨cs,e,d,λc b=>⟨k c (a c b).1,(a c b).2⟩⟩
theorem Marks.nil (gb g:Gh):Marks gb g []:=⟨[],rfl,List.nodup_nil,λ_ h=>by cases h⟩
def StM (B:Nat) (w0:World) (gb g0:Gh) (env:List AV) (h:AH) (a:Act) (w:World):Prop:=∃g,g0.le g/\Rel B w0 g h w/\VL g env a.tmps.toList/\Marks gb g a.defers/\gb.le g

def Gh.addD (g:Gh) (c:Nat):Gh:={ g with δ:=c::g.δ }
theorem Gh.le_addD (g:Gh) (c:Nat):g.le (g.addD c):=⟨λ_ _ _ e=>e,λ_ _ e=>e,λ_ t e=>⟨t,e,uh _,λ_=>rfl,rfl⟩,λ_ h=>tJ _ h,λ_ _ h=>h,λ_ h=>h⟩
theorem Rel.addD {g:Gh} {h:AH} {w:World} (r:Rel B w0 g h w) {c:Nat} (q:B<=c) (t:w.heap[c]?=some (.deferred (some []))) (hs:∀i:Nat,g.σ[i]? ≠ some c) (f:g.N c=none):Rel B w0 (g.addD c) h w :=
 ⟨r.below,r.bsz,r.phi,r.slen,λi x k d l=>by obtain ⟨u,o,s,p⟩:=r.blk i x k d l;exact ⟨u,o,s.mono (g.le_addD c) rfl,p⟩,r.tlen,r.tok,r.sinj,r.tinj,r.sep,λx d=>by
  rcases uD.1 d with rfl | d
  ·exact ⟨q,t,hs⟩
  ·exact r.dfr x d,λi k hi l=>(r.row i k hi l).mono (g.le_addD c) (λ_ _ h _=>h) (λ_ _ _ _ _ _ _=>⟨rfl,λ_=>rfl⟩),r.rinj,λb x a=>(r.nb b x a).mono λ_ _ j=>⟨rfl,⟨j.1,λm=>(uD.1 m).elim (λe=>by subst e;have a:g.N b=some x:=a;rw [f] at a;cases a) j.2.1,j.2.2⟩,λh=>h⟩,r.ob⟩

theorem rangeFunc_sound {I:Operand} {R:Array Tmp} {assign body:Code} {gb g0:Gh} {QA:Exit->List AV->AH->Prop} {env:List AV} {h:AH} {a:Act} {w:World} (z:ro=none)
  (s:qb P (.rangeFunc I R assign body) QA env h) (hs:StM B w0 gb g0 env h a w) {Q:Exit->Act->World->Prop} (hQ:∀x o F a' w',QA x o F->StM B w0 gb g0 o F a' w'->Q x a' w') :
  (Code.rangeFunc I R assign body).wpIn (WF ro) n P Q a w:=by
 subst z;obtain ⟨g,O,r,A,E,l⟩:=hs;obtain ⟨T,_,_,G,W,J,s⟩:=s;obtain ⟨g2,u,r2,he2,M⟩:=J B w0 w w g g _ r (Gh.le.refl g) r A;replace O:=O.trans u;replace E:=E.mono M;replace l:=l.trans u;clear J M r A u;revert s O E l r2 he2;generalize G=env,W=h,g2=g;intro s r A O E l;have Y:=V.ev A T;split at s
 ·rename_i f first caps hx
  rw [hx] at Y;simp only [V] at Y;obtain ⟨fs,cs,Z,h1,W⟩:=Y;refine wpIn_rangeFunc λfn hfn=>?_;have z:(WF none).round=none:=rfl;rw [z];obtain ⟨k,q⟩:∃k:LoopState->Option Code->Loop,k=λst C=>{ state:=st,pending:=C,fn,tmps:=a.tmps,params:=R,assign,body,defers:=w.heap.size }:=⟨_,rfl⟩
  have r1:=r.alloc0 (.deferred (some []));have hc1:(w.alloc (.deferred (some []))).heap[w.heap.size]?=some (.deferred (some [])):=World.alloc_heap_new w _;have X:∀i:Nat,g.σ[i]? ≠ some w.heap.size:=λi hi=>by
   have U:i < h.blks.length:=by rw [<- r.slen];exact (uc.1 hi).1
   have:=(r.blk i _ _ hi (ug U)).2.1;omega
  have r2:=r1.addD (c:=w.heap.size) r.bsz hc1 X (r.nnew (uh _));have r3:=r2.newBlk (.loop (k .ready none)) (.loop .ready none env R assign body) ⟨fn,a.tmps,w.heap.size,by rw [q];exact World.alloc_heap_new _ _,A.mono ((g.le_addD _).trans (Gh.le_addS _ _))⟩;have hsz:(w.alloc (.deferred (some []))).heap.size=w.heap.size+1:=World.size_alloc ..;have y:((g.addD w.heap.size).addS (w.alloc (.deferred (some []))).heap.size).σ[h.blks.length]?=some (w.heap.size+1):=by
   rw [<- r.slen,hsz];simp [Gh.addS,Gh.addD]
  refine ⟨w.heap.size+1,[{ target:=.collected w.heap.size,args:=#[] }],(w.alloc (.deferred (some []))).alloc (.loop (k .ready none)),{ target:=.fn (.func f) cs,args:=fs++#[.func (.yield (w.heap.size+1)) #[] #[]] },(w.alloc (.deferred (some []))).alloc (.loop (k .ready none)),f,
   fs++#[.func (.yield (w.heap.size+1)) #[] #[]]++cs,(w.alloc (.deferred (some []))).alloc (.loop (k .ready none)),?_,?_,λ_ _=>trivial,?_,λh=>by simp [WF,Fence.wide] at h,?_⟩
  ·rw [q];exact run_enterLoop_outer _ _ _ _ _
  ·simp only [resolve,Z];simp [Deferred.ofValue,go_sem]
  ·simpa [invoke] using s.1 _ _
  ·have hvl:VL ((g.addD w.heap.size).addS (w.alloc (.deferred (some []))).heap.size) (first++[.yld h.blks.length]++caps) (fs++#[Value.func (.yield (w.heap.size+1)) #[] #[]]++cs).toList:=by
    have d:=(g.le_addD w.heap.size).trans (Gh.le_addS _ (w.alloc (.deferred (some []))).heap.size);simp only [t7];refine VL.append (VL.append (h1.mono d) (VL.cons ?_ (by simp [VL]))) (W.mono d);simp only [V];exact ⟨_,y,rfl⟩
   refine callsIn_of ((s.2 B w0 _ _ _ r3 hvl).mono ?_)
   rintro e w3 ⟨v,x,F,g',rfl,⟨st,C,o,K,H,L,hb,hst,S⟩,d,r',_⟩
   obtain ⟨_,hlt,⟨D,p,d',U,_⟩,_⟩:=r'.blk _ _ _ (d.sig _ _ y) hb;have N:=run_endLoop (P:=P) U hst;have r4:Rel B w0 g' (F.put h.blks.length .dead) (w3.putObj (w.heap.size+1) (.loop { state:=.exhausted,pending:=C,fn:=D,tmps:=p,params:=K,assign:=H,body:=L,defers:=d' })) :=
    r'.putObj (d.sig _ _ y) hb (by simp) rfl rfl rfl World.putObj_size (λb hb'=>World.putObj_heap_other hb') trivial
   have j:g.le g':=((g.le_addD _).trans (Gh.le_addS _ _)).trans d;have hmk:Marks gb g' ({ target:=.collected w.heap.size,args:=#[] }::a.defers):=by
    obtain ⟨cs,k1,k2,k3⟩:=E;refine ⟨w.heap.size::cs,by simp [k1],pz.2 ⟨λt=>sH _ (r.dfr_lt (k3 _ t).1),k2⟩,λc t=>?_⟩;rcases uD.1 t with rfl | t
    ·exact ⟨d.del _ (by simp [Gh.addS,Gh.addD]),λt=>sH _ (r.dfr_lt (l.del _ t))⟩
    ·exact ⟨j.del _ (k3 c t).1,(k3 c t).2⟩
   have m:StM B w0 gb g0 env (F.put h.blks.length .dead) { a with defers:={ target:=.collected w.heap.size,args:=#[] }::a.defers } (w3.putObj (w.heap.size+1) (.loop { state:=.exhausted,pending:=C,fn:=D,tmps:=p,params:=K,assign:=H,body:=L,defers:=d' })) :=
    ⟨g',O.trans j,r4,A.mono j,hmk,l.trans j⟩
   refine ⟨C,_,N,?_⟩;cases C with
   | none=>exact hQ _ _ _ _ _ S m
   | some c =>
    cases c with
    | ret=>exact wpIn_ret (hQ _ _ _ _ _ S m)
    | exit i=>exact wpIn_exit (hQ _ _ _ _ _ S m)
    | _=>exact S.elim
 ·exact s.elim

theorem wZ:∀(c:Code) {gb g0:Gh} {QA:Exit->List AV->AH->Prop} {env:List AV} {h:AH} {a:Act} {w:World},(ro=none \/ noRF c=true)->qb P c QA env h->StM B w0 gb g0 env h a w->∀{Q:Exit->Act->World->Prop},
  (∀x l L a' w',QA x l L->StM B w0 gb g0 l L a' w'->Q x a' w')->c.wpIn (WF ro) n P Q a w
 | .skip,_,_,_,_,_,_,_,_,d,hs,_,hQ=>wpIn_skip (hQ _ _ _ _ _ d hs)
 | .label _,_,_,_,_,_,_,_,_,d,hs,_,hQ=>wpIn_label (hQ _ _ _ _ _ d hs)
 | .exit _,_,_,_,_,_,_,_,_,d,hs,_,hQ=>wpIn_exit (hQ _ _ _ _ _ d hs)
 | .ret,_,_,_,_,_,_,_,_,d,hs,_,hQ=>wpIn_ret (hQ _ _ _ _ _ d hs)
 | .region id ops draw,gb,g0,QA,env,h,a,w,_,d,hs,Q,hQ=>by
  obtain ⟨g,M,r,O,z,s⟩:=hs;have v:∀l L a' w',St B w0 g a.defers l L a' w'->StM B w0 gb g0 l L a' w':=λl L a' w' ⟨g',U,k2,k3,W⟩=>⟨g',M.trans U,k2,k3,by rw [W];exact z.mono U.del,s.trans U⟩
  have hs:St B w0 g a.defers env h a w:=⟨g,Gh.le.refl g,r,O,rfl⟩
  cases draw with
  | false =>
   have h1:=ops_sound (ro:=ro) (n:=n) (Q:=Q) (λenv h a w u J=>hQ .normal env h a w u (v _ _ _ _ J)) ops.toList 0 env h a w rfl d hs;refine wpIn_region ?_;rw [List.range_eq_range'];simpa using h1
  | true =>
   obtain ⟨Ns,F,⟨z,hok⟩,hFh,d⟩ | ⟨z,d⟩:=d
   rotate_left
   ·obtain ⟨g,U,k2,k3,W⟩:=hs;exact wpIn_region_any z (any_sound (λenv h a w u J=>hQ .normal env h a w u (v _ _ _ _ J)) _ _ _ _ _ _ d ⟨g,U,k2.drew,k3,W⟩)
   obtain ⟨vs,q,h0,h1,h2⟩:=draw_seq ops.toList 0 env h rfl (tK _) d;have hT:(λw:Nat=>decide (0<=w))=λ_=>true:=by funext w;simp
   rw [hT] at h1 h2;refine wpIn_region_any z (draw_sound (D:=a.defers) (g0:=g) hok (vs:=vs) (hs:=q) (env:=env) (by rw [h0];exact hFh) (λi o ho=>h1 i o (tK _) ho) (λa w J=>hQ .normal _ _ _ _ h2 (v _ _ _ _ J)) ops.size _ a _ (by simp) ?_ (λi j hi=>?_) ?_)
   ·exact uU List.countP_le_length (by simp)
   ·exfalso;rw [u9] at hi;rcases tz i ops.size with R | R
    ·simp [R] at hi
    ·rw [tV (by simpa using R)] at hi;simp at hi
   ·have hF:∀w,(Array.replicate ops.size false).getD w false=false:=λw=>by
     rw [u9];rcases tz w ops.size with R | R
     ·simp [R]
     ·rw [tV (by simpa using R)];rfl
    rw [fE_none _ λw _=>hF w];have hH:fH ops Ns q (λi=>(Array.replicate ops.size false).getD i false) ops.size=h:=by
     have:∀k,fH ops Ns q (λi=>(Array.replicate ops.size false).getD i false) k=h:=λk=>by
      induction k with
      | zero=>exact h0
      | succ k ih=>rw [fH,hF,rx];exact ih
     exact this _
    rw [hH];obtain ⟨g,U,k2,k3,W⟩:=hs;exact ⟨g,U,k2.drew,k3,W⟩
 | .seq x y,gb,g0,QA,env,h,a,w,hr,d,hs,Q,hQ=>by
  have T:ro=none \/ noRF x=true:=hr.imp id λh=>by simp only [noRF,ud] at h;exact h.1
  have S:ro=none \/ noRF y=true:=hr.imp id λh=>by simp only [noRF,ud] at h;exact h.2
  obtain ⟨g,M,r,O,z,s⟩:=hs;refine wpIn_seq (wZ (gb:=gb) (g0:=g) x T d ⟨g,Gh.le.refl g,r,O,z,s⟩ λe l L a' w' u q=>?_);obtain ⟨Y,A,r1,K,E,C⟩:=q;cases e with
  | normal =>
   obtain ⟨X,h2,hk,u⟩:=u;obtain ⟨Z,t,r2,G,H⟩:=hk B w0 w' w g Y _ r A r1 K;exact wZ (gb:=gb) (g0:=g0) y S u ⟨Z,M.trans t,r2,G,E.mono H,s.trans t⟩ hQ
  | _=>exact hQ _ _ _ _ _ u ⟨Y,M.trans A,r1,K,E,C⟩
 | .cond c x y,gb,g0,QA,env,h,a,w,hr,d,hs,Q,hQ=>by
  have T:ro=none \/ noRF x=true:=hr.imp id λh=>by simp only [noRF,ud] at h;exact h.1
  have S:ro=none \/ noRF y=true:=hr.imp id λh=>by simp only [noRF,ud] at h;exact h.2
  obtain ⟨hc,d⟩:=d;have q:=hs;obtain ⟨g,M,r,O,z,s⟩:=q;have hV:=V.ev O hc;split at d
  ·rename_i b hb;rw [hb] at hV;simp only [V] at hV;refine wpIn_cond hV ?_;cases b with
   | true=>exact wZ x T d hs hQ
   | false=>exact wZ y S d hs hQ
  ·exact d.elim
 | .block id body,gb,g0,QA,env,h,a,w,hr,d,hs,Q,hQ=>by
  refine wpIn_block (wZ body (hr.imp (λh=>h) λh=>h) d hs λe l L a' w' u q=>?_);cases e with
  | exit id' =>
   simp only [Exit.inBlock];by_cases hid:id'=id
   ·simp only [hid,ut] at u ⊢;exact hQ _ _ _ _ _ u q
   ·simp only [hid,uG] at u ⊢;exact hQ _ _ _ _ _ u q
  | _=>exact hQ _ _ _ _ _ u q
 | .loop body,gb,g0,QA,env,h,a,w,hr,d,hs,Q,hQ=>by
  have hrb:ro=none \/ noRF body=true:=hr.imp id λh=>h;obtain ⟨I,⟨m0,env0,h0,hk0,hI⟩,N⟩:=d
  let p:Act->World->Nat->Prop:=λa w m=>∃env h,I m env h/\StM B w0 gb g0 env h a w
  obtain ⟨g,M,r,O,z,s⟩:=hs;obtain ⟨Z,t,r2,G,H⟩:=hk0 B w0 w w g g _ r (Gh.le.refl g) r O;refine wpIn_loop (λa w=>∃m,p a w m) (λa w=>least (p a w)) ⟨_,env0,h0,hI,Z,M.trans t,r2,G,z.mono H,s.trans t⟩ λa w hI'=>?_;obtain ⟨l,L,hI2,hs2⟩:=least_spec hI';obtain ⟨g,M,r,O,z,s⟩:=hs2;refine wZ (gb:=gb) (g0:=g) body hrb (N _ l L hI2) ⟨g,Gh.le.refl g,r,O,z,s⟩ λe X h2 a2 w2 u hs3=>?_;obtain ⟨Y,A,r1,K,E,C⟩:=hs3;cases e with
  | normal =>
   obtain ⟨m,env3,h3,hlt,hk,hI3⟩:=u;obtain ⟨Z,t,r2,G,H⟩:=hk B w0 w2 w g Y _ r A r1 K;have hp:p a2 w2 m:=⟨env3,h3,hI3,Z,M.trans t,r2,G,E.mono H,s.trans t⟩
   exact ⟨⟨_,hp⟩,Nat.lt_of_le_of_lt (least_le hp) hlt⟩
  | _=>exact hQ _ _ _ _ _ u ⟨Y,M.trans A,r1,K,E,C⟩
 | .rangeFunc f ps assign body,gb,g0,QA,env,h,a,w,hr,d,hs,Q,hQ=>rangeFunc_sound (hr.elim id λh=>by cases h) d hs hQ
 | .scope _,_,_,_,_,_,_,_,_,d,_,_,_=>d.elim
 | .goto _,_,_,_,_,_,_,_,_,d,_,_,_=>d.elim
 | .refuse _,_,_,_,_,_,_,_,_,d,_,_,_=>d.elim
end

mutual
def AV.pl:AV->Bool
 | .sl _ es=>plE es
 | .bsl _ _ | .nsl _ _ | .gsl _ _=>false
 | _=>true
def plL:List AV->Bool
 | []=>true
 | a::r=>a.pl&&plL r
def plE:List (List AV)->Bool
 | []=>true
 | e::r=>plL e&&plE r
end
theorem plE_map {α:Type} {row:α->List AV} (h:∀x,plL (row x)=true):∀L:List α,plE (L.map row)=true
 | []=>rfl
 | x::r=>by simp [plE,h x,plE_map h r]
mutual
theorem V.plain {g g':Gh} (d:∀b j v,g.Φ b j=some v->g'.Φ b j=some v):∀(a:AV) (v:Value),a.pure=true->a.pl=true->V g a v->V g' a v
 | .bool _,_,_,_,hv=>by simpa only [V] using hv
 | .int _ _,_,_,_,hv=>by simpa only [V] using hv
 | .str _,_,_,_,hv=>by simpa only [V] using hv
 | .nilp,_,_,_,hv=>by simpa only [V] using hv
 | .nilm,_,_,_,hv=>by simpa only [V] using hv
 | .nilf,_,_,_,hv=>by simpa only [V] using hv
 | .nili,_,_,_,hv=>by simpa only [V] using hv
 | .sl k es,_,_,hl,hv=>by
  simp only [V] at hv ⊢;simp only [AV.pl] at hl;obtain ⟨a,c,e,i,l,m⟩:=hv;exact ⟨a,c,e,i,l,m.imp id λ⟨b,o,e,hh⟩=>⟨b,o,e,VE.plain d b k o es hl hh⟩⟩
 | .fn f [] [],_,_,_,hv=>by
  simp only [V,VL] at hv ⊢;exact hv
theorem VC.plain {g g':Gh} (d:∀b j v,g.Φ b j=some v->g'.Φ b j=some v) (b:Nat):∀(o:Nat) (h:List AV),plL h=true->VC g b o h->VC g' b o h
 | _,[],_,_=>by simp only [VC]
 | o,a::r,hl,hv=>by
  simp only [VC] at hv ⊢;simp only [plL,ud] at hl;obtain ⟨⟨v,h0,i,l⟩,m⟩:=hv;exact ⟨⟨v,d _ _ _ h0,i,V.plain d a v i hl.1 l⟩,VC.plain d b (o+1) r hl.2 m⟩
theorem VE.plain {g g':Gh} (d:∀b j v,g.Φ b j=some v->g'.Φ b j=some v) (b k:Nat):∀(o:Nat) (h:List (List AV)),plE h=true->VE g b k o h->VE g' b k o h
 | _,[],_,_=>by simp only [VE]
 | o,e::r,hl,hv=>by
  simp only [VE] at hv ⊢;simp only [plE,ud] at hl;obtain ⟨⟨h0,i⟩,l⟩:=hv;exact ⟨⟨h0,VC.plain d b o e hl.1 i⟩,VE.plain d b k (o+k) r hl.2 l⟩
end
theorem VA.pl {g g':Gh} (c:∀b j v,g.Φ b j=some v->g'.Φ b j=some v):∀{d:List AV} {vs:List Value},d.all AV.pure=true->plL d=true->VA g d vs->VA g' d vs
 | [],_,_,_,hv=>by simpa only [VA] using hv
 | a::r,_,hp,hl,hv=>by
  simp only [VA] at hv ⊢;simp only [plL,ud] at hl;simp only [tc,ud] at hp;obtain ⟨v,s,e,⟨h0,h⟩,f⟩:=hv;exact ⟨v,s,e,⟨h0,V.plain c a v hp.1 hl.1 h⟩,VA.pl c hp.2 hl.2 f⟩

def aResL (P:Program) (env:List AV) (h:AH):List ResultVar->Option (List AV)
 | []=>some []
 | .tmp t::r=>match aResL P env h r with
  | some vs=>some (env.getD t aundef::vs)
  | none=>none
 | .cell a t::r=>match P.underlying t,P.info? t with
  | some d,some i=>match aLoad h (yh d) i.size (env.getD a aundef),aResL P env h r with
   | some v,some vs=>some (tyfix P t v::vs)
   | _,_=>none
  | _,_=>none
def aRes (P:Program) (fn:Func) (env:List AV) (h:AH):Option AV :=
 match aResL P env h fn.results.toList with
 | some [v]=>some v
 | some vs=>some (.tup vs)
 | none=>none

def leV (a b:AV):Prop:=∀g v,V g a v->V g b v
theorem leV.refl (a:AV):leV a a:=λ_ _ h=>h
def finK (h0:AH) (K:AV->AH->Prop) (r0:AV) (h:AH):Prop:=∃r h',wk h0 [r0] h [r] h'/\K r h'
def bodyQ (P:Program) (fn:Func) (h0:AH) (K:AV->AH->Prop) (x:Exit) (env:List AV) (h:AH):Prop :=
 match x with
 | .normal | .ret=>match aRes P fn env h with
  | some r=>finK h0 K r h
  | none=>False
 | _=>False

section
variable {P:Program}
def resF (tmps:Array Value):ResultVar->Sem Value
 | .tmp t=>pure (tmps.getD t undef)
 | .cell a t=>do loadVar t (<- asAddr (tmps.getD a undef))
theorem results_eq (fn:Func) (tmps:Array Value):results fn tmps=(do let vs <- fn.results.mapM (resF tmps);pure (if h:vs.size=1 then vs[0] else .tuple vs)):=by
 unfold results resF;rfl
theorem resL_sound {B:Nat} {w0 w:World} {g:Gh} {h:AH} (r:Rel B w0 g h w) {env:List AV} {tmps:Array Value} (c:VL g env tmps.toList):∀{e:List ResultVar} {vs:List AV},aResL P env h e=some vs ->
  ∃us,(e.mapM (resF tmps)).run P w=.ok us w/\VL g vs us
 | [],vs,h=>by simp only [aResL,un] at h;subst h;exact ⟨[],by simp,by simp [VL]⟩
 | .tmp t::e,vs,h=>by
  simp only [aResL] at h;split at h
  ·rename_i f k;cases h;obtain ⟨us,l,j⟩:=resL_sound r c k;refine ⟨tmps.getD t undef::us,by simp only [ry,Sem.run_bind,resF,Sem.run_pure,Result.andThen_ok,l],VL.cons ?_ j⟩;exact V.ev (a:={ tmps:=tmps,defers:=[] }) c (x:=.tmp t) rfl
  ·cases h
 | .cell ad t::e,vs,h=>by
  simp only [aResL] at h;split at h
  ·rename_i d i hd hi;split at h
   ·rename_i v f p k;cases h;obtain ⟨us,l,j⟩:=resL_sound r c k;have y:=V.ev (a:={ tmps:=tmps,defers:=[] }) c (x:=.tmp ad) rfl;obtain ⟨u,b,q⟩:=load_sound r hd hi y p;refine ⟨u::us,?_,VL.cons q.tyfix j⟩;have m:(do loadVar t (<- asAddr (tmps.getD ad undef)):Sem Value).run P w=.ok u w:=by
     have o:Act.eval { tmps:=tmps,defers:=[] } (.tmp ad)=tmps.getD ad undef:=rfl;rw [o] at b;generalize tmps.getD ad undef=pv at b ⊢;cases pv with
     | pointer x =>
      cases x with
      | none=>simp [Instr.loadAt,Instr.sureAddr] at b
      | some x=>simpa [Instr.loadAt,Instr.sureAddr,asAddr] using b
     | _=>simp [Instr.loadAt,Instr.sureAddr] at b
    have s:(resF tmps (.cell ad t)).run P w=.ok u w:=m;simp only [ry,Sem.run_bind,s,Result.andThen_ok,l,Sem.run_pure]
   ·cases h
  ·cases h

theorem res_sound {B:Nat} {w0 w:World} {g:Gh} {h:AH} (r:Rel B w0 g h w) {env:List AV} {tmps:Array Value} (i:VL g env tmps.toList) {fn:Func} {v:AV} (c:aRes P fn env h=some v) :
  ∃u,(results fn tmps).run P w=.ok u w/\V g v u:=by
 unfold aRes at c;have key:∀vs,aResL P env h fn.results.toList=some vs->∃us:List Value,(results fn tmps).run P w=.ok (if h:us.length=1 then us[0] else .tuple us.toArray) w/\VL g vs us:=by
  intro vs a;obtain ⟨us,d,b⟩:=resL_sound r i a;refine ⟨us,?_,b⟩;rw [results_eq,Array.mapM_eq_mapM_toList];simp only [Sem.run_bind,Sem.run_map,d,Result.andThen_ok,Sem.run_pure];congr 1
 split at c
 ·rename_i v' a;cases c;obtain ⟨us,d,b⟩:=key _ a;simp only [VL] at b;obtain ⟨u,s,rfl,j,rfl⟩:=b;exact ⟨u,by simpa using d,j⟩
 ·rename_i vs f a;cases c;obtain ⟨us,d,b⟩:=key _ a;have e:us.length ≠ 1:=by
   intro e;rw [<- b.length] at e;rcases vs with _ | ⟨x,_ | ⟨y,r⟩⟩ <;> simp at e;exact f x rfl
  refine ⟨.tuple us.toArray,by rw [d,dif_neg e],?_⟩;simp only [V];exact ⟨_,rfl,b⟩
 ·cases c

theorem VL.undefs {g:Gh}:∀k,VL g (List.replicate k aundef) (List.replicate k undef)
 | 0=>by simp [VL]
 | k+1=>by simp only [rp];exact VL.cons V.ofUndef (VL.undefs k)

theorem Rel.shut {B:Nat} {w0 w:World} {g:Gh} {h:AH} (r:Rel B w0 g h w) {c:Nat} (L:c ∈ g.δ):Rel B w0 { g with δ:=g.δ.filter (· != c) } h (w.putObj c (.deferred none)):=by
 have hd:=r.dfr c L;have f:∀b,b ≠ c->(w.putObj c (.deferred none)).heap[b]?=w.heap[b]?:=λb z=>World.putObj_heap_other z;have U:g.le { g with δ:=g.δ }:=Gh.le.refl g;refine ⟨⟨r.below.os,r.below.tape,r.below.output,by simpa using r.below.size,λb z=>(f b (by omega)).trans (r.below.block b z)⟩,by simpa using r.bsz,λb j v e=>?_,r.slen,λi x k C K=>?_,r.tlen,λi t S=>?_,r.sinj,r.tinj,r.sep,λx C=>?_,λi k hi K=>?_,r.rinj,
  λb x z=>(r.nb b x z).mono λ_ _ H=>⟨f b (by rintro rfl;exact H.2.1 L),⟨H.1,λO=>H.2.1 (tf.1 O).1,H.2.2⟩,λh=>h⟩,λb z=>⟨by simpa using (r.ob b z).1,(r.ob b z).2⟩⟩
 ·have q:b ≠ c:=by
   rintro rfl
   have:=r.phi b j v e;unfold World.cell? at this;simp [hd.2.1] at this
  exact (World.cell?_of_block (w:=w) (a:=⟨b,j,none⟩) (f b q)).trans (r.phi b j v e)
 ·obtain ⟨G,E,y,I⟩:=r.blk i x k C K;refine ⟨G,by simpa using E,?_,I⟩;have q:x ≠ c:=by rintro rfl;exact hd.2.2 i C
  have D:=f x q;cases k with
  | cells cs=>obtain ⟨vs,t,u,p⟩:=y;exact ⟨vs,t,D.trans u,VA.dd p⟩
  | siter s pos=>exact D.trans y
  | mapo es clock=>obtain ⟨ents,n,u,p,J⟩:=y;exact ⟨ents,n,D.trans u,ME.dd p,J⟩
  | loop st pe env ps assign body=>obtain ⟨fn,tmps,d,u,p⟩:=y;exact ⟨fn,tmps,d,D.trans u,VL.dd p⟩
  | row _ _ _=>exact y
  | miter id n seen=>obtain ⟨m,u,p⟩:=y;exact ⟨m,u,D.trans p⟩
  | miter0=>exact D.trans y
  | other=>trivial
  | dead=>trivial
 ·obtain ⟨G,E⟩:=r.tok i t S;refine ⟨G,λb l e T=>?_⟩;have lo:=E b l e T;refine lo.mono (by simp) (f b ?_) λ_ _=>rfl
  rintro rfl
  obtain ⟨cs,ty,F,_⟩:=lo.cells;rw [hd.2.1] at F;cases F
 ·simp only [tf,oa,oA] at C;have A:=r.dfr x C.1;exact ⟨A.1,(f x C.2).trans A.2.1,A.2.2⟩
 ·have M:=r.row i k hi K;cases k with
  | row i2 p e2 =>
   obtain ⟨t,G,E,y,I,N,Q⟩:=M;refine ⟨t,G,E,y,I,N,Q.imp (λh=>h) ?_⟩
   rintro ⟨b,o,e,cs,ty,u,p,J,R,V⟩
   have q:b ≠ c:=by rintro rfl;rw [hd.2.1] at p;cases p
   exact ⟨b,o,e,cs,ty,u,(f b q).trans p,VA.dd J,R,V⟩
  | dead=>trivial
  | _=>exact M.elim

theorem leaves_marks {B:Nat} {w0:World} {g0:Gh} {h:AH} {env:List AV} {fn:Func} {tmps:Array Value} {R:Ending->World->Prop}:∀(D:List Deferred) (cs:List Nat) (w:World) {g:Gh},D.map (·.target)=cs.map Target.collected->cs.Nodup ->
  (∀(a:World) (b:Gh),g0.le b->Rel B w0 b h a->VL b env tmps.toList->∃v,(results fn tmps).run P a=.ok v a/\R (.returned v) a) ->
  g0.le g->Rel B w0 g h w->VL g env tmps.toList->(∀c ∈ cs,c ∈ g.δ)->(∀c ∈ cs,c ∉ g0.δ)->LeavesInM (WF none) 0 P fn tmps R D .returning w
 | [],cs,w,g,f,_,hfin,hg,r,he,_,_=>hfin w g hg r he
 | d::D,cs,w,g,f,hnd,hfin,hg,r,he,h1,h2=>by
  cases cs with
  | nil=>simp at f
  | cons c cs =>
   simp only [uC,s9] at f;obtain ⟨hd,f⟩:=f;have i:=h1 c (by simp);refine ⟨by simp,.inl ⟨c,_,hd,run_takeDeferred (r.dfr c i).2.1,?_⟩⟩;refine leaves_marks D cs _ (g:={ g with δ:=g.δ.filter (· != c) }) f (pz.1 hnd).2 hfin ⟨hg.phi,hg.sig,hg.tau,λx e=>?_,hg.new,hg.old⟩ (r.shut i) (VL.dd he) (λx e=>?_) λx e=>h2 x (by simp [e])
   ·simp only [tf,oa,oA];exact ⟨hg.del x e,by rintro rfl;exact h2 x (by simp) e⟩
   ·simp only [tf,oa,oA];exact ⟨h1 x (by simp [e]),by rintro rfl;exact (pz.1 hnd).1 e⟩

theorem spec_of_body {f : FuncId} {fn : Func} {c : Code} (hf : P.funcs[f]? = some fn) (hb : fn.body = some c) (hname : (fn.name == "runtime.NumGoroutine") = false) {args : List AV} {h : AH} {K : AV → AH → Prop}
  (hw:qb P c (bodyQ P fn h K) (args++List.replicate (fn.ntmps - args.length) aundef) h):Spec P f args h K:=by
 have hn : ¬ fn.name = "runtime.NumGoroutine" := by simpa using hname
 refine ⟨λvs w=>by simp [callFunc,hf,hb,hn],λB w0 _ g w vs r hv=>?_⟩;refine callsIn_wide.1 (callsIn_of_wp_marks (F:=WF none) (n:=0) hf hb trivial ?_ rfl);have hlen:args.length=vs.size:=by rw [hv.length];rfl
 refine wZ (B:=B) (w0:=w0) (gb:=g) (g0:=g) c (.inl rfl) hw ⟨g,Gh.le.refl g,r,?_,Marks.nil _ _,Gh.le.refl g⟩ λx env' h' a' w' hq hs=>?_
 ·simp only [t7,oc,hlen];exact VL.append hv (VL.undefs _)
 ·obtain ⟨g',hg,r',he,hm,_⟩:=hs;have fin:(match aRes P fn env' h' with | some r=>finK h K r h' | none=>False) ->
    LeavesInM (WF none) 0 P fn a'.tmps (λe w''=>∃v' r h2 g2,e=.returned v'/\K r h2/\g.le g2/\Rel B w0 g2 h2 w''/\V g2 r v') a'.defers .returning w':=by
   intro hfin;split at hfin
   ·rename_i rv hr;obtain ⟨cs,hD,hnd,hcs⟩:=hm;refine leaves_marks a'.defers cs w' hD hnd ?_ hg r' he (λc hc=>(hcs c hc).1) (λc hc=>(hcs c hc).2);intro w'' g'' hg'' r'' he'';obtain ⟨u,h1,h2⟩:=res_sound r'' he'' hr;refine ⟨u,h1,u,?_⟩;obtain ⟨rv,h2',hwk,hK⟩:=hfin;obtain ⟨g2,k1,k2,k3,_⟩:=hwk B w0 w'' w g g'' [u] r hg'' r'' (VL.cons h2 (by simp [VL]));simp only [VL] at k3;obtain ⟨v,s,e,k4,_⟩:=k3;injection e with e1 e2;subst e1;exact ⟨rv,h2',g2,rfl,hK,k1,k2,k4⟩
   ·exact hfin.elim
  cases x with
  | normal=>exact fin hq
  | ret=>exact fin hq
  | _=>exact hq.elim
end
end Go.Vv
