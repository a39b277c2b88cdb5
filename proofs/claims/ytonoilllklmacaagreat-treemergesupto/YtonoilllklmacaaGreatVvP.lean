/- The weakest preconditions over abstract states are sound: code, and functions. -/
import Derived.Test.YtonoilllklmacaaGreatVvM
set_option linter.all false
namespace Go.Vv
open Go Go.RowKit Go.Lib
variable {p:Nat->Prop} {h:AH} {w:World}

theorem min_exists {p:Nat->Prop} (h:∃n,p n):∃m,p m/\∀k,p k->m<=k:=by
 obtain ⟨n,hn⟩:=h
 induction n using Nat.strongRecOn with
 | _ n ih =>
  grind
open Classical in
noncomputable def least (p:Nat->Prop):Nat:=if h:∃n,p n then Classical.choose (min_exists h) else 0
theorem least_spec (h:∃n,p n):p (least p):=by
 unfold least;rw [pR h];exact (tZ (min_exists h)).1
theorem least_le {n:Nat} (h:p n):least p<=n:=by
 unfold least;rw [pR ⟨n,h⟩];exact (tZ (min_exists ⟨n,h⟩)).2 n h

section
variable {P:Program} {B:Nat} {w0:World} {ro:Option Nat} {n:Nat} [GOk P B w0]

def Marks (gb g:Gh) (D:List Deferred):Prop:=∃cs:List Nat,D.map (·.target)=cs.map Target.collected/\cs.Nodup/\∀c ∈ cs,c ∈ g.δ/\c ∉ gb.δ
theorem Marks.mono {gb g g':Gh} {D:List Deferred} (h:Marks gb g D) (k:∀c,c ∈ g.δ->c ∈ g'.δ):Marks gb g' D:=by
 obtain ⟨cs,d,b,a⟩:=h;exact ⟨cs,d,b,λc hc=>⟨k c (a c hc).1,(a c hc).2⟩⟩
theorem Marks.nil (gb g:Gh):Marks gb g []:=⟨[],rfl,List.nodup_nil,λ_ h=>by cases h⟩
def StM (B:Nat) (w0:World) (gb g0:Gh) (env:List AV) (h:AH) (a:Act) (w:World):Prop:=∃g,g0.le g/\Rel B w0 g h w/\VL g env a.tmps.toList/\Marks gb g a.defers/\gb.le g

def Gh.addD (g:Gh) (c:Nat):Gh:={ g with δ:=c::g.δ }
theorem Gh.le_addD (g:Gh) (c:Nat):g.le (g.addD c):=⟨λ_ _ _ e=>e,λ_ _ e=>e,λ_ t e=>⟨t,e,ug _,λ_=>rfl,rfl⟩,λ_ h=>tJ _ h,λ_ _ h=>h,λ_ h=>h⟩
theorem Rel.addD {g:Gh} {h:AH} {w:World} (r:Rel B w0 g h w) {c:Nat} (v:B<=c) (hc:w.heap[c]?=some (.deferred (some []))) (hs:∀i:Nat,g.σ[i]? ≠ some c) (o:g.N c=none) (f:¬ g.O c):Rel B w0 (g.addD c) h w :=
 ⟨r.below,r.bsz,r.phi,r.slen,λi x k d j=>by obtain ⟨t,q,u,s⟩:=r.blk i x k d j;exact ⟨t,q,u.mono (g.le_addD c) rfl,s⟩,r.tlen,r.tok,r.sinj,r.tinj,r.sep,λx d=>by
  rcases uP.1 d with rfl | d
  ·exact ⟨v,hc,hs⟩
  ·exact r.dfr x d,λi k hi j=>(r.row i k hi j).mono (g.le_addD c) (λ_ _ h _=>h) (λ_ _ _ _ _ _ _=>⟨rfl,λ_=>rfl⟩),r.rinj,λb x a=>(r.nb b x a).mono λ_ _ m=>⟨rfl,⟨m.1,λl=>(uP.1 l).elim (λe=>by subst e;have a:g.N b=some x:=a;rw [o] at a;cases a) m.2.1,m.2.2⟩,λ_ h=>h⟩,r.ob,λb a=>⟨(r.oa b a).1,λl=>(uP.1 l).elim (λe=>f (e ▸ a)) (r.oa b a).2.1,(r.oa b a).2.2⟩⟩

theorem rangeFunc_sound {K:Operand} {S:Array Tmp} {assign body:Code} {gb g0:Gh} {QA:Exit->List AV->AH->Prop} {env:List AV} {a:Act} (t:ro=none)
  (u:vN P (.rangeFunc K S assign body) QA env h) (hs:StM B w0 gb g0 env h a w) {Q:Exit->Act->World->Prop} (hQ:∀x m J a' w',QA x m J->StM B w0 gb g0 m J a' w'->Q x a' w') :
  (Code.rangeFunc K S assign body).wpIn (WF ro) n P Q a w:=by
 subst t;obtain ⟨g,D,r,z,E,k⟩:=hs;obtain ⟨W,_,_,O,h2,C,u⟩:=u;obtain ⟨g2,y,r2,he2,G⟩:=C B w0 w w g g _ r (Gh.le.refl g) r z;replace D:=D.trans y;replace E:=E.mono G;replace k:=k.trans y;clear C G r z y;revert u D E k r2 he2;generalize O=env,h2=h,g2=g;intro u r z D E k;have hV:=V.ev z W;split at u
 ·rename_i f first R hx
  rw [hx] at hV;simp only [V] at hV;obtain ⟨fs,cs,hev,h1,h2⟩:=hV;refine wpIn_rangeFunc λfn hfn=>?_;have t:(WF none).round=none:=rfl;rw [t];obtain ⟨l,s⟩:∃l:LoopState->Option Code->Loop,l=λst A=>{ state:=st,pending:=A,fn,tmps:=a.tmps,params:=S,assign,body,defers:=w.heap.size }:=⟨_,rfl⟩
  have r1:=r.alloc0 (.deferred (some []));have hc1:(w.alloc (.deferred (some []))).heap[w.heap.size]?=some (.deferred (some [])):=World.alloc_heap_new w _;have hns:∀i:Nat,g.σ[i]? ≠ some w.heap.size:=λi hi=>by
   have hl:i < h.blks.length:=by rw [<- r.slen];exact (uc.1 hi).1
   have:=(r.blk i _ _ hi (uh hl)).2.1;omega
  have r2:=r1.addD (c:=w.heap.size) r.bsz hc1 hns (r.nnew (ug _)) (r.nold (ug _));have r3:=r2.newBlk (.loop (l .ready none)) (.loop .ready none env S assign body) ⟨fn,a.tmps,w.heap.size,by rw [s];exact World.alloc_heap_new _ _,z.mono ((g.le_addD _).trans (Gh.le_addS _ _))⟩;have U:(w.alloc (.deferred (some []))).heap.size=w.heap.size+1:=World.size_alloc ..;have M:((g.addD w.heap.size).addS (w.alloc (.deferred (some []))).heap.size).σ[h.blks.length]?=some (w.heap.size+1):=by
   rw [<- r.slen,U];simp [Gh.addS,Gh.addD]
  refine ⟨w.heap.size+1,[{ target:=.collected w.heap.size,args:=#[] }],(w.alloc (.deferred (some []))).alloc (.loop (l .ready none)),{ target:=.fn (.func f) cs,args:=fs++#[.func (.yield (w.heap.size+1)) #[] #[]] },(w.alloc (.deferred (some []))).alloc (.loop (l .ready none)),f,
   fs++#[.func (.yield (w.heap.size+1)) #[] #[]]++cs,(w.alloc (.deferred (some []))).alloc (.loop (l .ready none)),?_,?_,λ_ _=>trivial,?_,λh=>by simp [WF,Fence.wide] at h,?_⟩
  ·rw [s];exact run_enterLoop_outer _ _ _ _ _
  ·simp only [resolve,hev];simp [Deferred.ofValue,go_sem]
  ·simpa [invoke] using u.1 _ _
  ·have hvl:VL ((g.addD w.heap.size).addS (w.alloc (.deferred (some []))).heap.size) (first++[.yld h.blks.length]++R) (fs++#[Value.func (.yield (w.heap.size+1)) #[] #[]]++cs).toList:=by
    have d:=(g.le_addD w.heap.size).trans (Gh.le_addS _ (w.alloc (.deferred (some []))).heap.size);simp only [tw];refine VL.append (VL.append (h1.mono d) (VL.cons ?_ (by simp [VL]))) (h2.mono d);simp only [V]
    simp_all
   refine callsIn_of ((u.2 B w0 _ _ _ r3 hvl).mono ?_)
   rintro e w3 ⟨v,x,J,g',rfl,⟨st,A,m,L,I,F,hb,X,T⟩,d,r',_⟩
   obtain ⟨_,hlt,⟨N,q,d',hl,_⟩,_⟩:=r'.blk _ _ _ (d.sig _ _ M) hb;have H:=run_endLoop (P:=P) hl X;have r4:Rel B w0 g' (J.put h.blks.length .dead) (w3.putObj (w.heap.size+1) (.loop { state:=.exhausted,pending:=A,fn:=N,tmps:=q,params:=L,assign:=I,body:=F,defers:=d' })) :=
    r'.putObj (d.sig _ _ M) hb (by simp) rfl rfl rfl World.putObj_size (λb Z=>World.putObj_heap_other Z) trivial
   have j:g.le g':=((g.le_addD _).trans (Gh.le_addS _ _)).trans d;have Y:Marks gb g' ({ target:=.collected w.heap.size,args:=#[] }::a.defers):=by
    obtain ⟨cs,k1,k2,k3⟩:=E;refine ⟨w.heap.size::cs,by simp [k1],rx.2 ⟨λhc=>tQ _ (r.dfr_lt (k3 _ hc).1),k2⟩,λc hc=>?_⟩;rcases uP.1 hc with rfl | hc
    ·exact ⟨d.del _ (by simp [Gh.addS,Gh.addD]),λhc=>tQ _ (r.dfr_lt (k.del _ hc))⟩
    ·exact ⟨j.del _ (k3 c hc).1,(k3 c hc).2⟩
   have o:StM B w0 gb g0 env (J.put h.blks.length .dead) { a with defers:={ target:=.collected w.heap.size,args:=#[] }::a.defers } (w3.putObj (w.heap.size+1) (.loop { state:=.exhausted,pending:=A,fn:=N,tmps:=q,params:=L,assign:=I,body:=F,defers:=d' })) :=
    ⟨g',D.trans j,r4,z.mono j,Y,k.trans j⟩
   refine ⟨A,_,H,?_⟩;cases A with
   | none=>exact hQ _ _ _ _ _ T o
   | some c =>
    cases c with
    | ret=>exact wpIn_ret (hQ _ _ _ _ _ T o)
    | exit i=>exact wpIn_exit (hQ _ _ _ _ _ T o)
    | _=>exact T.elim
 ·simp_all

theorem vl:∀(c:Code) {gb g0:Gh} {QA:Exit->List AV->AH->Prop} {env:List AV} {h:AH} {a:Act} {w:World},(ro=none \/ noRF c=true)->vN P c QA env h->StM B w0 gb g0 env h a w->∀{Q:Exit->Act->World->Prop},
  (∀x l L a' w',QA x l L->StM B w0 gb g0 l L a' w'->Q x a' w')->c.wpIn (WF ro) n P Q a w
 | .skip,_,_,_,_,_,_,_,_,d,hs,_,hQ=>wpIn_skip (hQ _ _ _ _ _ d hs)
 | .label _,_,_,_,_,_,_,_,_,d,hs,_,hQ=>wpIn_label (hQ _ _ _ _ _ d hs)
 | .exit _,_,_,_,_,_,_,_,_,d,hs,_,hQ=>wpIn_exit (hQ _ _ _ _ _ d hs)
 | .ret,_,_,_,_,_,_,_,_,d,hs,_,hQ=>wpIn_ret (hQ _ _ _ _ _ d hs)
 | .region id ops draw,gb,g0,QA,env,h,a,w,_,d,hs,Q,hQ=>by
  obtain ⟨g,N,r,O,H,s⟩:=hs;have v:∀l L a' w',St B w0 g a.defers l L a' w'->StM B w0 gb g0 l L a' w':=λl L a' w' ⟨g',W,k2,k3,k4⟩=>⟨g',N.trans W,k2,k3,by rw [k4];exact H.mono W.del,s.trans W⟩
  have hs:St B w0 g a.defers env h a w:=⟨g,Gh.le.refl g,r,O,rfl⟩
  cases draw with
  | false =>
   have h1:=ops_sound (ro:=ro) (n:=n) (Q:=Q) (λenv h a w E J=>hQ .normal env h a w E (v _ _ _ _ J)) ops.toList 0 env h a w rfl d hs;refine wpIn_region ?_;rw [List.range_eq_range'];omega
  | true =>
   obtain ⟨Ns,F,⟨H,hok⟩,hFh,d⟩ | ⟨H,d⟩:=d
   rotate_left
   ·obtain ⟨g,W,k2,k3,k4⟩:=hs;exact wpIn_region_any H (any_sound (λenv h a w E J=>hQ .normal env h a w E (v _ _ _ _ J)) _ _ _ _ _ _ d ⟨g,W,k2.drew,k3,k4⟩)
   obtain ⟨vs,t,h0,h1,h2⟩:=draw_seq ops.toList 0 env h rfl (tD _) d;have hT:(λw:Nat=>decide (0<=w))=λ_=>true:=by rfl
   rw [hT] at h1 h2;refine wpIn_region_any H (draw_sound (D:=a.defers) (g0:=g) hok (vs:=vs) (hs:=t) (env:=env) (by simp_all) (λi o ho=>h1 i o (tD _) ho) (λa w J=>hQ .normal _ _ _ _ h2 (v _ _ _ _ J)) ops.size _ a _ (by simp) ?_ (λi j hi=>?_) ?_)
   ·exact uA List.countP_le_length (by simp)
   ·exfalso;rw [tA] at hi
    grind
   ·have hF:∀w,(Array.replicate ops.size false).getD w false=false:=λw=>by
     rw [tA]
     grind
    rw [fE_none _ λw _=>hF w];have hH:fH ops Ns t (λi=>(Array.replicate ops.size false).getD i false) ops.size=h:=by
     have:∀k,fH ops Ns t (λi=>(Array.replicate ops.size false).getD i false) k=h:=λk=>by
      induction k with
      | zero=>exact h0
      | succ k ih=>rw [fH,hF,rG];exact ih
     simp_all
    rw [hH];obtain ⟨g,W,k2,k3,k4⟩:=hs;exact ⟨g,W,k2.drew,k3,k4⟩
 | .seq x y,gb,g0,QA,env,h,a,w,hr,d,hs,Q,hQ=>by
  have U:ro=none \/ noRF x=true:=hr.imp id λh=>by simp only [noRF,ud] at h;exact h.1
  have S:ro=none \/ noRF y=true:=hr.imp id λh=>by simp only [noRF,ud] at h;exact h.2
  obtain ⟨g,N,r,O,H,s⟩:=hs;refine wpIn_seq (vl (gb:=gb) (g0:=g) x U d ⟨g,Gh.le.refl g,r,O,H,s⟩ λe l L a' w' E t=>?_);obtain ⟨g1,C,Z,A,G,K⟩:=t;cases e with
  | normal =>
   obtain ⟨env2,h2,T,E⟩:=E;obtain ⟨X,q,Y,z,u⟩:=T B w0 w' w g g1 _ r C Z A;exact vl (gb:=gb) (g0:=g0) y S E ⟨X,N.trans q,Y,z,G.mono u,s.trans q⟩ hQ
  | _=>exact hQ _ _ _ _ _ E ⟨g1,N.trans C,Z,A,G,K⟩
 | .cond c x y,gb,g0,QA,env,h,a,w,hr,d,hs,Q,hQ=>by
  have U:ro=none \/ noRF x=true:=hr.imp id λh=>by simp only [noRF,ud] at h;exact h.1
  have S:ro=none \/ noRF y=true:=hr.imp id λh=>by simp only [noRF,ud] at h;exact h.2
  obtain ⟨hc,d⟩:=d;have t:=hs;obtain ⟨g,N,r,O,H,s⟩:=t;have hV:=V.ev O hc;split at d
  ·rename_i b hb;rw [hb] at hV;simp only [V] at hV;refine wpIn_cond hV ?_;cases b with
   | true=>exact vl x U d hs hQ
   | false=>exact vl y S d hs hQ
  ·simp_all
 | .block id body,gb,g0,QA,env,h,a,w,hr,d,hs,Q,hQ=>by
  refine wpIn_block (vl body (hr.imp (λh=>h) λh=>h) d hs λe l L a' w' E t=>?_);cases e with
  | exit id' =>
   simp only [Exit.inBlock]
   grind
  | _=>exact hQ _ _ _ _ _ E t
 | .loop body,gb,g0,QA,env,h,a,w,hr,d,hs,Q,hQ=>by
  have hrb:ro=none \/ noRF body=true:=hr.imp id λh=>h;obtain ⟨I,⟨m0,env0,h0,hk0,hI⟩,M⟩:=d;obtain ⟨ge,hge,re,O,H,s⟩:=hs;have hgb0:=s
  let p:Act->World->Nat->Prop:=λa w m=>∃env h,I m env h/\StM B w0 gb ge env h a w
  obtain ⟨X,q,Y,z,u⟩:=hk0 B w0 w w ge ge _ re (Gh.le.refl ge) re O;refine wpIn_loop (λa w=>∃m,p a w m) (λa w=>least (p a w)) ⟨_,env0,h0,hI,X,q,Y,z,H.mono u,s.trans q⟩ λa w1 hI'=>?_;obtain ⟨l,L,hI2,hs2⟩:=least_spec hI';obtain ⟨g,N,r,O,H,s⟩:=hs2;refine vl (gb:=gb) (g0:=g) body hrb (M _ l L hI2) ⟨g,Gh.le.refl g,r,O,H,s⟩ λe env2 h2 a2 w2 E hs3=>?_;obtain ⟨g1,C,Z,A,G,K⟩:=hs3;cases e with
  | normal =>
   obtain ⟨m,R,h3,hlt,T,hI3⟩:=E;have hp:p a2 w2 m:=by
    rcases T with T | T
    ·obtain ⟨X,q,Y,z,u⟩:=T B w0 w2 w1 g g1 _ r C Z A;exact ⟨R,h3,hI3,X,N.trans q,Y,z,G.mono u,s.trans q⟩
    ·obtain ⟨X,q,Y,z,u⟩:=T B w0 w2 w ge g1 _ re (N.trans C) Z A;exact ⟨R,h3,hI3,X,q,Y,z,G.mono u,hgb0.trans q⟩
   exact ⟨⟨_,hp⟩,Nat.lt_of_le_of_lt (least_le hp) hlt⟩
  | _=>exact hQ _ _ _ _ _ E ⟨g1,hge.trans (N.trans C),Z,A,G,K⟩
 | .rangeFunc f ps assign body,gb,g0,QA,env,h,a,w,hr,d,hs,Q,hQ=>rangeFunc_sound (hr.elim id λh=>by cases h) d hs hQ
 | .scope _,_,_,_,_,_,_,_,_,d,_,_,_=>d.elim
 | .goto _,_,_,_,_,_,_,_,_,d,_,_,_=>d.elim
 | .refuse _,_,_,_,_,_,_,_,_,d,_,_,_=>d.elim
end

mutual
def AV.pl:AV->Bool
 | .sl _ es=>plE es
 | .bsl _ _ | .nsl _ _ | .hsl _ _ | .hfp _=>false
 | _=>true
def plL:List AV->Bool
 | []=>true
 | a::r=>a.pl&&plL r
def plE:List (List AV)->Bool
 | []=>true
 | e::r=>plL e&&plE r
end
theorem plE_map {α:Type} {row:α->List AV} (h:∀x,plL (row x)=true):∀L:List α,plE (L.map row)=true
 | []=>rfl
 | x::r=>by simp [plE,h x,plE_map h r]
mutual
theorem V.plain {g g':Gh} (d:∀b j v,g.Φ b j=some v->g'.Φ b j=some v):∀(a:AV) (v:Value),a.pure=true->a.pl=true->V g a v->V g' a v
 | .bool _,_,_,_,hv=>by simpa only [V] using hv
 | .int _ _,_,_,_,hv=>by simpa only [V] using hv
 | .str _,_,_,_,hv=>by simpa only [V] using hv
 | .nilp,_,_,_,hv=>by simpa only [V] using hv
 | .nilm,_,_,_,hv=>by simpa only [V] using hv
 | .nilf,_,_,_,hv=>by simpa only [V] using hv
 | .nili,_,_,_,hv=>by simpa only [V] using hv
 | .sl k es,_,_,hl,hv=>by
  simp only [V] at hv ⊢;simp only [AV.pl] at hl;obtain ⟨a,c,e,i,l,m⟩:=hv;exact ⟨a,c,e,i,l,m.imp id λ⟨b,o,e,hh⟩=>⟨b,o,e,VE.plain d b k o es hl hh⟩⟩
 | .fn f [] [],_,_,_,hv=>by
  simp only [V,VL] at hv ⊢;exact hv
theorem VC.plain {g g':Gh} (d:∀b j v,g.Φ b j=some v->g'.Φ b j=some v) (b:Nat):∀(o:Nat) (a5:List AV),plL a5=true->VC g b o a5->VC g' b o a5
 | _,[],_,_=>by simp only [VC]
 | o,a::r,hl,hv=>by
  simp only [VC] at hv ⊢;simp only [plL,ud] at hl;obtain ⟨⟨v,h0,i,l⟩,m⟩:=hv;exact ⟨⟨v,d _ _ _ h0,i,V.plain d a v i hl.1 l⟩,VC.plain d b (o+1) r hl.2 m⟩
theorem VE.plain {g g':Gh} (d:∀b j v,g.Φ b j=some v->g'.Φ b j=some v) (b k:Nat):∀(o:Nat) (a5:List (List AV)),plE a5=true->VE g b k o a5->VE g' b k o a5
 | _,[],_,_=>by simp only [VE]
 | o,e::r,hl,hv=>by
  simp only [VE] at hv ⊢;simp only [plE,ud] at hl;obtain ⟨⟨h0,i⟩,l⟩:=hv;exact ⟨⟨h0,VC.plain d b o e hl.1 i⟩,VE.plain d b k (o+k) r hl.2 l⟩
end
theorem VA.pl {g g':Gh} (c:∀b j v,g.Φ b j=some v->g'.Φ b j=some v):∀{a5:List AV} {vs:List Value},a5.all AV.pure=true->plL a5=true->VA g a5 vs->VA g' a5 vs
 | [],_,_,_,hv=>by simpa only [VA] using hv
 | a::r,_,hp,hl,hv=>by
  simp only [VA] at hv ⊢;simp only [plL,ud] at hl;simp only [tf,ud] at hp;obtain ⟨v,s,e,⟨h0,f⟩,d⟩:=hv;exact ⟨v,s,e,⟨h0,V.plain c a v hp.1 hl.1 f⟩,VA.pl c hp.2 hl.2 d⟩

def qq (P:Program) (env:List AV) (h:AH):List ResultVar->Option (List AV)
 | []=>some []
 | .tmp t::r=>match qq P env h r with
  | some vs=>some (env.getD t aundef::vs)
  | none=>none
 | .cell a t::r=>match P.underlying t,P.info? t with
  | some d,some i=>match aLoad h (yA d) i.size (env.getD a aundef),qq P env h r with
   | some v,some vs=>some (tyfix P t v::vs)
   | _,_=>none
  | _,_=>none
def aRes (P:Program) (fn:Func) (env:List AV) (h:AH):Option AV :=
 match qq P env h fn.results.toList with
 | some [v]=>some v
 | some vs=>some (.tup vs)
 | none=>none

def leV (a b:AV):Prop:=∀g v,V g a v->V g b v
theorem leV.refl (a:AV):leV a a:=λ_ _ h=>h
def finK (h0:AH) (K:AV->AH->Prop) (r0:AV) (h:AH):Prop:=∃r h',wk h0 [r0] h [r] h'/\K r h'
def bodyQ (P:Program) (fn:Func) (h0:AH) (K:AV->AH->Prop) (x:Exit) (env:List AV) (h:AH):Prop :=
 match x with
 | .normal | .ret=>match aRes P fn env h with
  | some r=>finK h0 K r h
  | none=>False
 | _=>False

section
variable {P:Program}
def resF (tmps:Array Value):ResultVar->Sem Value
 | .tmp t=>pure (tmps.getD t undef)
 | .cell a t=>do loadVar t (<- asAddr (tmps.getD a undef))
theorem results_eq (fn:Func) (tmps:Array Value):results fn tmps=(do let vs <- fn.results.mapM (resF tmps);pure (if h:vs.size=1 then vs[0] else .tuple vs)):=by
 rfl
theorem resL_sound {B:Nat} {w0 w:World} {g:Gh} {h:AH} (r:Rel B w0 g h w) {env:List AV} {tmps:Array Value} (e:VL g env tmps.toList):∀{c:List ResultVar} {vs:List AV},qq P env h c=some vs ->
  ∃us,(c.mapM (resF tmps)).run P w=.ok us w/\VL g vs us
 | [],vs,h=>by simp only [qq,ui] at h;subst h;exact ⟨[],by simp,by simp [VL]⟩
 | .tmp t::c,vs,h=>by
  simp only [qq] at h;split at h
  ·rename_i k j;cases h;obtain ⟨us,l,f⟩:=resL_sound r e j;refine ⟨tmps.getD t undef::us,by simp only [rd,Sem.run_bind,resF,Sem.run_pure,Result.andThen_ok,l],VL.cons ?_ f⟩;exact V.ev (a:={ tmps:=tmps,defers:=[] }) e (x:=.tmp t) rfl
  ·cases h
 | .cell ad t::c,vs,h=>by
  simp only [qq] at h;split at h
  ·rename_i d i hd hi;split at h
   ·rename_i v k s j;cases h;obtain ⟨us,l,f⟩:=resL_sound r e j;have q:=V.ev (a:={ tmps:=tmps,defers:=[] }) e (x:=.tmp ad) rfl;obtain ⟨u,b,m⟩:=load_sound r hd hi q s;refine ⟨u::us,?_,VL.cons m.tyfix f⟩;have o:(do loadVar t (<- asAddr (tmps.getD ad undef)):Sem Value).run P w=.ok u w:=by
     have y:Act.eval { tmps:=tmps,defers:=[] } (.tmp ad)=tmps.getD ad undef:=rfl;rw [y] at b;generalize tmps.getD ad undef=pv at b ⊢;cases pv with
     | pointer x =>
      cases x with
      | none=>simp [Instr.loadAt,Instr.sureAddr] at b
      | some x=>simpa [Instr.loadAt,Instr.sureAddr,asAddr] using b
     | _=>simp [Instr.loadAt,Instr.sureAddr] at b
    have z:(resF tmps (.cell ad t)).run P w=.ok u w:=o
    simp_all
   ·cases h
  ·cases h

theorem res_sound {B:Nat} {w0:World} {g:Gh} (r:Rel B w0 g h w) {env:List AV} {tmps:Array Value} (i:VL g env tmps.toList) {fn:Func} {v:AV} (c:aRes P fn env h=some v) :
  ∃u,(results fn tmps).run P w=.ok u w/\V g v u:=by
 unfold aRes at c;have key:∀vs,qq P env h fn.results.toList=some vs->∃us:List Value,(results fn tmps).run P w=.ok (if h:us.length=1 then us[0] else .tuple us.toArray) w/\VL g vs us:=by
  intro vs a;obtain ⟨us,e,b⟩:=resL_sound r i a;refine ⟨us,?_,b⟩;rw [results_eq,Array.mapM_eq_mapM_toList]
  simp_all
 split at c
 ·rename_i v' a;cases c;obtain ⟨us,e,b⟩:=key _ a;simp only [VL] at b
  grind
 ·rename_i vs f a;cases c;obtain ⟨us,e,b⟩:=key _ a;have d:us.length ≠ 1:=by
   intro d;rw [<- b.length] at d;rcases vs with _ | ⟨x,_ | ⟨y,r⟩⟩ <;> simp at d
   simp_all
  refine ⟨.tuple us.toArray,by simp_all,?_⟩;simp only [V];exact ⟨_,rfl,b⟩
 ·cases c

theorem VL.undefs {g:Gh}:∀k,VL g (List.replicate k aundef) (List.replicate k undef)
 | 0=>by simp [VL]
 | k+1=>by simp only [sN];exact VL.cons V.ofUndef (VL.undefs k)

theorem Rel.shut {B:Nat} {w0:World} {g:Gh} (r:Rel B w0 g h w) {c:Nat} (hc:c ∈ g.δ):Rel B w0 { g with δ:=g.δ.filter (· != c) } h (w.putObj c (.deferred none)):=by
 have hd:=r.dfr c hc;have f:∀b,b ≠ c->(w.putObj c (.deferred none)).heap[b]?=w.heap[b]?:=λb q=>World.putObj_heap_other q;have W:g.le { g with δ:=g.δ }:=Gh.le.refl g;refine ⟨⟨r.below.os,r.below.tape,r.below.output,by simpa using r.below.size,λb q=>(f b (by omega)).trans (r.below.block b q)⟩,by simpa using r.bsz,λb j v e=>?_,r.slen,λi x k F H=>?_,r.tlen,λi t N=>?_,r.sinj,r.tinj,r.sep,λx F=>?_,λi k hi H=>?_,r.rinj,
  λb x q=>(r.nb b x q).mono λ_ _ G=>⟨f b (by rintro rfl;exact G.2.1 hc),⟨G.1,λJ=>G.2.1 (tO.1 J).1,G.2.2⟩,λ_ h=>h⟩,λb q=>⟨by simpa using (r.ob b q).1,(r.ob b q).2⟩,λb q=>⟨(r.oa b q).1,λJ=>(r.oa b q).2.1 (tO.1 J).1,(r.oa b q).2.2⟩⟩
 ·have y:b ≠ c:=by
   rintro rfl
   have:=r.phi b j v e;unfold World.cell? at this
   simp_all
  exact (World.cell?_of_block (w:=w) (a:=⟨b,j,none⟩) (f b y)).trans (r.phi b j v e)
 ·obtain ⟨D,E,z,I⟩:=r.blk i x k F H;refine ⟨D,by simp_all,?_,I⟩;have y:x ≠ c:=by grind
  have A:=f x y;cases k with
  | cells cs=>obtain ⟨vs,t,u,k2⟩:=z;exact ⟨vs,t,A.trans u,VA.dd k2⟩
  | bld T x=>obtain ⟨a,v,u,k2,C,K⟩:=z;exact ⟨a,v,A.trans u,k2,C,V.monoV (g.lv_dd _) _ _ K⟩
  | siter s pos=>exact A.trans z
  | mapo es clock=>obtain ⟨ents,n,u,k2,C⟩:=z;exact ⟨ents,n,A.trans u,ME.dd k2,C⟩
  | loop st pe env ps assign body=>obtain ⟨fn,tmps,d,u,k2⟩:=z;exact ⟨fn,tmps,d,A.trans u,VL.dd k2⟩
  | row _ _ _=>exact z
  | miter id n seen=>obtain ⟨m,u,k2⟩:=z;exact ⟨m,u,A.trans k2⟩
  | miter0=>exact A.trans z
  | other=>trivial
  | dead=>trivial
 ·obtain ⟨D,E⟩:=r.tok i t N;refine ⟨D,λb l e R=>?_⟩;have lo:=E b l e R;refine lo.mono (by simp) (f b ?_) λ_ _=>rfl
  rintro rfl
  obtain ⟨cs,ty,S,_⟩:=lo.cells
  simp_all
 ·simp only [tO,bne_iff_ne,ne_eq] at F;have M:=r.dfr x F.1
  simp_all
 ·have L:=r.row i k hi H;cases k with
  | row i2 k2 e2 =>
   obtain ⟨t,D,E,z,I,O,U⟩:=L;refine ⟨t,D,E,z,I,O,U.imp (λh=>h) ?_⟩
   rintro ⟨b,o,e,cs,ty,u,k2,C,K,Q⟩
   have y:b ≠ c:=by grind
   exact ⟨b,o,e,cs,ty,u,(f b y).trans k2,VA.dd C,K,Q⟩
  | dead=>trivial
  | _=>exact L.elim

theorem leaves_marks {B:Nat} {w0:World} {g0:Gh} {h:AH} {env:List AV} {fn:Func} {tmps:Array Value} {R:Ending->World->Prop}:∀(D:List Deferred) (cs:List Nat) (w:World) {g:Gh},D.map (·.target)=cs.map Target.collected->cs.Nodup ->
  (∀(a:World) (b:Gh),g0.le b->Rel B w0 b h a->VL b env tmps.toList->∃v,(results fn tmps).run P a=.ok v a/\R (.returned v) a) ->
  g0.le g->Rel B w0 g h w->VL g env tmps.toList->(∀c ∈ cs,c ∈ g.δ)->(∀c ∈ cs,c ∉ g0.δ)->LeavesInM (WF none) 0 P fn tmps R D .returning w
 | [],cs,w,g,e,_,hfin,hg,r,he,_,_=>hfin w g hg r he
 | d::D,cs,w,g,e,hnd,hfin,hg,r,he,h1,h2=>by
  cases cs with
  | nil=>simp at e
  | cons c cs =>
   simp only [uw,rZ] at e;obtain ⟨hd,e⟩:=e;have hc:=h1 c (by simp);refine ⟨by simp,.inl ⟨c,_,hd,run_takeDeferred (r.dfr c hc).2.1,?_⟩⟩;refine leaves_marks D cs _ (g:={ g with δ:=g.δ.filter (· != c) }) e (rx.1 hnd).2 hfin ⟨hg.phi,hg.sig,hg.tau,λx f=>?_,hg.new,hg.old⟩ (r.shut hc) (VL.dd he) (λx f=>?_) λx f=>h2 x (by simp [f])
   ·simp only [tO,bne_iff_ne,ne_eq];exact ⟨hg.del x f,by grind⟩
   ·grind

theorem spec_of_body {f : FuncId} {fn : Func} {c : Code} (hf : P.funcs[f]? = some fn) (hb : fn.body = some c) (hname : (fn.name == "runtime.NumGoroutine") = false) {args : List AV} {h : AH} {K : AV → AH → Prop}
  (hw:vN P c (bodyQ P fn h K) (args++List.replicate (fn.ntmps - args.length) aundef) h):Spec P f args h K:=by
 have hn : ¬ fn.name = "runtime.NumGoroutine" := by simp_all
 refine ⟨λvs w=>by simp [callFunc,hf,hb,hn],λB w0 _ g w vs r hv=>?_⟩;refine callsIn_wide.1 (callsIn_of_wp_marks (F:=WF none) (n:=0) hf hb trivial ?_ rfl);have hlen:args.length=vs.size:=by rw [hv.length];rfl
 refine vl (B:=B) (w0:=w0) (gb:=g) (g0:=g) c (.inl rfl) hw ⟨g,Gh.le.refl g,r,?_,Marks.nil _ _,Gh.le.refl g⟩ λx env' h' a' w' hq hs=>?_
 ·simp only [tw,rH,hlen];exact VL.append hv (VL.undefs _)
 ·obtain ⟨g',hg,r',he,hm,_⟩:=hs;have fin:(match aRes P fn env' h' with | some r=>finK h K r h' | none=>False) ->
    LeavesInM (WF none) 0 P fn a'.tmps (λe w''=>∃v' r h2 g2,e=.returned v'/\K r h2/\g.le g2/\Rel B w0 g2 h2 w''/\V g2 r v') a'.defers .returning w':=by
   intro hfin;split at hfin
   ·rename_i rv hr;obtain ⟨cs,hD,hnd,hcs⟩:=hm;refine leaves_marks a'.defers cs w' hD hnd ?_ hg r' he (λc hc=>(hcs c hc).1) (λc hc=>(hcs c hc).2);intro w'' g'' hg'' r'' he'';obtain ⟨u,h1,h2⟩:=res_sound r'' he'' hr;refine ⟨u,h1,u,?_⟩;obtain ⟨rv,h2',hwk,hK⟩:=hfin;obtain ⟨g2,k1,k2,k3,_⟩:=hwk B w0 w'' w g g'' [u] r hg'' r'' (VL.cons h2 (by simp [VL]));simp only [VL] at k3
    grind
   ·simp_all
  cases x with
  | normal=>exact fin hq
  | ret=>exact fin hq
  | _=>exact hq.elim
end
end Go.Vv
namespace Go.Vv
open Go
variable {a b:AV} {r args:List AV} {f:FuncId} {h':AH}

def leL (a5 bs:List AV):Prop:=∀g vs,VL g a5 vs->VL g bs vs
theorem leV.any (a:AV):leV a .any:=λ_ _ _=>by simp only [V]
theorem leV.nil (k:Nat):leV .nilsl (.sl k []):=λ_ v h=>by
 simp only [V] at h ⊢
 grind
theorem leV.osl (o:Option Nat) (k:Nat) (es:List (List AV)):leV (.osl o k es) (.sl k es):=λ_ v h=>by
 simp only [V] at h ⊢
 grind
theorem leL.nil:leL [] []:=λ_ _ h=>h
theorem leL.refl (a5:List AV):leL a5 a5:=λ_ _ h=>h
theorem leL.cons {s:List AV} (h:leV a b) (k:leL r s):leL (a::r) (b::s):=λg vs c=>by
 simp only [VL] at c ⊢;obtain ⟨v,t,e,i,d⟩:=c;exact ⟨v,t,e,h _ _ i,k _ _ d⟩
theorem leL.eq {s:List AV} (k:leL r s):leL (a::r) (a::s):=leL.cons (leV.refl a) k
theorem leL.drop {s:List AV} (k:leL r s):leL (a::r) (.any::s):=leL.cons (leV.any a) k
theorem leL.d4 {c d:AV} {s:List AV} (k:leL r s):leL (a::b::c::d::r) (.any::.any::.any::.any::s):=.drop (.drop (.drop (.drop k)))
theorem leL.d16 {c d e f g h i j l m n o p q:AV} {s:List AV} (k:leL r s):leL (a::b::c::d::e::f::g::h::i::j::l::m::n::o::p::q::r) (.any::.any::.any::.any::.any::.any::.any::.any::.any::.any::.any::.any::.any::.any::.any::.any::s):=.d4 (.d4 (.d4 (.d4 k)))

theorem wk.refl (hd:AH) (env:List AV) (h:AH):wk hd env h env h:=λ_ _ _ _ _ g _ _ d r c=>⟨g,d,r,c,λ_ h=>h⟩
theorem wk.le {hd:AH} {env env':List AV} {h:AH} (k:leL env env'):wk hd env h env' h:=λ_ _ _ _ _ g _ _ d r c=>⟨g,d,r,k _ _ c,λ_ h=>h⟩
theorem wk.cut {hd:AH} {env:List AV} {h:AH} (l:zR hd.blks.length hd.toks.length env=true)
  (q:∀(i:Nat) (k:Blk),i < hd.blks.length->h.blks[i]?=some k->hd.blks[i]?=some k \/ k.low hd.blks.length hd.toks.length=true) :
  wk hd env h env (h.cut hd.blks.length hd.toks.length):=λ_ _ _ _ j g _ c p r m=>⟨g.cut hd.blks.length hd.toks.length,by rw [<- c.slen,<- c.tlen];exact Gh.le_cut p,
   r.cut _ _ (λi k hi e=>by
    rcases q i k hi e with d | d
    ·have n:i < j.σ.length:=by rw [c.slen];exact hi
     have:=c.isLow d;rw [c.slen,c.tlen] at this;exact this
    ·exact d),VL.cut _ _ l m,λ_ h=>h⟩
theorem wk.trans {hd:AH} {env env' c:List AV} {h e:AH} (a:wk hd env h env' h') (b:wk hd env' h' c e):wk hd env h c e:=λB w0 w d j g vs i l r n=>by
 obtain ⟨g',k,k2,m,u⟩:=a B w0 w d j g vs i l r n;obtain ⟨t,p,v,q,s⟩:=b B w0 w d j g' vs i k k2 m
 grind

def cvo:Value->Option AV
 | .bool b=>some (.bool b)
 | .int k n=>some (.int k n)
 | .string s=>if s.size<=maxLen then some (.str s.data.toList) else none
 | .pointer none=>some .nilp
 | .slice none 0 0=>some .nilsl
 | .map none=>some .nilm
 | .nilFunc=>some .nilf
 | .nilIface=>some .nili
 | _=>none
def yu (env:List AV):Operand->Option AV
 | .tmp t=>env[t]?
 | .const (.agg cs)=>if okc (.agg cs) then some (cv (.agg cs)) else none
 | .const v=>cvo v
 | .global g=>some (.glob g)
 | .func f=>some (.fn (.func f) [] [])
theorem zX {env:List AV} {x:Operand} {v:AV} (h:yu env x=some v):yv x=true/\ev env x=v:=by
 cases x with
 | tmp t =>
  simp only [yu] at h;refine ⟨rfl,?_⟩;simp only [ev]
  simp_all
 | const c =>
  cases c with
  | agg cs =>
   simp only [yu] at h;split at h
   ·rename_i hc;cases h;exact ⟨hc,rfl⟩
   ·cases h
  | string s =>
   simp only [yu,cvo] at h;split at h
   ·rename_i hc;cases h;exact ⟨by simpa [yv,okc,okc1] using hc,rfl⟩
   ·cases h
  | slice a b c =>
   simp only [yu] at h;unfold cvo at h;split at h <;> first | cases h | skip
   all_goals first | (cases h;exact ⟨rfl,rfl⟩) | skip
   all_goals simp_all [yv,okc,okc1,ev,cv,cv1]
  | pointer a =>
   cases a with
   | none=>simp only [yu,cvo] at h;cases h;exact ⟨rfl,rfl⟩
   | some a=>simp only [yu,cvo] at h;cases h
  | map a =>
   cases a with
   | none=>simp only [yu,cvo] at h;cases h;exact ⟨rfl,rfl⟩
   | some a=>simp only [yu,cvo] at h;cases h
  | _=>simp only [yu,cvo] at h;first | (cases h;exact ⟨rfl,rfl⟩) | cases h
 | global g=>simp only [yu] at h;cases h;exact ⟨rfl,rfl⟩
 | func f=>simp only [yu] at h;cases h;exact ⟨rfl,rfl⟩

@[irreducible] def gv (b:Bool) (v:AV):AV:=if b then v else aundef
theorem gv_true (v:AV):gv true v=v:=by simp [gv]
theorem gv_false (v:AV):gv false v=aundef:=by simp [gv]

def wL (d:Option Tmp) (env:List AV) (v:AV):Option (List AV) :=
 match d with
 | some d=>some (env.set d v)
 | none=>some env
theorem xT {d:Option Tmp} {env env':List AV} {v:AV} (h:wL d env v=some env'):setd env d v=env':=by
 cases d <;> simp only [wL,ui] at h <;> exact h

section
variable {P:Program} {ops:Array Oper} {Q:List AV->AH->Prop} {o:Oper} {rest:List Oper} {env env':List AV} {h:AH}

theorem zn (hk:Q env h):zS P ops Q [] env h:=hk
theorem zb {v:AV} (e:aG ops o env=some true) (d:zF P o env h=.ok v h') (hd:wL o.dst env v=some env') (c:zS P ops Q rest env' h'):zS P ops Q (o::rest) env h:=by
 refine qT ?_;simp only [e,gwp,d,rwp,xT hd];exact c
theorem qs {n:Nat} {v:AV} (e:aG ops o env=some true) (d:zF P o env h=.len n v h') (hd:wL o.dst env v=some env') (c:n<=maxLen->zS P ops Q rest env' h'):zS P ops Q (o::rest) env h:=by
 refine qT ?_;simp only [e,gwp,d,rwp,xT hd];exact c
theorem ops_call {K:AV->AH->Prop} (e:aG ops o env=some true) (d:zF P o env h=.call f args) (hs:Spec P f args h K)
  (c:∀v h',K v h'->zS P ops Q rest (setd env o.dst v) h'):zS P ops Q (o::rest) env h:=by
 refine qT ?_;simp only [e,gwp,d,rwp];exact hs.mono c
theorem ops_skip (c:aG ops o env=some false) (hd:wL o.dst env aundef=some env') (d:zS P ops Q rest env' h):zS P ops Q (o::rest) env h:=by
 refine qT ?_;simp only [c,gwp,xT hd];exact d
theorem zY {b:Bool} {v:AV} (d:aG ops o env=some b) (e:b=true->zF P o env h=.ok v h) (hd:wL o.dst env (gv b v)=some env') (c:zS P ops Q rest env' h):zS P ops Q (o::rest) env h:=by
 cases b with
 | true=>rw [gv_true] at hd;exact zb d (e rfl) hd c
 | false=>rw [gv_false] at hd;exact ops_skip d hd c
theorem ops_glen {b:Bool} {n:Nat} {v:AV} (d:aG ops o env=some b) (e:b=true->zF P o env h=.len n v h) (hd:wL o.dst env (gv b v)=some env') (c:(b=true->n<=maxLen)->zS P ops Q rest env' h):zS P ops Q (o::rest) env h:=by
 cases b with
 | true=>rw [gv_true] at hd;exact qs d (e rfl) hd λi=>c λ_=>i
 | false=>rw [gv_false] at hd;exact ops_skip d hd (c λg=>by cases g)
theorem zQ {b:Bool} {v:AV} (d:aG ops o env=some b) (g:b=true->zF P o env h=.call f args) (hs:b=true->Spec P f args h λr h'=>r=v/\h'=h)
  (hd:wL o.dst env (gv b v)=some env') (c:zS P ops Q rest env' h):zS P ops Q (o::rest) env h:=by
 cases b with
 | true=>exact ops_call d (g rfl) (hs rfl) λr h' ⟨e,i⟩=>by subst e;subst i;rw [gv_true] at hd;rw [xT hd];exact c
 | false=>rw [gv_false] at hd;exact ops_skip d hd c
end
theorem zP {P:Program} {ops:Array Oper} {Q:List AV->AH->Prop} {o:Oper} {rest:List Oper} {env env':List AV} {h:AH} {v:AV} (g:aG ops o env=some true) (e:zF P o env h=.call f args) (hs:Spec P f args h λr h'=>r=v/\h'=h)
  (hd:wL o.dst env v=some env') (c:zS P ops Q rest env' h):zS P ops Q (o::rest) env h :=
 ops_call g e hs λr h' ⟨d,i⟩=>by subst d;subst i;rw [xT hd];exact c
end Go.Vv
namespace Go.Vv
open Go
variable {t e u:TypeId} {v' a b:AV} {k k' off:Nat} {x y i:Operand} {c:Call} {d:TypeDesc} {cs:List AV}

class Ty (P:Program) (t:TypeId) (d:outParam TypeDesc) (k:outParam Nat):Prop where
 u:P.underlying t=some d
 i:∃i,P.info? t=some i/\i.size=k
class Fo (P:Program) (t:TypeId) (f:Nat) (off:outParam Nat) (u:outParam TypeId) (k:outParam Nat):Prop where
 o:fieldOff P t f=some (off,u)
 i:∃i,P.info? u=some i/\i.size=k
class El (P:Program) (t:TypeId) (e:outParam TypeId) (k:outParam Nat):Prop where
 u:P.underlying t=some (.slice e)
 i:∃i,P.info? e=some i/\i.size=k/\i.bytes<=65536/\0 < k/\(i.zero.map (·.cells.size))=some k

def tyo:AV->Option AV
 | .nilsl=>none
 | .bool b=>some (.bool b)
 | .int k n=>some (.int k n)
 | .str s=>some (.str s)
 | .ptr i o=>some (.ptr i o)
 | .fptr c=>some (.fptr c)
 | .sl k e=>some (.sl k e)
 | .osl q k e=>some (.osl q k e)
 | .msl a b c d=>some (.msl a b c d)
 | .rsl a b c d=>some (.rsl a b c d)
 | .rptr a b c d e=>some (.rptr a b c d e)
 | .rsuf a b c d e=>some (.rsuf a b c d e)
 | .map i=>some (.map i)
 | .fn f a b=>some (.fn f a b)
 | .iface t v=>some (.iface t v)
 | .agg c=>some (.agg c)
 | .tup v=>some (.tup v)
 | .glob g=>some (.glob g)
 | .yld i=>some (.yld i)
 | .bsl k e=>some (.bsl k e)
 | .nsl k e=>some (.nsl k e)
 | .hsl k e=>some (.hsl k e)
 | .hfp c=>some (.hfp c)
 | .hol k=>some (.hol k)
 | .any=>some .any
 | .opq=>some .opq
 | .nilp=>some .nilp
 | .nilm=>some .nilm
 | .nilf=>some .nilf
 | .nili=>some .nili
theorem za {P:Program} {v:AV} (h:tyo v=some v'):tyfix P t v=v':=by
 cases v <;> simp only [tyo] at h <;> first | (cases h;rfl) | cases h
theorem qW {P:Program} (h:El P t e k):tyfix P t .nilsl=.osl none k []:=by
 obtain ⟨i,f,g,_⟩:=h.i;simp only [tyfix,h.u,Program.cellsOf,f];congr 1
section
variable {P:Program} {o:Oper} {env:List AV} {h:AH}

theorem zo {x:Operand} {v v':AV} (ho:o.op=.move x) (hx:yu env x=some v) (ht:tyfix P o.type v=v'):zF P o env h=.ok v' h:=by
 obtain ⟨h1,h2⟩:=zX hx;simp only [zF,ho,h1,ut,h2,ht]
theorem zA {v:AV} (f:o.op=.assign x) (m:yu env x=some v) (l:tyfix P o.type v=v'):zF P o env h=.ok v' h:=by
 obtain ⟨j,g⟩:=zX m;simp only [zF,f,j,ut,g,l]
theorem wy {c a b:Operand} {t:Bool} {x y v:AV} (g:o.op=.pick c a b) (hc:yu env c=some (.bool t)) (l:yu env a=some x) (r:yu env b=some y) (j:(if t then x else y)=v):zF P o env h=.ok v h:=by
 obtain ⟨p,m⟩:=zX hc;obtain ⟨s,n⟩:=zX l;obtain ⟨q,f⟩:=zX r;simp only [zF,g,p,s,q,uT,ut,m,n,f,j]
theorem yH {op:BinOp} {v:AV} (g:o.op=.binOp op t x y u) (q:yu env x=some a) (j:yu env y=some b) (f:yV P op t a b=some v):zF P o env h=.ok v h:=by
 obtain ⟨n,l⟩:=zX q;obtain ⟨p,m⟩:=zX j;simp only [zF,g,n,p,uT,ut,l,m,aNilq_none f,f,oo,rI]
theorem s_un {op:UnOp} {v:AV} (f:o.op=.unOp op t x) (m:yu env x=some a) (g:aUn op a=some v):zF P o env h=.ok v h:=by
 obtain ⟨l,j⟩:=zX m;simp only [zF,f,l,ut,j,g,oo]
theorem s_convert {s:TypeId} {v:AV} {f:TypeDesc} (g:o.op=.convert s t x) (hs:Ty P s d k) (n:Ty P t f k') (p:yu env x=some a) (j:aConvert f a=some v):zF P o env h=.ok v h:=by
 obtain ⟨m,l⟩:=zX p;simp only [zF,g,m,ut,l,hs.u,n.u,j,oo]
theorem s_load {v:AV} (j:o.op=.load t x) (f:Ty P t d k) (q:yu env x=some a) (l:aLoad h (yA d) k a=some v) (g:tyfix P t v=v'):zF P o env h=.ok v' h:=by
 obtain ⟨r,m⟩:=zX q;obtain ⟨i,p,n⟩:=f.i;simp only [zF,j,f.u,p,n,m,l,uY,g,oo]
theorem s_store {g:AV} {f:AH} (m:o.op=.store t x y) (v:Ty P t d k) (z:yu env x=some a) (p:yu env y=some b) (j:tyfix P t b=g) (n:aStore h k a g=some f) :
  zF P o env h=.ok aundef f:=by
 obtain ⟨A,q⟩:=zX z;obtain ⟨w,r⟩:=zX p;obtain ⟨i,s,l⟩:=v.i;simp only [zF,m,w,ut,s,l,q,r,j,n,oh]
theorem s_alloc (f:o.op=.alloc t) (g:xl P t=some cs):zF P o env h=.ok (.ptr h.blks.length 0) (h.new (.cells cs)):=by
 simp only [zF,f,g]
theorem s_box {a':AV} (g:o.op=.box t x) (m:yu env x=some a) (f:tyfix P t a=a') (hc:a'.cells?=some cs):zF P o env h=.ok (.ptr h.blks.length 0) (h.new (.cells cs)):=by
 obtain ⟨l,j⟩:=zX m;simp only [zF,g,l,ut,j,f,hc]
theorem s_nilCheck {v:AV} (j:o.op=.nilCheck x) (n:yu env x=some a) (g:(match a with | .ptr id p=>some (AV.ptr id p) | .fptr cs=>some (.fptr cs) | .fn (.func f) p q=>some (.fn (.func f) p q) | _=>none)=some v) :
  zF P o env h=.ok v h:=by
 obtain ⟨m,l⟩:=zX n;simp only [zF,j,m,ut,l];split at g <;> first | (cases g;rfl) | cases g
theorem zw {f:Nat} {v:AV} (j:o.op=.fieldAddr t x f) (g:Fo P t f off u (k+1)) (r:yu env x=some a) (l:qA off a=some v):zF P o env h=.ok v h:=by
 obtain ⟨p,m⟩:=zX r;obtain ⟨i,q,n⟩:=g.i;simp only [zF,j,g.o,q,n,p,m,l,oo];simp
theorem s_field {f:Nat} {v:AV} (j:o.op=.field t x f) (g:Fo P t f off u k) (hd:Ty P u d k') (s:yu env x=some a) (l:aPart (yA d) off k a=some v) (q:tyfix P u v=v') :
  zF P o env h=.ok v' h:=by
 obtain ⟨p,m⟩:=zX s;obtain ⟨i,r,n⟩:=g.i;simp only [zF,j,g.o,hd.u,r,n,p,ut,m,l,uY,q,oo]
theorem s_indexAddr {v:AV} (l:o.op=.indexAddr t x i) (f:El P t e k) (w:yu env x=some a) (hi:yu env i=some b) (m:vO k a b=some v):zF P o env h=.ok v h:=by
 obtain ⟨q,n⟩:=zX w;obtain ⟨s,p⟩:=zX hi;obtain ⟨j,r,g,_⟩:=f.i;simp only [zF,l,q,s,uT,ut,n,p,f.u,r,g,m,oo]
theorem s_indexArrAddr {n:Nat} {v:AV} (g:o.op=.indexAddr t x i) (w:Ty P t (.array n e) k) (l:Ty P e d k') (A:yu env x=some a) (hi:yu env i=some b)
  (m:aIndexArr n k' a b=some v):zF P o env h=.ok v h:=by
 obtain ⟨r,p⟩:=zX A;obtain ⟨z,q⟩:=zX hi;obtain ⟨j,s,f⟩:=l.i;simp only [zF,g,r,z,uT,ut,p,q,w.u,s,f,m,oo]
theorem s_indexStr {v:AV} (f:o.op=.index t x i) (n:Ty P t .string k) (q:yu env x=some a) (hi:yu env i=some b) (g:aIndexStr a b=some v):zF P o env h=.ok v h:=by
 obtain ⟨m,j⟩:=zX q;obtain ⟨p,l⟩:=zX hi;simp only [zF,f,m,p,uT,ut,j,l,n.u,g,oo]
theorem yj {t:Operand} {i:Nat} {vs:List AV} {v:AV} (g:o.op=.extract t i) (n:yu env t=some (.tup vs)) (j:vs[i]?=some v) (f:tyfix P o.type v=v'):zF P o env h=.ok v' h:=by
 obtain ⟨m,l⟩:=zX n;simp only [zF,g,m,ut,l,j,uY,f,oo]
theorem qv {f:Fn} {a b:Array Operand} {a5 bs:List AV} (s:o.op=.makeFunc f a b) (w:a.toList.mapM (yu env)=some a5) (n:b.toList.mapM (yu env)=some bs):zF P o env h=.ok (.fn f a5 bs) h:=by
 have key:∀(l:List Operand) (a5:List AV),l.mapM (yu env)=some a5->l.all yv=true/\l.map (ev env)=a5:=by
  intro l
  induction l with
  | nil=>intro a5 h;simp at h;subst h;exact ⟨rfl,rfl⟩
  | cons x r ih =>
   intro a5 h;simp only [rd,sP,th,ry,ui] at h;obtain ⟨v,z,vs,A,rfl⟩:=h;obtain ⟨q,m⟩:=zX z
   simp_all
 obtain ⟨q,m⟩:=key _ _ w;obtain ⟨B,p⟩:=key _ _ n;have g:a.all yv=true:=by simp_all
 have j:b.all yv=true:=by simp_all
 simp only [zF,s,g,j,uT,ut,m,p]
def argo (env:List AV):List Operand->List TypeId->Option (List (TypeId×AV))
 | [],[]=>some []
 | x::r,t::ts=>match yu env x,argo env r ts with
  | some v,some vs=>some ((t,v)::vs)
  | _,_=>none
 | _,_=>none
def fixL (P:Program):List (TypeId×AV)->List AV
 | []=>[]
 | (t,v)::r=>tyfix P t v::fixL P r
theorem argo_ok:∀{xs:List Operand} {ts:List TypeId} {l:List (TypeId×AV)},argo env xs ts=some l->xs.all yv=true/\xs.length=ts.length/\(xs.zip ts).map (λp=>tyfix P p.2 (ev env p.1))=fixL P l
 | [],[],l,h=>by simp only [argo,ui] at h;subst h;exact ⟨rfl,rfl,rfl⟩
 | x::r,t::ts,l,h=>by
  simp only [argo] at h;split at h
  ·rename_i v vs g f;cases h;obtain ⟨q,j⟩:=zX g;obtain ⟨s,m,n⟩:=argo_ok f;refine ⟨by simp_all,by simp [m],?_⟩;simp only [List.zip_cons_cons,uw,n,j,fixL]
  ·cases h
 | [],_::_,_,h=>by simp [argo] at h
 | _::_,[],_,h=>by simp [argo] at h
theorem s_call {f:Operand} {g:FuncId} {l:List (TypeId×AV)} {first j args:List AV} (q:o.op=.call c) (hc:c.callee=.value f) (p:yu env f=some (.fn (.func g) first j)) (r:argo env c.args.toList c.argTypes.toList=some l)
  (s:first++fixL P l++j=args):zF P o env h=.call g args:=by
 obtain ⟨w,v⟩:=zX p;obtain ⟨B,A,z⟩:=argo_ok (P:=P) r;have n:c.args.all yv=true:=by grind
 have m:(c.args.size==c.argTypes.size)=true:=by simp_all
 simp only [zF,q,n,m,uT,ut,hc,w,v,z,s];simp
theorem s_lenStr {s:List UInt8} (f:o.op=.call c) (hc:c.callee=.builtin .len) (hs:c.args=#[x]) (m:c.argTypes=#[t]) (l:Ty P t .string k) (n:yu env x=some (.str s)) :
  zF P o env h=.len s.length (.int .i64 s.length) h:=by
 obtain ⟨j,g⟩:=zX n;simp [zF,f,hs,m,hc,j,aBuiltin,l.u,g]
theorem xw {n:Nat} (f:o.op=.call c) (hc:c.callee=.builtin .len) (hs:c.args=#[x]) (m:c.argTypes=#[t]) (l:El P t e k) (p:yu env x=some a) (q:aLen a=some n) :
  zF P o env h=.len n (.int .i64 n) h:=by
 obtain ⟨j,g⟩:=zX p;simp [zF,f,hs,m,hc,j,aBuiltin,l.u,g,q]
theorem s_append {A:TypeId} {a' g v:AV} {m:List (List AV)} {j:AH} (B:o.op=.call c) (hc:c.callee=.builtin .append) (hs:c.args=#[x,y]) (p:c.argTypes=#[t,u]) (l:El P t e k)
  (f:El P u A k') (F:yu env x=some a) (D:yu env y=some b) (K:tyfix P t a=a') (q:tyfix P u b=g) (G:aNews k g=some m) (J:aAppend h k a' m=some (v,j)):zF P o env h=.ok v j:=by
 obtain ⟨s,n⟩:=zX F;obtain ⟨E,r⟩:=zX D;obtain ⟨i,z,H,w,C,I⟩:=l.i;subst H;simp [zF,B,hs,p,hc,s,E,aBuiltin,l.u,f.u,n,r,z,w,C,I,K,q,G,J,ovh]
end
end Go.Vv
namespace Go.Vv
open Go
variable {id:Nat} {b body:Code} {N:List AV->AH->Prop} {K:AV->AH->Prop}

def seqQ (P:Program) (h0:AH) (b:Code) (Q:Exit->List AV->AH->Prop):Exit->List AV->AH->Prop:=λx env' h'=>match x with
 | .normal=>∃env2 h2,wk h0 env' h' env2 h2/\vN P b Q env2 h2
 | x=>Q x env' h'
def blockQ (id:Nat) (Q:Exit->List AV->AH->Prop):Exit->List AV->AH->Prop:=λx env h=>match x with
 | .exit id'=>if id'=id then Q .normal env h else Q (.exit id') env h
 | x=>Q x env h
def loopQ (N:List AV->AH->Prop) (Q:Exit->List AV->AH->Prop):Exit->List AV->AH->Prop:=λx env' h'=>match x with
 | .normal=>N env' h'
 | x=>Q x env' h'

def wE (env:List AV):List (Nat×AV)->List AV
 | []=>env
 | (i,v)::r=>wE (env.set i v) r
def zt:Nat->Nat->List (Nat×AV)->List (Nat×AV)
 | _,0,m=>m
 | i,n+1,m=>(i,.any)::zt (i+1) n m

section
variable {P:Program} {Q:Exit->List AV->AH->Prop} {env:List AV} {h:AH}
theorem x5 (a:Q .normal env h):vN P .skip Q env h:=a
theorem r_label (a:Q .normal env h):vN P (.label id) Q env h:=a
theorem wj (a:Q .ret env h):vN P .ret Q env h:=a
theorem r_exit (a:Q (.exit id) env h):vN P (.exit id) Q env h:=a
theorem zf {l:List Oper} (a:zS P ⟨l⟩ (Q .normal) l env h):vN P (.region id ⟨l⟩ false) Q env h:=a
theorem zz {a:Code} (c:vN P a (seqQ P h b Q) env h):vN P (.seq a b) Q env h:=c
theorem xG {a:Code} (c:vN P a (blockQ id Q) env h):vN P (.block id a) Q env h:=c
theorem r_cond {c:Operand} {t e:Code} {b:Bool} (hc:yu env c=some (.bool b)) (g:b=true->vN P t Q env h) (d:b=false->vN P e Q env h):vN P (.cond c t e) Q env h:=by
 obtain ⟨a,f⟩:=zX hc;refine ⟨a,?_⟩
 simp_all
theorem zy {h0:AH} (a:vN P b Q env h):seqQ P h0 b Q .normal env h:=⟨env,h,wk.refl _ _ _,a⟩
theorem q_seqw {h0:AH} {a:List AV} {c:AH} (d:wk h0 env h a c) (e:vN P b Q a c):seqQ P h0 b Q .normal env h:=⟨a,c,d,e⟩
theorem xM {h0:AH} (a:Q (.exit id) env h):seqQ P h0 b Q (.exit id) env h:=a
theorem wR {h0:AH} (a:Q .ret env h):seqQ P h0 b Q .ret env h:=a
theorem vU (a:Q .normal env h):blockQ id Q .normal env h:=a
theorem q_block_ret (a:Q .ret env h):blockQ id Q .ret env h:=a
theorem xE (a:Q .normal env h):blockQ id Q (.exit id) env h:=by simp only [blockQ,ut];exact a
theorem q_block_miss {j:Nat} (a:j ≠ id) (c:Q (.exit j) env h):blockQ id Q (.exit j) env h:=by simp only [blockQ,uM a];exact c
theorem q_loop (a:N env h):loopQ N Q .normal env h:=a
theorem xD (a:Q (.exit id) env h):loopQ N Q (.exit id) env h:=a
theorem q_loop_ret (a:Q .ret env h):loopQ N Q .ret env h:=a
theorem r_loop2 {σ:Type} (E:σ->List AV) (H:σ->AH) (d:σ->Prop) (i:σ->Nat) (j:σ) (h0:wk h env h (E j) (H j)) (hi:d j)
  (hs:∀s,d s->vN P body (loopQ (λa g=>∃c,d c/\i c < i s/\(wk (H s) a g (E c) (H c) \/ wk h a g (E c) (H c))) Q) (E s) (H s)):vN P (.loop body) Q env h:=by
 refine ⟨λn env h=>∃s,i s=n/\d s/\env=E s/\h=H s,⟨_,_,_,h0,j,rfl,hi,rfl,rfl⟩,?_⟩
 rintro n _ _ ⟨s,l,hi,rfl,rfl⟩
 subst l;have:=hs s hi;have e:(loopQ (λa g=>∃c,d c/\i c < i s/\(wk (H s) a g (E c) (H c) \/ wk h a g (E c) (H c))) Q) =
   (loopQ (λa g=>∃m f k,m < i s/\(wk (H s) a g f k \/ wk h a g f k)/\(∃c,i c=m/\d c/\f=E c/\k=H c)) Q):=by
  grind
 rw [e] at this;exact this
theorem fin_cut {h0:AH} {v v':AV} (c:leV v v') (d:v'.low h0.blks.length h0.toks.length=true)
  (e:∀(i:Nat) (k:Blk),i < h0.blks.length->h.blks[i]?=some k->h0.blks[i]?=some k \/ k.low h0.blks.length h0.toks.length=true) (a:K v' (h.cut h0.blks.length h0.toks.length)):finK h0 K v h :=
 ⟨v',_,(wk.le (leL.cons c leL.nil)).trans (wk.cut (by simp [zR,d]) e),a⟩
theorem wI {h0 a:AH} {v v':AV} (c:wk h0 [v] h [v'] a) (d:K v' a):finK h0 K v h:=⟨v',a,c,d⟩
theorem q_end {fn:Func} {h0:AH} (a:bodyQ P fn h0 K .ret env h):bodyQ P fn h0 K .normal env h:=a
end
theorem leV.of_eq {a b:AV} (h:a=b):leV a b:=h ▸ leV.refl a
theorem rwp_mono {P:Program} {h:AH} {r:Res} {K':AV->AH->Prop} (d:∀v a,K v a->K' v a) (c:rwp P h r K):rwp P h r K':=by
 cases r with
 | ok v a=>exact d _ _ c
 | len n v a=>exact λg=>d _ _ (c g)
 | call f args=>exact Spec.mono c d
 | round id args=>exact SpecY.mono c d
 | any S=>exact λv a e=>d _ _ (c v a e)
 | fail=>exact c
theorem awpOps_mono {P:Program} {a:Array Oper} {Q Q':List AV->AH->Prop} (c:∀e h,Q e h->Q' e h):∀(rest:List Oper) (env:List AV) (h:AH),zS P a Q rest env h->zS P a Q' rest env h
 | [],_,_,hk=>c _ _ hk
 | o::rest,_,_,⟨env,h,hs,hk⟩=>by
  refine ⟨env,h,hs,?_⟩;cases hb:aG a o env with
  | none=>rw [hb] at hk;exact hk
  | some b =>
   rw [hb] at hk;cases b with
   | true=>exact hk.imp (rwp_mono λv d=>awpOps_mono c rest _ _) (bwp_mono λv d=>awpOps_mono c rest _ _)
   | false=>exact awpOps_mono c rest _ _ hk
theorem awpDraw_mono {P:Program} {a:Array Oper} {Ns:List Nat} {F:Nat->AH->Prop} {Q Q':List AV->AH->Prop} (c:∀e h,Q e h->Q' e h):∀(rest:List Oper) (i:Nat) (env:List AV) (h:AH),yd P a Ns F Q i rest env h->yd P a Ns F Q' i rest env h
 | [],_,_,_,hk=>c _ _ hk
 | _::rest,i,_,_,⟨v,h',h1,h2,h4,h3⟩=>⟨v,h',h1,h2,h4,awpDraw_mono c rest (i+1) _ _ h3⟩
theorem awpAny_mono {P:Program} {d:Array Oper} {Q Q':List AV->AH->Prop} (f:∀e h,Q e h->Q' e h):∀(m:Nat) (a:Array Bool) (env:List AV) (h:AH),awpAny P d Q m a env h->awpAny P d Q' m a env h
 | 0,_,_,_,c=>⟨c.1,f _ _ c.2⟩
 | m+1,a,env,h,c=>by
  refine ⟨λe=>f _ _ (c.1 e),λi hi o j=>?_⟩;have c:=c.2 i hi o j;cases hb:aG d o env with
  | none=>rw [hb] at c;exact c
  | some b =>
   rw [hb] at c;cases b with
   | true=>exact c.imp (rwp_mono λv g=>awpAny_mono f m _ _ _) (bwp_mono λv g=>awpAny_mono f m _ _ _)
   | false=>exact awpAny_mono f m _ _ _ c
theorem qp {P:Program}:∀{Q Q':Exit->List AV->AH->Prop} (_:∀x e h,Q x e h->Q' x e h) (c:Code) (env:List AV) (h:AH),vN P c Q env h->vN P c Q' env h
 | _,_,hq,.skip,_,_,hk=>hq _ _ _ hk
 | _,_,hq,.label _,_,_,hk=>hq _ _ _ hk
 | _,_,hq,.exit _,_,_,hk=>hq _ _ _ hk
 | _,_,hq,.ret,_,_,hk=>hq _ _ _ hk
 | _,_,hq,.region _ _ true,_,_,.inl ⟨Ns,F,j,k,d⟩=>.inl ⟨Ns,F,j,k,awpDraw_mono (hq .normal) _ _ _ _ d⟩
 | _,_,hq,.region _ _ true,_,_,.inr ⟨j,d⟩=>.inr ⟨j,awpAny_mono (hq .normal) _ _ _ _ d⟩
 | _,_,hq,.region _ _ false,_,_,hk=>awpOps_mono (hq .normal) _ _ _ hk
 | _,_,hq,.seq a b,_,_,hk=>qp (λx i m j=>by
   cases x with
   | normal=>obtain ⟨w,d,k,l⟩:=j;exact ⟨w,d,k,qp hq b _ _ l⟩
   | _=>exact hq _ _ _ j) a _ _ hk
 | _,_,hq,.cond c t e,env,_,⟨j,d⟩=>by
  refine ⟨j,?_⟩;cases hc:ev env c with
  | bool b =>
   rw [hc] at d;cases b with
   | true=>exact qp hq t _ _ d
   | false=>exact qp hq e _ _ d
  | _=>rw [hc] at d;exact d
 | _,_,hq,.block id body,_,_,hk=>qp (λx i m j=>by
   cases x with
   | exit id' =>
    grind
   | _=>exact hq _ _ _ j) body _ _ hk
 | _,_,hq,.loop body,_,_,⟨I,j,d⟩=>⟨I,j,λn env h y=>qp (λx i m k=>by
   cases x with
   | normal=>exact k
   | _=>exact hq _ _ _ k) body _ _ (d n env h y)⟩
 | _,_,hq,.rangeFunc f ps assign body,env,h,⟨j,d,k,env2,h5,hwk,l⟩=>by
  refine ⟨j,d,k,env2,h5,hwk,?_⟩;split at l
  ·rename_i g first p B
   refine l.mono λr m ⟨z,s,i,u,A,v,q,k2,o⟩=>⟨z,s,i,u,A,v,q,k2,?_⟩
   split at o
   ·simp_all
   ·simp_all
   ·simp_all
   ·exact o
  ·exact l
 | _,_,_,.scope _,_,_,hk=>hk.elim
 | _,_,_,.goto _,_,_,hk=>hk.elim
 | _,_,_,.refuse _,_,_,hk=>hk.elim
theorem r_loop {P:Program} {Q:Exit->List AV->AH->Prop} {env:List AV} {h:AH} {σ:Type} (E:σ->List AV) (H:σ->AH) (a:σ->Prop) (f:σ->Nat) (e:σ) (h0:wk h env h (E e) (H e)) (hi:a e)
  (hs:∀s,a s->vN P body (loopQ (λc g=>∃d,a d/\f d < f s/\wk (H s) c g (E d) (H d)) Q) (E s) (H s)):vN P (.loop body) Q env h :=
 r_loop2 E H a f e h0 hi λs hi=>qp (λx c g i=>by
  cases x with
  | normal=>obtain ⟨d,k,j,l⟩:=i;exact ⟨d,k,j,.inl l⟩
  | _=>exact i) _ _ _ (hs s hi)
end Go.Vv
namespace Go.Vv
open Go
variable {b t q r:Bool} {k:IntKind} {l:List (TypeId×AV)} {f:Operand} {g:FuncId} {args:List AV}

theorem vP {ops:Array Oper} {o:Oper} {env:List AV} {j d:Nat} {want b c:Bool} (hg:o.guard=some (j,want)) (hd:(ops[j]?).bind (·.dst)=some d) (he:env[d]?=some (gv b (.bool c))):aG ops o env=some (b&&(c==want)):=by
 simp only [aG,hg,hd,he];cases b <;> simp [gv,aundef]
theorem zO {env:List AV} {x:Operand} {v:AV} (a:yu env x=some (gv b v)) (c:b=true):yu env x=some v:=by subst c;rw [gv_true] at a;exact a
theorem gT (h:t=true):(t==true)=true:=by rw [h];rfl
theorem gF (h:t=false):(t==false)=true:=by rw [h];rfl
theorem gT2 (a:b=true) (h:t=true):(b&&(t==true))=true:=by simp_all
theorem and_l {a:Bool} (h:(a&&b)=true):a=true:=by simp_all
theorem pick_bb:(if t then AV.bool q else .bool r)=.bool (if t then q else r):=by grind
theorem pick_and (a:t=true->b=true):(if t then gv b (.bool q) else .bool false)=AV.bool (t&&q):=by cases t <;> simp [gv] ; simp [a rfl]
theorem wD (a:t=false->b=true):(if t then .bool true else gv b (.bool q))=AV.bool (t || q):=by cases t <;> simp [gv] ; simp [a rfl]
theorem pick_g1 (a:t=true->b=true):(if t then gv b (.bool q) else .bool r)=AV.bool (if t then q else r):=by cases t <;> simp [gv] ; simp [a rfl]
theorem pick_g2 (a:t=false->b=true):(if t then .bool r else gv b (.bool q))=AV.bool (if t then r else q):=by cases t <;> simp [gv] ; simp [a rfl]
theorem pick_g3 {c:Bool} (d:t=true->b=true) (a:t=false->c=true):(if t then gv b (.bool q) else gv c (.bool r))=AV.bool (if t then q else r):=by cases t <;> simp [gv] <;> simp [d,a]
theorem pick_ii {a b:Int}:(if t then AV.int k a else .int k b)=.int k (if t then a else b):=by grind
theorem pick_ig1 {x y:Int} (a:t=true->b=true):(if t then gv b (.int k x) else .int k y)=AV.int k (if t then x else y):=by cases t <;> simp [gv] ; simp [a rfl]
theorem pick_ig2 {x y:Int} (a:t=false->b=true):(if t then .int k y else gv b (.int k x))=AV.int k (if t then y else x):=by cases t <;> simp [gv] ; simp [a rfl]


section
variable {P:Program} {ops:Array Oper} {Q:List AV->AH->Prop} {o:Oper} {rest:List Oper} {env env':List AV} {h:AH}
variable {i:Nat} {Ns:List Nat} {F:Nat->AH->Prop}
theorem draw_nil (a:Q env h):yd P ops Ns F Q i [] env h:=a
theorem zr (e:Ns.contains i=false) {v:AV} (d:aG ops o env=some true) (c:zF P o env h=.ok v h) (hd:wL o.dst env v=some env') (a:yd P ops Ns F Q (i+1) rest env' h):yd P ops Ns F Q i (o::rest) env h :=
 ⟨v,h,.inl ⟨e,by simp only [AR,d,c,pm]⟩,.inr rfl,.inl rfl,by rw [xT hd];exact a⟩
theorem zN (j:Ns.contains i=false) {v:AV} {a:AH} (m:FOk ((Region.before ops).getD i 0) Ns F a) (hc:anch ops Ns i=true) (e:aG ops o env=some true) (d:zF P o env h=.ok v a) (hd:wL o.dst env v=some env') (c:yd P ops Ns F Q (i+1) rest env' a):yd P ops Ns F Q i (o::rest) env h :=
 ⟨v,a,.inl ⟨j,by simp only [AR,e,d,pm]⟩,.inl hc,.inr m,by rw [xT hd];exact c⟩
theorem draw_len (e:Ns.contains i=false) {n:Nat} {v:AV} (d:aG ops o env=some true) (c:zF P o env h=.len n v h) (hd:wL o.dst env v=some env') (a:yd P ops Ns F Q (i+1) rest env' h):yd P ops Ns F Q i (o::rest) env h :=
 ⟨v,h,.inl ⟨e,by simp only [AR,d,c,pm]⟩,.inr rfl,.inl rfl,by rw [xT hd];exact a⟩
theorem xN (j:Ns.contains i=false) {f:FuncId} {args:List AV} {v:AV} (e:aG ops o env=some true) (d:zF P o env h=.call f args) (hs:Spec P f args h λr c=>r=v/\c=h) (hd:wL o.dst env v=some env') (a:yd P ops Ns F Q (i+1) rest env' h) :
  yd P ops Ns F Q i (o::rest) env h:=⟨v,h,.inl ⟨j,by simp only [AR,e,d];exact hs⟩,.inr rfl,.inl rfl,by rw [xT hd];exact a⟩
theorem zZ (j:Ns.contains i=true) {f:FuncId} {args:List AV} {v:AV} (e:aG ops o env=some true) (d:∀a,zF P o env a=.call f args) (hs:∀a,F i a->Spec P f args a λr hh=>r=v/\hh=a) (hd:wL o.dst env v=some env') (c:yd P ops Ns F Q (i+1) rest env' h) :
  yd P ops Ns F Q i (o::rest) env h:=⟨v,h,.inr (.inl ⟨j,e,rfl,.inl ⟨f,args,d,hs⟩⟩),.inr rfl,.inl rfl,by rw [xT hd];exact c⟩
theorem yX (j:Ns.contains i=true) {v:AV} (e:aG ops o env=some true) (d:∀a,F i a->zF P o env a=.ok v a) (hd:wL o.dst env v=some env') (c:yd P ops Ns F Q (i+1) rest env' h) :
  yd P ops Ns F Q i (o::rest) env h:=⟨v,h,.inr (.inl ⟨j,e,rfl,.inr d⟩),.inr rfl,.inl rfl,by rw [xT hd];exact c⟩
theorem draw_gv (d:Ns.contains i=false) {b:Bool} {v:AV} (c:aG ops o env=some b) (e:b=true->zF P o env h=.ok v h) (hd:wL o.dst env (gv b v)=some env') (a:yd P ops Ns F Q (i+1) rest env' h):yd P ops Ns F Q i (o::rest) env h:=by
 cases b with
 | true=>rw [gv_true] at hd;exact zr d c (e rfl) hd a
 | false=>exact ⟨aundef,h,.inl ⟨d,by simp [AR,c]⟩,.inr rfl,.inl rfl,by rw [gv_false] at hd;rw [xT hd];exact a⟩
theorem draw_glen (d:Ns.contains i=false) {b:Bool} {n:Nat} {v:AV} (c:aG ops o env=some b) (e:b=true->zF P o env h=.len n v h) (hd:wL o.dst env (gv b v)=some env') (a:yd P ops Ns F Q (i+1) rest env' h):yd P ops Ns F Q i (o::rest) env h:=by
 cases b with
 | true=>rw [gv_true] at hd;exact draw_len d c (e rfl) hd a
 | false=>exact ⟨aundef,h,.inl ⟨d,by simp [AR,c]⟩,.inr rfl,.inl rfl,by rw [gv_false] at hd;rw [xT hd];exact a⟩
theorem xz (d:Ns.contains i=false) {b:Bool} {f:FuncId} {args:List AV} {v:AV} (c:aG ops o env=some b) (j:b=true->zF P o env h=.call f args) (hs:b=true->Spec P f args h λr e=>r=v/\e=h)
  (hd:wL o.dst env (gv b v)=some env') (a:yd P ops Ns F Q (i+1) rest env' h):yd P ops Ns F Q i (o::rest) env h:=by
 cases b with
 | true=>rw [gv_true] at hd;exact xN d c (j rfl) (hs rfl) hd a
 | false=>exact ⟨aundef,h,.inl ⟨d,by simp [AR,c]⟩,.inr rfl,.inl rfl,by rw [gv_false] at hd;rw [xT hd];exact a⟩
variable {i0:Nat}
end

inductive Fx (P:Program):List (TypeId×AV)->List AV->Prop
 | nil:Fx P [] []
 | cons {t:TypeId} {v v':AV} {r:List (TypeId×AV)} {s:List AV}:tyfix P t v=v'->Fx P r s->Fx P ((t,v)::r) (v'::s)
theorem Fx.eq {P:Program} {s:List AV} (h:Fx P l s):fixL P l=s:=by
 induction h with
 | nil=>rfl
 | cons h _ ih=>simp only [fixL,h,ih]
theorem zJ {P:Program} {o:Oper} {env:List AV} {h:AH} {c:Call} (d:o.op=.call c) (hc:c.callee=.value f) (a:yu env f=some (.fn (.func g) [] []))
  (e:argo env c.args.toList c.argTypes.toList=some l) (j:Fx P l args):zF P o env h=.call g args :=
 s_call d hc a e (by simp [j.eq])
theorem s_callC {P:Program} {o:Oper} {env:List AV} {h:AH} {c:Call} {first a all:List AV} (j:o.op=.call c) (hc:c.callee=.value f) (e:yu env f=some (.fn (.func g) first a))
  (m:argo env c.args.toList c.argTypes.toList=some l) (n:Fx P l args) (d:first++args++a=all):zF P o env h=.call g all :=
 s_call j hc e m (by rw [n.eq,d])
theorem r_loopU {P:Program} {Q:Exit->List AV->AH->Prop} {env:List AV} {h:AH} {body:Code} {σ:Type} (U:σ->List (Nat×AV)) (a:σ->Prop) (d:σ->Nat) (e:σ) {E:σ->List AV} (m:∀s,wE env (U s)=E s) (h0:leL env (E e)) (hi:a e)
  (hs:∀s,a s->vN P body (loopQ (λenv' j=>∃c,a c/\d c < d s/\wk h env' j (E c) h) Q) (E s) h):vN P (.loop body) Q env h :=
 r_loop E (λ_=>h) a d e (wk.le h0) hi hs
end Go.Vv
namespace Go.Vv
open Go
variable {j k off n:Nat} {cs cs' ds z:List AV} {t e:TypeId} {x:Operand} {d:TypeDesc} {v':AV} {fn:Func} {f:FuncId} {l l':List (Nat×AV)} {ks:List Kd}

def AH.ext (h:AH) (L:List Blk) (M:List Nat):AH:={ blks:=h.blks++L,toks:=h.toks++M }
theorem ext_nil (h:AH):h.ext [] []=h:=by simp [AH.ext]
theorem yy {h:AH} {L:List Blk} {M:List Nat}:(h.ext L M).blk (h.blks.length+j)=L[j]?:=by
 simp only [AH.blk,AH.ext]
 grind
theorem ext_new {h:AH} {L:List Blk} {M:List Nat} {b:Blk}:(h.ext L M).new b=h.ext (L++[b]) M:=by simp [AH.ext,AH.new,uC]
theorem ext_put {h:AH} {L:List Blk} {M:List Nat} {b:Blk}:(h.ext L M).put (h.blks.length+j) b=h.ext (L.set j b) M:=by
 simp only [AH.ext,AH.put]
 simp_all
theorem ext_cut {h:AH} {L:List Blk} {M:List Nat}:(h.ext L M).cut h.blks.length h.toks.length=h:=by
 simp [AH.cut,AH.ext]
def ldC (ag:Bool) (k off:Nat) (cs:List AV):Option AV:=if ag then (if off+k<=cs.length then some (.agg ((cs.drop off).take k)) else none) else cs[off]?
theorem zI {v:AV} (h:cs[off]?=some v):ldC false k off cs=some v:=h
theorem ldC_ag (h:Nat.ble (off+k) cs.length=true) (a:(cs.drop off).take k=cs'):ldC true k off cs=some (.agg cs'):=by
 simp only [ldC,ut,uz (rL h),a]

section
variable {P:Program} {o:Oper} {env:List AV} {h:AH} {L:List Blk} {M:List Nat}
theorem yL (b:o.op=.alloc t) (c:xl P t=some cs) (a:L.length=n):zF P o env (h.ext L M)=.ok (.ptr (h.blks.length+n) 0) (h.ext (L++[.cells cs]) M):=by
 rw [s_alloc b c,ext_new,<- a];simp [AH.ext]
theorem vg {a a':AV} (c:o.op=.box t x) (g:yu env x=some a) (b:tyfix P t a=a') (hc:a'.cells?=some cs) (i:L.length=n) :
  zF P o env (h.ext L M)=.ok (.ptr (h.blks.length+n) 0) (h.ext (L++[.cells cs]) M):=by
 rw [s_box c g b hc,ext_new,<- i];simp [AH.ext]
theorem zH {v:AV} (b:o.op=.load t x) (i:Ty P t d k) (m:yu env x=some (.ptr (h.blks.length+j) off)) (c:L[j]?=some (.cells cs))
  (g:ldC (yA d) k off cs=some v) (a:tyfix P t v=v'):zF P o env (h.ext L M)=.ok v' (h.ext L M):=by
 refine s_load b i m ?_ a;simp only [aLoad,yy,c];exact g
theorem f_load {v:AV} (b:o.op=.load t x) (g:Ty P t d k) (i:yu env x=some (.fptr cs))
  (c:ldC (yA d) k 0 cs=some v) (a:tyfix P t v=v'):zF P o env h=.ok v' h:=by
 refine s_load b g i ?_ a;simp only [aLoad];simpa only [ldC,tx,sa] using c
theorem zG {y:Operand} {vs:List AV} {b a:AV} (g:o.op=.store t x y) (q:Ty P t d k) (s:yu env x=some (.ptr (h.blks.length+j) off)) (p:yu env y=some b)
  (c:tyfix P t b=a) (hc:a.cells?=some vs) (m:vs.length=k) (i:L[j]?=some (.cells cs)) (r:Nat.ble (off+k) cs.length=true) (hs:y8 cs off vs=cs'):zF P o env (h.ext L M)=.ok aundef (h.ext (L.set j (.cells cs')) M):=by
 refine s_store g q s p c ?_;simp only [aStore,hc,yy,i];rw [uz ⟨m,rL r⟩,ext_put,hs]
end
theorem wk_ext2 {h:AH} {L0 L1 L':List Blk} {M0 M1 M':List Nat} {env:List AV} (p:zR (h.blks.length+L0.length) (h.toks.length+M0.length) env=true) (s:L'.take L0.length=L1) (q:M'.take M0.length=M1)
  (r:∀(i:Nat) (k:Blk),L1[i]?=some k->L0[i]?=some k \/ k.low (h.blks.length+L0.length) (h.toks.length+M0.length)=true) :
  wk (h.ext L0 M0) env (h.ext L' M') env (h.ext L1 M1):=by
 have b:(h.ext L0 M0).blks.length=h.blks.length+L0.length:=by simp [AH.ext]
 have c:(h.ext L0 M0).toks.length=h.toks.length+M0.length:=by simp [AH.ext]
 have:=wk.cut (hd:=h.ext L0 M0) (env:=env) (h:=h.ext L' M') (by rw [b,c];exact p) (λi k hi a=>by
  rw [b] at hi;rw [b,c];simp only [AH.ext] at a ⊢;rcases sy i h.blks.length with g | g
  ·rw [un g] at a ⊢;exact .inl a
  ·rw [uj g] at a ⊢;exact r (i - h.blks.length) k (by grind))
 have m:(h.ext L' M').cut (h.ext L0 M0).blks.length (h.ext L0 M0).toks.length=h.ext L1 M1:=by
  rw [b,c];simp only [AH.cut,AH.ext,tV,uv,s,q];rw [uK (l:=h.blks) (by omega),uK (l:=h.toks) (by omega)]
 rw [m] at this;exact this
theorem e_range {P:Program} {o:Oper} {env:List AV} {h:AH} {L:List Blk} {M:List Nat} {s:List UInt8} (a:o.op=.range t x) (g:Ty P t .string k) (i:yu env x=some (.str s)) (m:L.length=n) :
  zF P o env (h.ext L M)=.ok (.ptr (h.blks.length+n) 0) (h.ext (L++[.siter s 0]) M):=by
 obtain ⟨c,b⟩:=zX i;simp only [zF,a,c,ut,g.u,b,ext_new,<- m];simp [AH.ext]
theorem ops_next {P:Program} {b:Array Oper} {Q:List AV->AH->Prop} {o:Oper} {rest:List Oper} {env:List AV} {w:List AV} {u:List AV} {h:AH} {L:List Blk} {M:List Nat} {s:List UInt8} {a:Nat} (q:aG b o env=some true) (v:o.op=.next x true)
  (A:yu env x=some (.ptr (h.blks.length+j) 0)) (y:L[j]?=some (.siter s a)) (m:wL o.dst env (.tup [.bool true,.int .i64 a,.int .i32 (dec s a).1])=some w) (c:wL o.dst env (.tup [.bool false])=some u)
  (i:a < s.length->zS P b Q rest w (h.ext (L.set j (.siter s (a+(dec s a).2))) M)) (g:s.length<=a->zS P b Q rest u (h.ext L M)):zS P b Q (o::rest) env (h.ext L M):=by
 obtain ⟨r,p⟩:=zX A;by_cases hp:a < s.length
 ·refine zb q ?_ m (i hp);simp only [zF,v,r,uT,ut,p,aNext,yy,y,hp,ext_put]
 ·refine zb q ?_ c (g (by omega));simp only [zF,v,r,uT,ut,p,aNext,yy,y,hp,uJ]
section
variable {P:Program} {env:List AV} {h:AH} {rs:List ResultVar} {vs:List AV}
theorem xb:qq P env h []=some []:=rfl
theorem xL {t:Nat} {v:AV} (b:yu env (.tmp t)=some v) (k:qq P env h rs=some vs):qq P env h (.tmp t::rs)=some (v::vs):=by
 have a:env.getD t aundef=v:=by rw [tI,show env[t]?=some v from b];rfl
 simp only [qq,k,a]
theorem wg {a t:Nat} {L:List Blk} {M:List Nat} {v:AV} (c:Ty P t d k) (g:yu env (.tmp a)=some (.ptr (h.blks.length+j) 0)) (m:L[j]?=some (.cells cs)) (p:ldC (yA d) k 0 cs=some v) (w:tyfix P t v=v')
  (r:qq P env (h.ext L M) rs=some vs):qq P env (h.ext L M) (.cell a t::rs)=some (v'::vs):=by
 have b:env.getD a aundef=.ptr (h.blks.length+j) 0:=by rw [tI,show env[a]?=some _ from g];rfl
 obtain ⟨i,s,q⟩:=c.i;simp only [qq,c.u,s,q,b,aLoad,yy,m,r];have e:(if yA d then if 0+k<=cs.length then some (AV.agg ((cs.drop 0).take k)) else none else cs[0]?)=some v:=p
 simp_all
theorem wM {K:AV->AH->Prop} {h0:AH} {v:AV} (c:fn.results=⟨rs⟩) (b:qq P env h rs=some [v]) (a:finK h0 K v h):bodyQ P fn h0 K .ret env h:=by
 simp only [bodyQ,aRes,c,b];exact a
theorem q_retL {K:AV->AH->Prop} {h0:AH} {v w:AV} {r:List AV} (c:fn.results=⟨rs⟩) (b:qq P env h rs=some (v::w::r)) (a:finK h0 K (.tup (v::w::r)) h):bodyQ P fn h0 K .ret env h:=by
 simp only [bodyQ,aRes,c,b];exact a
theorem q_retL0 {K:AV->AH->Prop} {h0:AH} (c:fn.results=⟨rs⟩) (a:qq P env h rs=some []) (b:finK h0 K (.tup []) h):bodyQ P fn h0 K .ret env h:=by
 simp only [bodyQ,aRes,c,a];exact b
end
theorem yf {h:AH} {L:List Blk} {M:List Nat} {K:AV->AH->Prop} {v:AV} (b:leV v v') (c:v'.low h.blks.length h.toks.length=true) (a:K v' h):finK h K v (h.ext L M):=by
 refine fin_cut b c (λi k hi a=>.inl ?_) (by rw [ext_cut];exact a);simp only [AH.ext] at a
 grind
theorem zc {P : Program} {c : Code} (hf : P.funcs[f]? = some fn) (hb : fn.body = some c) (hname : (fn.name == "runtime.NumGoroutine") = false) {args : List AV} {h : AH} {K : AV → AH → Prop} {env : List AV}
  (he:args++List.replicate (fn.ntmps - args.length) aundef=env) (hw:vN P c (bodyQ P fn h K) env (h.ext [] [])):Spec P f args h K:=by
 rw [ext_nil] at hw;exact spec_of_body hf hb hname (by simp_all)
theorem zL (hd:yA d=true) {k off:Nat} {cs cs':List AV} (h:Nat.ble (off+k) cs.length=true) (a:(cs.drop off).take k=cs'):ldC (yA d) k off cs=some (.agg cs'):=by
 rw [hd];exact ldC_ag h a
theorem mkTy {P:Program} (a:P.underlying t=some d) (hi:(P.info? t).map (λi=>i.size)=some k):Ty P t d k:=by
 refine ⟨a,?_⟩
 simp_all
theorem qU {P:Program} {u:TypeId} {f:Nat} (a:fieldOff P t f=some (off,u)) (hi:(P.info? u).map (λi=>i.size)=some k):Fo P t f off u k:=by
 refine ⟨a,?_⟩
 simp_all
theorem mkEl {P:Program} (a:P.underlying t=some (.slice e)) (hi:(P.info? e).map (λi=>(i.size,decide (i.bytes<=65536)&&decide (0 < k)&&(i.zero.map (·.cells.size))==some k))=some (k,true)):El P t e k:=by
 refine ⟨a,?_⟩;cases h:P.info? e with
 | none=>rw [h] at hi;cases hi
 | some i =>
  simp_all
theorem w64 {n:Int} (h:-9223372036854775808<=n/\n<=9223372036854775807):IntKind.i64.wrap n=n:=by rw [IntKind.wrap_i64];omega
theorem xq {n m:Int} (e:n=m) (h:-9223372036854775808<=n/\n<=9223372036854775807):AV.int .i64 (IntKind.i64.wrap n)=.int .i64 m:=by rw [w64 h,e]
theorem zB {env:List AV}:argo env [] []=some []:=rfl
theorem ze {env:List AV} {r:List Operand} {ts:List TypeId} {v:AV} {l:List (TypeId×AV)} (h:yu env x=some v) (k:argo env r ts=some l):argo env (x::r) (t::ts)=some ((t,v)::l):=by
 simp only [argo,h,k]
theorem yD (h:n<=maxLen):n<=9223372036854775807:=h
theorem Spec.le {P:Program} {a5 bs:List AV} {h:AH} {K:AV->AH->Prop} (s:Spec P f bs h K) (k:leL a5 bs):Spec P f a5 h K :=
 ⟨s.1,λB w0 _ g w vs r a=>s.2 B w0 g w vs r (k _ _ a)⟩
abbrev plainK2:=wh
structure PK (P:Program) (t:TypeId) (ks:List Kd):Prop where
 g:P.eqGuardType P.depth t=false
 a:(P.underlying t).any yA=true
 k:wh P 6 t=some ks
theorem mkPK {P:Program} (a:P.eqGuardType P.depth t=false) (b:(P.underlying t).any yA=true) (c:plainK2 P 6 t=some ks):PK P t ks:=⟨a,b,c⟩
theorem bin_eq {P:Program} {b:Bool} (c:PK P t ks) (h:aEqL ks cs ds=some b):yV P .eql t (.agg cs) (.agg ds)=some (.bool b):=by
 simp only [yV,aEq,c.g,c.a,c.k,rI,pm,ut,h,uY]
theorem bin_ne {P:Program} {b:Bool} (c:PK P t ks) (h:aEqL ks cs ds=some b):yV P .neq t (.agg cs) (.agg ds)=some (.bool !b):=by
 simp only [yV,aEq,c.g,c.a,c.k,rI,pm,ut,h,uY]
structure PKA (P:Program) (t:TypeId) (ks:List Kd):Prop where
 g:P.eqGuardType P.depth t=false
 a:(P.underlying t).any yA=true
 k:(wh P 6 t).or (arrKs P t)=some ks
def parto (env:List AV):List (Nat×Operand)->Option (List (Nat×AV))
 | []=>some []
 | (i,x)::r=>match yu env x,parto env r with
  | some v,some vs=>some ((i,v)::vs)
  | _,_=>none
theorem zk {env:List AV}:parto env []=some []:=rfl
theorem zd {env:List AV} {i:Nat} {r:List (Nat×Operand)} {v:AV} (h:yu env x=some v) (k:parto env r=some l):parto env ((i,x)::r)=some ((i,v)::l):=by simp only [parto,h,k]
inductive Fp (P:Program) (d:TypeDesc):List (Nat×AV)->List (Nat×AV)->Prop
 | nil:Fp P d [] []
 | cons {i:Nat} {v v':AV} {r s:List (Nat×AV)}:tyfix P (partTy d i) v=v'->Fp P d r s->Fp P d ((i,v)::r) ((i,v')::s)
theorem parts_ok {P:Program} {d:TypeDesc} {env:List AV}:∀{parts:List (Nat×Operand)} {l l':List (Nat×AV)},parto env parts=some l->Fp P d l l' ->
  parts.all (λp=>yv p.2)=true/\parts.map (λp=>(p.1,tyfix P (partTy d p.1) (ev env p.2)))=l'
 | [],l,l',h,hf=>by simp only [parto,ui] at h;subst h;cases hf;exact ⟨rfl,rfl⟩
 | (i,x)::r,l,l',h,hf=>by
  simp only [parto] at h;split at h
  ·rename_i v vs b a;cases h;cases hf with
   | cons h1 h2 =>
    obtain ⟨q,g⟩:=parts_ok a h2;obtain ⟨m,c⟩:=zX b
    grind
  ·cases h
theorem z8 {P:Program} {o:Oper} {env:List AV} {h:AH} {parts:List (Nat×Operand)} {fs:Array Field} {pl:List (Nat×Nat)} (q:o.op=.build t ⟨parts⟩) (s:P.underlying t=some (.struct fs)) (c:xl P t=some z)
  (g:vq P fs=some pl) (r:parto env parts=some l) (m:Fp P (.struct fs) l l') (v:qd (λi=>pl[i]?) z l'=some cs) (u:cs=cs'):zF P o env h=.ok (.agg cs') h:=by
 obtain ⟨w,b⟩:=parts_ok r m;have a:(⟨parts⟩:Array (Nat×Operand)).all (λp=>yv p.2)=true:=by grind
 simp only [zF,q,a,ut,s,c,g,xA,b,v,uY,oo,u]
theorem s_buildArr {P:Program} {o:Oper} {env:List AV} {h:AH} {parts:List (Nat×Operand)} (q:o.op=.build t ⟨parts⟩) (s:P.underlying t=some (.array n e)) (g:xl P t=some z)
  (w:Ty P e d k) (r:parto env parts=some l) (m:Fp P (.array n e) l l') (y:qd (λi=>some (i * k,k)) z l'=some cs) (v:cs=cs'):zF P o env h=.ok (.agg cs') h:=by
 obtain ⟨A,b⟩:=parts_ok r m;obtain ⟨j,u,c⟩:=w.i;have a:(⟨parts⟩:Array (Nat×Operand)).all (λp=>yv p.2)=true:=by grind
 simp only [zF,q,a,ut,s,g,u,c,xA,b,y,uY,oo,v]
theorem zp {P:Program} {o:Oper} {env:List AV} {h:AH} {parts:List (Nat×Operand)} {es:List (List AV)} (w:o.op=.buildSlice t n ⟨parts⟩) (c:El P t e k) (s:xl P e=some z)
  (m:Nat.ble (n * k) 65536=true) (a:z.length=k) (y:parto env parts=some l) (v:Fp P (.slice e) l l') (C:qd (λi=>some (i * k,k)) ((List.replicate n z).flatten) l'=some cs) (hc:xB cs=some cs') (A:rows k n cs'=es) :
  zF P o env h=.ok (.osl none k es) h:=by
 obtain ⟨D,g⟩:=parts_ok y v;obtain ⟨j,B,q,_,r,_⟩:=c.i;have b:(⟨parts⟩:Array (Nat×Operand)).all (λp=>yv p.2)=true:=by grind
 simp only [zF,w,b,ut,c.u,s,B,q,xA,g,C,hc,A,r,rL m,a,pm]
end Go.Vv
