/- The weakest preconditions over abstract states are sound: code, and functions. -/
import Derived.Test.YtandnkcefogjeaaGreatVvO
namespace Go.Vv
open Go Go.RowKit Go.Lib

theorem min_exists {p:Nat->Prop} (h:∃n,p n):∃m,p m/\∀k,p k->m<=k:=by
 obtain ⟨n,hn⟩:=h
 induction n using Nat.strongRecOn with
 | _ n ih =>
  by_cases hk:∃k,k < n/\p k
  ·obtain ⟨k,h1,h2⟩:=hk;exact ih k h1 h2
  ·exact ⟨n,hn,λk hp=>by
    rcases Nat.lt_or_ge k n with h1 | h1
    ·exact absurd ⟨k,h1,hp⟩ hk
    ·exact h1⟩
open Classical in
noncomputable def least (p:Nat->Prop):Nat:=if h:∃n,p n then Classical.choose (min_exists h) else 0
theorem least_spec {p:Nat->Prop} (h:∃n,p n):p (least p):=by
 unfold least;rw [dif_pos h];exact (Classical.choose_spec (min_exists h)).1
theorem least_le {p:Nat->Prop} {n:Nat} (h:p n):least p<=n:=by
 unfold least;rw [dif_pos ⟨n,h⟩];exact (Classical.choose_spec (min_exists ⟨n,h⟩)).2 n h

section
variable {P:Program} {B:Nat} {w0:World} {ro:Option Nat} {n:Nat} [GOk P B w0]

def Marks (gb g:Gh) (D:List Deferred):Prop:=∃cs:List Nat,D.map (·.target)=cs.map Target.collected/\cs.Nodup/\∀c ∈ cs,c ∈ g.δ/\c ∉ gb.δ
theorem Marks.mono {gb g g':Gh} {D:List Deferred} (h:Marks gb g D) (k:∀c,c ∈ g.δ->c ∈ g'.δ):Marks gb g' D:=by
 obtain ⟨cs,d,e,a⟩:=h;exact ⟨cs,d,e,λc b=>⟨k c (a c b).1,(a c b).2⟩⟩
theorem Marks.nil (gb g:Gh):Marks gb g []:=⟨[],rfl,List.nodup_nil,λ_ h=>by cases h⟩
def StM (B:Nat) (w0:World) (gb g0:Gh) (env:List AV) (h:AH) (a:Act) (w:World):Prop:=∃g,g0.le g/\Rel B w0 g h w/\VL g env a.tmps.toList/\Marks gb g a.defers/\gb.le g

def Gh.addD (g:Gh) (c:Nat):Gh:={ g with δ:=c::g.δ }
theorem Gh.le_addD (g:Gh) (c:Nat):g.le (g.addD c):=⟨λ_ _ _ e=>e,λ_ _ e=>e,λ_ t e=>⟨t,e,Nat.le_refl _,λ_=>rfl,rfl⟩,λ_ h=>List.mem_cons_of_mem _ h⟩
theorem Rel.addD {g:Gh} {h:AH} {w:World} (r:Rel B w0 g h w) {c:Nat} (j:B<=c) (m:w.heap[c]?=some (.deferred (some []))) (hs:∀i:Nat,g.σ[i]? ≠ some c):Rel B w0 (g.addD c) h w :=
 ⟨r.below,r.bsz,r.phi,r.slen,λi x k a b=>by obtain ⟨f,l,e,d⟩:=r.blk i x k a b;exact ⟨f,l,e.mono (g.le_addD c) rfl,d⟩,r.tlen,r.tok,r.sinj,r.tinj,r.sep,λx a=>by
  rcases List.mem_cons.1 a with rfl | a
  ·exact ⟨j,m,hs⟩
  ·exact r.dfr x a,λi k hi b=>(r.row i k hi b).mono (g.le_addD c) (λ_ _ h _=>h) (λ_ _ _ _ _ _ _=>⟨rfl,λ_=>rfl⟩),r.rinj⟩

theorem rangeFunc_sound {M:Operand} {S:Array Tmp} {assign body:Code} {gb g0:Gh} {QA:Exit->List AV->AH->Prop} {env:List AV} {h:AH} {a:Act} {w:World} (y:ro=none)
  (q:vQ P (.rangeFunc M S assign body) QA env h) (hs:StM B w0 gb g0 env h a w) {Q:Exit->Act->World->Prop} (hQ:∀x o N a' w',QA x o N->StM B w0 gb g0 o N a' w'->Q x a' w') :
  (Code.rangeFunc M S assign body).wpIn (WF ro) n P Q a w:=by
 subst y;obtain ⟨g,H,r,A,E,l⟩:=hs;obtain ⟨T,_,_,G,h2,O,q⟩:=q;obtain ⟨g2,u,r2,W,F⟩:=O B w0 w w g g _ r (Gh.le.refl g) r A;replace H:=H.trans u;replace E:=E.mono F;replace l:=l.trans u;clear O F r A u;revert q H E l r2 W;generalize G=env,h2=h,g2=g;intro q r A H E l;have hV:=V.ev A T;split at q
 ·rename_i f first caps hx
  rw [hx] at hV;simp only [V] at hV;obtain ⟨fs,cs,hev,h1,h2⟩:=hV;refine wpIn_rangeFunc λfn hfn=>?_;have y:(WF none).round=none:=rfl;rw [y];obtain ⟨k,t⟩:∃k:LoopState->Option Code->Loop,k=λst C=>{ state:=st,pending:=C,fn,tmps:=a.tmps,params:=S,assign,body,defers:=w.heap.size }:=⟨_,rfl⟩
  have r1:=r.alloc0 (.deferred (some []));have Y:(w.alloc (.deferred (some []))).heap[w.heap.size]?=some (.deferred (some [])):=World.alloc_heap_new w _;have Z:∀i:Nat,g.σ[i]? ≠ some w.heap.size:=λi hi=>by
   have hl:i < h.blks.length:=by rw [<- r.slen];exact (List.getElem?_eq_some_iff.1 hi).1
   have:=(r.blk i _ _ hi (List.getElem?_eq_getElem hl)).2.1;omega
  have r2:=r1.addD (c:=w.heap.size) r.bsz Y Z;have r3:=r2.newBlk (.loop (k .ready none)) (.loop .ready none env S assign body) ⟨fn,a.tmps,w.heap.size,by rw [t];exact World.alloc_heap_new _ _,A.mono ((g.le_addD _).trans (Gh.le_addS _ _))⟩;have hsz:(w.alloc (.deferred (some []))).heap.size=w.heap.size+1:=World.size_alloc ..;have z:((g.addD w.heap.size).addS (w.alloc (.deferred (some []))).heap.size).σ[h.blks.length]?=some (w.heap.size+1):=by
   rw [<- r.slen,hsz];simp [Gh.addS,Gh.addD]
  refine ⟨w.heap.size+1,[{ target:=.collected w.heap.size,args:=#[] }],(w.alloc (.deferred (some []))).alloc (.loop (k .ready none)),{ target:=.fn (.func f) cs,args:=fs++#[.func (.yield (w.heap.size+1)) #[] #[]] },(w.alloc (.deferred (some []))).alloc (.loop (k .ready none)),f,
   fs++#[.func (.yield (w.heap.size+1)) #[] #[]]++cs,(w.alloc (.deferred (some []))).alloc (.loop (k .ready none)),?_,?_,λ_ _=>trivial,?_,λh=>by simp [WF,Fence.wide] at h,?_⟩
  ·rw [t];exact run_enterLoop_outer _ _ _ _ _
  ·simp only [resolve,hev];simp [Deferred.ofValue,go_sem]
  ·simpa [invoke] using q.1 _ _
  ·have hvl:VL ((g.addD w.heap.size).addS (w.alloc (.deferred (some []))).heap.size) (first++[.yld h.blks.length]++caps) (fs++#[Value.func (.yield (w.heap.size+1)) #[] #[]]++cs).toList:=by
    have d:=(g.le_addD w.heap.size).trans (Gh.le_addS _ (w.alloc (.deferred (some []))).heap.size);simp only [Array.toList_append];refine VL.append (VL.append (h1.mono d) (VL.cons ?_ (by simp [VL]))) (h2.mono d);simp only [V];exact ⟨_,z,rfl⟩
   refine callsIn_of ((q.2 B w0 _ _ _ r3 hvl).mono ?_)
   rintro e w3 ⟨v,x,N,g',rfl,⟨st,C,o,L,D,J,hb,X,R⟩,d,r',_⟩
   obtain ⟨_,hlt,⟨I,p,d',hl,_⟩,_⟩:=r'.blk _ _ _ (d.sig _ _ z) hb;have K:=run_endLoop (P:=P) hl X;have r4:Rel B w0 g' (N.put h.blks.length .dead) (w3.putObj (w.heap.size+1) (.loop { state:=.exhausted,pending:=C,fn:=I,tmps:=p,params:=L,assign:=D,body:=J,defers:=d' })) :=
    r'.putObj (d.sig _ _ z) hb (by simp) rfl rfl rfl World.putObj_size (λb U=>World.putObj_heap_other U) trivial
   have j:g.le g':=((g.le_addD _).trans (Gh.le_addS _ _)).trans d;have hmk:Marks gb g' ({ target:=.collected w.heap.size,args:=#[] }::a.defers):=by
    obtain ⟨cs,k1,k2,k3⟩:=E;refine ⟨w.heap.size::cs,by simp [k1],List.nodup_cons.2 ⟨λs=>Nat.lt_irrefl _ (r.dfr_lt (k3 _ s).1),k2⟩,λc s=>?_⟩;rcases List.mem_cons.1 s with rfl | s
    ·exact ⟨d.del _ (by simp [Gh.addS,Gh.addD]),λs=>Nat.lt_irrefl _ (r.dfr_lt (l.del _ s))⟩
    ·exact ⟨j.del _ (k3 c s).1,(k3 c s).2⟩
   have m:StM B w0 gb g0 env (N.put h.blks.length .dead) { a with defers:={ target:=.collected w.heap.size,args:=#[] }::a.defers } (w3.putObj (w.heap.size+1) (.loop { state:=.exhausted,pending:=C,fn:=I,tmps:=p,params:=L,assign:=D,body:=J,defers:=d' })) :=
    ⟨g',H.trans j,r4,A.mono j,hmk,l.trans j⟩
   refine ⟨C,_,K,?_⟩;cases C with
   | none=>exact hQ _ _ _ _ _ R m
   | some c =>
    cases c with
    | ret=>exact wpIn_ret (hQ _ _ _ _ _ R m)
    | exit i=>exact wpIn_exit (hQ _ _ _ _ _ R m)
    | _=>exact R.elim
 ·exact q.elim

theorem vD:∀(c:Code) {gb g0:Gh} {QA:Exit->List AV->AH->Prop} {env:List AV} {h:AH} {a:Act} {w:World},(ro=none \/ noRF c=true)->vQ P c QA env h->StM B w0 gb g0 env h a w->∀{Q:Exit->Act->World->Prop},
  (∀x l M a' w',QA x l M->StM B w0 gb g0 l M a' w'->Q x a' w')->c.wpIn (WF ro) n P Q a w
 | .skip,_,_,_,_,_,_,_,_,d,hs,_,hQ=>wpIn_skip (hQ _ _ _ _ _ d hs)
 | .label _,_,_,_,_,_,_,_,_,d,hs,_,hQ=>wpIn_label (hQ _ _ _ _ _ d hs)
 | .exit _,_,_,_,_,_,_,_,_,d,hs,_,hQ=>wpIn_exit (hQ _ _ _ _ _ d hs)
 | .ret,_,_,_,_,_,_,_,_,d,hs,_,hQ=>wpIn_ret (hQ _ _ _ _ _ d hs)
 | .region id ops draw,gb,g0,QA,env,h,a,w,_,d,hs,Q,hQ=>by
  obtain ⟨g,L,r,N,z,s⟩:=hs;have v:∀l M a' w',St B w0 g a.defers l M a' w'->StM B w0 gb g0 l M a' w':=λl M a' w' ⟨g',R,k2,k3,k4⟩=>⟨g',L.trans R,k2,k3,by rw [k4];exact z.mono R.del,s.trans R⟩
  have hs:St B w0 g a.defers env h a w:=⟨g,Gh.le.refl g,r,N,rfl⟩
  cases draw with
  | false =>
   have h1:=ops_sound (ro:=ro) (n:=n) (Q:=Q) (λenv h a w u E=>hQ .normal env h a w u (v _ _ _ _ E)) ops.toList 0 env h a w rfl d hs;refine wpIn_region ?_;rw [List.range_eq_range'];simpa using h1
  | true =>
   obtain ⟨Ns,F,⟨z,hok⟩,hFh,d⟩ | ⟨z,d⟩:=d
   rotate_left
   ·obtain ⟨g,R,k2,k3,k4⟩:=hs;exact wpIn_region_any z (any_sound (λenv h a w u E=>hQ .normal env h a w u (v _ _ _ _ E)) _ _ _ _ _ _ d ⟨g,R,k2.drew,k3,k4⟩)
   obtain ⟨vs,q,h0,h1,h2⟩:=draw_seq ops.toList 0 env h rfl (Nat.zero_le _) d;have hT:(λw:Nat=>decide (0<=w))=λ_=>true:=by funext w;simp
   rw [hT] at h1 h2;refine wpIn_region_any z (draw_sound (D:=a.defers) (g0:=g) hok (vs:=vs) (hs:=q) (env:=env) (by rw [h0];exact hFh) (λi o ho=>h1 i o (Nat.zero_le _) ho) (λa w E=>hQ .normal _ _ _ _ h2 (v _ _ _ _ E)) ops.size _ a _ (by simp) ?_ (λi j hi=>?_) ?_)
   ·exact Nat.le_trans List.countP_le_length (by simp)
   ·exfalso;rw [Array.getD_eq_getD_getElem?] at hi;rcases Nat.lt_or_ge i ops.size with T | T
    ·simp [T] at hi
    ·rw [Array.getElem?_eq_none (by simpa using T)] at hi;simp at hi
   ·have hF:∀w,(Array.replicate ops.size false).getD w false=false:=λw=>by
     rw [Array.getD_eq_getD_getElem?];rcases Nat.lt_or_ge w ops.size with T | T
     ·simp [T]
     ·rw [Array.getElem?_eq_none (by simpa using T)];rfl
    rw [fE_none _ λw _=>hF w];have hH:fH ops Ns q (λi=>(Array.replicate ops.size false).getD i false) ops.size=h:=by
     have:∀k,fH ops Ns q (λi=>(Array.replicate ops.size false).getD i false) k=h:=λk=>by
      induction k with
      | zero=>exact h0
      | succ k ih=>rw [fH,hF,Bool.false_and];exact ih
     exact this _
    rw [hH];obtain ⟨g,R,k2,k3,k4⟩:=hs;exact ⟨g,R,k2.drew,k3,k4⟩
 | .seq x y,gb,g0,QA,env,h,a,w,hr,d,hs,Q,hQ=>by
  have S:ro=none \/ noRF x=true:=hr.imp id λh=>by simp only [noRF,Bool.and_eq_true] at h;exact h.1
  have U:ro=none \/ noRF y=true:=hr.imp id λh=>by simp only [noRF,Bool.and_eq_true] at h;exact h.2
  obtain ⟨g,L,r,N,z,s⟩:=hs;refine wpIn_seq (vD (gb:=gb) (g0:=g) x S d ⟨g,Gh.le.refl g,r,N,z,s⟩ λe l M a' w' u q=>?_);obtain ⟨g1,H,W,G,J,K⟩:=q;cases e with
  | normal =>
   obtain ⟨X,h2,hk,u⟩:=u;obtain ⟨g2,t,Z,C,A⟩:=hk B w0 w' w g g1 _ r H W G;exact vD (gb:=gb) (g0:=g0) y U u ⟨g2,L.trans t,Z,C,J.mono A,s.trans t⟩ hQ
  | _=>exact hQ _ _ _ _ _ u ⟨g1,L.trans H,W,G,J,K⟩
 | .cond c x y,gb,g0,QA,env,h,a,w,hr,d,hs,Q,hQ=>by
  have S:ro=none \/ noRF x=true:=hr.imp id λh=>by simp only [noRF,Bool.and_eq_true] at h;exact h.1
  have U:ro=none \/ noRF y=true:=hr.imp id λh=>by simp only [noRF,Bool.and_eq_true] at h;exact h.2
  obtain ⟨hc,d⟩:=d;have q:=hs;obtain ⟨g,L,r,N,z,s⟩:=q;have hV:=V.ev N hc;split at d
  ·rename_i b hb;rw [hb] at hV;simp only [V] at hV;refine wpIn_cond hV ?_;cases b with
   | true=>exact vD x S d hs hQ
   | false=>exact vD y U d hs hQ
  ·exact d.elim
 | .block id body,gb,g0,QA,env,h,a,w,hr,d,hs,Q,hQ=>by
  refine wpIn_block (vD body (hr.imp (λh=>h) λh=>h) d hs λe l M a' w' u q=>?_);cases e with
  | exit id' =>
   simp only [Exit.inBlock];by_cases hid:id'=id
   ·simp only [hid,if_true] at u ⊢;exact hQ _ _ _ _ _ u q
   ·simp only [hid,if_false] at u ⊢;exact hQ _ _ _ _ _ u q
  | _=>exact hQ _ _ _ _ _ u q
 | .loop body,gb,g0,QA,env,h,a,w,hr,d,hs,Q,hQ=>by
  have hrb:ro=none \/ noRF body=true:=hr.imp id λh=>h;obtain ⟨I,⟨m0,env0,h0,hk0,hI⟩,O⟩:=d
  let p:Act->World->Nat->Prop:=λa w m=>∃env h,I m env h/\StM B w0 gb g0 env h a w
  obtain ⟨g,L,r,N,z,s⟩:=hs;obtain ⟨g2,t,Z,C,A⟩:=hk0 B w0 w w g g _ r (Gh.le.refl g) r N;refine wpIn_loop (λa w=>∃m,p a w m) (λa w=>least (p a w)) ⟨_,env0,h0,hI,g2,L.trans t,Z,C,z.mono A,s.trans t⟩ λa w hI'=>?_;obtain ⟨l,M,hI2,hs2⟩:=least_spec hI';obtain ⟨g,L,r,N,z,s⟩:=hs2;refine vD (gb:=gb) (g0:=g) body hrb (O _ l M hI2) ⟨g,Gh.le.refl g,r,N,z,s⟩ λe X h2 a2 w2 u hs3=>?_;obtain ⟨g1,H,W,G,J,K⟩:=hs3;cases e with
  | normal =>
   obtain ⟨m,Y,h3,hlt,hk,hI3⟩:=u;obtain ⟨g2,t,Z,C,A⟩:=hk B w0 w2 w g g1 _ r H W G;have hp:p a2 w2 m:=⟨Y,h3,hI3,g2,L.trans t,Z,C,J.mono A,s.trans t⟩
   exact ⟨⟨_,hp⟩,Nat.lt_of_le_of_lt (least_le hp) hlt⟩
  | _=>exact hQ _ _ _ _ _ u ⟨g1,L.trans H,W,G,J,K⟩
 | .rangeFunc f ps assign body,gb,g0,QA,env,h,a,w,hr,d,hs,Q,hQ=>rangeFunc_sound (hr.elim id λh=>by cases h) d hs hQ
 | .scope _,_,_,_,_,_,_,_,_,d,_,_,_=>d.elim
 | .goto _,_,_,_,_,_,_,_,_,d,_,_,_=>d.elim
 | .refuse _,_,_,_,_,_,_,_,_,d,_,_,_=>d.elim
end

def aResL (P:Program) (env:List AV) (h:AH):List ResultVar->Option (List AV)
 | []=>some []
 | .tmp t::r=>match aResL P env h r with
  | some vs=>some (env.getD t aundef::vs)
  | none=>none
 | .cell a t::r=>match P.underlying t,P.info? t with
  | some d,some i=>match aLoad h (z7 d) i.size (env.getD a aundef),aResL P env h r with
   | some v,some vs=>some (tyfix P t v::vs)
   | _,_=>none
  | _,_=>none
def aRes (P:Program) (fn:Func) (env:List AV) (h:AH):Option AV :=
 match aResL P env h fn.results.toList with
 | some [v]=>some v
 | some vs=>some (.tup vs)
 | none=>none

def leV (a b:AV):Prop:=∀g v,V g a v->V g b v
theorem leV.refl (a:AV):leV a a:=λ_ _ h=>h
def finK (h0:AH) (K:AV->AH->Prop) (r0:AV) (h:AH):Prop:=∃r h',wk h0 [r0] h [r] h'/\K r h'
def bodyQ (P:Program) (fn:Func) (h0:AH) (K:AV->AH->Prop) (x:Exit) (env:List AV) (h:AH):Prop :=
 match x with
 | .normal | .ret=>match aRes P fn env h with
  | some r=>finK h0 K r h
  | none=>False
 | _=>False

section
variable {P:Program}
def resF (tmps:Array Value):ResultVar->Sem Value
 | .tmp t=>pure (tmps.getD t undef)
 | .cell a t=>do loadVar t (<- asAddr (tmps.getD a undef))
theorem results_eq (fn:Func) (tmps:Array Value):results fn tmps=(do let vs <- fn.results.mapM (resF tmps);pure (if h:vs.size=1 then vs[0] else .tuple vs)):=by
 unfold results resF;rfl
theorem resL_sound {B:Nat} {w0 w:World} {g:Gh} {h:AH} (r:Rel B w0 g h w) {env:List AV} {tmps:Array Value} (e:VL g env tmps.toList):∀{c:List ResultVar} {vs:List AV},aResL P env h c=some vs ->
  ∃us,(c.mapM (resF tmps)).run P w=.ok us w/\VL g vs us
 | [],vs,h=>by simp only [aResL,Option.some.injEq] at h;subst h;exact ⟨[],by simp,by simp [VL]⟩
 | .tmp t::c,vs,h=>by
  simp only [aResL] at h;split at h
  ·rename_i j k;cases h;obtain ⟨us,f,l⟩:=resL_sound r e k;refine ⟨tmps.getD t undef::us,by simp only [List.mapM_cons,Sem.run_bind,resF,Sem.run_pure,Result.andThen_ok,f],VL.cons ?_ l⟩;exact V.ev (a:={ tmps:=tmps,defers:=[] }) e (x:=.tmp t) rfl
  ·cases h
 | .cell ad t::c,vs,h=>by
  simp only [aResL] at h;split at h
  ·rename_i d i hd hi;split at h
   ·rename_i v j o k;cases h;obtain ⟨us,f,l⟩:=resL_sound r e k;have y:=V.ev (a:={ tmps:=tmps,defers:=[] }) e (x:=.tmp ad) rfl;obtain ⟨u,b,m⟩:=load_sound r hd hi y o;refine ⟨u::us,?_,VL.cons m.tyfix l⟩;have s:(do loadVar t (<- asAddr (tmps.getD ad undef)):Sem Value).run P w=.ok u w:=by
     have p:Act.eval { tmps:=tmps,defers:=[] } (.tmp ad)=tmps.getD ad undef:=rfl;rw [p] at b;generalize tmps.getD ad undef=pv at b ⊢;cases pv with
     | pointer x =>
      cases x with
      | none=>simp [Instr.loadAt,Instr.sureAddr] at b
      | some x=>simpa [Instr.loadAt,Instr.sureAddr,asAddr] using b
     | _=>simp [Instr.loadAt,Instr.sureAddr] at b
    have q:(resF tmps (.cell ad t)).run P w=.ok u w:=s;simp only [List.mapM_cons,Sem.run_bind,q,Result.andThen_ok,f,Sem.run_pure]
   ·cases h
  ·cases h

theorem res_sound {B:Nat} {w0 w:World} {g:Gh} {h:AH} (r:Rel B w0 g h w) {env:List AV} {tmps:Array Value} (j:VL g env tmps.toList) {fn:Func} {v:AV} (c:aRes P fn env h=some v) :
  ∃u,(results fn tmps).run P w=.ok u w/\V g v u:=by
 unfold aRes at c;have key:∀vs,aResL P env h fn.results.toList=some vs->∃us:List Value,(results fn tmps).run P w=.ok (if h:us.length=1 then us[0] else .tuple us.toArray) w/\VL g vs us:=by
  intro vs a;obtain ⟨us,d,b⟩:=resL_sound r j a;refine ⟨us,?_,b⟩;rw [results_eq,Array.mapM_eq_mapM_toList];simp only [Sem.run_bind,Sem.run_map,d,Result.andThen_ok,Sem.run_pure];congr 1
 split at c
 ·rename_i k a;cases c;obtain ⟨us,d,b⟩:=key _ a;simp only [VL] at b;obtain ⟨u,s,rfl,i,rfl⟩:=b;exact ⟨u,by simpa using d,i⟩
 ·rename_i vs f a;cases c;obtain ⟨us,d,b⟩:=key _ a;have e:us.length ≠ 1:=by
   intro e;rw [<- b.length] at e;rcases vs with _ | ⟨x,_ | ⟨y,r⟩⟩ <;> simp at e;exact f x rfl
  refine ⟨.tuple us.toArray,by rw [d,dif_neg e],?_⟩;simp only [V];exact ⟨_,rfl,b⟩
 ·cases c

theorem VL.undefs {g:Gh}:∀k,VL g (List.replicate k aundef) (List.replicate k undef)
 | 0=>by simp [VL]
 | k+1=>by simp only [List.replicate_succ];exact VL.cons V.ofUndef (VL.undefs k)

theorem Rel.shut {B:Nat} {w0 w:World} {g:Gh} {h:AH} (r:Rel B w0 g h w) {c:Nat} (T:c ∈ g.δ):Rel B w0 { g with δ:=g.δ.filter (· != c) } h (w.putObj c (.deferred none)):=by
 have hd:=r.dfr c T;have f:∀b,b ≠ c->(w.putObj c (.deferred none)).heap[b]?=w.heap[b]?:=λb I=>World.putObj_heap_other I;have M:g.le { g with δ:=g.δ }:=Gh.le.refl g;refine ⟨⟨r.below.os,r.below.tape,r.below.output,by simpa using r.below.size,λb I=>(f b (by omega)).trans (r.below.block b I)⟩,by simpa using r.bsz,λb j v e=>?_,r.slen,λi x k A H=>?_,r.tlen,λi t S=>?_,r.sinj,r.tinj,r.sep,λx A=>?_,λi k hi H=>?_,r.rinj⟩
 ·have q:b ≠ c:=by
   rintro rfl
   have:=r.phi b j v e;unfold World.cell? at this;simp [hd.2.1] at this
  exact (World.cell?_of_block (w:=w) (a:=⟨b,j,none⟩) (f b q)).trans (r.phi b j v e)
 ·obtain ⟨E,F,y,G⟩:=r.blk i x k A H;refine ⟨E,by simpa using F,?_,G⟩;have q:x ≠ c:=by rintro rfl;exact hd.2.2 i A
  have C:=f x q;cases k with
  | cells cs=>obtain ⟨vs,t,u,p⟩:=y;exact ⟨vs,t,C.trans u,VA.dd p⟩
  | siter s pos=>exact C.trans y
  | mapo es clock=>obtain ⟨ents,n,u,p,J⟩:=y;exact ⟨ents,n,C.trans u,ME.dd p,J⟩
  | loop st pe env ps assign body=>obtain ⟨fn,tmps,d,u,p⟩:=y;exact ⟨fn,tmps,d,C.trans u,VL.dd p⟩
  | row _ _ _=>exact y
  | miter id n seen=>obtain ⟨m,u,p⟩:=y;exact ⟨m,u,C.trans p⟩
  | miter0=>exact C.trans y
  | other=>trivial
  | dead=>trivial
 ·obtain ⟨E,F⟩:=r.tok i t S;refine ⟨E,λb l e N=>?_⟩;have lo:=F b l e N;refine lo.mono (by simp) (f b ?_) λ_ _=>rfl
  rintro rfl
  obtain ⟨cs,ty,D,_⟩:=lo.cells;rw [hd.2.1] at D;cases D
 ·simp only [List.mem_filter,bne_iff_ne,ne_eq] at A;have z:=r.dfr x A.1;exact ⟨z.1,(f x A.2).trans z.2.1,z.2.2⟩
 ·have K:=r.row i k hi H;cases k with
  | row i2 p e2 =>
   obtain ⟨t,E,F,y,G,R,Q⟩:=K;refine ⟨t,E,F,y,G,R,Q.imp (λh=>h) ?_⟩
   rintro ⟨b,o,e,cs,ty,u,p,J,O,L⟩
   have q:b ≠ c:=by rintro rfl;rw [hd.2.1] at p;cases p
   exact ⟨b,o,e,cs,ty,u,(f b q).trans p,VA.dd J,O,L⟩
  | dead=>trivial
  | _=>exact K.elim

theorem leaves_marks {B:Nat} {w0:World} {g0:Gh} {h:AH} {env:List AV} {fn:Func} {tmps:Array Value} {R:Ending->World->Prop}:∀(D:List Deferred) (cs:List Nat) (w:World) {g:Gh},D.map (·.target)=cs.map Target.collected->cs.Nodup ->
  (∀(a:World) (e:Gh),g0.le e->Rel B w0 e h a->VL e env tmps.toList->∃v,(results fn tmps).run P a=.ok v a/\R (.returned v) a) ->
  g0.le g->Rel B w0 g h w->VL g env tmps.toList->(∀c ∈ cs,c ∈ g.δ)->(∀c ∈ cs,c ∉ g0.δ)->LeavesInM (WF none) 0 P fn tmps R D .returning w
 | [],cs,w,g,f,_,hfin,hg,r,he,_,_=>hfin w g hg r he
 | d::D,cs,w,g,f,hnd,hfin,hg,r,he,h1,h2=>by
  cases cs with
  | nil=>simp at f
  | cons c cs =>
   simp only [List.map_cons,List.cons.injEq] at f;obtain ⟨hd,f⟩:=f;have i:=h1 c (by simp);refine ⟨by simp,.inl ⟨c,_,hd,run_takeDeferred (r.dfr c i).2.1,?_⟩⟩;refine leaves_marks D cs _ (g:={ g with δ:=g.δ.filter (· != c) }) f (List.nodup_cons.1 hnd).2 hfin ⟨hg.phi,hg.sig,hg.tau,λx b=>?_⟩ (r.shut i) (VL.dd he) (λx b=>?_) λx b=>h2 x (by simp [b])
   ·simp only [List.mem_filter,bne_iff_ne,ne_eq];exact ⟨hg.del x b,by rintro rfl;exact h2 x (by simp) b⟩
   ·simp only [List.mem_filter,bne_iff_ne,ne_eq];exact ⟨h1 x (by simp [b]),by rintro rfl;exact (List.nodup_cons.1 hnd).1 b⟩

theorem spec_of_body {f : FuncId} {fn : Func} {c : Code} (hf : P.funcs[f]? = some fn) (hb : fn.body = some c) (hname : (fn.name == "runtime.NumGoroutine") = false) {args : List AV} {h : AH} {K : AV → AH → Prop}
  (hw:vQ P c (bodyQ P fn h K) (args++List.replicate (fn.ntmps - args.length) aundef) h):Spec P f args h K:=by
 have hn : ¬ fn.name = "runtime.NumGoroutine" := by simpa using hname
 refine ⟨λvs w=>by simp [callFunc,hf,hb,hn],λB w0 _ g w vs r hv=>?_⟩;refine callsIn_wide.1 (callsIn_of_wp_marks (F:=WF none) (n:=0) hf hb trivial ?_ rfl);have hlen:args.length=vs.size:=by rw [hv.length];rfl
 refine vD (B:=B) (w0:=w0) (gb:=g) (g0:=g) c (.inl rfl) hw ⟨g,Gh.le.refl g,r,?_,Marks.nil _ _,Gh.le.refl g⟩ λx env' h' a' w' hq hs=>?_
 ·simp only [Array.toList_append,Array.toList_replicate,hlen];exact VL.append hv (VL.undefs _)
 ·obtain ⟨g',hg,r',he,hm,_⟩:=hs;have fin:(match aRes P fn env' h' with | some r=>finK h K r h' | none=>False) ->
    LeavesInM (WF none) 0 P fn a'.tmps (λe w''=>∃v' r h2 g2,e=.returned v'/\K r h2/\g.le g2/\Rel B w0 g2 h2 w''/\V g2 r v') a'.defers .returning w':=by
   intro hfin;split at hfin
   ·rename_i rv hr;obtain ⟨cs,hD,hnd,hcs⟩:=hm;refine leaves_marks a'.defers cs w' hD hnd ?_ hg r' he (λc hc=>(hcs c hc).1) (λc hc=>(hcs c hc).2);intro w'' g'' hg'' r'' he'';obtain ⟨u,h1,h2⟩:=res_sound r'' he'' hr;refine ⟨u,h1,u,?_⟩;obtain ⟨rv,h2',hwk,hK⟩:=hfin;obtain ⟨g2,k1,k2,k3,_⟩:=hwk B w0 w'' w g g'' [u] r hg'' r'' (VL.cons h2 (by simp [VL]));simp only [VL] at k3;obtain ⟨v,s,e,k4,_⟩:=k3;injection e with e1 e2;subst e1;exact ⟨rv,h2',g2,rfl,hK,k1,k2,k4⟩
   ·exact hfin.elim
  cases x with
  | normal=>exact fin hq
  | ret=>exact fin hq
  | _=>exact hq.elim
end
end Go.Vv
