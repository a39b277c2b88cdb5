/- The weakest preconditions over abstract states are sound: code, and functions. -/
import Derived.Test.YtdkfnnpdeenhnaaGreatVvO
namespace Go.Vv
open Go Go.RowKit Go.Lib

theorem min_exists {p:Nat->Prop} (h:∃n,p n):∃m,p m/\∀k,p k->m<=k:=by
 obtain ⟨n,hn⟩:=h
 induction n using Nat.strongRecOn with
 | _ n ih =>
  by_cases hk:∃k,k < n/\p k
  ·obtain ⟨k,h1,h2⟩:=hk;exact ih k h1 h2
  ·exact ⟨n,hn,λk hp=>by
    rcases Nat.lt_or_ge k n with h1 | h1
    ·exact absurd ⟨k,h1,hp⟩ hk
    ·exact h1⟩
open Classical in
noncomputable def least (p:Nat->Prop):Nat:=if h:∃n,p n then Classical.choose (min_exists h) else 0
theorem least_spec {p:Nat->Prop} (h:∃n,p n):p (least p):=by
 unfold least;rw [dif_pos h];exact (Classical.choose_spec (min_exists h)).1
theorem least_le {p:Nat->Prop} {n:Nat} (h:p n):least p<=n:=by
 unfold least;rw [dif_pos ⟨n,h⟩];exact (Classical.choose_spec (min_exists ⟨n,h⟩)).2 n h

section
variable {P:Program} {B:Nat} {w0:World} {ro:Option Nat} {n:Nat} [GOk P B w0]

def Marks (gb g:Gh) (D:List Deferred):Prop:=∃cs:List Nat,D.map (·.target)=cs.map Target.collected/\cs.Nodup/\∀c ∈ cs,c ∈ g.δ/\c ∉ gb.δ
theorem Marks.mono {gb g g':Gh} {D:List Deferred} (h:Marks gb g D) (k:∀c,c ∈ g.δ->c ∈ g'.δ):Marks gb g' D:=by
 obtain ⟨cs,d,e,a⟩:=h;exact ⟨cs,d,e,λc b=>⟨k c (a c b).1,(a c b).2⟩⟩
theorem Marks.nil (gb g:Gh):Marks gb g []:=⟨[],rfl,List.nodup_nil,λ_ h=>by cases h⟩
def StM (B:Nat) (w0:World) (gb g0:Gh) (env:List AV) (h:AH) (a:Act) (w:World):Prop:=∃g,g0.le g/\Rel B w0 g h w/\VL g env a.tmps.toList/\Marks gb g a.defers/\gb.le g

def Gh.addD (g:Gh) (c:Nat):Gh:={ g with δ:=c::g.δ }
theorem Gh.le_addD (g:Gh) (c:Nat):g.le (g.addD c):=⟨λ_ _ _ e=>e,λ_ _ e=>e,λ_ t e=>⟨t,e,Nat.le_refl _,λ_=>rfl,rfl⟩,λ_ h=>List.mem_cons_of_mem _ h⟩
theorem Rel.addD {g:Gh} {h:AH} {w:World} (r:Rel B w0 g h w) {c:Nat} (e:B<=c) (m:w.heap[c]?=some (.deferred (some []))) (hs:∀i:Nat,g.σ[i]? ≠ some c):Rel B w0 (g.addD c) h w :=
 ⟨r.below,r.bsz,r.phi,r.slen,λi x k a b=>by obtain ⟨l,f,d,j⟩:=r.blk i x k a b;exact ⟨l,f,d.mono (g.le_addD c) rfl,j⟩,r.tlen,r.tok,r.sinj,r.tinj,r.sep,λx a=>by
  rcases List.mem_cons.1 a with rfl | a
  ·exact ⟨e,m,hs⟩
  ·exact r.dfr x a,λi k hi b=>(r.row i k hi b).mono (g.le_addD c) (λ_ _ h _=>h) (λ_ _ _ _ _ _ _=>⟨rfl,λ_=>rfl⟩),r.rinj⟩

theorem rangeFunc_sound {M:Operand} {ps:Array Tmp} {assign body:Code} {gb g0:Gh} {QA:Exit->List AV->AH->Prop} {env:List AV} {h:AH} {a:Act} {w:World} (y:ro=none)
  (q:wP P (.rangeFunc M ps assign body) QA env h) (hs:StM B w0 gb g0 env h a w) {Q:Exit->Act->World->Prop} (W:∀x m I a' w',QA x m I->StM B w0 gb g0 m I a' w'->Q x a' w') :
  (Code.rangeFunc M ps assign body).wpIn (WF ro) n P Q a w:=by
 subst y;obtain ⟨g,R,r,A,D,k⟩:=hs;obtain ⟨hok,_,_,N,Y,E,q⟩:=q;obtain ⟨g2,u,r2,he2,G⟩:=E B w0 w w g g _ r (Gh.le.refl g) r A;replace R:=R.trans u;replace D:=D.mono G;replace k:=k.trans u;clear E G r A u;revert q R D k r2 he2;generalize N=env,Y=h,g2=g;intro q r A R D k;have hV:=V.ev A hok;split at q
 ·rename_i f first K hx
  rw [hx] at hV;simp only [V] at hV;obtain ⟨fs,cs,hev,h1,Y⟩:=hV;refine wpIn_rangeFunc λfn hfn=>?_;have y:(WF none).round=none:=rfl;rw [y];obtain ⟨l,t⟩:∃l:LoopState->Option Code->Loop,l=λst C=>{ state:=st,pending:=C,fn,tmps:=a.tmps,params:=ps,assign,body,defers:=w.heap.size }:=⟨_,rfl⟩
  have r1:=r.alloc0 (.deferred (some []));have X:(w.alloc (.deferred (some []))).heap[w.heap.size]?=some (.deferred (some [])):=World.alloc_heap_new w _;have T:∀i:Nat,g.σ[i]? ≠ some w.heap.size:=λi hi=>by
   have hl:i < h.blks.length:=by rw [<- r.slen];exact (List.getElem?_eq_some_iff.1 hi).1
   have:=(r.blk i _ _ hi (List.getElem?_eq_getElem hl)).2.1;omega
  have r2:=r1.addD (c:=w.heap.size) r.bsz X T;have r3:=r2.newBlk (.loop (l .ready none)) (.loop .ready none env ps assign body) ⟨fn,a.tmps,w.heap.size,by rw [t];exact World.alloc_heap_new _ _,A.mono ((g.le_addD _).trans (Gh.le_addS _ _))⟩;have hsz:(w.alloc (.deferred (some []))).heap.size=w.heap.size+1:=World.size_alloc ..;have z:((g.addD w.heap.size).addS (w.alloc (.deferred (some []))).heap.size).σ[h.blks.length]?=some (w.heap.size+1):=by
   rw [<- r.slen,hsz];simp [Gh.addS,Gh.addD]
  refine ⟨w.heap.size+1,[{ target:=.collected w.heap.size,args:=#[] }],(w.alloc (.deferred (some []))).alloc (.loop (l .ready none)),{ target:=.fn (.func f) cs,args:=fs++#[.func (.yield (w.heap.size+1)) #[] #[]] },(w.alloc (.deferred (some []))).alloc (.loop (l .ready none)),f,
   fs++#[.func (.yield (w.heap.size+1)) #[] #[]]++cs,(w.alloc (.deferred (some []))).alloc (.loop (l .ready none)),?_,?_,λ_ _=>trivial,?_,λh=>by simp [WF,Fence.wide] at h,?_⟩
  ·rw [t];exact run_enterLoop_outer _ _ _ _ _
  ·simp only [resolve,hev];simp [Deferred.ofValue,go_sem]
  ·simpa [invoke] using q.1 _ _
  ·have Z:VL ((g.addD w.heap.size).addS (w.alloc (.deferred (some []))).heap.size) (first++[.yld h.blks.length]++K) (fs++#[Value.func (.yield (w.heap.size+1)) #[] #[]]++cs).toList:=by
    have d:=(g.le_addD w.heap.size).trans (Gh.le_addS _ (w.alloc (.deferred (some []))).heap.size);simp only [Array.toList_append];refine VL.append (VL.append (h1.mono d) (VL.cons ?_ (by simp [VL]))) (Y.mono d);simp only [V];exact ⟨_,z,rfl⟩
   refine callsIn_of ((q.2 B w0 _ _ _ r3 Z).mono ?_)
   rintro e w3 ⟨v,x,I,g',rfl,⟨st,C,m,J,F,O,hb,U,S⟩,d,r',_⟩
   obtain ⟨_,hlt,⟨L,o,d',hl,_⟩,_⟩:=r'.blk _ _ _ (d.sig _ _ z) hb;have H:=run_endLoop (P:=P) hl U;have r4:Rel B w0 g' (I.put h.blks.length .dead) (w3.putObj (w.heap.size+1) (.loop { state:=.exhausted,pending:=C,fn:=L,tmps:=o,params:=J,assign:=F,body:=O,defers:=d' })) :=
    r'.putObj (d.sig _ _ z) hb (by simp) rfl rfl rfl World.putObj_size (λb hb'=>World.putObj_heap_other hb') trivial
   have j:g.le g':=((g.le_addD _).trans (Gh.le_addS _ _)).trans d;have hmk:Marks gb g' ({ target:=.collected w.heap.size,args:=#[] }::a.defers):=by
    obtain ⟨cs,k1,k2,k3⟩:=D;refine ⟨w.heap.size::cs,by simp [k1],List.nodup_cons.2 ⟨λs=>Nat.lt_irrefl _ (r.dfr_lt (k3 _ s).1),k2⟩,λc s=>?_⟩;rcases List.mem_cons.1 s with rfl | s
    ·exact ⟨d.del _ (by simp [Gh.addS,Gh.addD]),λs=>Nat.lt_irrefl _ (r.dfr_lt (k.del _ s))⟩
    ·exact ⟨j.del _ (k3 c s).1,(k3 c s).2⟩
   have p:StM B w0 gb g0 env (I.put h.blks.length .dead) { a with defers:={ target:=.collected w.heap.size,args:=#[] }::a.defers } (w3.putObj (w.heap.size+1) (.loop { state:=.exhausted,pending:=C,fn:=L,tmps:=o,params:=J,assign:=F,body:=O,defers:=d' })) :=
    ⟨g',R.trans j,r4,A.mono j,hmk,k.trans j⟩
   refine ⟨C,_,H,?_⟩;cases C with
   | none=>exact W _ _ _ _ _ S p
   | some c =>
    cases c with
    | ret=>exact wpIn_ret (W _ _ _ _ _ S p)
    | exit i=>exact wpIn_exit (W _ _ _ _ _ S p)
    | _=>exact S.elim
 ·exact q.elim

theorem vq:∀(c:Code) {gb g0:Gh} {QA:Exit->List AV->AH->Prop} {env:List AV} {h:AH} {a:Act} {w:World},(ro=none \/ noRF c=true)->wP P c QA env h->StM B w0 gb g0 env h a w->∀{Q:Exit->Act->World->Prop},
  (∀x l L a' w',QA x l L->StM B w0 gb g0 l L a' w'->Q x a' w')->c.wpIn (WF ro) n P Q a w
 | .skip,_,_,_,_,_,_,_,_,d,hs,_,hQ=>wpIn_skip (hQ _ _ _ _ _ d hs)
 | .label _,_,_,_,_,_,_,_,_,d,hs,_,hQ=>wpIn_label (hQ _ _ _ _ _ d hs)
 | .exit _,_,_,_,_,_,_,_,_,d,hs,_,hQ=>wpIn_exit (hQ _ _ _ _ _ d hs)
 | .ret,_,_,_,_,_,_,_,_,d,hs,_,hQ=>wpIn_ret (hQ _ _ _ _ _ d hs)
 | .region id ops draw,gb,g0,QA,env,h,a,w,_,d,hs,Q,hQ=>by
  obtain ⟨g,M,r,N,z,s⟩:=hs;have v:∀l L a' w',St B w0 g a.defers l L a' w'->StM B w0 gb g0 l L a' w':=λl L a' w' ⟨g',R,X,k3,k4⟩=>⟨g',M.trans R,X,k3,by rw [k4];exact z.mono R.del,s.trans R⟩
  have hs:St B w0 g a.defers env h a w:=⟨g,Gh.le.refl g,r,N,rfl⟩
  cases draw with
  | false =>
   have h1:=ops_sound (ro:=ro) (n:=n) (Q:=Q) (λenv h a w u C=>hQ .normal env h a w u (v _ _ _ _ C)) ops.toList 0 env h a w rfl d hs;refine wpIn_region ?_;rw [List.range_eq_range'];simpa using h1
  | true =>
   obtain ⟨Ns,F,⟨z,hok⟩,hFh,d⟩ | ⟨z,d⟩:=d
   rotate_left
   ·obtain ⟨g,R,X,k3,k4⟩:=hs;exact wpIn_region_any z (any_sound (λenv h a w u C=>hQ .normal env h a w u (v _ _ _ _ C)) _ _ _ _ _ _ d ⟨g,R,X.drew,k3,k4⟩)
   obtain ⟨vs,q,h0,h1,h2⟩:=draw_seq ops.toList 0 env h rfl (Nat.zero_le _) d;have hT:(λw:Nat=>decide (0<=w))=λ_=>true:=by funext w;simp
   rw [hT] at h1 h2;refine wpIn_region_any z (draw_sound (D:=a.defers) (g0:=g) hok (vs:=vs) (hs:=q) (env:=env) (by rw [h0];exact hFh) (λi o ho=>h1 i o (Nat.zero_le _) ho) (λa w C=>hQ .normal _ _ _ _ h2 (v _ _ _ _ C)) ops.size _ a _ (by simp) ?_ (λi j hi=>?_) ?_)
   ·exact Nat.le_trans List.countP_le_length (by simp)
   ·exfalso;rw [Array.getD_eq_getD_getElem?] at hi;rcases Nat.lt_or_ge i ops.size with U | U
    ·simp [U] at hi
    ·rw [Array.getElem?_eq_none (by simpa using U)] at hi;simp at hi
   ·have hF:∀w,(Array.replicate ops.size false).getD w false=false:=λw=>by
     rw [Array.getD_eq_getD_getElem?];rcases Nat.lt_or_ge w ops.size with U | U
     ·simp [U]
     ·rw [Array.getElem?_eq_none (by simpa using U)];rfl
    rw [fE_none _ λw _=>hF w];have hH:fH ops Ns q (λi=>(Array.replicate ops.size false).getD i false) ops.size=h:=by
     have:∀k,fH ops Ns q (λi=>(Array.replicate ops.size false).getD i false) k=h:=λk=>by
      induction k with
      | zero=>exact h0
      | succ k ih=>rw [fH,hF,Bool.false_and];exact ih
     exact this _
    rw [hH];obtain ⟨g,R,X,k3,k4⟩:=hs;exact ⟨g,R,X.drew,k3,k4⟩
 | .seq x y,gb,g0,QA,env,h,a,w,hr,d,hs,Q,hQ=>by
  have S:ro=none \/ noRF x=true:=hr.imp id λh=>by simp only [noRF,Bool.and_eq_true] at h;exact h.1
  have T:ro=none \/ noRF y=true:=hr.imp id λh=>by simp only [noRF,Bool.and_eq_true] at h;exact h.2
  obtain ⟨g,M,r,N,z,s⟩:=hs;refine wpIn_seq (vq (gb:=gb) (g0:=g) x S d ⟨g,Gh.le.refl g,r,N,z,s⟩ λe l L a' w' u q=>?_);obtain ⟨g1,G,r1,J,A,H⟩:=q;cases e with
  | normal =>
   obtain ⟨env2,h2,hk,u⟩:=u;obtain ⟨g2,t,Z,K,E⟩:=hk B w0 w' w g g1 _ r G r1 J;exact vq (gb:=gb) (g0:=g0) y T u ⟨g2,M.trans t,Z,K,A.mono E,s.trans t⟩ hQ
  | _=>exact hQ _ _ _ _ _ u ⟨g1,M.trans G,r1,J,A,H⟩
 | .cond c x y,gb,g0,QA,env,h,a,w,hr,d,hs,Q,hQ=>by
  have S:ro=none \/ noRF x=true:=hr.imp id λh=>by simp only [noRF,Bool.and_eq_true] at h;exact h.1
  have T:ro=none \/ noRF y=true:=hr.imp id λh=>by simp only [noRF,Bool.and_eq_true] at h;exact h.2
  obtain ⟨hc,d⟩:=d;have q:=hs;obtain ⟨g,M,r,N,z,s⟩:=q;have hV:=V.ev N hc;split at d
  ·rename_i b hb;rw [hb] at hV;simp only [V] at hV;refine wpIn_cond hV ?_;cases b with
   | true=>exact vq x S d hs hQ
   | false=>exact vq y T d hs hQ
  ·exact d.elim
 | .block id body,gb,g0,QA,env,h,a,w,hr,d,hs,Q,hQ=>by
  refine wpIn_block (vq body (hr.imp (λh=>h) λh=>h) d hs λe l L a' w' u q=>?_);cases e with
  | exit id' =>
   simp only [Exit.inBlock];by_cases hid:id'=id
   ·simp only [hid,if_true] at u ⊢;exact hQ _ _ _ _ _ u q
   ·simp only [hid,if_false] at u ⊢;exact hQ _ _ _ _ _ u q
  | _=>exact hQ _ _ _ _ _ u q
 | .loop body,gb,g0,QA,env,h,a,w,hr,d,hs,Q,hQ=>by
  have hrb:ro=none \/ noRF body=true:=hr.imp id λh=>h;obtain ⟨I,⟨m0,Y,h0,hk0,hI⟩,O⟩:=d
  let p:Act->World->Nat->Prop:=λa w m=>∃env h,I m env h/\StM B w0 gb g0 env h a w
  obtain ⟨g,M,r,N,z,s⟩:=hs;obtain ⟨g2,t,Z,K,E⟩:=hk0 B w0 w w g g _ r (Gh.le.refl g) r N;refine wpIn_loop (λa w=>∃m,p a w m) (λa w=>least (p a w)) ⟨_,Y,h0,hI,g2,M.trans t,Z,K,z.mono E,s.trans t⟩ λa w hI'=>?_;obtain ⟨l,L,hI2,hs2⟩:=least_spec hI';obtain ⟨g,M,r,N,z,s⟩:=hs2;refine vq (gb:=gb) (g0:=g) body hrb (O _ l L hI2) ⟨g,Gh.le.refl g,r,N,z,s⟩ λe env2 h2 a2 w2 u hs3=>?_;obtain ⟨g1,G,r1,J,A,H⟩:=hs3;cases e with
  | normal =>
   obtain ⟨m,W,h3,hlt,hk,hI3⟩:=u;obtain ⟨g2,t,Z,K,E⟩:=hk B w0 w2 w g g1 _ r G r1 J;have hp:p a2 w2 m:=⟨W,h3,hI3,g2,M.trans t,Z,K,A.mono E,s.trans t⟩
   exact ⟨⟨_,hp⟩,Nat.lt_of_le_of_lt (least_le hp) hlt⟩
  | _=>exact hQ _ _ _ _ _ u ⟨g1,M.trans G,r1,J,A,H⟩
 | .rangeFunc f ps assign body,gb,g0,QA,env,h,a,w,hr,d,hs,Q,hQ=>rangeFunc_sound (hr.elim id λh=>by cases h) d hs hQ
 | .scope _,_,_,_,_,_,_,_,_,d,_,_,_=>d.elim
 | .goto _,_,_,_,_,_,_,_,_,d,_,_,_=>d.elim
 | .refuse _,_,_,_,_,_,_,_,_,d,_,_,_=>d.elim
end

def va (P:Program) (env:List AV) (h:AH):List ResultVar->Option (List AV)
 | []=>some []
 | .tmp t::r=>match va P env h r with
  | some vs=>some (env.getD t aundef::vs)
  | none=>none
 | .cell a t::r=>match P.underlying t,P.info? t with
  | some d,some i=>match qG h (zK d) i.size (env.getD a aundef),va P env h r with
   | some v,some vs=>some (tyfix P t v::vs)
   | _,_=>none
  | _,_=>none
def aRes (P:Program) (fn:Func) (env:List AV) (h:AH):Option AV :=
 match va P env h fn.results.toList with
 | some [v]=>some v
 | some vs=>some (.tup vs)
 | none=>none

def leV (a b:AV):Prop:=∀g v,V g a v->V g b v
theorem leV.refl (a:AV):leV a a:=λ_ _ h=>h
def finK (h0:AH) (K:AV->AH->Prop) (r0:AV) (h:AH):Prop:=∃r h',wk h0 [r0] h [r] h'/\K r h'
def qY (P:Program) (fn:Func) (h0:AH) (K:AV->AH->Prop) (x:Exit) (env:List AV) (h:AH):Prop :=
 match x with
 | .normal | .ret=>match aRes P fn env h with
  | some r=>finK h0 K r h
  | none=>False
 | _=>False

section
variable {P:Program}
def resF (tmps:Array Value):ResultVar->Sem Value
 | .tmp t=>pure (tmps.getD t undef)
 | .cell a t=>do loadVar t (<- asAddr (tmps.getD a undef))
theorem results_eq (fn:Func) (tmps:Array Value):results fn tmps=(do let vs <- fn.results.mapM (resF tmps);pure (if h:vs.size=1 then vs[0] else .tuple vs)):=by
 unfold results resF;rfl
theorem resL_sound {B:Nat} {w0 w:World} {g:Gh} {h:AH} (r:Rel B w0 g h w) {env:List AV} {tmps:Array Value} (c:VL g env tmps.toList):∀{e:List ResultVar} {vs:List AV},va P env h e=some vs ->
  ∃us,(e.mapM (resF tmps)).run P w=.ok us w/\VL g vs us
 | [],vs,h=>by simp only [va,Option.some.injEq] at h;subst h;exact ⟨[],by simp,by simp [VL]⟩
 | .tmp t::e,vs,h=>by
  simp only [va] at h;split at h
  ·rename_i k f;cases h;obtain ⟨us,l,j⟩:=resL_sound r c f;refine ⟨tmps.getD t undef::us,by simp only [List.mapM_cons,Sem.run_bind,resF,Sem.run_pure,Result.andThen_ok,l],VL.cons ?_ j⟩;exact V.ev (a:={ tmps:=tmps,defers:=[] }) c (x:=.tmp t) rfl
  ·cases h
 | .cell ad t::e,vs,h=>by
  simp only [va] at h;split at h
  ·rename_i d i hd hi;split at h
   ·rename_i v k y f;cases h;obtain ⟨us,l,j⟩:=resL_sound r c f;have o:=V.ev (a:={ tmps:=tmps,defers:=[] }) c (x:=.tmp ad) rfl;obtain ⟨u,b,s⟩:=load_sound r hd hi o y;refine ⟨u::us,?_,VL.cons s.tyfix j⟩;have p:(do loadVar t (<- asAddr (tmps.getD ad undef)):Sem Value).run P w=.ok u w:=by
     have q:Act.eval { tmps:=tmps,defers:=[] } (.tmp ad)=tmps.getD ad undef:=rfl;rw [q] at b;generalize tmps.getD ad undef=pv at b ⊢;cases pv with
     | pointer x =>
      cases x with
      | none=>simp [Instr.loadAt,Instr.sureAddr] at b
      | some x=>simpa [Instr.loadAt,Instr.sureAddr,asAddr] using b
     | _=>simp [Instr.loadAt,Instr.sureAddr] at b
    have m:(resF tmps (.cell ad t)).run P w=.ok u w:=p;simp only [List.mapM_cons,Sem.run_bind,m,Result.andThen_ok,l,Sem.run_pure]
   ·cases h
  ·cases h

theorem res_sound {B:Nat} {w0 w:World} {g:Gh} {h:AH} (r:Rel B w0 g h w) {env:List AV} {tmps:Array Value} (i:VL g env tmps.toList) {fn:Func} {v:AV} (c:aRes P fn env h=some v) :
  ∃u,(results fn tmps).run P w=.ok u w/\V g v u:=by
 unfold aRes at c;have key:∀vs,va P env h fn.results.toList=some vs->∃us:List Value,(results fn tmps).run P w=.ok (if h:us.length=1 then us[0] else .tuple us.toArray) w/\VL g vs us:=by
  intro vs a;obtain ⟨us,d,b⟩:=resL_sound r i a;refine ⟨us,?_,b⟩;rw [results_eq,Array.mapM_eq_mapM_toList];simp only [Sem.run_bind,Sem.run_map,d,Result.andThen_ok,Sem.run_pure];congr 1
 split at c
 ·rename_i v' a;cases c;obtain ⟨us,d,b⟩:=key _ a;simp only [VL] at b;obtain ⟨u,s,rfl,j,rfl⟩:=b;exact ⟨u,by simpa using d,j⟩
 ·rename_i vs f a;cases c;obtain ⟨us,d,b⟩:=key _ a;have e:us.length ≠ 1:=by
   intro e;rw [<- b.length] at e;rcases vs with _ | ⟨x,_ | ⟨y,r⟩⟩ <;> simp at e;exact f x rfl
  refine ⟨.tuple us.toArray,by rw [d,dif_neg e],?_⟩;simp only [V];exact ⟨_,rfl,b⟩
 ·cases c

theorem VL.undefs {g:Gh}:∀k,VL g (List.replicate k aundef) (List.replicate k undef)
 | 0=>by simp [VL]
 | k+1=>by simp only [List.replicate_succ];exact VL.cons V.ofUndef (VL.undefs k)

theorem Rel.shut {B:Nat} {w0 w:World} {g:Gh} {h:AH} (r:Rel B w0 g h w) {c:Nat} (S:c ∈ g.δ):Rel B w0 { g with δ:=g.δ.filter (· != c) } h (w.putObj c (.deferred none)):=by
 have hd:=r.dfr c S;have f:∀b,b ≠ c->(w.putObj c (.deferred none)).heap[b]?=w.heap[b]?:=λb G=>World.putObj_heap_other G;have N:g.le { g with δ:=g.δ }:=Gh.le.refl g;refine ⟨⟨r.below.os,r.below.tape,r.below.output,by simpa using r.below.size,λb G=>(f b (by omega)).trans (r.below.block b G)⟩,by simpa using r.bsz,λb j v e=>?_,r.slen,λi x k C J=>?_,r.tlen,λi t Q=>?_,r.sinj,r.tinj,r.sep,λx C=>?_,λi k hi J=>?_,r.rinj⟩
 ·have q:b ≠ c:=by
   rintro rfl
   have:=r.phi b j v e;unfold World.cell? at this;simp [hd.2.1] at this
  exact (World.cell?_of_block (w:=w) (a:=⟨b,j,none⟩) (f b q)).trans (r.phi b j v e)
 ·obtain ⟨F,E,y,H⟩:=r.blk i x k C J;refine ⟨F,by simpa using E,?_,H⟩;have q:x ≠ c:=by rintro rfl;exact hd.2.2 i C
  have A:=f x q;cases k with
  | cells cs=>obtain ⟨vs,t,u,p⟩:=y;exact ⟨vs,t,A.trans u,VA.dd p⟩
  | siter s pos=>exact A.trans y
  | mapo es clock=>obtain ⟨ents,n,u,p,I⟩:=y;exact ⟨ents,n,A.trans u,ME.dd p,I⟩
  | loop st pe env ps assign body=>obtain ⟨fn,tmps,d,u,p⟩:=y;exact ⟨fn,tmps,d,A.trans u,VL.dd p⟩
  | row _ _ _=>exact y
  | miter id n seen=>obtain ⟨m,u,p⟩:=y;exact ⟨m,u,A.trans p⟩
  | miter0=>exact A.trans y
  | other=>trivial
  | dead=>trivial
 ·obtain ⟨F,E⟩:=r.tok i t Q;refine ⟨F,λb l e R=>?_⟩;have lo:=E b l e R;refine lo.mono (by simp) (f b ?_) λ_ _=>rfl
  rintro rfl
  obtain ⟨cs,ty,D,_⟩:=lo.cells;rw [hd.2.1] at D;cases D
 ·simp only [List.mem_filter,bne_iff_ne,ne_eq] at C;have z:=r.dfr x C.1;exact ⟨z.1,(f x C.2).trans z.2.1,z.2.2⟩
 ·have K:=r.row i k hi J;cases k with
  | row i2 p e2 =>
   obtain ⟨t,F,E,y,H,L,O⟩:=K;refine ⟨t,F,E,y,H,L,O.imp (λh=>h) ?_⟩
   rintro ⟨b,o,e,cs,ty,u,p,I,T,M⟩
   have q:b ≠ c:=by rintro rfl;rw [hd.2.1] at p;cases p
   exact ⟨b,o,e,cs,ty,u,(f b q).trans p,VA.dd I,T,M⟩
  | dead=>trivial
  | _=>exact K.elim

theorem leaves_marks {B:Nat} {w0:World} {g0:Gh} {h:AH} {env:List AV} {fn:Func} {tmps:Array Value} {R:Ending->World->Prop}:∀(D:List Deferred) (cs:List Nat) (w:World) {g:Gh},D.map (·.target)=cs.map Target.collected->cs.Nodup ->
  (∀(a:World) (b:Gh),g0.le b->Rel B w0 b h a->VL b env tmps.toList->∃v,(results fn tmps).run P a=.ok v a/\R (.returned v) a) ->
  g0.le g->Rel B w0 g h w->VL g env tmps.toList->(∀c ∈ cs,c ∈ g.δ)->(∀c ∈ cs,c ∉ g0.δ)->LeavesInM (WF none) 0 P fn tmps R D .returning w
 | [],cs,w,g,f,_,hfin,hg,r,he,_,_=>hfin w g hg r he
 | d::D,cs,w,g,f,hnd,hfin,hg,r,he,h1,h2=>by
  cases cs with
  | nil=>simp at f
  | cons c cs =>
   simp only [List.map_cons,List.cons.injEq] at f;obtain ⟨hd,f⟩:=f;have i:=h1 c (by simp);refine ⟨by simp,.inl ⟨c,_,hd,run_takeDeferred (r.dfr c i).2.1,?_⟩⟩;refine leaves_marks D cs _ (g:={ g with δ:=g.δ.filter (· != c) }) f (List.nodup_cons.1 hnd).2 hfin ⟨hg.phi,hg.sig,hg.tau,λx e=>?_⟩ (r.shut i) (VL.dd he) (λx e=>?_) λx e=>h2 x (by simp [e])
   ·simp only [List.mem_filter,bne_iff_ne,ne_eq];exact ⟨hg.del x e,by rintro rfl;exact h2 x (by simp) e⟩
   ·simp only [List.mem_filter,bne_iff_ne,ne_eq];exact ⟨h1 x (by simp [e]),by rintro rfl;exact (List.nodup_cons.1 hnd).1 e⟩

theorem spec_of_body {f : FuncId} {fn : Func} {c : Code} (hf : P.funcs[f]? = some fn) (hb : fn.body = some c) (hname : (fn.name == "runtime.NumGoroutine") = false) {args : List AV} {h : AH} {K : AV → AH → Prop}
  (hw:wP P c (qY P fn h K) (args++List.replicate (fn.ntmps - args.length) aundef) h):Spec P f args h K:=by
 have hn : ¬ fn.name = "runtime.NumGoroutine" := by simpa using hname
 refine ⟨λvs w=>by simp [callFunc,hf,hb,hn],λB w0 _ g w vs r hv=>?_⟩;refine callsIn_wide.1 (callsIn_of_wp_marks (F:=WF none) (n:=0) hf hb trivial ?_ rfl);have hlen:args.length=vs.size:=by rw [hv.length];rfl
 refine vq (B:=B) (w0:=w0) (gb:=g) (g0:=g) c (.inl rfl) hw ⟨g,Gh.le.refl g,r,?_,Marks.nil _ _,Gh.le.refl g⟩ λx env' h' a' w' hq hs=>?_
 ·simp only [Array.toList_append,Array.toList_replicate,hlen];exact VL.append hv (VL.undefs _)
 ·obtain ⟨g',hg,r',he,hm,_⟩:=hs;have fin:(match aRes P fn env' h' with | some r=>finK h K r h' | none=>False) ->
    LeavesInM (WF none) 0 P fn a'.tmps (λe w''=>∃v' r h2 g2,e=.returned v'/\K r h2/\g.le g2/\Rel B w0 g2 h2 w''/\V g2 r v') a'.defers .returning w':=by
   intro hfin;split at hfin
   ·rename_i rv hr;obtain ⟨cs,hD,hnd,hcs⟩:=hm;refine leaves_marks a'.defers cs w' hD hnd ?_ hg r' he (λc hc=>(hcs c hc).1) (λc hc=>(hcs c hc).2);intro w'' g'' hg'' r'' he'';obtain ⟨u,h1,h2⟩:=res_sound r'' he'' hr;refine ⟨u,h1,u,?_⟩;obtain ⟨rv,h2',hwk,hK⟩:=hfin;obtain ⟨g2,k1,k2,k3,_⟩:=hwk B w0 w'' w g g'' [u] r hg'' r'' (VL.cons h2 (by simp [VL]));simp only [VL] at k3;obtain ⟨v,s,e,k4,_⟩:=k3;injection e with e1 e2;subst e1;exact ⟨rv,h2',g2,rfl,hK,k1,k2,k4⟩
   ·exact hfin.elim
  cases x with
  | normal=>exact fin hq
  | ret=>exact fin hq
  | _=>exact hq.elim
end
end Go.Vv
