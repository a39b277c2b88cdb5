/- Ranges over functions, and functions whose base heap turns: rules. -/
import Derived.Test.YtcociipjgndnaaaGreatVvZ
namespace Go.Vv
open Go Go.RowKit
section
variable {P:Program} {o:Oper} {env:List AV} {h:AH} {L:List Blk} {M:List Nat} {nb nt:Nat}
theorem n_alloc (b:h.blks.length=nb) {t:TypeId} {cs:List AV} {n:Nat} (c:o.op=.alloc t) (d:xD P t=some cs) (a:L.length=n):zw P o env (h.ext L M)=.ok (.ptr (nb+n) 0) (h.ext (L++[.cells cs]) M):=by
 subst b;exact e_alloc c d a
theorem n_box (d:h.blks.length=nb) {t:TypeId} {x:Operand} {a a':AV} {cs:List AV} {n:Nat} (f:o.op=.box t x) (c:yF env x=some a) (e:tyfix P t a=a') (g:a'.cells?=some cs) (b:L.length=n) :
  zw P o env (h.ext L M)=.ok (.ptr (nb+n) 0) (h.ext (L++[.cells cs]) M):=by
 subst d;exact e_box f c e g b
theorem n_load (b:h.blks.length=nb) {t:TypeId} {d:TypeDesc} {k j off:Nat} {x:Operand} {cs:List AV} {v v':AV} (g:o.op=.load t x) (c:Ty P t d k) (a:yF env x=some (.ptr (nb+j) off)) (i:L[j]?=some (.cells cs))
  (e:ldC (yh d) k off cs=some v) (f:tyfix P t v=v'):zw P o env (h.ext L M)=.ok v' (h.ext L M):=by
 subst b;exact xS g c a i e f
theorem n_store (l:h.blks.length=nb) {t:TypeId} {d:TypeDesc} {k j off:Nat} {x y:Operand} {cs vs cs':List AV} {b b':AV} (m:o.op=.store t x y) (c:Ty P t d k) (i:yF env x=some (.ptr (nb+j) off)) (p:yF env y=some b)
  (f:tyfix P t b=b') (n:b'.cells?=some vs) (e:vs.length=k) (g:L[j]?=some (.cells cs)) (a:Nat.ble (off+k) cs.length=true) (hs:yX cs off vs=cs'):zw P o env (h.ext L M)=.ok aundef (h.ext (L.set j (.cells cs')) M):=by
 subst l;exact yg m c i p f n e g a hs
end
section
variable {P:Program} {o:Oper} {env:List AV} {h:AH} {α:Type} {row:α->List AV} {L M:List α} {nb nt:Nat}
theorem n_appT (q:h.toks.length=nt) {c:Call} {x y:Operand} {t u e n:TypeId} {k k' j:Nat} {a b b':AV} {B:List Blk} {T T':List Nat} (s:o.op=.call c) (w:c.callee=.builtin .append) (hs:c.args=#[x,y]) (l:c.argTypes=#[t,u]) (v:El P t e k)
  (d:El P u n k') (p:yF env x=some a) (D:yF env y=some b) (r:tyfix P t a=.osl (some (nt+j)) k (L.map row)) (f:tyfix P u b=b') (i:qq k b'=some (M.map row)) (m:L.length+M.length<=yK) (g:T[j]?=some L.length) (z:T.set j (L++M).length=T') :
  zw P o env (h.ext B T)=.ok (.osl (some (nt+j)) k ((L++M).map row)) (h.ext B T'):=by
 subst q;exact yS s w hs l v d p D r f i m g z
theorem n_own (b:h.toks.length=nt) {f:FuncId} {a:List AV} {B:List Blk} {T T':List Nat} {k n m:Nat} {R:List (List AV)} (s:Spec P f a (h.ext B T) (OwnK (h.ext B T) k n R)) (d:T.length=m) (c:T++[n]=T') :
  Spec P f a (h.ext B T) (λe hh=>e=.osl (some (nt+m)) k R/\hh=h.ext B T'):=by
 subst b;exact xW s d c
end

def AH.closed (h:AH) (n t:Nat):Prop:=∀b ∈ h.blks,b.low n t=true
theorem Blk.low_up {n e m f:Nat} (a:n<=e) (h:m<=f):∀b:Blk,b.low n m=true->b.low e f=true
 | .cells cs,hl=>yb a h cs hl
 | .mapo es c,hl=>by
  simp only [Blk.low,ux,ud] at hl ⊢;exact λp d=>⟨AV.low_up a h _ (hl p d).1,AV.low_up a h _ (hl p d).2⟩
 | .loop _ _ env _ _ _,hl=>yb a h env hl
 | .row _ _ _,hl=>by simp only [Blk.low,um] at hl ⊢;omega
 | .miter _ _ _,hl=>by simp only [Blk.low,um] at hl ⊢;omega
 | .siter _ _,_ | .miter0,_ | .other,_ | .dead,_=>rfl
theorem closed_of_rel {B:Nat} {w0 w:World} {g:Gh} {h:AH} (r:Rel B w0 g h w):h.closed h.blks.length h.toks.length:=λb a=>by
 obtain ⟨i,hi⟩:=tj.1 a;have:=r.isLow hi
 rwa [r.slen,r.tlen] at this
theorem zI {P : Program} {f : FuncId} {fn : Func} {c : Code} (hf : P.funcs[f]? = some fn) (hb : fn.body = some c) (hname : (fn.name == "runtime.NumGoroutine") = false) {args : List AV} {h : AH} {K : AV → AH → Prop} {env : List AV}
  (he:args++List.replicate (fn.ntmps - args.length) aundef=env) (hw:zB h.blks.length h.toks.length args=true->h.closed h.blks.length h.toks.length->qb P c (bodyQ P fn h K) env (h.ext [] [])):Spec P f args h K:=by
 refine ⟨λvs w=>?_,λB w0 _ g w vs r hv=>?_⟩
 ·have hn : ¬ fn.name = "runtime.NumGoroutine" := by simpa using hname
  simp [callFunc,hf,hb,hn]
 ·have hl:=hv.isLow;rw [r.slen,r.tlen] at hl;exact (zb hf hb hname he (hw hl (closed_of_rel r))).2 B w0 g w vs r hv
theorem ext_len {h:AH} {L:List Blk} {M:List Nat} {n:Nat} (a:h.blks.length=n):(h.ext L M).blks.length=n+L.length:=by simp [AH.ext,a]
theorem ext_tlen {h:AH} {L:List Blk} {M:List Nat} {n:Nat} (a:h.toks.length=n):(h.ext L M).toks.length=n+M.length:=by simp [AH.ext,a]
theorem closed_ext {h:AH} {L:List Blk} {M:List Nat} {n t c t':Nat} (g:h.closed n t) (e:n<=c) (f:t<=t') (d:L.all (λb=>b.low c t')=true):(h.ext L M).closed c t':=λb a=>by
 simp only [AH.ext,uR] at a;rcases a with a | a
 ·exact Blk.low_up e f b (g b a)
 ·rw [ux] at d;exact d b a
theorem wk_ext3s {h a:AH} {n t:Nat} (p:h.blks.length=n) (q:h.toks.length=t) (e:a.blks.length=n) (g:a.toks.length=t) (v:a.closed n t) {L0 L1 L':List Blk} {M0 M1 M':List Nat} {env:List AV}
  (r:zB (n+L0.length) (t+M0.length) env=true) (m:L'.take L0.length=L1) (s:M'.take M0.length=M1) (j:L1.all (λb=>b.low (n+L0.length) (t+M0.length))=true):wk (h.ext L0 M0) env (a.ext L' M') env (a.ext L1 M1):=by
 have d:(h.ext L0 M0).blks.length=n+L0.length:=ext_len p;have f:(h.ext L0 M0).toks.length=t+M0.length:=ext_tlen q;have u:(a.ext L' M').cut (h.ext L0 M0).blks.length (h.ext L0 M0).toks.length=a.ext L1 M1:=by
  rw [d,f,<- e,<- g];simp only [AH.cut,AH.ext,sd,uq,m,s];rw [uM (l:=a.blks) (by omega),uM (l:=a.toks) (by omega)]
 have:=wk.cut (hd:=h.ext L0 M0) (env:=env) (h:=a.ext L' M') (by rw [d,f];exact r) (λi k hi c=>by
  right;rw [d] at hi;rw [d,f];simp only [AH.ext] at c;rcases tz i a.blks.length with h1 | h1
  ·rw [uj h1] at c;exact Blk.low_up (by omega) (by omega) k (v k (uN c))
  ·rw [ui h1] at c;rw [ux] at j;refine j k (uN (i:=i - a.blks.length) ?_);rw [<- m,uw,up (by omega)];exact c)
 rw [u] at this;exact this
theorem fin_exts {h a:AH} {n t:Nat} (d:h.blks.length=n) (e:h.toks.length=t) (c:a.blks.length=n) (b:a.toks.length=t) (i:a.closed n t) {L:List Blk} {M:List Nat} {K:AV->AH->Prop} {v v':AV} (f:leV v v')
  (g:v'.low n t=true) (j:K v' a):finK h K v (a.ext L M):=by
 have:=wk_ext3s (L0:=[]) (L1:=[]) (L':=L) (M0:=[]) (M1:=[]) (M':=M) (env:=[v']) d e c b i (by simp [zB,g]) rfl rfl rfl;rw [ext_nil,ext_nil] at this;exact ⟨v',a,(wk.le (leL.cons f leL.nil)).trans this,j⟩

def lst:Option Nat->LoopState
 | none=>.ready
 | some _=>.done
def lpe:Option Nat->Option Code
 | none=>none
 | some 0=>some .ret
 | some (i+1)=>some (.exit i)
def fam {β:Type} (h:β->AH) (A:β->List Blk) (T:β->List Nat) (lp:LoopState->Option Code->Blk) (s:β×Option Nat):AH:=(h s.1).ext (A s.1++[lp (lst s.2) (lpe s.2)]) (T s.1)
def stp {β X ρ:Type} (f:β->X->Option ρ) (s:β×Option Nat) (x:X):Option ρ:=match s.2 with
 | none=>f s.1 x
 | some _=>none
def rng {β ρ:Type} (q:Option (β×Option Nat)) (N:β->Option ρ) (J:Nat->β->Option ρ):Option ρ:=match q with
 | none=>none
 | some (b,none)=>N b
 | some (b,some j)=>J j b
def jumpQ (Q:Exit->List AV->AH->Prop):Nat->List AV->AH->Prop
 | 0=>Q .ret
 | i+1=>Q (.exit i)

theorem r_range {P:Program} {Q:Exit->List AV->AH->Prop} {env E:List AV} {hd H:AH} {a:Operand} {n:Array Tmp} {assign body:Code} {β ρ:Type} {nb k:Nat} {first caps:List AV} {f:FuncId} (h:β->AH) (A:β->List Blk) (T:β->List Nat) (b0:β) {LA:List Blk} {LT:List Nat} {r:ρ} {q:Option (β×Option Nat)} {N:β->Option ρ} {J:Nat->β->Option ρ}
  (s:rng q N J=some r) (I:wk hd env hd E (H.ext LA LT)) (v:∀b,(h b).blks.length=nb) (G:H=h b0) (z:LA=A b0) (K:LT=T b0) (g:∀b,(A b).length=k) (w:yy a=true) (R:yF E a=some (.fn (.func f) first caps)) (c:(noRF assign&&noRF body)=true)
  (hs:∀lp:LoopState->Option Code->Blk,lp=(λl m=>.loop l m E n assign body)->∀y,q=some y->Spec P f (first++[.yld (nb+k)]++caps) (fam h A T lp (b0,none)) λ_ hh=>hh=fam h A T lp y)
  (O:∀b H1,H1=(h b).ext (A b++[.dead]) (T b)->N b=some r->Q .normal E H1) (D:∀j b H1,H1=(h b).ext (A b++[.dead]) (T b)->J j b=some r->jumpQ Q j E H1):qb P (.rangeFunc a n assign body) Q env hd:=by
 subst G z K;obtain ⟨_,F⟩:=zO R;simp only [ud] at c;refine ⟨w,c.1,c.2,E,_,I,?_⟩;rw [F];have u:((h b0).ext (A b0) (T b0)).blks.length=nb+k:=by simp [AH.ext,v,g]
 rcases q with _ | ⟨b,p⟩
 ·cases s
 ·have x:=hs _ rfl (b,p) rfl;rw [u,ext_new];refine x.mono λ_ hh e=>?_;subst e;have t:(fam h A T (λl m=>.loop l m E n assign body) (b,p)).blk (nb+k)=some (.loop (lst p) (lpe p) E n assign body):=by
   simp only [fam,AH.blk,AH.ext,<- v b];rw [ui (by omega),uq,ui (by rw [g];exact uh _),g];simp
  have d:(fam h A T (λl m=>.loop l m E n assign body) (b,p)).put (nb+k) .dead=(h b).ext (A b++[.dead]) (T b):=by
   simp only [fam,<- v b,ext_put];congr 1;rw [uO _ _ (by rw [g];exact uh _),g];simp
  refine ⟨_,_,_,_,_,_,t,by cases p <;> simp [lst],?_⟩;rw [d];cases p with
  | none=>exact O b _ rfl s
  | some j =>
   have:=D j b _ rfl s;cases j with
   | zero=>exact this
   | succ i=>exact this

def roundQ (hs:AH) (id:Nat) (lp:LoopState->Option Code->Blk) (K:AV->AH->Prop):Exit->List AV->AH->Prop
 | .normal,_,h=>∃h3,wk hs [] h [] h3/\h3.blk id=some (lp .busy none)/\K (.bool true) (h3.put id (lp .ready none))
 | .ret,_,h=>∃h3,wk hs [] h [] h3/\h3.blk id=some (lp .busy none)/\K (.bool false) (h3.put id (lp .done (some .ret)))
 | .exit i,_,h=>∃h3,wk hs [] h [] h3/\h3.blk id=some (lp .busy none)/\K (.bool false) (h3.put id (lp .done (some (.exit i))))
 | _,_,_=>False
def assignQ (P:Program) (hs:AH) (id:Nat) (lp:LoopState->Option Code->Blk) (body:Code) (K:AV->AH->Prop):Exit->List AV->AH->Prop
 | .normal,env,h=>h.blk id=some (lp .ready none)/\qb P body (roundQ hs id lp K) env (h.put id (lp .busy none))
 | _,_,_=>False

def setL (env:List AV):List Tmp->List AV->List AV
 | p::ps,a::as=>setL (env.set p a) ps as
 | _,_=>env
theorem setL_fold {g:Gh}:∀{b:List Tmp} {c:List AV} {vs:List Value} {env:List AV} {tmps:Array Value},VL g env tmps.toList->VL g c vs->c.length=b.length->VL g (setL env b c) ((b.zip vs).foldl (λt (p,v)=>t.setIfInBounds p v) tmps).toList
 | [],[],vs,env,tmps,h,_,_=>by simpa [setL] using h
 | [],_::_,_,_,_,_,_,hl=>by simp at hl
 | _::_,[],_,_,_,_,_,hl=>by simp at hl
 | p::b,a::c,vs,env,tmps,h,k,hl=>by
  simp only [VL] at k;obtain ⟨v,s,rfl,h1,d⟩:=k;simp only [setL,r6,sI];refine setL_fold ?_ d (by simpa using hl);rw [rK];exact h.set _ _ _ h1

theorem specY_of {P:Program} {id:Nat} {args:List AV} {h:AH} {K:AV->AH->Prop} {env q:List AV} {e:List Tmp} {assign body:Code} {lp:LoopState->Option Code->Blk} (hlp:lp=λst pe=>.loop st pe env ⟨e⟩ assign body) (hb:h.blk id=some (lp .ready none)) (hl:args.length=e.length)
  (z:(noRF assign&&noRF body)=true) (he:setL env e args=q) (hw:qb P assign (assignQ P h id lp body K) q h):SpecY P id args h K:=by
 subst hlp he;simp only [ud] at z;intro B w0 _ g w vs c r hv hc;have f:h.blks[id]?=some (.loop .ready none env ⟨e⟩ assign body):=hb;obtain ⟨hB,hlt,⟨fn,tmps,d,hh,hve⟩,_⟩:=r.blk id c _ hc f;have hsz:vs.size=e.length:=by rw [<- hl,hv.length];rfl
 refine ⟨_,_,_,_,run_yield hh (by simpa using hsz),λn=>?_⟩;refine roundIn_of_wpIn (F:=Fence.wide) trivial ?_;have W:VL g (setL env e args) (((⟨e⟩:Array Tmp).zip vs).foldl (λt (p,v)=>t.setIfInBounds p v) tmps).toList:=by
  rw [<- rY,Array.toList_zip];exact setL_fold hve hv hl
 refine wZ (B:=B) (w0:=w0) (gb:=g) (g0:=g) (ro:=some c) assign (.inr z.1) hw ⟨g,Gh.le.refl g,r,W,Marks.nil _ _,Gh.le.refl g⟩ λx env' h' a' w' S hs=>?_;obtain ⟨g1,G,r1,he1,X,H⟩:=hs;cases x with
 | normal =>
  obtain ⟨Y,S⟩:=S;have m:h'.blks[id]?=some (.loop .ready none env ⟨e⟩ assign body):=Y;have Q:=G.sig _ _ hc;obtain ⟨_,_,⟨D,j,d1,I,J⟩,_⟩:=r1.blk id c _ Q m;refine ⟨_,run_beginRound I rfl,?_⟩;have r2:Rel B w0 g1 (h'.put id (.loop .busy none env ⟨e⟩ assign body)) (w'.putObj c (.loop { state:=.busy,pending:=none,fn:=D,tmps:=j,params:=⟨e⟩,assign,body,defers:=d1 })) :=
   r1.putObj Q m (by simp) rfl rfl rfl World.putObj_size (λb f=>World.putObj_heap_other f) ⟨D,j,d1,World.putObj_heap_same (uQ.1 I).1,J⟩
  refine wZ (B:=B) (w0:=w0) (gb:=g) (g0:=g) (ro:=some c) body (.inr z.2) S ⟨g1,G,r2,he1,X,H⟩ λx env3 h3 a3 w3 l hs3=>?_;obtain ⟨g3,hg3,r3,he3,_,_⟩:=hs3;have u:∀(a:Option Code),(∃N,wk h [] h3 [] N/\N.blk id=some (.loop .busy none env ⟨e⟩ assign body)/\K (.bool a.isNone) (N.put id (.loop (if a.isNone then .ready else .done) a env ⟨e⟩ assign body))) ->
    ∃v w4,(Instr.endRound c a).run P w3=.ok v w4/\∃v' r h5 U,Ending.returned v=.returned v'/\K r h5/\g.le U/\Rel B w0 U h5 w4/\V U r v':=by
   rintro a ⟨N,Z,hb4,hK⟩
   obtain ⟨g4,k1,k2,_,_⟩:=Z B w0 w3 w g g3 [] r hg3 r3 (by simp [VL]);have s:N.blks[id]?=some (.loop .busy none env ⟨e⟩ assign body):=hb4;have R:=k1.sig _ _ hc;obtain ⟨_,_,⟨fn4,y,d4,O,E⟩,_⟩:=k2.blk id c _ R s;refine ⟨_,_,run_endRound a O,_,_,_,g4,rfl,hK,k1,?_,by simp only [V]⟩;exact k2.putObj R s (by simp) rfl rfl rfl World.putObj_size (λb f=>World.putObj_heap_other f) ⟨fn4,y,d4,World.putObj_heap_same (uQ.1 O).1,E⟩
  cases x with
  | normal=>exact u none l
  | ret=>exact u (some .ret) l
  | exit i=>exact u (some (.exit i)) l
  | _=>exact l.elim
 | _=>exact S.elim

section
variable {P:Program} {h:AH} {A A' L B:List Blk} {T T' M C:List Nat} {nb nt:Nat} {o:Oper} {env:List AV}
theorem deep_blk (c:h.blks.length=nb) {j:Nat} {b:Blk} (a:A[j]?=some b):(((h.ext A T).ext L M).ext B C).blk (nb+j)=some b:=by
 simp only [zQ,uy];subst c;rw [yA,uj (uc.1 a).1];exact a
theorem deep_blk2 (c:h.blks.length=nb) {j:Nat} {b:Blk} (a:A[j]?=some b):((h.ext A T).ext L M).blk (nb+j)=some b:=by
 have:=deep_blk (h:=h) (A:=A) (T:=T) (L:=L) (M:=M) (B:=[]) (C:=[]) c a
 rwa [ext_nil] at this
theorem deep_put (a:h.blks.length=nb) {j:Nat} {b:Blk} (d:j < A.length) (c:A.set j b=A'):(((h.ext A T).ext L M).ext B C).put (nb+j) b=((h.ext A' T).ext L M).ext B C:=by
 simp only [zQ,uy];subst a c;rw [ext_put,rk _ _ d]
theorem deep_put2 (a:h.blks.length=nb) {j:Nat} {b:Blk} (d:j < A.length) (c:A.set j b=A'):((h.ext A T).ext L M).put (nb+j) b=(h.ext A' T).ext L M:=by
 have:=deep_put (h:=h) (A:=A) (T:=T) (L:=L) (M:=M) (B:=[]) (C:=[]) a d c
 rwa [ext_nil,ext_nil] at this
theorem vM (b:h.blks.length=nb) {k:Nat} (a:A.length=k):((h.ext A T).ext L M).blks.length=nb+k+L.length:=by simp [AH.ext,b,a,tM]
theorem deep_tlen (b:h.toks.length=nt) {k:Nat} (a:T.length=k):((h.ext A T).ext L M).toks.length=nt+k+M.length:=by simp [AH.ext,b,a,tM]
theorem d_load (b:h.blks.length=nb) {t:TypeId} {d:TypeDesc} {k j off:Nat} {x:Operand} {cs:List AV} {v v':AV} (g:o.op=.load t x) (c:Ty P t d k) (a:yF env x=some (.ptr (nb+j) off)) (i:A[j]?=some (.cells cs))
  (e:ldC (yh d) k off cs=some v) (f:tyfix P t v=v'):zw P o env (((h.ext A T).ext L M).ext B C)=.ok v' (((h.ext A T).ext L M).ext B C):=by
 refine s_load g c a ?_ f;simp only [aLoad,deep_blk b i];exact e
theorem d_store (c:h.blks.length=nb) {t:TypeId} {d:TypeDesc} {k j off:Nat} {x y:Operand} {cs vs cs':List AV} {b b':AV} (n:o.op=.store t x y) (g:Ty P t d k) (m:yF env x=some (.ptr (nb+j) off)) (q:yF env y=some b)
  (l:tyfix P t b=b') (p:b'.cells?=some vs) (i:vs.length=k) (a:A[j]?=some (.cells cs)) (e:Nat.ble (off+k) cs.length=true) (hs:yX cs off vs=cs') (f:A.set j (.cells cs')=A') :
  zw P o env (((h.ext A T).ext L M).ext B C)=.ok aundef (((h.ext A' T).ext L M).ext B C):=by
 refine s_store n g m q l ?_;simp only [aStore,p,deep_blk c a];rw [up ⟨i,rG e⟩,hs,deep_put c (uc.1 a).1 f]
theorem d_appT {α:Type} {row:α->List AV} {X Y:List α} (r:h.toks.length=nt) {c:Call} {x y:Operand} {t u e p:TypeId} {k k' j:Nat} {a b b':AV} (v:o.op=.call c) (z:c.callee=.builtin .append) (hs:c.args=#[x,y]) (m:c.argTypes=#[t,u]) (w:El P t e k)
  (f:El P u p k') (q:yF env x=some a) (E:yF env y=some b) (s:tyfix P t a=.osl (some (nt+j)) k (X.map row)) (i:tyfix P u b=b') (l:qq k b'=some (Y.map row)) (n:X.length+Y.length<=yK) (g:T[j]?=some X.length) (D:T.set j (X++Y).length=T') :
  zw P o env (((h.ext A T).ext L M).ext B C)=.ok (.osl (some (nt+j)) k ((X++Y).map row)) (((h.ext A T').ext L M).ext B C):=by
 subst r D;have d:=(uc.1 g).1;have:=yS (P:=P) (h:=h) (B:=A++L++B) (T:=T++M++C) (T':=(T.set j (X++Y).length)++M++C) v z hs m w f q E s i l n (by rw [uy,uj d];exact g)
  (by rw [uy,uy,rk _ _ d])
 simp only [zQ];exact this
theorem deep_cut {h0:AH} (q:h.closed nb nt) (c:h0.blks.length=nb) (d:h0.toks.length=nt) (m:h.blks.length=nb) (e:h.toks.length=nt) {A0:List Blk} {T0:List Nat} (j:A'.length=A0.length) (r:T'.length=T0.length)
  (g:A'.all (λb=>b.low (nb+A0.length) (nt+T0.length))=true):wk ((h0.ext A0 T0).ext L M) [] (((h.ext A' T').ext L M).ext B C) [] ((h.ext A' T').ext L M):=by
 have l:((h0.ext A0 T0).ext L M).blks.length=nb+A0.length+L.length:=vM c rfl;have n:((h0.ext A0 T0).ext L M).toks.length=nt+T0.length+M.length:=deep_tlen d rfl;have p:(((h.ext A' T').ext L M).ext B C).cut ((h0.ext A0 T0).ext L M).blks.length ((h0.ext A0 T0).ext L M).toks.length=(h.ext A' T').ext L M:=by
  have:=@ext_cut ((h.ext A' T').ext L M) B C;rw [vM m rfl,deep_tlen e rfl,j,r] at this;rw [l,n];exact this
 have:=wk.cut (hd:=(h0.ext A0 T0).ext L M) (env:=[]) (h:=((h.ext A' T').ext L M).ext B C) rfl (λi k hi a=>by
  rw [l] at hi ⊢;rw [n];rw [ux] at g;simp only [zQ,AH.ext,uy] at a ⊢;rcases tz i h.blks.length with h1 | h1
  ·rw [uj h1] at a;exact .inr (Blk.low_up (by omega) (by omega) k (q k (uN a)))
  ·rw [ui h1] at a;rcases tz (i - h.blks.length) A'.length with f | f
   ·rw [uj f] at a;exact .inr (Blk.low_up (by omega) (by omega) k (g k (uN a)))
   ·rw [ui f] at a;rw [ui (by omega),ui (by omega)];rw [uj (by omega)] at a;rw [<- j,c,<- m];exact .inl a)
 rw [p] at this;exact this
end
theorem SpecY.deep {P:Program} {id:Nat} {xs:List AV} {r:AV} {H H':AH} (b:∀A B,SpecY P id xs (H.ext A B) (λa hh=>a=r/\hh=H'.ext A B)) {A L B:List Blk} {T M C:List Nat}:SpecY P id xs (((H.ext A T).ext L M).ext B C) (λa hh=>a=r/\hh=((H'.ext A T).ext L M).ext B C):=by
 simp only [zQ];exact b _ _
theorem Spec.deep {P:Program} {f:FuncId} {xs:List AV} {r:AV} {H H':AH} (b:∀A B,Spec P f xs (H.ext A B) (λa hh=>a=r/\hh=H'.ext A B)) {A L B:List Blk} {T M C:List Nat}:Spec P f xs (((H.ext A T).ext L M).ext B C) (λa hh=>a=r/\hh=((H'.ext A T).ext L M).ext B C):=by
 simp only [zQ];exact b _ _

theorem y_body {P:Program} {β X:Type} {h:β->AH} {nb k:Nat} {A:β->List Blk} {T:β->List Nat} {lp:LoopState->Option Code->Blk} {env:List AV} {g:List Tmp} {assign body:Code} (d:lp=λq r=>.loop q r env ⟨g⟩ assign body) {f:β->X->Option (Bool×(β×Option Nat))} {xs:X->List AV}
  (t:∀b,(h b).blks.length=nb) (m:∀b,(A b).length=k) (j:(noRF assign&&noRF body)=true) (i:∀x,(xs x).length=g.length) {a:X->List AV} (n:∀x,setL env g (xs x)=a x)
  (u:∀b x o L M H1,H1=((((h b).ext (A b++[lp .ready none]) (T b)).ext L M).ext [] [])->f b x=some o->qb P assign (assignQ P (((h b).ext (A b++[lp .ready none]) (T b)).ext L M) (nb+k) lp body (λe hh=>e=.bool o.1/\hh=(fam h A T lp o.2).ext L M)) (a x) H1) :
  ∀(s:β×Option Nat) (x:X) (b:Bool) (c:β×Option Nat) (L:List Blk) (M:List Nat),stp f s x=some (b,c)->SpecY P (nb+k) (xs x) ((fam h A T lp s).ext L M) (λe hh=>e=.bool b/\hh=(fam h A T lp c).ext L M):=by
 rintro ⟨b0,p⟩ x b c L M l
 cases p with
 | some _=>cases l
 | none =>
  have:=u b0 x (b,c) L M _ rfl l;rw [ext_nil] at this;refine specY_of d ?_ (i x) j (n x) this;exact deep_blk2 (t b0) (by rw [ui (by rw [m];exact uh _),m];simp [lst,lpe])
theorem q_assign {P:Program} {hs:AH} {nb k:Nat} {lp:LoopState->Option Code->Blk} {body:Code} {K:AV->AH->Prop} {env:List AV} {h:AH} {A L B:List Blk} {T M C:List Nat} (b:h.blks.length=nb) (a:A.length=k)
  (c:qb P body (roundQ hs (nb+k) lp K) env (((h.ext (A++[lp .busy none]) T).ext L M).ext B C)):assignQ P hs (nb+k) lp body K .normal env (((h.ext (A++[lp .ready none]) T).ext L M).ext B C):=by
 refine ⟨deep_blk b (by rw [ui (by omega),a];simp),?_⟩;rw [deep_put b (by rw [uo,a];exact sX _) (by rw [uO _ _ (by omega),a,rC])];exact c
section
variable {β:Type} {h:β->AH} {h0 h1:AH} {nb nt k:Nat} {lp:LoopState->Option Code->Blk} {env:List AV} {A:β->List Blk} {T:β->List Nat} {A0 A' L B:List Blk} {T0 T' M C:List Nat} {b':β} {o:Bool×(β×Option Nat)}
theorem q_roundA {E:Exit} {r:Bool} {p:Option Nat} (t:∀m,(∃a,wk ((h0.ext (A0++[lp .ready none]) T0).ext L M) [] m [] a/\a.blk (nb+k)=some (lp .busy none)/\(AV.bool r=.bool o.1/\a.put (nb+k) (lp (lst p) (lpe p))=(fam h A T lp o.2).ext L M))->roundQ ((h0.ext (A0++[lp .ready none]) T0).ext L M) (nb+k) lp (λl hh=>l=.bool o.1/\hh=(fam h A T lp o.2).ext L M) E env m)
  (u:h1.closed nb nt) (g:h0.blks.length=nb) (d:h0.toks.length=nt) (j:h1.blks.length=nb) (f:h1.toks.length=nt) (c:A0.length=k) (e:A'.length=k) (v:T'.length=T0.length) (n:o=(r,(b',p))) (hh:h b'=h1) (s:A b'=A') (i:T b'=T')
  (q:(A'++[lp .busy none]).all (λb=>b.low (nb+(k+1)) (nt+T0.length))=true) :
  roundQ ((h0.ext (A0++[lp .ready none]) T0).ext L M) (nb+k) lp (λl hh=>l=.bool o.1/\hh=(fam h A T lp o.2).ext L M) E env (((h1.ext (A'++[lp .busy none]) T').ext L M).ext B C):=by
 refine t _ ⟨(h1.ext (A'++[lp .busy none]) T').ext L M,deep_cut u g d j f (by simp [e,c]) v (by rw [uo,c];exact q),deep_blk2 j (by rw [ui (by omega),e];simp),?_,?_⟩
 ·rw [n]
 ·rw [deep_put2 j (by rw [uo,e];exact sX _) (by rw [uO _ _ (by omega),e,rC]),n];simp only [fam,s,i,hh];rfl
theorem q_roundN (l:h1.closed nb nt) (c:h0.blks.length=nb) (a:h0.toks.length=nt) (g:h1.blks.length=nb) (f:h1.toks.length=nt) (e:A0.length=k) (i:A'.length=k) (m:T'.length=T0.length) (j:o=(true,(b',none))) (hh:h b'=h1) (s:A b'=A') (d:T b'=T')
  (n:(A'++[lp .busy none]).all (λb=>b.low (nb+(k+1)) (nt+T0.length))=true) :
  roundQ ((h0.ext (A0++[lp .ready none]) T0).ext L M) (nb+k) lp (λq hh=>q=.bool o.1/\hh=(fam h A T lp o.2).ext L M) .normal env (((h1.ext (A'++[lp .busy none]) T').ext L M).ext B C) :=
 q_roundA (r:=true) (p:=none) (λ_ h=>h) l c a g f e i m j hh s d n
theorem q_roundR (l:h1.closed nb nt) (c:h0.blks.length=nb) (a:h0.toks.length=nt) (g:h1.blks.length=nb) (f:h1.toks.length=nt) (e:A0.length=k) (i:A'.length=k) (m:T'.length=T0.length) (j:o=(false,(b',some 0))) (hh:h b'=h1) (s:A b'=A') (d:T b'=T')
  (n:(A'++[lp .busy none]).all (λb=>b.low (nb+(k+1)) (nt+T0.length))=true) :
  roundQ ((h0.ext (A0++[lp .ready none]) T0).ext L M) (nb+k) lp (λq hh=>q=.bool o.1/\hh=(fam h A T lp o.2).ext L M) .ret env (((h1.ext (A'++[lp .busy none]) T').ext L M).ext B C) :=
 q_roundA (r:=false) (p:=some 0) (λ_ h=>h) l c a g f e i m j hh s d n
end
theorem s_yield {P:Program} {o:Oper} {env:List AV} {h:AH} {c:Call} {f:Operand} {id:Nat} {l:List (TypeId×AV)} {args:List AV} (p:o.op=.call c) (q:c.callee=.value f) (e:yF env f=some (.yld id))
  (d:argo env c.args.toList c.argTypes.toList=some l) (i:Fx P l args):zw P o env h=.round id args:=by
 obtain ⟨h1,g⟩:=zO e;obtain ⟨n,j,a⟩:=argo_ok (P:=P) d;have b:c.args.all yy=true:=by simpa using n
 have m:(c.args.size==c.argTypes.size)=true:=by simpa using j
 simp only [zw,p,b,m,u5,ut,q,h1,Bool.true_eq_false,uG,g,a,i.eq]
theorem ops_round {P:Program} {b:Array Oper} {Q:List AV->AH->Prop} {o:Oper} {rest:List Oper} {env a:List AV} {h c:AH} {id:Nat} {args:List AV} {v:AV} (d:aG b o env=some true) (e:zw P o env h=.round id args) (hs:SpecY P id args h λr hh=>r=v/\hh=c)
  (hd:vZ o.dst env v=some a) (f:zH P b Q rest a c):zH P b Q (o::rest) env h:=by
 refine vO ?_;simp only [d,gwp,e,rwp];refine hs.mono ?_
 rintro r hh ⟨rfl,rfl⟩
 rw [xG hd];exact f
theorem draw_round {Ns:List Nat} {F:Nat->AH->Prop} {i:Nat} (e:Ns.contains i=false) {P:Program} {a:Array Oper} {Q:List AV->AH->Prop} {o:Oper} {rest:List Oper} {env b:List AV} {h c:AH} {id:Nat} {args:List AV} {v:AV} (d:FOk ((Region.before a).getD i 0) Ns F c) (g:anch a Ns i=true) (l:aG a o env=some true) (f:zw P o env h=.round id args)
  (hs:SpecY P id args h λr hh=>r=v/\hh=c) (hd:vZ o.dst env v=some b) (j:zY P a Ns F Q (i+1) rest b c):zY P a Ns F Q i (o::rest) env h :=
 ⟨v,c,.inl ⟨e,by simp only [AR,l,f];exact hs⟩,.inl g,.inr d,by rw [xG hd];exact j⟩
theorem SpecY.le {P:Program} {id:Nat} {a bs:List AV} {h:AH} {K:AV->AH->Prop} (s:SpecY P id bs h K) (k:leL a bs):SpecY P id a h K :=
 λB w0 _ g w vs c r b d=>s B w0 g w vs c r (k _ _ b) d
def CloK (h:AH) (g:FuncId) (bs:List Blk) (rr:AV) (hh:AH):Prop:=rr=.fn (.func g) [] ((List.range bs.length).map λi=>.ptr (h.blks.length+i) 0)/\hh=h.ext bs []
theorem clo_ext {P:Program} {h:AH} {nb n:Nat} (d:h.blks.length=nb) {f g:FuncId} {b caps:List AV} {B B' bs:List Blk} {T:List Nat} (s:Spec P f b (h.ext B T) (CloK (h.ext B T) g bs)) (c:B.length=n) (e:B++bs=B') (j:(List.range bs.length).map (λi=>AV.ptr (nb+(n+i)) 0)=caps) :
  Spec P f b (h.ext B T) (λa hh=>a=.fn (.func g) [] caps/\hh=h.ext B' T):=by
 refine s.mono ?_
 rintro a hh ⟨rfl,rfl⟩
 subst e j c d;refine ⟨?_,by rw [zQ,tA]⟩;simp [AH.ext,tM]
theorem wk_cutb {h:AH} {env:List AV} {L L1:List Blk} {M:List Nat} (m:Nat) (f:zB (h.blks.length+m) h.toks.length env=true) (n:L.take m=L1) (d:L1.all (λb=>b.low (h.blks.length+m) h.toks.length)=true):wk h env (h.ext L M) env (h.ext L1 []):=λ_ _ _ _ q g vs c p r j=>by
 subst n;refine ⟨g.cut (h.blks.length+m) h.toks.length,Gh.le_cut2 p (by rw [c.slen];omega) (by rw [c.tlen];exact uh _),?_,VL.cut _ _ f j,λ_ h=>h⟩;have e:(h.ext L M).cut (h.blks.length+m) h.toks.length=h.ext (L.take m) []:=by
  simp only [AH.cut,AH.ext,sd,uq];rw [uM (l:=h.blks) (by omega)];simp
 rw [<- e];refine r.cut _ _ λi k hi a=>?_;simp only [AH.ext] at a;rcases tz i h.blks.length with h1 | h1
 ·rw [uj h1] at a;have:=closed_of_rel c k (uN a);exact Blk.low_up (by omega) (uh _) k this
 ·rw [ui h1] at a;rw [ux] at d;refine d k (uN (i:=i - h.blks.length) ?_);rw [uw,up (by omega)];exact a
theorem fin_clo {h:AH} {K:AV->AH->Prop} {v:AV} {bs L':List Blk} {M':List Nat} (a:v.low (h.blks.length+bs.length) h.toks.length=true) (c:L'.take bs.length=bs) (d:bs.all (λb=>b.low (h.blks.length+bs.length) h.toks.length)=true) (e:K v (h.ext bs [])):finK h K v (h.ext L' M') :=
 ⟨v,_,wk_cutb bs.length (by simp [zB,a]) c d,e⟩
theorem blk_lt {h:AH} {nb i:Nat} {b:Blk} (c:h.blk i=some b) (a:h.blks.length=nb):i < nb:=by
 subst a;exact (uc.1 c).1
theorem n_blk {h:AH} {L:List Blk} {M:List Nat} {nb j:Nat} {b:Blk} (a:h.blks.length=nb) (c:L[j]?=some b):(h.ext L M).blk (nb+j)=some b:=by
 subst a;rw [yA];exact c
theorem n_blk2 {h:AH} {B B':List Blk} {T T':List Nat} {nb j:Nat} {b:Blk} (a:h.blks.length=nb) (c:B[j]?=some b):((h.ext B T).ext B' T').blk (nb+j)=some b:=by
 subst a;exact blk_ext2 c
theorem jmp1 {ρ:Type} {j c:Nat} {X:Option ρ} {r:ρ} {G:Nat->Prop} (h:(if j=c then X else none)=some r) (k:X=some r->G c):G j:=by
 split at h
 ·rename_i e;subst e;exact k h
 ·cases h
theorem jmp_ret {Q:Exit->List AV->AH->Prop} {E:List AV} {h:AH} (k:Q .ret E h):jumpQ Q 0 E h:=k
end Go.Vv
