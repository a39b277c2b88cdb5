/- Ranges over functions, and functions whose base heap turns: rules. -/
import Derived.Test.YthnmdghfecoafaaGreatVvT
import Derived.Test.YthnmdghfecoafaaGreatVvMr
set_option linter.all false
namespace Go.Vv
open Go Go.RowKit
variable {f:FuncId} {n t id j:Nat} {ρ:Type} {E args xs:List AV} {ps:List Tmp} {assign body:Code} {b:Blk}
section
variable {P:Program} {o:Oper} {env:List AV} {h:AH} {L:List Blk} {M:List Nat} {nb nt:Nat}
theorem n_alloc (c:h.blks.length=nb) {t:TypeId} {cs:List AV} {n:Nat} (a:o.op=.alloc t) (e:xQ P t=some cs) (d:L.length=n):zB P o env (h.ext L M)=.ok (.ptr (nb+n) 0) (h.ext (L++[.cells cs]) M):=by
 subst c;exact wS a e d
theorem n_box (e:h.blks.length=nb) {t:TypeId} {x:Operand} {a a':AV} {cs:List AV} {n:Nat} (d:o.op=.box t x) (i:yk env x=some a) (c:tyfix P t a=a') (g:a'.cells?=some cs) (l:L.length=n) :
  zB P o env (h.ext L M)=.ok (.ptr (nb+n) 0) (h.ext (L++[.cells cs]) M):=by
 subst e;exact e_box d i c g l
theorem n_load (m:h.blks.length=nb) {t:TypeId} {d:TypeDesc} {k j off:Nat} {x:Operand} {cs:List AV} {v a:AV} (e:o.op=.load t x) (l:Ty P t d k) (p:yk env x=some (.ptr (nb+j) off)) (g:L[j]?=some (.cells cs))
  (i:ldC (yq d) k off cs=some v) (c:tyfix P t v=a):zB P o env (h.ext L M)=.ok a (h.ext L M):=by
 subst m;exact zH e l p g i c
theorem n_store (q:h.blks.length=nb) {t:TypeId} {d:TypeDesc} {k j off:Nat} {x y:Operand} {cs vs cs':List AV} {b b':AV} (g:o.op=.store t x y) (a:Ty P t d k) (m:yk env x=some (.ptr (nb+j) off)) (l:yk env y=some b)
  (e:tyfix P t b=b') (r:b'.cells?=some vs) (i:vs.length=k) (p:L[j]?=some (.cells cs)) (c:Nat.ble (off+k) cs.length=true) (hs:yP cs off vs=cs'):zB P o env (h.ext L M)=.ok aundef (h.ext (L.set j (.cells cs')) M):=by
 subst q;exact yc g a m l e r i p c hs
end
section
variable {P:Program} {o:Oper} {env:List AV} {h:AH} {α:Type} {row:α->List AV} {L M:List α} {nb nt:Nat}
theorem n_appT (w:h.toks.length=nt) {c:Call} {x y:Operand} {t u e m:TypeId} {k k' j:Nat} {a b b':AV} {B:List Blk} {T T':List Nat} (p:o.op=.call c) (G:c.callee=.builtin .append) (hs:c.args=#[x,y]) (g:c.argTypes=#[t,u]) (s:El P t e k)
  (d:El P u m k') (v:yk env x=some a) (r:yk env y=some b) (F:tyfix P t a=.osl (some (nt+j)) k (L.map row)) (i:tyfix P u b=b') (z:aNews k b'=some (M.map row)) (q:L.length+M.length<=xe) (D:T[j]?=some L.length) (l:T.set j (L++M).length=T') :
  zB P o env (h.ext B T)=.ok (.osl (some (nt+j)) k ((L++M).map row)) (h.ext B T'):=by
 subst w;exact e_appT p G hs g s d v r F i z q D l
theorem n_own (d:h.toks.length=nt) {f:FuncId} {a5:List AV} {B:List Blk} {T T':List Nat} {k n m:Nat} {R:List (List AV)} (s:Spec P f a5 (h.ext B T) (OwnK (h.ext B T) k n R)) (a:T.length=m) (c:T++[n]=T') :
  Spec P f a5 (h.ext B T) (λe hh=>e=.osl (some (nt+m)) k R/\hh=h.ext B T'):=by
 subst d;exact x5 s a c
end

def AH.closed (h:AH) (n t:Nat):Prop:=∀b ∈ h.blks,b.low n t=true
theorem Blk.low_up {n g m m':Nat} (a:n<=g) (h:m<=m'):∀b:Blk,b.low n m=true->b.low g m'=true
 | .cells cs,hl=>yx a h cs hl
 | .bld _ x,hl=>AV.low_up a h x hl
 | .mapo es c,hl=>by
  simp only [Blk.low,uv,ud] at hl ⊢;exact λp d=>⟨AV.low_up a h _ (hl p d).1,AV.low_up a h _ (hl p d).2⟩
 | .loop _ _ env _ _ _,hl=>yx a h env hl
 | .row _ _ _,hl=>by simp only [Blk.low,uk] at hl ⊢;omega
 | .miter _ _ _,hl=>by simp only [Blk.low,uk] at hl ⊢;omega
 | .pool ms,hl=>by
  simp only [Blk.low,uv] at hl ⊢;intro x l e i;have:=hl x l e i;cases e with
  | none=>rfl
  | some p =>
   simp only [ud] at this ⊢;exact ⟨AV.low_up a h _ this.1,AV.low_up a h _ this.2⟩
 | .pmiter _ _ _ _,hl=>by simp only [Blk.low,uk] at hl ⊢;omega
 | .siter _ _,_ | .miter0,_ | .other,_ | .dead,_=>rfl
theorem closed_of_rel {B:Nat} {w0 w:World} {g:Gh} {h:AH} (r:Rel B w0 g h w):h.closed h.blks.length h.toks.length:=λb a=>by
 obtain ⟨i,hi⟩:=tb.1 a;have:=r.isLow hi
 rwa [r.slen,r.tlen] at this
theorem yg {P : Program} {fn : Func} {c : Code} (hf : P.funcs[f]? = some fn) (hb : fn.body = some c) (hname : (fn.name == "runtime.NumGoroutine") = false) {args : List AV} {h : AH} {K : AV → AH → Prop} {env : List AV}
  (he:args++List.replicate (fn.ntmps - args.length) aundef=env) (hw:zP h.blks.length h.toks.length args=true->h.closed h.blks.length h.toks.length->vB P c (qU P fn h K) env (h.ext [] [])):Spec P f args h K:=by
 refine ⟨λvs w=>?_,λB w0 _ g w vs r hv=>?_⟩
 ·have hn : ¬ fn.name = "runtime.NumGoroutine" := by simpa using hname
  simp [callFunc,hf,hb,hn]
 ·have hl:=hv.isLow r.ownlt;rw [r.slen,r.tlen] at hl;exact (zd hf hb hname he (hw hl (closed_of_rel r))).2 B w0 g w vs r hv
theorem ext_len {h:AH} {L:List Blk} {M:List Nat} (a:h.blks.length=n):(h.ext L M).blks.length=n+L.length:=by simp [AH.ext,a]
theorem ext_tlen {h:AH} {L:List Blk} {M:List Nat} (a:h.toks.length=n):(h.ext L M).toks.length=n+M.length:=by simp [AH.ext,a]
theorem closed_ext {h:AH} {L:List Blk} {M:List Nat} {c t':Nat} (e:h.closed n t) (g:n<=c) (d:t<=t') (i:L.all (λb=>b.low c t')=true):(h.ext L M).closed c t':=λb a=>by
 simp only [AH.ext,uK] at a;rcases a with a | a
 ·exact Blk.low_up g d b (e b a)
 ·simp_all
theorem wk_ext3s {h h':AH} (u:h.blks.length=n) (r:h.toks.length=t) (g:h'.blks.length=n) (e:h'.toks.length=t) (w:h'.closed n t) {L0 L1 L':List Blk} {M0 M1 M':List Nat} {env:List AV}
  (s:zP (n+L0.length) (t+M0.length) env=true) (p:L'.take L0.length=L1) (q:M'.take M0.length=M1) (m:L1.all (λb=>b.low (n+L0.length) (t+M0.length))=true):wk (h.ext L0 M0) env (h'.ext L' M') env (h'.ext L1 M1):=by
 have c:(h.ext L0 M0).blks.length=n+L0.length:=ext_len u;have d:(h.ext L0 M0).toks.length=t+M0.length:=ext_tlen r;have v:(h'.ext L' M').cut (h.ext L0 M0).blks.length (h.ext L0 M0).toks.length=h'.ext L1 M1:=by
  rw [c,d,<- g,<- e];simp only [AH.cut,AH.ext,tN,uQ,p,q];rw [uO (l:=h'.blks) (by omega),uO (l:=h'.toks) (by omega)]
 have:=wk.cut (hd:=h.ext L0 M0) (env:=env) (h:=h'.ext L' M') (by rw [c,d];exact s) (λi k hi a=>by
  right;rw [c] at hi;rw [c,d];simp only [AH.ext] at a;rcases sn i h'.blks.length with h1 | h1
  ·rw [uo h1] at a;exact Blk.low_up (by omega) (by omega) k (w k (uF a))
  ·rw [un h1] at a;rw [uv] at m;refine m k (uF (i:=i - h'.blks.length) ?_);rw [<- p,uu,uG (by omega)];exact a)
 rw [v] at this;omega
theorem fin_exts {h h':AH} (p:h.blks.length=n) (l:h.toks.length=t) (d:h'.blks.length=n) (c:h'.toks.length=t) (m:h'.closed n t) {L:List Blk} {M:List Nat} {K:AV->AH->Prop} {v a:AV} (g:leV v a)
  (i:a.low n t=true) (e:K a h'):finK h K v (h'.ext L M):=by
 have:=wk_ext3s (L0:=[]) (L1:=[]) (L':=L) (M0:=[]) (M1:=[]) (M':=M) (env:=[a]) p l d c m (by simp [zP,i]) rfl rfl rfl;rw [ext_nil,ext_nil] at this;exact ⟨a,h',(wk.le (leL.cons g leL.nil)).trans this,e⟩

def lst:Option Nat->LoopState
 | none=>.ready
 | some _=>.done
def lpe:Option Nat->Option Code
 | none=>none
 | some 0=>some .ret
 | some (i+1)=>some (.exit i)
def fam {β:Type} (h:β->AH) (A:β->List Blk) (T:β->List Nat) (lp:LoopState->Option Code->Blk) (s:β×Option Nat):AH:=(h s.1).ext (A s.1++[lp (lst s.2) (lpe s.2)]) (T s.1)
def stp {β X:Type} (f:β->X->Option ρ) (s:β×Option Nat) (x:X):Option ρ:=match s.2 with
 | none=>f s.1 x
 | some _=>none
def rng {β:Type} (q:Option (β×Option Nat)) (N:β->Option ρ) (J:Nat->β->Option ρ):Option ρ:=match q with
 | none=>none
 | some (b,none)=>N b
 | some (b,some j)=>J j b
def jumpQ (Q:Exit->List AV->AH->Prop):Nat->List AV->AH->Prop
 | 0=>Q .ret
 | i+1=>Q (.exit i)

theorem r_range {P:Program} {Q:Exit->List AV->AH->Prop} {env:List AV} {hd H:AH} {c:Operand} {ps:Array Tmp} {β:Type} {nb k:Nat} {first caps:List AV} (h:β->AH) (A:β->List Blk) (T:β->List Nat) (b0:β) {LA:List Blk} {LT:List Nat} {r:ρ} {q:Option (β×Option Nat)} {N:β->Option ρ} {J:Nat->β->Option ρ}
  (m:rng q N J=some r) (K:wk hd env hd E (H.ext LA LT)) (x:∀b,(h b).blks.length=nb) (R:H=h b0) (I:LA=A b0) (G:LT=T b0) (O:∀b,(A b).length=k) (u:yf c=true) (D:yk E c=some (.fn (.func f) first caps)) (a:(noRF assign&&noRF body)=true)
  (hs:∀lp:LoopState->Option Code->Blk,lp=(λg d=>.loop g d E ps assign body)->∀y,q=some y->Spec P f (first++[.yld (nb+k)]++caps) (fam h A T lp (b0,none)) λ_ hh=>hh=fam h A T lp y)
  (F:∀b H1,H1=(h b).ext (A b++[.dead]) (T b)->N b=some r->Q .normal E H1) (S:∀j b H1,H1=(h b).ext (A b++[.dead]) (T b)->J j b=some r->jumpQ Q j E H1):vB P (.rangeFunc c ps assign body) Q env hd:=by
 subst R I G;obtain ⟨_,z⟩:=zS D;simp only [ud] at a;refine ⟨u,a.1,a.2,E,_,K,?_⟩;rw [z];have w:((h b0).ext (A b0) (T b0)).blks.length=nb+k:=by simp [AH.ext,x,O]
 rcases q with _ | ⟨b,p⟩
 ·cases m
 ·have v:=hs _ rfl (b,p) rfl;rw [w,ext_new];refine v.mono λ_ hh e=>?_;subst e;have s:(fam h A T (λg d=>.loop g d E ps assign body) (b,p)).blk (nb+k)=some (.loop (lst p) (lpe p) E ps assign body):=by
   simp only [fam,AH.blk,AH.ext,<- x b]
   simp_all
  have l:(fam h A T (λg d=>.loop g d E ps assign body) (b,p)).put (nb+k) .dead=(h b).ext (A b++[.dead]) (T b):=by
   simp only [fam,<- x b,wi]
   simp_all
  refine ⟨_,_,_,_,_,_,s,by cases p <;> simp [lst],?_⟩;rw [l];cases p with
  | none=>exact F b _ rfl m
  | some j =>
   have:=S j b _ rfl m;cases j with
   | zero=>exact this
   | succ i=>exact this

def roundQ (hs:AH) (id:Nat) (lp:LoopState->Option Code->Blk) (K:AV->AH->Prop):Exit->List AV->AH->Prop
 | .normal,_,h=>∃h3,wk hs [] h [] h3/\h3.blk id=some (lp .busy none)/\K (.bool true) (h3.put id (lp .ready none))
 | .ret,_,h=>∃h3,wk hs [] h [] h3/\h3.blk id=some (lp .busy none)/\K (.bool false) (h3.put id (lp .done (some .ret)))
 | .exit i,_,h=>∃h3,wk hs [] h [] h3/\h3.blk id=some (lp .busy none)/\K (.bool false) (h3.put id (lp .done (some (.exit i))))
 | _,_,_=>False
def assignQ (P:Program) (hs:AH) (id:Nat) (lp:LoopState->Option Code->Blk) (body:Code) (K:AV->AH->Prop):Exit->List AV->AH->Prop
 | .normal,env,h=>h.blk id=some (lp .ready none)/\vB P body (roundQ hs id lp K) env (h.put id (lp .busy none))
 | _,_,_=>False

def setL (env:List AV):List Tmp->List AV->List AV
 | p::ps,a::a5=>setL (env.set p a) ps a5
 | _,_=>env
theorem setL_fold {g:Gh}:∀{ps:List Tmp} {a5:List AV} {vs:List Value} {env:List AV} {tmps:Array Value},VL g env tmps.toList->VL g a5 vs->a5.length=ps.length->VL g (setL env ps a5) ((ps.zip vs).foldl (λt (p,v)=>t.setIfInBounds p v) tmps).toList
 | [],[],vs,env,tmps,h,_,_=>by simpa [setL] using h
 | [],_::_,_,_,_,_,_,hl=>by simp at hl
 | _::_,[],_,_,_,_,_,hl=>by simp at hl
 | p::ps,a::a5,vs,env,tmps,h,k,hl=>by
  simp only [VL] at k;obtain ⟨v,s,rfl,h1,c⟩:=k;simp only [setL,r6,sy];refine setL_fold ?_ c (by simp_all);rw [sY];exact h.set _ _ _ h1

theorem specY_of {P:Program} {h:AH} {K:AV->AH->Prop} {env u:List AV} {lp:LoopState->Option Code->Blk} (hlp:lp=λst pe=>.loop st pe env ⟨ps⟩ assign body) (hb:h.blk id=some (lp .ready none)) (hl:args.length=ps.length)
  (D:(noRF assign&&noRF body)=true) (he:setL env ps args=u) (hw:vB P assign (assignQ P h id lp body K) u h):SpecY P id args h K:=by
 subst hlp he;simp only [ud] at D;intro B w0 _ g w vs c r hv hc;have e:h.blks[id]?=some (.loop .ready none env ⟨ps⟩ assign body):=hb;obtain ⟨hB,hlt,⟨fn,tmps,d,hh,hve⟩,_⟩:=r.blk id c _ hc e;have hsz:vs.size=ps.length:=by rw [<- hl,hv.length];rfl
 refine ⟨_,_,_,_,run_yield hh (by omega),λn=>?_⟩;refine roundIn_of_wpIn (F:=Fence.wide) trivial ?_;have hte:VL g (setL env ps args) (((⟨ps⟩:Array Tmp).zip vs).foldl (λt (p,v)=>t.setIfInBounds p v) tmps).toList:=by
  rw [<- rt,Array.toList_zip];exact setL_fold hve hv hl
 refine vO (B:=B) (w0:=w0) (gb:=g) (g0:=g) (ro:=some c) assign (.inr D.1) hw ⟨g,Gh.le.refl g,r,hte,Marks.nil _ _,Gh.le.refl g⟩ λx env' h' a' w' W hs=>?_;obtain ⟨g1,J,r1,Z,hm1,I⟩:=hs;cases x with
 | normal =>
  obtain ⟨hb1,W⟩:=W;have q:h'.blks[id]?=some (.loop .ready none env ⟨ps⟩ assign body):=hb1;have U:=J.sig _ _ hc;obtain ⟨_,_,⟨Q,l,d1,G,H⟩,_⟩:=r1.blk id c _ U q;refine ⟨_,run_beginRound G rfl,?_⟩;have r2:Rel B w0 g1 (h'.put id (.loop .busy none env ⟨ps⟩ assign body)) (w'.putObj c (.loop { state:=.busy,pending:=none,fn:=Q,tmps:=l,params:=⟨ps⟩,assign,body,defers:=d1 })) :=
   r1.putObj U q (by simp) rfl rfl rfl World.putObj_size (λb e=>World.putObj_heap_other e) ⟨Q,l,d1,World.putObj_heap_same (uI.1 G).1,H⟩
  refine vO (B:=B) (w0:=w0) (gb:=g) (g0:=g) (ro:=some c) body (.inr D.2) W ⟨g1,J,r2,Z,hm1,I⟩ λx env3 h3 a3 w3 m X=>?_;obtain ⟨g3,hg3,r3,he3,_,_⟩:=X;have z:∀(a:Option Code),(∃O,wk h [] h3 [] O/\O.blk id=some (.loop .busy none env ⟨ps⟩ assign body)/\K (.bool a.isNone) (O.put id (.loop (if a.isNone then .ready else .done) a env ⟨ps⟩ assign body))) ->
    ∃v w4,(Instr.endRound c a).run P w3=.ok v w4/\∃v' r h5 g5,Ending.returned v=.returned v'/\K r h5/\g.le g5/\Rel B w0 g5 h5 w4/\V g5 r v':=by
   rintro a ⟨O,Y,hb4,hK⟩
   obtain ⟨g4,k1,k2,_,_⟩:=Y B w0 w3 w g g3 [] r hg3 r3 (by simp [VL]);have s:O.blks[id]?=some (.loop .busy none env ⟨ps⟩ assign body):=hb4;have N:=k1.sig _ _ hc;obtain ⟨_,_,⟨fn4,y,d4,R,S⟩,_⟩:=k2.blk id c _ N s;refine ⟨_,_,run_endRound a R,_,_,_,g4,rfl,hK,k1,?_,by simp only [V]⟩;exact k2.putObj N s (by simp) rfl rfl rfl World.putObj_size (λb e=>World.putObj_heap_other e) ⟨fn4,y,d4,World.putObj_heap_same (uI.1 R).1,S⟩
  cases x with
  | normal=>exact z none m
  | ret=>exact z (some .ret) m
  | exit i=>exact z (some (.exit i)) m
  | _=>exact m.elim
 | _=>exact W.elim

section
variable {P:Program} {h:AH} {A A' L B:List Blk} {T T' M C:List Nat} {nb nt:Nat} {o:Oper} {env:List AV}
theorem deep_blk (c:h.blks.length=nb) {j:Nat} {b:Blk} (a:A[j]?=some b):(((h.ext A T).ext L M).ext B C).blk (nb+j)=some b:=by
 simp only [xE,uy];subst c;rw [yC,uo (ua.1 a).1];exact a
theorem deep_blk2 (a:h.blks.length=nb) {j:Nat} {b:Blk} (c:A[j]?=some b):((h.ext A T).ext L M).blk (nb+j)=some b:=by
 have:=deep_blk (h:=h) (A:=A) (T:=T) (L:=L) (M:=M) (B:=[]) (C:=[]) a c
 rwa [ext_nil] at this
theorem deep_put (c:h.blks.length=nb) {j:Nat} {b:Blk} (a:j < A.length) (d:A.set j b=A'):(((h.ext A T).ext L M).ext B C).put (nb+j) b=((h.ext A' T).ext L M).ext B C:=by
 simp only [xE,uy];subst c d;rw [wi,List.set_append_left _ _ a]
theorem deep_put2 (c:h.blks.length=nb) {j:Nat} {b:Blk} (a:j < A.length) (d:A.set j b=A'):((h.ext A T).ext L M).put (nb+j) b=(h.ext A' T).ext L M:=by
 have:=deep_put (h:=h) (A:=A) (T:=T) (L:=L) (M:=M) (B:=[]) (C:=[]) c a d
 rwa [ext_nil,ext_nil] at this
theorem deep_len (a:h.blks.length=nb) {k:Nat} (c:A.length=k):((h.ext A T).ext L M).blks.length=nb+k+L.length:=by simp [AH.ext,a,c,t8]
theorem deep_tlen (a:h.toks.length=nt) {k:Nat} (c:T.length=k):((h.ext A T).ext L M).toks.length=nt+k+M.length:=by simp [AH.ext,a,c,t8]
theorem d_load (m:h.blks.length=nb) {t:TypeId} {d:TypeDesc} {k j off:Nat} {x:Operand} {cs:List AV} {v a:AV} (e:o.op=.load t x) (l:Ty P t d k) (p:yk env x=some (.ptr (nb+j) off)) (g:A[j]?=some (.cells cs))
  (i:ldC (yq d) k off cs=some v) (c:tyfix P t v=a):zB P o env (((h.ext A T).ext L M).ext B C)=.ok a (((h.ext A T).ext L M).ext B C):=by
 refine s_load e l p ?_ c;simp only [aLoad,deep_blk m g];exact i
theorem d_store (c:h.blks.length=nb) {t:TypeId} {d:TypeDesc} {k j off:Nat} {x y:Operand} {cs vs cs':List AV} {b b':AV} (m:o.op=.store t x y) (e:Ty P t d k) (r:yk env x=some (.ptr (nb+j) off)) (q:yk env y=some b)
  (l:tyfix P t b=b') (s:b'.cells?=some vs) (p:vs.length=k) (a:A[j]?=some (.cells cs)) (g:Nat.ble (off+k) cs.length=true) (hs:yP cs off vs=cs') (i:A.set j (.cells cs')=A') :
  zB P o env (((h.ext A T).ext L M).ext B C)=.ok aundef (((h.ext A' T).ext L M).ext B C):=by
 refine s_store m e r q l ?_;simp only [aStore,s,deep_blk c a];rw [uG ⟨p,sP g⟩,hs,deep_put c (ua.1 a).1 i]
theorem d_appT {α:Type} {row:α->List AV} {X Y:List α} (z:h.toks.length=nt) {c:Call} {x y:Operand} {t u e p:TypeId} {k k' j:Nat} {a b b':AV} (q:o.op=.call c) (H:c.callee=.builtin .append) (hs:c.args=#[x,y]) (g:c.argTypes=#[t,u]) (v:El P t e k)
  (d:El P u p k') (w:yk env x=some a) (s:yk env y=some b) (G:tyfix P t a=.osl (some (nt+j)) k (X.map row)) (i:tyfix P u b=b') (D:aNews k b'=some (Y.map row)) (r:X.length+Y.length<=xe) (F:T[j]?=some X.length) (m:T.set j (X++Y).length=T') :
  zB P o env (((h.ext A T).ext L M).ext B C)=.ok (.osl (some (nt+j)) k ((X++Y).map row)) (((h.ext A T').ext L M).ext B C):=by
 subst z m;have l:=(ua.1 F).1;have:=e_appT (P:=P) (h:=h) (B:=A++L++B) (T:=T++M++C) (T':=(T.set j (X++Y).length)++M++C) q H hs g v d w s G i D r (by grind)
  (by simp_all)
 simp only [xE];omega
theorem deep_cut {h0:AH} (v:h.closed nb nt) (d:h0.blks.length=nb) (c:h0.toks.length=nt) (r:h.blks.length=nb) (e:h.toks.length=nt) {A0:List Blk} {T0:List Nat} (m:A'.length=A0.length) (s:T'.length=T0.length)
  (l:A'.all (λb=>b.low (nb+A0.length) (nt+T0.length))=true):wk ((h0.ext A0 T0).ext L M) [] (((h.ext A' T').ext L M).ext B C) [] ((h.ext A' T').ext L M):=by
 have q:((h0.ext A0 T0).ext L M).blks.length=nb+A0.length+L.length:=deep_len d rfl;have p:((h0.ext A0 T0).ext L M).toks.length=nt+T0.length+M.length:=deep_tlen c rfl;have u:(((h.ext A' T').ext L M).ext B C).cut ((h0.ext A0 T0).ext L M).blks.length ((h0.ext A0 T0).ext L M).toks.length=(h.ext A' T').ext L M:=by
  have:=@ext_cut ((h.ext A' T').ext L M) B C;rw [deep_len r rfl,deep_tlen e rfl,m,s] at this;rw [q,p];exact this
 have:=wk.cut (hd:=(h0.ext A0 T0).ext L M) (env:=[]) (h:=((h.ext A' T').ext L M).ext B C) rfl (λi k hi a=>by
  rw [q] at hi ⊢;rw [p];rw [uv] at l;simp only [xE,AH.ext,uy] at a ⊢;rcases sn i h.blks.length with h1 | h1
  ·rw [uo h1] at a;exact .inr (Blk.low_up (by omega) (by omega) k (v k (uF a)))
  ·rw [un h1] at a;rcases sn (i - h.blks.length) A'.length with g | g
   ·rw [uo g] at a;exact .inr (Blk.low_up (by omega) (by omega) k (l k (uF a)))
   ·rw [un g] at a;rw [un (by omega),un (by omega)];rw [uo (by omega)] at a;rw [<- m,d,<- r];exact .inl a)
 rw [u] at this;exact this
end
theorem SpecY.deep {P:Program} {r:AV} {H H':AH} (c:∀A B,SpecY P id xs (H.ext A B) (λa hh=>a=r/\hh=H'.ext A B)) {A L B:List Blk} {T M C:List Nat}:SpecY P id xs (((H.ext A T).ext L M).ext B C) (λa hh=>a=r/\hh=((H'.ext A T).ext L M).ext B C):=by
 simp only [xE];exact c _ _
theorem Spec.deep {P:Program} {r:AV} {H H':AH} (c:∀A B,Spec P f xs (H.ext A B) (λa hh=>a=r/\hh=H'.ext A B)) {A L B:List Blk} {T M C:List Nat}:Spec P f xs (((H.ext A T).ext L M).ext B C) (λa hh=>a=r/\hh=((H'.ext A T).ext L M).ext B C):=by
 simp only [xE];exact c _ _

theorem y_body {P:Program} {β X:Type} {h:β->AH} {nb k:Nat} {A:β->List Blk} {T:β->List Nat} {lp:LoopState->Option Code->Blk} {env:List AV} (i:lp=λu m=>.loop u m env ⟨ps⟩ assign body) {f:β->X->Option (Bool×(β×Option Nat))} {xs:X->List AV}
  (w:∀b,(h b).blks.length=nb) (r:∀b,(A b).length=k) (e:(noRF assign&&noRF body)=true) (d:∀x,(xs x).length=ps.length) {a:X->List AV} (v:∀x,setL env ps (xs x)=a x)
  (q:∀b x o L M H1,H1=((((h b).ext (A b++[lp .ready none]) (T b)).ext L M).ext [] [])->f b x=some o->vB P assign (assignQ P (((h b).ext (A b++[lp .ready none]) (T b)).ext L M) (nb+k) lp body (λg hh=>g=.bool o.1/\hh=(fam h A T lp o.2).ext L M)) (a x) H1) :
  ∀(s:β×Option Nat) (x:X) (b:Bool) (c:β×Option Nat) (L:List Blk) (M:List Nat),stp f s x=some (b,c)->SpecY P (nb+k) (xs x) ((fam h A T lp s).ext L M) (λg hh=>g=.bool b/\hh=(fam h A T lp c).ext L M):=by
 rintro ⟨b0,p⟩ x b c L M l
 cases p with
 | some _=>cases l
 | none =>
  have:=q b0 x (b,c) L M _ rfl l;rw [ext_nil] at this;refine specY_of i ?_ (d x) e (v x) this;exact deep_blk2 (w b0) (by rw [un (by simp_all),r];simp [lst,lpe])
theorem q_assign {P:Program} {hs:AH} {nb k:Nat} {lp:LoopState->Option Code->Blk} {K:AV->AH->Prop} {env:List AV} {h:AH} {A L B:List Blk} {T M C:List Nat} (c:h.blks.length=nb) (a:A.length=k)
  (d:vB P body (roundQ hs (nb+k) lp K) env (((h.ext (A++[lp .busy none]) T).ext L M).ext B C)):assignQ P hs (nb+k) lp body K .normal env (((h.ext (A++[lp .ready none]) T).ext L M).ext B C):=by
 refine ⟨deep_blk c (by rw [un (by omega),a];simp),?_⟩;rw [deep_put c (by rw [uq,a];exact sJ _) (by rw [rH _ _ (by omega),a,pC])];exact d
section
variable {β:Type} {h:β->AH} {h0 h1:AH} {nb nt k:Nat} {lp:LoopState->Option Code->Blk} {env:List AV} {A:β->List Blk} {T:β->List Nat} {A0 A' L B:List Blk} {T0 T' M C:List Nat} {b':β} {o:Bool×(β×Option Nat)}
theorem q_roundA {E:Exit} {r:Bool} {p:Option Nat} (y:∀u,(∃a,wk ((h0.ext (A0++[lp .ready none]) T0).ext L M) [] u [] a/\a.blk (nb+k)=some (lp .busy none)/\(AV.bool r=.bool o.1/\a.put (nb+k) (lp (lst p) (lpe p))=(fam h A T lp o.2).ext L M))->roundQ ((h0.ext (A0++[lp .ready none]) T0).ext L M) (nb+k) lp (λi hh=>i=.bool o.1/\hh=(fam h A T lp o.2).ext L M) E env u)
  (z:h1.closed nb nt) (m:h0.blks.length=nb) (d:h0.toks.length=nt) (q:h1.blks.length=nb) (g:h1.toks.length=nt) (c:A0.length=k) (e:A'.length=k) (w:T'.length=T0.length) (s:o=(r,(b',p))) (hh:h b'=h1) (x:A b'=A') (l:T b'=T')
  (v:(A'++[lp .busy none]).all (λb=>b.low (nb+(k+1)) (nt+T0.length))=true) :
  roundQ ((h0.ext (A0++[lp .ready none]) T0).ext L M) (nb+k) lp (λi hh=>i=.bool o.1/\hh=(fam h A T lp o.2).ext L M) E env (((h1.ext (A'++[lp .busy none]) T').ext L M).ext B C):=by
 refine y _ ⟨(h1.ext (A'++[lp .busy none]) T').ext L M,deep_cut z m d q g (by simp [e,c]) w (by rw [uq,c];exact v),deep_blk2 q (by rw [un (by omega),e];simp),?_,?_⟩
 ·rw [s]
 ·rw [deep_put2 q (by rw [uq,e];exact sJ _) (by rw [rH _ _ (by omega),e,pC]),s];simp only [fam,x,l,hh];rfl
theorem q_roundN (v:h1.closed nb nt) (g:h0.blks.length=nb) (a:h0.toks.length=nt) (u:h1.blks.length=nb) (c:h1.toks.length=nt) (d:A0.length=k) (l:A'.length=k) (m:T'.length=T0.length) (i:o=(true,(b',none))) (hh:h b'=h1) (s:A b'=A') (e:T b'=T')
  (q:(A'++[lp .busy none]).all (λb=>b.low (nb+(k+1)) (nt+T0.length))=true) :
  roundQ ((h0.ext (A0++[lp .ready none]) T0).ext L M) (nb+k) lp (λw hh=>w=.bool o.1/\hh=(fam h A T lp o.2).ext L M) .normal env (((h1.ext (A'++[lp .busy none]) T').ext L M).ext B C) :=
 q_roundA (r:=true) (p:=none) (λ_ h=>h) v g a u c d l m i hh s e q
theorem q_roundR (v:h1.closed nb nt) (g:h0.blks.length=nb) (a:h0.toks.length=nt) (u:h1.blks.length=nb) (c:h1.toks.length=nt) (d:A0.length=k) (l:A'.length=k) (m:T'.length=T0.length) (i:o=(false,(b',some 0))) (hh:h b'=h1) (s:A b'=A') (e:T b'=T')
  (q:(A'++[lp .busy none]).all (λb=>b.low (nb+(k+1)) (nt+T0.length))=true) :
  roundQ ((h0.ext (A0++[lp .ready none]) T0).ext L M) (nb+k) lp (λw hh=>w=.bool o.1/\hh=(fam h A T lp o.2).ext L M) .ret env (((h1.ext (A'++[lp .busy none]) T').ext L M).ext B C) :=
 q_roundA (r:=false) (p:=some 0) (λ_ h=>h) v g a u c d l m i hh s e q
end
theorem s_yield {P:Program} {o:Oper} {env:List AV} {h:AH} {c:Call} {f:Operand} {l:List (TypeId×AV)} (d:o.op=.call c) (r:c.callee=.value f) (a:yk env f=some (.yld id))
  (g:argo env c.args.toList c.argTypes.toList=some l) (i:Fx P l args):zB P o env h=.round id args:=by
 obtain ⟨h1,m⟩:=zS a;obtain ⟨u,s,q⟩:=argo_ok (P:=P) g;have e:c.args.all yf=true:=by grind
 have p:(c.args.size==c.argTypes.size)=true:=by simp_all
 simp only [zB,d,e,p,uW,ur,r,h1,Bool.true_eq_false,uJ,m,q,i.eq]
theorem ops_round {P:Program} {c:Array Oper} {Q:List AV->AH->Prop} {o:Oper} {rest:List Oper} {env a:List AV} {h h':AH} {v:AV} (g:aG c o env=some true) (e:zB P o env h=.round id args) (hs:SpecY P id args h λr hh=>r=v/\hh=h')
  (hd:xO o.dst env v=some a) (d:zJ P c Q rest a h'):zJ P c Q (o::rest) env h:=by
 refine vA ?_;simp only [g,gwp,e,rwp];refine hs.mono ?_
 rintro r hh ⟨rfl,rfl⟩
 rw [yQ hd];exact d
theorem draw_round {Ns:List Nat} {F:Nat->AH->Prop} {i:Nat} (m:Ns.contains i=false) {P:Program} {a:Array Oper} {Q:List AV->AH->Prop} {o:Oper} {rest:List Oper} {env c:List AV} {h h':AH} {id:Nat} {args:List AV} {v:AV} (g:FOk ((Region.before a).getD i 0) Ns F h') (p:anch a Ns i=true) (d:aG a o env=some true) (l:zB P o env h=.round id args)
  (hs:SpecY P id args h λr hh=>r=v/\hh=h') (hd:xO o.dst env v=some c) (e:zW P a Ns F Q (i+1) rest c h'):zW P a Ns F Q i (o::rest) env h :=
 ⟨v,h',.inl ⟨m,by simp only [AR,d,l];exact hs⟩,.inl p,.inr g,by rw [yQ hd];exact e⟩
theorem SpecY.le {P:Program} {a5 bs:List AV} {h:AH} {K:AV->AH->Prop} (s:SpecY P id bs h K) (k:leL a5 bs):SpecY P id a5 h K :=
 λB w0 _ g w vs c r a d=>s B w0 g w vs c r (k _ _ a) d
def CloK (h:AH) (g:FuncId) (bs:List Blk) (rr:AV) (hh:AH):Prop:=rr=.fn (.func g) [] ((List.range bs.length).map λi=>.ptr (h.blks.length+i) 0)/\hh=h.ext bs []
theorem clo_ext {P:Program} {h:AH} {nb:Nat} (e:h.blks.length=nb) {f g:FuncId} {a5 caps:List AV} {B B' bs:List Blk} {T:List Nat} (s:Spec P f a5 (h.ext B T) (CloK (h.ext B T) g bs)) (l:B.length=n) (c:B++bs=B') (d:(List.range bs.length).map (λi=>AV.ptr (nb+(n+i)) 0)=caps) :
  Spec P f a5 (h.ext B T) (λa hh=>a=.fn (.func g) [] caps/\hh=h.ext B' T):=by
 refine s.mono ?_
 rintro a hh ⟨rfl,rfl⟩
 subst c d l e;refine ⟨?_,by rw [xE,tC]⟩;simp [AH.ext,t8]
theorem wk_cutb {h:AH} {env:List AV} {L L1:List Blk} {M:List Nat} (m:Nat) (s:zP (h.blks.length+m) h.toks.length env=true) (q:L.take m=L1) (d:L1.all (λb=>b.low (h.blks.length+m) h.toks.length)=true):wk h env (h.ext L M) env (h.ext L1 []):=λ_ _ _ _ v g vs a p r u=>by
 subst q;refine ⟨g.cut (h.blks.length+m) h.toks.length,Gh.le_cut2 a.ownlt p (by rw [a.slen];omega) (by rw [a.tlen];exact ue _),?_,VL.cut _ _ s u,λ_ h=>h⟩;have e:(h.ext L M).cut (h.blks.length+m) h.toks.length=h.ext (L.take m) []:=by
  simp only [AH.cut,AH.ext,tN,uQ];rw [uO (l:=h.blks) (by omega)];simp
 rw [<- e];refine r.cut _ _ λi k hi c=>?_;simp only [AH.ext] at c;rcases sn i h.blks.length with h1 | h1
 ·rw [uo h1] at c;have:=closed_of_rel a k (uF c);exact Blk.low_up (by omega) (ue _) k this
 ·rw [un h1] at c;rw [uv] at d;refine d k (uF (i:=i - h.blks.length) ?_)
  grind
theorem fin_clo {h:AH} {K:AV->AH->Prop} {v:AV} {bs L':List Blk} {M':List Nat} (c:v.low (h.blks.length+bs.length) h.toks.length=true) (e:L'.take bs.length=bs) (d:bs.all (λb=>b.low (h.blks.length+bs.length) h.toks.length)=true) (a:K v (h.ext bs [])):finK h K v (h.ext L' M') :=
 ⟨v,_,wk_cutb bs.length (by simp [zP,c]) e d,a⟩
theorem blk_lt {h:AH} {nb i:Nat} (a:h.blk i=some b) (c:h.blks.length=nb):i < nb:=by
 subst c;exact (ua.1 a).1
theorem n_blk {h:AH} {L:List Blk} {M:List Nat} {nb:Nat} (a:h.blks.length=nb) (c:L[j]?=some b):(h.ext L M).blk (nb+j)=some b:=by
 subst a;rw [yC];exact c
theorem n_blk2 {h:AH} {B B':List Blk} {T T':List Nat} {nb:Nat} (a:h.blks.length=nb) (c:B[j]?=some b):((h.ext B T).ext B' T').blk (nb+j)=some b:=by
 subst a;exact blk_ext2 c
theorem jmp1 {c:Nat} {X:Option ρ} {r:ρ} {G:Nat->Prop} (h:(if j=c then X else none)=some r) (k:X=some r->G c):G j:=by
 simp_all
theorem jmp_ret {Q:Exit->List AV->AH->Prop} {h:AH} (k:Q .ret E h):jumpQ Q 0 E h:=k
end Go.Vv
namespace Go.Vv
open Go
variable {fn:Func}
class GT (x:Operand) (env:List AV) (v:outParam AV):Prop where
 out:yk env x=some v
class ST (d:Option Tmp) (env:List AV) (v:AV) (env':outParam (List AV)):Prop where
 out:xO d env v=some env'
class TY (v:AV) (v':outParam AV):Prop where
 out:tyo v=some v'
section
variable {v a0 a1 a2 a3 a4 a5 a6 a7 a8 a9 a10 a11 a12 a13 a14 a15:AV} {r r':List AV} {n:Nat}
instance {env:List AV}:ST none env v env:=⟨rfl⟩
instance:GT (.tmp 0) (a0::r) a0:=⟨rfl⟩
instance:ST (some 0) (a0::r) v (v::r):=⟨rfl⟩
instance:GT (.tmp 1) (a0::a1::r) a1:=⟨rfl⟩
instance:ST (some 1) (a0::a1::r) v (a0::v::r):=⟨rfl⟩
instance:GT (.tmp 2) (a0::a1::a2::r) a2:=⟨rfl⟩
instance:ST (some 2) (a0::a1::a2::r) v (a0::a1::v::r):=⟨rfl⟩
instance:GT (.tmp 3) (a0::a1::a2::a3::r) a3:=⟨rfl⟩
instance:ST (some 3) (a0::a1::a2::a3::r) v (a0::a1::a2::v::r):=⟨rfl⟩
instance:GT (.tmp 4) (a0::a1::a2::a3::a4::r) a4:=⟨rfl⟩
instance:ST (some 4) (a0::a1::a2::a3::a4::r) v (a0::a1::a2::a3::v::r):=⟨rfl⟩
instance:GT (.tmp 5) (a0::a1::a2::a3::a4::a5::r) a5:=⟨rfl⟩
instance:ST (some 5) (a0::a1::a2::a3::a4::a5::r) v (a0::a1::a2::a3::a4::v::r):=⟨rfl⟩
instance:GT (.tmp 6) (a0::a1::a2::a3::a4::a5::a6::r) a6:=⟨rfl⟩
instance:ST (some 6) (a0::a1::a2::a3::a4::a5::a6::r) v (a0::a1::a2::a3::a4::a5::v::r):=⟨rfl⟩
instance:GT (.tmp 7) (a0::a1::a2::a3::a4::a5::a6::a7::r) a7:=⟨rfl⟩
instance:ST (some 7) (a0::a1::a2::a3::a4::a5::a6::a7::r) v (a0::a1::a2::a3::a4::a5::a6::v::r):=⟨rfl⟩
instance:GT (.tmp 8) (a0::a1::a2::a3::a4::a5::a6::a7::a8::r) a8:=⟨rfl⟩
instance:ST (some 8) (a0::a1::a2::a3::a4::a5::a6::a7::a8::r) v (a0::a1::a2::a3::a4::a5::a6::a7::v::r):=⟨rfl⟩
instance:GT (.tmp 9) (a0::a1::a2::a3::a4::a5::a6::a7::a8::a9::r) a9:=⟨rfl⟩
instance:ST (some 9) (a0::a1::a2::a3::a4::a5::a6::a7::a8::a9::r) v (a0::a1::a2::a3::a4::a5::a6::a7::a8::v::r):=⟨rfl⟩
instance:GT (.tmp 10) (a0::a1::a2::a3::a4::a5::a6::a7::a8::a9::a10::r) a10:=⟨rfl⟩
instance:ST (some 10) (a0::a1::a2::a3::a4::a5::a6::a7::a8::a9::a10::r) v (a0::a1::a2::a3::a4::a5::a6::a7::a8::a9::v::r):=⟨rfl⟩
instance:GT (.tmp 11) (a0::a1::a2::a3::a4::a5::a6::a7::a8::a9::a10::a11::r) a11:=⟨rfl⟩
instance:ST (some 11) (a0::a1::a2::a3::a4::a5::a6::a7::a8::a9::a10::a11::r) v (a0::a1::a2::a3::a4::a5::a6::a7::a8::a9::a10::v::r):=⟨rfl⟩
instance:GT (.tmp 12) (a0::a1::a2::a3::a4::a5::a6::a7::a8::a9::a10::a11::a12::r) a12:=⟨rfl⟩
instance:ST (some 12) (a0::a1::a2::a3::a4::a5::a6::a7::a8::a9::a10::a11::a12::r) v (a0::a1::a2::a3::a4::a5::a6::a7::a8::a9::a10::a11::v::r):=⟨rfl⟩
instance:GT (.tmp 13) (a0::a1::a2::a3::a4::a5::a6::a7::a8::a9::a10::a11::a12::a13::r) a13:=⟨rfl⟩
instance:ST (some 13) (a0::a1::a2::a3::a4::a5::a6::a7::a8::a9::a10::a11::a12::a13::r) v (a0::a1::a2::a3::a4::a5::a6::a7::a8::a9::a10::a11::a12::v::r):=⟨rfl⟩
instance:GT (.tmp 14) (a0::a1::a2::a3::a4::a5::a6::a7::a8::a9::a10::a11::a12::a13::a14::r) a14:=⟨rfl⟩
instance:ST (some 14) (a0::a1::a2::a3::a4::a5::a6::a7::a8::a9::a10::a11::a12::a13::a14::r) v (a0::a1::a2::a3::a4::a5::a6::a7::a8::a9::a10::a11::a12::a13::v::r):=⟨rfl⟩
instance:GT (.tmp 15) (a0::a1::a2::a3::a4::a5::a6::a7::a8::a9::a10::a11::a12::a13::a14::a15::r) a15:=⟨rfl⟩
instance:ST (some 15) (a0::a1::a2::a3::a4::a5::a6::a7::a8::a9::a10::a11::a12::a13::a14::a15::r) v (a0::a1::a2::a3::a4::a5::a6::a7::a8::a9::a10::a11::a12::a13::a14::v::r):=⟨rfl⟩
instance [g:GT (.tmp n) r v]:GT (.tmp (n+16)) (a0::a1::a2::a3::a4::a5::a6::a7::a8::a9::a10::a11::a12::a13::a14::a15::r) v:=⟨by have:=g.out;simpa [yk] using this⟩
instance [g:ST (some n) r v r']:ST (some (n+16)) (a0::a1::a2::a3::a4::a5::a6::a7::a8::a9::a10::a11::a12::a13::a14::a15::r) v (a0::a1::a2::a3::a4::a5::a6::a7::a8::a9::a10::a11::a12::a13::a14::a15::r'):=⟨by have:=g.out;simpa [xO] using this⟩
instance {env:List AV} {k:IntKind} {n:Int}:GT (.const (.int k n)) env (.int k n):=⟨rfl⟩
instance {env:List AV} {b:Bool}:GT (.const (.bool b)) env (.bool b):=⟨rfl⟩
class LenB (l:List UInt8) (k:Nat):Prop where
 out:l.length<=k
instance {k:Nat}:LenB [] k:=⟨tU _⟩
instance {a:UInt8} {l:List UInt8} {k:Nat} [i:LenB l k]:LenB (a::l) (k+1):=⟨pu i.out⟩
instance {env:List AV} {l:List UInt8} [i:LenB l 64]:GT (.const (.string ⟨List.toArray l⟩)) env (.str l):=⟨by
 have h:(ByteArray.mk (List.toArray l)).size<=maxLen:=uN (by simpa [ByteArray.size] using i.out) (by decide);simp [yk,cvo,h]⟩
instance {env:List AV}:GT (.const (.pointer none)) env .nilp:=⟨rfl⟩
instance {env:List AV}:GT (.const (.map none)) env .nilm:=⟨rfl⟩
instance {env:List AV}:GT (.const .nilFunc) env .nilf:=⟨rfl⟩
instance {env:List AV}:GT (.const .nilIface) env .nili:=⟨rfl⟩
instance {env:List AV}:GT (.const (.slice none 0 0)) env .nilsl:=⟨rfl⟩
instance {env:List AV} {g:Nat}:GT (.global g) env (.glob g):=⟨rfl⟩
instance {env:List AV} {f:FuncId}:GT (.func f) env (.fn (.func f) [] []):=⟨rfl⟩
end
instance {b}:TY (.bool b) (.bool b):=⟨rfl⟩
instance {k n}:TY (.int k n) (.int k n):=⟨rfl⟩
instance {s}:TY (.str s) (.str s):=⟨rfl⟩
instance {i o}:TY (.ptr i o) (.ptr i o):=⟨rfl⟩
instance {c}:TY (.fptr c) (.fptr c):=⟨rfl⟩
instance {k e}:TY (.sl k e) (.sl k e):=⟨rfl⟩
instance {q k e}:TY (.osl q k e) (.osl q k e):=⟨rfl⟩
instance {a b c d}:TY (.msl a b c d) (.msl a b c d):=⟨rfl⟩
instance {a b c d}:TY (.rsl a b c d) (.rsl a b c d):=⟨rfl⟩
instance {a b c d e}:TY (.rptr a b c d e) (.rptr a b c d e):=⟨rfl⟩
instance {a b c d e}:TY (.rsuf a b c d e) (.rsuf a b c d e):=⟨rfl⟩
instance {i}:TY (.map i) (.map i):=⟨rfl⟩
instance {a b}:TY (.imap a b) (.imap a b):=⟨rfl⟩
instance {f x y}:TY (.fn f x y) (.fn f x y):=⟨rfl⟩
instance {t v}:TY (.iface t v) (.iface t v):=⟨rfl⟩
instance {c}:TY (.agg c) (.agg c):=⟨rfl⟩
instance {c}:TY (.tup c) (.tup c):=⟨rfl⟩
instance {g}:TY (.glob g) (.glob g):=⟨rfl⟩
instance {i}:TY (.yld i) (.yld i):=⟨rfl⟩
instance:TY .nilp .nilp:=⟨rfl⟩
instance:TY .nilm .nilm:=⟨rfl⟩
instance:TY .nilf .nilf:=⟨rfl⟩
instance:TY .nili .nili:=⟨rfl⟩
instance {f x y}:TY (AV.zcl (.fn f x y)) (.fn f x y):=⟨rfl⟩
instance {v:AV} {b:Bool}:TY (va true v b) (.tup [v,.bool b]):=⟨by rfl⟩
section
variable {α:Type}
class NTH (n:Nat) (l:List α) (v:outParam α):Prop where
 out:l[n]?=some v
instance {a:α} {l:List α}:NTH 0 (a::l) a:=⟨rfl⟩
instance {n:Nat} {a v:α} {l:List α} [i:NTH n l v]:NTH (n+1) (a::l) v:=⟨by simpa using i.out⟩
class DROP (n:Nat) (l:List α) (r:outParam (List α)):Prop where
 out:l.drop n=r
 le:n<=l.length
instance {l:List α}:DROP 0 l l:=⟨rfl,tU _⟩
instance {n:Nat} {a:α} {l r:List α} [i:DROP n l r]:DROP (n+1) (a::l) r:=⟨by simpa using i.out,pu i.le⟩
class TAKE (n:Nat) (l:List α) (r:outParam (List α)):Prop where
 out:l.take n=r/\n<=l.length
instance {l:List α}:TAKE 0 l []:=⟨by simp⟩
instance {n:Nat} {a:α} {l r:List α} [i:TAKE n l r]:TAKE (n+1) (a::l) (a::r):=⟨by have:=i.out;simp [this.1,this.2]⟩
end
class SPL (n:Nat) (vs l:List AV) (r:outParam (List AV)):Prop where
 out:yP l n vs=r/\n+vs.length<=l.length
class APP (l r:List Blk) (s:outParam (List Blk)):Prop where
 out:l++r=s
instance {r:List Blk}:APP [] r r:=⟨rfl⟩
instance {a:Blk} {l r s:List Blk} [i:APP l r s]:APP (a::l) r (a::s):=⟨by rw [<- i.out];rfl⟩
class SETL (l:List Blk) (n:Nat) (b:Blk) (s:outParam (List Blk)):Prop where
 out:l.set n b=s
instance {a b:Blk} {l:List Blk}:SETL (a::l) 0 b (b::l):=⟨rfl⟩
instance {a b:Blk} {l s:List Blk} {n:Nat} [i:SETL l n b s]:SETL (a::l) (n+1) b (a::s):=⟨by rw [<- i.out];rfl⟩
class NRM (l:List Blk) (s:outParam (List Blk)):Prop where
 out:l=s
instance:NRM [] []:=⟨rfl⟩
instance {a:Blk} {l:List Blk}:NRM (a::l) (a::l):=⟨rfl⟩
instance {l r o s:List Blk} [i:NRM l o] [j:APP o r s]:NRM (l++r) s:=⟨by rw [i.out,j.out]⟩
instance {l o s:List Blk} {n:Nat} {b:Blk} [i:NRM l o] [j:SETL o n b s]:NRM (l.set n b) s:=⟨by rw [i.out,j.out]⟩
class FA (off:Nat) (a:AV) (v:outParam AV):Prop where
 out:qh off a=some v
instance {off i:Nat}:FA off (.ptr i 0) (.ptr i off):=⟨by simp [qh]⟩
instance (priority:=low) {off i o:Nat}:FA off (.ptr i o) (.ptr i (o+off)):=⟨rfl⟩
instance {off:Nat} {cs r:List AV} [i:DROP off cs r]:FA off (.fptr cs) (.fptr r):=⟨by simp [qh,i.out]⟩
class BI (op:BinOp) (t:TypeId) (x y:AV) (v:outParam AV):Prop where
 out:∀P,yG P op t x y=some v
section
variable {t:TypeId} {k:IntKind} {a b:Int} {x y:List UInt8}
instance:BI .add t (.int k a) (.int k b) (.int k (k.wrap (a+b))):=⟨λP=>by simp [yG,yZ]⟩
instance:BI .sub t (.int k a) (.int k b) (.int k (k.wrap (a - b))):=⟨λP=>by simp [yG,yZ]⟩
instance:BI .mul t (.int k a) (.int k b) (.int k (k.wrap (a * b))):=⟨λP=>by simp [yG,yZ]⟩
instance:BI .and t (.int k a) (.int k b) (.int k (k.wrap ((BitVec.ofInt k.bits a &&& BitVec.ofInt k.bits b).toNat))):=⟨λP=>by simp [yG,yZ]⟩
instance:BI .or t (.int k a) (.int k b) (.int k (k.wrap ((BitVec.ofInt k.bits a ||| BitVec.ofInt k.bits b).toNat))):=⟨λP=>by simp [yG,yZ]⟩
instance:BI .andNot t (.int k a) (.int k b) (.int k (k.wrap ((BitVec.ofInt k.bits a &&& ~~~(BitVec.ofInt k.bits b)).toNat))):=⟨λP=>by simp [yG,yZ]⟩
instance:BI .xor t (.int k a) (.int k b) (.int k (k.wrap ((BitVec.ofInt k.bits a ^^^ BitVec.ofInt k.bits b).toNat))):=⟨λP=>by simp [yG,yZ]⟩
instance:BI .eql t (.int k a) (.int k b) (.bool (a==b)):=⟨λP=>by simp [yG,yZ]⟩
instance:BI .neq t (.int k a) (.int k b) (.bool (a != b)):=⟨λP=>by simp [yG,yZ]⟩
instance:BI .lss t (.int k a) (.int k b) (.bool (decide (a < b))):=⟨λP=>by simp [yG,yZ]⟩
instance:BI .leq t (.int k a) (.int k b) (.bool (decide (a<=b))):=⟨λP=>by simp [yG,yZ]⟩
instance:BI .gtr t (.int k a) (.int k b) (.bool (decide (a > b))):=⟨λP=>by simp [yG,yZ]⟩
instance:BI .geq t (.int k a) (.int k b) (.bool (decide (a >= b))):=⟨λP=>by simp [yG,yZ]⟩
instance:BI .eql t (.str x) (.str y) (.bool (x==y)):=⟨λP=>by rfl⟩
instance:BI .neq t (.str x) (.str y) (.bool !(x==y)):=⟨λP=>by rfl⟩
instance:BI .lss t (.str x) (.str y) (.bool (Op.bytesLess x y)):=⟨λP=>by rfl⟩
instance:BI .leq t (.str x) (.str y) (.bool (Op.bytesLess x y || x==y)):=⟨λP=>by rfl⟩
instance:BI .gtr t (.str x) (.str y) (.bool !(Op.bytesLess x y || x==y)):=⟨λP=>by rfl⟩
instance:BI .geq t (.str x) (.str y) (.bool !(Op.bytesLess x y)):=⟨λP=>by rfl⟩
instance {o:IntKind}:BI .shr t (.int k a) (.int o 1) (.int k (a.fdiv (2 ^ min (1:Int).toNat k.bits))):=⟨λP=>by simp [yG,yZ]⟩
instance {o:IntKind}:BI .shr t (.int k a) (.int o 2) (.int k (a.fdiv (2 ^ min (2:Int).toNat k.bits))):=⟨λP=>by simp [yG,yZ]⟩
instance {o:IntKind}:BI .shr t (.int k a) (.int o 3) (.int k (a.fdiv (2 ^ min (3:Int).toNat k.bits))):=⟨λP=>by simp [yG,yZ]⟩
instance {o:IntKind}:BI .shr t (.int k a) (.int o 4) (.int k (a.fdiv (2 ^ min (4:Int).toNat k.bits))):=⟨λP=>by simp [yG,yZ]⟩
instance {o:IntKind}:BI .shr t (.int k a) (.int o 5) (.int k (a.fdiv (2 ^ min (5:Int).toNat k.bits))):=⟨λP=>by simp [yG,yZ]⟩
instance {o:IntKind}:BI .shr t (.int k a) (.int o 6) (.int k (a.fdiv (2 ^ min (6:Int).toNat k.bits))):=⟨λP=>by simp [yG,yZ]⟩
instance {o:IntKind}:BI .shr t (.int k a) (.int o 7) (.int k (a.fdiv (2 ^ min (7:Int).toNat k.bits))):=⟨λP=>by simp [yG,yZ]⟩
instance {o:IntKind}:BI .shr t (.int k a) (.int o 8) (.int k (a.fdiv (2 ^ min (8:Int).toNat k.bits))):=⟨λP=>by simp [yG,yZ]⟩
instance {o:IntKind}:BI .shr t (.int k a) (.int o 16) (.int k (a.fdiv (2 ^ min (16:Int).toNat k.bits))):=⟨λP=>by simp [yG,yZ]⟩
instance {o:IntKind}:BI .shr t (.int k a) (.int o 24) (.int k (a.fdiv (2 ^ min (24:Int).toNat k.bits))):=⟨λP=>by simp [yG,yZ]⟩
instance {o:IntKind}:BI .shr t (.int k a) (.int o 32) (.int k (a.fdiv (2 ^ min (32:Int).toNat k.bits))):=⟨λP=>by simp [yG,yZ]⟩
instance {o:IntKind}:BI .shr t (.int k a) (.int o 40) (.int k (a.fdiv (2 ^ min (40:Int).toNat k.bits))):=⟨λP=>by simp [yG,yZ]⟩
instance {o:IntKind}:BI .shr t (.int k a) (.int o 48) (.int k (a.fdiv (2 ^ min (48:Int).toNat k.bits))):=⟨λP=>by simp [yG,yZ]⟩
instance {o:IntKind}:BI .shr t (.int k a) (.int o 56) (.int k (a.fdiv (2 ^ min (56:Int).toNat k.bits))):=⟨λP=>by simp [yG,yZ]⟩
instance {o:IntKind}:BI .shr t (.int k a) (.int o 63) (.int k (a.fdiv (2 ^ min (63:Int).toNat k.bits))):=⟨λP=>by simp [yG,yZ]⟩
instance {o:IntKind}:BI .shl t (.int k a) (.int o 1) (.int k (k.wrap (a * 2 ^ min (1:Int).toNat k.bits))):=⟨λP=>by simp [yG,yZ]⟩
instance {o:IntKind}:BI .shl t (.int k a) (.int o 2) (.int k (k.wrap (a * 2 ^ min (2:Int).toNat k.bits))):=⟨λP=>by simp [yG,yZ]⟩
instance {o:IntKind}:BI .shl t (.int k a) (.int o 3) (.int k (k.wrap (a * 2 ^ min (3:Int).toNat k.bits))):=⟨λP=>by simp [yG,yZ]⟩
instance {o:IntKind}:BI .shl t (.int k a) (.int o 4) (.int k (k.wrap (a * 2 ^ min (4:Int).toNat k.bits))):=⟨λP=>by simp [yG,yZ]⟩
instance {o:IntKind}:BI .shl t (.int k a) (.int o 7) (.int k (k.wrap (a * 2 ^ min (7:Int).toNat k.bits))):=⟨λP=>by simp [yG,yZ]⟩
instance {o:IntKind}:BI .shl t (.int k a) (.int o 8) (.int k (k.wrap (a * 2 ^ min (8:Int).toNat k.bits))):=⟨λP=>by simp [yG,yZ]⟩
instance {o:IntKind}:BI .shl t (.int k a) (.int o 16) (.int k (k.wrap (a * 2 ^ min (16:Int).toNat k.bits))):=⟨λP=>by simp [yG,yZ]⟩
instance {o:IntKind}:BI .shl t (.int k a) (.int o 32) (.int k (k.wrap (a * 2 ^ min (32:Int).toNat k.bits))):=⟨λP=>by simp [yG,yZ]⟩
instance:BI .quo t (.int k a) (.int k 2) (.int k (k.wrap (a.tdiv 2))):=⟨λP=>by simp [yG,yZ]⟩
instance:BI .rem t (.int k a) (.int k 2) (.int k (a.tmod 2)):=⟨λP=>by simp [yG,yZ]⟩
instance:BI .quo t (.int k a) (.int k 3) (.int k (k.wrap (a.tdiv 3))):=⟨λP=>by simp [yG,yZ]⟩
instance:BI .rem t (.int k a) (.int k 3) (.int k (a.tmod 3)):=⟨λP=>by simp [yG,yZ]⟩
instance:BI .quo t (.int k a) (.int k 4) (.int k (k.wrap (a.tdiv 4))):=⟨λP=>by simp [yG,yZ]⟩
instance:BI .rem t (.int k a) (.int k 4) (.int k (a.tmod 4)):=⟨λP=>by simp [yG,yZ]⟩
instance:BI .quo t (.int k a) (.int k 7) (.int k (k.wrap (a.tdiv 7))):=⟨λP=>by simp [yG,yZ]⟩
instance:BI .rem t (.int k a) (.int k 7) (.int k (a.tmod 7)):=⟨λP=>by simp [yG,yZ]⟩
instance:BI .quo t (.int k a) (.int k 8) (.int k (k.wrap (a.tdiv 8))):=⟨λP=>by simp [yG,yZ]⟩
instance:BI .rem t (.int k a) (.int k 8) (.int k (a.tmod 8)):=⟨λP=>by simp [yG,yZ]⟩
instance:BI .quo t (.int k a) (.int k 10) (.int k (k.wrap (a.tdiv 10))):=⟨λP=>by simp [yG,yZ]⟩
instance:BI .rem t (.int k a) (.int k 10) (.int k (a.tmod 10)):=⟨λP=>by simp [yG,yZ]⟩
instance:BI .quo t (.int k a) (.int k 16) (.int k (k.wrap (a.tdiv 16))):=⟨λP=>by simp [yG,yZ]⟩
instance:BI .rem t (.int k a) (.int k 16) (.int k (a.tmod 16)):=⟨λP=>by simp [yG,yZ]⟩
instance:BI .quo t (.int k a) (.int k 32) (.int k (k.wrap (a.tdiv 32))):=⟨λP=>by simp [yG,yZ]⟩
instance:BI .rem t (.int k a) (.int k 32) (.int k (a.tmod 32)):=⟨λP=>by simp [yG,yZ]⟩
instance:BI .quo t (.int k a) (.int k 64) (.int k (k.wrap (a.tdiv 64))):=⟨λP=>by simp [yG,yZ]⟩
instance:BI .rem t (.int k a) (.int k 64) (.int k (a.tmod 64)):=⟨λP=>by simp [yG,yZ]⟩
instance:BI .quo t (.int k a) (.int k 100) (.int k (k.wrap (a.tdiv 100))):=⟨λP=>by simp [yG,yZ]⟩
instance:BI .rem t (.int k a) (.int k 100) (.int k (a.tmod 100)):=⟨λP=>by simp [yG,yZ]⟩
instance:BI .quo t (.int k a) (.int k 128) (.int k (k.wrap (a.tdiv 128))):=⟨λP=>by simp [yG,yZ]⟩
instance:BI .rem t (.int k a) (.int k 128) (.int k (a.tmod 128)):=⟨λP=>by simp [yG,yZ]⟩
instance:BI .quo t (.int k a) (.int k 256) (.int k (k.wrap (a.tdiv 256))):=⟨λP=>by simp [yG,yZ]⟩
instance:BI .rem t (.int k a) (.int k 256) (.int k (a.tmod 256)):=⟨λP=>by simp [yG,yZ]⟩
end
class UN (op:UnOp) (x:AV) (v:outParam AV):Prop where
 out:aUn op x=some v
instance {b:Bool}:UN .not (.bool b) (.bool !b):=⟨rfl⟩
instance {k:IntKind} {n:Int}:UN .neg (.int k n) (.int k (k.wrap (0 - n))):=⟨rfl⟩
class NA (d:TypeDesc):Prop where
 out:yq d=false
instance {k:IntKind}:NA (.int k):=⟨rfl⟩
instance:NA .string:=⟨rfl⟩
instance:NA .bool:=⟨rfl⟩
instance {e:TypeId}:NA (.slice e):=⟨rfl⟩
instance {e:TypeId}:NA (.pointer e):=⟨rfl⟩
instance {a b:TypeId}:NA (.map a b):=⟨rfl⟩
class TA (P:Program) (t:TypeId) (k:outParam Nat):Prop where
 out:∃d,Ty P t d k/\yq d=true
class SUC (k:Nat):Prop where
 out:∃j,k=j+1
instance {n:Nat}:SUC (n+1):=⟨⟨n,rfl⟩⟩
class IMP (b b':Bool):Prop where
 out:b=true->b'=true
instance {b:Bool}:IMP b b:=⟨id⟩
instance {a b c:Bool} [i:IMP a b]:IMP (a&&c) b:=⟨λh=>i.out (and_l h)⟩
class GGX (b:Bool) (w:AV) (v:outParam AV):Prop where
 out:b=true->w=v
instance {b o:Bool} {v:AV} [i:IMP b o]:GGX b (gv o v) v:=⟨λs=>by rw [i.out s,gv_true]⟩
instance (priority:=low) {b:Bool} {w:AV}:GGX b w w:=⟨λ_=>rfl⟩
class GG (x:Operand) (env:List AV) (b:Bool) (v:outParam AV):Prop where
 out:b=true->yk env x=some v
instance {x:Operand} {env:List AV} {b:Bool} {w v:AV} [i:GT x env w] [j:GGX b w v]:GG x env b v:=⟨λo=>by rw [<- j.out o];exact i.out⟩
class TYP (P:Program) (t:TypeId) (v:AV) (v':outParam AV):Prop where
 out:tyfix P t v=v'
instance {P:Program} {t:TypeId} {v v':AV} [i:TY v v']:TYP P t v v':=⟨za i.out⟩
instance {P:Program} {t:TypeId} {a:Nat} {u:Option Nat}:TYP P t (zO a u) (zO a u):=⟨ty_optm⟩
instance {P:Program} {t e:TypeId} {k:Nat} [i:El P t e k]:TYP P t .nilsl (.osl none k []):=⟨ty_nil i⟩
class IMT (b t w b':Bool):Prop where
 out:b=true->t=w->b'=true
instance {b t w:Bool}:IMT b t w (t==w):=⟨λ_ h=>by simp_all⟩
instance {b o t w:Bool} [i:IMP b o]:IMT b t w (o&&(t==w)):=⟨λh e=>by rw [i.out h,e];cases w <;> rfl⟩
class PK' (b t:Bool) (x y:AV) (v:outParam AV):Prop where
 out:b=true->(if t then x else y)=v
section
variable {b t q r c c':Bool} {k:IntKind} {m n:Int}
instance:PK' b t (.bool q) (.bool r) (.bool (if t then q else r)):=⟨λ_=>pick_bb⟩
instance [i:IMT b t true c]:PK' b t (gv c (.bool q)) (.bool r) (.bool (if t then q else r)):=⟨λh=>pick_g1 (i.out h)⟩
instance [i:IMT b t false c]:PK' b t (.bool r) (gv c (.bool q)) (.bool (if t then r else q)):=⟨λh=>pick_g2 (i.out h)⟩
instance [i:IMT b t true c] [j:IMT b t false c']:PK' b t (gv c (.bool q)) (gv c' (.bool r)) (.bool (if t then q else r)):=⟨λh=>pick_g3 (i.out h) (j.out h)⟩
instance (priority:=high) [i:IMT b t true c]:PK' b t (gv c (.bool q)) (.bool false) (.bool (t&&q)):=⟨λh=>pick_and (i.out h)⟩
instance (priority:=high) [i:IMT b t false c]:PK' b t (.bool true) (gv c (.bool q)) (.bool (t || q)):=⟨λh=>qB (i.out h)⟩
instance:PK' b t (.int k m) (.int k n) (.int k (if t then m else n)):=⟨λ_=>pick_ii⟩
instance [i:IMT b t true c]:PK' b t (gv c (.int k m)) (.int k n) (.int k (if t then m else n)):=⟨λh=>pick_ig1 (i.out h)⟩
instance [i:IMT b t false c]:PK' b t (.int k n) (gv c (.int k m)) (.int k (if t then n else m)):=⟨λh=>pick_ig2 (i.out h)⟩
end
class ONE (P:Program) (o:Oper) (env:List AV) (h:AH) (q:Bool) (v:outParam AV):Prop where
 out:q=true->zB P o env h=.ok v h
section
variable {P:Program} {env:List AV} {h h0:AH} {r':List Blk} {d:Option Tmp} {t t' u:TypeId} {p:String} {a:Array Edge} {x y z:Operand} {v v' w w' b:AV} {id i j n k k' off f:Nat} {cs cs' r:List AV} {L L':List Blk} {M:List Nat} {td:TypeDesc} {gd:Option (Nat×Bool)} {q tt:Bool}
instance [o:GG x env q v] [s:TYP P t v v']:ONE P ⟨d,.move x,t,p,a,gd⟩ env h q v':=⟨λC=>zf rfl (o.out C) s.out⟩
instance [o:GG x env q v] [s:TYP P t v v']:ONE P ⟨d,.assign x,t,p,a,gd⟩ env h q v':=⟨λC=>zq rfl (o.out C) s.out⟩
instance [s:GG x env q (.bool tt)] [E:GT y env v] [C:GT z env w] [D:PK' q tt v w b]:ONE P ⟨d,.pick x y z,t,p,a,gd⟩ env h q b:=⟨λo=>qx rfl (s.out o) E.out C.out (D.out o)⟩
instance [o:Fo P t f off u k] [s:SUC k] [C:GG x env q v] [D:FA off v v']:ONE P ⟨d,.fieldAddr t x f,t',p,a,gd⟩ env h q v':=⟨λE=>by
 obtain ⟨j,rfl⟩:=s.out;exact zp rfl o (C.out E) D.out⟩
instance {op:BinOp} [s:GG x env q v] [D:GG y env q v'] [C:BI op t v v' w]:ONE P ⟨d,.binOp op t x y u,t',p,a,gd⟩ env h q w:=⟨λo=>zX rfl (s.out o) (D.out o) (C.out P)⟩
instance {op:UnOp} [o:GG x env q v] [s:UN op v w]:ONE P ⟨d,.unOp op t x,t',p,a,gd⟩ env h q w:=⟨λC=>s_un rfl (o.out C) s.out⟩
instance [o:GG x env q (.tup cs)] [s:NTH n cs v] [C:TYP P t v v']:ONE P ⟨d,.extract x n,t,p,a,gd⟩ env h q v':=⟨λD=>zN rfl (o.out D) s.out C.out⟩
instance [o:GG x env q (.fptr cs)]:ONE P ⟨d,.nilCheck x,t,p,a,gd⟩ env h q (.fptr cs):=⟨λs=>zL rfl (o.out s) rfl⟩
instance [o:GG x env q (.ptr i j)]:ONE P ⟨d,.nilCheck x,t,p,a,gd⟩ env h q (.ptr i j):=⟨λs=>zL rfl (o.out s) rfl⟩
instance [o:Ty P t td k] [E:NA td] [s:GG x env q (.ptr (h0.blks.length+j) off)] [J:NRM L L'] [H:NTH j L' (.cells cs)] [C:NTH off cs v] [D:TYP P t v v']:ONE P ⟨d,.load t x,t',p,a,gd⟩ env (h0.ext L M) q v':=⟨λI=>zH rfl o (s.out I) (by rw [J.out];exact H.out) (by rw [E.out];exact zD C.out) D.out⟩
instance [o:Ty P t td k] [E:NA td] [s:GG x env q (.fptr cs)] [D:NTH 0 cs v] [C:TYP P t v v']:ONE P ⟨d,.load t x,t',p,a,gd⟩ env h q v':=⟨λH=>qK rfl o (s.out H) (by rw [E.out];exact zD D.out) C.out⟩
instance [D:TA P t k] [E:GG x env q (.ptr (h0.blks.length+j) off)] [R:NRM L L'] [J:NTH j L' (.cells cs)] [o:DROP off cs cs'] [H:TAKE k cs' r]:ONE P ⟨d,.load t x,t',p,a,gd⟩ env (h0.ext L M) q (.agg r):=⟨λK=>by
 obtain ⟨td,I,O⟩:=D.out;have C:=o.out;have s:=H.out;refine zH rfl I (E.out K) (by rw [R.out];exact J.out) ?_ (za (v:=.agg r) rfl);rw [O];refine ldC_ag (su ?_) (by rw [C,s.1]);have:=s.2;rw [<- C,s6] at this;have:=o.le;omega⟩
instance [o:TA P t k] [s:GG x env q (.fptr cs)] [C:TAKE k cs r]:ONE P ⟨d,.load t x,t',p,a,gd⟩ env h q (.agg r):=⟨λE=>by
 obtain ⟨td,D,H⟩:=o.out;have I:=C.out;refine qK rfl D (s.out E) ?_ (za (v:=.agg r) rfl);rw [H];exact ldC_ag (su (by omega)) (by simp_all)⟩
class CEL (v:AV) (cs:outParam (List AV)):Prop where
 out:v.cells?=some cs
instance:CEL (.agg cs) cs:=⟨rfl⟩
class LENB (L:List Blk) (n:outParam Nat):Prop where
 out:L.length=n
instance:LENB [] 0:=⟨rfl⟩
instance {b0:Blk}:LENB [b0] 1:=⟨rfl⟩
instance {b0 o:Blk}:LENB [b0,o] 2:=⟨rfl⟩
instance {b0 s o:Blk}:LENB [b0,s,o] 3:=⟨rfl⟩
instance {b0 C s o:Blk}:LENB [b0,C,s,o] 4:=⟨rfl⟩
instance {b0 o C D s:Blk}:LENB [b0,o,C,D,s] 5:=⟨rfl⟩
instance {b0 o D E C s:Blk}:LENB [b0,o,D,E,C,s] 6:=⟨rfl⟩
instance {b0 o E H D s C:Blk}:LENB [b0,o,E,H,D,s,C] 7:=⟨rfl⟩
instance {b0 s H I E C D o:Blk}:LENB [b0,s,H,I,E,C,D,o] 8:=⟨rfl⟩
instance {b0 s I J H C E o D:Blk}:LENB [b0,s,I,J,H,C,E,o,D] 9:=⟨rfl⟩
instance {b0 s I J H C E o D K:Blk}:LENB [b0,s,I,J,H,C,E,o,D,K] 10:=⟨rfl⟩
instance {b0 C J K I D H s E O o:Blk}:LENB [b0,C,J,K,I,D,H,s,E,O,o] 11:=⟨rfl⟩
instance {b0 D K O J E I C H R s o:Blk}:LENB [b0,D,K,O,J,E,I,C,H,R,s,o] 12:=⟨rfl⟩
instance {b0 E O R K H J D I S C s o:Blk}:LENB [b0,E,O,R,K,H,J,D,I,S,C,s,o] 13:=⟨rfl⟩
instance {b0 H R S O I K E J T C s o D:Blk}:LENB [b0,H,R,S,O,I,K,E,J,T,C,s,o,D] 14:=⟨rfl⟩
instance {b0 I S T R J O H K U D C s E o:Blk}:LENB [b0,I,S,T,R,J,O,H,K,U,D,C,s,E,o] 15:=⟨rfl⟩
instance {b0 J T U S K R I O V E D C H o s:Blk}:LENB [b0,J,T,U,S,K,R,I,O,V,E,D,C,H,o,s] 16:=⟨rfl⟩
instance {b0 K U V T O S J R W H E D I s C o:Blk}:LENB [b0,K,U,V,T,O,S,J,R,W,H,E,D,I,s,C,o] 17:=⟨rfl⟩
instance {b0 O V W U R T K S X I H E J s D o C:Blk}:LENB [b0,O,V,W,U,R,T,K,S,X,I,H,E,J,s,D,o,C] 18:=⟨rfl⟩
instance {b0 O X T W R S V Y U E D K H s J o I C:Blk}:LENB [b0,O,X,T,W,R,S,V,Y,U,E,D,K,H,s,J,o,I,C] 19:=⟨rfl⟩
instance {b}:CEL (.bool b) [.bool b]:=⟨rfl⟩
instance {k n}:CEL (.int k n) [.int k n]:=⟨rfl⟩
instance {s}:CEL (.str s) [.str s]:=⟨rfl⟩
instance {i o}:CEL (.ptr i o) [.ptr i o]:=⟨rfl⟩
instance {c}:CEL (.fptr c) [.fptr c]:=⟨rfl⟩
instance {k e}:CEL (.sl k e) [.sl k e]:=⟨rfl⟩
instance {q k e}:CEL (.osl q k e) [.osl q k e]:=⟨rfl⟩
instance {a b c d}:CEL (.msl a b c d) [.msl a b c d]:=⟨rfl⟩
instance {a b c d}:CEL (.rsl a b c d) [.rsl a b c d]:=⟨rfl⟩
instance {a b c d e}:CEL (.rptr a b c d e) [.rptr a b c d e]:=⟨rfl⟩
instance {a b c d e}:CEL (.rsuf a b c d e) [.rsuf a b c d e]:=⟨rfl⟩
instance {i}:CEL (.map i) [.map i]:=⟨rfl⟩
instance {a b}:CEL (.imap a b) [.imap a b]:=⟨rfl⟩
instance {f x y}:CEL (.fn f x y) [.fn f x y]:=⟨rfl⟩
instance {t v}:CEL (.iface t v) [.iface t v]:=⟨rfl⟩
instance {g}:CEL (.glob g) [.glob g]:=⟨rfl⟩
instance {i}:CEL (.yld i) [.yld i]:=⟨rfl⟩
class LENV (cs:List AV) (n:Nat):Prop where
 out:cs.length=n
instance:LENV [] 0:=⟨rfl⟩
instance [i:LENV cs n]:LENV (v::cs) (n+1):=⟨by simp [i.out]⟩
class SAME (cs r:List AV):Prop where
 out:cs.length=r.length
instance:SAME [] []:=⟨rfl⟩
instance [i:SAME cs r]:SAME (v::cs) (w::r):=⟨by simp [i.out]⟩
instance (priority:=high) [i:SAME cs r]:SPL 0 cs r cs:=⟨by simp [yP,i.out]⟩
instance:SPL 0 [] r r:=⟨by simp [yP]⟩
instance [i:SPL 0 cs r cs']:SPL 0 (v::cs) (w::r) (v::cs'):=⟨by have:=i.out;simp only [yP,List.take_zero,uV,u5] at this ⊢;simp only [ul,List.drop_succ_cons,tj,this.1,pR];omega⟩
instance [i:SPL n cs r cs']:SPL (n+1) cs (w::r) (w::cs'):=⟨by have:=i.out;simp only [yP] at this ⊢;rw [show n+1+cs.length=n+cs.length+1 by omega];simp only [rg,List.drop_succ_cons,tj,this.1,ul,pR];omega⟩
class ZE (P:Program) (t:TypeId) (cs:outParam (List AV)):Prop where
 out:xQ P t=some cs
class EFF (P:Program) (o:Oper) (env:List AV) (h:AH) (v:outParam AV) (h':outParam AH):Prop where
 out:zB P o env h=.ok v h'
instance [o:ZE P t cs] [C:NRM L L'] [D:LENB L' n] [s:APP L' [.cells cs] r']:EFF P ⟨d,.alloc t,t',p,a,gd⟩ env (h0.ext L M) (.ptr (h0.blks.length+n) 0) (h0.ext r' M):=⟨by rw [C.out,<- s.out];exact wS rfl o.out D.out⟩
instance [o:GT x env v] [C:TYP P t v v'] [D:CEL v' cs] [H:NRM L L'] [s:LENB L' n] [E:APP L' [.cells cs] r']:EFF P ⟨d,.box t x,t',p,a,gd⟩ env (h0.ext L M) (.ptr (h0.blks.length+n) 0) (h0.ext r' M):=⟨by rw [H.out,<- E.out];exact e_box rfl o.out C.out D.out s.out⟩
instance [C:Ty P t td k] [D:GT x env (.ptr (h0.blks.length+j) off)] [J:GT y env v] [E:TYP P t v v'] [H:CEL v' cs] [o:LENV cs k] [K:NRM L L'] [I:NTH j L' (.cells r)] [s:SPL off cs r cs'] [i9:SETL L' j (.cells cs') r'] :
  EFF P ⟨d,.store t x y,t',p,a,gd⟩ env (h0.ext L M) aundef (h0.ext r' M):=⟨by
 rw [K.out,<- i9.out];exact yc rfl C D.out J.out E.out H.out o.out I.out (su (by have:=s.out.2;rw [o.out] at this;exact this)) s.out.1⟩
instance [C:TA P t k] [D:GT x env (.ptr (h0.blks.length+j) off)] [I:GT y env (.agg cs)] [o:LENV cs k] [J:NRM L L'] [E:NTH j L' (.cells r)] [s:SPL off cs r cs'] [i9:SETL L' j (.cells cs') r'] :
  EFF P ⟨d,.store t x y,t',p,a,gd⟩ env (h0.ext L M) aundef (h0.ext r' M):=⟨by
 obtain ⟨td,H,K⟩:=C.out;rw [J.out,<- i9.out];exact yc rfl H D.out I.out (za (v:=.agg cs) rfl) rfl o.out E.out (su (by have:=s.out.2;rw [o.out] at this;exact this)) s.out.1⟩
end
class DST (l:List Oper) (j:Nat) (d:outParam Nat):Prop where
 out:(l[j]?).bind (·.dst)=some d
instance {d:Nat} {o:Op} {t:TypeId} {p:String} {a:Array Edge} {g:Option (Nat×Bool)} {l:List Oper}:DST (⟨some d,o,t,p,a,g⟩::l) 0 d:=⟨rfl⟩
instance {o:Oper} {l:List Oper} {j d:Nat} [i:DST l j d]:DST (o::l) (j+1) d:=⟨by simpa using i.out⟩
class GB (w:AV) (want:Bool) (b:outParam Bool):Prop where
 out:∀(ops:Array Oper) (o:Oper) (env:List AV) (j d:Nat),o.guard=some (j,want)->(ops[j]?).bind (·.dst)=some d->env[d]?=some w->aG ops o env=some b
instance {b c want:Bool}:GB (gv b (.bool c)) want (b&&(c==want)):=⟨λ_ _ _ _ _ s o C=>aG_gv s o C⟩
instance {c want:Bool}:GB (.bool c) want (c==want):=⟨λ_ _ _ _ _ s o C=>by simp only [aG,s,o,C]⟩
class NE (a b:Nat):Prop where
 out:a ≠ b
instance {n:Nat}:NE 0 (n+1):=⟨by omega⟩
instance {n:Nat}:NE (n+1) 0:=⟨by omega⟩
instance {n m:Nat} [i:NE n m]:NE (n+1) (m+1):=⟨by have:=i.out;omega⟩
class NC (Ns:List Nat) (i:Nat):Prop where
 out:Ns.contains i=false
instance {i:Nat}:NC [] i:=⟨rfl⟩
instance {Ns:List Nat} {n i:Nat} [j:NE i n] [k:NC Ns i]:NC (n::Ns) i:=⟨by have:=k.out;have:=j.out;simp_all⟩
class PAD (n:Nat) (l:List AV) (r:outParam (List AV)):Prop where
 out:l++List.replicate (n - l.length) aundef=r
instance:PAD 0 [] []:=⟨rfl⟩
instance {n:Nat} {r:List AV} [i:PAD n [] r]:PAD (n+1) [] (aundef::r):=⟨by have:=i.out;simp only [uV,uE,Nat.sub_zero] at this ⊢;rw [sE,this]⟩
instance {n:Nat} {a:AV} {l r:List AV} [i:PAD n l r]:PAD (n+1) (a::l) (a::r):=⟨by have:=i.out;rw [<- this];simp only [ul,Nat.add_sub_add_right,tj]⟩
theorem xH (n:Nat) {k:Nat} {l r:List AV} (h:k=n) [i:PAD n l r]:l++List.replicate (k - l.length) aundef=r:=by rw [h];exact i.out
class RL (P:Program) (env:List AV) (h:AH) (rs:List ResultVar) (vs:outParam (List AV)):Prop where
 out:qt P env h rs=some vs
instance {P:Program} {env:List AV} {h:AH}:RL P env h [] []:=⟨rfl⟩
section
variable {P:Program} {env:List AV} {h:AH} {rs:List ResultVar} {vs cs cs' r:List AV} {t a k j:Nat} {L L':List Blk} {M:List Nat} {v v':AV} {td:TypeDesc}
instance [i:GT (.tmp t) env v] [j:RL P env h rs vs]:RL P env h (.tmp t::rs) (v::vs):=⟨yy i.out j.out⟩
instance [o:Ty P t td k] [D:NA td] [s:GT (.tmp a) env (.ptr (h.blks.length+j) 0)] [I:NRM L L'] [H:NTH j L' (.cells (v::cs))] [C:TYP P t v v'] [E:RL P env (h.ext L M) rs vs]:RL P env (h.ext L M) (.cell a t::rs) (v'::vs):=⟨rl_cell o s.out (by rw [I.out];exact H.out) (by rw [D.out];exact zD rfl) C.out E.out⟩
instance [o:TA P t k] [s:GT (.tmp a) env (.ptr (h.blks.length+j) 0)] [J:NRM L L'] [H:NTH j L' (.cells cs)] [C:LENV cs k] [D:RL P env (h.ext L M) rs vs]:RL P env (h.ext L M) (.cell a t::rs) (.agg cs::vs):=⟨by
 obtain ⟨td,E,I⟩:=o.out;have K:=C.out;exact rl_cell E s.out (by rw [J.out];exact H.out) (by rw [I];exact ldC_ag (su (by omega)) (by grind)) (za (v:=.agg cs) rfl) D.out⟩
class TU (vs:List AV) (v:outParam AV):Prop where
 out:∀(P:Program) (fn:Func) (env:List AV) (h:AH),qt P env h fn.results.toList=some vs->aRes P fn env h=some v
instance:TU [] (.tup []):=⟨λP fn env h e=>by simp only [aRes,e]⟩
instance:TU [v] v:=⟨λP fn env h e=>by simp only [aRes,e]⟩
instance:TU (v::v'::vs) (.tup (v::v'::vs)):=⟨λP fn env h e=>by simp only [aRes,e]⟩
theorem fr {K:AV->AH->Prop} {h0:AH} (C:fn.results=⟨rs⟩) [i:RL P env h rs vs] [j:TU vs v] (o:finK h0 K v h):qU P fn h0 K .ret env h:=by
 have s:=j.out P fn env h (by rw [C];exact i.out);simp only [qU,s];exact o
theorem fe (C:fn.results=⟨rs⟩) [i:RL P env (h.ext L M) rs vs] [j:TU vs v] (s:v'.low h.blks.length h.toks.length=true) (o:leV v v'):qU P fn h (λD hh=>D=v'/\hh=h) .ret env (h.ext L M):=fr C (fin_ext o s ⟨rfl,rfl⟩)
theorem fz (s:fn.results=⟨rs⟩) [i:RL P env (h.ext L M) rs vs] [j:TU vs v] (o:v.low h.blks.length h.toks.length=true):qU P fn h (λC hh=>C=v/\hh=h) .ret env (h.ext L M):=fe s o (leV.refl _)
end
class ARGS (P:Program) (env:List AV) (q:Bool) (xs:List Operand) (ts:List TypeId) (vs:outParam (List AV)):Prop where
 out:q=true->∃l,argo env xs ts=some l/\Fx P l vs
section
variable {P:Program} {env env' xs' vs fs cs:List AV} {q:Bool} {xs:List Operand} {ts:List TypeId} {t:TypeId} {x:Operand} {v v':AV} {d:Option Tmp} {p:String} {a:Array Edge} {g:FuncId} {h h':AH} {gd:Option (Nat×Bool)} {rest:List Oper} {Q:List AV->AH->Prop} {ops:Array Oper}
instance:ARGS P env q [] [] []:=⟨λ_=>⟨[],rfl,.nil⟩⟩
instance [i:GG x env q v] [j:TYP P t v v'] [k:ARGS P env q xs ts vs]:ARGS P env q (x::xs) (t::ts) (v'::vs):=⟨λo=>by
 obtain ⟨l,C,s⟩:=k.out o;exact ⟨_,zg (i.out o) C,.cons j.out s⟩⟩
theorem sc [i:ARGS P env q xs ts vs] (C:q=true):zB P ⟨d,.call ⟨.value (.func g),List.toArray xs,List.toArray ts⟩,t,p,a,gd⟩ env h=.call g vs:=by
 obtain ⟨l,s,o⟩:=i.out C;exact zC rfl rfl rfl s o
theorem scC [s:GG x env q (.fn (.func g) fs cs)] [i:ARGS P env q xs ts vs] (o:q=true):zB P ⟨d,.call ⟨.value x,List.toArray xs,List.toArray ts⟩,t,p,a,gd⟩ env h=.call g (fs++vs++cs):=by
 obtain ⟨l,D,C⟩:=i.out o;exact s_callC rfl rfl (s.out o) D C rfl
theorem cp [i:ARGS P env true xs ts vs] [j:ST d env v env'] (hs:Spec P g vs h λr h'=>r=v/\h'=h) (o:zJ P ops Q rest env' h):zJ P ops Q (⟨d,.call ⟨.value (.func g),List.toArray xs,List.toArray ts⟩,t,p,a,none⟩::rest) env h :=
 zT rfl (sc rfl) hs j.out o
end
theorem gg {x:Operand} {env:List AV} {v:AV} [i:GT x env v]:yk env x=some v:=i.out
theorem ss {d:Option Tmp} {env env':List AV} {v:AV} [i:ST d env v env']:xO d env v=some env':=i.out
class LENA (a:AV) (n:outParam Nat):Prop where
 out:aLen a=some n
section
variable {α:Type} {z n i t q' p k':Nat} {row:α->List AV} {L:List α} {es:List (List AV)} {qo:Option Nat}
instance:LENA (.sl z (L.map row)) L.length:=⟨vQ⟩
instance:LENA (.osl qo z (L.map row)) L.length:=⟨lenMapO⟩
instance (priority:=low):LENA (.sl z es) es.length:=⟨rfl⟩
instance (priority:=low):LENA (.osl qo z es) es.length:=⟨rfl⟩
instance:LENA (.rsl i t z n) n:=⟨rfl⟩
instance:LENA (.msl z i t n) n:=⟨rfl⟩
instance:LENA (.rsuf i t z n p) (n - p):=⟨rfl⟩
end
class ISS (d:TypeDesc):Prop where
 out:d=.string
instance:ISS .string:=⟨rfl⟩
class LN (P:Program) (t:TypeId) (v:AV) (n:outParam Nat):Prop where
 out:∀(o:Oper) (env:List AV) (h:AH) (c:Call) (x:Operand),o.op=.call c->c.callee=.builtin .len->c.args=#[x]->c.argTypes=#[t]->yk env x=some v->zB P o env h=.len n (.int .i64 n) h
instance {P:Program} {t:TypeId} {d:TypeDesc} {k:Nat} {s:List UInt8} [i:Ty P t d k] [j:ISS d]:LN P t (.str s) s.length:=⟨λo env h c x E C I D H=>by
 have:=j.out;subst this;exact s_lenStr E C I D i H⟩
instance {P:Program} {t e:TypeId} {k n:Nat} {v:AV} [i:El P t e k] [j:LENA v n]:LN P t v n:=⟨λo env h c x D s H C E=>xM D s H C i E j.out⟩
class ISL (a:AV) (α:outParam Type) (z:outParam Nat) (row:outParam (α->List AV)) (L:outParam (List α)):Prop where
 out:IsSl a z row L
instance {α:Type} {z:Nat} {row:α->List AV} {L:List α}:ISL (.sl z (L.map row)) α z row L:=⟨isl⟩
instance {α:Type} {q:Option Nat} {z:Nat} {row:α->List AV} {L:List α}:ISL (.osl q z (L.map row)) α z row L:=⟨iosl⟩
section
variable {P:Program} {env env':List AV} {q want b:Bool} {t t' e:TypeId} {x i:Operand} {v v' w:AV} {d:Option Tmp} {p:String} {a:Array Edge} {h:AH} {rest l:List Oper} {Q:List AV->AH->Prop} {ops:Array Oper} {n j m z:Nat} {nn:Int} {k:IntKind} {α:Type} {row:α->List AV} {L:List α} {y:α} {Ns:List Nat} {F:Nat->AH->Prop} {i9:Nat}
theorem ln [o:GT x env v] [s:LN P t v n] [C:ST d env (.int .i64 n) env'] (D:n<=maxLen->zJ P ops Q rest env' h):zJ P ops Q (⟨d,.call ⟨.builtin .len,List.toArray [x],List.toArray [t]⟩,t',p,a,none⟩::rest) env h :=
 wO rfl (s.out _ _ _ _ _ rfl rfl rfl rfl o.out) C.out D
theorem lng [C:DST l j m] [J:GT (.tmp m) env w] [H:GB w want b] [o:GG x env b v] [E:LN P t v n] [D:ST d env (gv b (.int .i64 n)) env'] (s:(b=true->n<=maxLen)->zJ P (List.toArray l) Q rest env' h) :
  zJ P (List.toArray l) Q (⟨d,.call ⟨.builtin .len,List.toArray [x],List.toArray [t]⟩,t',p,a,some (j,want)⟩::rest) env h :=
 ops_glen (H.out _ _ _ _ _ rfl (by simpa using C.out) J.out) (λI=>E.out _ _ _ _ _ rfl rfl rfl rfl (o.out I)) D.out s
theorem ix [o:El P t e z] [s:GT x env v] [I:GT i env (.int k nn)] [D:ISL v α z row L] (E:qO L nn=some y) [H:ST d env (.fptr (row y)) env'] (C:zJ P ops Q rest env' h):zJ P ops Q (⟨d,.indexAddr t x i,t',p,a,none⟩::rest) env h :=
 zb rfl (we rfl o s.out I.out D.out E) H.out C
theorem gix [Inhabited α] [E:DST l j m] [R:GT (.tmp m) env w] [O:GB w want b] [s:El P t e z] [C:GG x env b v] [K:GG i env b (.int k nn)] [H:ISL v α z row L] (I:b=true->0<=nn/\nn < L.length) [J:ST d env (gv b (.fptr (row (L.getD nn.toNat default)))) env'] (D:zJ P (List.toArray l) Q rest env' h) :
  zJ P (List.toArray l) Q (⟨d,.indexAddr t x i,t',p,a,some (j,want)⟩::rest) env h :=
 yE (O.out _ _ _ _ _ rfl (by simpa using E.out) R.out) (λo=>s_gidxRow default rfl s (C.out o) (K.out o) H.out (I o)) J.out D
theorem dgix [Inhabited α] [NC Ns i9] [E:DST l j m] [R:GT (.tmp m) env w] [O:GB w want b] [s:El P t e z] [C:GG x env b v] [K:GG i env b (.int k nn)] [H:ISL v α z row L] (I:b=true->0<=nn/\nn < L.length) [J:ST d env (gv b (.fptr (row (L.getD nn.toNat default)))) env'] (D:zW P (List.toArray l) Ns F Q (i9+1) rest env' h) :
  zW P (List.toArray l) Ns F Q i9 (⟨d,.indexAddr t x i,t',p,a,some (j,want)⟩::rest) env h :=
 draw_gv NC.out (O.out _ _ _ _ _ rfl (by simpa using E.out) R.out) (λo=>s_gidxRow default rfl s (C.out o) (K.out o) H.out (I o)) J.out D
theorem dix [NC Ns i9] [o:El P t e z] [s:GT x env v] [I:GT i env (.int k nn)] [D:ISL v α z row L] (E:qO L nn=some y) [H:ST d env (.fptr (row y)) env'] (C:zW P ops Ns F Q (i9+1) rest env' h):zW P ops Ns F Q i9 (⟨d,.indexAddr t x i,t',p,a,none⟩::rest) env h :=
 zu NC.out rfl (we rfl o s.out I.out D.out E) H.out C
end
abbrev y5 (v:AV) (h:AH):AV->AH->Prop:=λrr hh=>rr=v/\hh=h
class LEV (a b:AV):Prop where
 out:leV a b
class LEL (a b:List AV):Prop where
 o:leL a b
instance {a:AV}:LEV a a:=⟨leV.refl _⟩
instance {q:Option Nat} {k:Nat} {e:List (List AV)}:LEV (.osl q k e) (.sl k e):=⟨leV.osl _ _ _⟩
instance:LEL [] []:=⟨leL.nil⟩
instance {a:AV} {r s:List AV} [i:LEL r s]:LEL (a::r) (.any::s):=⟨.drop i.o⟩
instance {a b:AV} {r s:List AV} [j:LEV a b] [i:LEL r s]:LEL (a::r) (b::s):=⟨.cons j.out i.o⟩
instance {l r:List AV} [i:LEL l r]:LEV (.tup l) (.tup r):=⟨.tup i.o⟩
class R (p:Prop) (G:outParam Prop):Prop where
 r:G->p
instance (priority:=low) R.refl {p:Prop}:R p p:=⟨id⟩
section
variable {P:Program} {ops:Array Oper} {F:Nat->AH->Prop} {Q:List AV->AH->Prop} {QS:Exit->List AV->AH->Prop} {rest l:List Oper} {env env':List AV} {h h0 h':AH} {G:Prop} {d:Option Tmp} {op:Op} {t:TypeId} {p:String} {a:Array Edge} {x:Operand} {v v' w:AV} {id i j n:Nat} {A B:Code} {want b:Bool} {N:List AV->AH->Prop}
instance [o:ONE P ⟨d,op,t,p,a,none⟩ env h true v] [s:ST d env v env'] [D:R (zJ P ops Q rest env' h) G]:R (zJ P ops Q (⟨d,op,t,p,a,none⟩::rest) env h) G:=⟨λC=>zb rfl (o.out rfl) s.out (D.r C)⟩
instance [o:ONE P ⟨d,op,t,p,a,none⟩ env h true v] [s:ST d env v env'] [D:R (zW P ops [] F Q (i+1) rest env' h) G]:R (zW P ops [] F Q i (⟨d,op,t,p,a,none⟩::rest) env h) G:=⟨λC=>zu rfl rfl (o.out rfl) s.out (D.r C)⟩
instance [o:DST l j n] [s:GT (.tmp n) env w] [H:GB w want b] [E:ONE P ⟨d,op,t,p,a,some (j,want)⟩ env h b v] [C:ST d env (gv b v) env'] [D:R (zJ P (List.toArray l) Q rest env' h) G]:R (zJ P (List.toArray l) Q (⟨d,op,t,p,a,some (j,want)⟩::rest) env h) G:=⟨λI=>yE (H.out _ _ _ _ _ rfl (by simpa using o.out) s.out) E.out C.out (D.r I)⟩
instance [o:DST l j n] [s:GT (.tmp n) env w] [H:GB w want b] [E:ONE P ⟨d,op,t,p,a,some (j,want)⟩ env h b v] [C:ST d env (gv b v) env'] [D:R (zW P (List.toArray l) [] F Q (i+1) rest env' h) G]:R (zW P (List.toArray l) [] F Q i (⟨d,op,t,p,a,some (j,want)⟩::rest) env h) G:=⟨λI=>draw_gv rfl (H.out _ _ _ _ _ rfl (by simpa using o.out) s.out) E.out C.out (D.r I)⟩
instance [o:EFF P ⟨d,op,t,p,a,none⟩ env h v h'] [s:ST d env v env'] [D:R (zJ P ops Q rest env' h') G]:R (zJ P ops Q (⟨d,op,t,p,a,none⟩::rest) env h) G:=⟨λC=>zb rfl o.out s.out (D.r C)⟩
instance [i:R (Q env h) G]:R (zJ P ops Q [] env h) G:=⟨λo=>ze (i.r o)⟩
instance {Ns:List Nat} {i:Nat} [j:R (Q env h) G]:R (zW P ops Ns F Q i [] env h) G:=⟨λo=>wl (j.r o)⟩
instance (priority:=low) {Ns:List Nat} [o:NC Ns i] [D:ONE P ⟨d,op,t,p,a,none⟩ env h true v] [s:ST d env v env'] [C:R (zW P ops Ns F Q (i+1) rest env' h) G]:R (zW P ops Ns F Q i (⟨d,op,t,p,a,none⟩::rest) env h) G:=⟨λE=>zu o.out rfl (D.out rfl) s.out (C.r E)⟩
instance (priority:=low) {Ns:List Nat} [o:NC Ns i] [s:DST l j n] [C:GT (.tmp n) env w] [I:GB w want b] [H:ONE P ⟨d,op,t,p,a,some (j,want)⟩ env h b v] [D:ST d env (gv b v) env'] [E:R (zW P (List.toArray l) Ns F Q (i+1) rest env' h) G]:R (zW P (List.toArray l) Ns F Q i (⟨d,op,t,p,a,some (j,want)⟩::rest) env h) G:=⟨λJ=>draw_gv o.out (I.out _ _ _ _ _ rfl (by simpa using s.out) C.out) H.out D.out (E.r J)⟩
instance [i:R (vB P A (seqQ P h B QS) env h) G]:R (vB P (.seq A B) QS env h) G:=⟨λk=>zk (i.r k)⟩
instance [i:R (zJ P (List.toArray l) (QS .normal) l env h) G]:R (vB P (.region id (List.toArray l) false) QS env h) G:=⟨λk=>zc (i.r k)⟩
instance [i:R (vB P A (blockQ id QS) env h) G]:R (vB P (.block id A) QS env h) G:=⟨λk=>yh (i.r k)⟩
instance [i:R (QS .normal env h) G]:R (vB P .skip QS env h) G:=⟨λk=>yl (i.r k)⟩
instance [i:R (QS .normal env h) G]:R (vB P (.label id) QS env h) G:=⟨λk=>r_label (i.r k)⟩
instance [i:R (QS .ret env h) G]:R (vB P .ret QS env h) G:=⟨λk=>xr (i.r k)⟩
instance [i:R (QS (.exit id) env h) G]:R (vB P (.exit id) QS env h) G:=⟨λk=>wn (i.r k)⟩
instance [i:R (vB P B QS env h) G]:R (seqQ P h0 B QS .normal env h) G:=⟨λk=>zj (i.r k)⟩
instance [i:R (QS .ret env h) G]:R (seqQ P h0 B QS .ret env h) G:=⟨λk=>wA (i.r k)⟩
instance [i:R (QS (.exit id) env h) G]:R (seqQ P h0 B QS (.exit id) env h) G:=⟨λk=>yr (i.r k)⟩
instance [i:R (QS .normal env h) G]:R (blockQ id QS .normal env h) G:=⟨λk=>yK (i.r k)⟩
instance [i:R (QS .ret env h) G]:R (blockQ id QS .ret env h) G:=⟨λk=>q_block_ret (i.r k)⟩
instance [i:R (QS .normal env h) G]:R (blockQ id QS (.exit id) env h) G:=⟨λk=>yn (i.r k)⟩
instance [i:R (QS .ret env h) G]:R (loopQ N QS .ret env h) G:=⟨λk=>q_loop_ret (i.r k)⟩
instance [i:R (QS (.exit id) env h) G]:R (loopQ N QS (.exit id) env h) G:=⟨λk=>ym (i.r k)⟩
instance [i:R (N env h) G]:R (loopQ N QS .normal env h) G:=⟨λk=>xd (i.r k)⟩
instance {fn:Func} {K:AV->AH->Prop} [i:R (qU P fn h0 K .ret env h) G]:R (qU P fn h0 K .normal env h) G:=⟨λk=>q_end (i.r k)⟩
end
end Go.Vv
