/- Ranges over functions, and functions whose base heap turns: rules. -/
import Derived.Test.YtehifcdoglcidaaGreatVvZ
namespace Go.Vv
open Go Go.RowKit
section
variable {P:Program} {o:Oper} {env:List AV} {h:AH} {L:List Blk} {M:List Nat} {nb nt:Nat}
theorem n_alloc (d:h.blks.length=nb) {t:TypeId} {cs:List AV} {n:Nat} (a:o.op=.alloc t) (b:xk P t=some cs) (c:L.length=n):zo P o env (h.ext L M)=.ok (.ptr (nb+n) 0) (h.ext (L++[.cells cs]) M):=by
 subst d;exact e_alloc a b c
theorem n_box (g:h.blks.length=nb) {t:TypeId} {x:Operand} {a a':AV} {cs:List AV} {n:Nat} (b:o.op=.box t x) (e:ye env x=some a) (f:tyfix P t a=a') (d:a'.cells?=some cs) (c:L.length=n) :
  zo P o env (h.ext L M)=.ok (.ptr (nb+n) 0) (h.ext (L++[.cells cs]) M):=by
 subst g;exact e_box b e f d c
theorem n_load (l:h.blks.length=nb) {t:TypeId} {d:TypeDesc} {k j off:Nat} {x:Operand} {cs:List AV} {v a:AV} (b:o.op=.load t x) (e:Ty P t d k) (f:ye env x=some (.ptr (nb+j) off)) (i:L[j]?=some (.cells cs))
  (c:ldC (zS d) k off cs=some v) (g:tyfix P t v=a):zo P o env (h.ext L M)=.ok a (h.ext L M):=by
 subst l;exact xn b e f i c g
theorem n_store (p:h.blks.length=nb) {t:TypeId} {d:TypeDesc} {k j off:Nat} {x y:Operand} {cs vs cs':List AV} {b b':AV} (e:o.op=.store t x y) (f:Ty P t d k) (a:ye env x=some (.ptr (nb+j) off)) (m:ye env y=some b)
  (l:tyfix P t b=b') (n:b'.cells?=some vs) (g:vs.length=k) (c:L[j]?=some (.cells cs)) (i:Nat.ble (off+k) cs.length=true) (hs:yy cs off vs=cs'):zo P o env (h.ext L M)=.ok aundef (h.ext (L.set j (.cells cs')) M):=by
 subst p;exact yb e f a m l n g c i hs
end
section
variable {P:Program} {o:Oper} {env:List AV} {h:AH} {α:Type} {row:α->List AV} {L M:List α} {nb nt:Nat}
theorem n_appT (w:h.toks.length=nt) {c:Call} {x y:Operand} {t u e z:TypeId} {k k' j:Nat} {a b b':AV} {B:List Blk} {T T':List Nat} (l:o.op=.call c) (s:c.callee=.builtin .append) (hs:c.args=#[x,y]) (n:c.argTypes=#[t,u]) (m:El P t e k)
  (d:El P u z k') (g:ye env x=some a) (r:ye env y=some b) (v:tyfix P t a=.osl (some (nt+j)) k (L.map row)) (q:tyfix P u b=b') (f:aNews k b'=some (M.map row)) (p:L.length+M.length<=yB) (D:T[j]?=some L.length) (i:T.set j (L++M).length=T') :
  zo P o env (h.ext B T)=.ok (.osl (some (nt+j)) k ((L++M).map row)) (h.ext B T'):=by
 subst w;exact xg l s hs n m d g r v q f p D i
theorem n_own (c:h.toks.length=nt) {f:FuncId} {a:List AV} {B:List Blk} {T T':List Nat} {k n m:Nat} {R:List (List AV)} (s:Spec P f a (h.ext B T) (OwnK (h.ext B T) k n R)) (e:T.length=m) (d:T++[n]=T') :
  Spec P f a (h.ext B T) (λb hh=>b=.osl (some (nt+m)) k R/\hh=h.ext B T'):=by
 subst c;exact own_ext s e d
end

def AH.closed (h:AH) (n t:Nat):Prop:=∀b ∈ h.blks,b.low n t=true
theorem Blk.low_up {n e m d:Nat} (a:n<=e) (h:m<=d):∀b:Blk,b.low n m=true->b.low e d=true
 | .cells cs,hl=>zT a h cs hl
 | .mapo es c,hl=>by
  simp only [Blk.low,List.all_eq_true,Bool.and_eq_true] at hl ⊢;exact λp f=>⟨AV.low_up a h _ (hl p f).1,AV.low_up a h _ (hl p f).2⟩
 | .loop _ _ env _ _ _,hl=>zT a h env hl
 | .row _ _ _,hl=>by simp only [Blk.low,decide_eq_true_eq] at hl ⊢;omega
 | .miter _ _ _,hl=>by simp only [Blk.low,decide_eq_true_eq] at hl ⊢;omega
 | .siter _ _,_ | .miter0,_ | .other,_ | .dead,_=>rfl
theorem closed_of_rel {B:Nat} {w0 w:World} {g:Gh} {h:AH} (r:Rel B w0 g h w):h.closed h.blks.length h.toks.length:=λb a=>by
 obtain ⟨i,hi⟩:=List.mem_iff_getElem?.1 a;have:=r.isLow hi
 rwa [r.slen,r.tlen] at this
theorem zF {P : Program} {f : FuncId} {fn : Func} {c : Code} (hf : P.funcs[f]? = some fn) (hb : fn.body = some c) (hname : (fn.name == "runtime.NumGoroutine") = false) {args : List AV} {h : AH} {K : AV → AH → Prop} {env : List AV}
  (he:args++List.replicate (fn.ntmps - args.length) aundef=env) (hw:zw h.blks.length h.toks.length args=true->h.closed h.blks.length h.toks.length->vt P c (bodyQ P fn h K) env (h.ext [] [])):Spec P f args h K:=by
 refine ⟨λvs w=>?_,λB w0 _ g w vs r hv=>?_⟩
 ·have hn : ¬ fn.name = "runtime.NumGoroutine" := by simpa using hname
  simp [callFunc,hf,hb,hn]
 ·have hl:=hv.isLow;rw [r.slen,r.tlen] at hl;exact (za hf hb hname he (hw hl (closed_of_rel r))).2 B w0 g w vs r hv
theorem ext_len {h:AH} {L:List Blk} {M:List Nat} {n:Nat} (a:h.blks.length=n):(h.ext L M).blks.length=n+L.length:=by simp [AH.ext,a]
theorem ext_tlen {h:AH} {L:List Blk} {M:List Nat} {n:Nat} (a:h.toks.length=n):(h.ext L M).toks.length=n+M.length:=by simp [AH.ext,a]
theorem closed_ext {h:AH} {L:List Blk} {M:List Nat} {n t c t':Nat} (g:h.closed n t) (e:n<=c) (f:t<=t') (d:L.all (λb=>b.low c t')=true):(h.ext L M).closed c t':=λb a=>by
 simp only [AH.ext,List.mem_append] at a;rcases a with a | a
 ·exact Blk.low_up e f b (g b a)
 ·rw [List.all_eq_true] at d;exact d b a
theorem wk_ext3s {h a:AH} {n t:Nat} (p:h.blks.length=n) (q:h.toks.length=t) (e:a.blks.length=n) (f:a.toks.length=t) (u:a.closed n t) {L0 L1 L':List Blk} {M0 M1 M':List Nat} {env:List AV}
  (r:zw (n+L0.length) (t+M0.length) env=true) (j:L'.take L0.length=L1) (s:M'.take M0.length=M1) (m:L1.all (λb=>b.low (n+L0.length) (t+M0.length))=true):wk (h.ext L0 M0) env (a.ext L' M') env (a.ext L1 M1):=by
 have d:(h.ext L0 M0).blks.length=n+L0.length:=ext_len p;have g:(h.ext L0 M0).toks.length=t+M0.length:=ext_tlen q;have v:(a.ext L' M').cut (h.ext L0 M0).blks.length (h.ext L0 M0).toks.length=a.ext L1 M1:=by
  rw [d,g,<- e,<- f];simp only [AH.cut,AH.ext,List.take_append,Nat.add_sub_cancel_left,j,s];rw [List.take_of_length_le (l:=a.blks) (by omega),List.take_of_length_le (l:=a.toks) (by omega)]
 have:=wk.cut (hd:=h.ext L0 M0) (env:=env) (h:=a.ext L' M') (by rw [d,g];exact r) (λi k hi c=>by
  right;rw [d] at hi;rw [d,g];simp only [AH.ext] at c;rcases Nat.lt_or_ge i a.blks.length with h1 | h1
  ·rw [List.getElem?_append_left h1] at c;exact Blk.low_up (by omega) (by omega) k (u k (List.mem_of_getElem? c))
  ·rw [List.getElem?_append_right h1] at c;rw [List.all_eq_true] at m;refine m k (List.mem_of_getElem? (i:=i - a.blks.length) ?_);rw [<- j,List.getElem?_take,if_pos (by omega)];exact c)
 rw [v] at this;exact this
theorem fin_exts {h a:AH} {n t:Nat} (e:h.blks.length=n) (g:h.toks.length=t) (c:a.blks.length=n) (d:a.toks.length=t) (i:a.closed n t) {L:List Blk} {M:List Nat} {K:AV->AH->Prop} {v b:AV} (j:leV v b)
  (l:b.low n t=true) (f:K b a):finK h K v (a.ext L M):=by
 have:=wk_ext3s (L0:=[]) (L1:=[]) (L':=L) (M0:=[]) (M1:=[]) (M':=M) (env:=[b]) e g c d i (by simp [zw,l]) rfl rfl rfl;rw [ext_nil,ext_nil] at this;exact ⟨b,a,(wk.le (leL.cons j leL.nil)).trans this,f⟩

def lst:Option Nat->LoopState
 | none=>.ready
 | some _=>.done
def lpe:Option Nat->Option Code
 | none=>none
 | some 0=>some .ret
 | some (i+1)=>some (.exit i)
def fam {β:Type} (h:β->AH) (A:β->List Blk) (T:β->List Nat) (lp:LoopState->Option Code->Blk) (s:β×Option Nat):AH:=(h s.1).ext (A s.1++[lp (lst s.2) (lpe s.2)]) (T s.1)
def stp {β X ρ:Type} (f:β->X->Option ρ) (s:β×Option Nat) (x:X):Option ρ:=match s.2 with
 | none=>f s.1 x
 | some _=>none
def rng {β ρ:Type} (q:Option (β×Option Nat)) (N:β->Option ρ) (J:Nat->β->Option ρ):Option ρ:=match q with
 | none=>none
 | some (b,none)=>N b
 | some (b,some j)=>J j b
def jumpQ (Q:Exit->List AV->AH->Prop):Nat->List AV->AH->Prop
 | 0=>Q .ret
 | i+1=>Q (.exit i)

theorem r_range {P:Program} {Q:Exit->List AV->AH->Prop} {env E:List AV} {hd H:AH} {c:Operand} {d:Array Tmp} {assign body:Code} {β ρ:Type} {nb k:Nat} {first caps:List AV} {f:FuncId} (h:β->AH) (A:β->List Blk) (T:β->List Nat) (b0:β) {LA:List Blk} {LT:List Nat} {r:ρ} {q:Option (β×Option Nat)} {N:β->Option ρ} {J:Nat->β->Option ρ}
  (u:rng q N J=some r) (I:wk hd env hd E (H.ext LA LT)) (x:∀b,(h b).blks.length=nb) (F:H=h b0) (G:LA=A b0) (D:LT=T b0) (g:∀b,(A b).length=k) (s:z7 c=true) (K:ye E c=some (.fn (.func f) first caps)) (a:(noRF assign&&noRF body)=true)
  (hs:∀lp:LoopState->Option Code->Blk,lp=(λm n=>.loop m n E d assign body)->∀y,q=some y->Spec P f (first++[.yld (nb+k)]++caps) (fam h A T lp (b0,none)) λ_ hh=>hh=fam h A T lp y)
  (R:∀b H1,H1=(h b).ext (A b++[.dead]) (T b)->N b=some r->Q .normal E H1) (z:∀j b H1,H1=(h b).ext (A b++[.dead]) (T b)->J j b=some r->jumpQ Q j E H1):vt P (.rangeFunc c d assign body) Q env hd:=by
 subst F G D;obtain ⟨_,O⟩:=zD K;simp only [Bool.and_eq_true] at a;refine ⟨s,a.1,a.2,E,_,I,?_⟩;rw [O];have w:((h b0).ext (A b0) (T b0)).blks.length=nb+k:=by simp [AH.ext,x,g]
 rcases q with _ | ⟨b,p⟩
 ·cases u
 ·have v:=hs _ rfl (b,p) rfl;rw [w,ext_new];refine v.mono λ_ hh e=>?_;subst e;have t:(fam h A T (λm n=>.loop m n E d assign body) (b,p)).blk (nb+k)=some (.loop (lst p) (lpe p) E d assign body):=by
   simp only [fam,AH.blk,AH.ext,<- x b];rw [List.getElem?_append_right (by omega),Nat.add_sub_cancel_left,List.getElem?_append_right (by rw [g];exact Nat.le_refl _),g];simp
  have l:(fam h A T (λm n=>.loop m n E d assign body) (b,p)).put (nb+k) .dead=(h b).ext (A b++[.dead]) (T b):=by
   simp only [fam,<- x b,qg];congr 1;rw [List.set_append_right _ _ (by rw [g];exact Nat.le_refl _),g];simp
  refine ⟨_,_,_,_,_,_,t,by cases p <;> simp [lst],?_⟩;rw [l];cases p with
  | none=>exact R b _ rfl u
  | some j =>
   have:=z j b _ rfl u;cases j with
   | zero=>exact this
   | succ i=>exact this

def roundQ (hs:AH) (id:Nat) (lp:LoopState->Option Code->Blk) (K:AV->AH->Prop):Exit->List AV->AH->Prop
 | .normal,_,h=>∃h3,wk hs [] h [] h3/\h3.blk id=some (lp .busy none)/\K (.bool true) (h3.put id (lp .ready none))
 | .ret,_,h=>∃h3,wk hs [] h [] h3/\h3.blk id=some (lp .busy none)/\K (.bool false) (h3.put id (lp .done (some .ret)))
 | .exit i,_,h=>∃h3,wk hs [] h [] h3/\h3.blk id=some (lp .busy none)/\K (.bool false) (h3.put id (lp .done (some (.exit i))))
 | _,_,_=>False
def assignQ (P:Program) (hs:AH) (id:Nat) (lp:LoopState->Option Code->Blk) (body:Code) (K:AV->AH->Prop):Exit->List AV->AH->Prop
 | .normal,env,h=>h.blk id=some (lp .ready none)/\vt P body (roundQ hs id lp K) env (h.put id (lp .busy none))
 | _,_,_=>False

def setL (env:List AV):List Tmp->List AV->List AV
 | p::ps,a::as=>setL (env.set p a) ps as
 | _,_=>env
theorem setL_fold {g:Gh}:∀{c:List Tmp} {b:List AV} {vs:List Value} {env:List AV} {tmps:Array Value},VL g env tmps.toList->VL g b vs->b.length=c.length->VL g (setL env c b) ((c.zip vs).foldl (λt (p,v)=>t.setIfInBounds p v) tmps).toList
 | [],[],vs,env,tmps,h,_,_=>by simpa [setL] using h
 | [],_::_,_,_,_,_,_,hl=>by simp at hl
 | _::_,[],_,_,_,_,_,hl=>by simp at hl
 | p::c,a::b,vs,env,tmps,h,k,hl=>by
  simp only [VL] at k;obtain ⟨v,s,rfl,h1,d⟩:=k;simp only [setL,List.zip_cons_cons,List.foldl_cons];refine setL_fold ?_ d (by simpa using hl);rw [Array.toList_setIfInBounds];exact h.set _ _ _ h1

theorem specY_of {P:Program} {id:Nat} {args:List AV} {h:AH} {K:AV->AH->Prop} {env s:List AV} {e:List Tmp} {assign body:Code} {lp:LoopState->Option Code->Blk} (hlp:lp=λst pe=>.loop st pe env ⟨e⟩ assign body) (hb:h.blk id=some (lp .ready none)) (hl:args.length=e.length)
  (z:(noRF assign&&noRF body)=true) (he:setL env e args=s) (hw:vt P assign (assignQ P h id lp body K) s h):SpecY P id args h K:=by
 subst hlp he;simp only [Bool.and_eq_true] at z;intro B w0 _ g w vs c r hv hc;have j:h.blks[id]?=some (.loop .ready none env ⟨e⟩ assign body):=hb;obtain ⟨hB,hlt,⟨fn,tmps,d,hh,hve⟩,_⟩:=r.blk id c _ hc j;have U:vs.size=e.length:=by rw [<- hl,hv.length];rfl
 refine ⟨_,_,_,_,run_yield hh (by simpa using U),λn=>?_⟩;refine roundIn_of_wpIn (F:=Fence.wide) trivial ?_;have hte:VL g (setL env e args) (((⟨e⟩:Array Tmp).zip vs).foldl (λt (p,v)=>t.setIfInBounds p v) tmps).toList:=by
  rw [<- Array.foldl_toList,Array.toList_zip];exact setL_fold hve hv hl
 refine vj (B:=B) (w0:=w0) (gb:=g) (g0:=g) (ro:=some c) assign (.inr z.1) hw ⟨g,Gh.le.refl g,r,hte,Marks.nil _ _,Gh.le.refl g⟩ λx env' h' a' w' S hs=>?_;obtain ⟨g1,G,r1,X,hm1,Q⟩:=hs;cases x with
 | normal =>
  obtain ⟨hb1,S⟩:=S;have q:h'.blks[id]?=some (.loop .ready none env ⟨e⟩ assign body):=hb1;have D:=G.sig _ _ hc;obtain ⟨_,_,⟨O,f,d1,E,J⟩,_⟩:=r1.blk id c _ D q;refine ⟨_,run_beginRound E rfl,?_⟩;have r2:Rel B w0 g1 (h'.put id (.loop .busy none env ⟨e⟩ assign body)) (w'.putObj c (.loop { state:=.busy,pending:=none,fn:=O,tmps:=f,params:=⟨e⟩,assign,body,defers:=d1 })) :=
   r1.putObj D q (by simp) rfl rfl rfl World.putObj_size (λb j=>World.putObj_heap_other j) ⟨O,f,d1,World.putObj_heap_same (Array.getElem?_eq_some_iff.1 E).1,J⟩
  refine vj (B:=B) (w0:=w0) (gb:=g) (g0:=g) (ro:=some c) body (.inr z.2) S ⟨g1,G,r2,X,hm1,Q⟩ λx env3 h3 a3 w3 l Z=>?_;obtain ⟨g3,hg3,r3,he3,_,_⟩:=Z;have y:∀(a:Option Code),(∃R,wk h [] h3 [] R/\R.blk id=some (.loop .busy none env ⟨e⟩ assign body)/\K (.bool a.isNone) (R.put id (.loop (if a.isNone then .ready else .done) a env ⟨e⟩ assign body))) ->
    ∃v w4,(Instr.endRound c a).run P w3=.ok v w4/\∃v' r h5 g5,Ending.returned v=.returned v'/\K r h5/\g.le g5/\Rel B w0 g5 h5 w4/\V g5 r v':=by
   rintro a ⟨R,Y,hb4,hK⟩
   obtain ⟨g4,k1,k2,_,_⟩:=Y B w0 w3 w g g3 [] r hg3 r3 (by simp [VL]);have m:R.blks[id]?=some (.loop .busy none env ⟨e⟩ assign body):=hb4;have I:=k1.sig _ _ hc;obtain ⟨_,_,⟨W,u,d4,N,H⟩,_⟩:=k2.blk id c _ I m;refine ⟨_,_,run_endRound a N,_,_,_,g4,rfl,hK,k1,?_,by simp only [V]⟩;exact k2.putObj I m (by simp) rfl rfl rfl World.putObj_size (λb j=>World.putObj_heap_other j) ⟨W,u,d4,World.putObj_heap_same (Array.getElem?_eq_some_iff.1 N).1,H⟩
  cases x with
  | normal=>exact y none l
  | ret=>exact y (some .ret) l
  | exit i=>exact y (some (.exit i)) l
  | _=>exact l.elim
 | _=>exact S.elim

section
variable {P:Program} {h:AH} {A A' L B:List Blk} {T T' M C:List Nat} {nb nt:Nat} {o:Oper} {env:List AV}
theorem deep_blk (c:h.blks.length=nb) {j:Nat} {b:Blk} (a:A[j]?=some b):(((h.ext A T).ext L M).ext B C).blk (nb+j)=some b:=by
 simp only [yM,List.append_assoc];subst c;rw [zZ,List.getElem?_append_left (List.getElem?_eq_some_iff.1 a).1];exact a
theorem deep_blk2 (a:h.blks.length=nb) {j:Nat} {b:Blk} (c:A[j]?=some b):((h.ext A T).ext L M).blk (nb+j)=some b:=by
 have:=deep_blk (h:=h) (A:=A) (T:=T) (L:=L) (M:=M) (B:=[]) (C:=[]) a c
 rwa [ext_nil] at this
theorem deep_put (d:h.blks.length=nb) {j:Nat} {b:Blk} (c:j < A.length) (a:A.set j b=A'):(((h.ext A T).ext L M).ext B C).put (nb+j) b=((h.ext A' T).ext L M).ext B C:=by
 simp only [yM,List.append_assoc];subst d a;rw [qg,List.set_append_left _ _ c]
theorem deep_put2 (d:h.blks.length=nb) {j:Nat} {b:Blk} (c:j < A.length) (a:A.set j b=A'):((h.ext A T).ext L M).put (nb+j) b=(h.ext A' T).ext L M:=by
 have:=deep_put (h:=h) (A:=A) (T:=T) (L:=L) (M:=M) (B:=[]) (C:=[]) d c a
 rwa [ext_nil,ext_nil] at this
theorem deep_len (b:h.blks.length=nb) {k:Nat} (a:A.length=k):((h.ext A T).ext L M).blks.length=nb+k+L.length:=by simp [AH.ext,b,a,Nat.add_assoc]
theorem deep_tlen (b:h.toks.length=nt) {k:Nat} (a:T.length=k):((h.ext A T).ext L M).toks.length=nt+k+M.length:=by simp [AH.ext,b,a,Nat.add_assoc]
theorem d_load (l:h.blks.length=nb) {t:TypeId} {d:TypeDesc} {k j off:Nat} {x:Operand} {cs:List AV} {v a:AV} (b:o.op=.load t x) (e:Ty P t d k) (f:ye env x=some (.ptr (nb+j) off)) (i:A[j]?=some (.cells cs))
  (c:ldC (zS d) k off cs=some v) (g:tyfix P t v=a):zo P o env (((h.ext A T).ext L M).ext B C)=.ok a (((h.ext A T).ext L M).ext B C):=by
 refine s_load b e f ?_ g;simp only [aLoad,deep_blk l i];exact c
theorem d_store (c:h.blks.length=nb) {t:TypeId} {d:TypeDesc} {k j off:Nat} {x y:Operand} {cs vs cs':List AV} {b b':AV} (f:o.op=.store t x y) (g:Ty P t d k) (e:ye env x=some (.ptr (nb+j) off)) (p:ye env y=some b)
  (n:tyfix P t b=b') (q:b'.cells?=some vs) (i:vs.length=k) (a:A[j]?=some (.cells cs)) (m:Nat.ble (off+k) cs.length=true) (hs:yy cs off vs=cs') (l:A.set j (.cells cs')=A') :
  zo P o env (((h.ext A T).ext L M).ext B C)=.ok aundef (((h.ext A' T).ext L M).ext B C):=by
 refine s_store f g e p n ?_;simp only [aStore,q,deep_blk c a];rw [if_pos ⟨i,Nat.le_of_ble_eq_true m⟩,hs,deep_put c (List.getElem?_eq_some_iff.1 a).1 l]
theorem d_appT {α:Type} {row:α->List AV} {X Y:List α} (D:h.toks.length=nt) {c:Call} {x y:Operand} {t u e E:TypeId} {k k' j:Nat} {a b b':AV} (n:o.op=.call c) (w:c.callee=.builtin .append) (hs:c.args=#[x,y]) (q:c.argTypes=#[t,u]) (p:El P t e k)
  (f:El P u E k') (l:ye env x=some a) (v:ye env y=some b) (z:tyfix P t a=.osl (some (nt+j)) k (X.map row)) (s:tyfix P u b=b') (i:aNews k b'=some (Y.map row)) (r:X.length+Y.length<=yB) (g:T[j]?=some X.length) (m:T.set j (X++Y).length=T') :
  zo P o env (((h.ext A T).ext L M).ext B C)=.ok (.osl (some (nt+j)) k ((X++Y).map row)) (((h.ext A T').ext L M).ext B C):=by
 subst D m;have d:=(List.getElem?_eq_some_iff.1 g).1;have:=xg (P:=P) (h:=h) (B:=A++L++B) (T:=T++M++C) (T':=(T.set j (X++Y).length)++M++C) n w hs q p f l v z s i r (by rw [List.append_assoc,List.getElem?_append_left d];exact g)
  (by rw [List.append_assoc,List.append_assoc,List.set_append_left _ _ d])
 simp only [yM];exact this
theorem deep_cut {h0:AH} (q:h.closed nb nt) (d:h0.blks.length=nb) (c:h0.toks.length=nt) (n:h.blks.length=nb) (f:h.toks.length=nt) {A0:List Blk} {T0:List Nat} (j:A'.length=A0.length) (p:T'.length=T0.length)
  (l:A'.all (λb=>b.low (nb+A0.length) (nt+T0.length))=true):wk ((h0.ext A0 T0).ext L M) [] (((h.ext A' T').ext L M).ext B C) [] ((h.ext A' T').ext L M):=by
 have g:((h0.ext A0 T0).ext L M).blks.length=nb+A0.length+L.length:=deep_len d rfl;have m:((h0.ext A0 T0).ext L M).toks.length=nt+T0.length+M.length:=deep_tlen c rfl;have r:(((h.ext A' T').ext L M).ext B C).cut ((h0.ext A0 T0).ext L M).blks.length ((h0.ext A0 T0).ext L M).toks.length=(h.ext A' T').ext L M:=by
  have:=@ext_cut ((h.ext A' T').ext L M) B C;rw [deep_len n rfl,deep_tlen f rfl,j,p] at this;rw [g,m];exact this
 have:=wk.cut (hd:=(h0.ext A0 T0).ext L M) (env:=[]) (h:=((h.ext A' T').ext L M).ext B C) rfl (λi k hi a=>by
  rw [g] at hi ⊢;rw [m];rw [List.all_eq_true] at l;simp only [yM,AH.ext,List.append_assoc] at a ⊢;rcases Nat.lt_or_ge i h.blks.length with h1 | h1
  ·rw [List.getElem?_append_left h1] at a;exact .inr (Blk.low_up (by omega) (by omega) k (q k (List.mem_of_getElem? a)))
  ·rw [List.getElem?_append_right h1] at a;rcases Nat.lt_or_ge (i - h.blks.length) A'.length with e | e
   ·rw [List.getElem?_append_left e] at a;exact .inr (Blk.low_up (by omega) (by omega) k (l k (List.mem_of_getElem? a)))
   ·rw [List.getElem?_append_right e] at a;rw [List.getElem?_append_right (by omega),List.getElem?_append_right (by omega)];rw [List.getElem?_append_left (by omega)] at a;rw [<- j,d,<- n];exact .inl a)
 rw [r] at this;exact this
end
theorem SpecY.deep {P:Program} {id:Nat} {xs:List AV} {r:AV} {H H':AH} (b:∀A B,SpecY P id xs (H.ext A B) (λa hh=>a=r/\hh=H'.ext A B)) {A L B:List Blk} {T M C:List Nat}:SpecY P id xs (((H.ext A T).ext L M).ext B C) (λa hh=>a=r/\hh=((H'.ext A T).ext L M).ext B C):=by
 simp only [yM];exact b _ _
theorem Spec.deep {P:Program} {f:FuncId} {xs:List AV} {r:AV} {H H':AH} (b:∀A B,Spec P f xs (H.ext A B) (λa hh=>a=r/\hh=H'.ext A B)) {A L B:List Blk} {T M C:List Nat}:Spec P f xs (((H.ext A T).ext L M).ext B C) (λa hh=>a=r/\hh=((H'.ext A T).ext L M).ext B C):=by
 simp only [yM];exact b _ _

theorem y_body {P:Program} {β X:Type} {h:β->AH} {nb k:Nat} {A:β->List Blk} {T:β->List Nat} {lp:LoopState->Option Code->Blk} {env:List AV} {g:List Tmp} {assign body:Code} (j:lp=λn r=>.loop n r env ⟨g⟩ assign body) {f:β->X->Option (Bool×(β×Option Nat))} {xs:X->List AV}
  (u:∀b,(h b).blks.length=nb) (l:∀b,(A b).length=k) (i:(noRF assign&&noRF body)=true) (d:∀x,(xs x).length=g.length) {a:X->List AV} (t:∀x,setL env g (xs x)=a x)
  (q:∀b x o L M H1,H1=((((h b).ext (A b++[lp .ready none]) (T b)).ext L M).ext [] [])->f b x=some o->vt P assign (assignQ P (((h b).ext (A b++[lp .ready none]) (T b)).ext L M) (nb+k) lp body (λe hh=>e=.bool o.1/\hh=(fam h A T lp o.2).ext L M)) (a x) H1) :
  ∀(s:β×Option Nat) (x:X) (b:Bool) (c:β×Option Nat) (L:List Blk) (M:List Nat),stp f s x=some (b,c)->SpecY P (nb+k) (xs x) ((fam h A T lp s).ext L M) (λe hh=>e=.bool b/\hh=(fam h A T lp c).ext L M):=by
 rintro ⟨b0,p⟩ x b c L M m
 cases p with
 | some _=>cases m
 | none =>
  have:=q b0 x (b,c) L M _ rfl m;rw [ext_nil] at this;refine specY_of j ?_ (d x) i (t x) this;exact deep_blk2 (u b0) (by rw [List.getElem?_append_right (by rw [l];exact Nat.le_refl _),l];simp [lst,lpe])
theorem q_assign {P:Program} {hs:AH} {nb k:Nat} {lp:LoopState->Option Code->Blk} {body:Code} {K:AV->AH->Prop} {env:List AV} {h:AH} {A L B:List Blk} {T M C:List Nat} (b:h.blks.length=nb) (a:A.length=k)
  (c:vt P body (roundQ hs (nb+k) lp K) env (((h.ext (A++[lp .busy none]) T).ext L M).ext B C)):assignQ P hs (nb+k) lp body K .normal env (((h.ext (A++[lp .ready none]) T).ext L M).ext B C):=by
 refine ⟨deep_blk b (by rw [List.getElem?_append_right (by omega),a];simp),?_⟩;rw [deep_put b (by rw [List.length_append,a];exact Nat.lt_succ_self _) (by rw [List.set_append_right _ _ (by omega),a,Nat.sub_self])];exact c
section
variable {β:Type} {h:β->AH} {h0 h1:AH} {nb nt k:Nat} {lp:LoopState->Option Code->Blk} {env:List AV} {A:β->List Blk} {T:β->List Nat} {A0 A' L B:List Blk} {T0 T' M C:List Nat} {b':β} {o:Bool×(β×Option Nat)}
theorem q_roundA {E:Exit} {r:Bool} {p:Option Nat} (s:∀m,(∃a,wk ((h0.ext (A0++[lp .ready none]) T0).ext L M) [] m [] a/\a.blk (nb+k)=some (lp .busy none)/\(AV.bool r=.bool o.1/\a.put (nb+k) (lp (lst p) (lpe p))=(fam h A T lp o.2).ext L M))->roundQ ((h0.ext (A0++[lp .ready none]) T0).ext L M) (nb+k) lp (λf hh=>f=.bool o.1/\hh=(fam h A T lp o.2).ext L M) E env m)
  (v:h1.closed nb nt) (i:h0.blks.length=nb) (c:h0.toks.length=nt) (l:h1.blks.length=nb) (j:h1.toks.length=nt) (d:A0.length=k) (e:A'.length=k) (q:T'.length=T0.length) (n:o=(r,(b',p))) (hh:h b'=h1) (t:A b'=A') (g:T b'=T')
  (u:(A'++[lp .busy none]).all (λb=>b.low (nb+(k+1)) (nt+T0.length))=true) :
  roundQ ((h0.ext (A0++[lp .ready none]) T0).ext L M) (nb+k) lp (λf hh=>f=.bool o.1/\hh=(fam h A T lp o.2).ext L M) E env (((h1.ext (A'++[lp .busy none]) T').ext L M).ext B C):=by
 refine s _ ⟨(h1.ext (A'++[lp .busy none]) T').ext L M,deep_cut v i c l j (by simp [e,d]) q (by rw [List.length_append,d];exact u),deep_blk2 l (by rw [List.getElem?_append_right (by omega),e];simp),?_,?_⟩
 ·rw [n]
 ·rw [deep_put2 l (by rw [List.length_append,e];exact Nat.lt_succ_self _) (by rw [List.set_append_right _ _ (by omega),e,Nat.sub_self]),n];simp only [fam,t,g,hh];rfl
theorem q_roundN (n:h1.closed nb nt) (c:h0.blks.length=nb) (a:h0.toks.length=nt) (i:h1.blks.length=nb) (f:h1.toks.length=nt) (e:A0.length=k) (q:A'.length=k) (s:T'.length=T0.length) (j:o=(true,(b',none))) (hh:h b'=h1) (l:A b'=A') (d:T b'=T')
  (m:(A'++[lp .busy none]).all (λb=>b.low (nb+(k+1)) (nt+T0.length))=true) :
  roundQ ((h0.ext (A0++[lp .ready none]) T0).ext L M) (nb+k) lp (λg hh=>g=.bool o.1/\hh=(fam h A T lp o.2).ext L M) .normal env (((h1.ext (A'++[lp .busy none]) T').ext L M).ext B C) :=
 q_roundA (r:=true) (p:=none) (λ_ h=>h) n c a i f e q s j hh l d m
theorem q_roundR (n:h1.closed nb nt) (c:h0.blks.length=nb) (a:h0.toks.length=nt) (i:h1.blks.length=nb) (f:h1.toks.length=nt) (e:A0.length=k) (q:A'.length=k) (s:T'.length=T0.length) (j:o=(false,(b',some 0))) (hh:h b'=h1) (l:A b'=A') (d:T b'=T')
  (m:(A'++[lp .busy none]).all (λb=>b.low (nb+(k+1)) (nt+T0.length))=true) :
  roundQ ((h0.ext (A0++[lp .ready none]) T0).ext L M) (nb+k) lp (λg hh=>g=.bool o.1/\hh=(fam h A T lp o.2).ext L M) .ret env (((h1.ext (A'++[lp .busy none]) T').ext L M).ext B C) :=
 q_roundA (r:=false) (p:=some 0) (λ_ h=>h) n c a i f e q s j hh l d m
end
theorem s_yield {P:Program} {o:Oper} {env:List AV} {h:AH} {c:Call} {f:Operand} {id:Nat} {l:List (TypeId×AV)} {args:List AV} (b:o.op=.call c) (n:c.callee=.value f) (i:ye env f=some (.yld id))
  (d:argo env c.args.toList c.argTypes.toList=some l) (q:Fx P l args):zo P o env h=.round id args:=by
 obtain ⟨h1,m⟩:=zD i;obtain ⟨a,e,g⟩:=argo_ok (P:=P) d;have p:c.args.all z7=true:=by simpa using a
 have j:(c.args.size==c.argTypes.size)=true:=by simpa using e
 simp only [zo,b,p,j,Bool.and_self,if_true,n,h1,Bool.true_eq_false,if_false,m,g,q.eq]
theorem ops_round {P:Program} {b:Array Oper} {Q:List AV->AH->Prop} {o:Oper} {rest:List Oper} {env a:List AV} {h c:AH} {id:Nat} {args:List AV} {v:AV} (d:aG b o env=some true) (f:zo P o env h=.round id args) (hs:SpecY P id args h λr hh=>r=v/\hh=c)
  (hd:vq o.dst env v=some a) (e:zy P b Q rest a c):zy P b Q (o::rest) env h:=by
 refine wX ?_;simp only [d,gwp,f,rwp];refine hs.mono ?_
 rintro r hh ⟨rfl,rfl⟩
 rw [xh hd];exact e
theorem draw_round {Ns:List Nat} {F:Nat->AH->Prop} {i:Nat} (l:Ns.contains i=false) {P:Program} {a:Array Oper} {Q:List AV->AH->Prop} {o:Oper} {rest:List Oper} {env b:List AV} {h c:AH} {id:Nat} {args:List AV} {v:AV} (d:FOk ((Region.before a).getD i 0) Ns F c) (g:anch a Ns i=true) (e:aG a o env=some true) (j:zo P o env h=.round id args)
  (hs:SpecY P id args h λr hh=>r=v/\hh=c) (hd:vq o.dst env v=some b) (f:zL P a Ns F Q (i+1) rest b c):zL P a Ns F Q i (o::rest) env h :=
 ⟨v,c,.inl ⟨l,by simp only [AR,e,j];exact hs⟩,.inl g,.inr d,by rw [xh hd];exact f⟩
theorem SpecY.le {P:Program} {id:Nat} {a bs:List AV} {h:AH} {K:AV->AH->Prop} (s:SpecY P id bs h K) (k:leL a bs):SpecY P id a h K :=
 λB w0 _ g w vs c r b d=>s B w0 g w vs c r (k _ _ b) d
def CloK (h:AH) (g:FuncId) (bs:List Blk) (rr:AV) (hh:AH):Prop:=rr=.fn (.func g) [] ((List.range bs.length).map λi=>.ptr (h.blks.length+i) 0)/\hh=h.ext bs []
theorem clo_ext {P:Program} {h:AH} {nb n:Nat} (j:h.blks.length=nb) {f g:FuncId} {b caps:List AV} {B B' bs:List Blk} {T:List Nat} (s:Spec P f b (h.ext B T) (CloK (h.ext B T) g bs)) (c:B.length=n) (d:B++bs=B') (e:(List.range bs.length).map (λi=>AV.ptr (nb+(n+i)) 0)=caps) :
  Spec P f b (h.ext B T) (λa hh=>a=.fn (.func g) [] caps/\hh=h.ext B' T):=by
 refine s.mono ?_
 rintro a hh ⟨rfl,rfl⟩
 subst d e c j;refine ⟨?_,by rw [yM,List.append_nil]⟩;simp [AH.ext,Nat.add_assoc]
theorem wk_cutb {h:AH} {env:List AV} {L L1:List Blk} {M:List Nat} (m:Nat) (n:zw (h.blks.length+m) h.toks.length env=true) (j:L.take m=L1) (d:L1.all (λb=>b.low (h.blks.length+m) h.toks.length)=true):wk h env (h.ext L M) env (h.ext L1 []):=λ_ _ _ _ q g vs c p r f=>by
 subst j;refine ⟨g.cut (h.blks.length+m) h.toks.length,Gh.le_cut2 p (by rw [c.slen];omega) (by rw [c.tlen];exact Nat.le_refl _),?_,VL.cut _ _ n f,λ_ h=>h⟩;have e:(h.ext L M).cut (h.blks.length+m) h.toks.length=h.ext (L.take m) []:=by
  simp only [AH.cut,AH.ext,List.take_append,Nat.add_sub_cancel_left];rw [List.take_of_length_le (l:=h.blks) (by omega)];simp
 rw [<- e];refine r.cut _ _ λi k hi a=>?_;simp only [AH.ext] at a;rcases Nat.lt_or_ge i h.blks.length with h1 | h1
 ·rw [List.getElem?_append_left h1] at a;have:=closed_of_rel c k (List.mem_of_getElem? a);exact Blk.low_up (by omega) (Nat.le_refl _) k this
 ·rw [List.getElem?_append_right h1] at a;rw [List.all_eq_true] at d;refine d k (List.mem_of_getElem? (i:=i - h.blks.length) ?_);rw [List.getElem?_take,if_pos (by omega)];exact a
theorem fin_clo {h:AH} {K:AV->AH->Prop} {v:AV} {bs L':List Blk} {M':List Nat} (d:v.low (h.blks.length+bs.length) h.toks.length=true) (e:L'.take bs.length=bs) (c:bs.all (λb=>b.low (h.blks.length+bs.length) h.toks.length)=true) (a:K v (h.ext bs [])):finK h K v (h.ext L' M') :=
 ⟨v,_,wk_cutb bs.length (by simp [zw,d]) e c,a⟩
theorem blk_lt {h:AH} {nb i:Nat} {b:Blk} (a:h.blk i=some b) (c:h.blks.length=nb):i < nb:=by
 subst c;exact (List.getElem?_eq_some_iff.1 a).1
theorem n_blk {h:AH} {L:List Blk} {M:List Nat} {nb j:Nat} {b:Blk} (c:h.blks.length=nb) (a:L[j]?=some b):(h.ext L M).blk (nb+j)=some b:=by
 subst c;rw [zZ];exact a
theorem n_blk2 {h:AH} {B B':List Blk} {T T':List Nat} {nb j:Nat} {b:Blk} (c:h.blks.length=nb) (a:B[j]?=some b):((h.ext B T).ext B' T').blk (nb+j)=some b:=by
 subst c;exact blk_ext2 a
theorem jmp1 {ρ:Type} {j c:Nat} {X:Option ρ} {r:ρ} {G:Nat->Prop} (h:(if j=c then X else none)=some r) (k:X=some r->G c):G j:=by
 split at h
 ·rename_i e;subst e;exact k h
 ·cases h
theorem jmp_ret {Q:Exit->List AV->AH->Prop} {E:List AV} {h:AH} (k:Q .ret E h):jumpQ Q 0 E h:=k
end Go.Vv
