/- Ranges over functions, and functions whose base heap turns: rules. -/
import Derived.Test.YtandnkcefogjeaaGreatVvZ
namespace Go.Vv
open Go Go.RowKit
section
variable {P:Program} {o:Oper} {env:List AV} {h:AH} {L:List Blk} {M:List Nat} {nb nt:Nat}
theorem n_alloc (c:h.blks.length=nb) {t:TypeId} {cs:List AV} {n:Nat} (d:o.op=.alloc t) (b:xq P t=some cs) (a:L.length=n):zr P o env (h.ext L M)=.ok (.ptr (nb+n) 0) (h.ext (L++[.cells cs]) M):=by
 subst c;exact qW d b a
theorem n_box (e:h.blks.length=nb) {t:TypeId} {x:Operand} {a a':AV} {cs:List AV} {n:Nat} (f:o.op=.box t x) (b:yz env x=some a) (c:tyfix P t a=a') (g:a'.cells?=some cs) (d:L.length=n) :
  zr P o env (h.ext L M)=.ok (.ptr (nb+n) 0) (h.ext (L++[.cells cs]) M):=by
 subst e;exact e_box f b c g d
theorem n_load (i:h.blks.length=nb) {t:TypeId} {d:TypeDesc} {k j off:Nat} {x:Operand} {cs:List AV} {v a:AV} (l:o.op=.load t x) (g:Ty P t d k) (c:yz env x=some (.ptr (nb+j) off)) (e:L[j]?=some (.cells cs))
  (b:ldC (z7 d) k off cs=some v) (f:tyfix P t v=a):zr P o env (h.ext L M)=.ok a (h.ext L M):=by
 subst i;exact xT l g c e b f
theorem n_store (m:h.blks.length=nb) {t:TypeId} {d:TypeDesc} {k j off:Nat} {x y:Operand} {cs vs cs':List AV} {b b':AV} (i:o.op=.store t x y) (l:Ty P t d k) (c:yz env x=some (.ptr (nb+j) off)) (n:yz env y=some b)
  (g:tyfix P t b=b') (p:b'.cells?=some vs) (a:vs.length=k) (e:L[j]?=some (.cells cs)) (f:Nat.ble (off+k) cs.length=true) (hs:yG cs off vs=cs'):zr P o env (h.ext L M)=.ok aundef (h.ext (L.set j (.cells cs')) M):=by
 subst m;exact zT i l c n g p a e f hs
end
section
variable {P:Program} {o:Oper} {env:List AV} {h:AH} {α:Type} {row:α->List AV} {L M:List α} {nb nt:Nat}
theorem n_appT (v:h.toks.length=nt) {c:Call} {x y:Operand} {t u e p:TypeId} {k k' j:Nat} {a b b':AV} {B:List Blk} {T T':List Nat} (n:o.op=.call c) (z:c.callee=.builtin .append) (hs:c.args=#[x,y]) (s:c.argTypes=#[t,u]) (f:El P t e k)
  (d:El P u p k') (i:yz env x=some a) (w:yz env y=some b) (q:tyfix P t a=.osl (some (nt+j)) k (L.map row)) (l:tyfix P u b=b') (r:aNews k b'=some (M.map row)) (g:L.length+M.length<=yK) (m:T[j]?=some L.length) (D:T.set j (L++M).length=T') :
  zr P o env (h.ext B T)=.ok (.osl (some (nt+j)) k ((L++M).map row)) (h.ext B T'):=by
 subst v;exact yu n z hs s f d i w q l r g m D
theorem n_own (c:h.toks.length=nt) {f:FuncId} {a:List AV} {B:List Blk} {T T':List Nat} {k n m:Nat} {R:List (List AV)} (s:Spec P f a (h.ext B T) (OwnK (h.ext B T) k n R)) (b:T.length=m) (e:T++[n]=T') :
  Spec P f a (h.ext B T) (λd hh=>d=.osl (some (nt+m)) k R/\hh=h.ext B T'):=by
 subst c;exact qO s b e
end

def AH.closed (h:AH) (n t:Nat):Prop:=∀b ∈ h.blks,b.low n t=true
theorem Blk.low_up {n d m f:Nat} (a:n<=d) (h:m<=f):∀b:Blk,b.low n m=true->b.low d f=true
 | .cells cs,hl=>zW a h cs hl
 | .mapo es c,hl=>by
  simp only [Blk.low,List.all_eq_true,Bool.and_eq_true] at hl ⊢;exact λp e=>⟨AV.low_up a h _ (hl p e).1,AV.low_up a h _ (hl p e).2⟩
 | .loop _ _ env _ _ _,hl=>zW a h env hl
 | .row _ _ _,hl=>by simp only [Blk.low,decide_eq_true_eq] at hl ⊢;omega
 | .miter _ _ _,hl=>by simp only [Blk.low,decide_eq_true_eq] at hl ⊢;omega
 | .siter _ _,_ | .miter0,_ | .other,_ | .dead,_=>rfl
theorem closed_of_rel {B:Nat} {w0 w:World} {g:Gh} {h:AH} (r:Rel B w0 g h w):h.closed h.blks.length h.toks.length:=λb a=>by
 obtain ⟨i,hi⟩:=List.mem_iff_getElem?.1 a;have:=r.isLow hi
 rwa [r.slen,r.tlen] at this
theorem zL {P : Program} {f : FuncId} {fn : Func} {c : Code} (hf : P.funcs[f]? = some fn) (hb : fn.body = some c) (hname : (fn.name == "runtime.NumGoroutine") = false) {args : List AV} {h : AH} {K : AV → AH → Prop} {env : List AV}
  (he:args++List.replicate (fn.ntmps - args.length) aundef=env) (hw:zB h.blks.length h.toks.length args=true->h.closed h.blks.length h.toks.length->vQ P c (bodyQ P fn h K) env (h.ext [] [])):Spec P f args h K:=by
 refine ⟨λvs w=>?_,λB w0 _ g w vs r hv=>?_⟩
 ·have hn : ¬ fn.name = "runtime.NumGoroutine" := by simpa using hname
  simp [callFunc,hf,hb,hn]
 ·have hl:=hv.isLow;rw [r.slen,r.tlen] at hl;exact (za hf hb hname he (hw hl (closed_of_rel r))).2 B w0 g w vs r hv
theorem ext_len {h:AH} {L:List Blk} {M:List Nat} {n:Nat} (a:h.blks.length=n):(h.ext L M).blks.length=n+L.length:=by simp [AH.ext,a]
theorem ext_tlen {h:AH} {L:List Blk} {M:List Nat} {n:Nat} (a:h.toks.length=n):(h.ext L M).toks.length=n+M.length:=by simp [AH.ext,a]
theorem closed_ext {h:AH} {L:List Blk} {M:List Nat} {n t c t':Nat} (g:h.closed n t) (e:n<=c) (f:t<=t') (d:L.all (λb=>b.low c t')=true):(h.ext L M).closed c t':=λb a=>by
 simp only [AH.ext,List.mem_append] at a;rcases a with a | a
 ·exact Blk.low_up e f b (g b a)
 ·rw [List.all_eq_true] at d;exact d b a
theorem wk_ext3s {h a:AH} {n t:Nat} (s:h.blks.length=n) (u:h.toks.length=t) (e:a.blks.length=n) (f:a.toks.length=t) (v:a.closed n t) {L0 L1 L':List Blk} {M0 M1 M':List Nat} {env:List AV}
  (q:zB (n+L0.length) (t+M0.length) env=true) (m:L'.take L0.length=L1) (p:M'.take M0.length=M1) (j:L1.all (λb=>b.low (n+L0.length) (t+M0.length))=true):wk (h.ext L0 M0) env (a.ext L' M') env (a.ext L1 M1):=by
 have d:(h.ext L0 M0).blks.length=n+L0.length:=ext_len s;have g:(h.ext L0 M0).toks.length=t+M0.length:=ext_tlen u;have r:(a.ext L' M').cut (h.ext L0 M0).blks.length (h.ext L0 M0).toks.length=a.ext L1 M1:=by
  rw [d,g,<- e,<- f];simp only [AH.cut,AH.ext,List.take_append,Nat.add_sub_cancel_left,m,p];rw [List.take_of_length_le (l:=a.blks) (by omega),List.take_of_length_le (l:=a.toks) (by omega)]
 have:=wk.cut (hd:=h.ext L0 M0) (env:=env) (h:=a.ext L' M') (by rw [d,g];exact q) (λi k hi c=>by
  right;rw [d] at hi;rw [d,g];simp only [AH.ext] at c;rcases Nat.lt_or_ge i a.blks.length with h1 | h1
  ·rw [List.getElem?_append_left h1] at c;exact Blk.low_up (by omega) (by omega) k (v k (List.mem_of_getElem? c))
  ·rw [List.getElem?_append_right h1] at c;rw [List.all_eq_true] at j;refine j k (List.mem_of_getElem? (i:=i - a.blks.length) ?_);rw [<- m,List.getElem?_take,if_pos (by omega)];exact c)
 rw [r] at this;exact this
theorem fin_exts {h a:AH} {n t:Nat} (g:h.blks.length=n) (i:h.toks.length=t) (d:a.blks.length=n) (c:a.toks.length=t) (l:a.closed n t) {L:List Blk} {M:List Nat} {K:AV->AH->Prop} {v b:AV} (e:leV v b)
  (j:b.low n t=true) (f:K b a):finK h K v (a.ext L M):=by
 have:=wk_ext3s (L0:=[]) (L1:=[]) (L':=L) (M0:=[]) (M1:=[]) (M':=M) (env:=[b]) g i d c l (by simp [zB,j]) rfl rfl rfl;rw [ext_nil,ext_nil] at this;exact ⟨b,a,(wk.le (leL.cons e leL.nil)).trans this,f⟩

def lst:Option Nat->LoopState
 | none=>.ready
 | some _=>.done
def lpe:Option Nat->Option Code
 | none=>none
 | some 0=>some .ret
 | some (i+1)=>some (.exit i)
def fam {β:Type} (h:β->AH) (A:β->List Blk) (T:β->List Nat) (lp:LoopState->Option Code->Blk) (s:β×Option Nat):AH:=(h s.1).ext (A s.1++[lp (lst s.2) (lpe s.2)]) (T s.1)
def stp {β X ρ:Type} (f:β->X->Option ρ) (s:β×Option Nat) (x:X):Option ρ:=match s.2 with
 | none=>f s.1 x
 | some _=>none
def rng {β ρ:Type} (q:Option (β×Option Nat)) (N:β->Option ρ) (J:Nat->β->Option ρ):Option ρ:=match q with
 | none=>none
 | some (b,none)=>N b
 | some (b,some j)=>J j b
def jumpQ (Q:Exit->List AV->AH->Prop):Nat->List AV->AH->Prop
 | 0=>Q .ret
 | i+1=>Q (.exit i)

theorem r_range {P:Program} {Q:Exit->List AV->AH->Prop} {env E:List AV} {hd H:AH} {a:Operand} {n:Array Tmp} {assign body:Code} {β ρ:Type} {nb k:Nat} {first caps:List AV} {f:FuncId} (h:β->AH) (A:β->List Blk) (T:β->List Nat) (b0:β) {LA:List Blk} {LT:List Nat} {r:ρ} {q:Option (β×Option Nat)} {N:β->Option ρ} {J:Nat->β->Option ρ}
  (w:rng q N J=some r) (I:wk hd env hd E (H.ext LA LT)) (t:∀b,(h b).blks.length=nb) (z:H=h b0) (O:LA=A b0) (R:LT=T b0) (d:∀b,(A b).length=k) (u:yg a=true) (G:yz E a=some (.fn (.func f) first caps)) (c:(noRF assign&&noRF body)=true)
  (hs:∀lp:LoopState->Option Code->Blk,lp=(λg l=>.loop g l E n assign body)->∀y,q=some y->Spec P f (first++[.yld (nb+k)]++caps) (fam h A T lp (b0,none)) λ_ hh=>hh=fam h A T lp y)
  (D:∀b H1,H1=(h b).ext (A b++[.dead]) (T b)->N b=some r->Q .normal E H1) (F:∀j b H1,H1=(h b).ext (A b++[.dead]) (T b)->J j b=some r->jumpQ Q j E H1):vQ P (.rangeFunc a n assign body) Q env hd:=by
 subst z O R;obtain ⟨_,K⟩:=zO G;simp only [Bool.and_eq_true] at c;refine ⟨u,c.1,c.2,E,_,I,?_⟩;rw [K];have x:((h b0).ext (A b0) (T b0)).blks.length=nb+k:=by simp [AH.ext,t,d]
 rcases q with _ | ⟨b,p⟩
 ·cases w
 ·have v:=hs _ rfl (b,p) rfl;rw [x,ext_new];refine v.mono λ_ hh e=>?_;subst e;have s:(fam h A T (λg l=>.loop g l E n assign body) (b,p)).blk (nb+k)=some (.loop (lst p) (lpe p) E n assign body):=by
   simp only [fam,AH.blk,AH.ext,<- t b];rw [List.getElem?_append_right (by omega),Nat.add_sub_cancel_left,List.getElem?_append_right (by rw [d];exact Nat.le_refl _),d];simp
  have m:(fam h A T (λg l=>.loop g l E n assign body) (b,p)).put (nb+k) .dead=(h b).ext (A b++[.dead]) (T b):=by
   simp only [fam,<- t b,qV];congr 1;rw [List.set_append_right _ _ (by rw [d];exact Nat.le_refl _),d];simp
  refine ⟨_,_,_,_,_,_,s,by cases p <;> simp [lst],?_⟩;rw [m];cases p with
  | none=>exact D b _ rfl w
  | some j =>
   have:=F j b _ rfl w;cases j with
   | zero=>exact this
   | succ i=>exact this

def roundQ (hs:AH) (id:Nat) (lp:LoopState->Option Code->Blk) (K:AV->AH->Prop):Exit->List AV->AH->Prop
 | .normal,_,h=>∃h3,wk hs [] h [] h3/\h3.blk id=some (lp .busy none)/\K (.bool true) (h3.put id (lp .ready none))
 | .ret,_,h=>∃h3,wk hs [] h [] h3/\h3.blk id=some (lp .busy none)/\K (.bool false) (h3.put id (lp .done (some .ret)))
 | .exit i,_,h=>∃h3,wk hs [] h [] h3/\h3.blk id=some (lp .busy none)/\K (.bool false) (h3.put id (lp .done (some (.exit i))))
 | _,_,_=>False
def assignQ (P:Program) (hs:AH) (id:Nat) (lp:LoopState->Option Code->Blk) (body:Code) (K:AV->AH->Prop):Exit->List AV->AH->Prop
 | .normal,env,h=>h.blk id=some (lp .ready none)/\vQ P body (roundQ hs id lp K) env (h.put id (lp .busy none))
 | _,_,_=>False

def setL (env:List AV):List Tmp->List AV->List AV
 | p::ps,a::as=>setL (env.set p a) ps as
 | _,_=>env
theorem setL_fold {g:Gh}:∀{c:List Tmp} {b:List AV} {vs:List Value} {env:List AV} {tmps:Array Value},VL g env tmps.toList->VL g b vs->b.length=c.length->VL g (setL env c b) ((c.zip vs).foldl (λt (p,v)=>t.setIfInBounds p v) tmps).toList
 | [],[],vs,env,tmps,h,_,_=>by simpa [setL] using h
 | [],_::_,_,_,_,_,_,hl=>by simp at hl
 | _::_,[],_,_,_,_,_,hl=>by simp at hl
 | p::c,a::b,vs,env,tmps,h,k,hl=>by
  simp only [VL] at k;obtain ⟨v,s,rfl,h1,d⟩:=k;simp only [setL,List.zip_cons_cons,List.foldl_cons];refine setL_fold ?_ d (by simpa using hl);rw [Array.toList_setIfInBounds];exact h.set _ _ _ h1

theorem specY_of {P:Program} {id:Nat} {args:List AV} {h:AH} {K:AV->AH->Prop} {env s:List AV} {e:List Tmp} {assign body:Code} {lp:LoopState->Option Code->Blk} (hlp:lp=λst pe=>.loop st pe env ⟨e⟩ assign body) (hb:h.blk id=some (lp .ready none)) (hl:args.length=e.length)
  (y:(noRF assign&&noRF body)=true) (he:setL env e args=s) (hw:vQ P assign (assignQ P h id lp body K) s h):SpecY P id args h K:=by
 subst hlp he;simp only [Bool.and_eq_true] at y;intro B w0 _ g w vs c r hv hc;have f:h.blks[id]?=some (.loop .ready none env ⟨e⟩ assign body):=hb;obtain ⟨hB,hlt,⟨fn,tmps,d,hh,X⟩,_⟩:=r.blk id c _ hc f;have hsz:vs.size=e.length:=by rw [<- hl,hv.length];rfl
 refine ⟨_,_,_,_,run_yield hh (by simpa using hsz),λn=>?_⟩;refine roundIn_of_wpIn (F:=Fence.wide) trivial ?_;have hte:VL g (setL env e args) (((⟨e⟩:Array Tmp).zip vs).foldl (λt (p,v)=>t.setIfInBounds p v) tmps).toList:=by
  rw [<- Array.foldl_toList,Array.toList_zip];exact setL_fold X hv hl
 refine vD (B:=B) (w0:=w0) (gb:=g) (g0:=g) (ro:=some c) assign (.inr y.1) hw ⟨g,Gh.le.refl g,r,hte,Marks.nil _ _,Gh.le.refl g⟩ λx env' h' a' w' S hs=>?_;obtain ⟨g1,H,r1,Z,hm1,N⟩:=hs;cases x with
 | normal =>
  obtain ⟨hb1,S⟩:=S;have q:h'.blks[id]?=some (.loop .ready none env ⟨e⟩ assign body):=hb1;have D:=H.sig _ _ hc;obtain ⟨_,_,⟨G,j,d1,I,Q⟩,_⟩:=r1.blk id c _ D q;refine ⟨_,run_beginRound I rfl,?_⟩;have r2:Rel B w0 g1 (h'.put id (.loop .busy none env ⟨e⟩ assign body)) (w'.putObj c (.loop { state:=.busy,pending:=none,fn:=G,tmps:=j,params:=⟨e⟩,assign,body,defers:=d1 })) :=
   r1.putObj D q (by simp) rfl rfl rfl World.putObj_size (λb f=>World.putObj_heap_other f) ⟨G,j,d1,World.putObj_heap_same (Array.getElem?_eq_some_iff.1 I).1,Q⟩
  refine vD (B:=B) (w0:=w0) (gb:=g) (g0:=g) (ro:=some c) body (.inr y.2) S ⟨g1,H,r2,Z,hm1,N⟩ λx env3 h3 a3 w3 l Y=>?_;obtain ⟨g3,W,r3,he3,_,_⟩:=Y;have z:∀(a:Option Code),(∃J,wk h [] h3 [] J/\J.blk id=some (.loop .busy none env ⟨e⟩ assign body)/\K (.bool a.isNone) (J.put id (.loop (if a.isNone then .ready else .done) a env ⟨e⟩ assign body))) ->
    ∃v w4,(Instr.endRound c a).run P w3=.ok v w4/\∃v' r h5 g5,Ending.returned v=.returned v'/\K r h5/\g.le g5/\Rel B w0 g5 h5 w4/\V g5 r v':=by
   rintro a ⟨J,hwk,U,hK⟩
   obtain ⟨g4,k1,k2,_,_⟩:=hwk B w0 w3 w g g3 [] r W r3 (by simp [VL]);have m:J.blks[id]?=some (.loop .busy none env ⟨e⟩ assign body):=U;have O:=k1.sig _ _ hc;obtain ⟨_,_,⟨fn4,u,d4,R,E⟩,_⟩:=k2.blk id c _ O m;refine ⟨_,_,run_endRound a R,_,_,_,g4,rfl,hK,k1,?_,by simp only [V]⟩;exact k2.putObj O m (by simp) rfl rfl rfl World.putObj_size (λb f=>World.putObj_heap_other f) ⟨fn4,u,d4,World.putObj_heap_same (Array.getElem?_eq_some_iff.1 R).1,E⟩
  cases x with
  | normal=>exact z none l
  | ret=>exact z (some .ret) l
  | exit i=>exact z (some (.exit i)) l
  | _=>exact l.elim
 | _=>exact S.elim

section
variable {P:Program} {h:AH} {A A' L B:List Blk} {T T' M C:List Nat} {nb nt:Nat} {o:Oper} {env:List AV}
theorem deep_blk (c:h.blks.length=nb) {j:Nat} {b:Blk} (a:A[j]?=some b):(((h.ext A T).ext L M).ext B C).blk (nb+j)=some b:=by
 simp only [y8,List.append_assoc];subst c;rw [yb,List.getElem?_append_left (List.getElem?_eq_some_iff.1 a).1];exact a
theorem deep_blk2 (c:h.blks.length=nb) {j:Nat} {b:Blk} (a:A[j]?=some b):((h.ext A T).ext L M).blk (nb+j)=some b:=by
 have:=deep_blk (h:=h) (A:=A) (T:=T) (L:=L) (M:=M) (B:=[]) (C:=[]) c a
 rwa [ext_nil] at this
theorem deep_put (c:h.blks.length=nb) {j:Nat} {b:Blk} (a:j < A.length) (d:A.set j b=A'):(((h.ext A T).ext L M).ext B C).put (nb+j) b=((h.ext A' T).ext L M).ext B C:=by
 simp only [y8,List.append_assoc];subst c d;rw [qV,List.set_append_left _ _ a]
theorem deep_put2 (c:h.blks.length=nb) {j:Nat} {b:Blk} (a:j < A.length) (d:A.set j b=A'):((h.ext A T).ext L M).put (nb+j) b=(h.ext A' T).ext L M:=by
 have:=deep_put (h:=h) (A:=A) (T:=T) (L:=L) (M:=M) (B:=[]) (C:=[]) c a d
 rwa [ext_nil,ext_nil] at this
theorem deep_len (b:h.blks.length=nb) {k:Nat} (a:A.length=k):((h.ext A T).ext L M).blks.length=nb+k+L.length:=by simp [AH.ext,b,a,Nat.add_assoc]
theorem deep_tlen (b:h.toks.length=nt) {k:Nat} (a:T.length=k):((h.ext A T).ext L M).toks.length=nt+k+M.length:=by simp [AH.ext,b,a,Nat.add_assoc]
theorem d_load (i:h.blks.length=nb) {t:TypeId} {d:TypeDesc} {k j off:Nat} {x:Operand} {cs:List AV} {v a:AV} (l:o.op=.load t x) (g:Ty P t d k) (c:yz env x=some (.ptr (nb+j) off)) (e:A[j]?=some (.cells cs))
  (b:ldC (z7 d) k off cs=some v) (f:tyfix P t v=a):zr P o env (((h.ext A T).ext L M).ext B C)=.ok a (((h.ext A T).ext L M).ext B C):=by
 refine s_load l g c ?_ f;simp only [aLoad,deep_blk i e];exact b
theorem d_store (c:h.blks.length=nb) {t:TypeId} {d:TypeDesc} {k j off:Nat} {x y:Operand} {cs vs cs':List AV} {b b':AV} (l:o.op=.store t x y) (m:Ty P t d k) (f:yz env x=some (.ptr (nb+j) off)) (n:yz env y=some b)
  (i:tyfix P t b=b') (p:b'.cells?=some vs) (e:vs.length=k) (a:A[j]?=some (.cells cs)) (g:Nat.ble (off+k) cs.length=true) (hs:yG cs off vs=cs') (q:A.set j (.cells cs')=A') :
  zr P o env (((h.ext A T).ext L M).ext B C)=.ok aundef (((h.ext A' T).ext L M).ext B C):=by
 refine s_store l m f n i ?_;simp only [aStore,p,deep_blk c a];rw [if_pos ⟨e,Nat.le_of_ble_eq_true g⟩,hs,deep_put c (List.getElem?_eq_some_iff.1 a).1 q]
theorem d_appT {α:Type} {row:α->List AV} {X Y:List α} (w:h.toks.length=nt) {c:Call} {x y:Operand} {t u e q:TypeId} {k k' j:Nat} {a b b':AV} (p:o.op=.call c) (D:c.callee=.builtin .append) (hs:c.args=#[x,y]) (v:c.argTypes=#[t,u]) (i:El P t e k)
  (f:El P u q k') (m:yz env x=some a) (z:yz env y=some b) (r:tyfix P t a=.osl (some (nt+j)) k (X.map row)) (n:tyfix P u b=b') (s:aNews k b'=some (Y.map row)) (l:X.length+Y.length<=yK) (g:T[j]?=some X.length) (E:T.set j (X++Y).length=T') :
  zr P o env (((h.ext A T).ext L M).ext B C)=.ok (.osl (some (nt+j)) k ((X++Y).map row)) (((h.ext A T').ext L M).ext B C):=by
 subst w E;have d:=(List.getElem?_eq_some_iff.1 g).1;have:=yu (P:=P) (h:=h) (B:=A++L++B) (T:=T++M++C) (T':=(T.set j (X++Y).length)++M++C) p D hs v i f m z r n s l (by rw [List.append_assoc,List.getElem?_append_left d];exact g)
  (by rw [List.append_assoc,List.append_assoc,List.set_append_left _ _ d])
 simp only [y8];exact this
theorem deep_cut {h0:AH} (q:h.closed nb nt) (d:h0.blks.length=nb) (c:h0.toks.length=nt) (l:h.blks.length=nb) (e:h.toks.length=nt) {A0:List Blk} {T0:List Nat} (n:A'.length=A0.length) (r:T'.length=T0.length)
  (j:A'.all (λb=>b.low (nb+A0.length) (nt+T0.length))=true):wk ((h0.ext A0 T0).ext L M) [] (((h.ext A' T').ext L M).ext B C) [] ((h.ext A' T').ext L M):=by
 have g:((h0.ext A0 T0).ext L M).blks.length=nb+A0.length+L.length:=deep_len d rfl;have m:((h0.ext A0 T0).ext L M).toks.length=nt+T0.length+M.length:=deep_tlen c rfl;have p:(((h.ext A' T').ext L M).ext B C).cut ((h0.ext A0 T0).ext L M).blks.length ((h0.ext A0 T0).ext L M).toks.length=(h.ext A' T').ext L M:=by
  have:=@ext_cut ((h.ext A' T').ext L M) B C;rw [deep_len l rfl,deep_tlen e rfl,n,r] at this;rw [g,m];exact this
 have:=wk.cut (hd:=(h0.ext A0 T0).ext L M) (env:=[]) (h:=((h.ext A' T').ext L M).ext B C) rfl (λi k hi a=>by
  rw [g] at hi ⊢;rw [m];rw [List.all_eq_true] at j;simp only [y8,AH.ext,List.append_assoc] at a ⊢;rcases Nat.lt_or_ge i h.blks.length with h1 | h1
  ·rw [List.getElem?_append_left h1] at a;exact .inr (Blk.low_up (by omega) (by omega) k (q k (List.mem_of_getElem? a)))
  ·rw [List.getElem?_append_right h1] at a;rcases Nat.lt_or_ge (i - h.blks.length) A'.length with f | f
   ·rw [List.getElem?_append_left f] at a;exact .inr (Blk.low_up (by omega) (by omega) k (j k (List.mem_of_getElem? a)))
   ·rw [List.getElem?_append_right f] at a;rw [List.getElem?_append_right (by omega),List.getElem?_append_right (by omega)];rw [List.getElem?_append_left (by omega)] at a;rw [<- n,d,<- l];exact .inl a)
 rw [p] at this;exact this
end
theorem SpecY.deep {P:Program} {id:Nat} {xs:List AV} {r:AV} {H H':AH} (b:∀A B,SpecY P id xs (H.ext A B) (λa hh=>a=r/\hh=H'.ext A B)) {A L B:List Blk} {T M C:List Nat}:SpecY P id xs (((H.ext A T).ext L M).ext B C) (λa hh=>a=r/\hh=((H'.ext A T).ext L M).ext B C):=by
 simp only [y8];exact b _ _
theorem Spec.deep {P:Program} {f:FuncId} {xs:List AV} {r:AV} {H H':AH} (b:∀A B,Spec P f xs (H.ext A B) (λa hh=>a=r/\hh=H'.ext A B)) {A L B:List Blk} {T M C:List Nat}:Spec P f xs (((H.ext A T).ext L M).ext B C) (λa hh=>a=r/\hh=((H'.ext A T).ext L M).ext B C):=by
 simp only [y8];exact b _ _

theorem y_body {P:Program} {β X:Type} {h:β->AH} {nb k:Nat} {A:β->List Blk} {T:β->List Nat} {lp:LoopState->Option Code->Blk} {env:List AV} {i:List Tmp} {assign body:Code} (e:lp=λt u=>.loop t u env ⟨i⟩ assign body) {f:β->X->Option (Bool×(β×Option Nat))} {xs:X->List AV}
  (q:∀b,(h b).blks.length=nb) (l:∀b,(A b).length=k) (j:(noRF assign&&noRF body)=true) (d:∀x,(xs x).length=i.length) {a:X->List AV} (n:∀x,setL env i (xs x)=a x)
  (r:∀b x o L M H1,H1=((((h b).ext (A b++[lp .ready none]) (T b)).ext L M).ext [] [])->f b x=some o->vQ P assign (assignQ P (((h b).ext (A b++[lp .ready none]) (T b)).ext L M) (nb+k) lp body (λg hh=>g=.bool o.1/\hh=(fam h A T lp o.2).ext L M)) (a x) H1) :
  ∀(s:β×Option Nat) (x:X) (b:Bool) (c:β×Option Nat) (L:List Blk) (M:List Nat),stp f s x=some (b,c)->SpecY P (nb+k) (xs x) ((fam h A T lp s).ext L M) (λg hh=>g=.bool b/\hh=(fam h A T lp c).ext L M):=by
 rintro ⟨b0,p⟩ x b c L M m
 cases p with
 | some _=>cases m
 | none =>
  have:=r b0 x (b,c) L M _ rfl m;rw [ext_nil] at this;refine specY_of e ?_ (d x) j (n x) this;exact deep_blk2 (q b0) (by rw [List.getElem?_append_right (by rw [l];exact Nat.le_refl _),l];simp [lst,lpe])
theorem q_assign {P:Program} {hs:AH} {nb k:Nat} {lp:LoopState->Option Code->Blk} {body:Code} {K:AV->AH->Prop} {env:List AV} {h:AH} {A L B:List Blk} {T M C:List Nat} (b:h.blks.length=nb) (a:A.length=k)
  (c:vQ P body (roundQ hs (nb+k) lp K) env (((h.ext (A++[lp .busy none]) T).ext L M).ext B C)):assignQ P hs (nb+k) lp body K .normal env (((h.ext (A++[lp .ready none]) T).ext L M).ext B C):=by
 refine ⟨deep_blk b (by rw [List.getElem?_append_right (by omega),a];simp),?_⟩;rw [deep_put b (by rw [List.length_append,a];exact Nat.lt_succ_self _) (by rw [List.set_append_right _ _ (by omega),a,Nat.sub_self])];exact c
section
variable {β:Type} {h:β->AH} {h0 h1:AH} {nb nt k:Nat} {lp:LoopState->Option Code->Blk} {env:List AV} {A:β->List Blk} {T:β->List Nat} {A0 A' L B:List Blk} {T0 T' M C:List Nat} {b':β} {o:Bool×(β×Option Nat)}
theorem q_roundA {E:Exit} {r:Bool} {p:Option Nat} (s:∀m,(∃a,wk ((h0.ext (A0++[lp .ready none]) T0).ext L M) [] m [] a/\a.blk (nb+k)=some (lp .busy none)/\(AV.bool r=.bool o.1/\a.put (nb+k) (lp (lst p) (lpe p))=(fam h A T lp o.2).ext L M))->roundQ ((h0.ext (A0++[lp .ready none]) T0).ext L M) (nb+k) lp (λf hh=>f=.bool o.1/\hh=(fam h A T lp o.2).ext L M) E env m)
  (t:h1.closed nb nt) (i:h0.blks.length=nb) (c:h0.toks.length=nt) (j:h1.blks.length=nb) (g:h1.toks.length=nt) (d:A0.length=k) (e:A'.length=k) (v:T'.length=T0.length) (n:o=(r,(b',p))) (hh:h b'=h1) (u:A b'=A') (l:T b'=T')
  (q:(A'++[lp .busy none]).all (λb=>b.low (nb+(k+1)) (nt+T0.length))=true) :
  roundQ ((h0.ext (A0++[lp .ready none]) T0).ext L M) (nb+k) lp (λf hh=>f=.bool o.1/\hh=(fam h A T lp o.2).ext L M) E env (((h1.ext (A'++[lp .busy none]) T').ext L M).ext B C):=by
 refine s _ ⟨(h1.ext (A'++[lp .busy none]) T').ext L M,deep_cut t i c j g (by simp [e,d]) v (by rw [List.length_append,d];exact q),deep_blk2 j (by rw [List.getElem?_append_right (by omega),e];simp),?_,?_⟩
 ·rw [n]
 ·rw [deep_put2 j (by rw [List.length_append,e];exact Nat.lt_succ_self _) (by rw [List.set_append_right _ _ (by omega),e,Nat.sub_self]),n];simp only [fam,u,l,hh];rfl
theorem q_roundN (q:h1.closed nb nt) (f:h0.blks.length=nb) (a:h0.toks.length=nt) (l:h1.blks.length=nb) (e:h1.toks.length=nt) (d:A0.length=k) (m:A'.length=k) (s:T'.length=T0.length) (i:o=(true,(b',none))) (hh:h b'=h1) (g:A b'=A') (c:T b'=T')
  (j:(A'++[lp .busy none]).all (λb=>b.low (nb+(k+1)) (nt+T0.length))=true) :
  roundQ ((h0.ext (A0++[lp .ready none]) T0).ext L M) (nb+k) lp (λn hh=>n=.bool o.1/\hh=(fam h A T lp o.2).ext L M) .normal env (((h1.ext (A'++[lp .busy none]) T').ext L M).ext B C) :=
 q_roundA (r:=true) (p:=none) (λ_ h=>h) q f a l e d m s i hh g c j
theorem q_roundR (q:h1.closed nb nt) (f:h0.blks.length=nb) (a:h0.toks.length=nt) (l:h1.blks.length=nb) (e:h1.toks.length=nt) (d:A0.length=k) (m:A'.length=k) (s:T'.length=T0.length) (i:o=(false,(b',some 0))) (hh:h b'=h1) (g:A b'=A') (c:T b'=T')
  (j:(A'++[lp .busy none]).all (λb=>b.low (nb+(k+1)) (nt+T0.length))=true) :
  roundQ ((h0.ext (A0++[lp .ready none]) T0).ext L M) (nb+k) lp (λn hh=>n=.bool o.1/\hh=(fam h A T lp o.2).ext L M) .ret env (((h1.ext (A'++[lp .busy none]) T').ext L M).ext B C) :=
 q_roundA (r:=false) (p:=some 0) (λ_ h=>h) q f a l e d m s i hh g c j
end
theorem s_yield {P:Program} {o:Oper} {env:List AV} {h:AH} {c:Call} {f:Operand} {id:Nat} {l:List (TypeId×AV)} {args:List AV} (j:o.op=.call c) (q:c.callee=.value f) (g:yz env f=some (.yld id))
  (b:argo env c.args.toList c.argTypes.toList=some l) (n:Fx P l args):zr P o env h=.round id args:=by
 obtain ⟨h1,p⟩:=zO g;obtain ⟨d,a,m⟩:=argo_ok (P:=P) b;have e:c.args.all yg=true:=by simpa using d
 have i:(c.args.size==c.argTypes.size)=true:=by simpa using a
 simp only [zr,j,e,i,Bool.and_self,if_true,q,h1,Bool.true_eq_false,if_false,p,m,n.eq]
theorem ops_round {P:Program} {b:Array Oper} {Q:List AV->AH->Prop} {o:Oper} {rest:List Oper} {env a:List AV} {h c:AH} {id:Nat} {args:List AV} {v:AV} (f:aG b o env=some true) (e:zr P o env h=.round id args) (hs:SpecY P id args h λr hh=>r=v/\hh=c)
  (hd:dso o.dst env v=some a) (d:zH P b Q rest a c):zH P b Q (o::rest) env h:=by
 refine vn ?_;simp only [f,gwp,e,rwp];refine hs.mono ?_
 rintro r hh ⟨rfl,rfl⟩
 rw [xp hd];exact d
theorem draw_round {Ns:List Nat} {F:Nat->AH->Prop} {i:Nat} (f:Ns.contains i=false) {P:Program} {a:Array Oper} {Q:List AV->AH->Prop} {o:Oper} {rest:List Oper} {env b:List AV} {h c:AH} {id:Nat} {args:List AV} {v:AV} (j:FOk ((Region.before a).getD i 0) Ns F c) (l:anch a Ns i=true) (g:aG a o env=some true) (e:zr P o env h=.round id args)
  (hs:SpecY P id args h λr hh=>r=v/\hh=c) (hd:dso o.dst env v=some b) (d:zR P a Ns F Q (i+1) rest b c):zR P a Ns F Q i (o::rest) env h :=
 ⟨v,c,.inl ⟨f,by simp only [AR,g,e];exact hs⟩,.inl l,.inr j,by rw [xp hd];exact d⟩
theorem SpecY.le {P:Program} {id:Nat} {a bs:List AV} {h:AH} {K:AV->AH->Prop} (s:SpecY P id bs h K) (k:leL a bs):SpecY P id a h K :=
 λB w0 _ g w vs c r b d=>s B w0 g w vs c r (k _ _ b) d
def CloK (h:AH) (g:FuncId) (bs:List Blk) (rr:AV) (hh:AH):Prop:=rr=.fn (.func g) [] ((List.range bs.length).map λi=>.ptr (h.blks.length+i) 0)/\hh=h.ext bs []
theorem clo_ext {P:Program} {h:AH} {nb n:Nat} (j:h.blks.length=nb) {f g:FuncId} {a caps:List AV} {B B' bs:List Blk} {T:List Nat} (s:Spec P f a (h.ext B T) (CloK (h.ext B T) g bs)) (e:B.length=n) (c:B++bs=B') (d:(List.range bs.length).map (λi=>AV.ptr (nb+(n+i)) 0)=caps) :
  Spec P f a (h.ext B T) (λb hh=>b=.fn (.func g) [] caps/\hh=h.ext B' T):=by
 refine s.mono ?_
 rintro b hh ⟨rfl,rfl⟩
 subst c d e j;refine ⟨?_,by rw [y8,List.append_nil]⟩;simp [AH.ext,Nat.add_assoc]
theorem wk_cutb {h:AH} {env:List AV} {L L1:List Blk} {M:List Nat} (m:Nat) (j:zB (h.blks.length+m) h.toks.length env=true) (n:L.take m=L1) (d:L1.all (λb=>b.low (h.blks.length+m) h.toks.length)=true):wk h env (h.ext L M) env (h.ext L1 []):=λ_ _ _ _ q g vs c p r f=>by
 subst n;refine ⟨g.cut (h.blks.length+m) h.toks.length,Gh.le_cut2 p (by rw [c.slen];omega) (by rw [c.tlen];exact Nat.le_refl _),?_,VL.cut _ _ j f,λ_ h=>h⟩;have e:(h.ext L M).cut (h.blks.length+m) h.toks.length=h.ext (L.take m) []:=by
  simp only [AH.cut,AH.ext,List.take_append,Nat.add_sub_cancel_left];rw [List.take_of_length_le (l:=h.blks) (by omega)];simp
 rw [<- e];refine r.cut _ _ λi k hi a=>?_;simp only [AH.ext] at a;rcases Nat.lt_or_ge i h.blks.length with h1 | h1
 ·rw [List.getElem?_append_left h1] at a;have:=closed_of_rel c k (List.mem_of_getElem? a);exact Blk.low_up (by omega) (Nat.le_refl _) k this
 ·rw [List.getElem?_append_right h1] at a;rw [List.all_eq_true] at d;refine d k (List.mem_of_getElem? (i:=i - h.blks.length) ?_);rw [List.getElem?_take,if_pos (by omega)];exact a
theorem fin_clo {h:AH} {K:AV->AH->Prop} {v:AV} {bs L':List Blk} {M':List Nat} (e:v.low (h.blks.length+bs.length) h.toks.length=true) (d:L'.take bs.length=bs) (c:bs.all (λb=>b.low (h.blks.length+bs.length) h.toks.length)=true) (a:K v (h.ext bs [])):finK h K v (h.ext L' M') :=
 ⟨v,_,wk_cutb bs.length (by simp [zB,e]) d c,a⟩
theorem blk_lt {h:AH} {nb i:Nat} {b:Blk} (a:h.blk i=some b) (c:h.blks.length=nb):i < nb:=by
 subst c;exact (List.getElem?_eq_some_iff.1 a).1
theorem n_blk {h:AH} {L:List Blk} {M:List Nat} {nb j:Nat} {b:Blk} (c:h.blks.length=nb) (a:L[j]?=some b):(h.ext L M).blk (nb+j)=some b:=by
 subst c;rw [yb];exact a
theorem n_blk2 {h:AH} {B B':List Blk} {T T':List Nat} {nb j:Nat} {b:Blk} (c:h.blks.length=nb) (a:B[j]?=some b):((h.ext B T).ext B' T').blk (nb+j)=some b:=by
 subst c;exact blk_ext2 a
theorem jmp1 {ρ:Type} {j c:Nat} {X:Option ρ} {r:ρ} {G:Nat->Prop} (h:(if j=c then X else none)=some r) (k:X=some r->G c):G j:=by
 split at h
 ·rename_i e;subst e;exact k h
 ·cases h
theorem jmp_ret {Q:Exit->List AV->AH->Prop} {E:List AV} {h:AH} (k:Q .ret E h):jumpQ Q 0 E h:=k
end Go.Vv
