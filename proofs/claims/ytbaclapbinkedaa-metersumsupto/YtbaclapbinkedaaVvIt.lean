/- Ranges over functions, and functions whose base heap turns: rules. -/
import Derived.Test.YtbaclapbinkedaaVvZ
namespace Go.Vv
open Go Go.RowKit
section
variable {P:Program} {o:Oper} {env:List AV} {h:AH} {L:List Blk} {M:List Nat} {nb nt:Nat}
theorem n_alloc (hN:h.blks.length=nb) {t:TypeId} {cs:List AV} {n:Nat} (ho:o.op=.alloc t) (hz:wy P t=some cs) (hn:L.length=n):zN P o env (h.ext L M)=.ok (.ptr (nb+n) 0) (h.ext (L++[.cells cs]) M):=by
 subst hN;exact xn ho hz hn
theorem n_box (hN:h.blks.length=nb) {t:TypeId} {x:Operand} {a a':AV} {cs:List AV} {n:Nat} (ho:o.op=.box t x) (hx:yZ env x=some a) (hf:tyfix P t a=a') (hc:a'.cells?=some cs) (hn:L.length=n) :
  zN P o env (h.ext L M)=.ok (.ptr (nb+n) 0) (h.ext (L++[.cells cs]) M):=by
 subst hN;exact xP ho hx hf hc hn
theorem n_load (hN:h.blks.length=nb) {t:TypeId} {d:TypeDesc} {k j off:Nat} {x:Operand} {cs:List AV} {v v':AV} (ho:o.op=.load t x) (ht:Ty P t d k) (hx:yZ env x=some (.ptr (nb+j) off)) (hj:L[j]?=some (.cells cs))
  (hv:ldC (yI d) k off cs=some v) (hf:tyfix P t v=v'):zN P o env (h.ext L M)=.ok v' (h.ext L M):=by
 subst hN;exact zy ho ht hx hj hv hf
theorem n_store (hN:h.blks.length=nb) {t:TypeId} {d:TypeDesc} {k j off:Nat} {x y:Operand} {cs vs cs':List AV} {b b':AV} (ho:o.op=.store t x y) (ht:Ty P t d k) (hx:yZ env x=some (.ptr (nb+j) off)) (hy:yZ env y=some b)
  (hf:tyfix P t b=b') (hc:b'.cells?=some vs) (hl:vs.length=k) (hj:L[j]?=some (.cells cs)) (hb:Nat.ble (off+k) cs.length=true) (hs:xJ cs off vs=cs'):zN P o env (h.ext L M)=.ok za (h.ext (L.set j (.cells cs')) M):=by
 subst hN;exact yk ho ht hx hy hf hc hl hj hb hs
end
section
variable {P:Program} {o:Oper} {env:List AV} {h:AH} {α:Type} {row:α→List AV} {L M:List α} {nb nt:Nat}
theorem n_appT (hN:h.toks.length=nt) {c:Call} {x y:Operand} {t u e e':TypeId} {k k' j:Nat} {a b b':AV} {B:List Blk} {T T':List Nat} (ho:o.op=.call c) (hc:c.callee=.builtin .append) (hs:c.args=#[x,y]) (ht:c.argTypes=#[t,u]) (hu:El P t e k)
  (hu':El P u e' k') (hx:yZ env x=some a) (hy:yZ env y=some b) (ha:tyfix P t a=.osl (some (nt+j)) k (L.map row)) (hb:tyfix P u b=b') (hn:qw k b'=some (M.map row)) (hl:L.length+M.length≤qM) (hm:T[j]?=some L.length) (hT:T.set j (L++M).length=T') :
  zN P o env (h.ext B T)=.ok (.osl (some (nt+j)) k ((L++M).map row)) (h.ext B T'):=by
 subst hN;exact e_appT ho hc hs ht hu hu' hx hy ha hb hn hl hm hT
theorem n_own (hN:h.toks.length=nt) {f:FuncId} {as:List AV} {B:List Blk} {T T':List Nat} {k n m:Nat} {R:List (List AV)} (s:Spec P f as (h.ext B T) (OwnK (h.ext B T) k n R)) (hm:T.length=m) (hT:T++[n]=T') :
  Spec P f as (h.ext B T) (fun rr hh=>rr=.osl (some (nt+m)) k R∧hh=h.ext B T'):=by
 subst hN;exact own_ext s hm hT
end

def AH.closed (h:AH) (n t:Nat):Prop:=∀ b ∈ h.blks,b.low n t=true
theorem Blk.low_up {n n' m m':Nat} (hn:n≤n') (h:m≤m'):∀ b:Blk,b.low n m=true→b.low n' m'=true
 | .cells cs,hl=>xy hn h cs hl
 | .mapo es c,hl=>by
  simp only [Blk.low,List.all_eq_true,Bool.and_eq_true] at hl ⊢
  exact fun p hp=>⟨AV.low_up hn h _ (hl p hp).1,AV.low_up hn h _ (hl p hp).2⟩
 | .loop _ _ env _ _ _,hl=>xy hn h env hl
 | .row _ _ _,hl=>by simp only [Blk.low,decide_eq_true_eq] at hl ⊢;omega
 | .miter _ _ _,hl=>by simp only [Blk.low,decide_eq_true_eq] at hl ⊢;omega
 | .siter _ _,_ | .miter0,_ | .other,_ | .dead,_=>rfl
theorem closed_of_rel {B:Nat} {w0 w:World} {g:Gh} {h:AH} (r:Rel B w0 g h w):h.closed h.blks.length h.toks.length:=fun b hb=>by
 obtain ⟨i,hi⟩:=List.mem_iff_getElem?.1 hb
 have:=r.isLow hi
 rwa [r.slen,r.tlen] at this
theorem xe {P : Program} {f : FuncId} {fn : Func} {c : Code} (hf : P.funcs[f]? = some fn) (hb : fn.body = some c) (hname : (fn.name == "runtime.NumGoroutine") = false) {args : List AV} {h : AH} {K : AV → AH → Prop} {env : List AV}
  (he:args++List.replicate (fn.ntmps - args.length) za=env) (hw:z9 h.blks.length h.toks.length args=true→h.closed h.blks.length h.toks.length→qU P c (bodyQ P fn h K) env (h.ext [] [])):Spec P f args h K:=by
 refine ⟨fun vs w=>?_,fun B w0 _ g w vs r hv=>?_⟩
 ·have hn : ¬ fn.name = "runtime.NumGoroutine" := by simpa using hname
  simp [callFunc,hf,hb,hn]
 ·have hl:=hv.isLow
  rw [r.slen,r.tlen] at hl
  exact (zw hf hb hname he (hw hl (closed_of_rel r))).2 B w0 g w vs r hv
theorem ext_len {h:AH} {L:List Blk} {M:List Nat} {n:Nat} (hN:h.blks.length=n):(h.ext L M).blks.length=n+L.length:=by simp [AH.ext,hN]
theorem ext_tlen {h:AH} {L:List Blk} {M:List Nat} {n:Nat} (hN:h.toks.length=n):(h.ext L M).toks.length=n+M.length:=by simp [AH.ext,hN]
theorem closed_ext {h:AH} {L:List Blk} {M:List Nat} {n t n' t':Nat} (hc:h.closed n t) (hn:n≤n') (ht:t≤t') (hL:L.all (fun b=>b.low n' t')=true):(h.ext L M).closed n' t':=fun b hb=>by
 simp only [AH.ext,List.mem_append] at hb
 rcases hb with hb | hb
 ·exact Blk.low_up hn ht b (hc b hb)
 ·rw [List.all_eq_true] at hL;exact hL b hb
theorem wk_ext3s {h h':AH} {n t:Nat} (hn:h.blks.length=n) (ht:h.toks.length=t) (hn':h'.blks.length=n) (ht':h'.toks.length=t) (hc:h'.closed n t) {L0 L1 L':List Blk} {M0 M1 M':List Nat} {env:List AV}
  (hl:z9 (n+L0.length) (t+M0.length) env=true) (hL:L'.take L0.length=L1) (hM:M'.take M0.length=M1) (hb:L1.all (fun b=>b.low (n+L0.length) (t+M0.length))=true):wk (h.ext L0 M0) env (h'.ext L' M') env (h'.ext L1 M1):=by
 have e1:(h.ext L0 M0).blks.length=n+L0.length:=ext_len hn
 have e2:(h.ext L0 M0).toks.length=t+M0.length:=ext_tlen ht
 have e3:(h'.ext L' M').cut (h.ext L0 M0).blks.length (h.ext L0 M0).toks.length=h'.ext L1 M1:=by
  rw [e1,e2,← hn',← ht']
  simp only [AH.cut,AH.ext,List.take_append,Nat.add_sub_cancel_left,hL,hM]
  rw [List.take_of_length_le (l:=h'.blks) (by omega),List.take_of_length_le (l:=h'.toks) (by omega)]
 have:=wk.cut (hd:=h.ext L0 M0) (env:=env) (h:=h'.ext L' M') (by rw [e1,e2];exact hl) (fun i k hi hk=>by
  right
  rw [e1] at hi
  rw [e1,e2]
  simp only [AH.ext] at hk
  rcases Nat.lt_or_ge i h'.blks.length with h1 | h1
  ·rw [List.getElem?_append_left h1] at hk
   exact Blk.low_up (by omega) (by omega) k (hc k (List.mem_of_getElem? hk))
  ·rw [List.getElem?_append_right h1] at hk
   rw [List.all_eq_true] at hb
   refine hb k (List.mem_of_getElem? (i:=i - h'.blks.length) ?_)
   rw [← hL,List.getElem?_take,if_pos (by omega)];exact hk)
 rw [e3] at this
 exact this
theorem fin_exts {h h':AH} {n t:Nat} (hn:h.blks.length=n) (ht:h.toks.length=t) (hn':h'.blks.length=n) (ht':h'.toks.length=t) (hc:h'.closed n t) {L:List Blk} {M:List Nat} {K:AV→AH→Prop} {v v':AV} (hv:leV v v')
  (hl:v'.low n t=true) (hk:K v' h'):finK h K v (h'.ext L M):=by
 have:=wk_ext3s (L0:=[]) (L1:=[]) (L':=L) (M0:=[]) (M1:=[]) (M':=M) (env:=[v']) hn ht hn' ht' hc (by simp [z9,hl]) rfl rfl rfl
 rw [ext_nil,ext_nil] at this
 exact ⟨v',h',(wk.le (leL.cons hv leL.nil)).trans this,hk⟩

def lst:Option Nat→LoopState
 | none=>.ready
 | some _=>.done
def lpe:Option Nat→Option Code
 | none=>none
 | some 0=>some .ret
 | some (i+1)=>some (.exit i)
def fam {β:Type} (h:β→AH) (A:β→List Blk) (T:β→List Nat) (lp:LoopState→Option Code→Blk) (s:β×Option Nat):AH:=(h s.1).ext (A s.1++[lp (lst s.2) (lpe s.2)]) (T s.1)
def stp {β X ρ:Type} (f:β→X→Option ρ) (s:β×Option Nat) (x:X):Option ρ:=match s.2 with
 | none=>f s.1 x
 | some _=>none
def rng {β ρ:Type} (q:Option (β×Option Nat)) (N:β→Option ρ) (J:Nat→β→Option ρ):Option ρ:=match q with
 | none=>none
 | some (b,none)=>N b
 | some (b,some j)=>J j b
def jumpQ (Q:Exit→List AV→AH→Prop):Nat→List AV→AH→Prop
 | 0=>Q .ret
 | i+1=>Q (.exit i)

theorem r_range {P:Program} {Q:Exit→List AV→AH→Prop} {env E:List AV} {hd H:AH} {gop:Operand} {ps:Array Tmp} {assign body:Code} {β ρ:Type} {nb k:Nat} {first caps:List AV} {f:FuncId} (h:β→AH) (A:β→List Blk) (T:β→List Nat) (b0:β) {LA:List Blk} {LT:List Nat} {r:ρ} {q:Option (β×Option Nat)} {N:β→Option ρ} {J:Nat→β→Option ρ}
  (hF:rng q N J=some r) (hw:wk hd env hd E (H.ext LA LT)) (hN:∀ b,(h b).blks.length=nb) (hH:H=h b0) (hA:LA=A b0) (hT:LT=T b0) (hl:∀ b,(A b).length=k) (hg0:yF gop=true) (hg:yZ E gop=some (.fn (.func f) first caps)) (hrf:(noRF assign&&noRF body)=true)
  (hs:∀ lp:LoopState→Option Code→Blk,lp=(fun st pe=>.loop st pe E ps assign body)→∀ r1,q=some r1→Spec P f (first++[.yld (nb+k)]++caps) (fam h A T lp (b0,none)) fun _ hh=>hh=fam h A T lp r1)
  (hk:∀ b H1,H1=(h b).ext (A b++[.dead]) (T b)→N b=some r→Q .normal E H1) (hj:∀ j b H1,H1=(h b).ext (A b++[.dead]) (T b)→J j b=some r→jumpQ Q j E H1):qU P (.rangeFunc gop ps assign body) Q env hd:=by
 subst hH hA hT
 obtain ⟨_,h2⟩:=yu hg
 simp only [Bool.and_eq_true] at hrf
 refine ⟨hg0,hrf.1,hrf.2,E,_,hw,?_⟩
 rw [h2]
 have hid:((h b0).ext (A b0) (T b0)).blks.length=nb+k:=by simp [AH.ext,hN,hl]
 rcases q with _ | ⟨b,p⟩
 ·cases hF
 ·have hsp:=hs _ rfl (b,p) rfl
  rw [hid,ext_new]
  refine hsp.mono fun _ hh e=>?_
  subst e
  have hbk:(fam h A T (fun st pe=>.loop st pe E ps assign body) (b,p)).blk (nb+k)=some (.loop (lst p) (lpe p) E ps assign body):=by
   simp only [fam,AH.blk,AH.ext,← hN b]
   rw [List.getElem?_append_right (by omega),Nat.add_sub_cancel_left,List.getElem?_append_right (by rw [hl];exact Nat.le_refl _),hl]
   simp
  have hput:(fam h A T (fun st pe=>.loop st pe E ps assign body) (b,p)).put (nb+k) .dead=(h b).ext (A b++[.dead]) (T b):=by
   simp only [fam,← hN b,ext_put]
   congr 1
   rw [List.set_append_right _ _ (by rw [hl];exact Nat.le_refl _),hl]
   simp
  refine ⟨_,_,_,_,_,_,hbk,by cases p <;> simp [lst],?_⟩
  rw [hput]
  cases p with
  | none=>exact hk b _ rfl hF
  | some j =>
   have:=hj j b _ rfl hF
   cases j with
   | zero=>exact this
   | succ i=>exact this

def roundQ (hs:AH) (id:Nat) (lp:LoopState→Option Code→Blk) (K:AV→AH→Prop):Exit→List AV→AH→Prop
 | .normal,_,h=>∃ h3,wk hs [] h [] h3∧h3.blk id=some (lp .busy none)∧K (.bool true) (h3.put id (lp .ready none))
 | .ret,_,h=>∃ h3,wk hs [] h [] h3∧h3.blk id=some (lp .busy none)∧K (.bool false) (h3.put id (lp .done (some .ret)))
 | .exit i,_,h=>∃ h3,wk hs [] h [] h3∧h3.blk id=some (lp .busy none)∧K (.bool false) (h3.put id (lp .done (some (.exit i))))
 | _,_,_=>False
def assignQ (P:Program) (hs:AH) (id:Nat) (lp:LoopState→Option Code→Blk) (body:Code) (K:AV→AH→Prop):Exit→List AV→AH→Prop
 | .normal,env,h=>h.blk id=some (lp .ready none)∧qU P body (roundQ hs id lp K) env (h.put id (lp .busy none))
 | _,_,_=>False

def setL (env:List AV):List Tmp→List AV→List AV
 | p::ps,a::as=>setL (env.set p a) ps as
 | _,_=>env
theorem setL_fold {g:Gh}:∀ {ps:List Tmp} {as:List AV} {vs:List Value} {env:List AV} {tmps:Array Value},VL g env tmps.toList→VL g as vs→as.length=ps.length→VL g (setL env ps as) ((ps.zip vs).foldl (fun t (p,v)=>t.setIfInBounds p v) tmps).toList
 | [],[],vs,env,tmps,h,_,_=>by simpa [setL] using h
 | [],_::_,_,_,_,_,_,hl=>by simp at hl
 | _::_,[],_,_,_,_,_,hl=>by simp at hl
 | p::ps,a::as,vs,env,tmps,h,k,hl=>by
  simp only [VL] at k
  obtain ⟨v,s,rfl,h1,h2⟩:=k
  simp only [setL,List.zip_cons_cons,List.foldl_cons]
  refine setL_fold ?_ h2 (by simpa using hl)
  rw [Array.toList_setIfInBounds]
  exact h.set _ _ _ h1

theorem specY_of {P:Program} {id:Nat} {args:List AV} {h:AH} {K:AV→AH→Prop} {env env1:List AV} {ps:List Tmp} {assign body:Code} {lp:LoopState→Option Code→Blk} (hlp:lp=fun st pe=>.loop st pe env ⟨ps⟩ assign body) (hb:h.blk id=some (lp .ready none)) (hl:args.length=ps.length)
  (hrf:(noRF assign&&noRF body)=true) (he:setL env ps args=env1) (hw:qU P assign (assignQ P h id lp body K) env1 h):SpecY P id args h K:=by
 subst hlp he
 simp only [Bool.and_eq_true] at hrf
 intro B w0 _ g w vs c r hv hc
 have hb':h.blks[id]?=some (.loop .ready none env ⟨ps⟩ assign body):=hb
 obtain ⟨hB,hlt,⟨fn,tmps,d,hh,hve⟩,_⟩:=r.blk id c _ hc hb'
 have hsz:vs.size=ps.length:=by rw [← hl,hv.length];rfl
 refine ⟨_,_,_,_,run_yield hh (by simpa using hsz),fun n=>?_⟩
 refine roundIn_of_wpIn (F:=Fence.wide) trivial ?_
 have hte:VL g (setL env ps args) (((⟨ps⟩:Array Tmp).zip vs).foldl (fun t (p,v)=>t.setIfInBounds p v) tmps).toList:=by
  rw [← Array.foldl_toList,Array.toList_zip]
  exact setL_fold hve hv hl
 refine vj (B:=B) (w0:=w0) (gb:=g) (g0:=g) (ro:=some c) assign (.inr hrf.1) hw ⟨g,Gh.le.refl g,r,hte,Marks.nil _ _,Gh.le.refl g⟩ fun x env' h' a' w' hq hs=>?_
 obtain ⟨g1,hg1,r1,he1,hm1,hgb1⟩:=hs
 cases x with
 | normal =>
  obtain ⟨hb1,hq⟩:=hq
  have hb1':h'.blks[id]?=some (.loop .ready none env ⟨ps⟩ assign body):=hb1
  have hc1:=hg1.sig _ _ hc
  obtain ⟨_,_,⟨fn1,tmps1,d1,hh1,hve1⟩,_⟩:=r1.blk id c _ hc1 hb1'
  refine ⟨_,run_beginRound hh1 rfl,?_⟩
  have r2:Rel B w0 g1 (h'.put id (.loop .busy none env ⟨ps⟩ assign body)) (w'.putObj c (.loop { state:=.busy,pending:=none,fn:=fn1,tmps:=tmps1,params:=⟨ps⟩,assign,body,defers:=d1 })) :=
   r1.putObj hc1 hb1' (by simp) rfl rfl rfl World.putObj_size (fun b hb'=>World.putObj_heap_other hb') ⟨fn1,tmps1,d1,World.putObj_heap_same (Array.getElem?_eq_some_iff.1 hh1).1,hve1⟩
  refine vj (B:=B) (w0:=w0) (gb:=g) (g0:=g) (ro:=some c) body (.inr hrf.2) hq ⟨g1,hg1,r2,he1,hm1,hgb1⟩ fun x env3 h3 a3 w3 hq3 hs3=>?_
  obtain ⟨g3,hg3,r3,he3,_,_⟩:=hs3
  have fin:∀ (jump:Option Code),(∃ h4,wk h [] h3 [] h4∧h4.blk id=some (.loop .busy none env ⟨ps⟩ assign body)∧K (.bool jump.isNone) (h4.put id (.loop (if jump.isNone then .ready else .done) jump env ⟨ps⟩ assign body))) →
    ∃ v w4,(Instr.endRound c jump).run P w3=.ok v w4∧∃ v' r h5 g5,Ending.returned v=.returned v'∧K r h5∧g.le g5∧Rel B w0 g5 h5 w4∧V g5 r v':=by
   rintro jump ⟨h4,hwk,hb4,hK⟩
   obtain ⟨g4,k1,k2,_,_⟩:=hwk B w0 w3 w g g3 [] r hg3 r3 (by simp [VL])
   have hb4':h4.blks[id]?=some (.loop .busy none env ⟨ps⟩ assign body):=hb4
   have hc4:=k1.sig _ _ hc
   obtain ⟨_,_,⟨fn4,tmps4,d4,hh4,hve4⟩,_⟩:=k2.blk id c _ hc4 hb4'
   refine ⟨_,_,run_endRound jump hh4,_,_,_,g4,rfl,hK,k1,?_,by simp only [V]⟩
   exact k2.putObj hc4 hb4' (by simp) rfl rfl rfl World.putObj_size (fun b hb'=>World.putObj_heap_other hb') ⟨fn4,tmps4,d4,World.putObj_heap_same (Array.getElem?_eq_some_iff.1 hh4).1,hve4⟩
  cases x with
  | normal=>exact fin none hq3
  | ret=>exact fin (some .ret) hq3
  | exit i=>exact fin (some (.exit i)) hq3
  | _=>exact hq3.elim
 | _=>exact hq.elim

section
variable {P:Program} {h:AH} {A A' L B:List Blk} {T T' M C:List Nat} {nb nt:Nat} {o:Oper} {env:List AV}
theorem deep_blk (hN:h.blks.length=nb) {j:Nat} {b:Blk} (hj:A[j]?=some b):(((h.ext A T).ext L M).ext B C).blk (nb+j)=some b:=by
 simp only [yj,List.append_assoc]
 subst hN
 rw [wF,List.getElem?_append_left (List.getElem?_eq_some_iff.1 hj).1];exact hj
theorem deep_blk2 (hN:h.blks.length=nb) {j:Nat} {b:Blk} (hj:A[j]?=some b):((h.ext A T).ext L M).blk (nb+j)=some b:=by
 have:=deep_blk (h:=h) (A:=A) (T:=T) (L:=L) (M:=M) (B:=[]) (C:=[]) hN hj
 rwa [ext_nil] at this
theorem deep_put (hN:h.blks.length=nb) {j:Nat} {b:Blk} (hj:j < A.length) (hA:A.set j b=A'):(((h.ext A T).ext L M).ext B C).put (nb+j) b=((h.ext A' T).ext L M).ext B C:=by
 simp only [yj,List.append_assoc]
 subst hN hA
 rw [ext_put,List.set_append_left _ _ hj]
theorem deep_put2 (hN:h.blks.length=nb) {j:Nat} {b:Blk} (hj:j < A.length) (hA:A.set j b=A'):((h.ext A T).ext L M).put (nb+j) b=(h.ext A' T).ext L M:=by
 have:=deep_put (h:=h) (A:=A) (T:=T) (L:=L) (M:=M) (B:=[]) (C:=[]) hN hj hA
 rwa [ext_nil,ext_nil] at this
theorem qd (hN:h.blks.length=nb) {k:Nat} (hA:A.length=k):((h.ext A T).ext L M).blks.length=nb+k+L.length:=by simp [AH.ext,hN,hA,Nat.add_assoc]
theorem deep_tlen (hN:h.toks.length=nt) {k:Nat} (hA:T.length=k):((h.ext A T).ext L M).toks.length=nt+k+M.length:=by simp [AH.ext,hN,hA,Nat.add_assoc]
theorem d_load (hN:h.blks.length=nb) {t:TypeId} {d:TypeDesc} {k j off:Nat} {x:Operand} {cs:List AV} {v v':AV} (ho:o.op=.load t x) (ht:Ty P t d k) (hx:yZ env x=some (.ptr (nb+j) off)) (hj:A[j]?=some (.cells cs))
  (hv:ldC (yI d) k off cs=some v) (hf:tyfix P t v=v'):zN P o env (((h.ext A T).ext L M).ext B C)=.ok v' (((h.ext A T).ext L M).ext B C):=by
 refine s_load ho ht hx ?_ hf
 simp only [aLoad,deep_blk hN hj]
 exact hv
theorem d_store (hN:h.blks.length=nb) {t:TypeId} {d:TypeDesc} {k j off:Nat} {x y:Operand} {cs vs cs':List AV} {b b':AV} (ho:o.op=.store t x y) (ht:Ty P t d k) (hx:yZ env x=some (.ptr (nb+j) off)) (hy:yZ env y=some b)
  (hf:tyfix P t b=b') (hc:b'.cells?=some vs) (hl:vs.length=k) (hj:A[j]?=some (.cells cs)) (hb:Nat.ble (off+k) cs.length=true) (hs:xJ cs off vs=cs') (hA:A.set j (.cells cs')=A') :
  zN P o env (((h.ext A T).ext L M).ext B C)=.ok za (((h.ext A' T).ext L M).ext B C):=by
 refine s_store ho ht hx hy hf ?_
 simp only [aStore,hc,deep_blk hN hj]
 rw [if_pos ⟨hl,Nat.le_of_ble_eq_true hb⟩,hs,deep_put hN (List.getElem?_eq_some_iff.1 hj).1 hA]
theorem d_appT {α:Type} {row:α→List AV} {X Y:List α} (hN:h.toks.length=nt) {c:Call} {x y:Operand} {t u e e':TypeId} {k k' j:Nat} {a b b':AV} (ho:o.op=.call c) (hc:c.callee=.builtin .append) (hs:c.args=#[x,y]) (ht:c.argTypes=#[t,u]) (hu:El P t e k)
  (hu':El P u e' k') (hx:yZ env x=some a) (hy:yZ env y=some b) (ha:tyfix P t a=.osl (some (nt+j)) k (X.map row)) (hb:tyfix P u b=b') (hn:qw k b'=some (Y.map row)) (hl:X.length+Y.length≤qM) (hm:T[j]?=some X.length) (hT:T.set j (X++Y).length=T') :
  zN P o env (((h.ext A T).ext L M).ext B C)=.ok (.osl (some (nt+j)) k ((X++Y).map row)) (((h.ext A T').ext L M).ext B C):=by
 subst hN hT
 have hjl:=(List.getElem?_eq_some_iff.1 hm).1
 have:=e_appT (P:=P) (h:=h) (B:=A++L++B) (T:=T++M++C) (T':=(T.set j (X++Y).length)++M++C) ho hc hs ht hu hu' hx hy ha hb hn hl (by rw [List.append_assoc,List.getElem?_append_left hjl];exact hm)
  (by rw [List.append_assoc,List.append_assoc,List.set_append_left _ _ hjl])
 simp only [yj]
 exact this
theorem deep_cut {h0:AH} (hc:h.closed nb nt) (hN0:h0.blks.length=nb) (hNt0:h0.toks.length=nt) (hN:h.blks.length=nb) (hNt:h.toks.length=nt) {A0:List Blk} {T0:List Nat} (hA:A'.length=A0.length) (hT:T'.length=T0.length)
  (hb:A'.all (fun b=>b.low (nb+A0.length) (nt+T0.length))=true):wk ((h0.ext A0 T0).ext L M) [] (((h.ext A' T').ext L M).ext B C) [] ((h.ext A' T').ext L M):=by
 have e1:((h0.ext A0 T0).ext L M).blks.length=nb+A0.length+L.length:=qd hN0 rfl
 have e2:((h0.ext A0 T0).ext L M).toks.length=nt+T0.length+M.length:=deep_tlen hNt0 rfl
 have e3:(((h.ext A' T').ext L M).ext B C).cut ((h0.ext A0 T0).ext L M).blks.length ((h0.ext A0 T0).ext L M).toks.length=(h.ext A' T').ext L M:=by
  have:=@ext_cut ((h.ext A' T').ext L M) B C
  rw [qd hN rfl,deep_tlen hNt rfl,hA,hT] at this
  rw [e1,e2];exact this
 have:=wk.cut (hd:=(h0.ext A0 T0).ext L M) (env:=[]) (h:=((h.ext A' T').ext L M).ext B C) rfl (fun i k hi hk=>by
  rw [e1] at hi ⊢
  rw [e2]
  rw [List.all_eq_true] at hb
  simp only [yj,AH.ext,List.append_assoc] at hk ⊢
  rcases Nat.lt_or_ge i h.blks.length with h1 | h1
  ·rw [List.getElem?_append_left h1] at hk
   exact .inr (Blk.low_up (by omega) (by omega) k (hc k (List.mem_of_getElem? hk)))
  ·rw [List.getElem?_append_right h1] at hk
   rcases Nat.lt_or_ge (i - h.blks.length) A'.length with h2 | h2
   ·rw [List.getElem?_append_left h2] at hk
    exact .inr (Blk.low_up (by omega) (by omega) k (hb k (List.mem_of_getElem? hk)))
   ·rw [List.getElem?_append_right h2] at hk
    rw [List.getElem?_append_right (by omega),List.getElem?_append_right (by omega)]
    rw [List.getElem?_append_left (by omega)] at hk
    rw [← hA,hN0,← hN];exact .inl hk)
 rw [e3] at this
 exact this
end
theorem SpecY.deep {P:Program} {id:Nat} {xs:List AV} {r:AV} {H H':AH} (hy:∀ A B,SpecY P id xs (H.ext A B) (fun rr hh=>rr=r∧hh=H'.ext A B)) {A L B:List Blk} {T M C:List Nat}:SpecY P id xs (((H.ext A T).ext L M).ext B C) (fun rr hh=>rr=r∧hh=((H'.ext A T).ext L M).ext B C):=by
 simp only [yj];exact hy _ _
theorem Spec.deep {P:Program} {f:FuncId} {xs:List AV} {r:AV} {H H':AH} (hy:∀ A B,Spec P f xs (H.ext A B) (fun rr hh=>rr=r∧hh=H'.ext A B)) {A L B:List Blk} {T M C:List Nat}:Spec P f xs (((H.ext A T).ext L M).ext B C) (fun rr hh=>rr=r∧hh=((H'.ext A T).ext L M).ext B C):=by
 simp only [yj];exact hy _ _

theorem y_body {P:Program} {β X:Type} {h:β→AH} {nb k:Nat} {A:β→List Blk} {T:β→List Nat} {lp:LoopState→Option Code→Blk} {env:List AV} {ps:List Tmp} {assign body:Code} (hlp:lp=fun st pe=>.loop st pe env ⟨ps⟩ assign body) {f:β→X→Option (Bool×(β×Option Nat))} {xs:X→List AV}
  (hN:∀ b,(h b).blks.length=nb) (hl:∀ b,(A b).length=k) (hrf:(noRF assign&&noRF body)=true) (hxs:∀ x,(xs x).length=ps.length) {env1:X→List AV} (he:∀ x,setL env ps (xs x)=env1 x)
  (hw:∀ b x o L M H1,H1=((((h b).ext (A b++[lp .ready none]) (T b)).ext L M).ext [] [])→f b x=some o→qU P assign (assignQ P (((h b).ext (A b++[lp .ready none]) (T b)).ext L M) (nb+k) lp body (fun rr hh=>rr=.bool o.1∧hh=(fam h A T lp o.2).ext L M)) (env1 x) H1) :
  ∀ (s:β×Option Nat) (x:X) (b:Bool) (s':β×Option Nat) (L:List Blk) (M:List Nat),stp f s x=some (b,s')→SpecY P (nb+k) (xs x) ((fam h A T lp s).ext L M) (fun rr hh=>rr=.bool b∧hh=(fam h A T lp s').ext L M):=by
 rintro ⟨b0,p⟩ x b s' L M hF
 cases p with
 | some _=>cases hF
 | none =>
  have:=hw b0 x (b,s') L M _ rfl hF
  rw [ext_nil] at this
  refine specY_of hlp ?_ (hxs x) hrf (he x) this
  exact deep_blk2 (hN b0) (by rw [List.getElem?_append_right (by rw [hl];exact Nat.le_refl _),hl];simp [lst,lpe])
theorem q_assign {P:Program} {hs:AH} {nb k:Nat} {lp:LoopState→Option Code→Blk} {body:Code} {K:AV→AH→Prop} {env:List AV} {h:AH} {A L B:List Blk} {T M C:List Nat} (hN:h.blks.length=nb) (hl:A.length=k)
  (hw:qU P body (roundQ hs (nb+k) lp K) env (((h.ext (A++[lp .busy none]) T).ext L M).ext B C)):assignQ P hs (nb+k) lp body K .normal env (((h.ext (A++[lp .ready none]) T).ext L M).ext B C):=by
 refine ⟨deep_blk hN (by rw [List.getElem?_append_right (by omega),hl];simp),?_⟩
 rw [deep_put hN (by rw [List.length_append,hl];exact Nat.lt_succ_self _) (by rw [List.set_append_right _ _ (by omega),hl,Nat.sub_self])]
 exact hw
section
variable {β:Type} {h:β→AH} {h0 h1:AH} {nb nt k:Nat} {lp:LoopState→Option Code→Blk} {env:List AV} {A:β→List Blk} {T:β→List Nat} {A0 A' L B:List Blk} {T0 T' M C:List Nat} {b':β} {o:Bool×(β×Option Nat)}
theorem q_roundA {E:Exit} {r:Bool} {p:Option Nat} (hE:∀ h3,(∃ h3',wk ((h0.ext (A0++[lp .ready none]) T0).ext L M) [] h3 [] h3'∧h3'.blk (nb+k)=some (lp .busy none)∧(AV.bool r=.bool o.1∧h3'.put (nb+k) (lp (lst p) (lpe p))=(fam h A T lp o.2).ext L M))→roundQ ((h0.ext (A0++[lp .ready none]) T0).ext L M) (nb+k) lp (fun rr hh=>rr=.bool o.1∧hh=(fam h A T lp o.2).ext L M) E env h3)
  (hc:h1.closed nb nt) (hN0:h0.blks.length=nb) (hNt0:h0.toks.length=nt) (hN:h1.blks.length=nb) (hNt:h1.toks.length=nt) (hl0:A0.length=k) (hl:A'.length=k) (hT:T'.length=T0.length) (ho:o=(r,(b',p))) (hh:h b'=h1) (hA:A b'=A') (hT':T b'=T')
  (hb:(A'++[lp .busy none]).all (fun b=>b.low (nb+(k+1)) (nt+T0.length))=true) :
  roundQ ((h0.ext (A0++[lp .ready none]) T0).ext L M) (nb+k) lp (fun rr hh=>rr=.bool o.1∧hh=(fam h A T lp o.2).ext L M) E env (((h1.ext (A'++[lp .busy none]) T').ext L M).ext B C):=by
 refine hE _ ⟨(h1.ext (A'++[lp .busy none]) T').ext L M,deep_cut hc hN0 hNt0 hN hNt (by simp [hl,hl0]) hT (by rw [List.length_append,hl0];exact hb),deep_blk2 hN (by rw [List.getElem?_append_right (by omega),hl];simp),?_,?_⟩
 ·rw [ho]
 ·rw [deep_put2 hN (by rw [List.length_append,hl];exact Nat.lt_succ_self _) (by rw [List.set_append_right _ _ (by omega),hl,Nat.sub_self]),ho]
  simp only [fam,hA,hT',hh];rfl
theorem q_roundN (hc:h1.closed nb nt) (hN0:h0.blks.length=nb) (hNt0:h0.toks.length=nt) (hN:h1.blks.length=nb) (hNt:h1.toks.length=nt) (hl0:A0.length=k) (hl:A'.length=k) (hT:T'.length=T0.length) (ho:o=(true,(b',none))) (hh:h b'=h1) (hA:A b'=A') (hT':T b'=T')
  (hb:(A'++[lp .busy none]).all (fun b=>b.low (nb+(k+1)) (nt+T0.length))=true) :
  roundQ ((h0.ext (A0++[lp .ready none]) T0).ext L M) (nb+k) lp (fun rr hh=>rr=.bool o.1∧hh=(fam h A T lp o.2).ext L M) .normal env (((h1.ext (A'++[lp .busy none]) T').ext L M).ext B C) :=
 q_roundA (r:=true) (p:=none) (fun _ h=>h) hc hN0 hNt0 hN hNt hl0 hl hT ho hh hA hT' hb
theorem q_roundR (hc:h1.closed nb nt) (hN0:h0.blks.length=nb) (hNt0:h0.toks.length=nt) (hN:h1.blks.length=nb) (hNt:h1.toks.length=nt) (hl0:A0.length=k) (hl:A'.length=k) (hT:T'.length=T0.length) (ho:o=(false,(b',some 0))) (hh:h b'=h1) (hA:A b'=A') (hT':T b'=T')
  (hb:(A'++[lp .busy none]).all (fun b=>b.low (nb+(k+1)) (nt+T0.length))=true) :
  roundQ ((h0.ext (A0++[lp .ready none]) T0).ext L M) (nb+k) lp (fun rr hh=>rr=.bool o.1∧hh=(fam h A T lp o.2).ext L M) .ret env (((h1.ext (A'++[lp .busy none]) T').ext L M).ext B C) :=
 q_roundA (r:=false) (p:=some 0) (fun _ h=>h) hc hN0 hNt0 hN hNt hl0 hl hT ho hh hA hT' hb
end
theorem s_yield {P:Program} {o:Oper} {env:List AV} {h:AH} {c:Call} {f:Operand} {id:Nat} {l:List (TypeId×AV)} {args:List AV} (ho:o.op=.call c) (hc:c.callee=.value f) (hf:yZ env f=some (.yld id))
  (hl:argo env c.args.toList c.argTypes.toList=some l) (ha:Fx P l args):zN P o env h=.round id args:=by
 obtain ⟨h1,h2⟩:=yu hf
 obtain ⟨h3,h4,h5⟩:=argo_ok (P:=P) hl
 have h6:c.args.all yF=true:=by simpa using h3
 have h7:(c.args.size==c.argTypes.size)=true:=by simpa using h4
 simp only [zN,ho,h6,h7,Bool.and_self,if_true,hc,h1,Bool.true_eq_false,if_false,h2,h5,ha.eq]
theorem ops_round {P:Program} {ops:Array Oper} {Q:List AV→AH→Prop} {o:Oper} {rest:List Oper} {env env':List AV} {h h':AH} {id:Nat} {args:List AV} {v:AV} (hg:aG ops o env=some true) (ha:zN P o env h=.round id args) (hs:SpecY P id args h fun r hh=>r=v∧hh=h')
  (hd:vl o.dst env v=some env') (hk:ym P ops Q rest env' h'):ym P ops Q (o::rest) env h:=by
 refine qg ?_
 simp only [hg,gwp,ha,rwp]
 refine hs.mono ?_
 rintro r hh ⟨rfl,rfl⟩
 rw [wl hd];exact hk
theorem draw_round {Ns:List Nat} {F:Nat→AH→Prop} {i:Nat} (hN:Ns.contains i=false) {P:Program} {ops:Array Oper} {Q:List AV→AH→Prop} {o:Oper} {rest:List Oper} {env env':List AV} {h h':AH} {id:Nat} {args:List AV} {v:AV} (hF:FOk ((Region.before ops).getD i 0) Ns F h') (hc:anch ops Ns i=true) (hg:aG ops o env=some true) (ha:zN P o env h=.round id args)
  (hs:SpecY P id args h fun r hh=>r=v∧hh=h') (hd:vl o.dst env v=some env') (hk:yV P ops Ns F Q (i+1) rest env' h'):yV P ops Ns F Q i (o::rest) env h :=
 ⟨v,h',.inl ⟨hN,by simp only [AR,hg,ha];exact hs⟩,.inl hc,.inr hF,by rw [wl hd];exact hk⟩
theorem SpecY.le {P:Program} {id:Nat} {as bs:List AV} {h:AH} {K:AV→AH→Prop} (s:SpecY P id bs h K) (k:leL as bs):SpecY P id as h K :=
 fun B w0 _ g w vs c r hv hc=>s B w0 g w vs c r (k _ _ hv) hc
def CloK (h:AH) (g:FuncId) (bs:List Blk) (rr:AV) (hh:AH):Prop:=rr=.fn (.func g) [] ((List.range bs.length).map fun i=>.ptr (h.blks.length+i) 0)∧hh=h.ext bs []
theorem clo_ext {P:Program} {h:AH} {nb n:Nat} (hN:h.blks.length=nb) {f g:FuncId} {as caps:List AV} {B B' bs:List Blk} {T:List Nat} (s:Spec P f as (h.ext B T) (CloK (h.ext B T) g bs)) (hn:B.length=n) (hB:B++bs=B') (hc:(List.range bs.length).map (fun i=>AV.ptr (nb+(n+i)) 0)=caps) :
  Spec P f as (h.ext B T) (fun rr hh=>rr=.fn (.func g) [] caps∧hh=h.ext B' T):=by
 refine s.mono ?_
 rintro rr hh ⟨rfl,rfl⟩
 subst hB hc hn hN
 refine ⟨?_,by rw [yj,List.append_nil]⟩
 simp [AH.ext,Nat.add_assoc]
theorem wk_cutb {h:AH} {env:List AV} {L L1:List Blk} {M:List Nat} (m:Nat) (hl:z9 (h.blks.length+m) h.toks.length env=true) (hL:L.take m=L1) (hb:L1.all (fun b=>b.low (h.blks.length+m) h.toks.length)=true):wk h env (h.ext L M) env (h.ext L1 []):=fun _ _ _ _ g1 g vs r1 hg r hv=>by
 subst hL
 refine ⟨g.cut (h.blks.length+m) h.toks.length,Gh.le_cut2 hg (by rw [r1.slen];omega) (by rw [r1.tlen];exact Nat.le_refl _),?_,VL.cut _ _ hl hv,fun _ h=>h⟩
 have e:(h.ext L M).cut (h.blks.length+m) h.toks.length=h.ext (L.take m) []:=by
  simp only [AH.cut,AH.ext,List.take_append,Nat.add_sub_cancel_left]
  rw [List.take_of_length_le (l:=h.blks) (by omega)];simp
 rw [← e]
 refine r.cut _ _ fun i k hi hk=>?_
 simp only [AH.ext] at hk
 rcases Nat.lt_or_ge i h.blks.length with h1 | h1
 ·rw [List.getElem?_append_left h1] at hk
  have:=closed_of_rel r1 k (List.mem_of_getElem? hk)
  exact Blk.low_up (by omega) (Nat.le_refl _) k this
 ·rw [List.getElem?_append_right h1] at hk
  rw [List.all_eq_true] at hb
  refine hb k (List.mem_of_getElem? (i:=i - h.blks.length) ?_)
  rw [List.getElem?_take,if_pos (by omega)];exact hk
theorem fin_clo {h:AH} {K:AV→AH→Prop} {v:AV} {bs L':List Blk} {M':List Nat} (hl:v.low (h.blks.length+bs.length) h.toks.length=true) (hL:L'.take bs.length=bs) (hb:bs.all (fun b=>b.low (h.blks.length+bs.length) h.toks.length)=true) (hk:K v (h.ext bs [])):finK h K v (h.ext L' M') :=
 ⟨v,_,wk_cutb bs.length (by simp [z9,hl]) hL hb,hk⟩
theorem blk_lt {h:AH} {nb i:Nat} {b:Blk} (hb:h.blk i=some b) (hN:h.blks.length=nb):i < nb:=by
 subst hN;exact (List.getElem?_eq_some_iff.1 hb).1
theorem n_blk {h:AH} {L:List Blk} {M:List Nat} {nb j:Nat} {b:Blk} (hN:h.blks.length=nb) (hj:L[j]?=some b):(h.ext L M).blk (nb+j)=some b:=by
 subst hN;rw [wF];exact hj
theorem n_blk2 {h:AH} {B B':List Blk} {T T':List Nat} {nb j:Nat} {b:Blk} (hN:h.blks.length=nb) (hj:B[j]?=some b):((h.ext B T).ext B' T').blk (nb+j)=some b:=by
 subst hN;exact blk_ext2 hj
theorem jmp1 {ρ:Type} {j c:Nat} {X:Option ρ} {r:ρ} {G:Nat→Prop} (h:(if j=c then X else none)=some r) (k:X=some r→G c):G j:=by
 split at h
 ·rename_i e;subst e;exact k h
 ·cases h
theorem jmp_ret {Q:Exit→List AV→AH→Prop} {E:List AV} {h:AH} (k:Q .ret E h):jumpQ Q 0 E h:=k
end Go.Vv
