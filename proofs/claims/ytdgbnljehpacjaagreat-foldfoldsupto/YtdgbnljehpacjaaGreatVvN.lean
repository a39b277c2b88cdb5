/- A region that draws its order: one walk, in the text's order, serves every order. -/
import Derived.Test.YtdgbnljehpacjaaGreatVvBs
import Derived.OrdersIn
set_option linter.all false
namespace Go.Vv
open Go Go.RowKit Go.Lib
variable {ops:Array Oper} {o:Oper} {env env':List AV} {P:Program} {h:AH}

def befF (acc:Array Nat) (o:Oper):Array Nat:=acc.push (o.after.foldl (λs e=>if Region.binds .any e then s ||| 2 ^ e.on ||| acc.getD e.on 0 else s) 0)
theorem before_eq (ops:Array Oper):Region.before ops=ops.toList.foldl befF #[]:=by
 unfold Region.before;rw [<- po];rfl
theorem bef_size:∀(l:List Oper) (acc:Array Nat),(l.foldl befF acc).size=acc.size+l.length
 | [],acc=>by simp
 | o::r,acc=>by simp only [so,bef_size r,befF,Array.size_push,uu];omega
theorem bef_keep:∀(l:List Oper) (acc:Array Nat) (j:Nat),j < acc.size->(l.foldl befF acc).getD j 0=acc.getD j 0
 | [],acc,j,_=>rfl
 | o::r,acc,j,h=>by
  simp only [so];rw [bef_keep r _ j (by simp [befF];omega)];simp [befF,uX,pf,Nat.ne_of_lt h]
theorem edges_bit (acc:Array Nat) (w:Nat):∀(es:List Edge) (s:Nat),(es.foldl (λs e=>if Region.binds .any e then s ||| 2 ^ e.on ||| acc.getD e.on 0 else s) s).testBit w=true ->
  s.testBit w=true \/ ∃e ∈ es,Region.binds .any e=true/\(e.on=w \/ (acc.getD e.on 0).testBit w=true)
 | [],s,h=>.inl h
 | e::r,s,h=>by
  simp only [so] at h;rcases edges_bit acc w r _ h with h | ⟨b,a,c,hh⟩
  ·grind
  ·grind
theorem before_spec {i w:Nat} (hi:ops[i]?=some o) (h:((Region.before ops).getD i 0).testBit w=true) :
  ∃e ∈ o.after,Region.binds .any e=true/\(e.on=w \/ (e.on < i/\((Region.before ops).getD e.on 0).testBit w=true)):=by
 have k:ops.toList[i]?=some o:=by simp_all
 obtain ⟨c,_⟩:=uc.1 k;have a:ops.toList=ops.toList.take i++o::ops.toList.drop (i+1):=by
  have:=s8 c
  simp_all
 generalize hA:(ops.toList.take i).foldl befF #[]=acc;have b:acc.size=i:=by rw [<- hA,bef_size];simp at c ⊢;omega
 have j:Region.before ops=(ops.toList.drop (i+1)).foldl befF (befF acc o):=by
  rw [before_eq]
  conv=>lhs;rw [a]
  grind
 have f:(Region.before ops).getD i 0=o.after.foldl (λs e=>if Region.binds .any e then s ||| 2 ^ e.on ||| acc.getD e.on 0 else s) 0:=by
  rw [j,bef_keep _ _ _ (by simp [befF,b])];subst b;simp [befF,uX]
 rw [f,<- po] at h;rcases edges_bit acc w o.after.toList 0 h with h | ⟨e,l,g,hh⟩
 ·grind
 ·refine ⟨e,by grind,g,hh.imp id λhh=>?_⟩;have d:e.on < i:=by
   grind
  refine ⟨d,?_⟩;rw [j,bef_keep _ _ _ (by simp [befF,b];omega)];have:(befF acc o).getD e.on 0=acc.getD e.on 0:=by simp [befF,uX,pf,b,Nat.ne_of_lt d]
  grind

theorem ev_congr {x:Operand} (h:∀t,x=.tmp t->env[t]?=env'[t]?):ev env x=ev env' x:=by
 cases x with
 | tmp t=>simp only [ev,uA,h t rfl]
 | _=>rfl
theorem looks_op {t:Tmp} (h:Operand.tmp t ∈ o.op.operands):t ∈ o.looksAt ops:=by
 unfold Oper.looksAt;refine uD.2 (.inl (List.mem_filterMap.2 ⟨.tmp t,by simpa using h,rfl⟩))
theorem looks_guard {j:Nat} {b:Bool} {d:Tmp} (a:o.guard=some (j,b)) (hd:(ops[j]?).bind (·.dst)=some d):d ∈ o.looksAt ops:=by
 unfold Oper.looksAt
 simp_all
theorem aG_congr (h:∀t ∈ o.looksAt ops,env[t]?=env'[t]?):aG ops o env=aG ops o env':=by
 unfold aG;split
 ·rfl
 ·rename_i j a b;split
  ·rfl
  ·rename_i d hd;rw [h d (looks_guard b hd)]

theorem aParts_congr {d:TypeDesc} {parts:Array (Nat×Operand)} (h:∀p ∈ parts.toList,ev env p.2=ev env' p.2):xw P d env parts=xw P d env' parts:=by
 unfold xw;exact sX λp a=>by rw [h p a]

theorem astep_congr (e:∀x ∈ o.op.operands,ev env x=ev env' x):zt P o env h=zt P o env' h:=by
 unfold zt;cases ho:o.op <;> rw [ho] at e <;> simp only [Op.operands] at e ⊢
 case move x=>rw [e x (by simp)]
 case assign x=>rw [e x (by simp)]
 case pick c a b=>rw [e c (by simp),e a (by simp),e b (by simp)]
 case box t x=>rw [e x (by simp)]
 case build t parts =>
  have g:∀d,xw P d env parts=xw P d env' parts:=λd=>aParts_congr λp g=>e p.2 (by grind)
  simp_all
 case buildSlice t n parts =>
  have g:∀d,xw P d env parts=xw P d env' parts:=λd=>aParts_congr λp g=>e p.2 (by grind)
  simp_all
 case load t x=>rw [e x (by simp)]
 case store t x y=>rw [e x (by simp),e y (by simp)]
 case nilCheck x=>rw [e x (by simp)]
 case binOp op t x y yt=>rw [e x (by simp),e y (by simp)]
 case unOp op t x=>rw [e x (by simp)]
 case convert s t x=>rw [e x (by simp)]
 case makeFunc f a b =>
  have k:a.toList.map (ev env)=a.toList.map (ev env'):=sX λx q=>e x (by simp_all);have j:b.toList.map (ev env)=b.toList.map (ev env'):=sX λx q=>e x (by simp_all)
  grind
 case slice t x lo hi mx =>
  have k:lo.map (ev env)=lo.map (ev env'):=by cases lo with | none=>rfl | some y=>simp [e y (by simp)]
  have j:hi.map (ev env)=hi.map (ev env'):=by cases hi with | none=>rfl | some y=>simp [e y (by simp)]
  have u:mx.map (ev env)=mx.map (ev env'):=by cases mx with | none=>rfl | some y=>simp [e y (by simp)]
  simp_all
 case fieldAddr t x f=>rw [e x (by simp)]
 case field t x f=>rw [e x (by simp)]
 case indexAddr t x i=>rw [e x (by simp),e i (by simp)]
 case index t x i=>rw [e x (by simp),e i (by simp)]
 case extract x i=>rw [e x (by simp)]
 case range t x=>rw [e x (by simp)]
 case next x s=>rw [e x (by simp)]
 case lookup t x i ok=>rw [e x (by simp),e i (by simp)]
 case mapEntry t x i=>rw [e x (by simp),e i (by simp)]
 case entryStore t x i y=>rw [e x (by simp),e i (by simp),e y (by simp)]
 case mapUpdate t x i y=>rw [e x (by simp),e i (by simp),e y (by simp)]
 case makeMap t r=>cases r <;> rfl
 case call c =>
  have k:c.args.toList.map (ev env)=c.args.toList.map (ev env'):=sX λx q=>e x (by simp [Call.operands];exact .inr (by simp_all));have j:(c.args.toList.zip c.argTypes.toList).map (λp=>tyfix P p.2 (ev env p.1))=(c.args.toList.zip c.argTypes.toList).map (λp=>tyfix P p.2 (ev env' p.1)) :=
   sX λp g=>by rw [e p.1 (by simp [Call.operands];exact .inr (by simpa using (List.of_mem_zip g).1))]
  rw [k,j];split
  ·split
   ·rfl
   ·rename_i f l;rw [e f (by simp [Call.operands,l])]
   ·rename_i x m l;rw [e x (by simp [Call.operands,l])]
  ·rfl

theorem bstep_congr (a:∀x ∈ o.op.operands,ev env x=ev env' x):xQ P o env h=xQ P o env' h:=by
 unfold xQ;cases ho:o.op <;> rw [ho] at a <;> simp only [Op.operands] at a ⊢
 case range t x=>rw [a x (by simp)]
 case next x s=>cases s <;> simp only;rw [a x (by simp)]
 case entry x=>rw [a x (by simp)]
 case buildSlice t n parts =>
  have b:∀d,xw P d env parts=xw P d env' parts:=λd=>aParts_congr λp b=>a p.2 (by grind)
  simp_all
 case convert s t x=>rw [a x (by simp)]
 case makeInterface t x=>rw [a x (by simp)]
 case typeAssert x u t ok=>rw [a x (by simp)]
 case slice t x lo hi mx =>
  split <;> first | rfl | skip
  all_goals (rename_i h0;try (cases h0))
  all_goals first
   | rfl
   | (rename_i y;rw [a x (by simp),a y (by simp)])
 case insert t m k x =>
  have:zt P { o with op:=.mapUpdate t m k x } env h=zt P { o with op:=.mapUpdate t m k x } env' h:=astep_congr λy e=>a y (by simpa [Op.operands] using e);rw [this]
 case call c =>
  have f:∀x ∈ c.args.toList,ev env x=ev env' x:=λx g=>a x (by simp [Call.operands];exact .inr (by simp_all));split
  ·simp_all
  ·simp_all
  ·simp_all
  ·simp_all
  ·simp_all
  ·rfl
theorem anew_congr (a:∀x ∈ o.op.operands,ev env x=ev env' x):anew P o env=anew P o env':=by
 unfold anew;cases ho:o.op <;> rw [ho] at a <;> simp only [Op.operands] at a ⊢
 case call c =>
  have b:∀x ∈ c.args.toList,ev env x=ev env' x:=λx d=>a x (by simp [Call.operands];exact .inr (by simp_all));split
  ·simp_all
  ·rfl
theorem bstep_still {f:AH} {v:AV} (d:isEff o.op=false) (hd:bdraw o.op=true) (a:xQ P o env h=some [(v,f)]):f=h/\∀e,xQ P o env e=some [(v,e)]:=by
 unfold xQ at a ⊢;cases ho:o.op <;> rw [ho] at d a hd <;> simp only [isEff,bdraw,reduceCtorEq] at d a hd ⊢
 case convert s t x =>
  by_cases b:yr x=true
  ·simp only [b,ur] at a ⊢;cases h1:convX P s t (ev env x) with
   | some l =>
    simp only [h1,ui,r7,t7,tQ] at a ⊢;obtain ⟨rfl,rfl⟩:=a;exact ⟨rfl,λ_=>rfl⟩
   | none =>
    simp only [h1] at a ⊢;cases e:convBy P s t (ev env x) with
    | some l =>
     simp only [e,ui,r7,t7,tQ] at a ⊢;obtain ⟨rfl,rfl⟩:=a;exact ⟨rfl,λ_=>rfl⟩
    | none=>simp only [e] at a;cases a
  ·simp only [b] at a;cases a
 case makeInterface t x =>
  grind
 case typeAssert x u t ok =>
  split at a
  ·rename_i b;split at a
   ·cases a
   ·split at a
    ·simp_all
    ·grind
   ·cases a
  ·cases a
 case call c =>
  grind
theorem aLoad_blks {a:AH} (c:a.blks=h.blks) (b:Bool) (n:Nat) (p:AV):qZ a b n p=qZ h b n p:=by
 unfold qZ AH.blk;rw [c]

theorem astep_still (d:isEff o.op=false) :
  (∃x:Option AV,∀a:AH,(isRd o.op=true->a.blks=h.blks)->zt P o env a=oo a x) \/ (∃n v,∀a:AH,zt P o env a=.len n v a) \/ (∀a:AH,(∃S,zt P o env a=.any S) \/ zt P o env a=.fail):=by
 cases ho:o.op <;> rw [ho] at d <;> simp only [isEff,reduceCtorEq] at d <;> simp only [zt,ho]
 case call c =>
  obtain ⟨callee,a5,ts⟩:=c;cases callee with
  | value f=>simp at d
  | invoke x m=>simp at d
  | builtin b =>
   cases b <;> simp only [reduceCtorEq] at d;simp only [aBuiltin];split
   ·split
    ·split
     ·split
      ·simp_all
      ·simp_all
     ·split
      ·simp_all
      ·simp_all
     ·grind
     ·simp_all
    ·simp_all
    ·simp_all
    ·simp_all
    ·simp_all
   ·simp_all
 case binOp op t x y u =>
  split
  ·cases hq:aNilq P op t h (ev env x) (ev env y) with
   | none =>
    have g:∀a,aNilq P op t a (ev env x) (ev env y)=none:=by
     intro a;unfold aNilq at hq ⊢;split at hq
     ·grind
     ·grind
     ·rfl
    exact .inl ⟨_,λa _=>by rw [g a]⟩
   | some S =>
    refine .inr (.inr λa=>?_);have:∃S',aNilq P op t a (ev env x) (ev env y)=some S':=by
     unfold aNilq at hq ⊢
     grind
    grind
  ·simp_all
 case load t x =>
  split
  ·exact .inl ⟨_,λa e=>by rw [aLoad_blks (e rfl)]⟩
  ·simp_all
 all_goals
  (repeat' split) <;> first
   | exact .inl ⟨none,λ_ _=>rfl⟩
   | exact .inl ⟨some _,λ_ _=>rfl⟩
   | exact .inl ⟨_,λ_ _=>rfl⟩
end Go.Vv
namespace Go.Vv
open Go Go.RowKit Go.Lib

def dstAt (ops:Array Oper) (k:Nat):Option Tmp:=(ops[k]?).bind (·.dst)
def wy (ops:Array Oper) (Ns:List Nat) (k:Nat):Bool:=match ops[k]? with | some o=>effN Ns k o.op | none=>false
def fE (ops:Array Oper) (vs:Nat->AV) (S:Nat->Bool) (env:List AV):Nat->List AV
 | 0=>env
 | k+1=>if S k then setd (fE ops vs S env k) (dstAt ops k) (vs k) else fE ops vs S env k
def fH (ops:Array Oper) (Ns:List Nat) (hs:Nat->AH) (S:Nat->Bool):Nat->AH
 | 0=>hs 0
 | k+1=>if S k&&wy ops Ns k then hs (k+1) else fH ops Ns hs S k

section
variable {ops:Array Oper} {Ns:List Nat} {vs:Nat->AV} {hs:Nat->AH} {env:List AV}

theorem setd_len (env:List AV) (d:Option Tmp) (v:AV):(setd env d v).length=env.length:=by cases d <;> simp [setd]
theorem fE_len (S:Nat->Bool):∀k,(fE ops vs S env k).length=env.length
 | 0=>rfl
 | k+1=>by
  simp only [fE];split
  ·rw [setd_len,fE_len S k]
  ·exact fE_len S k
theorem setd_get_ne {env:List AV} {d:Option Tmp} {v:AV} {t:Nat} (h:d ≠ some t):(setd env d v)[t]?=env[t]?:=by
 cases d with
 | none=>rfl
 | some d=>simp only [setd];exact u7 (λe=>h (by rw [e]))
theorem fE_at {S T:Nat->Bool} {t:Nat}:∀k,(∀w,w < k->dstAt ops w=some t->S w=T w)->(fE ops vs S env k)[t]?=(fE ops vs T env k)[t]?
 | 0,_=>rfl
 | k+1,h=>by
  have c:=fE_at (S:=S) (T:=T) k λw b hd=>h w (by omega) hd;simp only [fE];by_cases hd:dstAt ops k=some t
  ·have a:=h k (by omega) hd;rw [a,hd];cases T k
   ·simp_all
   ·simp only [ur,setd,pw,fE_len]
  ·have e:(if S k then setd (fE ops vs S env k) (dstAt ops k) (vs k) else fE ops vs S env k)[t]?=(fE ops vs S env k)[t]?:=by
    split
    ·exact setd_get_ne hd
    ·rfl
   have d:(if T k then setd (fE ops vs T env k) (dstAt ops k) (vs k) else fE ops vs T env k)[t]?=(fE ops vs T env k)[t]?:=by
    split
    ·exact setd_get_ne hd
    ·rfl
   simp_all
theorem fE_eq {S T:Nat->Bool}:∀k,(∀w,w < k->S w=T w)->fE ops vs S env k=fE ops vs T env k
 | 0,_=>rfl
 | k+1,h=>by simp only [fE,h k (by omega),fE_eq k λw a=>h w (by omega)]
theorem fE_stop {S:Nat->Bool} {i:Nat} (h:∀w,i<=w->S w=false):∀m,fE ops vs S env (i+m)=fE ops vs S env i
 | 0=>rfl
 | m+1=>by rw [<- rb];simp only [fE,h (i+m) (by omega),uk,uH];exact fE_stop h m
theorem fE_last {S:Nat->Bool} {i t n:Nat} (hi:S i=true) (hd:dstAt ops i=some t) (d:t < env.length) (b:i < n) (h:∀w,i < w->w < n->dstAt ops w=some t->S w=false) :
  (fE ops vs S env n)[t]?=some (vs i):=by
 obtain ⟨m,rfl⟩:∃m,n=i+1+m:=⟨n - (i+1),by omega⟩
 induction m with
 | zero =>
  simp only [fE,hi,ur,hd,setd];rw [uE (by rw [fE_len];exact d)]
 | succ m ih =>
  rw [<- rb];simp only [fE];have a:=ih (by omega) λw c e=>h w c (by omega);split
  ·rename_i f;by_cases hd':dstAt ops (i+1+m)=some t
   ·grind
   ·rw [setd_get_ne hd'];exact a
  ·omega
theorem fH_eq {S T:Nat->Bool}:∀k,(∀e,e < k->wy ops Ns e=true->S e=T e)->fH ops Ns hs S k=fH ops Ns hs T k
 | 0,_=>rfl
 | k+1,h=>by
  simp only [fH,fH_eq k λe a=>h e (by omega)]
  grind
theorem fH_all {S:Nat->Bool} (b:∀k,wy ops Ns k=false->hs (k+1)=hs k):∀k,(∀e,e < k->wy ops Ns e=true->S e=true)->fH ops Ns hs S k=hs k
 | 0,_=>rfl
 | k+1,h=>by
  simp only [fH];cases a:wy ops Ns k with
  | true=>simp [h k (by omega) a]
  | false=>simp only [Bool.and_false,uk,uH,fH_all b k λe a=>h e (by omega)];exact (b k a).symm
theorem fH_stop {S:Nat->Bool} {i:Nat} (h:∀w,i<=w->wy ops Ns w=true->S w=false):∀m,fH ops Ns hs S (i+m)=fH ops Ns hs S i
 | 0=>rfl
 | m+1=>by
  rw [<- rb];simp only [fH];rw [uC]
  ·exact fH_stop h m
  ·grind
theorem fH_blks {S T:Nat->Bool} (g:∀k,wy ops Ns k=false->hs (k+1)=hs k):∀k,
  (∀e,e < k->wy ops Ns e=true->S e ≠ T e->(hs (e+1)).blks=(hs e).blks) ->
  (∀e a,e < a->a < k->wy ops Ns e=true->wy ops Ns a=true->S a=true->S e=true)->(∀e a,e < a->a < k->wy ops Ns e=true->wy ops Ns a=true->T a=true->T e=true) ->
  (fH ops Ns hs S k).blks=(fH ops Ns hs T k).blks
 | 0,_,_,_=>rfl
 | k+1,h,pS,pT=>by
  have d:=fH_blks (S:=S) (T:=T) g k (λe c=>h e (by omega)) (λe a f i=>pS e a f (by omega)) (λe a f i=>pT e a f (by omega));simp only [fH];cases c:wy ops Ns k with
  | false=>simpa using d
  | true =>
   simp only [rC];cases hS:S k <;> cases hT:T k
   ·simp_all
   ·simp only [uk,uH,ur];rw [h k (by omega) c (by simp_all),d];rw [fH_all g k λe b hh=>pT e k b (by omega) hh c hT]
   ·simp only [uk,uH,ur];rw [h k (by omega) c (by simp_all),<- d];rw [fH_all g k λe b hh=>pS e k b (by omega) hh c hS]
   ·simp

theorem count_lt {p q:Nat->Bool}:∀(l:List Nat),(∀x ∈ l,p x=true->q x=true)->(∃x ∈ l,q x=true/\p x=false)->l.countP p < l.countP q
 | [],_,⟨x,a,_⟩=>by cases a
 | y::r,h,⟨x,a,hq,hp⟩=>by
  have b:r.countP p<=r.countP q:=List.countP_mono_left λz c=>h z (by simp [c]);simp only [List.countP_cons];rcases uQ.1 a with rfl | a
  ·grind
  ·have d:=count_lt r (λz c=>h z (by simp [c])) ⟨x,a,hq,hp⟩
   grind
end
section
variable {P:Program} {B:Nat} {w0:World} {g0:Gh} {D:List Deferred} {ro:Option Nat} {n:Nat} {ops:Array Oper} {Ns:List Nat} {F:Nat->AH->Prop} [GOk P B w0]

theorem drawOk_edge (h:drawOk ops Ns=true) {i:Nat} {o:Oper} (hi:ops[i]?=some o):∀e ∈ o.after,Region.binds .any e=true->e.on < i:=by
 unfold drawOk at h;simp only [uq] at h;have hm:(o,i) ∈ ops.toList.zipIdx:=by grind
 have:=h (o,i) hm;simp only [ud] at this;intro e he hb;have h1:=tY.1 this.1 e he
 simp_all
theorem before_lt (h:drawOk ops Ns=true):∀(i w:Nat),((Region.before ops).getD i 0).testBit w=true->w < i:=by
 intro i
 induction i using Nat.strongRecOn with
 | _ i ih =>
  intro w a;rcases hi:ops[i]? with _ | o
  ·have:(Region.before ops).getD i 0=0:=by
    rw [before_eq,uX,rL]
    ·rfl
    rw [bef_size];simp at hi ⊢;exact hi
   simp_all
  ·obtain ⟨e,b,c,hh⟩:=before_spec hi a;have d:=drawOk_edge h hi e b c
   grind
theorem drawOk_pair (h:drawOk ops Ns=true) {i j:Nat} {o a:Oper} (hi:ops[i]?=some o) (f:ops[j]?=some a) (c:i ≠ j) (g:cmpb (Region.before ops) i j=false) :
  (∀d,o.dst=some d->d ∉ a.looksAt ops/\a.dst ≠ some d)/\(effN Ns i o.op=true->effN Ns j a.op=false):=by
 unfold drawOk at h;simp only [uq] at h;have e:(o,i) ∈ ops.toList.zipIdx:=by grind
 have b:(a,j) ∈ ops.toList.zipIdx:=by grind
 grind

theorem fE_none {vs:Nat->AV} {env:List AV} {S:Nat->Bool}:∀k,(∀w,w < k->S w=false)->fE ops vs S env k=env
 | 0,_=>rfl
 | k+1,h=>by simp only [fE,h k (by omega),uk,uH];exact fE_none k λw a=>h w (by omega)

theorem AR.still {o:Oper} {env:List AV} {h d:AH} {v:AV} (b:isEff o.op=false) (a:AR P ops o env h v d):d=h:=by
 unfold AR at a;split at a
 ·rcases astep_still (P:=P) (env:=env) (h:=h) b with ⟨x,c⟩ | ⟨n,u,c⟩ | c
  ·rw [c h λ_=>rfl] at a;cases x with
   | none=>exact a.elim
   | some v'=>exact a.2
  ·simp_all
  ·grind
 ·exact a.2
 ·simp_all

theorem ARN.still {i:Nat} {o:Oper} {env:List AV} {h e:AH} {v:AV} (a:effN Ns i o.op=false) (f:ARN P ops Ns F i o env h v e):e=h:=by
 rcases f with ⟨c,b⟩ | ⟨_,_,b,_⟩ | ⟨c,d,_,b⟩ | ⟨_,_,_,b⟩
 ·refine AR.still ?_ b;simp only [effN,c,sE,rC] at a;omega
 ·exact b
 ·simp only [effN,c,sE,rC] at a;exact (bstep_still a d b).1
 ·exact b
theorem draw_seq {QA:List AV->AH->Prop}:∀(rest:List Oper) (k:Nat) (env:List AV) (h:AH),ops.toList.drop k=rest->k<=ops.size->zV P ops Ns F QA k rest env h ->
  ∃(vs:Nat->AV) (hs:Nat->AH),hs k=h/\(∀i o,k<=i->ops[i]?=some o->ARN P ops Ns F i o (fE ops vs (λw=>decide (k<=w)) env i) (hs i) (vs i) (hs (i+1))/\(anch ops Ns i=true \/ (hs (i+1)).blks=(hs i).blks)/\(hs (i+1)=hs i \/ FOk ((Region.before ops).getD i 0) Ns F (hs (i+1)))) /\
   QA (fE ops vs (λw=>decide (k<=w)) env ops.size) (hs ops.size)
 | [],k,env,h,hd,hkn,b=>by
  have s:k=ops.size:=by
   have:=congrArg List.length hd
   grind
  subst s;refine ⟨λ_=>aundef,λ_=>h,rfl,λi o hi g=>?_,?_⟩
  ·simp_all
  ·rw [fE_none _ λw b=>by simp;omega];exact b
 | o::rest,k,env,h,hd,hkn,b=>by
  have g:ops[k]?=some o:=by
   rw [<- uK];have:=congrArg (·[0]?) hd
   grind
  have p:k < ops.size:=(uO.1 g).1;have l:ops.toList.drop (k+1)=rest:=by
   rw [<- tB,hd];rfl
  obtain ⟨v,t,r,j,q,c⟩:=b;obtain ⟨vs,hs,h0,x,u⟩:=draw_seq rest (k+1) _ t l (by omega) c;have e:dstAt ops k=o.dst:=by simp [dstAt,g]
  let f:Nat->AV:=λw=>if w=k then v else vs w
  let d:Nat->AH:=λw=>if w<=k then h else hs w
  have key:∀m,fE ops f (λw=>decide (k<=w)) env (k+1+m)=fE ops vs (λw=>decide (k+1<=w)) (setd env o.dst v) (k+1+m):=by
   intro m
   induction m with
   | zero =>
    simp only [tS];rw [fE_none (S:=λw=>decide (k+1<=w)) (k+1) λw b=>by simp;omega];simp only [fE,uh,rW,ur,e];rw [fE_none (S:=λw=>decide (k<=w)) k λw b=>by simp;omega]
    grind
   | succ m ih =>
    rw [<- rb];simp only [fE,ih]
    grind
  refine ⟨f,d,by simp [d],λi y hi a=>?_,?_⟩
  ·rcases Nat.eq_or_lt_of_le hi with rfl | hi
   ·rw [g] at a;injection a with a;subst a;rw [fE_none (S:=λw=>decide (k<=w)) k λw b=>by simp;omega]
    grind
   ·obtain ⟨m,rfl⟩:∃m,i=k+1+m:=⟨i - (k+1),by omega⟩
    grind
  ·obtain ⟨m,z⟩:∃m,ops.size=k+1+m:=⟨ops.size - (k+1),by omega⟩
   grind

theorem draw_sound (G:drawOk ops Ns=true) {Q:Exit->Act->World->Prop} {vs:Nat->AV} {hs:Nat->AH} {env:List AV}
  (hFs:∀n,F n (hs 0)) (hc:∀i o,ops[i]?=some o->ARN P ops Ns F i o (fE ops vs (λ_=>true) env i) (hs i) (vs i) (hs (i+1))/\(anch ops Ns i=true \/ (hs (i+1)).blks=(hs i).blks)/\(hs (i+1)=hs i \/ FOk ((Region.before ops).getD i 0) Ns F (hs (i+1))))
  (hQ:∀a w,St B w0 g0 D (fE ops vs (λ_=>true) env ops.size) (hs ops.size) a w->Q .normal a w) :
  ∀(z:Nat) (b:Array Bool) (a:Act) (w:World),b.size=ops.size->(List.range ops.size).countP (λi=>!b.getD i false)<=z ->
   (∀i j,b.getD i false=true->((Region.before ops).getD i 0).testBit j=true->b.getD j false=true) ->
   St B w0 g0 D (fE ops vs (λi=>b.getD i false) env ops.size) (fH ops Ns hs (λi=>b.getD i false) ops.size) a w ->
   wpAnyIn (WF ro) n P .any ops Q z b a w:=by
 have hn:∀k,wy ops Ns k=false->k < ops.size->hs (k+1)=hs k:=λk A hk=>by
  have C:ops[k]?=some ops[k]:=uN hk;exact ARN.still (by simpa [wy,C] using A) (hc k _ C).1
 -- beyond the region nothing is asked
 let O:Nat->AH:=λk=>if k<=ops.size then hs k else hs ops.size
 have H:∀k,k<=ops.size->O k=hs k:=λk hk=>by grind
 have hn2:∀k,wy ops Ns k=false->O (k+1)=O k:=λk A=>by
  grind
 have fH2:∀(S:Nat->Bool) k,k<=ops.size->fH ops Ns hs S k=fH ops Ns O S k:=λS k=>by
  induction k with
  | zero=>intro _;simp only [fH];exact (H 0 (by omega)).symm
  | succ k ih=>intro hk;simp only [fH,ih (by omega),H (k+1) hk]
 -- all has come
 have fin:∀(b:Array Bool) (a:Act) (w:World),b.size=ops.size->Region.ready .any ops b=[] ->
   St B w0 g0 D (fE ops vs (λi=>b.getD i false) env ops.size) (fH ops Ns hs (λi=>b.getD i false) ops.size) a w->Q .normal a w:=by
  intro b a w N hr s;have hall:∀i,i < ops.size->b.getD i false=true:=by
   intro i
   induction i using Nat.strongRecOn with
   | _ i ih =>
    intro hi;rcases hb:b.getD i false with _ | _
    ·exfalso;have:i ∈ Region.ready .any ops b:=by
      unfold Region.ready;rw [tO];refine ⟨by simp_all,?_⟩;have d:b.getD i true=false:=by
       simp_all
      have C:ops[i]?=some ops[i]:=uN hi;simp only [d,sE,C,uY,rt,uU];rw [tY];intro e A;cases hbe:Region.binds .any e with
      | false=>rfl
      | true =>
       have hlt:=drawOk_edge G C e A hbe
       grind
     simp_all
    ·rfl
  refine hQ a w ?_;rw [fE_eq (T:=λ_=>true) ops.size λw L=>hall w L] at s;rw [fH2 _ _ (uh _),fH_all hn2 ops.size λe A _=>hall e A,H _ (uh _)] at s;omega
 intro z
 induction z with
 | zero =>
  intro b a w N hcnt hcl s;have hr:Region.ready .any ops b=[]:=by
   rcases hrr:Region.ready .any ops b with _ | ⟨i,r⟩
   ·rfl
   ·exfalso;have hi:i ∈ Region.ready .any ops b:=by simp_all
    unfold Region.ready at hi
    grind
  exact ⟨hr,fin b a w N hr s⟩
 | succ z ih =>
  intro b a w N hcnt hcl s;refine ⟨λhr=>fin b a w N hr s,λi hi=>?_⟩;unfold Region.ready at hi;rw [tO] at hi;have hlt:i < ops.size:=by simp_all
  have C:ops[i]?=some ops[i]:=uN hlt;generalize hoo:ops[i]=o at C;have hi2:=hi.2;simp only [C,uY,rt,ud,tH] at hi2;have hil:i < b.size:=by omega
  have hSi:b.getD i false=false:=by
   grind
  have hedge:∀e ∈ o.after,Region.binds .any e=true->b.getD e.on false=true:=λe A hb=>by
   have:=tY.1 hi2.2 e A
   grind
  have hanc:∀w,((Region.before ops).getD i 0).testBit w=true->b.getD w false=true:=λw L=>by
   obtain ⟨e,A,hb,hh⟩:=before_spec C L;rcases hh with rfl | ⟨_,I⟩
   ·grind
   ·grind
  generalize hS:(λw=>b.getD w false)=S at s;have hSd:∀w,S w=b.getD w false:=λw=>by rw [<- hS]
  have hSi':S i=false:=by grind
  let T:Nat->Bool:=λw=>decide (w < i)
  have U:∀w,w ≠ i->cmpb (Region.before ops) w i=true->S w=T w:=λw _ hc'=>by
   simp only [cmpb,tG] at hc';rcases hc' with d | d
   ·have:=before_lt G i w d
    grind
   ·have I:=before_lt G w i d
    grind
  -- what it looks at is a5 it was in the text's order
  have hTn:fE ops vs T env ops.size=fE ops vs (λ_=>true) env i:=by
   obtain ⟨m,hm⟩:∃m,ops.size=i+m:=⟨ops.size - i,by omega⟩
   rw [hm,fE_stop (S:=T) (λw L=>by grind) m];exact fE_eq i λw L=>by simp [T,L]
  have Z:∀t ∈ o.looksAt ops,(fE ops vs S env ops.size)[t]?=(fE ops vs (λ_=>true) env i)[t]?:=λt ht=>by
   rw [<- hTn];refine fE_at ops.size λw L hd=>?_;by_cases hwi:w=i
   ·grind
   ·cases hcb:cmpb (Region.before ops) w i with
    | true=>exact U w hwi hcb
    | false =>
     have how:ops[w]?=some ops[w]:=uN L;have:=(drawOk_pair G how C hwi hcb).1 t (by simpa [dstAt,how] using hd)
     grind
  obtain ⟨hAR,hblk,_⟩:=hc i o C;have hgE:aG ops o (fE ops vs S env ops.size)=aG ops o (fE ops vs (λ_=>true) env i):=aG_congr Z;have hsE:∀J,zt P o (fE ops vs S env ops.size) J=zt P o (fE ops vs (λ_=>true) env i) J:=λJ=>astep_congr λx E=>ev_congr λt ht=>Z t (looks_op (ht ▸ E));have hsB:∀J,xQ P o (fE ops vs S env ops.size) J=xQ P o (fE ops vs (λ_=>true) env i) J:=λJ=>bstep_congr λx E=>ev_congr λt ht=>Z t (looks_op (ht ▸ E));have l:ARN P ops Ns F i o (fE ops vs S env ops.size) (hs i) (vs i) (hs (i+1)):=by
   rcases hAR with ⟨d,I⟩ | ⟨d,I,h3,h4⟩ | ⟨d,hbd,I,h3⟩ | ⟨d,I,h3,h4⟩
   ·refine .inl ⟨d,?_⟩;unfold AR at I ⊢;rw [hgE,hsE];exact I
   ·exact .inr (.inl ⟨d,by grind,h3,h4.imp (λ⟨f,args,h5,h6⟩=>⟨f,args,λI=>by grind,h6⟩) (λh5 I hf=>by grind)⟩)
   ·exact .inr (.inr (.inl ⟨d,hbd,by grind,by grind⟩))
   ·exact .inr (.inr (.inr ⟨d,by grind,h3,h4⟩))
  have heff:wy ops Ns i=effN Ns i o.op:=by simp [wy,C]
  -- effects are in a row
  have pS:∀e M,e < M->M < ops.size->wy ops Ns e=true->wy ops Ns M=true->S M=true->S e=true:=λe M d I h3 h4 h5=>by
   have oe:ops[e]?=some ops[e]:=uN (by omega);have oe':ops[M]?=some ops[M]:=uN I;cases hcb:cmpb (Region.before ops) e M with
   | true =>
    simp only [cmpb,tG] at hcb;rcases hcb with h6 | h6
    ·grind
    ·have:=before_lt G e M h6;omega
   | false =>
    have h7:=(drawOk_pair G oe oe' (by omega) hcb).2 (by simpa [wy,oe] using h3);simp [wy,oe',h7] at h4
  have pT:∀e M,e < M->M < ops.size->wy ops Ns e=true->wy ops Ns M=true->T M=true->T e=true:=λe M d _ _ _ h5=>by
   grind
  have effS:effN Ns i o.op=true->∀e,e < ops.size->wy ops Ns e=true->S e=T e:=λR e he1 he2=>by
   by_cases hei:e=i
   ·grind
   ·have oe:ops[e]?=some ops[e]:=uN he1;cases hcb:cmpb (Region.before ops) e i with
    | true=>exact U e hei hcb
    | false =>
     have h7:=(drawOk_pair G oe C hei hcb).2 (by simpa [wy,oe] using he2)
     grind
  have hTH:fH ops Ns O T ops.size=hs i:=by
   obtain ⟨m,hm⟩:∃m,ops.size=i+m:=⟨ops.size - i,by omega⟩
   rw [hm,fH_stop (S:=T) (λw L _=>by grind) m,fH_all hn2 i λe A _=>by simp [T,A]]
   grind
  -- the new list
  have hS':∀w,(b.setIfInBounds i true).getD w false=(w==i || S w):=λw=>by
   rw [hSd];by_cases L:w=i
   ·subst L;simp [uX,hil]
   ·have d:(w==i)=false:=by simpa using L
    simp [uX,d,Array.getElem?_setIfInBounds_ne (λe=>L e.symm)]
  have hfS':(λw=>(b.setIfInBounds i true).getD w false)=λw=>(w==i || S w):=funext hS'
  -- the frame behind it
  have hE':fE ops vs (λw=>(w==i || S w)) env ops.size=setd (fE ops vs S env ops.size) o.dst (vs i):=by
   apply tc;intro t;by_cases hdt:o.dst=some t
   ·rw [hdt];simp only [setd];rcases sB t env.length with htl | htl
    ·rw [uE (by rw [fE_len];exact htl)];refine fE_last (i:=i) (by simp) (by simp [dstAt,C,hdt]) htl hlt λw hw1 hw2 hw3=>?_;have d:(w==i)=false:=by simp;omega
     simp only [d,tj];have how:ops[w]?=some ops[w]:=uN hw2;cases hcb:cmpb (Region.before ops) w i with
     | true=>rw [U w (by omega) hcb];simp [T];omega
     | false =>
      have:=(drawOk_pair G how C (by omega) hcb).1 t (by simpa [dstAt,how] using hw3)
      grind
    ·rw [tJ (by rw [fE_len];exact htl),tJ (by rw [uI,fE_len];exact htl)]
   ·rw [setd_get_ne hdt];refine fE_at ops.size λw L hd=>?_;by_cases hwi:w=i
    ·subst hwi;simp [dstAt,C] at hd;exact absurd hd hdt
    ·grind
  -- the heap behind it
  have hst2:=s;generalize hX:fH ops Ns hs S ops.size=E at s;have hFx:Ns.contains i=true->F i E:=λX=>by
   -- an effect that has come is none that waits for this one
   have hA:∀k,k<=ops.size->(∀e,e < k->wy ops Ns e=true->S e=true)->F i (hs k):=λk=>by
    induction k with
    | zero=>intro _ _;exact hFs i
    | succ k ih =>
     intro hk A;have ihk:=ih (by omega) λe d I=>A e (by omega) I;have ok:ops[k]?=some ops[k]:=uN (by omega);rcases (hc k _ ok).2.2 with d | d
     ·grind
     ·cases R:wy ops Ns k with
      | false=>rw [hn k R (by omega)];exact ihk
      | true =>
       refine d i X ?_
       grind
   rw [<- hX];have:∀k,k<=ops.size->F i (fH ops Ns hs S k):=λk=>by
    induction k with
    | zero=>intro _;exact hFs i
    | succ k ih =>
     intro hk;simp only [fH];split
     ·rename_i hh;simp only [ud] at hh;refine hA (k+1) hk λe d I=>?_
      grind
     ·grind
   grind
  have hAR3:∃J,ARN P ops Ns F i o (fE ops vs S env ops.size) E (vs i) J/\fH ops Ns hs (λw=>(w==i || S w)) ops.size=J:=by
   cases R:effN Ns i o.op with
   | true =>
    have d:E=hs i:=by rw [<- hX,fH2 _ _ (uh _),fH_eq ops.size (effS R),hTH]
    refine ⟨hs (i+1),by grind,?_⟩;rw [fH2 _ _ (uh _)];obtain ⟨m,hm⟩:∃m,ops.size=i+1+m:=⟨ops.size - (i+1),by omega⟩
    rw [hm,fH_stop (λw L hwe=>?_) m]
    ·simp only [fH]
     grind
    ·have I:(w==i)=false:=by simp;omega
     grind
   | false =>
    have d:fH ops Ns hs (λw=>(w==i || S w)) ops.size=E:=by
     rw [<- hX];refine fH_eq ops.size λe _ hee=>?_;have:e ≠ i:=by grind
     grind
    refine ⟨E,?_,d⟩;have hb:Ns.contains i=false->isRd o.op=true->E.blks=(hs i).blks:=λX hrd=>by
     rw [<- hX,fH2 _ _ (uh _),<- hTH];refine fH_blks hn2 ops.size (λe he1 he2 hne=>?_) pS pT;rw [H _ (by omega),H _ (by omega)];have oe:ops[e]?=some ops[e]:=uN he1;rcases (hc e _ oe).2.1 with han | hbb
     ·exfalso;unfold anch at han;simp only [uq] at han;have hm:(o,i) ∈ ops.toList.zipIdx:=by grind
      have h3:=han (o,i) hm;have hei:e ≠ i:=by grind
      grind
     ·omega
    rcases l with ⟨hN,l⟩ | ⟨hN,q1,Y,q3⟩ | ⟨hN,hbd,q1,Y⟩ | ⟨hN,q1,Y,q3⟩
    rotate_left
    ·exact .inr (.inl ⟨hN,q1,rfl,q3⟩)
    ·simp only [effN,hN,sE,rC] at R;exact .inr (.inr (.inl ⟨hN,hbd,q1,(bstep_still R hbd Y).2 E⟩))
    ·exact .inr (.inr (.inr ⟨hN,q1,Y,rfl⟩))
    have hb:=hb hN;have R:isEff o.op=false:=by simp only [effN,hN,sE,rC] at R;exact R
    have h0:hs (i+1)=hs i:=AR.still R l;refine .inl ⟨hN,?_⟩;unfold AR at l ⊢;split at l
    ·rcases astep_still (P:=P) (env:=fE ops vs S env ops.size) (h:=hs i) R with ⟨x,W⟩ | ⟨m,u,W⟩ | W
     ·rw [W (hs i) λ_=>rfl] at l;rw [W E hb];cases x with
      | none=>exact l.elim
      | some v'=>exact ⟨l.1,rfl⟩
     ·grind
     ·rcases W (hs i) with ⟨S,hS⟩ | hS <;> (rw [hS] at l;exact l.elim)
    ·grind
    ·omega
  obtain ⟨J,c,hH'⟩:=hAR3;have cnt:(List.range ops.size).countP (λj=>!(b.setIfInBounds i true).getD j false)<=z:=by
   have:=count_lt (p:=λj=>!(b.setIfInBounds i true).getD j false) (q:=λj=>!b.getD j false) (List.range ops.size)
    (λx _ E=>by grind)
    ⟨i,by grind,by simp [hSi],by simp [hS']⟩
   omega
  have cl':∀x y,(b.setIfInBounds i true).getD x false=true->((Region.before ops).getD x 0).testBit y=true->(b.setIfInBounds i true).getD y false=true:=λx y d I=>by
   rw [hS'] at d ⊢;simp only [tG,s7] at d ⊢;right;rcases d with rfl | d
   ·grind
   ·grind
  have go:∀(a':Act) (w':World),St B w0 g0 D (setd (fE ops vs S env ops.size) o.dst (vs i)) J a' w'->wpAnyIn (WF ro) n P .any ops Q z (b.setIfInBounds i true) a' w':=λa' w' hs' =>
   ih _ a' w' (by simp [N]) cnt cl' (by grind)
  unfold wpOpIn;simp only [C];have hst':=s;obtain ⟨g,hg,r,A,hD⟩:=hst';rcases c with ⟨_,c⟩ | ⟨X,q1,Y,q3⟩ | ⟨_,_,q1,Y⟩ | ⟨_,q1,Y,q3⟩
  rotate_left
  ·rw [vt A q1];simp only [ur];refine step_sound (K:=λv d=>v=vs i/\d=J) s ?_ ?_
   ·rcases q3 with ⟨f,args,q3,q4⟩ | q4
    ·rw [q3 E,Y];exact q4 E (hFx X)
    ·rw [q4 E (hFx X)];exact ⟨rfl,Y.symm⟩
   ·rintro v d u w' ⟨rfl,rfl⟩ ⟨g',k1,k2,k3,k4⟩
    exact go _ w' ⟨g',k1,k2,k3.setd o.dst k4,by rw [wL];exact hD⟩
  ·rw [vt A q1];simp only [ur];refine bstep_sound (K:=λv d=>v=vs i/\d=J) s (.inl ⟨_,Y,λp hp=>?_⟩) ?_
   ·grind
   ·rintro v d u w' ⟨rfl,rfl⟩ ⟨g',k1,k2,k3,k4⟩
    exact go _ w' ⟨g',k1,k2,k3.setd o.dst k4,by rw [wL];exact hD⟩
  ·rw [vt A q1];simp only [uk,uH];refine ⟨λ_ _=>trivial,go _ w ⟨g,hg,by grind,?_,by rw [wL];exact hD⟩⟩;rw [Y];exact A.setd o.dst V.ofUndef
  unfold AR at c;split at c
  ·rename_i hgd;rw [vt A hgd];simp only [ur];refine step_sound (K:=λv d=>v=vs i/\d=J) s ?_ ?_
   ·cases hst3:zt P o (fE ops vs S env ops.size) E with
    | ok v1 d=>rw [hst3] at c;exact ⟨c.1.symm,c.2.symm⟩
    | len m v1 d=>rw [hst3] at c;exact λ_=>⟨c.1.symm,c.2.symm⟩
    | call f args=>rw [hst3] at c;exact c
    | round id args=>rw [hst3] at c;exact c
    | any S=>rw [hst3] at c;exact c.elim
    | fail=>rw [hst3] at c;exact c
   ·rintro v d u w' ⟨rfl,rfl⟩ ⟨g',k1,k2,k3,k4⟩
    exact go _ w' ⟨g',k1,k2,k3.setd o.dst k4,by rw [wL];exact hD⟩
  ·rename_i hgd;rw [vt A hgd];simp only [uk,uH];refine ⟨λ_ _=>trivial,go _ w ⟨g,hg,by grind,?_,by rw [wL];exact hD⟩⟩;rw [c.1];exact A.setd o.dst V.ofUndef
  ·grind
end
end Go.Vv
namespace Go.Vv
open Go Go.RowKit Go.Lib
variable {p:Nat->Prop} {h:AH} {w:World}

theorem min_exists {p:Nat->Prop} (h:∃n,p n):∃m,p m/\∀k,p k->m<=k:=by
 obtain ⟨n,hn⟩:=h
 induction n using Nat.strongRecOn with
 | _ n ih =>
  grind
open Classical in
noncomputable def least (p:Nat->Prop):Nat:=if h:∃n,p n then Classical.choose (min_exists h) else 0
theorem least_spec (h:∃n,p n):p (least p):=by
 unfold least;rw [pU h];exact (sd (min_exists h)).1
theorem least_le {n:Nat} (h:p n):least p<=n:=by
 unfold least;rw [pU ⟨n,h⟩];exact (sd (min_exists ⟨n,h⟩)).2 n h

section
variable {P:Program} {B:Nat} {w0:World} {ro:Option Nat} {n:Nat} [GOk P B w0]

def Marks (gb g:Gh) (D:List Deferred):Prop:=∃cs:List Nat,D.map (·.target)=cs.map Target.collected/\cs.Nodup/\∀c ∈ cs,c ∈ g.δ/\c ∉ gb.δ
theorem Marks.mono {gb g g':Gh} {D:List Deferred} (h:Marks gb g D) (k:∀c,c ∈ g.δ->c ∈ g'.δ):Marks gb g' D:=by
 obtain ⟨cs,e,d,a⟩:=h;exact ⟨cs,e,d,λc b=>⟨k c (a c b).1,(a c b).2⟩⟩
theorem Marks.nil (gb g:Gh):Marks gb g []:=⟨[],rfl,List.nodup_nil,λ_ h=>by cases h⟩
def StM (B:Nat) (w0:World) (gb g0:Gh) (env:List AV) (h:AH) (a:Act) (w:World):Prop:=∃g,g0.le g/\Rel B w0 g h w/\VL g env a.tmps.toList/\Marks gb g a.defers/\gb.le g

def Gh.addD (g:Gh) (c:Nat):Gh:={ g with δ:=c::g.δ }
theorem Gh.le_addD (g:Gh) (c:Nat):g.le (g.addD c):=⟨λ_ _ _ e=>e,λ_ _ e=>e,λ_ t e=>⟨t,e,uh _,λ_=>rfl,rfl⟩,λ_ h=>tF _ h,λ_ _ h=>h,λ_ h=>h⟩
theorem Rel.addD {g:Gh} {h:AH} {w:World} (r:Rel B w0 g h w) {c:Nat} (v:B<=c) (y:w.heap[c]?=some (.deferred (some []))) (hs:∀i:Nat,g.σ[i]? ≠ some c) (o:g.N c=none) (f:¬ g.O c):Rel B w0 (g.addD c) h w :=
 ⟨r.below,r.bsz,r.phi,r.slen,λi x k d j=>by obtain ⟨t,q,u,s⟩:=r.blk i x k d j;exact ⟨t,q,u.mono (g.le_addD c) rfl,s⟩,r.tlen,r.tok,r.sinj,r.tinj,r.sep,λx d=>by
  rcases uQ.1 d with rfl | d
  ·exact ⟨v,y,hs⟩
  ·exact r.dfr x d,λi k hi j=>(r.row i k hi j).mono (g.le_addD c) (λ_ _ h _=>h) (λ_ _ _ _ _ _ _=>⟨rfl,λ_=>rfl⟩),r.rinj,λb x a=>(r.nb b x a).mono λ_ _ m=>⟨rfl,⟨m.1,λl=>(uQ.1 l).elim (λe=>by subst e;have a:g.N b=some x:=a;rw [o] at a;cases a) m.2.1,m.2.2⟩,λh=>h⟩,r.ob,λb a=>⟨(r.oa b a).1,λl=>(uQ.1 l).elim (λe=>f (e ▸ a)) (r.oa b a).2.1,(r.oa b a).2.2⟩⟩

theorem rangeFunc_sound {L:Operand} {T:Array Tmp} {assign body:Code} {gb g0:Gh} {QA:Exit->List AV->AH->Prop} {env:List AV} {a:Act} (u:ro=none)
  (y:vK P (.rangeFunc L T assign body) QA env h) (hs:StM B w0 gb g0 env h a w) {Q:Exit->Act->World->Prop} (hQ:∀x m K a' w',QA x m K->StM B w0 gb g0 m K a' w'->Q x a' w') :
  (Code.rangeFunc L T assign body).wpIn (WF ro) n P Q a w:=by
 subst u;obtain ⟨g,E,r,A,F,k⟩:=hs;obtain ⟨X,_,_,R,h2,D,y⟩:=y;obtain ⟨g2,z,r2,he2,H⟩:=D B w0 w w g g _ r (Gh.le.refl g) r A;replace E:=E.trans z;replace F:=F.mono H;replace k:=k.trans z;clear D H r A z;revert y E F k r2 he2;generalize R=env,h2=h,g2=g;intro y r A E F k;have hV:=V.ev A X;split at y
 ·rename_i f first S hx
  rw [hx] at hV;simp only [V] at hV;obtain ⟨fs,cs,hev,h1,h2⟩:=hV;refine wpIn_rangeFunc λfn hfn=>?_;have u:(WF none).round=none:=rfl;rw [u];obtain ⟨l,s⟩:∃l:LoopState->Option Code->Loop,l=λst C=>{ state:=st,pending:=C,fn,tmps:=a.tmps,params:=T,assign,body,defers:=w.heap.size }:=⟨_,rfl⟩
  have r1:=r.alloc0 (.deferred (some []));have hc1:(w.alloc (.deferred (some []))).heap[w.heap.size]?=some (.deferred (some [])):=World.alloc_heap_new w _;have hns:∀i:Nat,g.σ[i]? ≠ some w.heap.size:=λi hi=>by
   have hl:i < h.blks.length:=by rw [<- r.slen];exact (uc.1 hi).1
   have:=(r.blk i _ _ hi (ue hl)).2.1;omega
  have r2:=r1.addD (c:=w.heap.size) r.bsz hc1 hns (r.nnew (uh _)) (r.nold (uh _));have r3:=r2.newBlk (.loop (l .ready none)) (.loop .ready none env T assign body) ⟨fn,a.tmps,w.heap.size,by rw [s];exact World.alloc_heap_new _ _,A.mono ((g.le_addD _).trans (Gh.le_addS _ _))⟩;have W:(w.alloc (.deferred (some []))).heap.size=w.heap.size+1:=World.size_alloc ..;have N:((g.addD w.heap.size).addS (w.alloc (.deferred (some []))).heap.size).σ[h.blks.length]?=some (w.heap.size+1):=by
   rw [<- r.slen,W];simp [Gh.addS,Gh.addD]
  refine ⟨w.heap.size+1,[{ target:=.collected w.heap.size,args:=#[] }],(w.alloc (.deferred (some []))).alloc (.loop (l .ready none)),{ target:=.fn (.func f) cs,args:=fs++#[.func (.yield (w.heap.size+1)) #[] #[]] },(w.alloc (.deferred (some []))).alloc (.loop (l .ready none)),f,
   fs++#[.func (.yield (w.heap.size+1)) #[] #[]]++cs,(w.alloc (.deferred (some []))).alloc (.loop (l .ready none)),?_,?_,λ_ _=>trivial,?_,λh=>by simp [WF,Fence.wide] at h,?_⟩
  ·rw [s];exact run_enterLoop_outer _ _ _ _ _
  ·simp only [resolve,hev];simp [Deferred.ofValue,go_sem]
  ·simpa [invoke] using y.1 _ _
  ·have hvl:VL ((g.addD w.heap.size).addS (w.alloc (.deferred (some []))).heap.size) (first++[.yld h.blks.length]++S) (fs++#[Value.func (.yield (w.heap.size+1)) #[] #[]]++cs).toList:=by
    have d:=(g.le_addD w.heap.size).trans (Gh.le_addS _ (w.alloc (.deferred (some []))).heap.size);simp only [tK];refine VL.append (VL.append (h1.mono d) (VL.cons ?_ (by simp [VL]))) (h2.mono d);simp only [V]
    simp_all
   refine callsIn_of ((y.2 B w0 _ _ _ r3 hvl).mono ?_)
   rintro e w3 ⟨v,x,K,g',rfl,⟨st,C,m,M,J,G,hb,Y,U⟩,d,r',_⟩
   obtain ⟨_,hlt,⟨O,q,d',hl,_⟩,_⟩:=r'.blk _ _ _ (d.sig _ _ N) hb;have I:=run_endLoop (P:=P) hl Y;have r4:Rel B w0 g' (K.put h.blks.length .dead) (w3.putObj (w.heap.size+1) (.loop { state:=.exhausted,pending:=C,fn:=O,tmps:=q,params:=M,assign:=J,body:=G,defers:=d' })) :=
    r'.putObj (d.sig _ _ N) hb (by simp) rfl rfl rfl World.putObj_size (λb hb'=>World.putObj_heap_other hb') trivial
   have j:g.le g':=((g.le_addD _).trans (Gh.le_addS _ _)).trans d;have Z:Marks gb g' ({ target:=.collected w.heap.size,args:=#[] }::a.defers):=by
    obtain ⟨cs,k1,k2,k3⟩:=F;refine ⟨w.heap.size::cs,by simp [k1],r8.2 ⟨λt=>tW _ (r.dfr_lt (k3 _ t).1),k2⟩,λc t=>?_⟩;rcases uQ.1 t with rfl | t
    ·exact ⟨d.del _ (by simp [Gh.addS,Gh.addD]),λt=>tW _ (r.dfr_lt (k.del _ t))⟩
    ·exact ⟨j.del _ (k3 c t).1,(k3 c t).2⟩
   have o:StM B w0 gb g0 env (K.put h.blks.length .dead) { a with defers:={ target:=.collected w.heap.size,args:=#[] }::a.defers } (w3.putObj (w.heap.size+1) (.loop { state:=.exhausted,pending:=C,fn:=O,tmps:=q,params:=M,assign:=J,body:=G,defers:=d' })) :=
    ⟨g',E.trans j,r4,A.mono j,Z,k.trans j⟩
   refine ⟨C,_,I,?_⟩;cases C with
   | none=>exact hQ _ _ _ _ _ U o
   | some c =>
    cases c with
    | ret=>exact wpIn_ret (hQ _ _ _ _ _ U o)
    | exit i=>exact wpIn_exit (hQ _ _ _ _ _ U o)
    | _=>exact U.elim
 ·simp_all

theorem awp_sound:∀(c:Code) {gb g0:Gh} {QA:Exit->List AV->AH->Prop} {env:List AV} {h:AH} {a:Act} {w:World},(ro=none \/ noRF c=true)->vK P c QA env h->StM B w0 gb g0 env h a w->∀{Q:Exit->Act->World->Prop},
  (∀x l L a' w',QA x l L->StM B w0 gb g0 l L a' w'->Q x a' w')->c.wpIn (WF ro) n P Q a w
 | .skip,_,_,_,_,_,_,_,_,d,hs,_,hQ=>wpIn_skip (hQ _ _ _ _ _ d hs)
 | .label _,_,_,_,_,_,_,_,_,d,hs,_,hQ=>wpIn_label (hQ _ _ _ _ _ d hs)
 | .exit _,_,_,_,_,_,_,_,_,d,hs,_,hQ=>wpIn_exit (hQ _ _ _ _ _ d hs)
 | .ret,_,_,_,_,_,_,_,_,d,hs,_,hQ=>wpIn_ret (hQ _ _ _ _ _ d hs)
 | .region id ops draw,gb,g0,QA,env,h,a,w,_,d,hs,Q,hQ=>by
  obtain ⟨g,N,r,O,H,s⟩:=hs;have v:∀l L a' w',St B w0 g a.defers l L a' w'->StM B w0 gb g0 l L a' w':=λl L a' w' ⟨g',W,k2,k3,k4⟩=>⟨g',N.trans W,k2,k3,by rw [k4];exact H.mono W.del,s.trans W⟩
  have hs:St B w0 g a.defers env h a w:=⟨g,Gh.le.refl g,r,O,rfl⟩
  cases draw with
  | false =>
   have h1:=ops_sound (ro:=ro) (n:=n) (Q:=Q) (λenv h a w E J=>hQ .normal env h a w E (v _ _ _ _ J)) ops.toList 0 env h a w rfl d hs;refine wpIn_region ?_;rw [List.range_eq_range'];omega
  | true =>
   obtain ⟨Ns,F,⟨H,hok⟩,hFh,d⟩ | ⟨H,d⟩:=d
   rotate_left
   ·obtain ⟨g,W,k2,k3,k4⟩:=hs;exact wpIn_region_any H (any_sound (λenv h a w E J=>hQ .normal env h a w E (v _ _ _ _ J)) _ _ _ _ _ _ d ⟨g,W,k2.drew,k3,k4⟩)
   obtain ⟨vs,t,h0,h1,h2⟩:=draw_seq ops.toList 0 env h rfl (tz _) d;have hT:(λw:Nat=>decide (0<=w))=λ_=>true:=by rfl
   rw [hT] at h1 h2;refine wpIn_region_any H (draw_sound (D:=a.defers) (g0:=g) hok (vs:=vs) (hs:=t) (env:=env) (by simp_all) (λi o ho=>h1 i o (tz _) ho) (λa w J=>hQ .normal _ _ _ _ h2 (v _ _ _ _ J)) ops.size _ a _ (by simp) ?_ (λi j hi=>?_) ?_)
   ·exact uJ List.countP_le_length (by simp)
   ·exfalso;rw [uX] at hi
    grind
   ·have hF:∀w,(Array.replicate ops.size false).getD w false=false:=λw=>by
     rw [uX]
     grind
    rw [fE_none _ λw _=>hF w];have hH:fH ops Ns t (λi=>(Array.replicate ops.size false).getD i false) ops.size=h:=by
     have:∀k,fH ops Ns t (λi=>(Array.replicate ops.size false).getD i false) k=h:=λk=>by
      induction k with
      | zero=>exact h0
      | succ k ih=>rw [fH,hF,rk];exact ih
     simp_all
    rw [hH];obtain ⟨g,W,k2,k3,k4⟩:=hs;exact ⟨g,W,k2.drew,k3,k4⟩
 | .seq x y,gb,g0,QA,env,h,a,w,hr,d,hs,Q,hQ=>by
  have U:ro=none \/ noRF x=true:=hr.imp id λh=>by simp only [noRF,ud] at h;exact h.1
  have S:ro=none \/ noRF y=true:=hr.imp id λh=>by simp only [noRF,ud] at h;exact h.2
  obtain ⟨g,N,r,O,H,s⟩:=hs;refine wpIn_seq (awp_sound (gb:=gb) (g0:=g) x U d ⟨g,Gh.le.refl g,r,O,H,s⟩ λe l L a' w' E t=>?_);obtain ⟨g1,C,Z,A,G,K⟩:=t;cases e with
  | normal =>
   obtain ⟨env2,h2,T,E⟩:=E;obtain ⟨X,q,Y,z,u⟩:=T B w0 w' w g g1 _ r C Z A;exact awp_sound (gb:=gb) (g0:=g0) y S E ⟨X,N.trans q,Y,z,G.mono u,s.trans q⟩ hQ
  | _=>exact hQ _ _ _ _ _ E ⟨g1,N.trans C,Z,A,G,K⟩
 | .cond c x y,gb,g0,QA,env,h,a,w,hr,d,hs,Q,hQ=>by
  have U:ro=none \/ noRF x=true:=hr.imp id λh=>by simp only [noRF,ud] at h;exact h.1
  have S:ro=none \/ noRF y=true:=hr.imp id λh=>by simp only [noRF,ud] at h;exact h.2
  obtain ⟨hc,d⟩:=d;have t:=hs;obtain ⟨g,N,r,O,H,s⟩:=t;have hV:=V.ev O hc;split at d
  ·rename_i b hb;rw [hb] at hV;simp only [V] at hV;refine wpIn_cond hV ?_;cases b with
   | true=>exact awp_sound x U d hs hQ
   | false=>exact awp_sound y S d hs hQ
  ·simp_all
 | .block id body,gb,g0,QA,env,h,a,w,hr,d,hs,Q,hQ=>by
  refine wpIn_block (awp_sound body (hr.imp (λh=>h) λh=>h) d hs λe l L a' w' E t=>?_);cases e with
  | exit id' =>
   simp only [Exit.inBlock]
   grind
  | _=>exact hQ _ _ _ _ _ E t
 | .loop body,gb,g0,QA,env,h,a,w,hr,d,hs,Q,hQ=>by
  have hrb:ro=none \/ noRF body=true:=hr.imp id λh=>h;obtain ⟨I,⟨m0,env0,h0,hk0,hI⟩,M⟩:=d;obtain ⟨ge,hge,re,O,H,s⟩:=hs;have hgb0:=s
  let p:Act->World->Nat->Prop:=λa w m=>∃env h,I m env h/\StM B w0 gb ge env h a w
  obtain ⟨X,q,Y,z,u⟩:=hk0 B w0 w w ge ge _ re (Gh.le.refl ge) re O;refine wpIn_loop (λa w=>∃m,p a w m) (λa w=>least (p a w)) ⟨_,env0,h0,hI,X,q,Y,z,H.mono u,s.trans q⟩ λa w1 hI'=>?_;obtain ⟨l,L,hI2,hs2⟩:=least_spec hI';obtain ⟨g,N,r,O,H,s⟩:=hs2;refine awp_sound (gb:=gb) (g0:=g) body hrb (M _ l L hI2) ⟨g,Gh.le.refl g,r,O,H,s⟩ λe env2 h2 a2 w2 E hs3=>?_;obtain ⟨g1,C,Z,A,G,K⟩:=hs3;cases e with
  | normal =>
   obtain ⟨m,R,h3,hlt,T,hI3⟩:=E;have hp:p a2 w2 m:=by
    rcases T with T | T
    ·obtain ⟨X,q,Y,z,u⟩:=T B w0 w2 w1 g g1 _ r C Z A;exact ⟨R,h3,hI3,X,N.trans q,Y,z,G.mono u,s.trans q⟩
    ·obtain ⟨X,q,Y,z,u⟩:=T B w0 w2 w ge g1 _ re (N.trans C) Z A;exact ⟨R,h3,hI3,X,q,Y,z,G.mono u,hgb0.trans q⟩
   exact ⟨⟨_,hp⟩,Nat.lt_of_le_of_lt (least_le hp) hlt⟩
  | _=>exact hQ _ _ _ _ _ E ⟨g1,hge.trans (N.trans C),Z,A,G,K⟩
 | .rangeFunc f ps assign body,gb,g0,QA,env,h,a,w,hr,d,hs,Q,hQ=>rangeFunc_sound (hr.elim id λh=>by cases h) d hs hQ
 | .scope _,_,_,_,_,_,_,_,_,d,_,_,_=>d.elim
 | .goto _,_,_,_,_,_,_,_,_,d,_,_,_=>d.elim
 | .refuse _,_,_,_,_,_,_,_,_,d,_,_,_=>d.elim
end

mutual
def AV.pl:AV->Bool
 | .sl _ es=>plE es
 | .bsl _ _ | .nsl _ _ | .gsl _ _=>false
 | _=>true
def plL:List AV->Bool
 | []=>true
 | a::r=>a.pl&&plL r
def plE:List (List AV)->Bool
 | []=>true
 | e::r=>plL e&&plE r
end
theorem plE_map {α:Type} {row:α->List AV} (h:∀x,plL (row x)=true):∀L:List α,plE (L.map row)=true
 | []=>rfl
 | x::r=>by simp [plE,h x,plE_map h r]
mutual
theorem V.plain {g g':Gh} (d:∀b j v,g.Φ b j=some v->g'.Φ b j=some v):∀(a:AV) (v:Value),a.pure=true->a.pl=true->V g a v->V g' a v
 | .bool _,_,_,_,hv=>by simpa only [V] using hv
 | .int _ _,_,_,_,hv=>by simpa only [V] using hv
 | .str _,_,_,_,hv=>by simpa only [V] using hv
 | .nilp,_,_,_,hv=>by simpa only [V] using hv
 | .nilm,_,_,_,hv=>by simpa only [V] using hv
 | .nilf,_,_,_,hv=>by simpa only [V] using hv
 | .nili,_,_,_,hv=>by simpa only [V] using hv
 | .sl k es,_,_,hl,hv=>by
  simp only [V] at hv ⊢;simp only [AV.pl] at hl;obtain ⟨a,c,e,i,l,m⟩:=hv;exact ⟨a,c,e,i,l,m.imp id λ⟨b,o,e,hh⟩=>⟨b,o,e,VE.plain d b k o es hl hh⟩⟩
 | .fn f [] [],_,_,_,hv=>by
  simp only [V,VL] at hv ⊢;exact hv
theorem VC.plain {g g':Gh} (d:∀b j v,g.Φ b j=some v->g'.Φ b j=some v) (b:Nat):∀(o:Nat) (a5:List AV),plL a5=true->VC g b o a5->VC g' b o a5
 | _,[],_,_=>by simp only [VC]
 | o,a::r,hl,hv=>by
  simp only [VC] at hv ⊢;simp only [plL,ud] at hl;obtain ⟨⟨v,h0,i,l⟩,m⟩:=hv;exact ⟨⟨v,d _ _ _ h0,i,V.plain d a v i hl.1 l⟩,VC.plain d b (o+1) r hl.2 m⟩
theorem VE.plain {g g':Gh} (d:∀b j v,g.Φ b j=some v->g'.Φ b j=some v) (b k:Nat):∀(o:Nat) (a5:List (List AV)),plE a5=true->VE g b k o a5->VE g' b k o a5
 | _,[],_,_=>by simp only [VE]
 | o,e::r,hl,hv=>by
  simp only [VE] at hv ⊢;simp only [plE,ud] at hl;obtain ⟨⟨h0,i⟩,l⟩:=hv;exact ⟨⟨h0,VC.plain d b o e hl.1 i⟩,VE.plain d b k (o+k) r hl.2 l⟩
end
theorem VA.pl {g g':Gh} (c:∀b j v,g.Φ b j=some v->g'.Φ b j=some v):∀{a5:List AV} {vs:List Value},a5.all AV.pure=true->plL a5=true->VA g a5 vs->VA g' a5 vs
 | [],_,_,_,hv=>by simpa only [VA] using hv
 | a::r,_,hp,hl,hv=>by
  simp only [VA] at hv ⊢;simp only [plL,ud] at hl;simp only [tI,ud] at hp;obtain ⟨v,s,e,⟨h0,f⟩,d⟩:=hv;exact ⟨v,s,e,⟨h0,V.plain c a v hp.1 hl.1 f⟩,VA.pl c hp.2 hl.2 d⟩

def qU (P:Program) (env:List AV) (h:AH):List ResultVar->Option (List AV)
 | []=>some []
 | .tmp t::r=>match qU P env h r with
  | some vs=>some (env.getD t aundef::vs)
  | none=>none
 | .cell a t::r=>match P.underlying t,P.info? t with
  | some d,some i=>match qZ h (yp d) i.size (env.getD a aundef),qU P env h r with
   | some v,some vs=>some (tyfix P t v::vs)
   | _,_=>none
  | _,_=>none
def aRes (P:Program) (fn:Func) (env:List AV) (h:AH):Option AV :=
 match qU P env h fn.results.toList with
 | some [v]=>some v
 | some vs=>some (.tup vs)
 | none=>none

def leV (a b:AV):Prop:=∀g v,V g a v->V g b v
theorem leV.refl (a:AV):leV a a:=λ_ _ h=>h
def finK (h0:AH) (K:AV->AH->Prop) (r0:AV) (h:AH):Prop:=∃r h',wk h0 [r0] h [r] h'/\K r h'
def bodyQ (P:Program) (fn:Func) (h0:AH) (K:AV->AH->Prop) (x:Exit) (env:List AV) (h:AH):Prop :=
 match x with
 | .normal | .ret=>match aRes P fn env h with
  | some r=>finK h0 K r h
  | none=>False
 | _=>False

section
variable {P:Program}
def resF (tmps:Array Value):ResultVar->Sem Value
 | .tmp t=>pure (tmps.getD t undef)
 | .cell a t=>do loadVar t (<- asAddr (tmps.getD a undef))
theorem results_eq (fn:Func) (tmps:Array Value):results fn tmps=(do let vs <- fn.results.mapM (resF tmps);pure (if h:vs.size=1 then vs[0] else .tuple vs)):=by
 rfl
theorem resL_sound {B:Nat} {w0 w:World} {g:Gh} {h:AH} (r:Rel B w0 g h w) {env:List AV} {tmps:Array Value} (e:VL g env tmps.toList):∀{c:List ResultVar} {vs:List AV},qU P env h c=some vs ->
  ∃us,(c.mapM (resF tmps)).run P w=.ok us w/\VL g vs us
 | [],vs,h=>by simp only [qU,ui] at h;subst h;exact ⟨[],by simp,by simp [VL]⟩
 | .tmp t::c,vs,h=>by
  simp only [qU] at h;split at h
  ·rename_i k j;cases h;obtain ⟨us,l,f⟩:=resL_sound r e j;refine ⟨tmps.getD t undef::us,by simp only [rm,Sem.run_bind,resF,Sem.run_pure,Result.andThen_ok,l],VL.cons ?_ f⟩;exact V.ev (a:={ tmps:=tmps,defers:=[] }) e (x:=.tmp t) rfl
  ·cases h
 | .cell ad t::c,vs,h=>by
  simp only [qU] at h;split at h
  ·rename_i d i hd hi;split at h
   ·rename_i v k s j;cases h;obtain ⟨us,l,f⟩:=resL_sound r e j;have q:=V.ev (a:={ tmps:=tmps,defers:=[] }) e (x:=.tmp ad) rfl;obtain ⟨u,b,m⟩:=load_sound r hd hi q s;refine ⟨u::us,?_,VL.cons m.tyfix f⟩;have o:(do loadVar t (<- asAddr (tmps.getD ad undef)):Sem Value).run P w=.ok u w:=by
     have y:Act.eval { tmps:=tmps,defers:=[] } (.tmp ad)=tmps.getD ad undef:=rfl;rw [y] at b;generalize tmps.getD ad undef=pv at b ⊢;cases pv with
     | pointer x =>
      cases x with
      | none=>simp [Instr.loadAt,Instr.sureAddr] at b
      | some x=>simpa [Instr.loadAt,Instr.sureAddr,asAddr] using b
     | _=>simp [Instr.loadAt,Instr.sureAddr] at b
    have z:(resF tmps (.cell ad t)).run P w=.ok u w:=o
    simp_all
   ·cases h
  ·cases h

theorem res_sound {B:Nat} {w0:World} {g:Gh} (r:Rel B w0 g h w) {env:List AV} {tmps:Array Value} (i:VL g env tmps.toList) {fn:Func} {v:AV} (c:aRes P fn env h=some v) :
  ∃u,(results fn tmps).run P w=.ok u w/\V g v u:=by
 unfold aRes at c;have key:∀vs,qU P env h fn.results.toList=some vs->∃us:List Value,(results fn tmps).run P w=.ok (if h:us.length=1 then us[0] else .tuple us.toArray) w/\VL g vs us:=by
  intro vs a;obtain ⟨us,e,b⟩:=resL_sound r i a;refine ⟨us,?_,b⟩;rw [results_eq,Array.mapM_eq_mapM_toList]
  simp_all
 split at c
 ·rename_i v' a;cases c;obtain ⟨us,e,b⟩:=key _ a;simp only [VL] at b
  grind
 ·rename_i vs f a;cases c;obtain ⟨us,e,b⟩:=key _ a;have d:us.length ≠ 1:=by
   intro d;rw [<- b.length] at d;rcases vs with _ | ⟨x,_ | ⟨y,r⟩⟩ <;> simp at d
   simp_all
  refine ⟨.tuple us.toArray,by simp_all,?_⟩;simp only [V];exact ⟨_,rfl,b⟩
 ·cases c

theorem VL.undefs {g:Gh}:∀k,VL g (List.replicate k aundef) (List.replicate k undef)
 | 0=>by simp [VL]
 | k+1=>by simp only [sW];exact VL.cons V.ofUndef (VL.undefs k)

theorem Rel.shut {B:Nat} {w0:World} {g:Gh} (r:Rel B w0 g h w) {c:Nat} (M:c ∈ g.δ):Rel B w0 { g with δ:=g.δ.filter (· != c) } h (w.putObj c (.deferred none)):=by
 have hd:=r.dfr c M;have f:∀b,b ≠ c->(w.putObj c (.deferred none)).heap[b]?=w.heap[b]?:=λb q=>World.putObj_heap_other q;have X:g.le { g with δ:=g.δ }:=Gh.le.refl g;refine ⟨⟨r.below.os,r.below.tape,r.below.output,by simpa using r.below.size,λb q=>(f b (by omega)).trans (r.below.block b q)⟩,by simpa using r.bsz,λb j v e=>?_,r.slen,λi x k F H=>?_,r.tlen,λi t O=>?_,r.sinj,r.tinj,r.sep,λx F=>?_,λi k hi H=>?_,r.rinj,
  λb x q=>(r.nb b x q).mono λ_ _ G=>⟨f b (by rintro rfl;exact G.2.1 M),⟨G.1,λJ=>G.2.1 (tO.1 J).1,G.2.2⟩,λh=>h⟩,λb q=>⟨by simpa using (r.ob b q).1,(r.ob b q).2⟩,λb q=>⟨(r.oa b q).1,λJ=>(r.oa b q).2.1 (tO.1 J).1,(r.oa b q).2.2⟩⟩
 ·have y:b ≠ c:=by
   rintro rfl
   have:=r.phi b j v e;unfold World.cell? at this
   simp_all
  exact (World.cell?_of_block (w:=w) (a:=⟨b,j,none⟩) (f b y)).trans (r.phi b j v e)
 ·obtain ⟨D,E,z,I⟩:=r.blk i x k F H;refine ⟨D,by simp_all,?_,I⟩;have y:x ≠ c:=by grind
  have A:=f x y;cases k with
  | cells cs=>obtain ⟨vs,t,u,k2⟩:=z;exact ⟨vs,t,A.trans u,VA.dd k2⟩
  | bld T x=>obtain ⟨a,v,u,k2,C,K⟩:=z;exact ⟨a,v,A.trans u,k2,C,V.monoV (g.lv_dd _) _ _ K⟩
  | siter s pos=>exact A.trans z
  | mapo es clock=>obtain ⟨ents,n,u,k2,C⟩:=z;exact ⟨ents,n,A.trans u,ME.dd k2,C⟩
  | loop st pe env ps assign body=>obtain ⟨fn,tmps,d,u,k2⟩:=z;exact ⟨fn,tmps,d,A.trans u,VL.dd k2⟩
  | row _ _ _=>exact z
  | miter id n seen=>obtain ⟨m,u,k2⟩:=z;exact ⟨m,u,A.trans k2⟩
  | miter0=>exact A.trans z
  | other=>trivial
  | dead=>trivial
 ·obtain ⟨D,E⟩:=r.tok i t O;refine ⟨D,λb l e S=>?_⟩;have lo:=E b l e S;refine lo.mono (by simp) (f b ?_) λ_ _=>rfl
  rintro rfl
  obtain ⟨cs,ty,U,_⟩:=lo.cells
  simp_all
 ·simp only [tO,bne_iff_ne,ne_eq] at F;have N:=r.dfr x F.1
  simp_all
 ·have L:=r.row i k hi H;cases k with
  | row i2 k2 e2 =>
   obtain ⟨t,D,E,z,I,Q,W⟩:=L;refine ⟨t,D,E,z,I,Q,W.imp (λh=>h) ?_⟩
   rintro ⟨b,o,e,cs,ty,u,k2,C,K,R⟩
   have y:b ≠ c:=by grind
   exact ⟨b,o,e,cs,ty,u,(f b y).trans k2,VA.dd C,K,R⟩
  | dead=>trivial
  | _=>exact L.elim

theorem leaves_marks {B:Nat} {w0:World} {g0:Gh} {h:AH} {env:List AV} {fn:Func} {tmps:Array Value} {R:Ending->World->Prop}:∀(D:List Deferred) (cs:List Nat) (w:World) {g:Gh},D.map (·.target)=cs.map Target.collected->cs.Nodup ->
  (∀(a:World) (b:Gh),g0.le b->Rel B w0 b h a->VL b env tmps.toList->∃v,(results fn tmps).run P a=.ok v a/\R (.returned v) a) ->
  g0.le g->Rel B w0 g h w->VL g env tmps.toList->(∀c ∈ cs,c ∈ g.δ)->(∀c ∈ cs,c ∉ g0.δ)->LeavesInM (WF none) 0 P fn tmps R D .returning w
 | [],cs,w,g,e,_,hfin,hg,r,he,_,_=>hfin w g hg r he
 | d::D,cs,w,g,e,hnd,hfin,hg,r,he,h1,h2=>by
  cases cs with
  | nil=>simp at e
  | cons c cs =>
   simp only [uz,r7] at e;obtain ⟨hd,e⟩:=e;have i:=h1 c (by simp);refine ⟨by simp,.inl ⟨c,_,hd,run_takeDeferred (r.dfr c i).2.1,?_⟩⟩;refine leaves_marks D cs _ (g:={ g with δ:=g.δ.filter (· != c) }) e (r8.1 hnd).2 hfin ⟨hg.phi,hg.sig,hg.tau,λx f=>?_,hg.new,hg.old⟩ (r.shut i) (VL.dd he) (λx f=>?_) λx f=>h2 x (by simp [f])
   ·simp only [tO,bne_iff_ne,ne_eq];exact ⟨hg.del x f,by grind⟩
   ·grind

theorem spec_of_body {f : FuncId} {fn : Func} {c : Code} (hf : P.funcs[f]? = some fn) (hb : fn.body = some c) (hname : (fn.name == "runtime.NumGoroutine") = false) {args : List AV} {h : AH} {K : AV → AH → Prop}
  (hw:vK P c (bodyQ P fn h K) (args++List.replicate (fn.ntmps - args.length) aundef) h):Spec P f args h K:=by
 have hn : ¬ fn.name = "runtime.NumGoroutine" := by simp_all
 refine ⟨λvs w=>by simp [callFunc,hf,hb,hn],λB w0 _ g w vs r hv=>?_⟩;refine callsIn_wide.1 (callsIn_of_wp_marks (F:=WF none) (n:=0) hf hb trivial ?_ rfl);have hlen:args.length=vs.size:=by rw [hv.length];rfl
 refine awp_sound (B:=B) (w0:=w0) (gb:=g) (g0:=g) c (.inl rfl) hw ⟨g,Gh.le.refl g,r,?_,Marks.nil _ _,Gh.le.refl g⟩ λx env' h' a' w' hq hs=>?_
 ·simp only [tK,Array.toList_replicate,hlen];exact VL.append hv (VL.undefs _)
 ·obtain ⟨g',hg,r',he,hm,_⟩:=hs;have fin:(match aRes P fn env' h' with | some r=>finK h K r h' | none=>False) ->
    LeavesInM (WF none) 0 P fn a'.tmps (λe w''=>∃v' r h2 g2,e=.returned v'/\K r h2/\g.le g2/\Rel B w0 g2 h2 w''/\V g2 r v') a'.defers .returning w':=by
   intro hfin;split at hfin
   ·rename_i rv hr;obtain ⟨cs,hD,hnd,hcs⟩:=hm;refine leaves_marks a'.defers cs w' hD hnd ?_ hg r' he (λc hc=>(hcs c hc).1) (λc hc=>(hcs c hc).2);intro w'' g'' hg'' r'' he'';obtain ⟨u,h1,h2⟩:=res_sound r'' he'' hr;refine ⟨u,h1,u,?_⟩;obtain ⟨rv,h2',hwk,hK⟩:=hfin;obtain ⟨g2,k1,k2,k3,_⟩:=hwk B w0 w'' w g g'' [u] r hg'' r'' (VL.cons h2 (by simp [VL]));simp only [VL] at k3
    grind
   ·simp_all
  cases x with
  | normal=>exact fin hq
  | ret=>exact fin hq
  | _=>exact hq.elim
end
end Go.Vv
namespace Go.Vv
open Go
variable {a b v:AV} {r args:List AV} {f:FuncId} {h':AH}

def leL (a5 bs:List AV):Prop:=∀g vs,VL g a5 vs->VL g bs vs
theorem leV.any (a:AV):leV a .any:=λ_ _ _=>by simp only [V]
theorem leV.nil (k:Nat):leV .nilsl (.sl k []):=λ_ v h=>by
 simp only [V] at h ⊢
 grind
theorem leV.osl (o:Option Nat) (k:Nat) (es:List (List AV)):leV (.osl o k es) (.sl k es):=λ_ v h=>by
 simp only [V] at h ⊢
 grind
theorem leL.nil:leL [] []:=λ_ _ h=>h
theorem leL.refl (a5:List AV):leL a5 a5:=λ_ _ h=>h
theorem leL.cons {s:List AV} (h:leV a b) (k:leL r s):leL (a::r) (b::s):=λg vs c=>by
 simp only [VL] at c ⊢;obtain ⟨v,t,e,i,d⟩:=c;exact ⟨v,t,e,h _ _ i,k _ _ d⟩
theorem leL.eq {s:List AV} (k:leL r s):leL (a::r) (a::s):=leL.cons (leV.refl a) k
theorem leL.drop {s:List AV} (k:leL r s):leL (a::r) (.any::s):=leL.cons (leV.any a) k
theorem leL.d4 {c d:AV} {s:List AV} (k:leL r s):leL (a::b::c::d::r) (.any::.any::.any::.any::s):=.drop (.drop (.drop (.drop k)))
theorem leL.d16 {c d e f g h i j l m n o p q:AV} {s:List AV} (k:leL r s):leL (a::b::c::d::e::f::g::h::i::j::l::m::n::o::p::q::r) (.any::.any::.any::.any::.any::.any::.any::.any::.any::.any::.any::.any::.any::.any::.any::.any::s):=.d4 (.d4 (.d4 (.d4 k)))

theorem wk.refl (hd:AH) (env:List AV) (h:AH):wk hd env h env h:=λ_ _ _ _ _ g _ _ d r c=>⟨g,d,r,c,λ_ h=>h⟩
theorem wk.le {hd:AH} {env env':List AV} {h:AH} (k:leL env env'):wk hd env h env' h:=λ_ _ _ _ _ g _ _ d r c=>⟨g,d,r,k _ _ c,λ_ h=>h⟩
theorem wk.cut {hd:AH} {env:List AV} {h:AH} (l:zD hd.blks.length hd.toks.length env=true)
  (q:∀(i:Nat) (k:Blk),i < hd.blks.length->h.blks[i]?=some k->hd.blks[i]?=some k \/ k.low hd.blks.length hd.toks.length=true) :
  wk hd env h env (h.cut hd.blks.length hd.toks.length):=λ_ _ _ _ j g _ c p r m=>⟨g.cut hd.blks.length hd.toks.length,by rw [<- c.slen,<- c.tlen];exact Gh.le_cut p,
   r.cut _ _ (λi k hi e=>by
    rcases q i k hi e with d | d
    ·have n:i < j.σ.length:=by rw [c.slen];exact hi
     have:=c.isLow d;rw [c.slen,c.tlen] at this;exact this
    ·exact d),VL.cut _ _ l m,λ_ h=>h⟩
theorem wk.trans {hd:AH} {env env' c:List AV} {h e:AH} (a:wk hd env h env' h') (b:wk hd env' h' c e):wk hd env h c e:=λB w0 w d j g vs i l r n=>by
 obtain ⟨g',k,k2,m,u⟩:=a B w0 w d j g vs i l r n;obtain ⟨t,p,x,q,s⟩:=b B w0 w d j g' vs i k k2 m
 grind

def cvo:Value->Option AV
 | .bool b=>some (.bool b)
 | .int k n=>some (.int k n)
 | .string s=>if s.size<=maxLen then some (.str s.data.toList) else none
 | .pointer none=>some .nilp
 | .slice none 0 0=>some .nilsl
 | .map none=>some .nilm
 | .nilFunc=>some .nilf
 | .nilIface=>some .nili
 | _=>none
def yx (env:List AV):Operand->Option AV
 | .tmp t=>env[t]?
 | .const (.agg cs)=>if okc (.agg cs) then some (cv (.agg cs)) else none
 | .const v=>cvo v
 | .global g=>some (.glob g)
 | .func f=>some (.fn (.func f) [] [])
theorem zM {env:List AV} {x:Operand} (h:yx env x=some v):yr x=true/\ev env x=v:=by
 cases x with
 | tmp t =>
  simp only [yx] at h;refine ⟨rfl,?_⟩;simp only [ev]
  simp_all
 | const c =>
  cases c with
  | agg cs =>
   simp only [yx] at h;split at h
   ·rename_i d;cases h;exact ⟨d,rfl⟩
   ·cases h
  | string s =>
   simp only [yx,cvo] at h;split at h
   ·rename_i d;cases h;exact ⟨by simpa [yr,okc,okc1] using d,rfl⟩
   ·cases h
  | slice a b c =>
   simp only [yx] at h;unfold cvo at h;split at h <;> first | cases h | skip
   all_goals first | (cases h;exact ⟨rfl,rfl⟩) | skip
   all_goals simp_all [yr,okc,okc1,ev,cv,cv1]
  | pointer a =>
   cases a with
   | none=>simp only [yx,cvo] at h;cases h;exact ⟨rfl,rfl⟩
   | some a=>simp only [yx,cvo] at h;cases h
  | map a =>
   cases a with
   | none=>simp only [yx,cvo] at h;cases h;exact ⟨rfl,rfl⟩
   | some a=>simp only [yx,cvo] at h;cases h
  | _=>simp only [yx,cvo] at h;first | (cases h;exact ⟨rfl,rfl⟩) | cases h
 | global g=>simp only [yx] at h;cases h;exact ⟨rfl,rfl⟩
 | func f=>simp only [yx] at h;cases h;exact ⟨rfl,rfl⟩

@[irreducible] def gv (b:Bool) (v:AV):AV:=if b then v else aundef
theorem gv_true (v:AV):gv true v=v:=by simp [gv]
theorem gv_false (v:AV):gv false v=aundef:=by simp [gv]

def ww (d:Option Tmp) (env:List AV) (v:AV):Option (List AV) :=
 match d with
 | some d=>some (env.set d v)
 | none=>some env
theorem xI {d:Option Tmp} {env env':List AV} (h:ww d env v=some env'):setd env d v=env':=by
 cases d <;> simp only [ww,ui] at h <;> exact h

section
variable {P:Program} {ops:Array Oper} {Q:List AV->AH->Prop} {o:Oper} {rest:List Oper} {env env':List AV} {h:AH}

theorem zO (hk:Q env h):zK P ops Q [] env h:=hk
theorem zc (e:aG ops o env=some true) (d:zt P o env h=.ok v h') (hd:ww o.dst env v=some env') (c:zK P ops Q rest env' h'):zK P ops Q (o::rest) env h:=by
 refine qu ?_;simp only [e,gwp,d,rwp,xI hd];exact c
theorem ops_len {n:Nat} (e:aG ops o env=some true) (d:zt P o env h=.len n v h') (hd:ww o.dst env v=some env') (c:n<=maxLen->zK P ops Q rest env' h'):zK P ops Q (o::rest) env h:=by
 refine qu ?_;simp only [e,gwp,d,rwp,xI hd];exact c
theorem ops_call {K:AV->AH->Prop} (e:aG ops o env=some true) (d:zt P o env h=.call f args) (hs:Spec P f args h K)
  (c:∀v h',K v h'->zK P ops Q rest (setd env o.dst v) h'):zK P ops Q (o::rest) env h:=by
 refine qu ?_;simp only [e,gwp,d,rwp];exact hs.mono c
theorem ops_skip (c:aG ops o env=some false) (hd:ww o.dst env aundef=some env') (d:zK P ops Q rest env' h):zK P ops Q (o::rest) env h:=by
 refine qu ?_;simp only [c,gwp,xI hd];exact d
theorem vd {b:Bool} (d:aG ops o env=some b) (e:b=true->zt P o env h=.ok v h) (hd:ww o.dst env (gv b v)=some env') (c:zK P ops Q rest env' h):zK P ops Q (o::rest) env h:=by
 cases b with
 | true=>rw [gv_true] at hd;exact zc d (e rfl) hd c
 | false=>rw [gv_false] at hd;exact ops_skip d hd c
theorem ops_glen {b:Bool} {n:Nat} (d:aG ops o env=some b) (e:b=true->zt P o env h=.len n v h) (hd:ww o.dst env (gv b v)=some env') (c:(b=true->n<=maxLen)->zK P ops Q rest env' h):zK P ops Q (o::rest) env h:=by
 cases b with
 | true=>rw [gv_true] at hd;exact ops_len d (e rfl) hd λi=>c λ_=>i
 | false=>rw [gv_false] at hd;exact ops_skip d hd (c λg=>by cases g)
theorem zL {b:Bool} (d:aG ops o env=some b) (g:b=true->zt P o env h=.call f args) (hs:b=true->Spec P f args h λr h'=>r=v/\h'=h)
  (hd:ww o.dst env (gv b v)=some env') (c:zK P ops Q rest env' h):zK P ops Q (o::rest) env h:=by
 cases b with
 | true=>exact ops_call d (g rfl) (hs rfl) λr h' ⟨e,i⟩=>by subst e;subst i;rw [gv_true] at hd;rw [xI hd];exact c
 | false=>rw [gv_false] at hd;exact ops_skip d hd c
end
theorem yg {P:Program} {ops:Array Oper} {Q:List AV->AH->Prop} {o:Oper} {rest:List Oper} {env env':List AV} {h:AH} (g:aG ops o env=some true) (e:zt P o env h=.call f args) (hs:Spec P f args h λr h'=>r=v/\h'=h)
  (hd:ww o.dst env v=some env') (c:zK P ops Q rest env' h):zK P ops Q (o::rest) env h :=
 ops_call g e hs λr h' ⟨d,i⟩=>by subst d;subst i;rw [xI hd];exact c
end Go.Vv
