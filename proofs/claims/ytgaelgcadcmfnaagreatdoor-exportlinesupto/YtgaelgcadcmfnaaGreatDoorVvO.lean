/- A region that draws its order, proved. -/
import Derived.Test.YtgaelgcadcmfnaaGreatDoorVvBs
set_option linter.all false
namespace Go.Vv
open Go Go.RowKit Go.Lib

def dstAt (ops:Array Oper) (k:Nat):Option Tmp:=(ops[k]?).bind (·.dst)
def xN (ops:Array Oper) (Ns:List Nat) (k:Nat):Bool:=match ops[k]? with | some o=>effN Ns k o.op | none=>false
def fE (ops:Array Oper) (vs:Nat->AV) (S:Nat->Bool) (env:List AV):Nat->List AV
 | 0=>env
 | k+1=>if S k then setd (fE ops vs S env k) (dstAt ops k) (vs k) else fE ops vs S env k
def fH (ops:Array Oper) (Ns:List Nat) (hs:Nat->AH) (S:Nat->Bool):Nat->AH
 | 0=>hs 0
 | k+1=>if S k&&xN ops Ns k then hs (k+1) else fH ops Ns hs S k

section
variable {ops:Array Oper} {Ns:List Nat} {vs:Nat->AV} {hs:Nat->AH} {env:List AV}

theorem setd_len (env:List AV) (d:Option Tmp) (v:AV):(setd env d v).length=env.length:=by cases d <;> simp [setd]
theorem fE_len (S:Nat->Bool):∀k,(fE ops vs S env k).length=env.length
 | 0=>rfl
 | k+1=>by
  simp only [fE];split
  ·rw [setd_len,fE_len S k]
  ·exact fE_len S k
theorem setd_get_ne {env:List AV} {d:Option Tmp} {v:AV} {t:Nat} (h:d ≠ some t):(setd env d v)[t]?=env[t]?:=by
 cases d with
 | none=>rfl
 | some d=>simp only [setd];exact u6 (λe=>h (by rw [e]))
theorem fE_at {S T:Nat->Bool} {t:Nat}:∀k,(∀w,w < k->dstAt ops w=some t->S w=T w)->(fE ops vs S env k)[t]?=(fE ops vs T env k)[t]?
 | 0,_=>rfl
 | k+1,h=>by
  have c:=fE_at (S:=S) (T:=T) k λw b hd=>h w (by omega) hd;simp only [fE];by_cases hd:dstAt ops k=some t
  ·have a:=h k (by omega) hd;rw [a,hd];cases T k
   ·simp_all
   ·simp only [uq,setd,List.getElem?_set,fE_len]
  ·have e:(if S k then setd (fE ops vs S env k) (dstAt ops k) (vs k) else fE ops vs S env k)[t]?=(fE ops vs S env k)[t]?:=by
    split
    ·exact setd_get_ne hd
    ·rfl
   have d:(if T k then setd (fE ops vs T env k) (dstAt ops k) (vs k) else fE ops vs T env k)[t]?=(fE ops vs T env k)[t]?:=by
    split
    ·exact setd_get_ne hd
    ·rfl
   simp_all
theorem fE_eq {S T:Nat->Bool}:∀k,(∀w,w < k->S w=T w)->fE ops vs S env k=fE ops vs T env k
 | 0,_=>rfl
 | k+1,h=>by simp only [fE,h k (by omega),fE_eq k λw a=>h w (by omega)]
theorem fE_stop {S:Nat->Bool} {i:Nat} (h:∀w,i<=w->S w=false):∀m,fE ops vs S env (i+m)=fE ops vs S env i
 | 0=>rfl
 | m+1=>by rw [<- se];simp only [fE,h (i+m) (by omega),up,uL];exact fE_stop h m
theorem fE_last {S:Nat->Bool} {i t n:Nat} (hi:S i=true) (hd:dstAt ops i=some t) (d:t < env.length) (b:i < n) (h:∀w,i < w->w < n->dstAt ops w=some t->S w=false) :
  (fE ops vs S env n)[t]?=some (vs i):=by
 obtain ⟨m,rfl⟩:∃m,n=i+1+m:=⟨n - (i+1),by omega⟩
 induction m with
 | zero =>
  simp only [fE,hi,uq,hd,setd];rw [uF (by rw [fE_len];exact d)]
 | succ m ih =>
  rw [<- se];simp only [fE];have a:=ih (by omega) λw c e=>h w c (by omega);split
  ·rename_i f;by_cases hd':dstAt ops (i+1+m)=some t
   ·grind
   ·rw [setd_get_ne hd'];exact a
  ·omega
theorem fH_eq {S T:Nat->Bool}:∀k,(∀e,e < k->xN ops Ns e=true->S e=T e)->fH ops Ns hs S k=fH ops Ns hs T k
 | 0,_=>rfl
 | k+1,h=>by
  simp only [fH,fH_eq k λe a=>h e (by omega)]
  grind
theorem fH_all {S:Nat->Bool} (b:∀k,xN ops Ns k=false->hs (k+1)=hs k):∀k,(∀e,e < k->xN ops Ns e=true->S e=true)->fH ops Ns hs S k=hs k
 | 0,_=>rfl
 | k+1,h=>by
  simp only [fH];cases a:xN ops Ns k with
  | true=>simp [h k (by omega) a]
  | false=>simp only [Bool.and_false,up,uL,fH_all b k λe a=>h e (by omega)];exact (b k a).symm
theorem fH_stop {S:Nat->Bool} {i:Nat} (h:∀w,i<=w->xN ops Ns w=true->S w=false):∀m,fH ops Ns hs S (i+m)=fH ops Ns hs S i
 | 0=>rfl
 | m+1=>by
  rw [<- se];simp only [fH];rw [uG]
  ·exact fH_stop h m
  ·grind
theorem fH_blks {S T:Nat->Bool} (g:∀k,xN ops Ns k=false->hs (k+1)=hs k):∀k,
  (∀e,e < k->xN ops Ns e=true->S e ≠ T e->(hs (e+1)).blks=(hs e).blks) ->
  (∀e a,e < a->a < k->xN ops Ns e=true->xN ops Ns a=true->S a=true->S e=true)->(∀e a,e < a->a < k->xN ops Ns e=true->xN ops Ns a=true->T a=true->T e=true) ->
  (fH ops Ns hs S k).blks=(fH ops Ns hs T k).blks
 | 0,_,_,_=>rfl
 | k+1,h,pS,pT=>by
  have d:=fH_blks (S:=S) (T:=T) g k (λe c=>h e (by omega)) (λe a f i=>pS e a f (by omega)) (λe a f i=>pT e a f (by omega));simp only [fH];cases c:xN ops Ns k with
  | false=>simpa using d
  | true =>
   simp only [tJ];cases hS:S k <;> cases hT:T k
   ·simp_all
   ·simp only [up,uL,uq];rw [h k (by omega) c (by simp_all),d];rw [fH_all g k λe b hh=>pT e k b (by omega) hh c hT]
   ·simp only [up,uL,uq];rw [h k (by omega) c (by simp_all),<- d];rw [fH_all g k λe b hh=>pS e k b (by omega) hh c hS]
   ·simp

theorem count_lt {p q:Nat->Bool}:∀(l:List Nat),(∀x ∈ l,p x=true->q x=true)->(∃x ∈ l,q x=true/\p x=false)->l.countP p < l.countP q
 | [],_,⟨x,hx,_⟩=>by cases hx
 | y::r,h,⟨x,hx,hq,hp⟩=>by
  have a:r.countP p<=r.countP q:=List.countP_mono_left λz b=>h z (by simp [b]);simp only [List.countP_cons];rcases ut.1 hx with rfl | hx
  ·grind
  ·have c:=count_lt r (λz b=>h z (by simp [b])) ⟨x,hx,hq,hp⟩
   grind
end
section
variable {P:Program} {B:Nat} {w0:World} {g0:Gh} {D:List Deferred} {ro:Option Nat} {n:Nat} {ops:Array Oper} {Ns:List Nat} {F:Nat->AH->Prop} [GOk P B w0]

theorem drawOk_edge (h:drawOk ops Ns=true) {i:Nat} {o:Oper} (hi:ops[i]?=some o):∀e ∈ o.after,Region.binds .any e=true->e.on < i:=by
 unfold drawOk at h;simp only [ur] at h;have hm:(o,i) ∈ ops.toList.zipIdx:=by grind
 have:=h (o,i) hm;simp only [ud] at this;intro e he hb;have h1:=tY.1 this.1 e he
 simp_all
theorem before_lt (h:drawOk ops Ns=true):∀(i w:Nat),((Region.before ops).getD i 0).testBit w=true->w < i:=by
 intro i
 induction i using Nat.strongRecOn with
 | _ i ih =>
  intro w a;rcases hi:ops[i]? with _ | o
  ·have:(Region.before ops).getD i 0=0:=by
    rw [before_eq,tq,pm]
    ·rfl
    rw [bef_size];simp at hi ⊢;exact hi
   simp_all
  ·obtain ⟨e,b,c,hh⟩:=before_spec hi a;have d:=drawOk_edge h hi e b c
   grind
theorem drawOk_pair (h:drawOk ops Ns=true) {i j:Nat} {o a:Oper} (hi:ops[i]?=some o) (f:ops[j]?=some a) (c:i ≠ j) (g:cmpb (Region.before ops) i j=false) :
  (∀d,o.dst=some d->d ∉ a.looksAt ops/\a.dst ≠ some d)/\(effN Ns i o.op=true->effN Ns j a.op=false):=by
 unfold drawOk at h;simp only [ur] at h;have e:(o,i) ∈ ops.toList.zipIdx:=by grind
 have b:(a,j) ∈ ops.toList.zipIdx:=by grind
 grind

theorem fE_none {vs:Nat->AV} {env:List AV} {S:Nat->Bool}:∀k,(∀w,w < k->S w=false)->fE ops vs S env k=env
 | 0,_=>rfl
 | k+1,h=>by simp only [fE,h k (by omega),up,uL];exact fE_none k λw a=>h w (by omega)

theorem AR.still {o:Oper} {env:List AV} {h h':AH} {v:AV} (b:isEff o.op=false) (a:AR P ops o env h v h'):h'=h:=by
 unfold AR at a;split at a
 ·rcases astep_still (P:=P) (env:=env) (h:=h) b with ⟨x,hx⟩ | ⟨n,u,hx⟩ | hx
  ·rw [hx h λ_=>rfl] at a;cases x with
   | none=>exact a.elim
   | some v'=>exact a.2
  ·simp_all
  ·grind
 ·exact a.2
 ·simp_all

theorem ARN.still {i:Nat} {o:Oper} {env:List AV} {h h':AH} {v:AV} (a:effN Ns i o.op=false) (e:ARN P ops Ns F i o env h v h'):h'=h:=by
 rcases e with ⟨c,b⟩ | ⟨_,_,b,_⟩ | ⟨c,d,_,b⟩ | ⟨_,_,_,b⟩
 ·refine AR.still ?_ b;simp only [effN,c,tZ,tJ] at a;omega
 ·exact b
 ·simp only [effN,c,tZ,tJ] at a;exact (bstep_still a d b).1
 ·exact b
theorem draw_seq {QA:List AV->AH->Prop}:∀(rest:List Oper) (k:Nat) (env:List AV) (h:AH),ops.toList.drop k=rest->k<=ops.size->zD P ops Ns F QA k rest env h ->
  ∃(vs:Nat->AV) (hs:Nat->AH),hs k=h/\(∀i o,k<=i->ops[i]?=some o->ARN P ops Ns F i o (fE ops vs (λw=>decide (k<=w)) env i) (hs i) (vs i) (hs (i+1))/\(anch ops Ns i=true \/ (hs (i+1)).blks=(hs i).blks)/\(hs (i+1)=hs i \/ FOk ((Region.before ops).getD i 0) Ns F (hs (i+1)))) /\
   QA (fE ops vs (λw=>decide (k<=w)) env ops.size) (hs ops.size)
 | [],k,env,h,hd,hkn,b=>by
  have s:k=ops.size:=by
   have:=congrArg List.length hd
   grind
  subst s;refine ⟨λ_=>aundef,λ_=>h,rfl,λi o hi g=>?_,?_⟩
  ·simp_all
  ·rw [fE_none _ λw b=>by simp;omega];exact b
 | o::rest,k,env,h,hd,hkn,b=>by
  have g:ops[k]?=some o:=by
   rw [<- uE];have:=congrArg (·[0]?) hd
   grind
  have p:k < ops.size:=(uH.1 g).1;have l:ops.toList.drop (k+1)=rest:=by
   rw [<- tG,hd];rfl
  obtain ⟨v,h',r,j,q,c⟩:=b;obtain ⟨vs,hs,h0,u,t⟩:=draw_seq rest (k+1) _ h' l (by omega) c;have e:dstAt ops k=o.dst:=by simp [dstAt,g]
  let f:Nat->AV:=λw=>if w=k then v else vs w
  let d:Nat->AH:=λw=>if w<=k then h else hs w
  have key:∀m,fE ops f (λw=>decide (k<=w)) env (k+1+m)=fE ops vs (λw=>decide (k+1<=w)) (setd env o.dst v) (k+1+m):=by
   intro m
   induction m with
   | zero =>
    simp only [tE];rw [fE_none (S:=λw=>decide (k+1<=w)) (k+1) λw b=>by simp;omega];simp only [fE,ug,rL,uq,e];rw [fE_none (S:=λw=>decide (k<=w)) k λw b=>by simp;omega]
    grind
   | succ m ih =>
    rw [<- se];simp only [fE,ih]
    grind
  refine ⟨f,d,by simp [d],λi x hi a=>?_,?_⟩
  ·rcases Nat.eq_or_lt_of_le hi with rfl | hi
   ·rw [g] at a;injection a with a;subst a;rw [fE_none (S:=λw=>decide (k<=w)) k λw b=>by simp;omega]
    grind
   ·obtain ⟨m,rfl⟩:∃m,i=k+1+m:=⟨i - (k+1),by omega⟩
    grind
  ·obtain ⟨m,y⟩:∃m,ops.size=k+1+m:=⟨ops.size - (k+1),by omega⟩
   grind

theorem draw_sound (E:drawOk ops Ns=true) {Q:Exit->Act->World->Prop} {vs:Nat->AV} {hs:Nat->AH} {env:List AV}
  (hFs:∀n,F n (hs 0)) (hc:∀i o,ops[i]?=some o->ARN P ops Ns F i o (fE ops vs (λ_=>true) env i) (hs i) (vs i) (hs (i+1))/\(anch ops Ns i=true \/ (hs (i+1)).blks=(hs i).blks)/\(hs (i+1)=hs i \/ FOk ((Region.before ops).getD i 0) Ns F (hs (i+1))))
  (hQ:∀a w,St B w0 g0 D (fE ops vs (λ_=>true) env ops.size) (hs ops.size) a w->Q .normal a w) :
  ∀(z:Nat) (b:Array Bool) (a:Act) (w:World),b.size=ops.size->(List.range ops.size).countP (λi=>!b.getD i false)<=z ->
   (∀i j,b.getD i false=true->((Region.before ops).getD i 0).testBit j=true->b.getD j false=true) ->
   St B w0 g0 D (fE ops vs (λi=>b.getD i false) env ops.size) (fH ops Ns hs (λi=>b.getD i false) ops.size) a w ->
   wpAnyIn (WF ro) n P .any ops Q z b a w:=by
 have hn:∀k,xN ops Ns k=false->k < ops.size->hs (k+1)=hs k:=λk A hk=>by
  have C:ops[k]?=some ops[k]:=uQ hk;exact ARN.still (by simpa [xN,C] using A) (hc k _ C).1
 -- beyond the region nothing is asked
 let M:Nat->AH:=λk=>if k<=ops.size then hs k else hs ops.size
 have G:∀k,k<=ops.size->M k=hs k:=λk hk=>by grind
 have hn2:∀k,xN ops Ns k=false->M (k+1)=M k:=λk A=>by
  grind
 have fH2:∀(S:Nat->Bool) k,k<=ops.size->fH ops Ns hs S k=fH ops Ns M S k:=λS k=>by
  induction k with
  | zero=>intro _;simp only [fH];exact (G 0 (by omega)).symm
  | succ k ih=>intro hk;simp only [fH,ih (by omega),G (k+1) hk]
 -- all has come
 have fin:∀(b:Array Bool) (a:Act) (w:World),b.size=ops.size->Region.ready .any ops b=[] ->
   St B w0 g0 D (fE ops vs (λi=>b.getD i false) env ops.size) (fH ops Ns hs (λi=>b.getD i false) ops.size) a w->Q .normal a w:=by
  intro b a w L hr s;have hall:∀i,i < ops.size->b.getD i false=true:=by
   intro i
   induction i using Nat.strongRecOn with
   | _ i ih =>
    intro hi;rcases hb:b.getD i false with _ | _
    ·exfalso;have:i ∈ Region.ready .any ops b:=by
      unfold Region.ready;rw [tm];refine ⟨by simp_all,?_⟩;have d:b.getD i true=false:=by
       simp_all
      have C:ops[i]?=some ops[i]:=uQ hi;simp only [d,tZ,C,uU,Option.getD_some,u5];rw [tY];intro e A;cases hbe:Region.binds .any e with
      | false=>rfl
      | true =>
       have hlt:=drawOk_edge E C e A hbe
       grind
     simp_all
    ·rfl
  refine hQ a w ?_;rw [fE_eq (T:=λ_=>true) ops.size λw I=>hall w I] at s;rw [fH2 _ _ (ug _),fH_all hn2 ops.size λe A _=>hall e A,G _ (ug _)] at s;omega
 intro z
 induction z with
 | zero =>
  intro b a w L hcnt hcl s;have hr:Region.ready .any ops b=[]:=by
   rcases hrr:Region.ready .any ops b with _ | ⟨i,r⟩
   ·rfl
   ·exfalso;have hi:i ∈ Region.ready .any ops b:=by simp_all
    unfold Region.ready at hi
    grind
  exact ⟨hr,fin b a w L hr s⟩
 | succ z ih =>
  intro b a w L hcnt hcl s;refine ⟨λhr=>fin b a w L hr s,λi hi=>?_⟩;unfold Region.ready at hi;rw [tm] at hi;have hlt:i < ops.size:=by simp_all
  have C:ops[i]?=some ops[i]:=uQ hlt;generalize hoo:ops[i]=o at C;have hi2:=hi.2;simp only [C,uU,Option.getD_some,ud,sH] at hi2;have hil:i < b.size:=by omega
  have hSi:b.getD i false=false:=by
   grind
  have hedge:∀e ∈ o.after,Region.binds .any e=true->b.getD e.on false=true:=λe A hb=>by
   have:=tY.1 hi2.2 e A
   grind
  have hanc:∀w,((Region.before ops).getD i 0).testBit w=true->b.getD w false=true:=λw I=>by
   obtain ⟨e,A,hb,hh⟩:=before_spec C I;rcases hh with rfl | ⟨_,H⟩
   ·grind
   ·grind
  generalize hS:(λw=>b.getD w false)=S at s;have hSd:∀w,S w=b.getD w false:=λw=>by rw [<- hS]
  have hSi':S i=false:=by grind
  let T:Nat->Bool:=λw=>decide (w < i)
  have N:∀w,w ≠ i->cmpb (Region.before ops) w i=true->S w=T w:=λw _ hc'=>by
   simp only [cmpb,uY] at hc';rcases hc' with d | d
   ·have:=before_lt E i w d
    grind
   ·have H:=before_lt E w i d
    grind
  -- what it looks at is a5 it was in the text's order
  have hTn:fE ops vs T env ops.size=fE ops vs (λ_=>true) env i:=by
   obtain ⟨m,hm⟩:∃m,ops.size=i+m:=⟨ops.size - i,by omega⟩
   rw [hm,fE_stop (S:=T) (λw I=>by grind) m];exact fE_eq i λw I=>by simp [T,I]
  have W:∀t ∈ o.looksAt ops,(fE ops vs S env ops.size)[t]?=(fE ops vs (λ_=>true) env i)[t]?:=λt ht=>by
   rw [<- hTn];refine fE_at ops.size λw I hd=>?_;by_cases hwi:w=i
   ·grind
   ·cases hcb:cmpb (Region.before ops) w i with
    | true=>exact N w hwi hcb
    | false =>
     have Z:ops[w]?=some ops[w]:=uQ I;have:=(drawOk_pair E Z C hwi hcb).1 t (by simpa [dstAt,Z] using hd)
     grind
  obtain ⟨hAR,hblk,_⟩:=hc i o C;have hgE:aG ops o (fE ops vs S env ops.size)=aG ops o (fE ops vs (λ_=>true) env i):=aG_congr W;have hsE:∀h',zn P o (fE ops vs S env ops.size) h'=zn P o (fE ops vs (λ_=>true) env i) h':=λh'=>astep_congr λx hx=>ev_congr λt ht=>W t (looks_op (ht ▸ hx));have hsB:∀h',wm P o (fE ops vs S env ops.size) h'=wm P o (fE ops vs (λ_=>true) env i) h':=λh'=>bstep_congr λx hx=>ev_congr λt ht=>W t (looks_op (ht ▸ hx));have l:ARN P ops Ns F i o (fE ops vs S env ops.size) (hs i) (vs i) (hs (i+1)):=by
   rcases hAR with ⟨d,H⟩ | ⟨d,H,h3,h4⟩ | ⟨d,hbd,H,h3⟩ | ⟨d,H,h3,h4⟩
   ·refine .inl ⟨d,?_⟩;unfold AR at H ⊢;rw [hgE,hsE];exact H
   ·exact .inr (.inl ⟨d,by grind,h3,h4.imp (λ⟨f,args,h5,h6⟩=>⟨f,args,λH=>by grind,h6⟩) (λh5 H hf=>by grind)⟩)
   ·exact .inr (.inr (.inl ⟨d,hbd,by grind,by grind⟩))
   ·exact .inr (.inr (.inr ⟨d,by grind,h3,h4⟩))
  have heff:xN ops Ns i=effN Ns i o.op:=by simp [xN,C]
  -- effects are in a row
  have pS:∀e J,e < J->J < ops.size->xN ops Ns e=true->xN ops Ns J=true->S J=true->S e=true:=λe J d H h3 h4 h5=>by
   have oe:ops[e]?=some ops[e]:=uQ (by omega);have oe':ops[J]?=some ops[J]:=uQ H;cases hcb:cmpb (Region.before ops) e J with
   | true =>
    simp only [cmpb,uY] at hcb;rcases hcb with h6 | h6
    ·grind
    ·have:=before_lt E e J h6;omega
   | false =>
    have h7:=(drawOk_pair E oe oe' (by omega) hcb).2 (by simpa [xN,oe] using h3);simp [xN,oe',h7] at h4
  have pT:∀e J,e < J->J < ops.size->xN ops Ns e=true->xN ops Ns J=true->T J=true->T e=true:=λe J d _ _ _ h5=>by
   grind
  have effS:effN Ns i o.op=true->∀e,e < ops.size->xN ops Ns e=true->S e=T e:=λhE e he1 he2=>by
   by_cases hei:e=i
   ·grind
   ·have oe:ops[e]?=some ops[e]:=uQ he1;cases hcb:cmpb (Region.before ops) e i with
    | true=>exact N e hei hcb
    | false =>
     have h7:=(drawOk_pair E oe C hei hcb).2 (by simpa [xN,oe] using he2)
     grind
  have hTH:fH ops Ns M T ops.size=hs i:=by
   obtain ⟨m,hm⟩:∃m,ops.size=i+m:=⟨ops.size - i,by omega⟩
   rw [hm,fH_stop (S:=T) (λw I _=>by grind) m,fH_all hn2 i λe A _=>by simp [T,A]]
   grind
  -- the new list
  have hS':∀w,(b.setIfInBounds i true).getD w false=(w==i || S w):=λw=>by
   rw [hSd];by_cases I:w=i
   ·subst I;simp [tq,hil]
   ·have d:(w==i)=false:=by simpa using I
    simp [tq,d,Array.getElem?_setIfInBounds_ne (λe=>I e.symm)]
  have hfS':(λw=>(b.setIfInBounds i true).getD w false)=λw=>(w==i || S w):=funext hS'
  -- the frame behind it
  have hE':fE ops vs (λw=>(w==i || S w)) env ops.size=setd (fE ops vs S env ops.size) o.dst (vs i):=by
   apply uZ;intro t;by_cases hdt:o.dst=some t
   ·rw [hdt];simp only [setd];rcases sr t env.length with X | X
    ·rw [uF (by rw [fE_len];exact X)];refine fE_last (i:=i) (by simp) (by simp [dstAt,C,hdt]) X hlt λw hw1 hw2 hw3=>?_;have d:(w==i)=false:=by simp;omega
     simp only [d,tK];have Z:ops[w]?=some ops[w]:=uQ hw2;cases hcb:cmpb (Region.before ops) w i with
     | true=>rw [N w (by omega) hcb];simp [T];omega
     | false =>
      have:=(drawOk_pair E Z C (by omega) hcb).1 t (by simpa [dstAt,Z] using hw3)
      grind
    ·rw [tM (by rw [fE_len];exact X),tM (by rw [rn,fE_len];exact X)]
   ·rw [setd_get_ne hdt];refine fE_at ops.size λw I hd=>?_;by_cases hwi:w=i
    ·subst hwi;simp [dstAt,C] at hd;exact absurd hd hdt
    ·grind
  -- the heap behind it
  have hst2:=s;generalize hX:fH ops Ns hs S ops.size=hx at s;have hFx:Ns.contains i=true->F i hx:=λR=>by
   -- an effect that has come is none that waits for this one
   have hA:∀k,k<=ops.size->(∀e,e < k->xN ops Ns e=true->S e=true)->F i (hs k):=λk=>by
    induction k with
    | zero=>intro _ _;exact hFs i
    | succ k ih =>
     intro hk A;have ihk:=ih (by omega) λe d H=>A e (by omega) H;have ok:ops[k]?=some ops[k]:=uQ (by omega);rcases (hc k _ ok).2.2 with d | d
     ·grind
     ·cases hE:xN ops Ns k with
      | false=>rw [hn k hE (by omega)];exact ihk
      | true =>
       refine d i R ?_
       grind
   rw [<- hX];have:∀k,k<=ops.size->F i (fH ops Ns hs S k):=λk=>by
    induction k with
    | zero=>intro _;exact hFs i
    | succ k ih =>
     intro hk;simp only [fH];split
     ·rename_i hh;simp only [ud] at hh;refine hA (k+1) hk λe d H=>?_
      grind
     ·grind
   grind
  have hAR3:∃h',ARN P ops Ns F i o (fE ops vs S env ops.size) hx (vs i) h'/\fH ops Ns hs (λw=>(w==i || S w)) ops.size=h':=by
   cases hE:effN Ns i o.op with
   | true =>
    have d:hx=hs i:=by rw [<- hX,fH2 _ _ (ug _),fH_eq ops.size (effS hE),hTH]
    refine ⟨hs (i+1),by grind,?_⟩;rw [fH2 _ _ (ug _)];obtain ⟨m,hm⟩:∃m,ops.size=i+1+m:=⟨ops.size - (i+1),by omega⟩
    rw [hm,fH_stop (λw I hwe=>?_) m]
    ·simp only [fH]
     grind
    ·have H:(w==i)=false:=by simp;omega
     grind
   | false =>
    have d:fH ops Ns hs (λw=>(w==i || S w)) ops.size=hx:=by
     rw [<- hX];refine fH_eq ops.size λe _ hee=>?_;have:e ≠ i:=by grind
     grind
    refine ⟨hx,?_,d⟩;have hb:Ns.contains i=false->isRd o.op=true->hx.blks=(hs i).blks:=λR hrd=>by
     rw [<- hX,fH2 _ _ (ug _),<- hTH];refine fH_blks hn2 ops.size (λe he1 he2 hne=>?_) pS pT;rw [G _ (by omega),G _ (by omega)];have oe:ops[e]?=some ops[e]:=uQ he1;rcases (hc e _ oe).2.1 with han | hbb
     ·exfalso;unfold anch at han;simp only [ur] at han;have hm:(o,i) ∈ ops.toList.zipIdx:=by grind
      have h3:=han (o,i) hm;have hei:e ≠ i:=by grind
      grind
     ·omega
    rcases l with ⟨hN,l⟩ | ⟨hN,Y,U,q3⟩ | ⟨hN,hbd,Y,U⟩ | ⟨hN,Y,U,q3⟩
    rotate_left
    ·exact .inr (.inl ⟨hN,Y,rfl,q3⟩)
    ·simp only [effN,hN,tZ,tJ] at hE;exact .inr (.inr (.inl ⟨hN,hbd,Y,(bstep_still hE hbd U).2 hx⟩))
    ·exact .inr (.inr (.inr ⟨hN,Y,U,rfl⟩))
    have hb:=hb hN;have hE:isEff o.op=false:=by simp only [effN,hN,tZ,tJ] at hE;exact hE
    have h0:hs (i+1)=hs i:=AR.still hE l;refine .inl ⟨hN,?_⟩;unfold AR at l ⊢;split at l
    ·rcases astep_still (P:=P) (env:=fE ops vs S env ops.size) (h:=hs i) hE with ⟨x,O⟩ | ⟨m,u,O⟩ | O
     ·rw [O (hs i) λ_=>rfl] at l;rw [O hx hb];cases x with
      | none=>exact l.elim
      | some v'=>exact ⟨l.1,rfl⟩
     ·grind
     ·rcases O (hs i) with ⟨S,hS⟩ | hS <;> (rw [hS] at l;exact l.elim)
    ·grind
    ·omega
  obtain ⟨h',c,hH'⟩:=hAR3;have cnt:(List.range ops.size).countP (λj=>!(b.setIfInBounds i true).getD j false)<=z:=by
   have:=count_lt (p:=λj=>!(b.setIfInBounds i true).getD j false) (q:=λj=>!b.getD j false) (List.range ops.size)
    (λx _ hx=>by grind)
    ⟨i,by grind,by simp [hSi],by simp [hS']⟩
   omega
  have cl':∀x y,(b.setIfInBounds i true).getD x false=true->((Region.before ops).getD x 0).testBit y=true->(b.setIfInBounds i true).getD y false=true:=λx y d H=>by
   rw [hS'] at d ⊢;simp only [uY,sI] at d ⊢;right;rcases d with rfl | d
   ·grind
   ·grind
  have go:∀(a':Act) (w':World),St B w0 g0 D (setd (fE ops vs S env ops.size) o.dst (vs i)) h' a' w'->wpAnyIn (WF ro) n P .any ops Q z (b.setIfInBounds i true) a' w':=λa' w' hs' =>
   ih _ a' w' (by simp [L]) cnt cl' (by grind)
  unfold wpOpIn;simp only [C];have hst':=s;obtain ⟨g,hg,r,A,hD⟩:=hst';rcases c with ⟨_,c⟩ | ⟨R,Y,U,q3⟩ | ⟨_,_,Y,U⟩ | ⟨_,Y,U,q3⟩
  rotate_left
  ·rw [wD A Y];simp only [uq];refine step_sound (K:=λv d=>v=vs i/\d=h') s ?_ ?_
   ·rcases q3 with ⟨f,args,q3,q4⟩ | q4
    ·rw [q3 hx,U];exact q4 hx (hFx R)
    ·rw [q4 hx (hFx R)];exact ⟨rfl,U.symm⟩
   ·rintro v d u w' ⟨rfl,rfl⟩ ⟨g',k1,k2,k3,k4⟩
    exact go _ w' ⟨g',k1,k2,k3.setd o.dst k4,by rw [x5];exact hD⟩
  ·rw [wD A Y];simp only [uq];refine bstep_sound (K:=λv d=>v=vs i/\d=h') s (.inl ⟨_,U,λp hp=>?_⟩) ?_
   ·grind
   ·rintro v d u w' ⟨rfl,rfl⟩ ⟨g',k1,k2,k3,k4⟩
    exact go _ w' ⟨g',k1,k2,k3.setd o.dst k4,by rw [x5];exact hD⟩
  ·rw [wD A Y];simp only [up,uL];refine ⟨λ_ _=>trivial,go _ w ⟨g,hg,by grind,?_,by rw [x5];exact hD⟩⟩;rw [U];exact A.setd o.dst V.ofUndef
  unfold AR at c;split at c
  ·rename_i hgd;rw [wD A hgd];simp only [uq];refine step_sound (K:=λv d=>v=vs i/\d=h') s ?_ ?_
   ·cases hst3:zn P o (fE ops vs S env ops.size) hx with
    | ok v1 d=>rw [hst3] at c;exact ⟨c.1.symm,c.2.symm⟩
    | len m v1 d=>rw [hst3] at c;exact λ_=>⟨c.1.symm,c.2.symm⟩
    | call f args=>rw [hst3] at c;exact c
    | round id args=>rw [hst3] at c;exact c
    | any S=>rw [hst3] at c;exact c.elim
    | fail=>rw [hst3] at c;exact c
   ·rintro v d u w' ⟨rfl,rfl⟩ ⟨g',k1,k2,k3,k4⟩
    exact go _ w' ⟨g',k1,k2,k3.setd o.dst k4,by rw [x5];exact hD⟩
  ·rename_i hgd;rw [wD A hgd];simp only [up,uL];refine ⟨λ_ _=>trivial,go _ w ⟨g,hg,by grind,?_,by rw [x5];exact hD⟩⟩;rw [c.1];exact A.setd o.dst V.ofUndef
  ·grind
end
end Go.Vv
namespace Go.Vv
open Go Go.RowKit Go.Lib
variable {p:Nat->Prop} {h:AH} {w:World}

theorem min_exists {p:Nat->Prop} (h:∃n,p n):∃m,p m/\∀k,p k->m<=k:=by
 obtain ⟨n,hn⟩:=h
 induction n using Nat.strongRecOn with
 | _ n ih =>
  grind
open Classical in
noncomputable def least (p:Nat->Prop):Nat:=if h:∃n,p n then Classical.choose (min_exists h) else 0
theorem least_spec (h:∃n,p n):p (least p):=by
 unfold least;rw [r9 h];exact (tS (min_exists h)).1
theorem least_le {n:Nat} (h:p n):least p<=n:=by
 unfold least;rw [r9 ⟨n,h⟩];exact (tS (min_exists ⟨n,h⟩)).2 n h

section
variable {P:Program} {B:Nat} {w0:World} {ro:Option Nat} {n:Nat} [GOk P B w0]

def Marks (gb g:Gh) (D:List Deferred):Prop:=∃cs:List Nat,D.map (·.target)=cs.map Target.collected/\cs.Nodup/\∀c ∈ cs,c ∈ g.δ/\c ∉ gb.δ
theorem Marks.mono {gb g g':Gh} {D:List Deferred} (h:Marks gb g D) (k:∀c,c ∈ g.δ->c ∈ g'.δ):Marks gb g' D:=by
 obtain ⟨cs,e,d,a⟩:=h;exact ⟨cs,e,d,λc b=>⟨k c (a c b).1,(a c b).2⟩⟩
theorem Marks.nil (gb g:Gh):Marks gb g []:=⟨[],rfl,List.nodup_nil,λ_ h=>by cases h⟩
def StM (B:Nat) (w0:World) (gb g0:Gh) (env:List AV) (h:AH) (a:Act) (w:World):Prop:=∃g,g0.le g/\Rel B w0 g h w/\VL g env a.tmps.toList/\Marks gb g a.defers/\gb.le g

def Gh.addD (g:Gh) (c:Nat):Gh:={ g with δ:=c::g.δ }
theorem Gh.le_addD (g:Gh) (c:Nat):g.le (g.addD c):=⟨λ_ _ _ e=>e,λ_ _ e=>e,λ_ t e=>⟨t,e,ug _,λ_=>rfl,rfl⟩,λ_ h=>tu _ h,λ_ _ h=>h,λ_ h=>h⟩
theorem Rel.addD {g:Gh} {h:AH} {w:World} (r:Rel B w0 g h w) {c:Nat} (u:B<=c) (v:w.heap[c]?=some (.deferred (some []))) (hs:∀i:Nat,g.σ[i]? ≠ some c) (m:g.N c=none) (d:¬ g.O c):Rel B w0 (g.addD c) h w :=
 ⟨r.below,r.bsz,r.phi,r.slen,λi x k hx f=>by obtain ⟨s,o,t,q⟩:=r.blk i x k hx f;exact ⟨s,o,t.mono (g.le_addD c) rfl,q⟩,r.tlen,r.tok,r.sinj,r.tinj,r.sep,λx hx=>by
  rcases ut.1 hx with rfl | hx
  ·exact ⟨u,v,hs⟩
  ·exact r.dfr x hx,λi k hi f=>(r.row i k hi f).mono (g.le_addD c) (λ_ _ h _=>h) (λ_ _ _ _ _ _ _=>⟨rfl,λ_=>rfl⟩),r.rinj,λb x a=>(r.nb b x a).mono λ_ _ l=>⟨rfl,⟨l.1,λj=>(ut.1 j).elim (λe=>by subst e;have a:g.N b=some x:=a;rw [m] at a;cases a) l.2.1,l.2.2⟩,λh=>h⟩,r.ob,λb a=>⟨(r.oa b a).1,λj=>(ut.1 j).elim (λe=>d (e ▸ a)) (r.oa b a).2.1,(r.oa b a).2.2⟩⟩

theorem rangeFunc_sound {K:Operand} {R:Array Tmp} {assign body:Code} {gb g0:Gh} {QA:Exit->List AV->AH->Prop} {env:List AV} {a:Act} (u:ro=none)
  (y:wS P (.rangeFunc K R assign body) QA env h) (hs:StM B w0 gb g0 env h a w) {Q:Exit->Act->World->Prop} (hQ:∀x m h' a' w',QA x m h'->StM B w0 gb g0 m h' a' w'->Q x a' w') :
  (Code.rangeFunc K R assign body).wpIn (WF ro) n P Q a w:=by
 subst u;obtain ⟨g,E,r,A,F,k⟩:=hs;obtain ⟨U,_,_,O,Z,D,y⟩:=y;obtain ⟨g2,z,r2,he2,H⟩:=D B w0 w w g g _ r (Gh.le.refl g) r A;replace E:=E.trans z;replace F:=F.mono H;replace k:=k.trans z;clear D H r A z;revert y E F k r2 he2;generalize O=env,Z=h,g2=g;intro y r A E F k;have hV:=V.ev A U;split at y
 ·rename_i f first caps hx
  rw [hx] at hV;simp only [V] at hV;obtain ⟨fs,cs,hev,h1,Z⟩:=hV;refine wpIn_rangeFunc λfn hfn=>?_;have u:(WF none).round=none:=rfl;rw [u];obtain ⟨l,s⟩:∃l:LoopState->Option Code->Loop,l=λst C=>{ state:=st,pending:=C,fn,tmps:=a.tmps,params:=R,assign,body,defers:=w.heap.size }:=⟨_,rfl⟩
  have r1:=r.alloc0 (.deferred (some []));have hc1:(w.alloc (.deferred (some []))).heap[w.heap.size]?=some (.deferred (some [])):=World.alloc_heap_new w _;have hns:∀i:Nat,g.σ[i]? ≠ some w.heap.size:=λi hi=>by
   have hl:i < h.blks.length:=by rw [<- r.slen];exact (uc.1 hi).1
   have:=(r.blk i _ _ hi (ui hl)).2.1;omega
  have r2:=r1.addD (c:=w.heap.size) r.bsz hc1 hns (r.nnew (ug _)) (r.nold (ug _));have r3:=r2.newBlk (.loop (l .ready none)) (.loop .ready none env R assign body) ⟨fn,a.tmps,w.heap.size,by rw [s];exact World.alloc_heap_new _ _,A.mono ((g.le_addD _).trans (Gh.le_addS _ _))⟩;have T:(w.alloc (.deferred (some []))).heap.size=w.heap.size+1:=World.size_alloc ..;have M:((g.addD w.heap.size).addS (w.alloc (.deferred (some []))).heap.size).σ[h.blks.length]?=some (w.heap.size+1):=by
   rw [<- r.slen,T];simp [Gh.addS,Gh.addD]
  refine ⟨w.heap.size+1,[{ target:=.collected w.heap.size,args:=#[] }],(w.alloc (.deferred (some []))).alloc (.loop (l .ready none)),{ target:=.fn (.func f) cs,args:=fs++#[.func (.yield (w.heap.size+1)) #[] #[]] },(w.alloc (.deferred (some []))).alloc (.loop (l .ready none)),f,
   fs++#[.func (.yield (w.heap.size+1)) #[] #[]]++cs,(w.alloc (.deferred (some []))).alloc (.loop (l .ready none)),?_,?_,λ_ _=>trivial,?_,λh=>by simp [WF,Fence.wide] at h,?_⟩
  ·rw [s];exact run_enterLoop_outer _ _ _ _ _
  ·simp only [resolve,hev];simp [Deferred.ofValue,go_sem]
  ·simpa [invoke] using y.1 _ _
  ·have hvl:VL ((g.addD w.heap.size).addS (w.alloc (.deferred (some []))).heap.size) (first++[.yld h.blks.length]++caps) (fs++#[Value.func (.yield (w.heap.size+1)) #[] #[]]++cs).toList:=by
    have d:=(g.le_addD w.heap.size).trans (Gh.le_addS _ (w.alloc (.deferred (some []))).heap.size);simp only [tL];refine VL.append (VL.append (h1.mono d) (VL.cons ?_ (by simp [VL]))) (Z.mono d);simp only [V]
    simp_all
   refine callsIn_of ((y.2 B w0 _ _ _ r3 hvl).mono ?_)
   rintro e w3 ⟨v,x,h',g',rfl,⟨st,C,m,L,J,G,hb,W,S⟩,d,r',_⟩
   obtain ⟨_,hlt,⟨N,q,d',hl,_⟩,_⟩:=r'.blk _ _ _ (d.sig _ _ M) hb;have I:=run_endLoop (P:=P) hl W;have r4:Rel B w0 g' (h'.put h.blks.length .dead) (w3.putObj (w.heap.size+1) (.loop { state:=.exhausted,pending:=C,fn:=N,tmps:=q,params:=L,assign:=J,body:=G,defers:=d' })) :=
    r'.putObj (d.sig _ _ M) hb (by simp) rfl rfl rfl World.putObj_size (λb Y=>World.putObj_heap_other Y) trivial
   have j:g.le g':=((g.le_addD _).trans (Gh.le_addS _ _)).trans d;have X:Marks gb g' ({ target:=.collected w.heap.size,args:=#[] }::a.defers):=by
    obtain ⟨cs,k1,k2,k3⟩:=F;refine ⟨w.heap.size::cs,by simp [k1],List.nodup_cons.2 ⟨λt=>tH _ (r.dfr_lt (k3 _ t).1),k2⟩,λc t=>?_⟩;rcases ut.1 t with rfl | t
    ·exact ⟨d.del _ (by simp [Gh.addS,Gh.addD]),λt=>tH _ (r.dfr_lt (k.del _ t))⟩
    ·exact ⟨j.del _ (k3 c t).1,(k3 c t).2⟩
   have o:StM B w0 gb g0 env (h'.put h.blks.length .dead) { a with defers:={ target:=.collected w.heap.size,args:=#[] }::a.defers } (w3.putObj (w.heap.size+1) (.loop { state:=.exhausted,pending:=C,fn:=N,tmps:=q,params:=L,assign:=J,body:=G,defers:=d' })) :=
    ⟨g',E.trans j,r4,A.mono j,X,k.trans j⟩
   refine ⟨C,_,I,?_⟩;cases C with
   | none=>exact hQ _ _ _ _ _ S o
   | some c =>
    cases c with
    | ret=>exact wpIn_ret (hQ _ _ _ _ _ S o)
    | exit i=>exact wpIn_exit (hQ _ _ _ _ _ S o)
    | _=>exact S.elim
 ·simp_all

theorem wR:∀(c:Code) {gb g0:Gh} {QA:Exit->List AV->AH->Prop} {env:List AV} {h:AH} {a:Act} {w:World},(ro=none \/ q9 c=true)->wS P c QA env h->StM B w0 gb g0 env h a w->∀{Q:Exit->Act->World->Prop},
  (∀x l h' a' w',QA x l h'->StM B w0 gb g0 l h' a' w'->Q x a' w')->c.wpIn (WF ro) n P Q a w
 | .skip,_,_,_,_,_,_,_,_,d,hs,_,hQ=>wpIn_skip (hQ _ _ _ _ _ d hs)
 | .label _,_,_,_,_,_,_,_,_,d,hs,_,hQ=>wpIn_label (hQ _ _ _ _ _ d hs)
 | .exit _,_,_,_,_,_,_,_,_,d,hs,_,hQ=>wpIn_exit (hQ _ _ _ _ _ d hs)
 | .ret,_,_,_,_,_,_,_,_,d,hs,_,hQ=>wpIn_ret (hQ _ _ _ _ _ d hs)
 | .region id ops draw,gb,g0,QA,env,h,a,w,_,d,hs,Q,hQ=>by
  obtain ⟨g,M,r,N,H,s⟩:=hs;have v:∀l h' a' w',St B w0 g a.defers l h' a' w'->StM B w0 gb g0 l h' a' w':=λl h' a' w' ⟨g',U,Y,k3,k4⟩=>⟨g',M.trans U,Y,k3,by rw [k4];exact H.mono U.del,s.trans U⟩
  have hs:St B w0 g a.defers env h a w:=⟨g,Gh.le.refl g,r,N,rfl⟩
  cases draw with
  | false =>
   have h1:=ops_sound (ro:=ro) (n:=n) (Q:=Q) (λenv h a w E J=>hQ .normal env h a w E (v _ _ _ _ J)) ops.toList 0 env h a w rfl d hs;refine wpIn_region ?_;rw [List.range_eq_range'];omega
  | true =>
   obtain ⟨Ns,F,⟨H,hok⟩,hFh,d⟩ | ⟨H,d⟩:=d
   rotate_left
   ·obtain ⟨g,U,Y,k3,k4⟩:=hs;exact wpIn_region_any H (any_sound (λenv h a w E J=>hQ .normal env h a w E (v _ _ _ _ J)) _ _ _ _ _ _ d ⟨g,U,Y.drew,k3,k4⟩)
   obtain ⟨vs,t,h0,h1,h2⟩:=draw_seq ops.toList 0 env h rfl (tO _) d;have hT:(λw:Nat=>decide (0<=w))=λ_=>true:=by rfl
   rw [hT] at h1 h2;refine wpIn_region_any H (draw_sound (D:=a.defers) (g0:=g) hok (vs:=vs) (hs:=t) (env:=env) (by simp_all) (λi o ho=>h1 i o (tO _) ho) (λa w J=>hQ .normal _ _ _ _ h2 (v _ _ _ _ J)) ops.size _ a _ (by simp) ?_ (λi j hi=>?_) ?_)
   ·exact uB List.countP_le_length (by simp)
   ·exfalso;rw [tq] at hi
    grind
   ·have hF:∀w,(Array.replicate ops.size false).getD w false=false:=λw=>by
     rw [tq]
     grind
    rw [fE_none _ λw _=>hF w];have hH:fH ops Ns t (λi=>(Array.replicate ops.size false).getD i false) ops.size=h:=by
     have:∀k,fH ops Ns t (λi=>(Array.replicate ops.size false).getD i false) k=h:=λk=>by
      induction k with
      | zero=>exact h0
      | succ k ih=>rw [fH,hF,rG];exact ih
     simp_all
    rw [hH];obtain ⟨g,U,Y,k3,k4⟩:=hs;exact ⟨g,U,Y.drew,k3,k4⟩
 | .seq x y,gb,g0,QA,env,h,a,w,hr,d,hs,Q,hQ=>by
  have T:ro=none \/ q9 x=true:=hr.imp id λh=>by simp only [q9,ud] at h;exact h.1
  have R:ro=none \/ q9 y=true:=hr.imp id λh=>by simp only [q9,ud] at h;exact h.2
  obtain ⟨g,M,r,N,H,s⟩:=hs;refine wpIn_seq (wR (gb:=gb) (g0:=g) x T d ⟨g,Gh.le.refl g,r,N,H,s⟩ λe l h' a' w' E t=>?_);obtain ⟨g1,C,X,A,G,K⟩:=t;cases e with
  | normal =>
   obtain ⟨env2,h2,S,E⟩:=E;obtain ⟨g2,q,W,z,u⟩:=S B w0 w' w g g1 _ r C X A;exact wR (gb:=gb) (g0:=g0) y R E ⟨g2,M.trans q,W,z,G.mono u,s.trans q⟩ hQ
  | _=>exact hQ _ _ _ _ _ E ⟨g1,M.trans C,X,A,G,K⟩
 | .cond c x y,gb,g0,QA,env,h,a,w,hr,d,hs,Q,hQ=>by
  have T:ro=none \/ q9 x=true:=hr.imp id λh=>by simp only [q9,ud] at h;exact h.1
  have R:ro=none \/ q9 y=true:=hr.imp id λh=>by simp only [q9,ud] at h;exact h.2
  obtain ⟨hc,d⟩:=d;have t:=hs;obtain ⟨g,M,r,N,H,s⟩:=t;have hV:=V.ev N hc;split at d
  ·rename_i b hb;rw [hb] at hV;simp only [V] at hV;refine wpIn_cond hV ?_;cases b with
   | true=>exact wR x T d hs hQ
   | false=>exact wR y R d hs hQ
  ·simp_all
 | .block id body,gb,g0,QA,env,h,a,w,hr,d,hs,Q,hQ=>by
  refine wpIn_block (wR body (hr.imp (λh=>h) λh=>h) d hs λe l h' a' w' E t=>?_);cases e with
  | exit id' =>
   simp only [Exit.inBlock]
   grind
  | _=>exact hQ _ _ _ _ _ E t
 | .loop body,gb,g0,QA,env,h,a,w,hr,d,hs,Q,hQ=>by
  have hrb:ro=none \/ q9 body=true:=hr.imp id λh=>h;obtain ⟨I,⟨m0,env0,h0,hk0,hI⟩,L⟩:=d;obtain ⟨ge,hge,re,N,H,s⟩:=hs;have hgb0:=s
  let p:Act->World->Nat->Prop:=λa w m=>∃env h,I m env h/\StM B w0 gb ge env h a w
  obtain ⟨g2,q,W,z,u⟩:=hk0 B w0 w w ge ge _ re (Gh.le.refl ge) re N;refine wpIn_loop (λa w=>∃m,p a w m) (λa w=>least (p a w)) ⟨_,env0,h0,hI,g2,q,W,z,H.mono u,s.trans q⟩ λa w1 hI'=>?_;obtain ⟨l,h',hI2,hs2⟩:=least_spec hI';obtain ⟨g,M,r,N,H,s⟩:=hs2;refine wR (gb:=gb) (g0:=g) body hrb (L _ l h' hI2) ⟨g,Gh.le.refl g,r,N,H,s⟩ λe env2 h2 a2 w2 E hs3=>?_;obtain ⟨g1,C,X,A,G,K⟩:=hs3;cases e with
  | normal =>
   obtain ⟨m,O,h3,hlt,S,Z⟩:=E;have hp:p a2 w2 m:=by
    rcases S with S | S
    ·obtain ⟨g2,q,W,z,u⟩:=S B w0 w2 w1 g g1 _ r C X A;exact ⟨O,h3,Z,g2,M.trans q,W,z,G.mono u,s.trans q⟩
    ·obtain ⟨g2,q,W,z,u⟩:=S B w0 w2 w ge g1 _ re (M.trans C) X A;exact ⟨O,h3,Z,g2,q,W,z,G.mono u,hgb0.trans q⟩
   exact ⟨⟨_,hp⟩,Nat.lt_of_le_of_lt (least_le hp) hlt⟩
  | _=>exact hQ _ _ _ _ _ E ⟨g1,hge.trans (M.trans C),X,A,G,K⟩
 | .rangeFunc f ps assign body,gb,g0,QA,env,h,a,w,hr,d,hs,Q,hQ=>rangeFunc_sound (hr.elim id λh=>by cases h) d hs hQ
 | .scope _,_,_,_,_,_,_,_,_,d,_,_,_=>d.elim
 | .goto _,_,_,_,_,_,_,_,_,d,_,_,_=>d.elim
 | .refuse _,_,_,_,_,_,_,_,_,d,_,_,_=>d.elim
end

mutual
def AV.pl:AV->Bool
 | .sl _ es=>plE es
 | .bsl _ _ | .nsl _ _ | .gsl _ _=>false
 | _=>true
def plL:List AV->Bool
 | []=>true
 | a::r=>a.pl&&plL r
def plE:List (List AV)->Bool
 | []=>true
 | e::r=>plL e&&plE r
end
theorem plE_map {α:Type} {row:α->List AV} (h:∀x,plL (row x)=true):∀L:List α,plE (L.map row)=true
 | []=>rfl
 | x::r=>by simp [plE,h x,plE_map h r]
mutual
theorem V.plain {g g':Gh} (d:∀b j v,g.Φ b j=some v->g'.Φ b j=some v):∀(a:AV) (v:Value),a.pure=true->a.pl=true->V g a v->V g' a v
 | .bool _,_,_,_,hv=>by simpa only [V] using hv
 | .int _ _,_,_,_,hv=>by simpa only [V] using hv
 | .str _,_,_,_,hv=>by simpa only [V] using hv
 | .nilp,_,_,_,hv=>by simpa only [V] using hv
 | .nilm,_,_,_,hv=>by simpa only [V] using hv
 | .nilf,_,_,_,hv=>by simpa only [V] using hv
 | .nili,_,_,_,hv=>by simpa only [V] using hv
 | .sl k es,_,_,hl,hv=>by
  simp only [V] at hv ⊢;simp only [AV.pl] at hl;obtain ⟨a,c,e,i,l,m⟩:=hv;exact ⟨a,c,e,i,l,m.imp id λ⟨b,o,e,hh⟩=>⟨b,o,e,VE.plain d b k o es hl hh⟩⟩
 | .fn f [] [],_,_,_,hv=>by
  simp only [V,VL] at hv ⊢;exact hv
theorem VC.plain {g g':Gh} (d:∀b j v,g.Φ b j=some v->g'.Φ b j=some v) (b:Nat):∀(o:Nat) (a5:List AV),plL a5=true->VC g b o a5->VC g' b o a5
 | _,[],_,_=>by simp only [VC]
 | o,a::r,hl,hv=>by
  simp only [VC] at hv ⊢;simp only [plL,ud] at hl;obtain ⟨⟨v,h0,i,l⟩,m⟩:=hv;exact ⟨⟨v,d _ _ _ h0,i,V.plain d a v i hl.1 l⟩,VC.plain d b (o+1) r hl.2 m⟩
theorem VE.plain {g g':Gh} (d:∀b j v,g.Φ b j=some v->g'.Φ b j=some v) (b k:Nat):∀(o:Nat) (a5:List (List AV)),plE a5=true->VE g b k o a5->VE g' b k o a5
 | _,[],_,_=>by simp only [VE]
 | o,e::r,hl,hv=>by
  simp only [VE] at hv ⊢;simp only [plE,ud] at hl;obtain ⟨⟨h0,i⟩,l⟩:=hv;exact ⟨⟨h0,VC.plain d b o e hl.1 i⟩,VE.plain d b k (o+k) r hl.2 l⟩
end
theorem VA.pl {g g':Gh} (c:∀b j v,g.Φ b j=some v->g'.Φ b j=some v):∀{a5:List AV} {vs:List Value},a5.all AV.pure=true->plL a5=true->VA g a5 vs->VA g' a5 vs
 | [],_,_,_,hv=>by simpa only [VA] using hv
 | a::r,_,hp,hl,hv=>by
  simp only [VA] at hv ⊢;simp only [plL,ud] at hl;simp only [uW,ud] at hp;obtain ⟨v,s,e,⟨h0,f⟩,d⟩:=hv;exact ⟨v,s,e,⟨h0,V.plain c a v hp.1 hl.1 f⟩,VA.pl c hp.2 hl.2 d⟩

def vV (P:Program) (env:List AV) (h:AH):List ResultVar->Option (List AV)
 | []=>some []
 | .tmp t::r=>match vV P env h r with
  | some vs=>some (env.getD t aundef::vs)
  | none=>none
 | .cell a t::r=>match P.underlying t,P.info? t with
  | some d,some i=>match qV h (zU d) i.size (env.getD a aundef),vV P env h r with
   | some v,some vs=>some (tyfix P t v::vs)
   | _,_=>none
  | _,_=>none
def aRes (P:Program) (fn:Func) (env:List AV) (h:AH):Option AV :=
 match vV P env h fn.results.toList with
 | some [v]=>some v
 | some vs=>some (.tup vs)
 | none=>none

def leV (a b:AV):Prop:=∀g v,V g a v->V g b v
theorem leV.refl (a:AV):leV a a:=λ_ _ h=>h
def finK (h0:AH) (K:AV->AH->Prop) (r0:AV) (h:AH):Prop:=∃r h',wk h0 [r0] h [r] h'/\K r h'
def bodyQ (P:Program) (fn:Func) (h0:AH) (K:AV->AH->Prop) (x:Exit) (env:List AV) (h:AH):Prop :=
 match x with
 | .normal | .ret=>match aRes P fn env h with
  | some r=>finK h0 K r h
  | none=>False
 | _=>False

section
variable {P:Program}
def resF (tmps:Array Value):ResultVar->Sem Value
 | .tmp t=>pure (tmps.getD t undef)
 | .cell a t=>do loadVar t (<- asAddr (tmps.getD a undef))
theorem results_eq (fn:Func) (tmps:Array Value):results fn tmps=(do let vs <- fn.results.mapM (resF tmps);pure (if h:vs.size=1 then vs[0] else .tuple vs)):=by
 rfl
theorem resL_sound {B:Nat} {w0 w:World} {g:Gh} {h:AH} (r:Rel B w0 g h w) {env:List AV} {tmps:Array Value} (e:VL g env tmps.toList):∀{c:List ResultVar} {vs:List AV},vV P env h c=some vs ->
  ∃us,(c.mapM (resF tmps)).run P w=.ok us w/\VL g vs us
 | [],vs,h=>by simp only [vV,uj] at h;subst h;exact ⟨[],by simp,by simp [VL]⟩
 | .tmp t::c,vs,h=>by
  simp only [vV] at h;split at h
  ·rename_i k j;cases h;obtain ⟨us,l,f⟩:=resL_sound r e j;refine ⟨tmps.getD t undef::us,by simp only [s5,Sem.run_bind,resF,Sem.run_pure,Result.andThen_ok,l],VL.cons ?_ f⟩;exact V.ev (a:={ tmps:=tmps,defers:=[] }) e (x:=.tmp t) rfl
  ·cases h
 | .cell ad t::c,vs,h=>by
  simp only [vV] at h;split at h
  ·rename_i d i hd hi;split at h
   ·rename_i v k s j;cases h;obtain ⟨us,l,f⟩:=resL_sound r e j;have q:=V.ev (a:={ tmps:=tmps,defers:=[] }) e (x:=.tmp ad) rfl;obtain ⟨u,b,m⟩:=load_sound r hd hi q s;refine ⟨u::us,?_,VL.cons m.tyfix f⟩;have o:(do loadVar t (<- asAddr (tmps.getD ad undef)):Sem Value).run P w=.ok u w:=by
     have y:Act.eval { tmps:=tmps,defers:=[] } (.tmp ad)=tmps.getD ad undef:=rfl;rw [y] at b;generalize tmps.getD ad undef=pv at b ⊢;cases pv with
     | pointer x =>
      cases x with
      | none=>simp [Instr.loadAt,Instr.sureAddr] at b
      | some x=>simpa [Instr.loadAt,Instr.sureAddr,asAddr] using b
     | _=>simp [Instr.loadAt,Instr.sureAddr] at b
    have z:(resF tmps (.cell ad t)).run P w=.ok u w:=o
    simp_all
   ·cases h
  ·cases h

theorem res_sound {B:Nat} {w0:World} {g:Gh} (r:Rel B w0 g h w) {env:List AV} {tmps:Array Value} (i:VL g env tmps.toList) {fn:Func} {v:AV} (c:aRes P fn env h=some v) :
  ∃u,(results fn tmps).run P w=.ok u w/\V g v u:=by
 unfold aRes at c;have key:∀vs,vV P env h fn.results.toList=some vs->∃us:List Value,(results fn tmps).run P w=.ok (if h:us.length=1 then us[0] else .tuple us.toArray) w/\VL g vs us:=by
  intro vs a;obtain ⟨us,e,b⟩:=resL_sound r i a;refine ⟨us,?_,b⟩;rw [results_eq,Array.mapM_eq_mapM_toList]
  simp_all
 split at c
 ·rename_i j a;cases c;obtain ⟨us,e,b⟩:=key _ a;simp only [VL] at b
  grind
 ·rename_i vs f a;cases c;obtain ⟨us,e,b⟩:=key _ a;have d:us.length ≠ 1:=by
   intro d;rw [<- b.length] at d;rcases vs with _ | ⟨x,_ | ⟨y,r⟩⟩ <;> simp at d
   simp_all
  refine ⟨.tuple us.toArray,by simp_all,?_⟩;simp only [V];exact ⟨_,rfl,b⟩
 ·cases c

theorem VL.undefs {g:Gh}:∀k,VL g (List.replicate k aundef) (List.replicate k undef)
 | 0=>by simp [VL]
 | k+1=>by simp only [sJ];exact VL.cons V.ofUndef (VL.undefs k)

theorem Rel.shut {B:Nat} {w0:World} {g:Gh} (r:Rel B w0 g h w) {c:Nat} (M:c ∈ g.δ):Rel B w0 { g with δ:=g.δ.filter (· != c) } h (w.putObj c (.deferred none)):=by
 have hd:=r.dfr c M;have f:∀b,b ≠ c->(w.putObj c (.deferred none)).heap[b]?=w.heap[b]?:=λb q=>World.putObj_heap_other q;have X:g.le { g with δ:=g.δ }:=Gh.le.refl g;refine ⟨⟨r.below.os,r.below.tape,r.below.output,by simpa using r.below.size,λb q=>(f b (by omega)).trans (r.below.block b q)⟩,by simpa using r.bsz,λb j v e=>?_,r.slen,λi x k hx H=>?_,r.tlen,λi t O=>?_,r.sinj,r.tinj,r.sep,λx hx=>?_,λi k hi H=>?_,r.rinj,
  λb x q=>(r.nb b x q).mono λ_ _ G=>⟨f b (by rintro rfl;exact G.2.1 M),⟨G.1,λJ=>G.2.1 (tm.1 J).1,G.2.2⟩,λh=>h⟩,λb q=>⟨by simpa using (r.ob b q).1,(r.ob b q).2⟩,λb q=>⟨(r.oa b q).1,λJ=>(r.oa b q).2.1 (tm.1 J).1,(r.oa b q).2.2⟩⟩
 ·have z:b ≠ c:=by
   rintro rfl
   have:=r.phi b j v e;unfold World.cell? at this
   simp_all
  exact (World.cell?_of_block (w:=w) (a:=⟨b,j,none⟩) (f b z)).trans (r.phi b j v e)
 ·obtain ⟨E,F,A,I⟩:=r.blk i x k hx H;refine ⟨E,by simp_all,?_,I⟩;have z:x ≠ c:=by grind
  have C:=f x z;cases k with
  | cells cs=>obtain ⟨vs,t,y,u⟩:=A;exact ⟨vs,t,C.trans y,VA.dd u⟩
  | bld T x=>obtain ⟨a,v,y,u,D,K⟩:=A;exact ⟨a,v,C.trans y,u,D,V.monoV (g.lv_dd _) _ _ K⟩
  | siter s pos=>exact C.trans A
  | mapo es clock=>obtain ⟨ents,n,y,u,D⟩:=A;exact ⟨ents,n,C.trans y,ME.dd u,D⟩
  | loop st pe env ps assign body=>obtain ⟨fn,tmps,d,y,u⟩:=A;exact ⟨fn,tmps,d,C.trans y,VL.dd u⟩
  | row _ _ _=>exact A
  | miter id n seen=>obtain ⟨m,y,u⟩:=A;exact ⟨m,y,C.trans u⟩
  | miter0=>exact C.trans A
  | other=>trivial
  | dead=>trivial
 ·obtain ⟨E,F⟩:=r.tok i t O;refine ⟨E,λb l e S=>?_⟩;have lo:=F b l e S;refine lo.mono (by simp) (f b ?_) λ_ _=>rfl
  rintro rfl
  obtain ⟨cs,ty,U,_⟩:=lo.cells
  simp_all
 ·simp only [tm,bne_iff_ne,ne_eq] at hx;have N:=r.dfr x hx.1
  simp_all
 ·have L:=r.row i k hi H;cases k with
  | row i2 u e2 =>
   obtain ⟨t,E,F,A,I,Q,W⟩:=L;refine ⟨t,E,F,A,I,Q,W.imp (λh=>h) ?_⟩
   rintro ⟨b,o,e,cs,ty,y,u,D,K,R⟩
   have z:b ≠ c:=by grind
   exact ⟨b,o,e,cs,ty,y,(f b z).trans u,VA.dd D,K,R⟩
  | dead=>trivial
  | _=>exact L.elim

theorem leaves_marks {B:Nat} {w0:World} {g0:Gh} {h:AH} {env:List AV} {fn:Func} {tmps:Array Value} {R:Ending->World->Prop}:∀(D:List Deferred) (cs:List Nat) (w:World) {g:Gh},D.map (·.target)=cs.map Target.collected->cs.Nodup ->
  (∀(a:World) (b:Gh),g0.le b->Rel B w0 b h a->VL b env tmps.toList->∃v,(results fn tmps).run P a=.ok v a/\R (.returned v) a) ->
  g0.le g->Rel B w0 g h w->VL g env tmps.toList->(∀c ∈ cs,c ∈ g.δ)->(∀c ∈ cs,c ∉ g0.δ)->LeavesInM (WF none) 0 P fn tmps R D .returning w
 | [],cs,w,g,e,_,hfin,hg,r,he,_,_=>hfin w g hg r he
 | d::D,cs,w,g,e,hnd,hfin,hg,r,he,h1,h2=>by
  cases cs with
  | nil=>simp at e
  | cons c cs =>
   simp only [uu,rm] at e;obtain ⟨hd,e⟩:=e;have f:=h1 c (by simp);refine ⟨by simp,.inl ⟨c,_,hd,run_takeDeferred (r.dfr c f).2.1,?_⟩⟩;refine leaves_marks D cs _ (g:={ g with δ:=g.δ.filter (· != c) }) e (List.nodup_cons.1 hnd).2 hfin ⟨hg.phi,hg.sig,hg.tau,λx hx=>?_,hg.new,hg.old⟩ (r.shut f) (VL.dd he) (λx hx=>?_) λx hx=>h2 x (by simp [hx])
   ·simp only [tm,bne_iff_ne,ne_eq];exact ⟨hg.del x hx,by grind⟩
   ·grind

theorem spec_of_body {f : FuncId} {fn : Func} {c : Code} (hf : P.funcs[f]? = some fn) (hb : fn.body = some c) (hname : (fn.name == "runtime.NumGoroutine") = false) {args : List AV} {h : AH} {K : AV → AH → Prop}
  (hw:wS P c (bodyQ P fn h K) (args++List.replicate (fn.ntmps - args.length) aundef) h):Spec P f args h K:=by
 have hn : ¬ fn.name = "runtime.NumGoroutine" := by simp_all
 refine ⟨λvs w=>by simp [callFunc,hf,hb,hn],λB w0 _ g w vs r hv=>?_⟩;refine callsIn_wide.1 (callsIn_of_wp_marks (F:=WF none) (n:=0) hf hb trivial ?_ rfl);have hlen:args.length=vs.size:=by rw [hv.length];rfl
 refine wR (B:=B) (w0:=w0) (gb:=g) (g0:=g) c (.inl rfl) hw ⟨g,Gh.le.refl g,r,?_,Marks.nil _ _,Gh.le.refl g⟩ λx env' h' a' w' hq hs=>?_
 ·simp only [tL,Array.toList_replicate,hlen];exact VL.append hv (VL.undefs _)
 ·obtain ⟨g',hg,r',he,hm,_⟩:=hs;have fin:(match aRes P fn env' h' with | some r=>finK h K r h' | none=>False) ->
    LeavesInM (WF none) 0 P fn a'.tmps (λe w''=>∃v' r h2 g2,e=.returned v'/\K r h2/\g.le g2/\Rel B w0 g2 h2 w''/\V g2 r v') a'.defers .returning w':=by
   intro hfin;split at hfin
   ·rename_i rv hr;obtain ⟨cs,hD,hnd,hcs⟩:=hm;refine leaves_marks a'.defers cs w' hD hnd ?_ hg r' he (λc hc=>(hcs c hc).1) (λc hc=>(hcs c hc).2);intro w'' g'' hg'' r'' he'';obtain ⟨u,h1,h2⟩:=res_sound r'' he'' hr;refine ⟨u,h1,u,?_⟩;obtain ⟨rv,h2',hwk,hK⟩:=hfin;obtain ⟨g2,k1,k2,k3,_⟩:=hwk B w0 w'' w g g'' [u] r hg'' r'' (VL.cons h2 (by simp [VL]));simp only [VL] at k3
    grind
   ·simp_all
  cases x with
  | normal=>exact fin hq
  | ret=>exact fin hq
  | _=>exact hq.elim
end
end Go.Vv
namespace Go.Vv
open Go
variable {a b v:AV} {r args:List AV} {f:FuncId} {h':AH}

def leL (a5 bs:List AV):Prop:=∀g vs,VL g a5 vs->VL g bs vs
theorem leV.any (a:AV):leV a .any:=λ_ _ _=>by simp only [V]
theorem leV.nil (k:Nat):leV .nilsl (.sl k []):=λ_ v h=>by
 simp only [V] at h ⊢
 grind
theorem leV.osl (o:Option Nat) (k:Nat) (es:List (List AV)):leV (.osl o k es) (.sl k es):=λ_ v h=>by
 simp only [V] at h ⊢
 grind
theorem leL.nil:leL [] []:=λ_ _ h=>h
theorem leL.refl (a5:List AV):leL a5 a5:=λ_ _ h=>h
theorem leL.cons {s:List AV} (h:leV a b) (k:leL r s):leL (a::r) (b::s):=λg vs c=>by
 simp only [VL] at c ⊢;obtain ⟨v,t,e,i,d⟩:=c;exact ⟨v,t,e,h _ _ i,k _ _ d⟩
theorem leL.eq {s:List AV} (k:leL r s):leL (a::r) (a::s):=leL.cons (leV.refl a) k
theorem leL.drop {s:List AV} (k:leL r s):leL (a::r) (.any::s):=leL.cons (leV.any a) k
theorem leL.d4 {c d:AV} {s:List AV} (k:leL r s):leL (a::b::c::d::r) (.any::.any::.any::.any::s):=.drop (.drop (.drop (.drop k)))
theorem leL.d16 {c d e f g h i j l m n o p q:AV} {s:List AV} (k:leL r s):leL (a::b::c::d::e::f::g::h::i::j::l::m::n::o::p::q::r) (.any::.any::.any::.any::.any::.any::.any::.any::.any::.any::.any::.any::.any::.any::.any::.any::s):=.d4 (.d4 (.d4 (.d4 k)))

theorem wk.refl (hd:AH) (env:List AV) (h:AH):wk hd env h env h:=λ_ _ _ _ _ g _ _ d r c=>⟨g,d,r,c,λ_ h=>h⟩
theorem wk.le {hd:AH} {env env':List AV} {h:AH} (k:leL env env'):wk hd env h env' h:=λ_ _ _ _ _ g _ _ d r c=>⟨g,d,r,k _ _ c,λ_ h=>h⟩
theorem wk.cut {hd:AH} {env:List AV} {h:AH} (j:zy hd.blks.length hd.toks.length env=true)
  (p:∀(i:Nat) (k:Blk),i < hd.blks.length->h.blks[i]?=some k->hd.blks[i]?=some k \/ k.low hd.blks.length hd.toks.length=true) :
  wk hd env h env (h.cut hd.blks.length hd.toks.length):=λ_ _ _ _ g1 g _ c n r l=>⟨g.cut hd.blks.length hd.toks.length,by rw [<- c.slen,<- c.tlen];exact Gh.le_cut n,
   r.cut _ _ (λi k hi e=>by
    rcases p i k hi e with d | d
    ·have m:i < g1.σ.length:=by rw [c.slen];exact hi
     have:=c.isLow d;rw [c.slen,c.tlen] at this;exact this
    ·exact d),VL.cut _ _ j l,λ_ h=>h⟩
theorem wk.trans {hd:AH} {env env' c:List AV} {h e:AH} (a:wk hd env h env' h') (b:wk hd env' h' c e):wk hd env h c e:=λB w0 w d g1 g vs i k r n=>by
 obtain ⟨g',j,m,l,t⟩:=a B w0 w d g1 g vs i k r n;obtain ⟨g2,p,u,q,s⟩:=b B w0 w d g1 g' vs i j m l
 grind

def cvo:Value->Option AV
 | .bool b=>some (.bool b)
 | .int k n=>some (.int k n)
 | .string s=>if s.size<=maxLen then some (.str s.data.toList) else none
 | .pointer none=>some .nilp
 | .slice none 0 0=>some .nilsl
 | .map none=>some .nilm
 | .nilFunc=>some .nilf
 | .nilIface=>some .nili
 | _=>none
def yg (env:List AV):Operand->Option AV
 | .tmp t=>env[t]?
 | .const (.agg cs)=>if okc (.agg cs) then some (cv (.agg cs)) else none
 | .const v=>cvo v
 | .global g=>some (.glob g)
 | .func f=>some (.fn (.func f) [] [])
theorem zC {env:List AV} {x:Operand} (h:yg env x=some v):zV x=true/\ev env x=v:=by
 cases x with
 | tmp t =>
  simp only [yg] at h;refine ⟨rfl,?_⟩;simp only [ev]
  simp_all
 | const c =>
  cases c with
  | agg cs =>
   simp only [yg] at h;split at h
   ·rename_i d;cases h;exact ⟨d,rfl⟩
   ·cases h
  | string s =>
   simp only [yg,cvo] at h;split at h
   ·rename_i d;cases h;exact ⟨by simpa [zV,okc,okc1] using d,rfl⟩
   ·cases h
  | slice a b c =>
   simp only [yg] at h;unfold cvo at h;split at h <;> first | cases h | skip
   all_goals first | (cases h;exact ⟨rfl,rfl⟩) | skip
   all_goals simp_all [zV,okc,okc1,ev,cv,cv1]
  | pointer a =>
   cases a with
   | none=>simp only [yg,cvo] at h;cases h;exact ⟨rfl,rfl⟩
   | some a=>simp only [yg,cvo] at h;cases h
  | map a =>
   cases a with
   | none=>simp only [yg,cvo] at h;cases h;exact ⟨rfl,rfl⟩
   | some a=>simp only [yg,cvo] at h;cases h
  | _=>simp only [yg,cvo] at h;first | (cases h;exact ⟨rfl,rfl⟩) | cases h
 | global g=>simp only [yg] at h;cases h;exact ⟨rfl,rfl⟩
 | func f=>simp only [yg] at h;cases h;exact ⟨rfl,rfl⟩

@[irreducible] def gv (b:Bool) (v:AV):AV:=if b then v else aundef
theorem qu (v:AV):gv true v=v:=by simp [gv]
theorem qK (v:AV):gv false v=aundef:=by simp [gv]

def qx (d:Option Tmp) (env:List AV) (v:AV):Option (List AV) :=
 match d with
 | some d=>some (env.set d v)
 | none=>some env
theorem yL {d:Option Tmp} {env env':List AV} (h:qx d env v=some env'):setd env d v=env':=by
 cases d <;> simp only [qx,uj] at h <;> exact h

section
variable {P:Program} {ops:Array Oper} {Q:List AV->AH->Prop} {o:Oper} {rest:List Oper} {env env':List AV} {h:AH}

theorem ops_nil (hk:Q env h):zA P ops Q [] env h:=hk
theorem zc (e:aG ops o env=some true) (d:zn P o env h=.ok v h') (hd:qx o.dst env v=some env') (c:zA P ops Q rest env' h'):zA P ops Q (o::rest) env h:=by
 refine wJ ?_;simp only [e,gwp,d,rwp,yL hd];exact c
theorem ops_len {n:Nat} (e:aG ops o env=some true) (d:zn P o env h=.len n v h') (hd:qx o.dst env v=some env') (c:n<=maxLen->zA P ops Q rest env' h'):zA P ops Q (o::rest) env h:=by
 refine wJ ?_;simp only [e,gwp,d,rwp,yL hd];exact c
theorem ops_call {K:AV->AH->Prop} (e:aG ops o env=some true) (d:zn P o env h=.call f args) (hs:Spec P f args h K)
  (c:∀v h',K v h'->zA P ops Q rest (setd env o.dst v) h'):zA P ops Q (o::rest) env h:=by
 refine wJ ?_;simp only [e,gwp,d,rwp];exact hs.mono c
theorem ops_skip (c:aG ops o env=some false) (hd:qx o.dst env aundef=some env') (d:zA P ops Q rest env' h):zA P ops Q (o::rest) env h:=by
 refine wJ ?_;simp only [c,gwp,yL hd];exact d
theorem qa {b:Bool} (d:aG ops o env=some b) (e:b=true->zn P o env h=.ok v h) (hd:qx o.dst env (gv b v)=some env') (c:zA P ops Q rest env' h):zA P ops Q (o::rest) env h:=by
 cases b with
 | true=>rw [qu] at hd;exact zc d (e rfl) hd c
 | false=>rw [qK] at hd;exact ops_skip d hd c
theorem ops_glen {b:Bool} {n:Nat} (d:aG ops o env=some b) (e:b=true->zn P o env h=.len n v h) (hd:qx o.dst env (gv b v)=some env') (c:(b=true->n<=maxLen)->zA P ops Q rest env' h):zA P ops Q (o::rest) env h:=by
 cases b with
 | true=>rw [qu] at hd;exact ops_len d (e rfl) hd λi=>c λ_=>i
 | false=>rw [qK] at hd;exact ops_skip d hd (c λg=>by cases g)
theorem zH {b:Bool} (d:aG ops o env=some b) (g:b=true->zn P o env h=.call f args) (hs:b=true->Spec P f args h λr h'=>r=v/\h'=h)
  (hd:qx o.dst env (gv b v)=some env') (c:zA P ops Q rest env' h):zA P ops Q (o::rest) env h:=by
 cases b with
 | true=>exact ops_call d (g rfl) (hs rfl) λr h' ⟨e,i⟩=>by subst e;subst i;rw [qu] at hd;rw [yL hd];exact c
 | false=>rw [qK] at hd;exact ops_skip d hd c
end
theorem yO {P:Program} {ops:Array Oper} {Q:List AV->AH->Prop} {o:Oper} {rest:List Oper} {env env':List AV} {h:AH} (g:aG ops o env=some true) (e:zn P o env h=.call f args) (hs:Spec P f args h λr h'=>r=v/\h'=h)
  (hd:qx o.dst env v=some env') (c:zA P ops Q rest env' h):zA P ops Q (o::rest) env h :=
 ops_call g e hs λr h' ⟨d,i⟩=>by subst d;subst i;rw [yL hd];exact c
end Go.Vv
namespace Go.Vv
open Go
variable {t e u:TypeId} {v v' a b:AV} {k k' off n:Nat} {x y i:Operand} {c:Call} {d:TypeDesc} {cs:List AV}

class Ty (P:Program) (t:TypeId) (d:outParam TypeDesc) (k:outParam Nat):Prop where
 u:P.underlying t=some d
 i:∃i,P.info? t=some i/\i.size=k
class Fo (P:Program) (t:TypeId) (f:Nat) (off:outParam Nat) (u:outParam TypeId) (k:outParam Nat):Prop where
 o:qL P t f=some (off,u)
 i:∃i,P.info? u=some i/\i.size=k
class El (P:Program) (t:TypeId) (e:outParam TypeId) (k:outParam Nat):Prop where
 u:P.underlying t=some (.slice e)
 i:∃i,P.info? e=some i/\i.size=k/\i.bytes<=65536/\0 < k/\(i.zero.map (·.cells.size))=some k

def tyo:AV->Option AV
 | .nilsl=>none
 | .bool b=>some (.bool b)
 | .int k n=>some (.int k n)
 | .str s=>some (.str s)
 | .ptr i o=>some (.ptr i o)
 | .fptr c=>some (.fptr c)
 | .sl k e=>some (.sl k e)
 | .osl q k e=>some (.osl q k e)
 | .msl a b c d=>some (.msl a b c d)
 | .rsl a b c d=>some (.rsl a b c d)
 | .rptr a b c d e=>some (.rptr a b c d e)
 | .rsuf a b c d e=>some (.rsuf a b c d e)
 | .map i=>some (.map i)
 | .fn f a b=>some (.fn f a b)
 | .iface t v=>some (.iface t v)
 | .agg c=>some (.agg c)
 | .tup v=>some (.tup v)
 | .glob g=>some (.glob g)
 | .yld i=>some (.yld i)
 | .bsl k e=>some (.bsl k e)
 | .nsl k e=>some (.nsl k e)
 | .gsl k n=>some (.gsl k n)
 | .gptr m=>some (.gptr m)
 | .any=>some .any
 | .opq=>some .opq
 | .nilp=>some .nilp
 | .nilm=>some .nilm
 | .nilf=>some .nilf
 | .nili=>some .nili
theorem zb {P:Program} (h:tyo v=some v'):tyfix P t v=v':=by
 cases v <;> simp only [tyo] at h <;> first | (cases h;rfl) | cases h
theorem ty_nil {P:Program} (h:El P t e k):tyfix P t .nilsl=.osl none k []:=by
 obtain ⟨i,f,g,_⟩:=h.i;simp only [tyfix,h.u,Program.cellsOf,f];congr 1
section
variable {P:Program} {o:Oper} {env:List AV} {h:AH}

theorem xZ {x:Operand} {v v':AV} (ho:o.op=.move x) (hx:yg env x=some v) (ht:tyfix P o.type v=v'):zn P o env h=.ok v' h:=by
 obtain ⟨h1,h2⟩:=zC hx;simp only [zn,ho,h1,uq,h2,ht]
theorem yG (f:o.op=.assign x) (hx:yg env x=some v) (l:tyfix P o.type v=v'):zn P o env h=.ok v' h:=by
 obtain ⟨j,g⟩:=zC hx;simp only [zn,f,j,uq,g,l]
theorem s_pick {c a b:Operand} {t:Bool} {x y:AV} (g:o.op=.pick c a b) (z:yg env c=some (.bool t)) (l:yg env a=some x) (w:yg env b=some y) (j:(if t then x else y)=v):zn P o env h=.ok v h:=by
 obtain ⟨q,m⟩:=zC z;obtain ⟨s,p⟩:=zC l;obtain ⟨r,f⟩:=zC w;simp only [zn,g,q,s,r,uV,uq,m,p,f,j]
theorem xX {op:BinOp} (g:o.op=.binOp op t x y u) (hx:yg env x=some a) (j:yg env y=some b) (f:yd P op t a b=some v):zn P o env h=.ok v h:=by
 obtain ⟨p,l⟩:=zC hx;obtain ⟨q,m⟩:=zC j;simp only [zn,g,p,q,uV,uq,l,m,aNilq_none f,f,oo,rH]
theorem s_un {op:UnOp} (f:o.op=.unOp op t x) (hx:yg env x=some a) (g:aUn op a=some v):zn P o env h=.ok v h:=by
 obtain ⟨l,j⟩:=zC hx;simp only [zn,f,l,uq,j,g,oo]
theorem yF {s:TypeId} {f:TypeDesc} (g:o.op=.convert s t x) (hs:Ty P s d k) (p:Ty P t f k') (hx:yg env x=some a) (j:aConvert f a=some v):zn P o env h=.ok v h:=by
 obtain ⟨m,l⟩:=zC hx;simp only [zn,g,m,uq,l,hs.u,p.u,j,oo]
theorem s_load (j:o.op=.load t x) (f:Ty P t d k) (hx:yg env x=some a) (l:qV h (zU d) k a=some v) (g:tyfix P t v=v'):zn P o env h=.ok v' h:=by
 obtain ⟨r,m⟩:=zC hx;obtain ⟨i,q,p⟩:=f.i;simp only [zn,j,f.u,q,p,m,l,uU,g,oo]
theorem s_store {f:AV} {h':AH} (l:o.op=.store t x y) (w:Ty P t d k) (hx:yg env x=some a) (p:yg env y=some b) (g:tyfix P t b=f) (m:aStore h k a f=some h') :
  zn P o env h=.ok aundef h':=by
 obtain ⟨A,q⟩:=zC hx;obtain ⟨z,r⟩:=zC p;obtain ⟨i,s,j⟩:=w.i;simp only [zn,l,z,uq,s,j,q,r,g,m,oh]
theorem s_alloc (f:o.op=.alloc t) (g:yR P t=some cs):zn P o env h=.ok (.ptr h.blks.length 0) (h.new (.cells cs)):=by
 simp only [zn,f,g]
theorem s_box {a':AV} (g:o.op=.box t x) (hx:yg env x=some a) (f:tyfix P t a=a') (m:a'.cells?=some cs):zn P o env h=.ok (.ptr h.blks.length 0) (h.new (.cells cs)):=by
 obtain ⟨l,j⟩:=zC hx;simp only [zn,g,l,uq,j,f,m]
theorem s_nilCheck (j:o.op=.nilCheck x) (hx:yg env x=some a) (g:(match a with | .ptr id p=>some (AV.ptr id p) | .fptr cs=>some (.fptr cs) | .fn (.func f) p q=>some (.fn (.func f) p q) | _=>none)=some v) :
  zn P o env h=.ok v h:=by
 obtain ⟨m,l⟩:=zC hx;simp only [zn,j,m,uq,l];split at g <;> first | (cases g;rfl) | cases g
theorem vt {f:Nat} (j:o.op=.fieldAddr t x f) (g:Fo P t f off u (k+1)) (hx:yg env x=some a) (l:vn off a=some v):zn P o env h=.ok v h:=by
 obtain ⟨q,m⟩:=zC hx;obtain ⟨i,r,p⟩:=g.i;simp only [zn,j,g.o,r,p,q,m,l,oo];simp
theorem s_field {f:Nat} (j:o.op=.field t x f) (g:Fo P t f off u k) (hd:Ty P u d k') (hx:yg env x=some a) (l:aPart (zU d) off k a=some v) (r:tyfix P u v=v') :
  zn P o env h=.ok v' h:=by
 obtain ⟨q,m⟩:=zC hx;obtain ⟨i,s,p⟩:=g.i;simp only [zn,j,g.o,hd.u,s,p,q,uq,m,l,uU,r,oo]
theorem s_indexAddr (l:o.op=.indexAddr t x i) (f:El P t e k) (hx:yg env x=some a) (hi:yg env i=some b) (m:vm k a b=some v):zn P o env h=.ok v h:=by
 obtain ⟨r,p⟩:=zC hx;obtain ⟨w,q⟩:=zC hi;obtain ⟨j,s,g,_⟩:=f.i;simp only [zn,l,r,w,uV,uq,p,q,f.u,s,g,m,oo]
theorem vG (g:o.op=.indexAddr t x i) (w:Ty P t (.array n e) k) (l:Ty P e d k') (hx:yg env x=some a) (hi:yg env i=some b)
  (m:aIndexArr n k' a b=some v):zn P o env h=.ok v h:=by
 obtain ⟨r,p⟩:=zC hx;obtain ⟨z,q⟩:=zC hi;obtain ⟨j,s,f⟩:=l.i;simp only [zn,g,r,z,uV,uq,p,q,w.u,s,f,m,oo]
theorem s_indexStr (f:o.op=.index t x i) (p:Ty P t .string k) (hx:yg env x=some a) (hi:yg env i=some b) (g:aIndexStr a b=some v):zn P o env h=.ok v h:=by
 obtain ⟨m,j⟩:=zC hx;obtain ⟨q,l⟩:=zC hi;simp only [zn,f,m,q,uV,uq,j,l,p.u,g,oo]
theorem s_indexAgg (m:o.op=.index t x i) (z:Ty P t (.array n e) k) (f:Ty P e d k') (hx:yg env x=some a) (hi:yg env i=some b)
  (p:aIndexAgg (zU d) n k' a b=some v) (g:tyfix P e v=v'):zn P o env h=.ok v' h:=by
 obtain ⟨s,q⟩:=zC hx;obtain ⟨A,r⟩:=zC hi;obtain ⟨j,w,l⟩:=f.i;simp only [zn,m,s,A,uV,uq,q,r,z.u,f.u,w,l,p,uU,g,oo]
theorem yu {t:Operand} {i:Nat} {vs:List AV} (g:o.op=.extract t i) (hx:yg env t=some (.tup vs)) (j:vs[i]?=some v) (f:tyfix P o.type v=v'):zn P o env h=.ok v' h:=by
 obtain ⟨m,l⟩:=zC hx;simp only [zn,g,m,uq,l,j,uU,f,oo]
theorem vg {f:Fn} {a b:Array Operand} {a5 bs:List AV} (w:o.op=.makeFunc f a b) (z:a.toList.mapM (yg env)=some a5) (p:b.toList.mapM (yg env)=some bs):zn P o env h=.ok (.fn f a5 bs) h:=by
 have key:∀(l:List Operand) (a5:List AV),l.mapM (yg env)=some a5->l.all zV=true/\l.map (ev env)=a5:=by
  intro l
  induction l with
  | nil=>intro a5 h;simp at h;subst h;exact ⟨rfl,rfl⟩
  | cons x r ih =>
   intro a5 h;simp only [s5,sL,si,rp,uj] at h;obtain ⟨v,A,vs,B,rfl⟩:=h;obtain ⟨s,m⟩:=zC A
   simp_all
 obtain ⟨s,m⟩:=key _ _ z;obtain ⟨C,q⟩:=key _ _ p;have g:a.all zV=true:=by simp_all
 have j:b.all zV=true:=by simp_all
 simp only [zn,w,g,j,uV,uq,m,q]
def argo (env:List AV):List Operand->List TypeId->Option (List (TypeId×AV))
 | [],[]=>some []
 | x::r,t::ts=>match yg env x,argo env r ts with
  | some v,some vs=>some ((t,v)::vs)
  | _,_=>none
 | _,_=>none
def fixL (P:Program):List (TypeId×AV)->List AV
 | []=>[]
 | (t,v)::r=>tyfix P t v::fixL P r
theorem argo_ok:∀{xs:List Operand} {ts:List TypeId} {l:List (TypeId×AV)},argo env xs ts=some l->xs.all zV=true/\xs.length=ts.length/\(xs.zip ts).map (λp=>tyfix P p.2 (ev env p.1))=fixL P l
 | [],[],l,h=>by simp only [argo,uj] at h;subst h;exact ⟨rfl,rfl,rfl⟩
 | x::r,t::ts,l,h=>by
  simp only [argo] at h;split at h
  ·rename_i v vs g f;cases h;obtain ⟨s,j⟩:=zC g;obtain ⟨w,m,q⟩:=argo_ok f;refine ⟨by simp_all,by simp [m],?_⟩;simp only [rV,uu,q,j,fixL]
  ·cases h
 | [],_::_,_,h=>by simp [argo] at h
 | _::_,[],_,h=>by simp [argo] at h
theorem s_call {f:Operand} {g:FuncId} {l:List (TypeId×AV)} {first caps args:List AV} (q:o.op=.call c) (B:c.callee=.value f) (p:yg env f=some (.fn (.func g) first caps)) (r:argo env c.args.toList c.argTypes.toList=some l)
  (s:first++fixL P l++caps=args):zn P o env h=.call g args:=by
 obtain ⟨z,w⟩:=zC p;obtain ⟨D,C,A⟩:=argo_ok (P:=P) r;have m:c.args.all zV=true:=by grind
 have j:(c.args.size==c.argTypes.size)=true:=by simp_all
 simp only [zn,q,m,j,uV,uq,B,z,w,A,s];simp
theorem s_lenStr {s:List UInt8} (f:o.op=.call c) (p:c.callee=.builtin .len) (hs:c.args=#[x]) (m:c.argTypes=#[t]) (l:Ty P t .string k) (hx:yg env x=some (.str s)) :
  zn P o env h=.len s.length (.int .i64 s.length) h:=by
 obtain ⟨j,g⟩:=zC hx;simp [zn,f,hs,m,p,j,qR,l.u,g]
theorem qq (f:o.op=.call c) (p:c.callee=.builtin .len) (hs:c.args=#[x]) (m:c.argTypes=#[t]) (l:El P t e k) (hx:yg env x=some a) (q:aLen a=some n) :
  zn P o env h=.len n (.int .i64 n) h:=by
 obtain ⟨j,g⟩:=zC hx;simp [zn,f,hs,m,p,j,qR,l.u,g,q]
theorem s_append {A:TypeId} {a' g:AV} {l:List (List AV)} {h':AH} (B:o.op=.call c) (K:c.callee=.builtin .append) (hs:c.args=#[x,y]) (p:c.argTypes=#[t,u]) (j:El P t e k)
  (f:El P u A k') (hx:yg env x=some a) (D:yg env y=some b) (J:tyfix P t a=a') (q:tyfix P u b=g) (F:qU k g=some l) (I:aAppend h k a' l=some (v,h')):zn P o env h=.ok v h':=by
 obtain ⟨s,m⟩:=zC hx;obtain ⟨E,r⟩:=zC D;obtain ⟨i,z,G,w,C,H⟩:=j.i;subst G;simp [zn,B,hs,p,K,s,E,qR,j.u,f.u,m,r,z,w,C,H,J,q,F,I,ovh]
end
end Go.Vv
namespace Go.Vv
open Go
variable {id:Nat} {b body:Code} {N:List AV->AH->Prop} {K:AV->AH->Prop}

def seqQ (P:Program) (h0:AH) (b:Code) (Q:Exit->List AV->AH->Prop):Exit->List AV->AH->Prop:=λx env' h'=>match x with
 | .normal=>∃env2 h2,wk h0 env' h' env2 h2/\wS P b Q env2 h2
 | x=>Q x env' h'
def blockQ (id:Nat) (Q:Exit->List AV->AH->Prop):Exit->List AV->AH->Prop:=λx env h=>match x with
 | .exit id'=>if id'=id then Q .normal env h else Q (.exit id') env h
 | x=>Q x env h
def loopQ (N:List AV->AH->Prop) (Q:Exit->List AV->AH->Prop):Exit->List AV->AH->Prop:=λx env' h'=>match x with
 | .normal=>N env' h'
 | x=>Q x env' h'

def vE (env:List AV):List (Nat×AV)->List AV
 | []=>env
 | (i,v)::r=>vE (env.set i v) r
def zu:Nat->Nat->List (Nat×AV)->List (Nat×AV)
 | _,0,m=>m
 | i,n+1,m=>(i,.any)::zu (i+1) n m

section
variable {P:Program} {Q:Exit->List AV->AH->Prop} {env:List AV} {h:AH}
theorem r_skip (a:Q .normal env h):wS P .skip Q env h:=a
theorem r_label (a:Q .normal env h):wS P (.label id) Q env h:=a
theorem r_ret (a:Q .ret env h):wS P .ret Q env h:=a
theorem r_exit (a:Q (.exit id) env h):wS P (.exit id) Q env h:=a
theorem r_region {l:List Oper} (a:zA P ⟨l⟩ (Q .normal) l env h):wS P (.region id ⟨l⟩ false) Q env h:=a
theorem r_seq {a:Code} (c:wS P a (seqQ P h b Q) env h):wS P (.seq a b) Q env h:=c
theorem r_block {a:Code} (c:wS P a (blockQ id Q) env h):wS P (.block id a) Q env h:=c
theorem r_cond {c:Operand} {t e:Code} {b:Bool} (d:yg env c=some (.bool b)) (i:b=true->wS P t Q env h) (f:b=false->wS P e Q env h):wS P (.cond c t e) Q env h:=by
 obtain ⟨a,g⟩:=zC d;refine ⟨a,?_⟩
 simp_all
theorem q_seq {h0:AH} (a:wS P b Q env h):seqQ P h0 b Q .normal env h:=⟨env,h,wk.refl _ _ _,a⟩
theorem q_seqw {h0:AH} {a:List AV} {c:AH} (d:wk h0 env h a c) (e:wS P b Q a c):seqQ P h0 b Q .normal env h:=⟨a,c,d,e⟩
theorem q_seq_exit {h0:AH} (a:Q (.exit id) env h):seqQ P h0 b Q (.exit id) env h:=a
theorem q_seq_ret {h0:AH} (a:Q .ret env h):seqQ P h0 b Q .ret env h:=a
theorem q_block (a:Q .normal env h):blockQ id Q .normal env h:=a
theorem q_block_ret (a:Q .ret env h):blockQ id Q .ret env h:=a
theorem q_block_hit (a:Q .normal env h):blockQ id Q (.exit id) env h:=by simp only [blockQ,uq];exact a
theorem q_block_miss {j:Nat} (a:j ≠ id) (c:Q (.exit j) env h):blockQ id Q (.exit j) env h:=by simp only [blockQ,uG a];exact c
theorem q_loop (a:N env h):loopQ N Q .normal env h:=a
theorem q_loop_exit (a:Q (.exit id) env h):loopQ N Q (.exit id) env h:=a
theorem q_loop_ret (a:Q .ret env h):loopQ N Q .ret env h:=a
theorem r_loop2 {σ:Type} (E:σ->List AV) (H:σ->AH) (d:σ->Prop) (g:σ->Nat) (i:σ) (h0:wk h env h (E i) (H i)) (hi:d i)
  (hs:∀s,d s->wS P body (loopQ (λa h'=>∃c,d c/\g c < g s/\(wk (H s) a h' (E c) (H c) \/ wk h a h' (E c) (H c))) Q) (E s) (H s)):wS P (.loop body) Q env h:=by
 refine ⟨λn env h=>∃s,g s=n/\d s/\env=E s/\h=H s,⟨_,_,_,h0,i,rfl,hi,rfl,rfl⟩,?_⟩
 rintro n _ _ ⟨s,k,hi,rfl,rfl⟩
 subst k;have:=hs s hi;have e:(loopQ (λa h'=>∃c,d c/\g c < g s/\(wk (H s) a h' (E c) (H c) \/ wk h a h' (E c) (H c))) Q) =
   (loopQ (λa h'=>∃m f j,m < g s/\(wk (H s) a h' f j \/ wk h a h' f j)/\(∃c,g c=m/\d c/\f=E c/\j=H c)) Q):=by
  grind
 rw [e] at this;exact this
theorem fin_cut {h0:AH} {v a:AV} (d:leV v a) (e:a.low h0.blks.length h0.toks.length=true)
  (f:∀(i:Nat) (k:Blk),i < h0.blks.length->h.blks[i]?=some k->h0.blks[i]?=some k \/ k.low h0.blks.length h0.toks.length=true) (c:K a (h.cut h0.blks.length h0.toks.length)):finK h0 K v h :=
 ⟨a,_,(wk.le (leL.cons d leL.nil)).trans (wk.cut (by simp [zy,e]) f),c⟩
theorem xu {h0 h':AH} {v a:AV} (c:wk h0 [v] h [a] h') (d:K a h'):finK h0 K v h:=⟨a,h',c,d⟩
theorem q_end {fn:Func} {h0:AH} (a:bodyQ P fn h0 K .ret env h):bodyQ P fn h0 K .normal env h:=a
end
theorem leV.of_eq {a b:AV} (h:a=b):leV a b:=h ▸ leV.refl a
theorem rwp_mono {P:Program} {h:AH} {r:Res} {K':AV->AH->Prop} (c:∀v h',K v h'->K' v h') (a:rwp P h r K):rwp P h r K':=by
 cases r with
 | ok v h'=>exact c _ _ a
 | len n v h'=>exact λe=>c _ _ (a e)
 | call f args=>exact Spec.mono a c
 | round id args=>exact SpecY.mono a c
 | any S=>exact λv h' d=>c _ _ (a v h' d)
 | fail=>exact a
theorem awpOps_mono {P:Program} {a:Array Oper} {Q Q':List AV->AH->Prop} (c:∀e h,Q e h->Q' e h):∀(rest:List Oper) (env:List AV) (h:AH),zA P a Q rest env h->zA P a Q' rest env h
 | [],_,_,hk=>c _ _ hk
 | o::rest,_,_,⟨env,h,hs,hk⟩=>by
  refine ⟨env,h,hs,?_⟩;cases hb:aG a o env with
  | none=>rw [hb] at hk;exact hk
  | some b =>
   rw [hb] at hk;cases b with
   | true=>exact hk.imp (rwp_mono λv h'=>awpOps_mono c rest _ _) (bwp_mono λv h'=>awpOps_mono c rest _ _)
   | false=>exact awpOps_mono c rest _ _ hk
theorem awpDraw_mono {P:Program} {a:Array Oper} {Ns:List Nat} {F:Nat->AH->Prop} {Q Q':List AV->AH->Prop} (c:∀e h,Q e h->Q' e h):∀(rest:List Oper) (i:Nat) (env:List AV) (h:AH),zD P a Ns F Q i rest env h->zD P a Ns F Q' i rest env h
 | [],_,_,_,hk=>c _ _ hk
 | _::rest,i,_,_,⟨v,h',h1,h2,h4,h3⟩=>⟨v,h',h1,h2,h4,awpDraw_mono c rest (i+1) _ _ h3⟩
theorem awpAny_mono {P:Program} {d:Array Oper} {Q Q':List AV->AH->Prop} (f:∀e h,Q e h->Q' e h):∀(m:Nat) (a:Array Bool) (env:List AV) (h:AH),awpAny P d Q m a env h->awpAny P d Q' m a env h
 | 0,_,_,_,c=>⟨c.1,f _ _ c.2⟩
 | m+1,a,env,h,c=>by
  refine ⟨λe=>f _ _ (c.1 e),λi hi o g=>?_⟩;have c:=c.2 i hi o g;cases hb:aG d o env with
  | none=>rw [hb] at c;exact c
  | some b =>
   rw [hb] at c;cases b with
   | true=>exact c.imp (rwp_mono λv h'=>awpAny_mono f m _ _ _) (bwp_mono λv h'=>awpAny_mono f m _ _ _)
   | false=>exact awpAny_mono f m _ _ _ c
theorem vd {P:Program}:∀{Q Q':Exit->List AV->AH->Prop} (_:∀x e h,Q x e h->Q' x e h) (c:Code) (env:List AV) (h:AH),wS P c Q env h->wS P c Q' env h
 | _,_,hq,.skip,_,_,hk=>hq _ _ _ hk
 | _,_,hq,.label _,_,_,hk=>hq _ _ _ hk
 | _,_,hq,.exit _,_,_,hk=>hq _ _ _ hk
 | _,_,hq,.ret,_,_,hk=>hq _ _ _ hk
 | _,_,hq,.region _ _ true,_,_,.inl ⟨Ns,F,j,k,d⟩=>.inl ⟨Ns,F,j,k,awpDraw_mono (hq .normal) _ _ _ _ d⟩
 | _,_,hq,.region _ _ true,_,_,.inr ⟨j,d⟩=>.inr ⟨j,awpAny_mono (hq .normal) _ _ _ _ d⟩
 | _,_,hq,.region _ _ false,_,_,hk=>awpOps_mono (hq .normal) _ _ _ hk
 | _,_,hq,.seq a b,_,_,hk=>vd (λx i h' j=>by
   cases x with
   | normal=>obtain ⟨u,d,k,l⟩:=j;exact ⟨u,d,k,vd hq b _ _ l⟩
   | _=>exact hq _ _ _ j) a _ _ hk
 | _,_,hq,.cond c t e,env,_,⟨j,d⟩=>by
  refine ⟨j,?_⟩;cases hc:ev env c with
  | bool b =>
   rw [hc] at d;cases b with
   | true=>exact vd hq t _ _ d
   | false=>exact vd hq e _ _ d
  | _=>rw [hc] at d;exact d
 | _,_,hq,.block id body,_,_,hk=>vd (λx i h' j=>by
   cases x with
   | exit id' =>
    grind
   | _=>exact hq _ _ _ j) body _ _ hk
 | _,_,hq,.loop body,_,_,⟨I,j,d⟩=>⟨I,j,λn env h v=>vd (λx i h' k=>by
   cases x with
   | normal=>exact k
   | _=>exact hq _ _ _ k) body _ _ (d n env h v)⟩
 | _,_,hq,.rangeFunc f ps assign body,env,h,⟨j,d,k,env2,h5,hwk,l⟩=>by
  refine ⟨j,d,k,env2,h5,hwk,?_⟩;split at l
  ·rename_i g first caps hx
   refine l.mono λr h' ⟨w,p,i,q,z,s,o,y,m⟩=>⟨w,p,i,q,z,s,o,y,?_⟩
   split at m
   ·simp_all
   ·simp_all
   ·simp_all
   ·exact m
  ·exact l
 | _,_,_,.scope _,_,_,hk=>hk.elim
 | _,_,_,.goto _,_,_,hk=>hk.elim
 | _,_,_,.refuse _,_,_,hk=>hk.elim
theorem r_loop {P:Program} {Q:Exit->List AV->AH->Prop} {env:List AV} {h:AH} {σ:Type} (E:σ->List AV) (H:σ->AH) (a:σ->Prop) (f:σ->Nat) (e:σ) (h0:wk h env h (E e) (H e)) (hi:a e)
  (hs:∀s,a s->wS P body (loopQ (λc h'=>∃d,a d/\f d < f s/\wk (H s) c h' (E d) (H d)) Q) (E s) (H s)):wS P (.loop body) Q env h :=
 r_loop2 E H a f e h0 hi λs hi=>vd (λx c h' g=>by
  cases x with
  | normal=>obtain ⟨d,j,i,k⟩:=g;exact ⟨d,j,i,.inl k⟩
  | _=>exact g) _ _ _ (hs s hi)
end Go.Vv
