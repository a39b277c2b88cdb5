/- A region that draws its order, proved. -/
import Derived.Test.YthnmdghfecoafaaGreatVvPo
set_option linter.all false
namespace Go.Vv
open Go Go.RowKit Go.Lib

def dstAt (ops:Array Oper) (k:Nat):Option Tmp:=(ops[k]?).bind (·.dst)
def wv (ops:Array Oper) (Ns:List Nat) (k:Nat):Bool:=match ops[k]? with | some o=>effN Ns k o.op | none=>false
def fE (ops:Array Oper) (vs:Nat->AV) (S:Nat->Bool) (env:List AV):Nat->List AV
 | 0=>env
 | k+1=>if S k then setd (fE ops vs S env k) (dstAt ops k) (vs k) else fE ops vs S env k
def fH (ops:Array Oper) (Ns:List Nat) (hs:Nat->AH) (S:Nat->Bool):Nat->AH
 | 0=>hs 0
 | k+1=>if S k&&wv ops Ns k then hs (k+1) else fH ops Ns hs S k

section
variable {ops:Array Oper} {Ns:List Nat} {vs:Nat->AV} {hs:Nat->AH} {env:List AV}

theorem setd_len (env:List AV) (d:Option Tmp) (v:AV):(setd env d v).length=env.length:=by cases d <;> simp [setd]
theorem fE_len (S:Nat->Bool):∀k,(fE ops vs S env k).length=env.length
 | 0=>rfl
 | k+1=>by
  simp only [fE];split
  ·rw [setd_len,fE_len S k]
  ·exact fE_len S k
theorem setd_get_ne {env:List AV} {d:Option Tmp} {v:AV} {t:Nat} (h:d ≠ some t):(setd env d v)[t]?=env[t]?:=by
 cases d with
 | none=>rfl
 | some d=>simp only [setd];exact uR (λe=>h (by rw [e]))
theorem fE_at {S T:Nat->Bool} {t:Nat}:∀k,(∀w,w < k->dstAt ops w=some t->S w=T w)->(fE ops vs S env k)[t]?=(fE ops vs T env k)[t]?
 | 0,_=>rfl
 | k+1,h=>by
  have c:=fE_at (S:=S) (T:=T) k λw b hd=>h w (by omega) hd;simp only [fE];by_cases hd:dstAt ops k=some t
  ·have a:=h k (by omega) hd;rw [a,hd];cases T k
   ·simp_all
   ·simp only [ur,setd,List.getElem?_set,fE_len]
  ·have e:(if S k then setd (fE ops vs S env k) (dstAt ops k) (vs k) else fE ops vs S env k)[t]?=(fE ops vs S env k)[t]?:=by
    split
    ·exact setd_get_ne hd
    ·rfl
   have d:(if T k then setd (fE ops vs T env k) (dstAt ops k) (vs k) else fE ops vs T env k)[t]?=(fE ops vs T env k)[t]?:=by
    split
    ·exact setd_get_ne hd
    ·rfl
   simp_all
theorem fE_eq {S T:Nat->Bool}:∀k,(∀w,w < k->S w=T w)->fE ops vs S env k=fE ops vs T env k
 | 0,_=>rfl
 | k+1,h=>by simp only [fE,h k (by omega),fE_eq k λw a=>h w (by omega)]
theorem fE_stop {S:Nat->Bool} {i:Nat} (h:∀w,i<=w->S w=false):∀m,fE ops vs S env (i+m)=fE ops vs S env i
 | 0=>rfl
 | m+1=>by rw [<- t8];simp only [fE,h (i+m) (by omega),um,uJ];exact fE_stop h m
theorem fE_last {S:Nat->Bool} {i t n:Nat} (hi:S i=true) (hd:dstAt ops i=some t) (d:t < env.length) (b:i < n) (h:∀w,i < w->w < n->dstAt ops w=some t->S w=false) :
  (fE ops vs S env n)[t]?=some (vs i):=by
 obtain ⟨m,rfl⟩:∃m,n=i+1+m:=⟨n - (i+1),by omega⟩
 induction m with
 | zero =>
  simp only [fE,hi,ur,hd,setd];rw [uz (by rw [fE_len];exact d)]
 | succ m ih =>
  rw [<- t8];simp only [fE];have a:=ih (by omega) λw c e=>h w c (by omega);split
  ·rename_i f;by_cases hd':dstAt ops (i+1+m)=some t
   ·grind
   ·rw [setd_get_ne hd'];exact a
  ·omega
theorem fH_eq {S T:Nat->Bool}:∀k,(∀e,e < k->wv ops Ns e=true->S e=T e)->fH ops Ns hs S k=fH ops Ns hs T k
 | 0,_=>rfl
 | k+1,h=>by
  simp only [fH,fH_eq k λe a=>h e (by omega)]
  grind
theorem fH_all {S:Nat->Bool} (b:∀k,wv ops Ns k=false->hs (k+1)=hs k):∀k,(∀e,e < k->wv ops Ns e=true->S e=true)->fH ops Ns hs S k=hs k
 | 0,_=>rfl
 | k+1,h=>by
  simp only [fH];cases a:wv ops Ns k with
  | true=>simp [h k (by omega) a]
  | false=>simp only [Bool.and_false,um,uJ,fH_all b k λe a=>h e (by omega)];exact (b k a).symm
theorem fH_stop {S:Nat->Bool} {i:Nat} (h:∀w,i<=w->wv ops Ns w=true->S w=false):∀m,fH ops Ns hs S (i+m)=fH ops Ns hs S i
 | 0=>rfl
 | m+1=>by
  rw [<- t8];simp only [fH];rw [te]
  ·exact fH_stop h m
  ·grind
theorem fH_blks {S T:Nat->Bool} (g:∀k,wv ops Ns k=false->hs (k+1)=hs k):∀k,
  (∀e,e < k->wv ops Ns e=true->S e ≠ T e->(hs (e+1)).blks=(hs e).blks) ->
  (∀e a,e < a->a < k->wv ops Ns e=true->wv ops Ns a=true->S a=true->S e=true)->(∀e a,e < a->a < k->wv ops Ns e=true->wv ops Ns a=true->T a=true->T e=true) ->
  (fH ops Ns hs S k).blks=(fH ops Ns hs T k).blks
 | 0,_,_,_=>rfl
 | k+1,h,pS,pT=>by
  have d:=fH_blks (S:=S) (T:=T) g k (λe c=>h e (by omega)) (λe a f i=>pS e a f (by omega)) (λe a f i=>pT e a f (by omega));simp only [fH];cases c:wv ops Ns k with
  | false=>simpa using d
  | true =>
   simp only [tQ];cases hS:S k <;> cases hT:T k
   ·simp_all
   ·simp only [um,uJ,ur];rw [h k (by omega) c (by simp_all),d];rw [fH_all g k λe b hh=>pT e k b (by omega) hh c hT]
   ·simp only [um,uJ,ur];rw [h k (by omega) c (by simp_all),<- d];rw [fH_all g k λe b hh=>pS e k b (by omega) hh c hS]
   ·simp

theorem count_lt {p q:Nat->Bool}:∀(l:List Nat),(∀x ∈ l,p x=true->q x=true)->(∃x ∈ l,q x=true/\p x=false)->l.countP p < l.countP q
 | [],_,⟨x,a,_⟩=>by cases a
 | y::r,h,⟨x,a,hq,hp⟩=>by
  have b:r.countP p<=r.countP q:=List.countP_mono_left λz c=>h z (by simp [c]);simp only [List.countP_cons];rcases ux.1 a with rfl | a
  ·grind
  ·have d:=count_lt r (λz c=>h z (by simp [c])) ⟨x,a,hq,hp⟩
   grind
end
section
variable {P:Program} {B:Nat} {w0:World} {g0:Gh} {D:List Deferred} {ro:Option Nat} {n:Nat} {ops:Array Oper} {Ns:List Nat} {F:Nat->AH->Prop} [GOk P B w0]

theorem drawOk_edge (h:drawOk ops Ns=true) {i:Nat} {o:Oper} (hi:ops[i]?=some o):∀e ∈ o.after,Region.binds .any e=true->e.on < i:=by
 unfold drawOk at h;simp only [uv] at h;have hm:(o,i) ∈ ops.toList.zipIdx:=by grind
 have:=h (o,i) hm;simp only [ud] at this;intro e he hb;have h1:=tW.1 this.1 e he
 simp_all
theorem before_lt (h:drawOk ops Ns=true):∀(i w:Nat),((Region.before ops).getD i 0).testBit w=true->w < i:=by
 intro i
 induction i using Nat.strongRecOn with
 | _ i ih =>
  intro w a;rcases hi:ops[i]? with _ | o
  ·have:(Region.before ops).getD i 0=0:=by
    rw [before_eq,tp,pD]
    ·rfl
    rw [bef_size];simp at hi ⊢;exact hi
   simp_all
  ·obtain ⟨e,b,c,hh⟩:=before_spec hi a;have d:=drawOk_edge h hi e b c
   grind
theorem drawOk_pair (h:drawOk ops Ns=true) {i j:Nat} {o a:Oper} (hi:ops[i]?=some o) (f:ops[j]?=some a) (c:i ≠ j) (g:cmpb (Region.before ops) i j=false) :
  (∀d,o.dst=some d->d ∉ a.looksAt ops/\a.dst ≠ some d)/\(effN Ns i o.op=true->effN Ns j a.op=false):=by
 unfold drawOk at h;simp only [uv] at h;have e:(o,i) ∈ ops.toList.zipIdx:=by grind
 have b:(a,j) ∈ ops.toList.zipIdx:=by grind
 grind

theorem fE_none {vs:Nat->AV} {env:List AV} {S:Nat->Bool}:∀k,(∀w,w < k->S w=false)->fE ops vs S env k=env
 | 0,_=>rfl
 | k+1,h=>by simp only [fE,h k (by omega),um,uJ];exact fE_none k λw a=>h w (by omega)

theorem AR.still {o:Oper} {env:List AV} {h h':AH} {v:AV} (b:isEff o.op=false) (a:AR P ops o env h v h'):h'=h:=by
 unfold AR at a;split at a
 ·rcases astep_still (P:=P) (env:=env) (h:=h) b with ⟨x,c⟩ | ⟨n,u,c⟩ | c
  ·rw [c h λ_=>rfl] at a;cases x with
   | none=>exact a.elim
   | some v'=>exact a.2
  ·simp_all
  ·grind
 ·exact a.2
 ·simp_all

theorem ARN.still {i:Nat} {o:Oper} {env:List AV} {h h':AH} {v:AV} (a:effN Ns i o.op=false) (e:ARN P ops Ns F i o env h v h'):h'=h:=by
 rcases e with ⟨c,b⟩ | ⟨_,_,b,_⟩ | ⟨c,d,_,b⟩ | ⟨_,_,_,b⟩
 ·refine AR.still ?_ b;simp only [effN,c,tX,tQ] at a;omega
 ·exact b
 ·simp only [effN,c,tX,tQ] at a;rcases b with b | ⟨b,_⟩
  ·exact (bstep_still a d b).1
  ·rw [b] at a;cases a
 ·exact b
theorem draw_seq {QA:List AV->AH->Prop}:∀(rest:List Oper) (k:Nat) (env:List AV) (h:AH),ops.toList.drop k=rest->k<=ops.size->zW P ops Ns F QA k rest env h ->
  ∃(vs:Nat->AV) (hs:Nat->AH),hs k=h/\(∀i o,k<=i->ops[i]?=some o->ARN P ops Ns F i o (fE ops vs (λw=>decide (k<=w)) env i) (hs i) (vs i) (hs (i+1))/\(anch ops Ns i=true \/ (hs (i+1)).blks=(hs i).blks)/\(hs (i+1)=hs i \/ FOk ((Region.before ops).getD i 0) Ns F (hs (i+1)))) /\
   QA (fE ops vs (λw=>decide (k<=w)) env ops.size) (hs ops.size)
 | [],k,env,h,hd,hkn,b=>by
  have s:k=ops.size:=by
   have:=congrArg List.length hd
   grind
  subst s;refine ⟨λ_=>aundef,λ_=>h,rfl,λi o hi g=>?_,?_⟩
  ·simp_all
  ·rw [fE_none _ λw b=>by simp;omega];exact b
 | o::rest,k,env,h,hd,hkn,b=>by
  have g:ops[k]?=some o:=by
   rw [<- uC];have:=congrArg (·[0]?) hd
   grind
  have p:k < ops.size:=(uI.1 g).1;have l:ops.toList.drop (k+1)=rest:=by
   rw [<- tG,hd];rfl
  obtain ⟨v,h',r,j,q,c⟩:=b;obtain ⟨vs,hs,h0,u,t⟩:=draw_seq rest (k+1) _ h' l (by omega) c;have e:dstAt ops k=o.dst:=by simp [dstAt,g]
  let f:Nat->AV:=λw=>if w=k then v else vs w
  let d:Nat->AH:=λw=>if w<=k then h else hs w
  have key:∀m,fE ops f (λw=>decide (k<=w)) env (k+1+m)=fE ops vs (λw=>decide (k+1<=w)) (setd env o.dst v) (k+1+m):=by
   intro m
   induction m with
   | zero =>
    simp only [tB];rw [fE_none (S:=λw=>decide (k+1<=w)) (k+1) λw b=>by simp;omega];simp only [fE,ue,rA,ur,e];rw [fE_none (S:=λw=>decide (k<=w)) k λw b=>by simp;omega]
    grind
   | succ m ih =>
    rw [<- t8];simp only [fE,ih]
    grind
  refine ⟨f,d,by simp [d],λi x hi a=>?_,?_⟩
  ·rcases Nat.eq_or_lt_of_le hi with rfl | hi
   ·rw [g] at a;injection a with a;subst a;rw [fE_none (S:=λw=>decide (k<=w)) k λw b=>by simp;omega]
    grind
   ·obtain ⟨m,rfl⟩:∃m,i=k+1+m:=⟨i - (k+1),by omega⟩
    grind
  ·obtain ⟨m,y⟩:∃m,ops.size=k+1+m:=⟨ops.size - (k+1),by omega⟩
   grind

theorem draw_sound (H:drawOk ops Ns=true) {Q:Exit->Act->World->Prop} {vs:Nat->AV} {hs:Nat->AH} {env:List AV}
  (hFs:∀n,F n (hs 0)) (hc:∀i o,ops[i]?=some o->ARN P ops Ns F i o (fE ops vs (λ_=>true) env i) (hs i) (vs i) (hs (i+1))/\(anch ops Ns i=true \/ (hs (i+1)).blks=(hs i).blks)/\(hs (i+1)=hs i \/ FOk ((Region.before ops).getD i 0) Ns F (hs (i+1))))
  (hQ:∀a w,St B w0 g0 D (fE ops vs (λ_=>true) env ops.size) (hs ops.size) a w->Q .normal a w) :
  ∀(A:Nat) (b:Array Bool) (a:Act) (w:World),b.size=ops.size->(List.range ops.size).countP (λi=>!b.getD i false)<=A ->
   (∀i j,b.getD i false=true->((Region.before ops).getD i 0).testBit j=true->b.getD j false=true) ->
   St B w0 g0 D (fE ops vs (λi=>b.getD i false) env ops.size) (fH ops Ns hs (λi=>b.getD i false) ops.size) a w ->
   wpAnyIn (WF ro) n P .any ops Q A b a w:=by
 have hn:∀k,wv ops Ns k=false->k < ops.size->hs (k+1)=hs k:=λk C hk=>by
  have G:ops[k]?=some ops[k]:=uM hk;exact ARN.still (by simpa [wv,G] using C) (hc k _ G).1
 -- beyond the region nothing is asked
 let X:Nat->AH:=λk=>if k<=ops.size then hs k else hs ops.size
 have I:∀k,k<=ops.size->X k=hs k:=λk hk=>by grind
 have hn2:∀k,wv ops Ns k=false->X (k+1)=X k:=λk C=>by
  grind
 have fH2:∀(S:Nat->Bool) k,k<=ops.size->fH ops Ns hs S k=fH ops Ns X S k:=λS k=>by
  induction k with
  | zero=>intro _;simp only [fH];exact (I 0 (by omega)).symm
  | succ k ih=>intro hk;simp only [fH,ih (by omega),I (k+1) hk]
 -- all has come
 have fin:∀(b:Array Bool) (a:Act) (w:World),b.size=ops.size->Region.ready .any ops b=[] ->
   St B w0 g0 D (fE ops vs (λi=>b.getD i false) env ops.size) (fH ops Ns hs (λi=>b.getD i false) ops.size) a w->Q .normal a w:=by
  intro b a w W hr z;have hall:∀i,i < ops.size->b.getD i false=true:=by
   intro i
   induction i using Nat.strongRecOn with
   | _ i ih =>
    intro hi;rcases hb:b.getD i false with _ | _
    ·exfalso;have:i ∈ Region.ready .any ops b:=by
      unfold Region.ready;rw [u7];refine ⟨by simp_all,?_⟩;have l:b.getD i true=false:=by
       simp_all
      have G:ops[i]?=some ops[i]:=uM hi;simp only [l,tX,G,uB,Option.getD_some,uX];rw [tW];intro e C;cases hbe:Region.binds .any e with
      | false=>rfl
      | true =>
       have hlt:=drawOk_edge H G e C hbe
       grind
     simp_all
    ·rfl
  refine hQ a w ?_;rw [fE_eq (T:=λ_=>true) ops.size λw M=>hall w M] at z;rw [fH2 _ _ (ue _),fH_all hn2 ops.size λe C _=>hall e C,I _ (ue _)] at z;omega
 intro A
 induction A with
 | zero =>
  intro b a w W hcnt hcl z;have hr:Region.ready .any ops b=[]:=by
   rcases hrr:Region.ready .any ops b with _ | ⟨i,r⟩
   ·rfl
   ·exfalso;have hi:i ∈ Region.ready .any ops b:=by simp_all
    unfold Region.ready at hi
    grind
  exact ⟨hr,fin b a w W hr z⟩
 | succ A ih =>
  intro b a w W hcnt hcl z;refine ⟨λhr=>fin b a w W hr z,λi hi=>?_⟩;unfold Region.ready at hi;rw [u7] at hi;have hlt:i < ops.size:=by simp_all
  have G:ops[i]?=some ops[i]:=uM hlt;generalize hoo:ops[i]=o at G;have hi2:=hi.2;simp only [G,uB,Option.getD_some,ud,tP] at hi2;have hil:i < b.size:=by omega
  have hSi:b.getD i false=false:=by
   grind
  have hedge:∀e ∈ o.after,Region.binds .any e=true->b.getD e.on false=true:=λe C hb=>by
   have:=tW.1 hi2.2 e C
   grind
  have hanc:∀w,((Region.before ops).getD i 0).testBit w=true->b.getD w false=true:=λw M=>by
   obtain ⟨e,C,hb,hh⟩:=before_spec G M;rcases hh with rfl | ⟨_,J⟩
   ·grind
   ·grind
  generalize hS:(λw=>b.getD w false)=S at z;have hSd:∀w,S w=b.getD w false:=λw=>by rw [<- hS]
  have hSi':S i=false:=by grind
  let T:Nat->Bool:=λw=>decide (w < i)
  have Y:∀w,w ≠ i->cmpb (Region.before ops) w i=true->S w=T w:=λw _ hc'=>by
   simp only [cmpb,tc] at hc';rcases hc' with l | l
   ·have:=before_lt H i w l
    grind
   ·have J:=before_lt H w i l
    grind
  -- what it looks at is a5 it was in the text's order
  have hTn:fE ops vs T env ops.size=fE ops vs (λ_=>true) env i:=by
   obtain ⟨m,hm⟩:∃m,ops.size=i+m:=⟨ops.size - i,by omega⟩
   rw [hm,fE_stop (S:=T) (λw M=>by grind) m];exact fE_eq i λw M=>by simp [T,M]
  have O:∀t ∈ o.looksAt ops,(fE ops vs S env ops.size)[t]?=(fE ops vs (λ_=>true) env i)[t]?:=λt ht=>by
   rw [<- hTn];refine fE_at ops.size λw M hd=>?_;by_cases hwi:w=i
   ·grind
   ·cases hcb:cmpb (Region.before ops) w i with
    | true=>exact Y w hwi hcb
    | false =>
     have how:ops[w]?=some ops[w]:=uM M;have:=(drawOk_pair H how G hwi hcb).1 t (by simpa [dstAt,how] using hd)
     grind
  obtain ⟨hAR,hblk,_⟩:=hc i o G;have hgE:aG ops o (fE ops vs S env ops.size)=aG ops o (fE ops vs (λ_=>true) env i):=aG_congr O;have hsE:∀h',zB P o (fE ops vs S env ops.size) h'=zB P o (fE ops vs (λ_=>true) env i) h':=λh'=>astep_congr λx E=>ev_congr λt ht=>O t (looks_op (ht ▸ E));have hsB:∀h',xT P o (fE ops vs S env ops.size) h'=xT P o (fE ops vs (λ_=>true) env i) h':=λh'=>bstep_congr λx E=>ev_congr λt ht=>O t (looks_op (ht ▸ E));have hsP:∀h' n,xD P o (fE ops vs S env ops.size) h' n=xD P o (fE ops vs (λ_=>true) env i) h' n:=λh' n=>pstep_congr λx E=>ev_congr λt ht=>O t (looks_op (ht ▸ E));have s:ARN P ops Ns F i o (fE ops vs S env ops.size) (hs i) (vs i) (hs (i+1)):=by
   rcases hAR with ⟨l,J⟩ | ⟨l,J,R,h4⟩ | ⟨l,hbd,J,R⟩ | ⟨l,J,R,h4⟩
   ·refine .inl ⟨l,?_⟩;unfold AR at J ⊢;rw [hgE,hsE];exact J
   ·exact .inr (.inl ⟨l,by grind,R,h4.imp (λ⟨f,args,h5,h6⟩=>⟨f,args,λJ=>by grind,h6⟩) (λh5 J hf=>by grind)⟩)
   ·exact .inr (.inr (.inl ⟨l,hbd,by rw [hgE];exact J,R.imp (λR=>by rw [hsB];exact R) λ⟨h4,n,R⟩=>⟨h4,n,by rw [hsP];exact R⟩⟩))
   ·exact .inr (.inr (.inr ⟨l,by grind,R,h4⟩))
  have heff:wv ops Ns i=effN Ns i o.op:=by simp [wv,G]
  -- effects are in a row
  have pS:∀e N,e < N->N < ops.size->wv ops Ns e=true->wv ops Ns N=true->S N=true->S e=true:=λe N l J R h4 h5=>by
   have oe:ops[e]?=some ops[e]:=uM (by omega);have oe':ops[N]?=some ops[N]:=uM J;cases hcb:cmpb (Region.before ops) e N with
   | true =>
    simp only [cmpb,tc] at hcb;rcases hcb with h6 | h6
    ·grind
    ·have:=before_lt H e N h6;omega
   | false =>
    have h7:=(drawOk_pair H oe oe' (by omega) hcb).2 (by simpa [wv,oe] using R);simp [wv,oe',h7] at h4
  have pT:∀e N,e < N->N < ops.size->wv ops Ns e=true->wv ops Ns N=true->T N=true->T e=true:=λe N l _ _ _ h5=>by
   grind
  have effS:effN Ns i o.op=true->∀e,e < ops.size->wv ops Ns e=true->S e=T e:=λU e he1 he2=>by
   by_cases hei:e=i
   ·grind
   ·have oe:ops[e]?=some ops[e]:=uM he1;cases hcb:cmpb (Region.before ops) e i with
    | true=>exact Y e hei hcb
    | false =>
     have h7:=(drawOk_pair H oe G hei hcb).2 (by simpa [wv,oe] using he2)
     grind
  have hTH:fH ops Ns X T ops.size=hs i:=by
   obtain ⟨m,hm⟩:∃m,ops.size=i+m:=⟨ops.size - i,by omega⟩
   rw [hm,fH_stop (S:=T) (λw M _=>by grind) m,fH_all hn2 i λe C _=>by simp [T,C]]
   grind
  -- the new list
  have hS':∀w,(b.setIfInBounds i true).getD w false=(w==i || S w):=λw=>by
   rw [hSd];by_cases M:w=i
   ·subst M;simp [tp,hil]
   ·have l:(w==i)=false:=by simpa using M
    simp [tp,l,Array.getElem?_setIfInBounds_ne (λe=>M e.symm)]
  have hfS':(λw=>(b.setIfInBounds i true).getD w false)=λw=>(w==i || S w):=funext hS'
  -- the frame behind it
  have hE':fE ops vs (λw=>(w==i || S w)) env ops.size=setd (fE ops vs S env ops.size) o.dst (vs i):=by
   apply uT;intro t;by_cases hdt:o.dst=some t
   ·rw [hdt];simp only [setd];rcases sn t env.length with htl | htl
    ·rw [uz (by rw [fE_len];exact htl)];refine fE_last (i:=i) (by simp) (by simp [dstAt,G,hdt]) htl hlt λw hw1 hw2 hw3=>?_;have l:(w==i)=false:=by simp;omega
     simp only [l,tv];have how:ops[w]?=some ops[w]:=uM hw2;cases hcb:cmpb (Region.before ops) w i with
     | true=>rw [Y w (by omega) hcb];simp [T];omega
     | false =>
      have:=(drawOk_pair H how G (by omega) hcb).1 t (by simpa [dstAt,how] using hw3)
      grind
    ·rw [tA (by rw [fE_len];exact htl),tA (by rw [rO,fE_len];exact htl)]
   ·rw [setd_get_ne hdt];refine fE_at ops.size λw M hd=>?_;by_cases hwi:w=i
    ·subst hwi;simp [dstAt,G] at hd;exact absurd hd hdt
    ·grind
  -- the heap behind it
  have hst2:=z;generalize hX:fH ops Ns hs S ops.size=E at z;have hFx:Ns.contains i=true->F i E:=λhNi=>by
   -- an effect that has come is none that waits for this one
   have hA:∀k,k<=ops.size->(∀e,e < k->wv ops Ns e=true->S e=true)->F i (hs k):=λk=>by
    induction k with
    | zero=>intro _ _;exact hFs i
    | succ k ih =>
     intro hk C;have ihk:=ih (by omega) λe l J=>C e (by omega) J;have ok:ops[k]?=some ops[k]:=uM (by omega);rcases (hc k _ ok).2.2 with l | l
     ·grind
     ·cases U:wv ops Ns k with
      | false=>rw [hn k U (by omega)];exact ihk
      | true =>
       refine l i hNi ?_
       grind
   rw [<- hX];have:∀k,k<=ops.size->F i (fH ops Ns hs S k):=λk=>by
    induction k with
    | zero=>intro _;exact hFs i
    | succ k ih =>
     intro hk;simp only [fH];split
     ·rename_i hh;simp only [ud] at hh;refine hA (k+1) hk λe l J=>?_
      grind
     ·grind
   grind
  have hAR3:∃h',ARN P ops Ns F i o (fE ops vs S env ops.size) E (vs i) h'/\fH ops Ns hs (λw=>(w==i || S w)) ops.size=h':=by
   cases U:effN Ns i o.op with
   | true =>
    have l:E=hs i:=by rw [<- hX,fH2 _ _ (ue _),fH_eq ops.size (effS U),hTH]
    refine ⟨hs (i+1),by grind,?_⟩;rw [fH2 _ _ (ue _)];obtain ⟨m,hm⟩:∃m,ops.size=i+1+m:=⟨ops.size - (i+1),by omega⟩
    rw [hm,fH_stop (λw M hwe=>?_) m]
    ·simp only [fH]
     grind
    ·have J:(w==i)=false:=by simp;omega
     grind
   | false =>
    have l:fH ops Ns hs (λw=>(w==i || S w)) ops.size=E:=by
     rw [<- hX];refine fH_eq ops.size λe _ hee=>?_;have:e ≠ i:=by grind
     grind
    refine ⟨E,?_,l⟩;have hb:Ns.contains i=false->isRd o.op=true->E.blks=(hs i).blks:=λhNi hrd=>by
     rw [<- hX,fH2 _ _ (ue _),<- hTH];refine fH_blks hn2 ops.size (λe he1 he2 hne=>?_) pS pT;rw [I _ (by omega),I _ (by omega)];have oe:ops[e]?=some ops[e]:=uM he1;rcases (hc e _ oe).2.1 with han | hbb
     ·exfalso;unfold anch at han;simp only [uv] at han;have hm:(o,i) ∈ ops.toList.zipIdx:=by grind
      have R:=han (o,i) hm;have hei:e ≠ i:=by grind
      grind
     ·omega
    rcases s with ⟨hN,s⟩ | ⟨hN,q1,L,q3⟩ | ⟨hN,hbd,q1,L⟩ | ⟨hN,q1,L,q3⟩
    rotate_left
    ·exact .inr (.inl ⟨hN,q1,rfl,q3⟩)
    ·simp only [effN,hN,tX,tQ] at U;exact .inr (.inr (.inl ⟨hN,hbd,q1,.inl (L.elim (λL=>(bstep_still U hbd L).2 E) λL=>by rw [U] at L;cases L.1)⟩))
    ·exact .inr (.inr (.inr ⟨hN,q1,L,rfl⟩))
    have hb:=hb hN;have U:isEff o.op=false:=by simp only [effN,hN,tX,tQ] at U;exact U
    have h0:hs (i+1)=hs i:=AR.still U s;refine .inl ⟨hN,?_⟩;unfold AR at s ⊢;split at s
    ·rcases astep_still (P:=P) (env:=fE ops vs S env ops.size) (h:=hs i) U with ⟨x,Z⟩ | ⟨m,u,Z⟩ | Z
     ·rw [Z (hs i) λ_=>rfl] at s;rw [Z E hb];cases x with
      | none=>exact s.elim
      | some v'=>exact ⟨s.1,rfl⟩
     ·grind
     ·rcases Z (hs i) with ⟨S,hS⟩ | hS <;> (rw [hS] at s;exact s.elim)
    ·grind
    ·omega
  obtain ⟨h',d,hH'⟩:=hAR3;have cnt:(List.range ops.size).countP (λj=>!(b.setIfInBounds i true).getD j false)<=A:=by
   have:=count_lt (p:=λj=>!(b.setIfInBounds i true).getD j false) (q:=λj=>!b.getD j false) (List.range ops.size)
    (λx _ E=>by grind)
    ⟨i,by grind,by simp [hSi],by simp [hS']⟩
   omega
  have cl':∀x y,(b.setIfInBounds i true).getD x false=true->((Region.before ops).getD x 0).testBit y=true->(b.setIfInBounds i true).getD y false=true:=λx y l J=>by
   rw [hS'] at l ⊢;simp only [tc,sM] at l ⊢;right;rcases l with rfl | l
   ·grind
   ·grind
  have go:∀(a':Act) (w':World),St B w0 g0 D (setd (fE ops vs S env ops.size) o.dst (vs i)) h' a' w'->wpAnyIn (WF ro) n P .any ops Q A (b.setIfInBounds i true) a' w':=λa' w' hs' =>
   ih _ a' w' (by simp [W]) cnt cl' (by grind)
  unfold wpOpIn;simp only [G];have hst':=z;obtain ⟨g,hg,r,C,hD⟩:=hst';rcases d with ⟨_,d⟩ | ⟨hNi,q1,L,q3⟩ | ⟨_,_,q1,L⟩ | ⟨_,q1,L,q3⟩
  rotate_left
  ·rw [vr C q1];simp only [ur];refine step_sound (K:=λv l=>v=vs i/\l=h') z ?_ ?_
   ·rcases q3 with ⟨f,args,q3,q4⟩ | q4
    ·rw [q3 E,L];exact q4 E (hFx hNi)
    ·rw [q4 E (hFx hNi)];exact ⟨rfl,L.symm⟩
   ·rintro v l u w' ⟨rfl,rfl⟩ ⟨g',k1,k2,k3,k4⟩
    exact go _ w' ⟨g',k1,k2,k3.setd o.dst k4,by rw [wK];exact hD⟩
  ·rw [vr C q1];simp only [ur];refine bstep_sound (K:=λv l=>v=vs i/\l=h') z (.inl ⟨_,L.c,λp hp=>?_⟩) ?_
   ·grind
   ·rintro v l u w' ⟨rfl,rfl⟩ ⟨g',k1,k2,k3,k4⟩
    exact go _ w' ⟨g',k1,k2,k3.setd o.dst k4,by rw [wK];exact hD⟩
  ·rw [vr C q1];simp only [um,uJ];refine ⟨λ_ _=>trivial,go _ w ⟨g,hg,by grind,?_,by rw [wK];exact hD⟩⟩;rw [L];exact C.setd o.dst V.ofUndef
  unfold AR at d;split at d
  ·rename_i hgd;rw [vr C hgd];simp only [ur];refine step_sound (K:=λv l=>v=vs i/\l=h') z ?_ ?_
   ·cases hst3:zB P o (fE ops vs S env ops.size) E with
    | ok v1 l=>rw [hst3] at d;exact ⟨d.1.symm,d.2.symm⟩
    | len m v1 l=>rw [hst3] at d;exact λ_=>⟨d.1.symm,d.2.symm⟩
    | call f args=>rw [hst3] at d;exact d
    | round id args=>rw [hst3] at d;exact d
    | any S=>rw [hst3] at d;exact d.elim
    | fail=>rw [hst3] at d;exact d
   ·rintro v l u w' ⟨rfl,rfl⟩ ⟨g',k1,k2,k3,k4⟩
    exact go _ w' ⟨g',k1,k2,k3.setd o.dst k4,by rw [wK];exact hD⟩
  ·rename_i hgd;rw [vr C hgd];simp only [um,uJ];refine ⟨λ_ _=>trivial,go _ w ⟨g,hg,by grind,?_,by rw [wK];exact hD⟩⟩;rw [d.1];exact C.setd o.dst V.ofUndef
  ·grind
end
end Go.Vv
namespace Go.Vv
open Go Go.RowKit Go.Lib
variable {p:Nat->Prop} {h:AH} {w:World}

theorem min_exists {p:Nat->Prop} (h:∃n,p n):∃m,p m/\∀k,p k->m<=k:=by
 obtain ⟨n,hn⟩:=h
 induction n using Nat.strongRecOn with
 | _ n ih =>
  grind
open Classical in
noncomputable def least (p:Nat->Prop):Nat:=if h:∃n,p n then Classical.choose (min_exists h) else 0
theorem least_spec (h:∃n,p n):p (least p):=by
 unfold least;rw [pE h];exact (tL (min_exists h)).1
theorem least_le {n:Nat} (h:p n):least p<=n:=by
 unfold least;rw [pE ⟨n,h⟩];exact (tL (min_exists ⟨n,h⟩)).2 n h

section
variable {P:Program} {B:Nat} {w0:World} {ro:Option Nat} {n:Nat} [GOk P B w0]

def Marks (gb g:Gh) (D:List Deferred):Prop:=∃cs:List Nat,D.map (·.target)=cs.map Target.collected/\cs.Nodup/\∀c ∈ cs,c ∈ g.δ/\c ∉ gb.δ
theorem Marks.mono {gb g g':Gh} {D:List Deferred} (h:Marks gb g D) (k:∀c,c ∈ g.δ->c ∈ g'.δ):Marks gb g' D:=by
 obtain ⟨cs,e,d,a⟩:=h;exact ⟨cs,e,d,λc b=>⟨k c (a c b).1,(a c b).2⟩⟩
theorem Marks.nil (gb g:Gh):Marks gb g []:=⟨[],rfl,List.nodup_nil,λ_ h=>by cases h⟩
def StM (B:Nat) (w0:World) (gb g0:Gh) (env:List AV) (h:AH) (a:Act) (w:World):Prop:=∃g,g0.le g/\Rel B w0 g h w/\VL g env a.tmps.toList/\Marks gb g a.defers/\gb.le g

def Gh.addD (g:Gh) (c:Nat):Gh:={ g with δ:=c::g.δ }
theorem Gh.le_addD (g:Gh) (c:Nat):g.le (g.addD c):=⟨λ_ _ _ e=>e,λ_ _ e=>e,λ_ t e=>⟨t,e,ue _,λ_=>rfl,rfl⟩,λ_ h=>tr _ h,λ_ _ h=>h,λ_ h=>h⟩
theorem Rel.addD {g:Gh} {h:AH} {w:World} (r:Rel B w0 g h w) {c:Nat} (v:B<=c) (y:w.heap[c]?=some (.deferred (some []))) (hs:∀i:Nat,g.σ[i]? ≠ some c) (o:g.N c=none) (f:¬ g.O c):Rel B w0 (g.addD c) h w :=
 ⟨r.below,r.bsz,r.phi,r.slen,λi x k d j=>by obtain ⟨t,q,u,s⟩:=r.blk i x k d j;exact ⟨t,q,u.mono (g.le_addD c) rfl,s⟩,r.tlen,r.tok,r.sinj,r.tinj,r.sep,λx d=>by
  rcases ux.1 d with rfl | d
  ·exact ⟨v,y,hs⟩
  ·exact r.dfr x d,λi k hi j=>(r.row i k hi j).mono (g.le_addD c) (PlK.same rfl) (λ_ _ h _=>h) (λ_ _ _ _ _ _ _=>⟨rfl,λ_=>rfl⟩),r.rinj,λb x a=>(r.nb b x a).mono (ue _) (ue _) λ_ _ m=>⟨rfl,⟨m.1,λl=>(ux.1 l).elim (λe=>by subst e;have a:g.N b=some x:=a;rw [o] at a;cases a) m.2.1,m.2.2⟩,λh=>h⟩,r.ob,λb a=>⟨(r.oa b a).1,λl=>(ux.1 l).elim (λe=>f (e ▸ a)) (r.oa b a).2.1,(r.oa b a).2.2⟩⟩

theorem rangeFunc_sound {K:Operand} {R:Array Tmp} {assign body:Code} {gb g0:Gh} {QA:Exit->List AV->AH->Prop} {env:List AV} {a:Act} (u:ro=none)
  (y:vB P (.rangeFunc K R assign body) QA env h) (hs:StM B w0 gb g0 env h a w) {Q:Exit->Act->World->Prop} (hQ:∀x m h' a' w',QA x m h'->StM B w0 gb g0 m h' a' w'->Q x a' w') :
  (Code.rangeFunc K R assign body).wpIn (WF ro) n P Q a w:=by
 subst u;obtain ⟨g,E,r,A,F,k⟩:=hs;obtain ⟨U,_,_,O,Z,D,y⟩:=y;obtain ⟨g2,z,r2,he2,H⟩:=D B w0 w w g g _ r (Gh.le.refl g) r A;replace E:=E.trans z;replace F:=F.mono H;replace k:=k.trans z;clear D H r A z;revert y E F k r2 he2;generalize O=env,Z=h,g2=g;intro y r A E F k;have hV:=V.ev A U;split at y
 ·rename_i f first caps hx
  rw [hx] at hV;simp only [V] at hV;obtain ⟨fs,cs,hev,h1,Z⟩:=hV;refine wpIn_rangeFunc λfn hfn=>?_;have u:(WF none).round=none:=rfl;rw [u];obtain ⟨l,s⟩:∃l:LoopState->Option Code->Loop,l=λst C=>{ state:=st,pending:=C,fn,tmps:=a.tmps,params:=R,assign,body,defers:=w.heap.size }:=⟨_,rfl⟩
  have r1:=r.alloc0 (.deferred (some []));have hc1:(w.alloc (.deferred (some []))).heap[w.heap.size]?=some (.deferred (some [])):=World.alloc_heap_new w _;have hns:∀i:Nat,g.σ[i]? ≠ some w.heap.size:=λi hi=>by
   have hl:i < h.blks.length:=by rw [<- r.slen];exact (ua.1 hi).1
   have:=(r.blk i _ _ hi (ui hl)).2.1;omega
  have r2:=r1.addD (c:=w.heap.size) r.bsz hc1 hns (r.nnew (ue _)) (r.nold (ue _));have r3:=r2.newBlk (.loop (l .ready none)) (.loop .ready none env R assign body) ⟨fn,a.tmps,w.heap.size,by rw [s];exact World.alloc_heap_new _ _,A.mono ((g.le_addD _).trans (Gh.le_addS _ _))⟩;have T:(w.alloc (.deferred (some []))).heap.size=w.heap.size+1:=World.size_alloc ..;have M:((g.addD w.heap.size).addS (w.alloc (.deferred (some []))).heap.size).σ[h.blks.length]?=some (w.heap.size+1):=by
   rw [<- r.slen,T];simp [Gh.addS,Gh.addD]
  refine ⟨w.heap.size+1,[{ target:=.collected w.heap.size,args:=#[] }],(w.alloc (.deferred (some []))).alloc (.loop (l .ready none)),{ target:=.fn (.func f) cs,args:=fs++#[.func (.yield (w.heap.size+1)) #[] #[]] },(w.alloc (.deferred (some []))).alloc (.loop (l .ready none)),f,
   fs++#[.func (.yield (w.heap.size+1)) #[] #[]]++cs,(w.alloc (.deferred (some []))).alloc (.loop (l .ready none)),?_,?_,λ_ _=>trivial,?_,λh=>by simp [WF,Fence.wide] at h,?_⟩
  ·rw [s];exact run_enterLoop_outer _ _ _ _ _
  ·simp only [resolve,hev];simp [Deferred.ofValue,go_sem]
  ·simpa [invoke] using y.1 _ _
  ·have hvl:VL ((g.addD w.heap.size).addS (w.alloc (.deferred (some []))).heap.size) (first++[.yld h.blks.length]++caps) (fs++#[Value.func (.yield (w.heap.size+1)) #[] #[]]++cs).toList:=by
    have d:=(g.le_addD w.heap.size).trans (Gh.le_addS _ (w.alloc (.deferred (some []))).heap.size);simp only [tK];refine VL.append (VL.append (h1.mono d) (VL.cons ?_ (by simp [VL]))) (Z.mono d);simp only [V]
    simp_all
   refine callsIn_of ((y.2 B w0 _ _ _ r3 hvl).mono ?_)
   rintro e w3 ⟨v,x,h',g',rfl,⟨st,C,m,L,J,G,hb,W,S⟩,d,r',_⟩
   obtain ⟨_,hlt,⟨N,q,d',hl,_⟩,_⟩:=r'.blk _ _ _ (d.sig _ _ M) hb;have I:=run_endLoop (P:=P) hl W;have r4:Rel B w0 g' (h'.put h.blks.length .dead) (w3.putObj (w.heap.size+1) (.loop { state:=.exhausted,pending:=C,fn:=N,tmps:=q,params:=L,assign:=J,body:=G,defers:=d' })) :=
    r'.putObj (d.sig _ _ M) hb (by simp) rfl rfl rfl World.putObj_size (λb Y=>World.putObj_heap_other Y) trivial
   have j:g.le g':=((g.le_addD _).trans (Gh.le_addS _ _)).trans d;have X:Marks gb g' ({ target:=.collected w.heap.size,args:=#[] }::a.defers):=by
    obtain ⟨cs,k1,k2,k3⟩:=F;refine ⟨w.heap.size::cs,by simp [k1],pI.2 ⟨λt=>tu _ (r.dfr_lt (k3 _ t).1),k2⟩,λc t=>?_⟩;rcases ux.1 t with rfl | t
    ·exact ⟨d.del _ (by simp [Gh.addS,Gh.addD]),λt=>tu _ (r.dfr_lt (k.del _ t))⟩
    ·exact ⟨j.del _ (k3 c t).1,(k3 c t).2⟩
   have o:StM B w0 gb g0 env (h'.put h.blks.length .dead) { a with defers:={ target:=.collected w.heap.size,args:=#[] }::a.defers } (w3.putObj (w.heap.size+1) (.loop { state:=.exhausted,pending:=C,fn:=N,tmps:=q,params:=L,assign:=J,body:=G,defers:=d' })) :=
    ⟨g',E.trans j,r4,A.mono j,X,k.trans j⟩
   refine ⟨C,_,I,?_⟩;cases C with
   | none=>exact hQ _ _ _ _ _ S o
   | some c =>
    cases c with
    | ret=>exact wpIn_ret (hQ _ _ _ _ _ S o)
    | exit i=>exact wpIn_exit (hQ _ _ _ _ _ S o)
    | _=>exact S.elim
 ·simp_all

theorem vO:∀(c:Code) {gb g0:Gh} {QA:Exit->List AV->AH->Prop} {env:List AV} {h:AH} {a:Act} {w:World},(ro=none \/ noRF c=true)->vB P c QA env h->StM B w0 gb g0 env h a w->∀{Q:Exit->Act->World->Prop},
  (∀x l h' a' w',QA x l h'->StM B w0 gb g0 l h' a' w'->Q x a' w')->c.wpIn (WF ro) n P Q a w
 | .skip,_,_,_,_,_,_,_,_,d,hs,_,hQ=>wpIn_skip (hQ _ _ _ _ _ d hs)
 | .label _,_,_,_,_,_,_,_,_,d,hs,_,hQ=>wpIn_label (hQ _ _ _ _ _ d hs)
 | .exit _,_,_,_,_,_,_,_,_,d,hs,_,hQ=>wpIn_exit (hQ _ _ _ _ _ d hs)
 | .ret,_,_,_,_,_,_,_,_,d,hs,_,hQ=>wpIn_ret (hQ _ _ _ _ _ d hs)
 | .region id ops draw,gb,g0,QA,env,h,a,w,_,d,hs,Q,hQ=>by
  obtain ⟨g,M,r,N,H,s⟩:=hs;have v:∀l h' a' w',St B w0 g a.defers l h' a' w'->StM B w0 gb g0 l h' a' w':=λl h' a' w' ⟨g',U,k2,k3,k4⟩=>⟨g',M.trans U,k2,k3,by rw [k4];exact H.mono U.del,s.trans U⟩
  have hs:St B w0 g a.defers env h a w:=⟨g,Gh.le.refl g,r,N,rfl⟩
  cases draw with
  | false =>
   have h1:=ops_sound (ro:=ro) (n:=n) (Q:=Q) (λenv h a w E J=>hQ .normal env h a w E (v _ _ _ _ J)) ops.toList 0 env h a w rfl d hs;refine wpIn_region ?_;rw [List.range_eq_range'];omega
  | true =>
   obtain ⟨Ns,F,⟨H,hok⟩,hFh,d⟩ | ⟨H,d⟩:=d
   rotate_left
   ·obtain ⟨g,U,k2,k3,k4⟩:=hs;exact wpIn_region_any H (any_sound (λenv h a w E J=>hQ .normal env h a w E (v _ _ _ _ J)) _ _ _ _ _ _ d ⟨g,U,k2.drew,k3,k4⟩)
   obtain ⟨vs,t,h0,h1,h2⟩:=draw_seq ops.toList 0 env h rfl (tU _) d;have hT:(λw:Nat=>decide (0<=w))=λ_=>true:=by rfl
   rw [hT] at h1 h2;refine wpIn_region_any H (draw_sound (D:=a.defers) (g0:=g) hok (vs:=vs) (hs:=t) (env:=env) (by simp_all) (λi o ho=>h1 i o (tU _) ho) (λa w J=>hQ .normal _ _ _ _ h2 (v _ _ _ _ J)) ops.size _ a _ (by simp) ?_ (λi j hi=>?_) ?_)
   ·exact uN List.countP_le_length (by simp)
   ·exfalso;rw [tp] at hi
    grind
   ·have hF:∀w,(Array.replicate ops.size false).getD w false=false:=λw=>by
     rw [tp]
     grind
    rw [fE_none _ λw _=>hF w];have hH:fH ops Ns t (λi=>(Array.replicate ops.size false).getD i false) ops.size=h:=by
     have:∀k,fH ops Ns t (λi=>(Array.replicate ops.size false).getD i false) k=h:=λk=>by
      induction k with
      | zero=>exact h0
      | succ k ih=>rw [fH,hF,rE];exact ih
     simp_all
    rw [hH];obtain ⟨g,U,k2,k3,k4⟩:=hs;exact ⟨g,U,k2.drew,k3,k4⟩
 | .seq x y,gb,g0,QA,env,h,a,w,hr,d,hs,Q,hQ=>by
  have T:ro=none \/ noRF x=true:=hr.imp id λh=>by simp only [noRF,ud] at h;exact h.1
  have R:ro=none \/ noRF y=true:=hr.imp id λh=>by simp only [noRF,ud] at h;exact h.2
  obtain ⟨g,M,r,N,H,s⟩:=hs;refine wpIn_seq (vO (gb:=gb) (g0:=g) x T d ⟨g,Gh.le.refl g,r,N,H,s⟩ λe l h' a' w' E t=>?_);obtain ⟨Z,C,Y,A,G,K⟩:=t;cases e with
  | normal =>
   obtain ⟨env2,h2,S,E⟩:=E;obtain ⟨W,q,X,z,u⟩:=S B w0 w' w g Z _ r C Y A;exact vO (gb:=gb) (g0:=g0) y R E ⟨W,M.trans q,X,z,G.mono u,s.trans q⟩ hQ
  | _=>exact hQ _ _ _ _ _ E ⟨Z,M.trans C,Y,A,G,K⟩
 | .cond c x y,gb,g0,QA,env,h,a,w,hr,d,hs,Q,hQ=>by
  have T:ro=none \/ noRF x=true:=hr.imp id λh=>by simp only [noRF,ud] at h;exact h.1
  have R:ro=none \/ noRF y=true:=hr.imp id λh=>by simp only [noRF,ud] at h;exact h.2
  obtain ⟨hc,d⟩:=d;have t:=hs;obtain ⟨g,M,r,N,H,s⟩:=t;have hV:=V.ev N hc;split at d
  ·rename_i b hb;rw [hb] at hV;simp only [V] at hV;refine wpIn_cond hV ?_;cases b with
   | true=>exact vO x T d hs hQ
   | false=>exact vO y R d hs hQ
  ·simp_all
 | .block id body,gb,g0,QA,env,h,a,w,hr,d,hs,Q,hQ=>by
  refine wpIn_block (vO body (hr.imp (λh=>h) λh=>h) d hs λe l h' a' w' E t=>?_);cases e with
  | exit id' =>
   simp only [Exit.inBlock]
   grind
  | _=>exact hQ _ _ _ _ _ E t
 | .loop body,gb,g0,QA,env,h,a,w,hr,d,hs,Q,hQ=>by
  have hrb:ro=none \/ noRF body=true:=hr.imp id λh=>h;obtain ⟨I,⟨m0,env0,h0,hk0,hI⟩,L⟩:=d;obtain ⟨ge,hge,re,N,H,s⟩:=hs;have hgb0:=s
  let p:Act->World->Nat->Prop:=λa w m=>∃env h,I m env h/\StM B w0 gb ge env h a w
  obtain ⟨W,q,X,z,u⟩:=hk0 B w0 w w ge ge _ re (Gh.le.refl ge) re N;refine wpIn_loop (λa w=>∃m,p a w m) (λa w=>least (p a w)) ⟨_,env0,h0,hI,W,q,X,z,H.mono u,s.trans q⟩ λa w1 hI'=>?_;obtain ⟨l,h',hI2,hs2⟩:=least_spec hI';obtain ⟨g,M,r,N,H,s⟩:=hs2;refine vO (gb:=gb) (g0:=g) body hrb (L _ l h' hI2) ⟨g,Gh.le.refl g,r,N,H,s⟩ λe env2 h2 a2 w2 E hs3=>?_;obtain ⟨Z,C,Y,A,G,K⟩:=hs3;cases e with
  | normal =>
   obtain ⟨m,O,h3,hlt,S,hI3⟩:=E;have hp:p a2 w2 m:=by
    rcases S with S | S
    ·obtain ⟨W,q,X,z,u⟩:=S B w0 w2 w1 g Z _ r C Y A;exact ⟨O,h3,hI3,W,M.trans q,X,z,G.mono u,s.trans q⟩
    ·obtain ⟨W,q,X,z,u⟩:=S B w0 w2 w ge Z _ re (M.trans C) Y A;exact ⟨O,h3,hI3,W,q,X,z,G.mono u,hgb0.trans q⟩
   exact ⟨⟨_,hp⟩,Nat.lt_of_le_of_lt (least_le hp) hlt⟩
  | _=>exact hQ _ _ _ _ _ E ⟨Z,hge.trans (M.trans C),Y,A,G,K⟩
 | .rangeFunc f ps assign body,gb,g0,QA,env,h,a,w,hr,d,hs,Q,hQ=>rangeFunc_sound (hr.elim id λh=>by cases h) d hs hQ
 | .scope _,_,_,_,_,_,_,_,_,d,_,_,_=>d.elim
 | .goto _,_,_,_,_,_,_,_,_,d,_,_,_=>d.elim
 | .refuse _,_,_,_,_,_,_,_,_,d,_,_,_=>d.elim
end

mutual
def AV.pl:AV->Bool
 | .sl _ es=>plE es
 | .bsl _ _ | .nsl _ _ | .gsl _ _=>false
 | _=>true
def plL:List AV->Bool
 | []=>true
 | a::r=>a.pl&&plL r
def plE:List (List AV)->Bool
 | []=>true
 | e::r=>plL e&&plE r
end
theorem plE_map {α:Type} {row:α->List AV} (h:∀x,plL (row x)=true):∀L:List α,plE (L.map row)=true
 | []=>rfl
 | x::r=>by simp [plE,h x,plE_map h r]
mutual
theorem V.plain {g g':Gh} (d:∀b j v,g.Φ b j=some v->g'.Φ b j=some v):∀(a:AV) (v:Value),a.pure=true->a.pl=true->V g a v->V g' a v
 | .bool _,_,_,_,hv=>by simpa only [V] using hv
 | .int _ _,_,_,_,hv=>by simpa only [V] using hv
 | .str _,_,_,_,hv=>by simpa only [V] using hv
 | .nilp,_,_,_,hv=>by simpa only [V] using hv
 | .nilm,_,_,_,hv=>by simpa only [V] using hv
 | .nilf,_,_,_,hv=>by simpa only [V] using hv
 | .nili,_,_,_,hv=>by simpa only [V] using hv
 | .sl k es,_,_,hl,hv=>by
  simp only [V] at hv ⊢;simp only [AV.pl] at hl;obtain ⟨a,c,e,i,l,m⟩:=hv;exact ⟨a,c,e,i,l,m.imp id λ⟨b,o,e,hh⟩=>⟨b,o,e,VE.plain d b k o es hl hh⟩⟩
 | .fn f [] [],_,_,_,hv=>by
  simp only [V,VL] at hv ⊢;exact hv
theorem VC.plain {g g':Gh} (d:∀b j v,g.Φ b j=some v->g'.Φ b j=some v) (b:Nat):∀(o:Nat) (a5:List AV),plL a5=true->VC g b o a5->VC g' b o a5
 | _,[],_,_=>by simp only [VC]
 | o,a::r,hl,hv=>by
  simp only [VC] at hv ⊢;simp only [plL,ud] at hl;obtain ⟨⟨v,h0,i,l⟩,m⟩:=hv;exact ⟨⟨v,d _ _ _ h0,i,V.plain d a v i hl.1 l⟩,VC.plain d b (o+1) r hl.2 m⟩
theorem VE.plain {g g':Gh} (d:∀b j v,g.Φ b j=some v->g'.Φ b j=some v) (b k:Nat):∀(o:Nat) (a5:List (List AV)),plE a5=true->VE g b k o a5->VE g' b k o a5
 | _,[],_,_=>by simp only [VE]
 | o,e::r,hl,hv=>by
  simp only [VE] at hv ⊢;simp only [plE,ud] at hl;obtain ⟨⟨h0,i⟩,l⟩:=hv;exact ⟨⟨h0,VC.plain d b o e hl.1 i⟩,VE.plain d b k (o+k) r hl.2 l⟩
end
theorem VA.pl {g g':Gh} (c:∀b j v,g.Φ b j=some v->g'.Φ b j=some v):∀{a5:List AV} {vs:List Value},a5.all AV.pure=true->plL a5=true->VA g a5 vs->VA g' a5 vs
 | [],_,_,_,hv=>by simpa only [VA] using hv
 | a::r,_,hp,hl,hv=>by
  simp only [VA] at hv ⊢;simp only [plL,ud] at hl;simp only [uZ,ud] at hp;obtain ⟨v,s,e,⟨h0,f⟩,d⟩:=hv;exact ⟨v,s,e,⟨h0,V.plain c a v hp.1 hl.1 f⟩,VA.pl c hp.2 hl.2 d⟩

def qt (P:Program) (env:List AV) (h:AH):List ResultVar->Option (List AV)
 | []=>some []
 | .tmp t::r=>match qt P env h r with
  | some vs=>some (env.getD t aundef::vs)
  | none=>none
 | .cell a t::r=>match P.underlying t,P.info? t with
  | some d,some i=>match aLoad h (yq d) i.size (env.getD a aundef),qt P env h r with
   | some v,some vs=>some (tyfix P t v::vs)
   | _,_=>none
  | _,_=>none
def aRes (P:Program) (fn:Func) (env:List AV) (h:AH):Option AV :=
 match qt P env h fn.results.toList with
 | some [v]=>some v
 | some vs=>some (.tup vs)
 | none=>none

def leV (a b:AV):Prop:=∀g v,V g a v->V g b v
theorem leV.refl (a:AV):leV a a:=λ_ _ h=>h
def finK (h0:AH) (K:AV->AH->Prop) (r0:AV) (h:AH):Prop:=∃r h',wk h0 [r0] h [r] h'/\K r h'
def qU (P:Program) (fn:Func) (h0:AH) (K:AV->AH->Prop) (x:Exit) (env:List AV) (h:AH):Prop :=
 match x with
 | .normal | .ret=>match aRes P fn env h with
  | some r=>finK h0 K r h
  | none=>False
 | _=>False

section
variable {P:Program}
def resF (tmps:Array Value):ResultVar->Sem Value
 | .tmp t=>pure (tmps.getD t undef)
 | .cell a t=>do loadVar t (<- asAddr (tmps.getD a undef))
theorem results_eq (fn:Func) (tmps:Array Value):results fn tmps=(do let vs <- fn.results.mapM (resF tmps);pure (if h:vs.size=1 then vs[0] else .tuple vs)):=by
 rfl
theorem resL_sound {B:Nat} {w0 w:World} {g:Gh} {h:AH} (r:Rel B w0 g h w) {env:List AV} {tmps:Array Value} (e:VL g env tmps.toList):∀{c:List ResultVar} {vs:List AV},qt P env h c=some vs ->
  ∃us,(c.mapM (resF tmps)).run P w=.ok us w/\VL g vs us
 | [],vs,h=>by simp only [qt,uf] at h;subst h;exact ⟨[],by simp,by simp [VL]⟩
 | .tmp t::c,vs,h=>by
  simp only [qt] at h;split at h
  ·rename_i k j;cases h;obtain ⟨us,l,f⟩:=resL_sound r e j;refine ⟨tmps.getD t undef::us,by simp only [sZ,Sem.run_bind,resF,Sem.run_pure,Result.andThen_ok,l],VL.cons ?_ f⟩;exact V.ev (a:={ tmps:=tmps,defers:=[] }) e (x:=.tmp t) rfl
  ·cases h
 | .cell ad t::c,vs,h=>by
  simp only [qt] at h;split at h
  ·rename_i d i hd hi;split at h
   ·rename_i v k s j;cases h;obtain ⟨us,l,f⟩:=resL_sound r e j;have q:=V.ev (a:={ tmps:=tmps,defers:=[] }) e (x:=.tmp ad) rfl;obtain ⟨u,b,m⟩:=load_sound r hd hi q s;refine ⟨u::us,?_,VL.cons m.tyfix f⟩;have o:(do loadVar t (<- asAddr (tmps.getD ad undef)):Sem Value).run P w=.ok u w:=by
     have y:Act.eval { tmps:=tmps,defers:=[] } (.tmp ad)=tmps.getD ad undef:=rfl;rw [y] at b;generalize tmps.getD ad undef=pv at b ⊢;cases pv with
     | pointer x =>
      cases x with
      | none=>simp [Instr.loadAt,Instr.sureAddr] at b
      | some x=>simpa [Instr.loadAt,Instr.sureAddr,asAddr] using b
     | _=>simp [Instr.loadAt,Instr.sureAddr] at b
    have z:(resF tmps (.cell ad t)).run P w=.ok u w:=o
    simp_all
   ·cases h
  ·cases h

theorem res_sound {B:Nat} {w0:World} {g:Gh} (r:Rel B w0 g h w) {env:List AV} {tmps:Array Value} (i:VL g env tmps.toList) {fn:Func} {v:AV} (c:aRes P fn env h=some v) :
  ∃u,(results fn tmps).run P w=.ok u w/\V g v u:=by
 unfold aRes at c;have key:∀vs,qt P env h fn.results.toList=some vs->∃us:List Value,(results fn tmps).run P w=.ok (if h:us.length=1 then us[0] else .tuple us.toArray) w/\VL g vs us:=by
  intro vs a;obtain ⟨us,e,b⟩:=resL_sound r i a;refine ⟨us,?_,b⟩;rw [results_eq,Array.mapM_eq_mapM_toList]
  simp_all
 split at c
 ·rename_i j a;cases c;obtain ⟨us,e,b⟩:=key _ a;simp only [VL] at b
  grind
 ·rename_i vs f a;cases c;obtain ⟨us,e,b⟩:=key _ a;have d:us.length ≠ 1:=by
   intro d;rw [<- b.length] at d;rcases vs with _ | ⟨x,_ | ⟨y,r⟩⟩ <;> simp at d
   simp_all
  refine ⟨.tuple us.toArray,by simp_all,?_⟩;simp only [V];exact ⟨_,rfl,b⟩
 ·cases c

theorem VL.undefs {g:Gh}:∀k,VL g (List.replicate k aundef) (List.replicate k undef)
 | 0=>by simp [VL]
 | k+1=>by simp only [sE];exact VL.cons V.ofUndef (VL.undefs k)

theorem Rel.shut {B:Nat} {w0:World} {g:Gh} (r:Rel B w0 g h w) {c:Nat} (O:c ∈ g.δ):Rel B w0 { g with δ:=g.δ.filter (· != c) } h (w.putObj c (.deferred none)):=by
 have hd:=r.dfr c O;have f:∀b,b ≠ c->(w.putObj c (.deferred none)).heap[b]?=w.heap[b]?:=λb u=>World.putObj_heap_other u;have Z:g.le { g with δ:=g.δ }:=Gh.le.refl g;refine ⟨⟨r.below.os,r.below.tape,r.below.output,by simpa using r.below.size,λb u=>(f b (by omega)).trans (r.below.block b u)⟩,by simpa using r.bsz,λb j v e=>?_,r.slen,λi x k H J=>?_,r.tlen,λi t R=>?_,r.sinj,r.tinj,r.sep,λx H=>?_,λi k hi J=>?_,r.rinj,
  λb x u=>(r.nb b x u).mono (ue _) (by simp) λ_ _ I=>⟨f b (by rintro rfl;exact I.2.1 O),⟨I.1,λM=>I.2.1 (u7.1 M).1,I.2.2⟩,λh=>h⟩,λb u=>⟨by simpa using (r.ob b u).1,(r.ob b u).2⟩,λb u=>⟨(r.oa b u).1,λM=>(r.oa b u).2.1 (u7.1 M).1,(r.oa b u).2.2⟩⟩
 ·have C:b ≠ c:=by
   rintro rfl
   have:=r.phi b j v e;unfold World.cell? at this
   simp_all
  exact (World.cell?_of_block (w:=w) (a:=⟨b,j,none⟩) (f b C)).trans (r.phi b j v e)
 ·obtain ⟨F,G,A,K⟩:=r.blk i x k H J;refine ⟨F,by simp_all,?_,K⟩;have C:x ≠ c:=by grind
  have D:=f x C;cases k with
  | cells cs=>obtain ⟨vs,t,z,y⟩:=A;exact ⟨vs,t,D.trans z,VA.dd y⟩
  | bld T x=>obtain ⟨a,v,z,y,E,N⟩:=A;exact ⟨a,v,D.trans z,y,E,V.monoV (g.lv_dd _) _ _ N⟩
  | siter s pos=>exact D.trans A
  | mapo es clock=>obtain ⟨ents,n,z,y,E⟩:=A;exact ⟨ents,n,D.trans z,ME.dd y,E⟩
  | loop st pe env ps assign body=>obtain ⟨fn,tmps,d,z,y⟩:=A;exact ⟨fn,tmps,d,D.trans z,VL.dd y⟩
  | row _ _ _=>exact A
  | miter id n seen=>obtain ⟨m,z,y⟩:=A;exact ⟨m,z,D.trans y⟩
  | miter0=>exact D.trans A
  | pool _=>exact A
  | pmiter id q n seen=>obtain ⟨m,z,y⟩:=A;exact ⟨m,z,D.trans y⟩
  | other=>trivial
  | dead=>trivial
 ·obtain ⟨F,G⟩:=r.tok i t R;refine ⟨F,λb l e W=>?_⟩;have lo:=G b l e W;refine lo.mono (by simp) (f b ?_) λ_ _=>rfl
  rintro rfl
  obtain ⟨cs,ty,X,_⟩:=lo.cells
  simp_all
 ·simp only [u7,bne_iff_ne,ne_eq] at H;have Q:=r.dfr x H.1
  simp_all
 ·have L:=r.row i k hi J;cases k with
  | row i2 y e2 =>
   obtain ⟨t,F,G,A,K,S,Y⟩:=L;refine ⟨t,F,G,A,K,S,Y.imp (λh=>h) ?_⟩
   rintro ⟨b,o,e,cs,ty,z,y,E,N,U⟩
   have C:b ≠ c:=by grind
   exact ⟨b,o,e,cs,ty,z,(f b C).trans y,VA.dd E,N,U⟩
  | pool ms=>exact PoolOk.mono (g.lv_dd _) ⟨λ_ _ h=>h,λb q u=>f b (by rintro rfl;exact (r.nb b _ u).2.1.2.1 O)⟩ L
  | dead=>trivial
  | _=>exact L.elim

theorem leaves_marks {B:Nat} {w0:World} {g0:Gh} {h:AH} {env:List AV} {fn:Func} {tmps:Array Value} {R:Ending->World->Prop}:∀(D:List Deferred) (cs:List Nat) (w:World) {g:Gh},D.map (·.target)=cs.map Target.collected->cs.Nodup ->
  (∀(a:World) (b:Gh),g0.le b->Rel B w0 b h a->VL b env tmps.toList->∃v,(results fn tmps).run P a=.ok v a/\R (.returned v) a) ->
  g0.le g->Rel B w0 g h w->VL g env tmps.toList->(∀c ∈ cs,c ∈ g.δ)->(∀c ∈ cs,c ∉ g0.δ)->LeavesInM (WF none) 0 P fn tmps R D .returning w
 | [],cs,w,g,e,_,hfin,hg,r,he,_,_=>hfin w g hg r he
 | d::D,cs,w,g,e,hnd,hfin,hg,r,he,h1,h2=>by
  cases cs with
  | nil=>simp at e
  | cons c cs =>
   simp only [uw,rp] at e;obtain ⟨hd,e⟩:=e;have i:=h1 c (by simp);refine ⟨by simp,.inl ⟨c,_,hd,run_takeDeferred (r.dfr c i).2.1,?_⟩⟩;refine leaves_marks D cs _ (g:={ g with δ:=g.δ.filter (· != c) }) e (pI.1 hnd).2 hfin ⟨hg.phi,hg.sig,hg.tau,λx f=>?_,hg.new,hg.old⟩ (r.shut i) (VL.dd he) (λx f=>?_) λx f=>h2 x (by simp [f])
   ·simp only [u7,bne_iff_ne,ne_eq];exact ⟨hg.del x f,by grind⟩
   ·grind

theorem spec_of_body {f : FuncId} {fn : Func} {c : Code} (hf : P.funcs[f]? = some fn) (hb : fn.body = some c) (hname : (fn.name == "runtime.NumGoroutine") = false) {args : List AV} {h : AH} {K : AV → AH → Prop}
  (hw:vB P c (qU P fn h K) (args++List.replicate (fn.ntmps - args.length) aundef) h):Spec P f args h K:=by
 have hn : ¬ fn.name = "runtime.NumGoroutine" := by simp_all
 refine ⟨λvs w=>by simp [callFunc,hf,hb,hn],λB w0 _ g w vs r hv=>?_⟩;refine callsIn_wide.1 (callsIn_of_wp_marks (F:=WF none) (n:=0) hf hb trivial ?_ rfl);have hlen:args.length=vs.size:=by rw [hv.length];rfl
 refine vO (B:=B) (w0:=w0) (gb:=g) (g0:=g) c (.inl rfl) hw ⟨g,Gh.le.refl g,r,?_,Marks.nil _ _,Gh.le.refl g⟩ λx env' h' a' w' hq hs=>?_
 ·simp only [tK,Array.toList_replicate,hlen];exact VL.append hv (VL.undefs _)
 ·obtain ⟨g',hg,r',he,hm,_⟩:=hs;have fin:(match aRes P fn env' h' with | some r=>finK h K r h' | none=>False) ->
    LeavesInM (WF none) 0 P fn a'.tmps (λe w''=>∃v' r h2 g2,e=.returned v'/\K r h2/\g.le g2/\Rel B w0 g2 h2 w''/\V g2 r v') a'.defers .returning w':=by
   intro hfin;split at hfin
   ·rename_i rv hr;obtain ⟨cs,hD,hnd,hcs⟩:=hm;refine leaves_marks a'.defers cs w' hD hnd ?_ hg r' he (λc hc=>(hcs c hc).1) (λc hc=>(hcs c hc).2);intro w'' g'' hg'' r'' he'';obtain ⟨u,h1,h2⟩:=res_sound r'' he'' hr;refine ⟨u,h1,u,?_⟩;obtain ⟨rv,h2',hwk,hK⟩:=hfin;obtain ⟨g2,k1,k2,k3,_⟩:=hwk B w0 w'' w g g'' [u] r hg'' r'' (VL.cons h2 (by simp [VL]));simp only [VL] at k3
    grind
   ·simp_all
  cases x with
  | normal=>exact fin hq
  | ret=>exact fin hq
  | _=>exact hq.elim
end
end Go.Vv
namespace Go.Vv
open Go
variable {a b v:AV} {r args:List AV} {f:FuncId} {h':AH}

def leL (a5 bs:List AV):Prop:=∀g vs,VL g a5 vs->VL g bs vs
theorem leV.any (a:AV):leV a .any:=λ_ _ _=>by simp only [V]
theorem leV.nil (k:Nat):leV .nilsl (.sl k []):=λ_ v h=>by
 simp only [V] at h ⊢
 grind
theorem leV.osl (o:Option Nat) (k:Nat) (es:List (List AV)):leV (.osl o k es) (.sl k es):=λ_ v h=>by
 simp only [V] at h ⊢
 grind
theorem leL.nil:leL [] []:=λ_ _ h=>h
theorem leL.refl (a5:List AV):leL a5 a5:=λ_ _ h=>h
theorem leL.cons {s:List AV} (h:leV a b) (k:leL r s):leL (a::r) (b::s):=λg vs c=>by
 simp only [VL] at c ⊢;obtain ⟨v,t,e,i,d⟩:=c;exact ⟨v,t,e,h _ _ i,k _ _ d⟩
theorem leL.eq {s:List AV} (k:leL r s):leL (a::r) (a::s):=leL.cons (leV.refl a) k
theorem leL.drop {s:List AV} (k:leL r s):leL (a::r) (.any::s):=leL.cons (leV.any a) k
theorem leL.d4 {c d:AV} {s:List AV} (k:leL r s):leL (a::b::c::d::r) (.any::.any::.any::.any::s):=.drop (.drop (.drop (.drop k)))
theorem leL.d16 {c d e f g h i j l m n o p q:AV} {s:List AV} (k:leL r s):leL (a::b::c::d::e::f::g::h::i::j::l::m::n::o::p::q::r) (.any::.any::.any::.any::.any::.any::.any::.any::.any::.any::.any::.any::.any::.any::.any::.any::s):=.d4 (.d4 (.d4 (.d4 k)))

theorem wk.refl (hd:AH) (env:List AV) (h:AH):wk hd env h env h:=λ_ _ _ _ _ g _ _ d r c=>⟨g,d,r,c,λ_ h=>h⟩
theorem wk.le {hd:AH} {env env':List AV} {h:AH} (k:leL env env'):wk hd env h env' h:=λ_ _ _ _ _ g _ _ d r c=>⟨g,d,r,k _ _ c,λ_ h=>h⟩
theorem wk.cut {hd:AH} {env:List AV} {h:AH} (l:zP hd.blks.length hd.toks.length env=true)
  (q:∀(i:Nat) (k:Blk),i < hd.blks.length->h.blks[i]?=some k->hd.blks[i]?=some k \/ k.low hd.blks.length hd.toks.length=true) :
  wk hd env h env (h.cut hd.blks.length hd.toks.length):=λ_ _ _ _ j g _ c p r m=>⟨g.cut hd.blks.length hd.toks.length,by rw [<- c.slen,<- c.tlen];exact Gh.le_cut c.ownlt p,
   r.cut _ _ (λi k hi e=>by
    rcases q i k hi e with d | d
    ·have n:i < j.σ.length:=by rw [c.slen];exact hi
     have:=c.isLow d;rw [c.slen,c.tlen] at this;exact this
    ·exact d),VL.cut _ _ l m,λ_ h=>h⟩
theorem wk.trans {hd:AH} {env env' c:List AV} {h e:AH} (a:wk hd env h env' h') (b:wk hd env' h' c e):wk hd env h c e:=λB w0 w d j g vs i l r p=>by
 obtain ⟨g',k,n,m,x⟩:=a B w0 w d j g vs i l r p;obtain ⟨u,q,y,s,t⟩:=b B w0 w d j g' vs i k n m
 grind

def cvo:Value->Option AV
 | .bool b=>some (.bool b)
 | .int k n=>some (.int k n)
 | .string s=>if s.size<=maxLen then some (.str s.data.toList) else none
 | .pointer none=>some .nilp
 | .slice none 0 0=>some .nilsl
 | .map none=>some .nilm
 | .nilFunc=>some .nilf
 | .nilIface=>some .nili
 | _=>none
def yk (env:List AV):Operand->Option AV
 | .tmp t=>env[t]?
 | .const (.agg cs)=>if okc (.agg cs) then some (cv (.agg cs)) else none
 | .const v=>cvo v
 | .global g=>some (.glob g)
 | .func f=>some (.fn (.func f) [] [])
theorem zS {env:List AV} {x:Operand} (h:yk env x=some v):yf x=true/\ev env x=v:=by
 cases x with
 | tmp t =>
  simp only [yk] at h;refine ⟨rfl,?_⟩;simp only [ev]
  simp_all
 | const c =>
  cases c with
  | agg cs =>
   simp only [yk] at h;split at h
   ·rename_i d;cases h;exact ⟨d,rfl⟩
   ·cases h
  | string s =>
   simp only [yk,cvo] at h;split at h
   ·rename_i d;cases h;exact ⟨by simpa [yf,okc,okc1] using d,rfl⟩
   ·cases h
  | slice a b c =>
   simp only [yk] at h;unfold cvo at h;split at h <;> first | cases h | skip
   all_goals first | (cases h;exact ⟨rfl,rfl⟩) | skip
   all_goals simp_all [yf,okc,okc1,ev,cv,cv1]
  | pointer a =>
   cases a with
   | none=>simp only [yk,cvo] at h;cases h;exact ⟨rfl,rfl⟩
   | some a=>simp only [yk,cvo] at h;cases h
  | map a =>
   cases a with
   | none=>simp only [yk,cvo] at h;cases h;exact ⟨rfl,rfl⟩
   | some a=>simp only [yk,cvo] at h;cases h
  | _=>simp only [yk,cvo] at h;first | (cases h;exact ⟨rfl,rfl⟩) | cases h
 | global g=>simp only [yk] at h;cases h;exact ⟨rfl,rfl⟩
 | func f=>simp only [yk] at h;cases h;exact ⟨rfl,rfl⟩

@[irreducible] def gv (b:Bool) (v:AV):AV:=if b then v else aundef
theorem gv_true (v:AV):gv true v=v:=by simp [gv]
theorem gv_false (v:AV):gv false v=aundef:=by simp [gv]

def xO (d:Option Tmp) (env:List AV) (v:AV):Option (List AV) :=
 match d with
 | some d=>some (env.set d v)
 | none=>some env
theorem yQ {d:Option Tmp} {env env':List AV} (h:xO d env v=some env'):setd env d v=env':=by
 cases d <;> simp only [xO,uf] at h <;> exact h

section
variable {P:Program} {ops:Array Oper} {Q:List AV->AH->Prop} {o:Oper} {rest:List Oper} {env env':List AV} {h:AH}

theorem ze (hk:Q env h):zJ P ops Q [] env h:=hk
theorem zb (e:aG ops o env=some true) (d:zB P o env h=.ok v h') (hd:xO o.dst env v=some env') (c:zJ P ops Q rest env' h'):zJ P ops Q (o::rest) env h:=by
 refine vA ?_;simp only [e,gwp,d,rwp,yQ hd];exact c
theorem wO {n:Nat} (e:aG ops o env=some true) (d:zB P o env h=.len n v h') (hd:xO o.dst env v=some env') (c:n<=maxLen->zJ P ops Q rest env' h'):zJ P ops Q (o::rest) env h:=by
 refine vA ?_;simp only [e,gwp,d,rwp,yQ hd];exact c
theorem ops_call {K:AV->AH->Prop} (e:aG ops o env=some true) (d:zB P o env h=.call f args) (hs:Spec P f args h K)
  (c:∀v h',K v h'->zJ P ops Q rest (setd env o.dst v) h'):zJ P ops Q (o::rest) env h:=by
 refine vA ?_;simp only [e,gwp,d,rwp];exact hs.mono c
theorem ops_skip (c:aG ops o env=some false) (hd:xO o.dst env aundef=some env') (d:zJ P ops Q rest env' h):zJ P ops Q (o::rest) env h:=by
 refine vA ?_;simp only [c,gwp,yQ hd];exact d
theorem yE {b:Bool} (d:aG ops o env=some b) (e:b=true->zB P o env h=.ok v h) (hd:xO o.dst env (gv b v)=some env') (c:zJ P ops Q rest env' h):zJ P ops Q (o::rest) env h:=by
 cases b with
 | true=>rw [gv_true] at hd;exact zb d (e rfl) hd c
 | false=>rw [gv_false] at hd;exact ops_skip d hd c
theorem ops_glen {b:Bool} {n:Nat} (d:aG ops o env=some b) (e:b=true->zB P o env h=.len n v h) (hd:xO o.dst env (gv b v)=some env') (c:(b=true->n<=maxLen)->zJ P ops Q rest env' h):zJ P ops Q (o::rest) env h:=by
 cases b with
 | true=>rw [gv_true] at hd;exact wO d (e rfl) hd λi=>c λ_=>i
 | false=>rw [gv_false] at hd;exact ops_skip d hd (c λg=>by cases g)
theorem ya {b:Bool} (d:aG ops o env=some b) (g:b=true->zB P o env h=.call f args) (hs:b=true->Spec P f args h λr h'=>r=v/\h'=h)
  (hd:xO o.dst env (gv b v)=some env') (c:zJ P ops Q rest env' h):zJ P ops Q (o::rest) env h:=by
 cases b with
 | true=>exact ops_call d (g rfl) (hs rfl) λr h' ⟨e,i⟩=>by subst e;subst i;rw [gv_true] at hd;rw [yQ hd];exact c
 | false=>rw [gv_false] at hd;exact ops_skip d hd c
end
theorem zT {P:Program} {ops:Array Oper} {Q:List AV->AH->Prop} {o:Oper} {rest:List Oper} {env env':List AV} {h:AH} (g:aG ops o env=some true) (e:zB P o env h=.call f args) (hs:Spec P f args h λr h'=>r=v/\h'=h)
  (hd:xO o.dst env v=some env') (c:zJ P ops Q rest env' h):zJ P ops Q (o::rest) env h :=
 ops_call g e hs λr h' ⟨d,i⟩=>by subst d;subst i;rw [yQ hd];exact c
end Go.Vv
namespace Go.Vv
open Go
variable {t e u:TypeId} {v v' a b:AV} {k k' off:Nat} {x y i:Operand} {d:TypeDesc} {cs:List AV} {l:List (TypeId×AV)}

class Ty (P:Program) (t:TypeId) (d:outParam TypeDesc) (k:outParam Nat):Prop where
 u:P.underlying t=some d
 i:∃i,P.info? t=some i/\i.size=k
class Fo (P:Program) (t:TypeId) (f:Nat) (off:outParam Nat) (u:outParam TypeId) (k:outParam Nat):Prop where
 o:fieldOff P t f=some (off,u)
 i:∃i,P.info? u=some i/\i.size=k
class El (P:Program) (t:TypeId) (e:outParam TypeId) (k:outParam Nat):Prop where
 u:P.underlying t=some (.slice e)
 i:∃i,P.info? e=some i/\i.size=k/\i.bytes<=65536/\0 < k/\(i.zero.map (·.cells.size))=some k

def tyo:AV->Option AV
 | .nilsl=>none
 | .bool b=>some (.bool b)
 | .int k n=>some (.int k n)
 | .str s=>some (.str s)
 | .ptr i o=>some (.ptr i o)
 | .fptr c=>some (.fptr c)
 | .sl k e=>some (.sl k e)
 | .osl q k e=>some (.osl q k e)
 | .msl a b c d=>some (.msl a b c d)
 | .rsl a b c d=>some (.rsl a b c d)
 | .rptr a b c d e=>some (.rptr a b c d e)
 | .rsuf a b c d e=>some (.rsuf a b c d e)
 | .map i=>some (.map i)
 | .fn f a b=>some (.fn f a b)
 | .iface t v=>some (.iface t v)
 | .agg c=>some (.agg c)
 | .tup v=>some (.tup v)
 | .glob g=>some (.glob g)
 | .yld i=>some (.yld i)
 | .bsl k e=>some (.bsl k e)
 | .nsl k e=>some (.nsl k e)
 | .gsl k n=>some (.gsl k n)
 | .gptr m=>some (.gptr m)
 | .imap a b=>some (.imap a b)
 | .any=>some .any
 | .opq=>some .opq
 | .nilp=>some .nilp
 | .nilm=>some .nilm
 | .nilf=>some .nilf
 | .nili=>some .nili
theorem za {P:Program} (h:tyo v=some v'):tyfix P t v=v':=by
 cases v <;> simp only [tyo] at h <;> first | (cases h;rfl) | cases h
theorem ty_nil {P:Program} (h:El P t e k):tyfix P t .nilsl=.osl none k []:=by
 obtain ⟨i,c,f,_⟩:=h.i;simp only [tyfix,h.u,Program.cellsOf,c];congr 1
section
variable {P:Program} {o:Oper} {env:List AV} {h:AH}

theorem zf {x:Operand} {v v':AV} (ho:o.op=.move x) (hx:yk env x=some v) (ht:tyfix P o.type v=v'):zB P o env h=.ok v' h:=by
 obtain ⟨h1,h2⟩:=zS hx;simp only [zB,ho,h1,ur,h2,ht]
theorem zq (c:o.op=.assign x) (m:yk env x=some v) (j:tyfix P o.type v=v'):zB P o env h=.ok v' h:=by
 obtain ⟨g,f⟩:=zS m;simp only [zB,c,g,ur,f,j]
theorem qx {c a b:Operand} {t:Bool} {x y:AV} (g:o.op=.pick c a b) (z:yk env c=some (.bool t)) (m:yk env a=some x) (w:yk env b=some y) (j:(if t then x else y)=v):zB P o env h=.ok v h:=by
 obtain ⟨q,n⟩:=zS z;obtain ⟨s,p⟩:=zS m;obtain ⟨r,f⟩:=zS w;simp only [zB,g,q,s,r,uW,ur,n,p,f,j]
theorem zX {op:BinOp} (f:o.op=.binOp op t x y u) (q:yk env x=some a) (g:yk env y=some b) (c:yG P op t a b=some v):zB P o env h=.ok v h:=by
 obtain ⟨n,j⟩:=zS q;obtain ⟨p,m⟩:=zS g;simp only [zB,f,n,p,uW,ur,j,m,aNilq_none c,c,oo,rF]
theorem s_un {op:UnOp} (c:o.op=.unOp op t x) (m:yk env x=some a) (f:aUn op a=some v):zB P o env h=.ok v h:=by
 obtain ⟨j,g⟩:=zS m;simp only [zB,c,j,ur,g,f,oo]
theorem s_convert {s:TypeId} {c:TypeDesc} (f:o.op=.convert s t x) (hs:Ty P s d k) (n:Ty P t c k') (p:yk env x=some a) (g:aConvert c a=some v):zB P o env h=.ok v h:=by
 obtain ⟨m,j⟩:=zS p;simp only [zB,f,m,ur,j,hs.u,n.u,g,oo]
theorem s_load (g:o.op=.load t x) (c:Ty P t d k) (q:yk env x=some a) (j:aLoad h (yq d) k a=some v) (f:tyfix P t v=v'):zB P o env h=.ok v' h:=by
 obtain ⟨r,m⟩:=zS q;obtain ⟨i,p,n⟩:=c.i;simp only [zB,g,c.u,p,n,m,j,uB,f,oo]
theorem s_store {c:AV} {h':AH} (j:o.op=.store t x y) (s:Ty P t d k) (z:yk env x=some a) (n:yk env y=some b) (f:tyfix P t b=c) (m:aStore h k a c=some h') :
  zB P o env h=.ok aundef h':=by
 obtain ⟨A,p⟩:=zS z;obtain ⟨w,q⟩:=zS n;obtain ⟨i,r,g⟩:=s.i;simp only [zB,j,w,ur,r,g,p,q,f,m,oh]
theorem s_alloc (c:o.op=.alloc t) (f:xQ P t=some cs):zB P o env h=.ok (.ptr h.blks.length 0) (h.new (.cells cs)):=by
 simp only [zB,c,f]
theorem s_box {a':AV} (f:o.op=.box t x) (n:yk env x=some a) (c:tyfix P t a=a') (m:a'.cells?=some cs):zB P o env h=.ok (.ptr h.blks.length 0) (h.new (.cells cs)):=by
 obtain ⟨j,g⟩:=zS n;simp only [zB,f,j,ur,g,c,m]
theorem zL (g:o.op=.nilCheck x) (n:yk env x=some a) (c:(match a with | .ptr id p=>some (AV.ptr id p) | .fptr cs=>some (.fptr cs) | .fn (.func f) p q=>some (.fn (.func f) p q) | _=>none)=some v) :
  zB P o env h=.ok v h:=by
 obtain ⟨m,j⟩:=zS n;simp only [zB,g,m,ur,j];split at c <;> first | (cases c;rfl) | cases c
theorem zp {f:Nat} (g:o.op=.fieldAddr t x f) (c:Fo P t f off u (k+1)) (r:yk env x=some a) (j:qh off a=some v):zB P o env h=.ok v h:=by
 obtain ⟨p,m⟩:=zS r;obtain ⟨i,q,n⟩:=c.i;simp only [zB,g,c.o,q,n,p,m,j,oo];simp
theorem s_field {f:Nat} (g:o.op=.field t x f) (c:Fo P t f off u k) (hd:Ty P u d k') (s:yk env x=some a) (j:aPart (yq d) off k a=some v) (q:tyfix P u v=v') :
  zB P o env h=.ok v' h:=by
 obtain ⟨p,m⟩:=zS s;obtain ⟨i,r,n⟩:=c.i;simp only [zB,g,c.o,hd.u,r,n,p,ur,m,j,uB,q,oo]
theorem s_indexAddr (g:o.op=.indexAddr t x i) (c:El P t e k) (w:yk env x=some a) (hi:yk env i=some b) (m:aIndexAddr k a b=some v):zB P o env h=.ok v h:=by
 obtain ⟨q,n⟩:=zS w;obtain ⟨s,p⟩:=zS hi;obtain ⟨j,r,f,_⟩:=c.i;simp only [zB,g,q,s,uW,ur,n,p,c.u,r,f,m,oo]
theorem s_indexStr (c:o.op=.index t x i) (n:Ty P t .string k) (q:yk env x=some a) (hi:yk env i=some b) (f:aIndexStr a b=some v):zB P o env h=.ok v h:=by
 obtain ⟨m,g⟩:=zS q;obtain ⟨p,j⟩:=zS hi;simp only [zB,c,m,p,uW,ur,g,j,n.u,f,oo]
theorem zN {t:Operand} {i:Nat} {vs:List AV} (f:o.op=.extract t i) (n:yk env t=some (.tup vs)) (g:vs[i]?=some v) (c:tyfix P o.type v=v'):zB P o env h=.ok v' h:=by
 obtain ⟨m,j⟩:=zS n;simp only [zB,f,m,ur,j,g,uB,c,oo]
theorem q8 {f:Fn} {a b:Array Operand} {a5 bs:List AV} (q:o.op=.makeFunc f a b) (s:a.toList.mapM (yk env)=some a5) (m:b.toList.mapM (yk env)=some bs):zB P o env h=.ok (.fn f a5 bs) h:=by
 have key:∀(l:List Operand) (a5:List AV),l.mapM (yk env)=some a5->l.all yf=true/\l.map (ev env)=a5:=by
  intro l
  induction l with
  | nil=>intro a5 h;simp at h;subst h;exact ⟨rfl,rfl⟩
  | cons x r ih =>
   intro a5 h;simp only [sZ,sF,sf,rq,uf] at h;obtain ⟨v,w,vs,z,rfl⟩:=h;obtain ⟨p,j⟩:=zS w
   simp_all
 obtain ⟨p,j⟩:=key _ _ s;obtain ⟨A,n⟩:=key _ _ m;have c:a.all yf=true:=by simp_all
 have g:b.all yf=true:=by simp_all
 simp only [zB,q,c,g,uW,ur,j,n]
def argo (env:List AV):List Operand->List TypeId->Option (List (TypeId×AV))
 | [],[]=>some []
 | x::r,t::ts=>match yk env x,argo env r ts with
  | some v,some vs=>some ((t,v)::vs)
  | _,_=>none
 | _,_=>none
def fixL (P:Program):List (TypeId×AV)->List AV
 | []=>[]
 | (t,v)::r=>tyfix P t v::fixL P r
theorem argo_ok:∀{xs:List Operand} {ts:List TypeId} {l:List (TypeId×AV)},argo env xs ts=some l->xs.all yf=true/\xs.length=ts.length/\(xs.zip ts).map (λp=>tyfix P p.2 (ev env p.1))=fixL P l
 | [],[],l,h=>by simp only [argo,uf] at h;subst h;exact ⟨rfl,rfl,rfl⟩
 | x::r,t::ts,l,h=>by
  simp only [argo] at h;split at h
  ·rename_i v vs f c;cases h;obtain ⟨n,g⟩:=zS f;obtain ⟨q,j,m⟩:=argo_ok c;refine ⟨by simp_all,by simp [j],?_⟩;simp only [r6,uw,m,g,fixL]
  ·cases h
 | [],_::_,_,h=>by simp [argo] at h
 | _::_,[],_,h=>by simp [argo] at h
theorem s_call {c:Call} {f:Operand} {g:FuncId} {first caps args:List AV} (p:o.op=.call c) (A:c.callee=.value f) (n:yk env f=some (.fn (.func g) first caps)) (q:argo env c.args.toList c.argTypes.toList=some l)
  (r:first++fixL P l++caps=args):zB P o env h=.call g args:=by
 obtain ⟨w,s⟩:=zS n;obtain ⟨C,B,z⟩:=argo_ok (P:=P) q;have m:c.args.all yf=true:=by grind
 have j:(c.args.size==c.argTypes.size)=true:=by simp_all
 simp only [zB,p,m,j,uW,ur,A,w,s,z,r];simp
theorem s_lenStr {c:Call} {s:List UInt8} (f:o.op=.call c) (p:c.callee=.builtin .len) (hs:c.args=#[x]) (n:c.argTypes=#[t]) (m:Ty P t .string k) (q:yk env x=some (.str s)) :
  zB P o env h=.len s.length (.int .i64 s.length) h:=by
 obtain ⟨j,g⟩:=zS q;simp [zB,f,hs,n,p,j,qd,m.u,g]
theorem xM {c:Call} {n:Nat} (f:o.op=.call c) (q:c.callee=.builtin .len) (hs:c.args=#[x]) (p:c.argTypes=#[t]) (m:El P t e k) (r:yk env x=some a) (s:aLen a=some n) :
  zB P o env h=.len n (.int .i64 n) h:=by
 obtain ⟨j,g⟩:=zS r;simp [zB,f,hs,p,q,j,qd,m.u,g,s]
theorem s_append {c:Call} {A:TypeId} {a' g:AV} {m:List (List AV)} {h':AH} (B:o.op=.call c) (L:c.callee=.builtin .append) (hs:c.args=#[x,y]) (p:c.argTypes=#[t,u]) (j:El P t e k)
  (f:El P u A k') (F:yk env x=some a) (D:yk env y=some b) (K:tyfix P t a=a') (q:tyfix P u b=g) (G:aNews k g=some m) (J:aAppend h k a' m=some (v,h')):zB P o env h=.ok v h':=by
 obtain ⟨s,n⟩:=zS F;obtain ⟨E,r⟩:=zS D;obtain ⟨i,z,H,w,C,I⟩:=j.i;subst H;simp [zB,B,hs,p,L,s,E,qd,j.u,f.u,n,r,z,w,C,I,K,q,G,J,ovh]
theorem argo_ev:∀{xs:List Operand} {ts:List TypeId} {l:List (TypeId×AV)},argo env xs ts=some l->xs.all yf=true/\xs.length=ts.length/\xs.map (ev env)=l.map Prod.snd
 | [],[],l,h=>by simp only [argo,uf] at h;subst h;exact ⟨rfl,rfl,rfl⟩
 | x::r,t::ts,l,h=>by
  simp only [argo] at h;split at h
  ·rename_i v vs f c;cases h;obtain ⟨m,g⟩:=zS f;obtain ⟨p,j,n⟩:=argo_ev c
   simp_all
  ·cases h
 | [],_::_,_,h=>by simp [argo] at h
 | _::_,[],_,h=>by simp [argo] at h
theorem s_mm {c:Call} {x:AV} {r:List AV} (mx:Bool) (m:o.op=.call c) (j:c.callee=.builtin (if mx then .max else .min)) (s:argo env c.args.toList c.argTypes.toList=some l) (q:l.map Prod.snd=x::r) (n:aMM mx x r=some v):zB P o env h=.ok v h:=by
 obtain ⟨w,z,p⟩:=argo_ev s;have f:c.args.all yf=true:=by grind
 have g:(c.args.size==c.argTypes.size)=true:=by simp_all
 cases mx
 ·simp only [um,uJ] at j;simp only [zB,m,f,g,uW,ur,j,qd,p,q,n,oo]
 ·simp only [ur] at j;simp only [zB,m,f,g,uW,ur,j,qd,p,q,n,oo]
end
end Go.Vv
