/- A region that draws its order, proved. -/
import Derived.Test.YtcociipjgndnaaaGreatVvN
namespace Go.Vv
open Go Go.RowKit Go.Lib

def dstAt (ops:Array Oper) (k:Nat):Option Tmp:=(ops[k]?).bind (·.dst)
def wh (ops:Array Oper) (Ns:List Nat) (k:Nat):Bool:=match ops[k]? with | some o=>effN Ns k o.op | none=>false
def fE (ops:Array Oper) (vs:Nat->AV) (S:Nat->Bool) (env:List AV):Nat->List AV
 | 0=>env
 | k+1=>if S k then setd (fE ops vs S env k) (dstAt ops k) (vs k) else fE ops vs S env k
def fH (ops:Array Oper) (Ns:List Nat) (hs:Nat->AH) (S:Nat->Bool):Nat->AH
 | 0=>hs 0
 | k+1=>if S k&&wh ops Ns k then hs (k+1) else fH ops Ns hs S k

section
variable {ops:Array Oper} {Ns:List Nat} {vs:Nat->AV} {hs:Nat->AH} {env:List AV}

theorem setd_len (env:List AV) (d:Option Tmp) (v:AV):(setd env d v).length=env.length:=by cases d <;> simp [setd]
theorem fE_len (S:Nat->Bool):∀k,(fE ops vs S env k).length=env.length
 | 0=>rfl
 | k+1=>by
  simp only [fE];split
  ·rw [setd_len,fE_len S k]
  ·exact fE_len S k
theorem setd_get_ne {env:List AV} {d:Option Tmp} {v:AV} {t:Nat} (h:d ≠ some t):(setd env d v)[t]?=env[t]?:=by
 cases d with
 | none=>rfl
 | some d=>simp only [setd];exact uK (λe=>h (by rw [e]))
theorem fE_at {S T:Nat->Bool} {t:Nat}:∀k,(∀w,w < k->dstAt ops w=some t->S w=T w)->(fE ops vs S env k)[t]?=(fE ops vs T env k)[t]?
 | 0,_=>rfl
 | k+1,h=>by
  have b:=fE_at (S:=S) (T:=T) k λw e hd=>h w (by omega) hd;simp only [fE];by_cases hd:dstAt ops k=some t
  ·have a:=h k (by omega) hd;rw [a,hd];cases T k
   ·simpa using b
   ·simp only [ut,setd,rj,fE_len]
  ·have d:(if S k then setd (fE ops vs S env k) (dstAt ops k) (vs k) else fE ops vs S env k)[t]?=(fE ops vs S env k)[t]?:=by
    split
    ·exact setd_get_ne hd
    ·rfl
   have c:(if T k then setd (fE ops vs T env k) (dstAt ops k) (vs k) else fE ops vs T env k)[t]?=(fE ops vs T env k)[t]?:=by
    split
    ·exact setd_get_ne hd
    ·rfl
   rw [d,c,b]
theorem fE_eq {S T:Nat->Bool}:∀k,(∀w,w < k->S w=T w)->fE ops vs S env k=fE ops vs T env k
 | 0,_=>rfl
 | k+1,h=>by simp only [fE,h k (by omega),fE_eq k λw a=>h w (by omega)]
theorem fE_stop {S:Nat->Bool} {i:Nat} (h:∀w,i<=w->S w=false):∀m,fE ops vs S env (i+m)=fE ops vs S env i
 | 0=>rfl
 | m+1=>by rw [<- tM];simp only [fE,h (i+m) (by omega),ul,uG];exact fE_stop h m
theorem fE_last {S:Nat->Bool} {i t n:Nat} (hi:S i=true) (hd:dstAt ops i=some t) (e:t < env.length) (c:i < n) (h:∀w,i < w->w < n->dstAt ops w=some t->S w=false) :
  (fE ops vs S env n)[t]?=some (vs i):=by
 obtain ⟨m,rfl⟩:∃m,n=i+1+m:=⟨n - (i+1),by omega⟩
 induction m with
 | zero =>
  simp only [fE,hi,ut,hd,setd];rw [uA (by rw [fE_len];exact e)]
 | succ m ih =>
  rw [<- tM];simp only [fE];have a:=ih (by omega) λw d f=>h w d (by omega);split
  ·rename_i b;by_cases hd':dstAt ops (i+1+m)=some t
   ·rw [h (i+1+m) (by omega) (by omega) hd'] at b;cases b
   ·rw [setd_get_ne hd'];exact a
  ·exact a
theorem fH_eq {S T:Nat->Bool}:∀k,(∀e,e < k->wh ops Ns e=true->S e=T e)->fH ops Ns hs S k=fH ops Ns hs T k
 | 0,_=>rfl
 | k+1,h=>by
  simp only [fH,fH_eq k λe a=>h e (by omega)];cases a:wh ops Ns k with
  | true=>rw [h k (by omega) a]
  | false=>simp
theorem fH_all {S:Nat->Bool} (b:∀k,wh ops Ns k=false->hs (k+1)=hs k):∀k,(∀e,e < k->wh ops Ns e=true->S e=true)->fH ops Ns hs S k=hs k
 | 0,_=>rfl
 | k+1,h=>by
  simp only [fH];cases a:wh ops Ns k with
  | true=>simp [h k (by omega) a]
  | false=>simp only [om,ul,uG,fH_all b k λe a=>h e (by omega)];exact (b k a).symm
theorem fH_stop {S:Nat->Bool} {i:Nat} (h:∀w,i<=w->wh ops Ns w=true->S w=false):∀m,fH ops Ns hs S (i+m)=fH ops Ns hs S i
 | 0=>rfl
 | m+1=>by
  rw [<- tM];simp only [fH];rw [uu]
  ·exact fH_stop h m
  ·intro hh;simp only [ud] at hh;rw [h (i+m) (by omega) hh.2] at hh;cases hh.1
theorem fH_blks {S T:Nat->Bool} (f:∀k,wh ops Ns k=false->hs (k+1)=hs k):∀k,
  (∀e,e < k->wh ops Ns e=true->S e ≠ T e->(hs (e+1)).blks=(hs e).blks) ->
  (∀e a,e < a->a < k->wh ops Ns e=true->wh ops Ns a=true->S a=true->S e=true)->(∀e a,e < a->a < k->wh ops Ns e=true->wh ops Ns a=true->T a=true->T e=true) ->
  (fH ops Ns hs S k).blks=(fH ops Ns hs T k).blks
 | 0,_,_,_=>rfl
 | k+1,h,pS,pT=>by
  have d:=fH_blks (S:=S) (T:=T) f k (λe c=>h e (by omega)) (λe a g i=>pS e a g (by omega)) (λe a g i=>pT e a g (by omega));simp only [fH];cases c:wh ops Ns k with
  | false=>simpa using d
  | true =>
   simp only [sj];cases hS:S k <;> cases hT:T k
   ·simpa using d
   ·simp only [ul,uG,ut];rw [h k (by omega) c (by rw [hS,hT];simp),d];rw [fH_all f k λe b hh=>pT e k b (by omega) hh c hT]
   ·simp only [ul,uG,ut];rw [h k (by omega) c (by rw [hS,hT];simp),<- d];rw [fH_all f k λe b hh=>pS e k b (by omega) hh c hS]
   ·simp

theorem count_lt {p q:Nat->Bool}:∀(l:List Nat),(∀x ∈ l,p x=true->q x=true)->(∃x ∈ l,q x=true/\p x=false)->l.countP p < l.countP q
 | [],_,⟨x,a,_⟩=>by cases a
 | y::r,h,⟨x,a,hq,hp⟩=>by
  have b:r.countP p<=r.countP q:=List.countP_mono_left λz c=>h z (by simp [c]);simp only [List.countP_cons];rcases uD.1 a with rfl | a
  ·simp only [hq,hp,ut];simp;omega
  ·have d:=count_lt r (λz c=>h z (by simp [c])) ⟨x,a,hq,hp⟩;have:(if p y=true then 1 else 0)<=(if q y=true then 1 else 0):=by
    by_cases hpy:p y=true
    ·simp [hpy,h y (by simp) hpy]
    ·simp [hpy]
   omega
end
section
variable {P:Program} {B:Nat} {w0:World} {g0:Gh} {D:List Deferred} {ro:Option Nat} {n:Nat} {ops:Array Oper} {Ns:List Nat} {F:Nat->AH->Prop} [GOk P B w0]

theorem drawOk_edge (h:drawOk ops Ns=true) {i:Nat} {o:Oper} (hi:ops[i]?=some o):∀e ∈ o.after,Region.binds .any e=true->e.on < i:=by
 unfold drawOk at h;simp only [ux] at h;have hm:(o,i) ∈ ops.toList.zipIdx:=by rw [tT];simpa using hi
 have:=h (o,i) hm;simp only [ud] at this;intro e he hb;have h1:=sQ.1 this.1 e he;simpa [hb] using h1
theorem before_lt (h:drawOk ops Ns=true):∀(i w:Nat),((Region.before ops).getD i 0).testBit w=true->w < i:=by
 intro i
 induction i using Nat.strongRecOn with
 | _ i ih =>
  intro w a;rcases hi:ops[i]? with _ | o
  ·have:(Region.before ops).getD i 0=0:=by
    rw [before_eq,u9,tV]
    ·rfl
    rw [bef_size];simp at hi ⊢;exact hi
   rw [this] at a;simp at a
  ·obtain ⟨e,c,f,hh⟩:=before_spec hi a;have b:=drawOk_edge h hi e c f;rcases hh with rfl | ⟨_,d⟩
   ·exact b
   ·exact Nat.lt_trans (ih e.on b w d) b
theorem drawOk_pair (h:drawOk ops Ns=true) {i j:Nat} {o b:Oper} (hi:ops[i]?=some o) (p:ops[j]?=some b) (f:i ≠ j) (l:cmpb (Region.before ops) i j=false) :
  (∀d,o.dst=some d->d ∉ b.looksAt ops/\b.dst ≠ some d)/\(effN Ns i o.op=true->effN Ns j b.op=false):=by
 unfold drawOk at h;simp only [ux] at h;have m:(o,i) ∈ ops.toList.zipIdx:=by rw [tT];simpa using hi
 have e:(b,j) ∈ ops.toList.zipIdx:=by rw [tT];simpa using p
 have g:=h (o,i) m;simp only [ud,ux] at g;have c:=g.2 (b,j) e;simp only [l,pu,tn,sx,f,false_or,ud,tv,te] at c;refine ⟨λd hd=>?_,λk=>?_⟩
 ·have a:=c.1;rw [hd] at a;simp at a;exact ⟨a.1,a.2⟩
 ·rcases c.2 with a | a
  ·rw [k] at a;cases a
  ·exact a

theorem fE_none {vs:Nat->AV} {env:List AV} {S:Nat->Bool}:∀k,(∀w,w < k->S w=false)->fE ops vs S env k=env
 | 0,_=>rfl
 | k+1,h=>by simp only [fE,h k (by omega),ul,uG];exact fE_none k λw a=>h w (by omega)

theorem AR.still {o:Oper} {env:List AV} {h d:AH} {v:AV} (c:isEff o.op=false) (a:AR P ops o env h v d):d=h:=by
 unfold AR at a;split at a
 ·rcases astep_still (P:=P) (env:=env) (h:=h) c with ⟨x,b⟩ | ⟨n,u,b⟩ | b
  ·rw [b h λ_=>rfl] at a;cases x with
   | none=>exact a.elim
   | some v'=>exact a.2
  ·rw [b h] at a;exact a.2
  ·rcases b h with ⟨S,e⟩ | e <;> (rw [e] at a;exact a.elim)
 ·exact a.2
 ·exact a.elim

theorem ARN.still {i:Nat} {o:Oper} {env:List AV} {h e:AH} {v:AV} (a:effN Ns i o.op=false) (f:ARN P ops Ns F i o env h v e):e=h:=by
 rcases f with ⟨c,b⟩ | ⟨_,_,b,_⟩ | ⟨c,d,_,b⟩
 ·refine AR.still ?_ b;simp only [effN,c,sR,sj] at a;exact a
 ·exact b
 ·simp only [effN,c,sR,sj] at a;exact (bstep_still a d b).1
theorem draw_seq {QA:List AV->AH->Prop}:∀(rest:List Oper) (k:Nat) (env:List AV) (h:AH),ops.toList.drop k=rest->k<=ops.size->zY P ops Ns F QA k rest env h ->
  ∃(vs:Nat->AV) (hs:Nat->AH),hs k=h/\(∀i o,k<=i->ops[i]?=some o->ARN P ops Ns F i o (fE ops vs (λw=>decide (k<=w)) env i) (hs i) (vs i) (hs (i+1))/\(anch ops Ns i=true \/ (hs (i+1)).blks=(hs i).blks)/\(hs (i+1)=hs i \/ FOk ((Region.before ops).getD i 0) Ns F (hs (i+1)))) /\
   QA (fE ops vs (λw=>decide (k<=w)) env ops.size) (hs ops.size)
 | [],k,env,h,hd,hkn,f=>by
  have C:k=ops.size:=by
   have:=congrArg List.length hd;simp at this;omega
  subst C;refine ⟨λ_=>aundef,λ_=>h,rfl,λi o hi l=>?_,?_⟩
  ·have:=(uQ.1 l).1;omega
  ·rw [fE_none _ λw f=>by simp;omega];exact f
 | o::rest,k,env,h,hd,hkn,f=>by
  have l:ops[k]?=some o:=by
   rw [<- uv];have:=congrArg (·[0]?) hd;simpa using this
  have A:k < ops.size:=(uQ.1 l).1;have s:ops.toList.drop (k+1)=rest:=by
   rw [<- tB,hd];rfl
  obtain ⟨v,x,r,d,t,g⟩:=f;obtain ⟨vs,hs,h0,z,y⟩:=draw_seq rest (k+1) _ x s (by omega) g;have q:dstAt ops k=o.dst:=by simp [dstAt,l]
  let b:Nat->AV:=λw=>if w=k then v else vs w
  let a:Nat->AH:=λw=>if w<=k then h else hs w
  have key:∀m,fE ops b (λw=>decide (k<=w)) env (k+1+m)=fE ops vs (λw=>decide (k+1<=w)) (setd env o.dst v) (k+1+m):=by
   intro m
   induction m with
   | zero =>
    simp only [sA];rw [fE_none (S:=λw=>decide (k+1<=w)) (k+1) λw f=>by simp;omega];simp only [fE,uh,sZ,ut,q];rw [fE_none (S:=λw=>decide (k<=w)) k λw f=>by simp;omega];simp [b]
   | succ m ih =>
    rw [<- tM];simp only [fE,ih];have e:decide (k<=k+1+m)=true:=by simp;omega
    have j:decide (k+1<=k+1+m)=true:=by simp
    have p:b (k+1+m)=vs (k+1+m):=by simp only [b];rw [uu (by omega)]
    simp only [e,j,p]
  refine ⟨b,a,by simp [a],λi E hi c=>?_,?_⟩
  ·rcases Nat.eq_or_lt_of_le hi with rfl | hi
   ·rw [l] at c;injection c with c;subst c;rw [fE_none (S:=λw=>decide (k<=w)) k λw f=>by simp;omega];have e:a k=h:=by simp [a]
    have j:a (k+1)=x:=by simp only [a];rw [uu (by omega),h0]
    have p:b k=v:=by simp [b]
    rw [e,j,p];exact ⟨r,d,t⟩
   ·obtain ⟨m,rfl⟩:∃m,i=k+1+m:=⟨i - (k+1),by omega⟩
    rw [key m];have e:a (k+1+m)=hs (k+1+m):=by simp only [a];rw [uu (by omega)]
    have j:a (k+1+m+1)=hs (k+1+m+1):=by simp only [a];rw [uu (by omega)]
    have p:b (k+1+m)=vs (k+1+m):=by simp only [b];rw [uu (by omega)]
    rw [e,j,p];exact z _ _ (by omega) c
  ·obtain ⟨m,u⟩:∃m,ops.size=k+1+m:=⟨ops.size - (k+1),by omega⟩
   rw [u,key m,<- u];have e:a ops.size=hs ops.size:=by simp only [a];rw [uu (by omega)]
   rw [e];exact y

theorem draw_sound (M:drawOk ops Ns=true) {Q:Exit->Act->World->Prop} {vs:Nat->AV} {hs:Nat->AH} {env:List AV}
  (hFs:∀n,F n (hs 0)) (hc:∀i o,ops[i]?=some o->ARN P ops Ns F i o (fE ops vs (λ_=>true) env i) (hs i) (vs i) (hs (i+1))/\(anch ops Ns i=true \/ (hs (i+1)).blks=(hs i).blks)/\(hs (i+1)=hs i \/ FOk ((Region.before ops).getD i 0) Ns F (hs (i+1))))
  (hQ:∀a w,St B w0 g0 D (fE ops vs (λ_=>true) env ops.size) (hs ops.size) a w->Q .normal a w) :
  ∀(C:Nat) (b:Array Bool) (a:Act) (w:World),b.size=ops.size->(List.range ops.size).countP (λi=>!b.getD i false)<=C ->
   (∀i j,b.getD i false=true->((Region.before ops).getD i 0).testBit j=true->b.getD j false=true) ->
   St B w0 g0 D (fE ops vs (λi=>b.getD i false) env ops.size) (fH ops Ns hs (λi=>b.getD i false) ops.size) a w ->
   wpAnyIn (WF ro) n P .any ops Q C b a w:=by
 have hn:∀k,wh ops Ns k=false->k < ops.size->hs (k+1)=hs k:=λk A hk=>by
  have I:ops[k]?=some ops[k]:=uH hk;exact ARN.still (by simpa [wh,I] using A) (hc k _ I).1
 -- beyond the region nothing is asked
 let U:Nat->AH:=λk=>if k<=ops.size then hs k else hs ops.size
 have E:∀k,k<=ops.size->U k=hs k:=λk hk=>by simp only [U];rw [up hk]
 have hn2:∀k,wh ops Ns k=false->U (k+1)=U k:=λk A=>by
  simp only [U];rcases tz k ops.size with hk | hk
  ·rw [up (by omega),up (by omega)];exact hn k A hk
  ·rw [uu (by omega)];split
   ·rw [show k=ops.size by omega]
   ·rfl
 have fH2:∀(S:Nat->Bool) k,k<=ops.size->fH ops Ns hs S k=fH ops Ns U S k:=λS k=>by
  induction k with
  | zero=>intro _;simp only [fH];exact (E 0 (by omega)).symm
  | succ k ih=>intro hk;simp only [fH,ih (by omega),E (k+1) hk]
 -- all has come
 have fin:∀(b:Array Bool) (a:Act) (w:World),b.size=ops.size->Region.ready .any ops b=[] ->
   St B w0 g0 D (fE ops vs (λi=>b.getD i false) env ops.size) (fH ops Ns hs (λi=>b.getD i false) ops.size) a w->Q .normal a w:=by
  intro b a w hsz hr z;have hall:∀i,i < ops.size->b.getD i false=true:=by
   intro i
   induction i using Nat.strongRecOn with
   | _ i ih =>
    intro hi;rcases Y:b.getD i false with _ | _
    ·exfalso;have:i ∈ Region.ready .any ops b:=by
      unfold Region.ready;rw [tf];refine ⟨by simpa using hi,?_⟩;have d:b.getD i true=false:=by
       have hi':i < b.size:=by omega
       simp [u9,uH hi'] at Y ⊢;exact Y
      have I:ops[i]?=some ops[i]:=uH hi;simp only [d,sR,I,u7,pr,uX];rw [sQ];intro e A;cases hbe:Region.binds .any e with
      | false=>rfl
      | true =>
       have O:=drawOk_edge M I e A hbe;simp [ih e.on O (by omega)]
     rw [hr] at this;cases this
    ·rfl
  refine hQ a w ?_;rw [fE_eq (T:=λ_=>true) ops.size λw L=>hall w L] at z;rw [fH2 _ _ (uh _),fH_all hn2 ops.size λe A _=>hall e A,E _ (uh _)] at z;exact z
 intro C
 induction C with
 | zero =>
  intro b a w hsz hcnt hcl z;have hr:Region.ready .any ops b=[]:=by
   rcases hrr:Region.ready .any ops b with _ | ⟨i,r⟩
   ·rfl
   ·exfalso;have hi:i ∈ Region.ready .any ops b:=by rw [hrr];simp
    unfold Region.ready at hi;rw [tf] at hi;have d:b.getD i true=false:=by
     have:=hi.2;simp only [ud,tv] at this;exact this.1
    have O:i < ops.size:=by simpa using hi.1
    have s:b.getD i false=false:=by
     have hi':i < b.size:=by omega
     simp [u9,uH hi'] at d ⊢;exact d
    have:0 < (List.range ops.size).countP (λi=>!b.getD i false):=List.countP_pos_iff.2 ⟨i,by simpa using O,by simp [s]⟩;omega
  exact ⟨hr,fin b a w hsz hr z⟩
 | succ C ih =>
  intro b a w hsz hcnt hcl z;refine ⟨λhr=>fin b a w hsz hr z,λi hi=>?_⟩;unfold Region.ready at hi;rw [tf] at hi;have O:i < ops.size:=by simpa using hi.1
  have I:ops[i]?=some ops[i]:=uH O;generalize hoo:ops[i]=o at I;have hi2:=hi.2;simp only [I,u7,pr,ud,tv] at hi2;have hil:i < b.size:=by omega
  have hSi:b.getD i false=false:=by
   have d:=hi2.1;simp [u9,uH hil] at d ⊢;exact d
  have hedge:∀e ∈ o.after,Region.binds .any e=true->b.getD e.on false=true:=λe A Y=>by
   have:=sQ.1 hi2.2 e A;simpa [Y] using this
  have hanc:∀w,((Region.before ops).getD i 0).testBit w=true->b.getD w false=true:=λw L=>by
   obtain ⟨e,A,Y,hh⟩:=before_spec I L;rcases hh with rfl | ⟨_,s⟩
   ·exact hedge e A Y
   ·exact hcl e.on w (hedge e A Y) s
  generalize hS:(λw=>b.getD w false)=S at z;have H:∀w,S w=b.getD w false:=λw=>by rw [<- hS]
  have hSi':S i=false:=by rw [H];exact hSi
  let T:Nat->Bool:=λw=>decide (w < i)
  have X:∀w,w ≠ i->cmpb (Region.before ops) w i=true->S w=T w:=λw _ hc'=>by
   simp only [cmpb,tn] at hc';rcases hc' with d | d
   ·have:=before_lt M i w d;rw [H,hanc w d];simp [T,this]
   ·have s:=before_lt M w i d;have:S w=false:=by
     rcases L:S w with _ | _
     ·rfl
     ·rw [H] at L;have:=hcl w i L d;rw [hSi] at this;cases this
    rw [this];simp [T];omega
  -- what it looks at is as it was in the text's order
  have hTn:fE ops vs T env ops.size=fE ops vs (λ_=>true) env i:=by
   obtain ⟨m,hm⟩:∃m,ops.size=i+m:=⟨ops.size - i,by omega⟩
   rw [hm,fE_stop (S:=T) (λw L=>by simp [T];omega) m];exact fE_eq i λw L=>by simp [T,L]
  have hEnv:∀t ∈ o.looksAt ops,(fE ops vs S env ops.size)[t]?=(fE ops vs (λ_=>true) env i)[t]?:=λt ht=>by
   rw [<- hTn];refine fE_at ops.size λw L hd=>?_;by_cases hwi:w=i
   ·subst hwi;rw [hSi'];simp [T]
   ·cases hcb:cmpb (Region.before ops) w i with
    | true=>exact X w hwi hcb
    | false =>
     have how:ops[w]?=some ops[w]:=uH L;have:=(drawOk_pair M how I hwi hcb).1 t (by simpa [dstAt,how] using hd);exact absurd ht this.1
  obtain ⟨hAR,hblk,_⟩:=hc i o I;have hgE:aG ops o (fE ops vs S env ops.size)=aG ops o (fE ops vs (λ_=>true) env i):=aG_congr hEnv;have hsE:∀R,zw P o (fE ops vs S env ops.size) R=zw P o (fE ops vs (λ_=>true) env i) R:=λR=>astep_congr λx G=>ev_congr λt ht=>hEnv t (looks_op (ht ▸ G));have hsB:∀R,vt P o (fE ops vs S env ops.size) R=vt P o (fE ops vs (λ_=>true) env i) R:=λR=>bstep_congr λx G=>ev_congr λt ht=>hEnv t (looks_op (ht ▸ G));have l:ARN P ops Ns F i o (fE ops vs S env ops.size) (hs i) (vs i) (hs (i+1)):=by
   rcases hAR with ⟨d,s⟩ | ⟨d,s,h3,h4⟩ | ⟨d,hbd,s,h3⟩
   ·refine .inl ⟨d,?_⟩;unfold AR at s ⊢;rw [hgE,hsE];exact s
   ·exact .inr (.inl ⟨d,by rw [hgE];exact s,h3,h4.imp (λ⟨f,args,h5,h6⟩=>⟨f,args,λs=>by rw [hsE];exact h5 s,h6⟩) (λh5 s hf=>by rw [hsE];exact h5 s hf)⟩)
   ·exact .inr (.inr ⟨d,hbd,by rw [hgE];exact s,by rw [hsB];exact h3⟩)
  have heff:wh ops Ns i=effN Ns i o.op:=by simp [wh,I]
  -- effects are in a row
  have pS:∀e N,e < N->N < ops.size->wh ops Ns e=true->wh ops Ns N=true->S N=true->S e=true:=λe N d s h3 h4 h5=>by
   have oe:ops[e]?=some ops[e]:=uH (by omega);have oe':ops[N]?=some ops[N]:=uH s;cases hcb:cmpb (Region.before ops) e N with
   | true =>
    simp only [cmpb,tn] at hcb;rcases hcb with h6 | h6
    ·rw [H] at h5 ⊢;exact hcl N e h5 h6
    ·have:=before_lt M e N h6;omega
   | false =>
    have h7:=(drawOk_pair M oe oe' (by omega) hcb).2 (by simpa [wh,oe] using h3);simp [wh,oe',h7] at h4
  have pT:∀e N,e < N->N < ops.size->wh ops Ns e=true->wh ops Ns N=true->T N=true->T e=true:=λe N d _ _ _ h5=>by
   simp [T] at h5 ⊢;omega
  have effS:effN Ns i o.op=true->∀e,e < ops.size->wh ops Ns e=true->S e=T e:=λJ e he1 he2=>by
   by_cases hei:e=i
   ·subst hei;rw [hSi'];simp [T]
   ·have oe:ops[e]?=some ops[e]:=uH he1;cases hcb:cmpb (Region.before ops) e i with
    | true=>exact X e hei hcb
    | false =>
     have h7:=(drawOk_pair M oe I hei hcb).2 (by simpa [wh,oe] using he2);rw [h7] at J;cases J
  have hTH:fH ops Ns U T ops.size=hs i:=by
   obtain ⟨m,hm⟩:∃m,ops.size=i+m:=⟨ops.size - i,by omega⟩
   rw [hm,fH_stop (S:=T) (λw L _=>by simp [T];omega) m,fH_all hn2 i λe A _=>by simp [T,A]];exact E i (by omega)
  -- the new list
  have hS':∀w,(b.setIfInBounds i true).getD w false=(w==i || S w):=λw=>by
   rw [H];by_cases L:w=i
   ·subst L;simp [u9,hil]
   ·have d:(w==i)=false:=by simpa using L
    simp [u9,d,rn (λe=>L e.symm)]
  have hfS':(λw=>(b.setIfInBounds i true).getD w false)=λw=>(w==i || S w):=funext hS'
  -- the frame behind it
  have hE':fE ops vs (λw=>(w==i || S w)) env ops.size=setd (fE ops vs S env ops.size) o.dst (vs i):=by
   apply tu;intro t;by_cases hdt:o.dst=some t
   ·rw [hdt];simp only [setd];rcases tz t env.length with htl | htl
    ·rw [uA (by rw [fE_len];exact htl)];refine fE_last (i:=i) (by simp) (by simp [dstAt,I,hdt]) htl O λw hw1 hw2 hw3=>?_;have d:(w==i)=false:=by simp;omega
     simp only [d,tr];have how:ops[w]?=some ops[w]:=uH hw2;cases hcb:cmpb (Region.before ops) w i with
     | true=>rw [X w (by omega) hcb];simp [T];omega
     | false =>
      have:=(drawOk_pair M how I (by omega) hcb).1 t (by simpa [dstAt,how] using hw3);exact absurd hdt this.2
    ·rw [th (by rw [fE_len];exact htl),th (by rw [uI,fE_len];exact htl)]
   ·rw [setd_get_ne hdt];refine fE_at ops.size λw L hd=>?_;by_cases hwi:w=i
    ·subst hwi;simp [dstAt,I] at hd;exact absurd hd hdt
    ·have d:(w==i)=false:=by simpa using hwi
     simp [d]
  -- the heap behind it
  have hst2:=z;generalize hX:fH ops Ns hs S ops.size=G at z;have hFx:Ns.contains i=true->F i G:=λZ=>by
   -- an effect that has come is none that waits for this one
   have hA:∀k,k<=ops.size->(∀e,e < k->wh ops Ns e=true->S e=true)->F i (hs k):=λk=>by
    induction k with
    | zero=>intro _ _;exact hFs i
    | succ k ih =>
     intro hk A;have ihk:=ih (by omega) λe d s=>A e (by omega) s;have ok:ops[k]?=some ops[k]:=uH (by omega);rcases (hc k _ ok).2.2 with d | d
     ·rw [d];exact ihk
     ·cases J:wh ops Ns k with
      | false=>rw [hn k J (by omega)];exact ihk
      | true =>
       refine d i Z ?_;rcases Y:((Region.before ops).getD k 0).testBit i with _ | _
       ·rfl
       ·have s:=A k (by omega) J;rw [H] at s;have:=hcl k i s Y;rw [hSi] at this;cases this
   rw [<- hX];have:∀k,k<=ops.size->F i (fH ops Ns hs S k):=λk=>by
    induction k with
    | zero=>intro _;exact hFs i
    | succ k ih =>
     intro hk;simp only [fH];split
     ·rename_i hh;simp only [ud] at hh;refine hA (k+1) hk λe d s=>?_;rcases Nat.lt_or_eq_of_le (Nat.lt_succ_iff.1 d) with h3 | rfl
      ·exact pS e k h3 (by omega) s hh.2 hh.1
      ·exact hh.1
     ·exact ih (by omega)
   exact this _ (uh _)
  have hAR3:∃R,ARN P ops Ns F i o (fE ops vs S env ops.size) G (vs i) R/\fH ops Ns hs (λw=>(w==i || S w)) ops.size=R:=by
   cases J:effN Ns i o.op with
   | true =>
    have d:G=hs i:=by rw [<- hX,fH2 _ _ (uh _),fH_eq ops.size (effS J),hTH]
    refine ⟨hs (i+1),by rw [d];exact l,?_⟩;rw [fH2 _ _ (uh _)];obtain ⟨m,hm⟩:∃m,ops.size=i+1+m:=⟨ops.size - (i+1),by omega⟩
    rw [hm,fH_stop (λw L hwe=>?_) m]
    ·simp only [fH];have:((i==i || S i)&&wh ops Ns i)=true:=by simp [heff,J]
     rw [this];simp only [ut];exact E (i+1) (by omega)
    ·have s:(w==i)=false:=by simp;omega
     simp only [s,tr];rcases tz w ops.size with hwl | hwl
     ·rw [effS J w hwl hwe];simp [T];omega
     ·have:wh ops Ns w=false:=by simp [wh,tV hwl]
      rw [this] at hwe;cases hwe
   | false =>
    have d:fH ops Ns hs (λw=>(w==i || S w)) ops.size=G:=by
     rw [<- hX];refine fH_eq ops.size λe _ hee=>?_;have:e ≠ i:=by rintro rfl;rw [heff,J] at hee;cases hee
     have s:(e==i)=false:=by simpa using this
     simp [s]
    refine ⟨G,?_,d⟩;have Y:Ns.contains i=false->isRd o.op=true->G.blks=(hs i).blks:=λZ hrd=>by
     rw [<- hX,fH2 _ _ (uh _),<- hTH];refine fH_blks hn2 ops.size (λe he1 he2 hne=>?_) pS pT;rw [E _ (by omega),E _ (by omega)];have oe:ops[e]?=some ops[e]:=uH he1;rcases (hc e _ oe).2.1 with han | hbb
     ·exfalso;unfold anch at han;simp only [ux] at han;have hm:(o,i) ∈ ops.toList.zipIdx:=by rw [tT];simpa using I
      have h3:=han (o,i) hm;have hei:e ≠ i:=by rintro rfl;rw [heff,J] at he2;cases he2
      have hei':(e==i)=false:=by simpa using hei
      simp only [hei',hrd,Z,tg,pu,tr] at h3;exact hne (X e hei h3)
     ·exact hbb
    rcases l with ⟨hN,l⟩ | ⟨hN,q1,q2,q3⟩ | ⟨hN,hbd,q1,q2⟩
    rotate_left
    ·exact .inr (.inl ⟨hN,q1,rfl,q3⟩)
    ·simp only [effN,hN,sR,sj] at J;exact .inr (.inr ⟨hN,hbd,q1,(bstep_still J hbd q2).2 G⟩)
    have Y:=Y hN;have J:isEff o.op=false:=by simp only [effN,hN,sR,sj] at J;exact J
    have h0:hs (i+1)=hs i:=AR.still J l;refine .inl ⟨hN,?_⟩;unfold AR at l ⊢;split at l
    ·rcases astep_still (P:=P) (env:=fE ops vs S env ops.size) (h:=hs i) J with ⟨x,W⟩ | ⟨m,u,W⟩ | W
     ·rw [W (hs i) λ_=>rfl] at l;rw [W G Y];cases x with
      | none=>exact l.elim
      | some v'=>exact ⟨l.1,rfl⟩
     ·rw [W (hs i)] at l;rw [W G];exact ⟨l.1,rfl⟩
     ·rcases W (hs i) with ⟨S,hS⟩ | hS <;> (rw [hS] at l;exact l.elim)
    ·exact ⟨l.1,rfl⟩
    ·exact l.elim
  obtain ⟨R,c,hH'⟩:=hAR3;have cnt:(List.range ops.size).countP (λj=>!(b.setIfInBounds i true).getD j false)<=C:=by
   have:=count_lt (p:=λj=>!(b.setIfInBounds i true).getD j false) (q:=λj=>!b.getD j false) (List.range ops.size)
    (λx _ G=>by simp only [hS',tv,sL] at G ⊢;rw [<- H];exact G.2)
    ⟨i,by simpa using O,by simp [hSi],by simp [hS']⟩
   omega
  have cl':∀x y,(b.setIfInBounds i true).getD x false=true->((Region.before ops).getD x 0).testBit y=true->(b.setIfInBounds i true).getD y false=true:=λx y d s=>by
   rw [hS'] at d ⊢;simp only [tn,sx] at d ⊢;right;rcases d with rfl | d
   ·rw [H];exact hanc y s
   ·rw [H] at d ⊢;exact hcl x y d s
  have go:∀(a':Act) (w':World),St B w0 g0 D (setd (fE ops vs S env ops.size) o.dst (vs i)) R a' w'->wpAnyIn (WF ro) n P .any ops Q C (b.setIfInBounds i true) a' w':=λa' w' hs' =>
   ih _ a' w' (by simp [hsz]) cnt cl' (by rw [hfS',hE',hH'];exact hs')
  unfold wpOpIn;simp only [I];have hst':=z;obtain ⟨g,hg,r,A,hD⟩:=hst';rcases c with ⟨_,c⟩ | ⟨Z,q1,q2,q3⟩ | ⟨_,_,q1,q2⟩
  rotate_left
  ·rw [qO A q1];simp only [ut];refine step_sound (K:=λv d=>v=vs i/\d=R) z ?_ ?_
   ·rcases q3 with ⟨f,args,q3,q4⟩ | q4
    ·rw [q3 G,q2];exact q4 G (hFx Z)
    ·rw [q4 G (hFx Z)];exact ⟨rfl,q2.symm⟩
   ·rintro v d u w' ⟨rfl,rfl⟩ ⟨g',k1,k2,k3,k4⟩
    exact go _ w' ⟨g',k1,k2,k3.setd o.dst k4,by rw [vH];exact hD⟩
  ·rw [qO A q1];simp only [ut];refine bstep_sound (K:=λv d=>v=vs i/\d=R) z (.inl ⟨_,q2,λp hp=>?_⟩) ?_
   ·simp only [uL] at hp;subst hp;exact ⟨rfl,rfl⟩
   ·rintro v d u w' ⟨rfl,rfl⟩ ⟨g',k1,k2,k3,k4⟩
    exact go _ w' ⟨g',k1,k2,k3.setd o.dst k4,by rw [vH];exact hD⟩
  unfold AR at c;split at c
  ·rename_i hgd;rw [qO A hgd];simp only [ut];refine step_sound (K:=λv d=>v=vs i/\d=R) z ?_ ?_
   ·cases hst3:zw P o (fE ops vs S env ops.size) G with
    | ok v1 d=>rw [hst3] at c;exact ⟨c.1.symm,c.2.symm⟩
    | len m v1 d=>rw [hst3] at c;exact λ_=>⟨c.1.symm,c.2.symm⟩
    | call f args=>rw [hst3] at c;exact c
    | round id args=>rw [hst3] at c;exact c
    | any S=>rw [hst3] at c;exact c.elim
    | fail=>rw [hst3] at c;exact c
   ·rintro v d u w' ⟨rfl,rfl⟩ ⟨g',k1,k2,k3,k4⟩
    exact go _ w' ⟨g',k1,k2,k3.setd o.dst k4,by rw [vH];exact hD⟩
  ·rename_i hgd;rw [qO A hgd];simp only [ul,uG];refine ⟨λ_ _=>trivial,go _ w ⟨g,hg,by rw [c.2];exact r,?_,by rw [vH];exact hD⟩⟩;rw [c.1];exact A.setd o.dst V.ofUndef
  ·exact c.elim
end
end Go.Vv
