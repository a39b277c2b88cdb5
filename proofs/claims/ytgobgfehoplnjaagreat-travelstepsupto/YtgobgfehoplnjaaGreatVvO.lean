/- A region that draws its order, proved. -/
import Derived.Test.YtgobgfehoplnjaaGreatVvBs
set_option linter.all false
namespace Go.Vv
open Go Go.RowKit Go.Lib

def pP (ops:Array Oper) (k:Nat):Option Tmp:=(ops[k]?).bind (·.dst)
def vF (ops:Array Oper) (Ns:List Nat) (k:Nat):Bool:=match ops[k]? with | some o=>bt Ns k o.op | none=>false
def fE (ops:Array Oper) (vs:Nat->AV) (S:Nat->Bool) (env:List AV):Nat->List AV
 | 0=>env
 | k+1=>if S k then ft (fE ops vs S env k) (pP ops k) (vs k) else fE ops vs S env k
def fH (ops:Array Oper) (Ns:List Nat) (hs:Nat->AH) (S:Nat->Bool):Nat->AH
 | 0=>hs 0
 | k+1=>if S k&&vF ops Ns k then hs (k+1) else fH ops Ns hs S k

section
variable {ops:Array Oper} {Ns:List Nat} {vs:Nat->AV} {hs:Nat->AH} {env:List AV}

theorem zmW (env:List AV) (d:Option Tmp) (v:AV):(ft env d v).length=env.length:=by cases d <;> simp [ft]
theorem zcG (S:Nat->Bool):∀k,(fE ops vs S env k).length=env.length
 | 0=>rfl
 | k+1=>by
  simp only [fE];split
  ·rw [zmW,zcG S k]
  ·exact zcG S k
theorem sP {env:List AV} {d:Option Tmp} {v:AV} {t:Nat} (h:d ≠ some t):(ft env d v)[t]?=env[t]?:=by
 cases d with
 | none=>rfl
 | some d=>simp only [ft];exact lV (λe=>h (by rw [e]))
theorem zqm {S T:Nat->Bool} {t:Nat}:∀k,(∀w,w < k->pP ops w=some t->S w=T w)->(fE ops vs S env k)[t]?=(fE ops vs T env k)[t]?
 | 0,_=>rfl
 | k+1,h=>by
  have c:=zqm (S:=S) (T:=T) k λw b hd=>h w (by omega) hd;simp only [fE];by_cases hd:pP ops k=some t
  ·have a:=h k (by omega) hd;rw [a,hd];cases T k
   ·simp_all
   ·simp only [nv,ft,List.getElem?_set,zcG]
  ·have e:(if S k then ft (fE ops vs S env k) (pP ops k) (vs k) else fE ops vs S env k)[t]?=(fE ops vs S env k)[t]?:=by
    split
    ·exact sP hd
    ·rfl
   have d:(if T k then ft (fE ops vs T env k) (pP ops k) (vs k) else fE ops vs T env k)[t]?=(fE ops vs T env k)[t]?:=by
    split
    ·exact sP hd
    ·rfl
   simp_all
theorem zql {S T:Nat->Bool}:∀k,(∀w,w < k->S w=T w)->fE ops vs S env k=fE ops vs T env k
 | 0,_=>rfl
 | k+1,h=>by simp only [fE,h k (by omega),zql k λw a=>h w (by omega)]
theorem zl3 {S:Nat->Bool} {i:Nat} (h:∀w,i<=w->S w=false):∀m,fE ops vs S env (i+m)=fE ops vs S env i
 | 0=>rfl
 | m+1=>by rw [<- jw];simp only [fE,h (i+m) (by omega),tx,lg];exact zl3 h m
theorem zqk {S:Nat->Bool} {i t n:Nat} (hi:S i=true) (hd:pP ops i=some t) (d:t < env.length) (b:i < n) (h:∀w,i < w->w < n->pP ops w=some t->S w=false) :
  (fE ops vs S env n)[t]?=some (vs i):=by
 obtain ⟨m,rfl⟩:∃m,n=i+1+m:=⟨n - (i+1),by omega⟩
 induction m with
 | zero =>
  simp only [fE,hi,nv,hd,ft];rw [lr (by rw [zcG];exact d)]
 | succ m ih =>
  rw [<- jw];simp only [fE];have a:=ih (by omega) λw c e=>h w c (by omega);split
  ·rename_i f;by_cases hd':pP ops (i+1+m)=some t
   ·grind
   ·rw [sP hd'];exact a
  ·omega
theorem zqj {S T:Nat->Bool}:∀k,(∀e,e < k->vF ops Ns e=true->S e=T e)->fH ops Ns hs S k=fH ops Ns hs T k
 | 0,_=>rfl
 | k+1,h=>by
  simp only [fH,zqj k λe a=>h e (by omega)]
  grind
theorem zgu {S:Nat->Bool} (b:∀k,vF ops Ns k=false->hs (k+1)=hs k):∀k,(∀e,e < k->vF ops Ns e=true->S e=true)->fH ops Ns hs S k=hs k
 | 0,_=>rfl
 | k+1,h=>by
  simp only [fH];cases a:vF ops Ns k with
  | true=>simp [h k (by omega) a]
  | false=>simp only [Bool.and_false,tx,lg,zgu b k λe a=>h e (by omega)];exact (b k a).symm
theorem zhI {S:Nat->Bool} {i:Nat} (h:∀w,i<=w->vF ops Ns w=true->S w=false):∀m,fH ops Ns hs S (i+m)=fH ops Ns hs S i
 | 0=>rfl
 | m+1=>by
  rw [<- jw];simp only [fH];rw [lq]
  ·exact zhI h m
  ·grind
theorem zl2 {S T:Nat->Bool} (g:∀k,vF ops Ns k=false->hs (k+1)=hs k):∀k,
  (∀e,e < k->vF ops Ns e=true->S e ≠ T e->(hs (e+1)).zh=(hs e).zh) ->
  (∀e a,e < a->a < k->vF ops Ns e=true->vF ops Ns a=true->S a=true->S e=true)->(∀e a,e < a->a < k->vF ops Ns e=true->vF ops Ns a=true->T a=true->T e=true) ->
  (fH ops Ns hs S k).zh=(fH ops Ns hs T k).zh
 | 0,_,_,_=>rfl
 | k+1,h,pS,pT=>by
  have d:=zl2 (S:=S) (T:=T) g k (λe c=>h e (by omega)) (λe a f i=>pS e a f (by omega)) (λe a f i=>pT e a f (by omega));simp only [fH];cases c:vF ops Ns k with
  | false=>simpa using d
  | true =>
   simp only [kU];cases hS:S k <;> cases hT:T k
   ·simp_all
   ·simp only [tx,lg,nv];rw [h k (by omega) c (by simp_all),d];rw [zgu g k λe b hh=>pT e k b (by omega) hh c hT]
   ·simp only [tx,lg,nv];rw [h k (by omega) c (by simp_all),<- d];rw [zgu g k λe b hh=>pS e k b (by omega) hh c hS]
   ·simp

theorem zjf {p q:Nat->Bool}:∀(l:List Nat),(∀x ∈ l,p x=true->q x=true)->(∃x ∈ l,q x=true/\p x=false)->l.countP p < l.countP q
 | [],_,⟨x,a,_⟩=>by cases a
 | y::r,h,⟨x,a,hq,hp⟩=>by
  have b:r.countP p<=r.countP q:=List.countP_mono_left λz c=>h z (by simp [c]);simp only [List.countP_cons];rcases lG.1 a with rfl | a
  ·grind
  ·have d:=zjf r (λz c=>h z (by simp [c])) ⟨x,a,hq,hp⟩
   grind
end
section
variable {P:Program} {B:Nat} {w0:World} {g0:Gh} {D:List Deferred} {ro:Option Nat} {n:Nat} {ops:Array Oper} {Ns:List Nat} {F:Nat->AH->Prop} [ax P B w0]

theorem zcK (h:ry ops Ns=true) {i:Nat} {o:Oper} (hi:ops[i]?=some o):∀e ∈ o.after,Region.binds .any e=true->e.on < i:=by
 unfold ry at h;simp only [nK] at h;have hm:(o,i) ∈ ops.toList.zipIdx:=by grind
 have:=h (o,i) hm;simp only [tr] at this;intro e he hb;have h1:=kY.1 this.1 e he
 simp_all
theorem zcW (h:ry ops Ns=true):∀(i w:Nat),((Region.before ops).getD i 0).testBit w=true->w < i:=by
 intro i
 induction i using Nat.strongRecOn with
 | _ i ih =>
  intro w a;rcases hi:ops[i]? with _ | o
  ·have:(Region.before ops).getD i 0=0:=by
    rw [zgI,lU,iO]
    ·rfl
    rw [zfs];simp at hi ⊢;exact hi
   simp_all
  ·obtain ⟨e,b,c,hh⟩:=zcV hi a;have d:=zcK h hi e b c
   grind
theorem pQ (h:ry ops Ns=true) {i j:Nat} {o a:Oper} (hi:ops[i]?=some o) (f:ops[j]?=some a) (c:i ≠ j) (g:aa (Region.before ops) i j=false) :
  (∀d,o.dst=some d->d ∉ a.looksAt ops/\a.dst ≠ some d)/\(bt Ns i o.op=true->bt Ns j a.op=false):=by
 unfold ry at h;simp only [nK] at h;have e:(o,i) ∈ ops.toList.zipIdx:=by grind
 have b:(a,j) ∈ ops.toList.zipIdx:=by grind
 grind

theorem zaU {vs:Nat->AV} {env:List AV} {S:Nat->Bool}:∀k,(∀w,w < k->S w=false)->fE ops vs S env k=env
 | 0,_=>rfl
 | k+1,h=>by simp only [fE,h k (by omega),tx,lg];exact zaU k λw a=>h w (by omega)

theorem AR.still {o:Oper} {env:List AV} {h d:AH} {v:AV} (b:zhB o.op=false) (a:AR P ops o env h v d):d=h:=by
 unfold AR at a;split at a
 ·rcases dD (P:=P) (env:=env) (h:=h) b with ⟨x,c⟩ | ⟨n,u,c⟩ | c
  ·rw [c h λ_=>rfl] at a;cases x with
   | none=>exact a.elim
   | some v'=>exact a.2
  ·simp_all
  ·grind
 ·exact a.2
 ·simp_all

theorem ARN.still {i:Nat} {o:Oper} {env:List AV} {h e:AH} {v:AV} (a:bt Ns i o.op=false) (f:ARN P ops Ns F i o env h v e):e=h:=by
 rcases f with ⟨c,b⟩ | ⟨_,_,b,_⟩ | ⟨c,d,_,b⟩ | ⟨_,_,_,b⟩
 ·refine AR.still ?_ b;simp only [bt,c,jm,kU] at a;omega
 ·exact b
 ·simp only [bt,c,jm,kU] at a;exact (zcS a d b).1
 ·exact b
theorem zjd {QA:List AV->AH->Prop}:∀(rest:List Oper) (k:Nat) (env:List AV) (h:AH),ops.toList.drop k=rest->k<=ops.size->zI P ops Ns F QA k rest env h ->
  ∃(vs:Nat->AV) (hs:Nat->AH),hs k=h/\(∀i o,k<=i->ops[i]?=some o->ARN P ops Ns F i o (fE ops vs (λw=>decide (k<=w)) env i) (hs i) (vs i) (hs (i+1))/\(zqI ops Ns i=true \/ (hs (i+1)).zh=(hs i).zh)/\(hs (i+1)=hs i \/ fY ((Region.before ops).getD i 0) Ns F (hs (i+1)))) /\
   QA (fE ops vs (λw=>decide (k<=w)) env ops.size) (hs ops.size)
 | [],k,env,h,hd,hkn,b=>by
  have s:k=ops.size:=by
   have:=congrArg List.length hd
   grind
  subst s;refine ⟨λ_=>xo,λ_=>h,rfl,λi o hi g=>?_,?_⟩
  ·simp_all
  ·rw [zaU _ λw b=>by simp;omega];exact b
 | o::rest,k,env,h,hd,hkn,b=>by
  have g:ops[k]?=some o:=by
   rw [<- lB];have:=congrArg (·[0]?) hd
   grind
  have p:k < ops.size:=(l9.1 g).1;have l:ops.toList.drop (k+1)=rest:=by
   rw [<- kp,hd];rfl
  obtain ⟨v,t,r,j,q,c⟩:=b;obtain ⟨vs,hs,h0,x,u⟩:=zjd rest (k+1) _ t l (by omega) c;have e:pP ops k=o.dst:=by simp [pP,g]
  let f:Nat->AV:=λw=>if w=k then v else vs w
  let d:Nat->AH:=λw=>if w<=k then h else hs w
  have key:∀m,fE ops f (λw=>decide (k<=w)) env (k+1+m)=fE ops vs (λw=>decide (k+1<=w)) (ft env o.dst v) (k+1+m):=by
   intro m
   induction m with
   | zero =>
    simp only [jc];rw [zaU (S:=λw=>decide (k+1<=w)) (k+1) λw b=>by simp;omega];simp only [fE,oA,jq,nv,e];rw [zaU (S:=λw=>decide (k<=w)) k λw b=>by simp;omega]
    grind
   | succ m ih =>
    rw [<- jw];simp only [fE,ih]
    grind
  refine ⟨f,d,by simp [d],λi y hi a=>?_,?_⟩
  ·rcases Nat.eq_or_lt_of_le hi with rfl | hi
   ·rw [g] at a;injection a with a;subst a;rw [zaU (S:=λw=>decide (k<=w)) k λw b=>by simp;omega]
    grind
   ·obtain ⟨m,rfl⟩:∃m,i=k+1+m:=⟨i - (k+1),by omega⟩
    grind
  ·obtain ⟨m,z⟩:∃m,ops.size=k+1+m:=⟨ops.size - (k+1),by omega⟩
   grind

theorem zka (G:ry ops Ns=true) {Q:Exit->Act->World->Prop} {vs:Nat->AV} {hs:Nat->AH} {env:List AV}
  (hFs:∀n,F n (hs 0)) (hc:∀i o,ops[i]?=some o->ARN P ops Ns F i o (fE ops vs (λ_=>true) env i) (hs i) (vs i) (hs (i+1))/\(zqI ops Ns i=true \/ (hs (i+1)).zh=(hs i).zh)/\(hs (i+1)=hs i \/ fY ((Region.before ops).getD i 0) Ns F (hs (i+1))))
  (hQ:∀a w,St B w0 g0 D (fE ops vs (λ_=>true) env ops.size) (hs ops.size) a w->Q .normal a w) :
  ∀(z:Nat) (b:Array Bool) (a:Act) (w:World),b.size=ops.size->(List.range ops.size).countP (λi=>!b.getD i false)<=z ->
   (∀i j,b.getD i false=true->((Region.before ops).getD i 0).testBit j=true->b.getD j false=true) ->
   St B w0 g0 D (fE ops vs (λi=>b.getD i false) env ops.size) (fH ops Ns hs (λi=>b.getD i false) ops.size) a w ->
   wpAnyIn (WF ro) n P .any ops Q z b a w:=by
 have hn:∀k,vF ops Ns k=false->k < ops.size->hs (k+1)=hs k:=λk A hk=>by
  have C:ops[k]?=some ops[k]:=lJ hk;exact ARN.still (by simpa [vF,C] using A) (hc k _ C).1
 -- beyond the region nothing is asked
 let O:Nat->AH:=λk=>if k<=ops.size then hs k else hs ops.size
 have H:∀k,k<=ops.size->O k=hs k:=λk hk=>by grind
 have hn2:∀k,vF ops Ns k=false->O (k+1)=O k:=λk A=>by
  grind
 have fH2:∀(S:Nat->Bool) k,k<=ops.size->fH ops Ns hs S k=fH ops Ns O S k:=λS k=>by
  induction k with
  | zero=>intro _;simp only [fH];exact (H 0 (by omega)).symm
  | succ k ih=>intro hk;simp only [fH,ih (by omega),H (k+1) hk]
 -- all has come
 have fin:∀(b:Array Bool) (a:Act) (w:World),b.size=ops.size->Region.ready .any ops b=[] ->
   St B w0 g0 D (fE ops vs (λi=>b.getD i false) env ops.size) (fH ops Ns hs (λi=>b.getD i false) ops.size) a w->Q .normal a w:=by
  intro b a w N hr s;have hall:∀i,i < ops.size->b.getD i false=true:=by
   intro i
   induction i using Nat.strongRecOn with
   | _ i ih =>
    intro hi;rcases hb:b.getD i false with _ | _
    ·exfalso;have:i ∈ Region.ready .any ops b:=by
      unfold Region.ready;rw [kL];refine ⟨by simp_all,?_⟩;have d:b.getD i true=false:=by
       simp_all
      have C:ops[i]?=some ops[i]:=lJ hi;simp only [d,jm,C,lM,jE,lA];rw [kY];intro e A;cases hbe:Region.binds .any e with
      | false=>rfl
      | true =>
       have hlt:=zcK G C e A hbe
       grind
     simp_all
    ·rfl
  refine hQ a w ?_;rw [zql (T:=λ_=>true) ops.size λw L=>hall w L] at s;rw [fH2 _ _ (oA _),zgu hn2 ops.size λe A _=>hall e A,H _ (oA _)] at s;omega
 intro z
 induction z with
 | zero =>
  intro b a w N hcnt hcl s;have hr:Region.ready .any ops b=[]:=by
   rcases hrr:Region.ready .any ops b with _ | ⟨i,r⟩
   ·rfl
   ·exfalso;have hi:i ∈ Region.ready .any ops b:=by simp_all
    unfold Region.ready at hi
    grind
  exact ⟨hr,fin b a w N hr s⟩
 | succ z ih =>
  intro b a w N hcnt hcl s;refine ⟨λhr=>fin b a w N hr s,λi hi=>?_⟩;unfold Region.ready at hi;rw [kL] at hi;have hlt:i < ops.size:=by simp_all
  have C:ops[i]?=some ops[i]:=lJ hlt;generalize hoo:ops[i]=o at C;have hi2:=hi.2;simp only [C,lM,jE,tr,kA] at hi2;have hil:i < b.size:=by omega
  have hSi:b.getD i false=false:=by
   grind
  have hedge:∀e ∈ o.after,Region.binds .any e=true->b.getD e.on false=true:=λe A hb=>by
   have:=kY.1 hi2.2 e A
   grind
  have hanc:∀w,((Region.before ops).getD i 0).testBit w=true->b.getD w false=true:=λw L=>by
   obtain ⟨e,A,hb,hh⟩:=zcV C L;rcases hh with rfl | ⟨_,I⟩
   ·grind
   ·grind
  generalize hS:(λw=>b.getD w false)=S at s;have hSd:∀w,S w=b.getD w false:=λw=>by rw [<- hS]
  have hSi':S i=false:=by grind
  let T:Nat->Bool:=λw=>decide (w < i)
  have U:∀w,w ≠ i->aa (Region.before ops) w i=true->S w=T w:=λw _ hc'=>by
   simp only [aa,kj] at hc';rcases hc' with d | d
   ·have:=zcW G i w d
    grind
   ·have I:=zcW G w i d
    grind
  -- what it looks at is a5 it was in the text's order
  have hTn:fE ops vs T env ops.size=fE ops vs (λ_=>true) env i:=by
   obtain ⟨m,hm⟩:∃m,ops.size=i+m:=⟨ops.size - i,by omega⟩
   rw [hm,zl3 (S:=T) (λw L=>by grind) m];exact zql i λw L=>by simp [T,L]
  have Z:∀t ∈ o.looksAt ops,(fE ops vs S env ops.size)[t]?=(fE ops vs (λ_=>true) env i)[t]?:=λt ht=>by
   rw [<- hTn];refine zqm ops.size λw L hd=>?_;by_cases hwi:w=i
   ·grind
   ·cases hcb:aa (Region.before ops) w i with
    | true=>exact U w hwi hcb
    | false =>
     have how:ops[w]?=some ops[w]:=lJ L;have:=(pQ G how C hwi hcb).1 t (by simpa [pP,how] using hd)
     grind
  obtain ⟨hAR,hblk,_⟩:=hc i o C;have hgE:aG ops o (fE ops vs S env ops.size)=aG ops o (fE ops vs (λ_=>true) env i):=zaA Z;have hsE:∀J,zj P o (fE ops vs S env ops.size) J=zj P o (fE ops vs (λ_=>true) env i) J:=λJ=>rk λx E=>zfb λt ht=>Z t (zeQ (ht ▸ E));have hsB:∀J,xE P o (fE ops vs S env ops.size) J=xE P o (fE ops vs (λ_=>true) env i) J:=λJ=>zcT λx E=>zfb λt ht=>Z t (zeQ (ht ▸ E));have l:ARN P ops Ns F i o (fE ops vs S env ops.size) (hs i) (vs i) (hs (i+1)):=by
   rcases hAR with ⟨d,I⟩ | ⟨d,I,h3,h4⟩ | ⟨d,hbd,I,h3⟩ | ⟨d,I,h3,h4⟩
   ·refine .inl ⟨d,?_⟩;unfold AR at I ⊢;rw [hgE,hsE];exact I
   ·exact .inr (.inl ⟨d,by grind,h3,h4.imp (λ⟨f,args,h5,h6⟩=>⟨f,args,λI=>by grind,h6⟩) (λh5 I hf=>by grind)⟩)
   ·exact .inr (.inr (.inl ⟨d,hbd,by grind,by grind⟩))
   ·exact .inr (.inr (.inr ⟨d,by grind,h3,h4⟩))
  have heff:vF ops Ns i=bt Ns i o.op:=by simp [vF,C]
  -- effects are in a row
  have pS:∀e M,e < M->M < ops.size->vF ops Ns e=true->vF ops Ns M=true->S M=true->S e=true:=λe M d I h3 h4 h5=>by
   have oe:ops[e]?=some ops[e]:=lJ (by omega);have oe':ops[M]?=some ops[M]:=lJ I;cases hcb:aa (Region.before ops) e M with
   | true =>
    simp only [aa,kj] at hcb;rcases hcb with h6 | h6
    ·grind
    ·have:=zcW G e M h6;omega
   | false =>
    have h7:=(pQ G oe oe' (by omega) hcb).2 (by simpa [vF,oe] using h3);simp [vF,oe',h7] at h4
  have pT:∀e M,e < M->M < ops.size->vF ops Ns e=true->vF ops Ns M=true->T M=true->T e=true:=λe M d _ _ _ h5=>by
   grind
  have effS:bt Ns i o.op=true->∀e,e < ops.size->vF ops Ns e=true->S e=T e:=λR e he1 he2=>by
   by_cases hei:e=i
   ·grind
   ·have oe:ops[e]?=some ops[e]:=lJ he1;cases hcb:aa (Region.before ops) e i with
    | true=>exact U e hei hcb
    | false =>
     have h7:=(pQ G oe C hei hcb).2 (by simpa [vF,oe] using he2)
     grind
  have hTH:fH ops Ns O T ops.size=hs i:=by
   obtain ⟨m,hm⟩:∃m,ops.size=i+m:=⟨ops.size - i,by omega⟩
   rw [hm,zhI (S:=T) (λw L _=>by grind) m,zgu hn2 i λe A _=>by simp [T,A]]
   grind
  -- the new list
  have hS':∀w,(b.setIfInBounds i true).getD w false=(w==i || S w):=λw=>by
   rw [hSd];by_cases L:w=i
   ·subst L;simp [lU,hil]
   ·have d:(w==i)=false:=by simpa using L
    simp [lU,d,Array.getElem?_setIfInBounds_ne (λe=>L e.symm)]
  have hfS':(λw=>(b.setIfInBounds i true).getD w false)=λw=>(w==i || S w):=funext hS'
  -- the frame behind it
  have hE':fE ops vs (λw=>(w==i || S w)) env ops.size=ft (fE ops vs S env ops.size) o.dst (vs i):=by
   apply lW;intro t;by_cases hdt:o.dst=some t
   ·rw [hdt];simp only [ft];rcases kR t env.length with htl | htl
    ·rw [lr (by rw [zcG];exact htl)];refine zqk (i:=i) (by simp) (by simp [pP,C,hdt]) htl hlt λw hw1 hw2 hw3=>?_;have d:(w==i)=false:=by simp;omega
     simp only [d,lR];have how:ops[w]?=some ops[w]:=lJ hw2;cases hcb:aa (Region.before ops) w i with
     | true=>rw [U w (by omega) hcb];simp [T];omega
     | false =>
      have:=(pQ G how C (by omega) hcb).1 t (by simpa [pP,how] using hw3)
      grind
    ·rw [kN (by rw [zcG];exact htl),kN (by rw [ly,zcG];exact htl)]
   ·rw [sP hdt];refine zqm ops.size λw L hd=>?_;by_cases hwi:w=i
    ·subst hwi;simp [pP,C] at hd;exact absurd hd hdt
    ·grind
  -- the heap behind it
  have hst2:=s;generalize hX:fH ops Ns hs S ops.size=E at s;have hFx:Ns.contains i=true->F i E:=λX=>by
   -- an effect that has come is none that waits for this one
   have hA:∀k,k<=ops.size->(∀e,e < k->vF ops Ns e=true->S e=true)->F i (hs k):=λk=>by
    induction k with
    | zero=>intro _ _;exact hFs i
    | succ k ih =>
     intro hk A;have ihk:=ih (by omega) λe d I=>A e (by omega) I;have ok:ops[k]?=some ops[k]:=lJ (by omega);rcases (hc k _ ok).2.2 with d | d
     ·grind
     ·cases R:vF ops Ns k with
      | false=>rw [hn k R (by omega)];exact ihk
      | true =>
       refine d i X ?_
       grind
   rw [<- hX];have:∀k,k<=ops.size->F i (fH ops Ns hs S k):=λk=>by
    induction k with
    | zero=>intro _;exact hFs i
    | succ k ih =>
     intro hk;simp only [fH];split
     ·rename_i hh;simp only [tr] at hh;refine hA (k+1) hk λe d I=>?_
      grind
     ·grind
   grind
  have hAR3:∃J,ARN P ops Ns F i o (fE ops vs S env ops.size) E (vs i) J/\fH ops Ns hs (λw=>(w==i || S w)) ops.size=J:=by
   cases R:bt Ns i o.op with
   | true =>
    have d:E=hs i:=by rw [<- hX,fH2 _ _ (oA _),zqj ops.size (effS R),hTH]
    refine ⟨hs (i+1),by grind,?_⟩;rw [fH2 _ _ (oA _)];obtain ⟨m,hm⟩:∃m,ops.size=i+1+m:=⟨ops.size - (i+1),by omega⟩
    rw [hm,zhI (λw L hwe=>?_) m]
    ·simp only [fH]
     grind
    ·have I:(w==i)=false:=by simp;omega
     grind
   | false =>
    have d:fH ops Ns hs (λw=>(w==i || S w)) ops.size=E:=by
     rw [<- hX];refine zqj ops.size λe _ hee=>?_;have:e ≠ i:=by grind
     grind
    refine ⟨E,?_,d⟩;have hb:Ns.contains i=false->zu2 o.op=true->E.zh=(hs i).zh:=λX hrd=>by
     rw [<- hX,fH2 _ _ (oA _),<- hTH];refine zl2 hn2 ops.size (λe he1 he2 hne=>?_) pS pT;rw [H _ (by omega),H _ (by omega)];have oe:ops[e]?=some ops[e]:=lJ he1;rcases (hc e _ oe).2.1 with han | hbb
     ·exfalso;unfold zqI at han;simp only [nK] at han;have hm:(o,i) ∈ ops.toList.zipIdx:=by grind
      have h3:=han (o,i) hm;have hei:e ≠ i:=by grind
      grind
     ·omega
    rcases l with ⟨hN,l⟩ | ⟨hN,q1,Y,q3⟩ | ⟨hN,hbd,q1,Y⟩ | ⟨hN,q1,Y,q3⟩
    rotate_left
    ·exact .inr (.inl ⟨hN,q1,rfl,q3⟩)
    ·simp only [bt,hN,jm,kU] at R;exact .inr (.inr (.inl ⟨hN,hbd,q1,(zcS R hbd Y).2 E⟩))
    ·exact .inr (.inr (.inr ⟨hN,q1,Y,rfl⟩))
    have hb:=hb hN;have R:zhB o.op=false:=by simp only [bt,hN,jm,kU] at R;exact R
    have h0:hs (i+1)=hs i:=AR.still R l;refine .inl ⟨hN,?_⟩;unfold AR at l ⊢;split at l
    ·rcases dD (P:=P) (env:=fE ops vs S env ops.size) (h:=hs i) R with ⟨x,W⟩ | ⟨m,u,W⟩ | W
     ·rw [W (hs i) λ_=>rfl] at l;rw [W E hb];cases x with
      | none=>exact l.elim
      | some v'=>exact ⟨l.1,rfl⟩
     ·grind
     ·rcases W (hs i) with ⟨S,hS⟩ | hS <;> (rw [hS] at l;exact l.elim)
    ·grind
    ·omega
  obtain ⟨J,c,hH'⟩:=hAR3;have cnt:(List.range ops.size).countP (λj=>!(b.setIfInBounds i true).getD j false)<=z:=by
   have:=zjf (p:=λj=>!(b.setIfInBounds i true).getD j false) (q:=λj=>!b.getD j false) (List.range ops.size)
    (λx _ E=>by grind)
    ⟨i,by grind,by simp [hSi],by simp [hS']⟩
   omega
  have cl':∀x y,(b.setIfInBounds i true).getD x false=true->((Region.before ops).getD x 0).testBit y=true->(b.setIfInBounds i true).getD y false=true:=λx y d I=>by
   rw [hS'] at d ⊢;simp only [kj,ju] at d ⊢;right;rcases d with rfl | d
   ·grind
   ·grind
  have go:∀(a':Act) (w':World),St B w0 g0 D (ft (fE ops vs S env ops.size) o.dst (vs i)) J a' w'->wpAnyIn (WF ro) n P .any ops Q z (b.setIfInBounds i true) a' w':=λa' w' hs' =>
   ih _ a' w' (by simp [N]) cnt cl' (by grind)
  unfold wpOpIn;simp only [C];have hst':=s;obtain ⟨g,hg,r,A,hD⟩:=hst';rcases c with ⟨_,c⟩ | ⟨X,q1,Y,q3⟩ | ⟨_,_,q1,Y⟩ | ⟨_,q1,Y,q3⟩
  rotate_left
  ·rw [qS A q1];simp only [nv];refine ni (K:=λv d=>v=vs i/\d=J) s ?_ ?_
   ·rcases q3 with ⟨f,args,q3,q4⟩ | q4
    ·rw [q3 E,Y];exact q4 E (hFx X)
    ·rw [q4 E (hFx X)];exact ⟨rfl,Y.symm⟩
   ·rintro v d u w' ⟨rfl,rfl⟩ ⟨g',k1,k2,k3,k4⟩
    exact go _ w' ⟨g',k1,k2,k3.ft o.dst k4,by rw [vZ];exact hD⟩
  ·rw [qS A q1];simp only [nv];refine m8 (K:=λv d=>v=vs i/\d=J) s ⟨_,Y,λp hp=>?_⟩ ?_
   ·grind
   ·rintro v d u w' ⟨rfl,rfl⟩ ⟨g',k1,k2,k3,k4⟩
    exact go _ w' ⟨g',k1,k2,k3.ft o.dst k4,by rw [vZ];exact hD⟩
  ·rw [qS A q1];simp only [tx,lg];refine ⟨λ_ _=>trivial,go _ w ⟨g,hg,by grind,?_,by rw [vZ];exact hD⟩⟩;rw [Y];exact A.ft o.dst V.f0
  unfold AR at c;split at c
  ·rename_i hgd;rw [qS A hgd];simp only [nv];refine ni (K:=λv d=>v=vs i/\d=J) s ?_ ?_
   ·cases hst3:zj P o (fE ops vs S env ops.size) E with
    | ok v1 d=>rw [hst3] at c;exact ⟨c.1.symm,c.2.symm⟩
    | len m v1 d=>rw [hst3] at c;exact λ_=>⟨c.1.symm,c.2.symm⟩
    | call f args=>rw [hst3] at c;exact c
    | round id args=>rw [hst3] at c;exact c
    | any S=>rw [hst3] at c;exact c.elim
    | fail=>rw [hst3] at c;exact c
   ·rintro v d u w' ⟨rfl,rfl⟩ ⟨g',k1,k2,k3,k4⟩
    exact go _ w' ⟨g',k1,k2,k3.ft o.dst k4,by rw [vZ];exact hD⟩
  ·rename_i hgd;rw [qS A hgd];simp only [tx,lg];refine ⟨λ_ _=>trivial,go _ w ⟨g,hg,by grind,?_,by rw [vZ];exact hD⟩⟩;rw [c.1];exact A.ft o.dst V.f0
  ·grind
end
end Go.Vv
namespace Go.Vv
open Go Go.RowKit Go.Lib
variable {p:Nat->Prop} {h:AH} {w:World}

theorem zaN {p:Nat->Prop} (h:∃n,p n):∃m,p m/\∀k,p k->m<=k:=by
 obtain ⟨n,hn⟩:=h
 induction n using Nat.strongRecOn with
 | _ n ih =>
  grind
open Classical in
noncomputable def zlz (p:Nat->Prop):Nat:=if h:∃n,p n then Classical.choose (zaN h) else 0
theorem zj3 (h:∃n,p n):p (zlz p):=by
 unfold zlz;rw [gI h];exact (kW (zaN h)).1
theorem znF {n:Nat} (h:p n):zlz p<=n:=by
 unfold zlz;rw [gI ⟨n,h⟩];exact (kW (zaN ⟨n,h⟩)).2 n h

section
variable {P:Program} {B:Nat} {w0:World} {ro:Option Nat} {n:Nat} [ax P B w0]

def Marks (gb g:Gh) (D:List Deferred):Prop:=∃cs:List Nat,D.map (·.target)=cs.map Target.collected/\cs.Nodup/\∀c ∈ cs,c ∈ g.δ/\c ∉ gb.δ
theorem Marks.mono {gb g g':Gh} {D:List Deferred} (h:Marks gb g D) (k:∀c,c ∈ g.δ->c ∈ g'.δ):Marks gb g' D:=by
 obtain ⟨cs,e,d,a⟩:=h;exact ⟨cs,e,d,λc b=>⟨k c (a c b).1,(a c b).2⟩⟩
theorem Marks.nil (gb g:Gh):Marks gb g []:=⟨[],rfl,List.nodup_nil,λ_ h=>by cases h⟩
def StM (B:Nat) (w0:World) (gb g0:Gh) (env:List AV) (h:AH) (a:Act) (w:World):Prop:=∃g,g0.le g/\Rel B w0 g h w/\VL g env a.tmps.toList/\Marks gb g a.defers/\gb.le g

def Gh.cK (g:Gh) (c:Nat):Gh:={ g with δ:=c::g.δ }
theorem Gh.df (g:Gh) (c:Nat):g.le (g.cK c):=⟨λ_ _ _ e=>e,λ_ _ e=>e,λ_ t e=>⟨t,e,oA _,λ_=>rfl,rfl⟩,λ_ h=>kQ _ h⟩
theorem Rel.cK {g:Gh} {h:AH} {w:World} (r:Rel B w0 g h w) {c:Nat} (l:B<=c) (m:w.heap[c]?=some (.deferred (some []))) (hs:∀i:Nat,g.σ[i]? ≠ some c):Rel B w0 (g.cK c) h w :=
 ⟨r.below,r.dp,r.eF,r.fh,λi x k a b=>by obtain ⟨f,d,j,e⟩:=r.gZ i x k a b;exact ⟨f,d,j.mono (g.df c) rfl,e⟩,r.fw,r.tok,r.eA,r.fO,r.sep,λx a=>by
  rcases lG.1 a with rfl | a
  ·exact ⟨l,m,hs⟩
  ·exact r.eE x a,λi k hi b=>(r.row i k hi b).mono (g.df c) (λ_ _ h _=>h) (λ_ _ _ _ _ _ _=>⟨rfl,λ_=>rfl⟩),r.fW⟩

theorem zcc {L:Operand} {S:Array Tmp} {assign body:Code} {gb g0:Gh} {QA:Exit->List AV->AH->Prop} {env:List AV} {a:Act} (u:ro=none)
  (y:wO P (.rangeFunc L S assign body) QA env h) (hs:StM B w0 gb g0 env h a w) {Q:Exit->Act->World->Prop} (hQ:∀x m K a' w',QA x m K->StM B w0 gb g0 m K a' w'->Q x a' w') :
  (Code.rangeFunc L S assign body).wpIn (WF ro) n P Q a w:=by
 subst u;obtain ⟨g,E,r,A,F,k⟩:=hs;obtain ⟨W,_,_,R,h2,D,y⟩:=y;obtain ⟨g2,z,r2,he2,H⟩:=D B w0 w w g g _ r (Gh.le.refl g) r A;replace E:=E.trans z;replace F:=F.mono H;replace k:=k.trans z;clear D H r A z;revert y E F k r2 he2;generalize R=env,h2=h,g2=g;intro y r A E F k;have hV:=V.ev A W;split at y
 ·rename_i f first caps hx
  rw [hx] at hV;simp only [V] at hV;obtain ⟨fs,cs,hev,h1,h2⟩:=hV;refine wpIn_rangeFunc λfn hfn=>?_;have u:(WF none).round=none:=rfl;rw [u];obtain ⟨l,s⟩:∃l:LoopState->Option Code->Loop,l=λst C=>{ state:=st,pending:=C,fn,tmps:=a.tmps,params:=S,assign,body,defers:=w.heap.size }:=⟨_,rfl⟩
  have r1:=r.eL (.deferred (some []));have hc1:(w.alloc (.deferred (some []))).heap[w.heap.size]?=some (.deferred (some [])):=World.alloc_heap_new w _;have hns:∀i:Nat,g.σ[i]? ≠ some w.heap.size:=λi hi=>by
   have hl:i < h.zh.length:=by rw [<- r.fh];exact (tm.1 hi).1
   have:=(r.gZ i _ _ hi (s5 hl)).2.1;omega
  have r2:=r1.cK (c:=w.heap.size) r.dp hc1 hns;have r3:=r2.dv (.loop (l .ready none)) (.loop .ready none env S assign body) ⟨fn,a.tmps,w.heap.size,by rw [s];exact World.alloc_heap_new _ _,A.mono ((g.df _).trans (Gh.fc _ _))⟩;have U:(w.alloc (.deferred (some []))).heap.size=w.heap.size+1:=World.size_alloc ..;have N:((g.cK w.heap.size).fp (w.alloc (.deferred (some []))).heap.size).σ[h.zh.length]?=some (w.heap.size+1):=by
   rw [<- r.fh,U];simp [Gh.fp,Gh.cK]
  refine ⟨w.heap.size+1,[{ target:=.collected w.heap.size,args:=#[] }],(w.alloc (.deferred (some []))).alloc (.loop (l .ready none)),{ target:=.fn (.func f) cs,args:=fs++#[.func (.yield (w.heap.size+1)) #[] #[]] },(w.alloc (.deferred (some []))).alloc (.loop (l .ready none)),f,
   fs++#[.func (.yield (w.heap.size+1)) #[] #[]]++cs,(w.alloc (.deferred (some []))).alloc (.loop (l .ready none)),?_,?_,λ_ _=>trivial,?_,λh=>by simp [WF,Fence.wide] at h,?_⟩
  ·rw [s];exact run_enterLoop_outer _ _ _ _ _
  ·simp only [resolve,hev];simp [Deferred.ofValue,go_sem]
  ·simpa [invoke] using y.1 _ _
  ·have hvl:VL ((g.cK w.heap.size).fp (w.alloc (.deferred (some []))).heap.size) (first++[.dG h.zh.length]++caps) (fs++#[Value.func (.yield (w.heap.size+1)) #[] #[]]++cs).toList:=by
    have d:=(g.df w.heap.size).trans (Gh.fc _ (w.alloc (.deferred (some []))).heap.size);simp only [kV];refine VL.append (VL.append (h1.mono d) (VL.cons ?_ (by simp [VL]))) (h2.mono d);simp only [V]
    simp_all
   refine zd4 ((y.2 B w0 _ _ _ r3 hvl).mono ?_)
   rintro e w3 ⟨v,x,K,g',rfl,⟨st,C,m,M,J,G,hb,X,T⟩,d,r',_⟩
   obtain ⟨_,hlt,⟨O,q,d',hl,_⟩,_⟩:=r'.gZ _ _ _ (d.sig _ _ N) hb;have I:=run_endLoop (P:=P) hl X;have r4:Rel B w0 g' (K.put h.zh.length .dead) (w3.putObj (w.heap.size+1) (.loop { state:=.exhausted,pending:=C,fn:=O,tmps:=q,params:=M,assign:=J,body:=G,defers:=d' })) :=
    r'.putObj (d.sig _ _ N) hb (by simp) rfl rfl rfl World.putObj_size (λb Z=>World.putObj_heap_other Z) trivial
   have j:g.le g':=((g.df _).trans (Gh.fc _ _)).trans d;have Y:Marks gb g' ({ target:=.collected w.heap.size,args:=#[] }::a.defers):=by
    obtain ⟨cs,k1,k2,k3⟩:=F;refine ⟨w.heap.size::cs,by simp [k1],iA.2 ⟨λt=>jl _ (r.dP (k3 _ t).1),k2⟩,λc t=>?_⟩;rcases lG.1 t with rfl | t
    ·exact ⟨d.del _ (by simp [Gh.fp,Gh.cK]),λt=>jl _ (r.dP (k.del _ t))⟩
    ·exact ⟨j.del _ (k3 c t).1,(k3 c t).2⟩
   have o:StM B w0 gb g0 env (K.put h.zh.length .dead) { a with defers:={ target:=.collected w.heap.size,args:=#[] }::a.defers } (w3.putObj (w.heap.size+1) (.loop { state:=.exhausted,pending:=C,fn:=O,tmps:=q,params:=M,assign:=J,body:=G,defers:=d' })) :=
    ⟨g',E.trans j,r4,A.mono j,Y,k.trans j⟩
   refine ⟨C,_,I,?_⟩;cases C with
   | none=>exact hQ _ _ _ _ _ T o
   | some c =>
    cases c with
    | ret=>exact wpIn_ret (hQ _ _ _ _ _ T o)
    | exit i=>exact wpIn_exit (hQ _ _ _ _ _ T o)
    | _=>exact T.elim
 ·simp_all

theorem un:∀(c:Code) {gb g0:Gh} {QA:Exit->List AV->AH->Prop} {env:List AV} {h:AH} {a:Act} {w:World},(ro=none \/ s6 c=true)->wO P c QA env h->StM B w0 gb g0 env h a w->∀{Q:Exit->Act->World->Prop},
  (∀x l L a' w',QA x l L->StM B w0 gb g0 l L a' w'->Q x a' w')->c.wpIn (WF ro) n P Q a w
 | .skip,_,_,_,_,_,_,_,_,d,hs,_,hQ=>wpIn_skip (hQ _ _ _ _ _ d hs)
 | .label _,_,_,_,_,_,_,_,_,d,hs,_,hQ=>wpIn_label (hQ _ _ _ _ _ d hs)
 | .exit _,_,_,_,_,_,_,_,_,d,hs,_,hQ=>wpIn_exit (hQ _ _ _ _ _ d hs)
 | .ret,_,_,_,_,_,_,_,_,d,hs,_,hQ=>wpIn_ret (hQ _ _ _ _ _ d hs)
 | .region id ops draw,gb,g0,QA,env,h,a,w,_,d,hs,Q,hQ=>by
  obtain ⟨g,N,r,O,H,s⟩:=hs;have v:∀l L a' w',St B w0 g a.defers l L a' w'->StM B w0 gb g0 l L a' w':=λl L a' w' ⟨g',k1,k2,k3,k4⟩=>⟨g',N.trans k1,k2,k3,by rw [k4];exact H.mono k1.del,s.trans k1⟩
  have hs:St B w0 g a.defers env h a w:=⟨g,Gh.le.refl g,r,O,rfl⟩
  cases draw with
  | false =>
   have h1:=zcf (ro:=ro) (n:=n) (Q:=Q) (λenv h a w E J=>hQ .normal env h a w E (v _ _ _ _ J)) ops.toList 0 env h a w rfl d hs;refine wpIn_region ?_;rw [List.range_eq_range'];omega
  | true =>
   obtain ⟨Ns,F,⟨H,hok⟩,hFh,d⟩ | ⟨H,d⟩:=d
   rotate_left
   ·obtain ⟨g,k1,k2,k3,k4⟩:=hs;exact wpIn_region_any H (zcY (λenv h a w E J=>hQ .normal env h a w E (v _ _ _ _ J)) _ _ _ _ _ _ d ⟨g,k1,k2.drew,k3,k4⟩)
   obtain ⟨vs,t,h0,h1,h2⟩:=zjd ops.toList 0 env h rfl (lX _) d;have hT:(λw:Nat=>decide (0<=w))=λ_=>true:=by rfl
   rw [hT] at h1 h2;refine wpIn_region_any H (zka (D:=a.defers) (g0:=g) hok (vs:=vs) (hs:=t) (env:=env) (by simp_all) (λi o ho=>h1 i o (lX _) ho) (λa w J=>hQ .normal _ _ _ _ h2 (v _ _ _ _ J)) ops.size _ a _ (by simp) ?_ (λi j hi=>?_) ?_)
   ·exact lu List.countP_le_length (by simp)
   ·exfalso;rw [lU] at hi
    grind
   ·have hF:∀w,(Array.replicate ops.size false).getD w false=false:=λw=>by
     rw [lU]
     grind
    rw [zaU _ λw _=>hF w];have hH:fH ops Ns t (λi=>(Array.replicate ops.size false).getD i false) ops.size=h:=by
     have:∀k,fH ops Ns t (λi=>(Array.replicate ops.size false).getD i false) k=h:=λk=>by
      induction k with
      | zero=>exact h0
      | succ k ih=>rw [fH,hF,ii];exact ih
     simp_all
    rw [hH];obtain ⟨g,k1,k2,k3,k4⟩:=hs;exact ⟨g,k1,k2.drew,k3,k4⟩
 | .seq x y,gb,g0,QA,env,h,a,w,hr,d,hs,Q,hQ=>by
  have U:ro=none \/ s6 x=true:=hr.imp id λh=>by simp only [s6,tr] at h;exact h.1
  have S:ro=none \/ s6 y=true:=hr.imp id λh=>by simp only [s6,tr] at h;exact h.2
  obtain ⟨g,N,r,O,H,s⟩:=hs;refine wpIn_seq (un (gb:=gb) (g0:=g) x U d ⟨g,Gh.le.refl g,r,O,H,s⟩ λe l L a' w' E t=>?_);obtain ⟨Z,C,Y,A,G,K⟩:=t;cases e with
  | normal =>
   obtain ⟨env2,h2,T,E⟩:=E;obtain ⟨W,q,X,z,u⟩:=T B w0 w' w g Z _ r C Y A;exact un (gb:=gb) (g0:=g0) y S E ⟨W,N.trans q,X,z,G.mono u,s.trans q⟩ hQ
  | _=>exact hQ _ _ _ _ _ E ⟨Z,N.trans C,Y,A,G,K⟩
 | .cond c x y,gb,g0,QA,env,h,a,w,hr,d,hs,Q,hQ=>by
  have U:ro=none \/ s6 x=true:=hr.imp id λh=>by simp only [s6,tr] at h;exact h.1
  have S:ro=none \/ s6 y=true:=hr.imp id λh=>by simp only [s6,tr] at h;exact h.2
  obtain ⟨hc,d⟩:=d;have t:=hs;obtain ⟨g,N,r,O,H,s⟩:=t;have hV:=V.ev O hc;split at d
  ·rename_i b hb;rw [hb] at hV;simp only [V] at hV;refine wpIn_cond hV ?_;cases b with
   | true=>exact un x U d hs hQ
   | false=>exact un y S d hs hQ
  ·simp_all
 | .block id body,gb,g0,QA,env,h,a,w,hr,d,hs,Q,hQ=>by
  refine wpIn_block (un body (hr.imp (λh=>h) λh=>h) d hs λe l L a' w' E t=>?_);cases e with
  | exit id' =>
   simp only [Exit.inBlock]
   grind
  | _=>exact hQ _ _ _ _ _ E t
 | .loop body,gb,g0,QA,env,h,a,w,hr,d,hs,Q,hQ=>by
  have hrb:ro=none \/ s6 body=true:=hr.imp id λh=>h;obtain ⟨I,⟨m0,env0,h0,hk0,hI⟩,M⟩:=d;obtain ⟨ge,hge,re,O,H,s⟩:=hs;have hgb0:=s
  let p:Act->World->Nat->Prop:=λa w m=>∃env h,I m env h/\StM B w0 gb ge env h a w
  obtain ⟨W,q,X,z,u⟩:=hk0 B w0 w w ge ge _ re (Gh.le.refl ge) re O;refine wpIn_loop (λa w=>∃m,p a w m) (λa w=>zlz (p a w)) ⟨_,env0,h0,hI,W,q,X,z,H.mono u,s.trans q⟩ λa w1 hI'=>?_;obtain ⟨l,L,hI2,hs2⟩:=zj3 hI';obtain ⟨g,N,r,O,H,s⟩:=hs2;refine un (gb:=gb) (g0:=g) body hrb (M _ l L hI2) ⟨g,Gh.le.refl g,r,O,H,s⟩ λe env2 h2 a2 w2 E hs3=>?_;obtain ⟨Z,C,Y,A,G,K⟩:=hs3;cases e with
  | normal =>
   obtain ⟨m,R,h3,hlt,T,hI3⟩:=E;have hp:p a2 w2 m:=by
    rcases T with T | T
    ·obtain ⟨W,q,X,z,u⟩:=T B w0 w2 w1 g Z _ r C Y A;exact ⟨R,h3,hI3,W,N.trans q,X,z,G.mono u,s.trans q⟩
    ·obtain ⟨W,q,X,z,u⟩:=T B w0 w2 w ge Z _ re (N.trans C) Y A;exact ⟨R,h3,hI3,W,q,X,z,G.mono u,hgb0.trans q⟩
   exact ⟨⟨_,hp⟩,Nat.lt_of_le_of_lt (znF hp) hlt⟩
  | _=>exact hQ _ _ _ _ _ E ⟨Z,hge.trans (N.trans C),Y,A,G,K⟩
 | .rangeFunc f ps assign body,gb,g0,QA,env,h,a,w,hr,d,hs,Q,hQ=>zcc (hr.elim id λh=>by cases h) d hs hQ
 | .scope _,_,_,_,_,_,_,_,_,d,_,_,_=>d.elim
 | .goto _,_,_,_,_,_,_,_,_,d,_,_,_=>d.elim
 | .refuse _,_,_,_,_,_,_,_,_,d,_,_,_=>d.elim
end

def t7 (P:Program) (env:List AV) (h:AH):List ResultVar->Option (List AV)
 | []=>some []
 | .tmp t::r=>match t7 P env h r with
  | some vs=>some (env.getD t xo::vs)
  | none=>none
 | .cell a t::r=>match P.underlying t,P.info? t with
  | some d,some i=>match tU h (ye d) i.size (env.getD a xo),t7 P env h r with
   | some v,some vs=>some (w6 P t v::vs)
   | _,_=>none
  | _,_=>none
def az (P:Program) (fn:Func) (env:List AV) (h:AH):Option AV :=
 match t7 P env h fn.results.toList with
 | some [v]=>some v
 | some vs=>some (.fk vs)
 | none=>none

def g6 (a b:AV):Prop:=∀g v,V g a v->V g b v
theorem g6.refl (a:AV):g6 a a:=λ_ _ h=>h
def oR (h0:AH) (K:AV->AH->Prop) (r0:AV) (h:AH):Prop:=∃r h',wk h0 [r0] h [r] h'/\K r h'
def rB (P:Program) (fn:Func) (h0:AH) (K:AV->AH->Prop) (x:Exit) (env:List AV) (h:AH):Prop :=
 match x with
 | .normal | .ret=>match az P fn env h with
  | some r=>oR h0 K r h
  | none=>False
 | _=>False

section
variable {P:Program}
def zsX (tmps:Array Value):ResultVar->Sem Value
 | .tmp t=>pure (tmps.getD t undef)
 | .cell a t=>do loadVar t (<- asAddr (tmps.getD a undef))
theorem zjL (fn:Func) (tmps:Array Value):results fn tmps=(do let vs <- fn.results.mapM (zsX tmps);pure (if h:vs.size=1 then vs[0] else .tuple vs)):=by
 rfl
theorem zaF {B:Nat} {w0 w:World} {g:Gh} {h:AH} (r:Rel B w0 g h w) {env:List AV} {tmps:Array Value} (e:VL g env tmps.toList):∀{c:List ResultVar} {vs:List AV},t7 P env h c=some vs ->
  ∃us,(c.mapM (zsX tmps)).run P w=.ok us w/\VL g vs us
 | [],vs,h=>by simp only [t7,p3] at h;subst h;exact ⟨[],by simp,by simp [VL]⟩
 | .tmp t::c,vs,h=>by
  simp only [t7] at h;split at h
  ·rename_i k j;cases h;obtain ⟨us,l,f⟩:=zaF r e j;refine ⟨tmps.getD t undef::us,by simp only [jY,Sem.run_bind,zsX,Sem.run_pure,Result.andThen_ok,l],VL.cons ?_ f⟩;exact V.ev (a:={ tmps:=tmps,defers:=[] }) e (x:=.tmp t) rfl
  ·cases h
 | .cell ad t::c,vs,h=>by
  simp only [t7] at h;split at h
  ·rename_i d i hd hi;split at h
   ·rename_i v k s j;cases h;obtain ⟨us,l,f⟩:=zaF r e j;have q:=V.ev (a:={ tmps:=tmps,defers:=[] }) e (x:=.tmp ad) rfl;obtain ⟨u,b,m⟩:=zaP r hd hi q s;refine ⟨u::us,?_,VL.cons m.w6 f⟩;have o:(do loadVar t (<- asAddr (tmps.getD ad undef)):Sem Value).run P w=.ok u w:=by
     have y:Act.eval { tmps:=tmps,defers:=[] } (.tmp ad)=tmps.getD ad undef:=rfl;rw [y] at b;generalize tmps.getD ad undef=pv at b ⊢;cases pv with
     | pointer x =>
      cases x with
      | none=>simp [Instr.loadAt,Instr.sureAddr] at b
      | some x=>simpa [Instr.loadAt,Instr.sureAddr,asAddr] using b
     | _=>simp [Instr.loadAt,Instr.sureAddr] at b
    have z:(zsX tmps (.cell ad t)).run P w=.ok u w:=o
    simp_all
   ·cases h
  ·cases h

theorem zk0 {B:Nat} {w0:World} {g:Gh} (r:Rel B w0 g h w) {env:List AV} {tmps:Array Value} (i:VL g env tmps.toList) {fn:Func} {v:AV} (c:az P fn env h=some v) :
  ∃u,(results fn tmps).run P w=.ok u w/\V g v u:=by
 unfold az at c;have key:∀vs,t7 P env h fn.results.toList=some vs->∃us:List Value,(results fn tmps).run P w=.ok (if h:us.length=1 then us[0] else .tuple us.toArray) w/\VL g vs us:=by
  intro vs a;obtain ⟨us,e,b⟩:=zaF r i a;refine ⟨us,?_,b⟩;rw [zjL,Array.mapM_eq_mapM_toList]
  simp_all
 split at c
 ·rename_i j a;cases c;obtain ⟨us,e,b⟩:=key _ a;simp only [VL] at b
  grind
 ·rename_i vs f a;cases c;obtain ⟨us,e,b⟩:=key _ a;have d:us.length ≠ 1:=by
   intro d;rw [<- b.length] at d;rcases vs with _ | ⟨x,_ | ⟨y,r⟩⟩ <;> simp at d
   simp_all
  refine ⟨.tuple us.toArray,by simp_all,?_⟩;simp only [V];exact ⟨_,rfl,b⟩
 ·cases c

theorem VL.bM {g:Gh}:∀k,VL g (List.replicate k xo) (List.replicate k undef)
 | 0=>by simp [VL]
 | k+1=>by simp only [jS];exact VL.cons V.f0 (VL.bM k)

theorem Rel.shut {B:Nat} {w0:World} {g:Gh} (r:Rel B w0 g h w) {c:Nat} (R:c ∈ g.δ):Rel B w0 { g with δ:=g.δ.filter (· != c) } h (w.putObj c (.deferred none)):=by
 have hd:=r.eE c R;have f:∀b,b ≠ c->(w.putObj c (.deferred none)).heap[b]?=w.heap[b]?:=λb D=>World.putObj_heap_other D;have O:g.le { g with δ:=g.δ }:=Gh.le.refl g;refine ⟨⟨r.below.os,r.below.tape,r.below.output,by simpa using r.below.size,λb D=>(f b (by omega)).trans (r.below.block b D)⟩,by simpa using r.dp,λb j v e=>?_,r.fh,λi x k C E=>?_,r.fw,λi t I=>?_,r.eA,r.fO,r.sep,λx C=>?_,λi k hi E=>?_,r.fW⟩
 ·have q:b ≠ c:=by
   rintro rfl
   have:=r.eF b j v e;unfold World.cell? at this
   simp_all
  exact (World.cell?_of_block (w:=w) (a:=⟨b,j,none⟩) (f b q)).trans (r.eF b j v e)
 ·obtain ⟨z,A,u,F⟩:=r.gZ i x k C E;refine ⟨z,by simp_all,?_,F⟩;have q:x ≠ c:=by grind
  have y:=f x q;cases k with
  | cells cs=>obtain ⟨vs,t,k1,k2⟩:=u;exact ⟨vs,t,y.trans k1,VA.dd k2⟩
  | f7 s pos=>exact y.trans u
  | q7 es clock=>obtain ⟨ents,n,k1,k2,k3⟩:=u;exact ⟨ents,n,y.trans k1,ME.dd k2,k3⟩
  | loop st pe env ps assign body=>obtain ⟨fn,tmps,d,k1,k2⟩:=u;exact ⟨fn,tmps,d,y.trans k1,VL.dd k2⟩
  | row _ _ _=>exact u
  | fB id n seen=>obtain ⟨m,k1,k2⟩:=u;exact ⟨m,k1,y.trans k2⟩
  | eK=>exact y.trans u
  | other=>trivial
  | dead=>trivial
 ·obtain ⟨z,A⟩:=r.tok i t I;refine ⟨z,λb l e L=>?_⟩;have lo:=A b l e L;refine lo.mono (by simp) (f b ?_) λ_ _=>rfl
  rintro rfl
  obtain ⟨cs,ty,M,_⟩:=lo.cells
  simp_all
 ·simp only [kL,bne_iff_ne,ne_eq] at C;have H:=r.eE x C.1
  simp_all
 ·have G:=r.row i k hi E;cases k with
  | row i2 k2 e2 =>
   obtain ⟨t,z,A,u,F,J,N⟩:=G;refine ⟨t,z,A,u,F,J,N.imp (λh=>h) ?_⟩
   rintro ⟨b,o,e,cs,ty,k1,k2,k3,Q,K⟩
   have q:b ≠ c:=by grind
   exact ⟨b,o,e,cs,ty,k1,(f b q).trans k2,VA.dd k3,Q,K⟩
  | dead=>trivial
  | _=>exact G.elim

theorem zbf {B:Nat} {w0:World} {g0:Gh} {h:AH} {env:List AV} {fn:Func} {tmps:Array Value} {R:Ending->World->Prop}:∀(D:List Deferred) (cs:List Nat) (w:World) {g:Gh},D.map (·.target)=cs.map Target.collected->cs.Nodup ->
  (∀(a:World) (b:Gh),g0.le b->Rel B w0 b h a->VL b env tmps.toList->∃v,(results fn tmps).run P a=.ok v a/\R (.returned v) a) ->
  g0.le g->Rel B w0 g h w->VL g env tmps.toList->(∀c ∈ cs,c ∈ g.δ)->(∀c ∈ cs,c ∉ g0.δ)->LeavesInM (WF none) 0 P fn tmps R D .returning w
 | [],cs,w,g,e,_,hfin,hg,r,he,_,_=>hfin w g hg r he
 | d::D,cs,w,g,e,hnd,hfin,hg,r,he,h1,h2=>by
  cases cs with
  | nil=>simp at e
  | cons c cs =>
   simp only [ld,List.cons.injEq] at e;obtain ⟨hd,e⟩:=e;have i:=h1 c (by simp);refine ⟨by simp,.inl ⟨c,_,hd,run_takeDeferred (r.eE c i).2.1,?_⟩⟩;refine zbf D cs _ (g:={ g with δ:=g.δ.filter (· != c) }) e (iA.1 hnd).2 hfin ⟨hg.eF,hg.sig,hg.bP,λx f=>?_⟩ (r.shut i) (VL.dd he) (λx f=>?_) λx f=>h2 x (by simp [f])
   ·simp only [kL,bne_iff_ne,ne_eq];exact ⟨hg.del x f,by grind⟩
   ·grind

theorem zba {f : FuncId} {fn : Func} {c : Code} (hf : P.funcs[f]? = some fn) (hb : fn.body = some c) (hname : (fn.name == "runtime.NumGoroutine") = false) {args : List AV} {h : AH} {K : AV → AH → Prop}
  (hw:wO P c (rB P fn h K) (args++List.replicate (fn.ntmps - args.length) xo) h):Spec P f args h K:=by
 have hn : ¬ fn.name = "runtime.NumGoroutine" := by simp_all
 refine ⟨λvs w=>by simp [callFunc,hf,hb,hn],λB w0 _ g w vs r hv=>?_⟩;refine callsIn_wide.1 (callsIn_of_wp_marks (F:=WF none) (n:=0) hf hb trivial ?_ rfl);have hlen:args.length=vs.size:=by rw [hv.length];rfl
 refine un (B:=B) (w0:=w0) (gb:=g) (g0:=g) c (.inl rfl) hw ⟨g,Gh.le.refl g,r,?_,Marks.nil _ _,Gh.le.refl g⟩ λx env' h' a' w' hq hs=>?_
 ·simp only [kV,Array.toList_replicate,hlen];exact VL.append hv (VL.bM _)
 ·obtain ⟨g',hg,r',he,hm,_⟩:=hs;have fin:(match az P fn env' h' with | some r=>oR h K r h' | none=>False) ->
    LeavesInM (WF none) 0 P fn a'.tmps (λe w''=>∃v' r h2 g2,e=.returned v'/\K r h2/\g.le g2/\Rel B w0 g2 h2 w''/\V g2 r v') a'.defers .returning w':=by
   intro hfin;split at hfin
   ·rename_i rv hr;obtain ⟨cs,hD,hnd,hcs⟩:=hm;refine zbf a'.defers cs w' hD hnd ?_ hg r' he (λc hc=>(hcs c hc).1) (λc hc=>(hcs c hc).2);intro w'' g'' hg'' r'' he'';obtain ⟨u,h1,h2⟩:=zk0 r'' he'' hr;refine ⟨u,h1,u,?_⟩;obtain ⟨rv,h2',hwk,hK⟩:=hfin;obtain ⟨g2,k1,k2,k3,_⟩:=hwk B w0 w'' w g g'' [u] r hg'' r'' (VL.cons h2 (by simp [VL]));simp only [VL] at k3
    grind
   ·simp_all
  cases x with
  | normal=>exact fin hq
  | ret=>exact fin hq
  | _=>exact hq.elim
end
end Go.Vv
namespace Go.Vv
open Go
variable {a b v:AV} {r args:List AV} {f:FuncId} {h':AH}

def fd (a5 bs:List AV):Prop:=∀g vs,VL g a5 vs->VL g bs vs
theorem g6.any (a:AV):g6 a .any:=λ_ _ _=>by simp only [V]
theorem g6.nil (k:Nat):g6 .fP (.sl k []):=λ_ v h=>by
 simp only [V] at h ⊢
 grind
theorem g6.gW (o:Option Nat) (k:Nat) (es:List (List AV)):g6 (.gW o k es) (.sl k es):=λ_ v h=>by
 simp only [V] at h ⊢
 grind
theorem fd.nil:fd [] []:=λ_ _ h=>h
theorem fd.refl (a5:List AV):fd a5 a5:=λ_ _ h=>h
theorem fd.cons {s:List AV} (h:g6 a b) (k:fd r s):fd (a::r) (b::s):=λg vs c=>by
 simp only [VL] at c ⊢;obtain ⟨v,t,e,i,d⟩:=c;exact ⟨v,t,e,h _ _ i,k _ _ d⟩
theorem fd.eq {s:List AV} (k:fd r s):fd (a::r) (a::s):=fd.cons (g6.refl a) k
theorem fd.drop {s:List AV} (k:fd r s):fd (a::r) (.any::s):=fd.cons (g6.any a) k
theorem fd.d4 {c d:AV} {s:List AV} (k:fd r s):fd (a::b::c::d::r) (.any::.any::.any::.any::s):=.drop (.drop (.drop (.drop k)))
theorem fd.d16 {c d e f g h i j l m n o p q:AV} {s:List AV} (k:fd r s):fd (a::b::c::d::e::f::g::h::i::j::l::m::n::o::p::q::r) (.any::.any::.any::.any::.any::.any::.any::.any::.any::.any::.any::.any::.any::.any::.any::.any::s):=.d4 (.d4 (.d4 (.d4 k)))

theorem wk.refl (hd:AH) (env:List AV) (h:AH):wk hd env h env h:=λ_ _ _ _ _ g _ _ d r c=>⟨g,d,r,c,λ_ h=>h⟩
theorem wk.le {hd:AH} {env env':List AV} {h:AH} (k:fd env env'):wk hd env h env' h:=λ_ _ _ _ _ g _ _ d r c=>⟨g,d,r,k _ _ c,λ_ h=>h⟩
theorem wk.cut {hd:AH} {env:List AV} {h:AH} (l:zA hd.zh.length hd.zs.length env=true)
  (q:∀(i:Nat) (k:q6),i < hd.zh.length->h.zh[i]?=some k->hd.zh[i]?=some k \/ k.low hd.zh.length hd.zs.length=true) :
  wk hd env h env (h.cut hd.zh.length hd.zs.length):=λ_ _ _ _ j g _ c p r m=>⟨g.cut hd.zh.length hd.zs.length,by rw [<- c.fh,<- c.fw];exact Gh.bV p,
   r.cut _ _ (λi k hi e=>by
    rcases q i k hi e with d | d
    ·have n:i < j.σ.length:=by rw [c.fh];exact hi
     have:=c.fG d;rw [c.fh,c.fw] at this;exact this
    ·exact d),VL.cut _ _ l m,λ_ h=>h⟩
theorem wk.trans {hd:AH} {env env' c:List AV} {h e:AH} (a:wk hd env h env' h') (b:wk hd env' h' c e):wk hd env h c e:=λB w0 w d j g vs i k r l=>by
 obtain ⟨g',k1,k2,k3,s⟩:=a B w0 w d j g vs i k r l;obtain ⟨q,m,t,n,p⟩:=b B w0 w d j g' vs i k1 k2 k3
 grind

def aS:Value->Option AV
 | .bool b=>some (.bool b)
 | .int k n=>some (.int k n)
 | .string s=>if s.size<=maxLen then some (.str s.data.toList) else none
 | .pointer none=>some .em
 | .slice none 0 0=>some .fP
 | .map none=>some .ea
 | .nilFunc=>some .fy
 | .nilIface=>some .eP
 | _=>none
def yu (env:List AV):Operand->Option AV
 | .tmp t=>env[t]?
 | .const (.agg cs)=>if okc (.agg cs) then some (cv (.agg cs)) else none
 | .const v=>aS v
 | .global g=>some (.e7 g)
 | .func f=>some (.fn (.func f) [] [])
theorem zD {env:List AV} {x:Operand} (h:yu env x=some v):yl x=true/\ev env x=v:=by
 cases x with
 | tmp t =>
  simp only [yu] at h;refine ⟨rfl,?_⟩;simp only [ev]
  simp_all
 | const c =>
  cases c with
  | agg cs =>
   simp only [yu] at h;split at h
   ·rename_i d;cases h;exact ⟨d,rfl⟩
   ·cases h
  | string s =>
   simp only [yu,aS] at h;split at h
   ·rename_i d;cases h;exact ⟨by simpa [yl,okc,aB] using d,rfl⟩
   ·cases h
  | slice a b c =>
   simp only [yu] at h;unfold aS at h;split at h <;> first | cases h | skip
   all_goals first | (cases h;exact ⟨rfl,rfl⟩) | skip
   all_goals simp_all [yl,okc,aB,ev,cv,bG]
  | pointer a =>
   cases a with
   | none=>simp only [yu,aS] at h;cases h;exact ⟨rfl,rfl⟩
   | some a=>simp only [yu,aS] at h;cases h
  | map a =>
   cases a with
   | none=>simp only [yu,aS] at h;cases h;exact ⟨rfl,rfl⟩
   | some a=>simp only [yu,aS] at h;cases h
  | _=>simp only [yu,aS] at h;first | (cases h;exact ⟨rfl,rfl⟩) | cases h
 | global g=>simp only [yu] at h;cases h;exact ⟨rfl,rfl⟩
 | func f=>simp only [yu] at h;cases h;exact ⟨rfl,rfl⟩

@[irreducible] def gv (b:Bool) (v:AV):AV:=if b then v else xo
theorem rE (v:AV):gv true v=v:=by simp [gv]
theorem pq (v:AV):gv false v=xo:=by simp [gv]

def tq (d:Option Tmp) (env:List AV) (v:AV):Option (List AV) :=
 match d with
 | some d=>some (env.set d v)
 | none=>some env
theorem yT {d:Option Tmp} {env env':List AV} (h:tq d env v=some env'):ft env d v=env':=by
 cases d <;> simp only [tq,p3] at h <;> exact h

section
variable {P:Program} {ops:Array Oper} {Q:List AV->AH->Prop} {o:Oper} {rest:List Oper} {env env':List AV} {h:AH}

theorem yG (hk:Q env h):zu P ops Q [] env h:=hk
theorem zy (e:aG ops o env=some true) (d:zj P o env h=.ok v h') (hd:tq o.dst env v=some env') (c:zu P ops Q rest env' h'):zu P ops Q (o::rest) env h:=by
 refine vT ?_;simp only [e,cY,d,cX,yT hd];exact c
theorem zlk {n:Nat} (e:aG ops o env=some true) (d:zj P o env h=.len n v h') (hd:tq o.dst env v=some env') (c:n<=maxLen->zu P ops Q rest env' h'):zu P ops Q (o::rest) env h:=by
 refine vT ?_;simp only [e,cY,d,cX,yT hd];exact c
theorem pj {K:AV->AH->Prop} (e:aG ops o env=some true) (d:zj P o env h=.call f args) (hs:Spec P f args h K)
  (c:∀v h',K v h'->zu P ops Q rest (ft env o.dst v) h'):zu P ops Q (o::rest) env h:=by
 refine vT ?_;simp only [e,cY,d,cX];exact hs.mono c
theorem zbA (c:aG ops o env=some false) (hd:tq o.dst env xo=some env') (d:zu P ops Q rest env' h):zu P ops Q (o::rest) env h:=by
 refine vT ?_;simp only [c,cY,yT hd];exact d
theorem vN {b:Bool} (d:aG ops o env=some b) (e:b=true->zj P o env h=.ok v h) (hd:tq o.dst env (gv b v)=some env') (c:zu P ops Q rest env' h):zu P ops Q (o::rest) env h:=by
 cases b with
 | true=>rw [rE] at hd;exact zy d (e rfl) hd c
 | false=>rw [pq] at hd;exact zbA d hd c
theorem znq {b:Bool} {n:Nat} (d:aG ops o env=some b) (e:b=true->zj P o env h=.len n v h) (hd:tq o.dst env (gv b v)=some env') (c:(b=true->n<=maxLen)->zu P ops Q rest env' h):zu P ops Q (o::rest) env h:=by
 cases b with
 | true=>rw [rE] at hd;exact zlk d (e rfl) hd λi=>c λ_=>i
 | false=>rw [pq] at hd;exact zbA d hd (c λg=>by cases g)
theorem w8 {b:Bool} (d:aG ops o env=some b) (g:b=true->zj P o env h=.call f args) (hs:b=true->Spec P f args h λr h'=>r=v/\h'=h)
  (hd:tq o.dst env (gv b v)=some env') (c:zu P ops Q rest env' h):zu P ops Q (o::rest) env h:=by
 cases b with
 | true=>exact pj d (g rfl) (hs rfl) λr h' ⟨e,i⟩=>by subst e;subst i;rw [rE] at hd;rw [yT hd];exact c
 | false=>rw [pq] at hd;exact zbA d hd c
end
theorem yf {P:Program} {ops:Array Oper} {Q:List AV->AH->Prop} {o:Oper} {rest:List Oper} {env env':List AV} {h:AH} (g:aG ops o env=some true) (e:zj P o env h=.call f args) (hs:Spec P f args h λr h'=>r=v/\h'=h)
  (hd:tq o.dst env v=some env') (c:zu P ops Q rest env' h):zu P ops Q (o::rest) env h :=
 pj g e hs λr h' ⟨d,i⟩=>by subst d;subst i;rw [yT hd];exact c
end Go.Vv
namespace Go.Vv
open Go
variable {t e u:TypeId} {v v' a b:AV} {x y i:Operand} {c:Call} {d:TypeDesc} {k' off n:Nat} {cs:List AV} {l:List (TypeId×AV)}

class Ty (P:Program) (t:TypeId) (d:outParam TypeDesc) (k:outParam Nat):Prop where
 u:P.underlying t=some d
 i:∃i,P.info? t=some i/\i.size=k
class Fo (P:Program) (t:TypeId) (f:Nat) (off:outParam Nat) (u:outParam TypeId) (k:outParam Nat):Prop where
 o:rf P t f=some (off,u)
 i:∃i,P.info? u=some i/\i.size=k
class El (P:Program) (t:TypeId) (e:outParam TypeId) (k:outParam Nat):Prop where
 u:P.underlying t=some (.slice e)
 i:∃i,P.info? e=some i/\i.size=k/\i.bytes<=65536/\0 < k/\(i.zero.map (·.cells.size))=some k

def tyo:AV->Option AV
 | .fP=>none
 | .bool b=>some (.bool b)
 | .int k n=>some (.int k n)
 | .str s=>some (.str s)
 | .ptr i o=>some (.ptr i o)
 | .fI c=>some (.fI c)
 | .sl k e=>some (.sl k e)
 | .gW q k e=>some (.gW q k e)
 | .d8 a b c d=>some (.d8 a b c d)
 | .fm a b c d=>some (.fm a b c d)
 | .fU a b c d e=>some (.fU a b c d e)
 | .el a b c d e=>some (.el a b c d e)
 | .map i=>some (.map i)
 | .fn f a b=>some (.fn f a b)
 | .iface t v=>some (.iface t v)
 | .agg c=>some (.agg c)
 | .fk v=>some (.fk v)
 | .e7 g=>some (.e7 g)
 | .dG i=>some (.dG i)
 | .any=>some .any
 | .d7=>some .d7
 | .em=>some .em
 | .ea=>some .ea
 | .fy=>some .fy
 | .eP=>some .eP
theorem zc {P:Program} (h:tyo v=some v'):w6 P t v=v':=by
 cases v <;> simp only [tyo] at h <;> first | (cases h;rfl) | cases h
theorem zkE {P:Program} {k:Nat} (h:El P t e k):w6 P t .fP=.gW none k []:=by
 obtain ⟨i,f,g,_⟩:=h.i;simp only [w6,h.u,Program.cellsOf,f];congr 1
section
variable {P:Program} {o:Oper} {env:List AV} {h:AH}

theorem xI {x:Operand} {v v':AV} (ho:o.op=.move x) (hx:yu env x=some v) (ht:w6 P o.type v=v'):zj P o env h=.ok v' h:=by
 obtain ⟨h1,h2⟩:=zD hx;simp only [zj,ho,h1,nv,h2,ht]
theorem ve (f:o.op=.assign x) (m:yu env x=some v) (k:w6 P o.type v=v'):zj P o env h=.ok v' h:=by
 obtain ⟨j,g⟩:=zD m;simp only [zj,f,j,nv,g,k]
theorem zow {c a b:Operand} {t:Bool} {x y:AV} (g:o.op=.pick c a b) (z:yu env c=some (.bool t)) (k:yu env a=some x) (w:yu env b=some y) (j:(if t then x else y)=v):zj P o env h=.ok v h:=by
 obtain ⟨q,m⟩:=zD z;obtain ⟨s,p⟩:=zD k;obtain ⟨r,f⟩:=zD w;simp only [zj,g,q,s,r,lI,nv,m,p,f,j]
theorem wv {op:BinOp} (g:o.op=.binOp op t x y u) (r:yu env x=some a) (j:yu env y=some b) (f:yF P op t a b=some v):zj P o env h=.ok v h:=by
 obtain ⟨p,k⟩:=zD r;obtain ⟨q,m⟩:=zD j;simp only [zj,g,p,q,lI,nv,k,m,zkk f,f,oo,iP]
theorem zw1 {op:UnOp} (f:o.op=.unOp op t x) (m:yu env x=some a) (g:aUn op a=some v):zj P o env h=.ok v h:=by
 obtain ⟨k,j⟩:=zD m;simp only [zj,f,k,nv,j,g,oo]
theorem rK {s:TypeId} {f:TypeDesc} {k:Nat} (g:o.op=.convert s t x) (hs:Ty P s d k) (q:Ty P t f k') (r:yu env x=some a) (j:zbR f a=some v):zj P o env h=.ok v h:=by
 obtain ⟨p,m⟩:=zD r;simp only [zj,g,p,nv,m,hs.u,q.u,j,oo]
theorem zfJ {k:Nat} (j:o.op=.load t x) (f:Ty P t d k) (s:yu env x=some a) (m:tU h (ye d) k a=some v) (g:w6 P t v=v'):zj P o env h=.ok v' h:=by
 obtain ⟨w,p⟩:=zD s;obtain ⟨i,r,q⟩:=f.i;simp only [zj,j,f.u,r,q,p,m,lM,g,oo]
theorem zes {k:Nat} {g:AV} {f:AH} (p:o.op=.store t x y) (A:Ty P t d k) (C:yu env x=some a) (r:yu env y=some b) (j:w6 P t b=g) (q:p7 h k a g=some f) :
  zj P o env h=.ok xo f:=by
 obtain ⟨D,s⟩:=zD C;obtain ⟨B,w⟩:=zD r;obtain ⟨i,z,m⟩:=A.i;simp only [zj,p,B,nv,z,m,s,w,j,q,oh]
theorem zpf (f:o.op=.alloc t) (g:yX P t=some cs):zj P o env h=.ok (.ptr h.zh.length 0) (h.new (.cells cs)):=by
 simp only [zj,f,g]
theorem zts {a':AV} (g:o.op=.box t x) (p:yu env x=some a) (f:w6 P t a=a') (m:a'.cells?=some cs):zj P o env h=.ok (.ptr h.zh.length 0) (h.new (.cells cs)):=by
 obtain ⟨k,j⟩:=zD p;simp only [zj,g,k,nv,j,f,m]
theorem zaD (j:o.op=.nilCheck x) (r:yu env x=some a) (g:(match a with | .ptr id p=>some (AV.ptr id p) | .fI cs=>some (.fI cs) | .fn (.func f) p q=>some (.fn (.func f) p q) | _=>none)=some v) :
  zj P o env h=.ok v h:=by
 obtain ⟨m,k⟩:=zD r;simp only [zj,j,m,nv,k];split at g <;> first | (cases g;rfl) | cases g
theorem ms {f k:Nat} (j:o.op=.fieldAddr t x f) (g:Fo P t f off u (k+1)) (w:yu env x=some a) (m:uM off a=some v):zj P o env h=.ok v h:=by
 obtain ⟨r,p⟩:=zD w;obtain ⟨i,s,q⟩:=g.i;simp only [zj,j,g.o,s,q,r,p,m,oo];simp
theorem zb3 {f k:Nat} (j:o.op=.field t x f) (g:Fo P t f off u k) (hd:Ty P u d k') (z:yu env x=some a) (m:zh5 (ye d) off k a=some v) (s:w6 P u v=v') :
  zj P o env h=.ok v' h:=by
 obtain ⟨r,p⟩:=zD z;obtain ⟨i,w,q⟩:=g.i;simp only [zj,j,g.o,hd.u,w,q,r,nv,p,m,lM,s,oo]
theorem mr {k:Nat} (m:o.op=.indexAddr t x i) (f:El P t e k) (A:yu env x=some a) (hi:yu env i=some b) (p:uL k a b=some v):zj P o env h=.ok v h:=by
 obtain ⟨s,q⟩:=zD A;obtain ⟨z,r⟩:=zD hi;obtain ⟨j,w,g,_⟩:=f.i;simp only [zj,m,s,z,lI,nv,q,r,f.u,w,g,p,oo]
theorem zdc {k:Nat} (g:o.op=.indexAddr t x i) (z:Ty P t (.array n e) k) (m:Ty P e d k') (B:yu env x=some a) (hi:yu env i=some b)
  (p:zaz n k' a b=some v):zj P o env h=.ok v h:=by
 obtain ⟨s,q⟩:=zD B;obtain ⟨A,r⟩:=zD hi;obtain ⟨j,w,f⟩:=m.i;simp only [zj,g,s,A,lI,nv,q,r,z.u,w,f,p,oo]
theorem zjJ {k:Nat} (f:o.op=.index t x i) (q:Ty P t .string k) (s:yu env x=some a) (hi:yu env i=some b) (g:o6 a b=some v):zj P o env h=.ok v h:=by
 obtain ⟨p,j⟩:=zD s;obtain ⟨r,m⟩:=zD hi;simp only [zj,f,p,r,lI,nv,j,m,q.u,g,oo]
theorem zjK {k:Nat} (p:o.op=.index t x i) (A:Ty P t (.array n e) k) (f:Ty P e d k') (C:yu env x=some a) (hi:yu env i=some b)
  (q:o7 (ye d) n k' a b=some v) (g:w6 P e v=v'):zj P o env h=.ok v' h:=by
 obtain ⟨w,r⟩:=zD C;obtain ⟨B,s⟩:=zD hi;obtain ⟨j,z,m⟩:=f.i;simp only [zj,p,w,B,lI,nv,r,s,A.u,f.u,z,m,q,lM,g,oo]
theorem vL {t:Operand} {i:Nat} {vs:List AV} (g:o.op=.extract t i) (p:yu env t=some (.fk vs)) (j:vs[i]?=some v) (f:w6 P o.type v=v'):zj P o env h=.ok v' h:=by
 obtain ⟨m,k⟩:=zD p;simp only [zj,g,m,nv,k,j,lM,f,oo]
theorem zdn {f:Fn} {a b:Array Operand} {a5 bs:List AV} (s:o.op=.makeFunc f a b) (w:a.toList.mapM (yu env)=some a5) (m:b.toList.mapM (yu env)=some bs):zj P o env h=.ok (.fn f a5 bs) h:=by
 have key:∀(l:List Operand) (a5:List AV),l.mapM (yu env)=some a5->l.all yl=true/\l.map (ev env)=a5:=by
  intro l
  induction l with
  | nil=>intro a5 h;simp at h;subst h;exact ⟨rfl,rfl⟩
  | cons x r ih =>
   intro a5 h;simp only [jY,jU,ku,iB,p3] at h;obtain ⟨v,z,vs,A,rfl⟩:=h;obtain ⟨q,k⟩:=zD z
   simp_all
 obtain ⟨q,k⟩:=key _ _ w;obtain ⟨B,p⟩:=key _ _ m;have g:a.all yl=true:=by simp_all
 have j:b.all yl=true:=by simp_all
 simp only [zj,s,g,j,lI,nv,k,p]
def pH (env:List AV):List Operand->List TypeId->Option (List (TypeId×AV))
 | [],[]=>some []
 | x::r,t::ts=>match yu env x,pH env r ts with
  | some v,some vs=>some ((t,v)::vs)
  | _,_=>none
 | _,_=>none
def zqQ (P:Program):List (TypeId×AV)->List AV
 | []=>[]
 | (t,v)::r=>w6 P t v::zqQ P r
theorem zfv:∀{xs:List Operand} {ts:List TypeId} {l:List (TypeId×AV)},pH env xs ts=some l->xs.all yl=true/\xs.length=ts.length/\(xs.zip ts).map (λp=>w6 P p.2 (ev env p.1))=zqQ P l
 | [],[],l,h=>by simp only [pH,p3] at h;subst h;exact ⟨rfl,rfl,rfl⟩
 | x::r,t::ts,l,h=>by
  simp only [pH] at h;split at h
  ·rename_i v vs g f;cases h;obtain ⟨q,j⟩:=zD g;obtain ⟨s,k,m⟩:=zfv f;refine ⟨by simp_all,by simp [k],?_⟩;simp only [gh,ld,m,j,zqQ]
  ·cases h
 | [],_::_,_,h=>by simp [pH] at h
 | _::_,[],_,h=>by simp [pH] at h
theorem zox {f:Operand} {g:FuncId} {first caps args:List AV} (p:o.op=.call c) (A:c.callee=.value f) (m:yu env f=some (.fn (.func g) first caps)) (q:pH env c.args.toList c.argTypes.toList=some l)
  (r:first++zqQ P l++caps=args):zj P o env h=.call g args:=by
 obtain ⟨w,s⟩:=zD m;obtain ⟨C,B,z⟩:=zfv (P:=P) q;have k:c.args.all yl=true:=by grind
 have j:(c.args.size==c.argTypes.size)=true:=by simp_all
 simp only [zj,p,k,j,lI,nv,A,w,s,z,r];simp
theorem zin {k:Nat} {s:List UInt8} (f:o.op=.call c) (q:c.callee=.builtin .len) (hs:c.args=#[x]) (p:c.argTypes=#[t]) (m:Ty P t .string k) (r:yu env x=some (.str s)) :
  zj P o env h=.len s.length (.int .i64 s.length) h:=by
 obtain ⟨j,g⟩:=zD r;simp [zj,f,hs,p,q,j,qW,m.u,g]
theorem x9 {k:Nat} (f:o.op=.call c) (q:c.callee=.builtin .len) (hs:c.args=#[x]) (p:c.argTypes=#[t]) (m:El P t e k) (r:yu env x=some a) (s:ay a=some n) :
  zj P o env h=.len n (.int .i64 n) h:=by
 obtain ⟨j,g⟩:=zD r;simp [zj,f,hs,p,q,j,qW,m.u,g,s]
theorem zet {C:TypeId} {k:Nat} {a' g:AV} {p:List (List AV)} {j:AH} (D:o.op=.call c) (N:c.callee=.builtin .append) (hs:c.args=#[x,y]) (r:c.argTypes=#[t,u]) (m:El P t e k)
  (f:El P u C k') (H:yu env x=some a) (F:yu env y=some b) (M:w6 P t a=a') (s:w6 P u b=g) (I:pI k g=some p) (L:rH h k a' p=some (v,j)):zj P o env h=.ok v j:=by
 obtain ⟨z,q⟩:=zD H;obtain ⟨G,w⟩:=zD F;obtain ⟨i,B,J,A,E,K⟩:=m.i;subst J;simp [zj,D,hs,r,N,z,G,qW,m.u,f.u,q,w,B,A,E,K,M,s,I,L,ovh]
theorem zmA:∀{xs:List Operand} {ts:List TypeId} {l:List (TypeId×AV)},pH env xs ts=some l->xs.all yl=true/\xs.length=ts.length/\xs.map (ev env)=l.map Prod.snd
 | [],[],l,h=>by simp only [pH,p3] at h;subst h;exact ⟨rfl,rfl,rfl⟩
 | x::r,t::ts,l,h=>by
  simp only [pH] at h;split at h
  ·rename_i v vs g f;cases h;obtain ⟨m,j⟩:=zD g;obtain ⟨q,k,p⟩:=zmA f
   simp_all
  ·cases h
 | [],_::_,_,h=>by simp [pH] at h
 | _::_,[],_,h=>by simp [pH] at h
theorem ztr {x:AV} {r:List AV} (mx:Bool) (k:o.op=.call c) (j:c.callee=.builtin (if mx then .max else .min)) (s:pH env c.args.toList c.argTypes.toList=some l) (q:l.map Prod.snd=x::r) (m:aMM mx x r=some v):zj P o env h=.ok v h:=by
 obtain ⟨w,z,p⟩:=zmA s;have f:c.args.all yl=true:=by grind
 have g:(c.args.size==c.argTypes.size)=true:=by simp_all
 cases mx
 ·simp only [tx,lg] at j;simp only [zj,k,f,g,lI,nv,j,qW,p,q,m,oo]
 ·simp only [nv] at j;simp only [zj,k,f,g,lI,nv,j,qW,p,q,m,oo]
end
end Go.Vv
namespace Go.Vv
open Go
variable {id:Nat} {b body:Code} {N:List AV->AH->Prop} {K:AV->AH->Prop}

def aH (P:Program) (h0:AH) (b:Code) (Q:Exit->List AV->AH->Prop):Exit->List AV->AH->Prop:=λx env' h'=>match x with
 | .normal=>∃env2 h2,wk h0 env' h' env2 h2/\wO P b Q env2 h2
 | x=>Q x env' h'
def pF (id:Nat) (Q:Exit->List AV->AH->Prop):Exit->List AV->AH->Prop:=λx env h=>match x with
 | .exit id'=>if id'=id then Q .normal env h else Q (.exit id') env h
 | x=>Q x env h
def tG (N:List AV->AH->Prop) (Q:Exit->List AV->AH->Prop):Exit->List AV->AH->Prop:=λx env' h'=>match x with
 | .normal=>N env' h'
 | x=>Q x env' h'

def cV (env:List AV):List (Nat×AV)->List AV
 | []=>env
 | (i,v)::r=>cV (env.set i v) r
def zk:Nat->Nat->List (Nat×AV)->List (Nat×AV)
 | _,0,m=>m
 | i,n+1,m=>(i,.any)::zk (i+1) n m

section
variable {P:Program} {Q:Exit->List AV->AH->Prop} {env:List AV} {h:AH}
theorem ziu (a:Q .normal env h):wO P .skip Q env h:=a
theorem zpp (a:Q .normal env h):wO P (.label id) Q env h:=a
theorem zna (a:Q .ret env h):wO P .ret Q env h:=a
theorem zk5 (a:Q (.exit id) env h):wO P (.exit id) Q env h:=a
theorem yK {l:List Oper} (a:zu P ⟨l⟩ (Q .normal) l env h):wO P (.region id ⟨l⟩ false) Q env h:=a
theorem wK {a:Code} (c:wO P a (aH P h b Q) env h):wO P (.seq a b) Q env h:=c
theorem nw {a:Code} (c:wO P a (pF id Q) env h):wO P (.block id a) Q env h:=c
theorem pZ {c:Operand} {t e:Code} {b:Bool} (d:yu env c=some (.bool b)) (i:b=true->wO P t Q env h) (f:b=false->wO P e Q env h):wO P (.cond c t e) Q env h:=by
 obtain ⟨a,g⟩:=zD d;refine ⟨a,?_⟩
 simp_all
theorem ww {h0:AH} (a:wO P b Q env h):aH P h0 b Q .normal env h:=⟨env,h,wk.refl _ _ _,a⟩
theorem zk6 {h0:AH} {a:List AV} {c:AH} (d:wk h0 env h a c) (e:wO P b Q a c):aH P h0 b Q .normal env h:=⟨a,c,d,e⟩
theorem zaI {h0:AH} (a:Q (.exit id) env h):aH P h0 b Q (.exit id) env h:=a
theorem zk7 {h0:AH} (a:Q .ret env h):aH P h0 b Q .ret env h:=a
theorem zhg (a:Q .normal env h):pF id Q .normal env h:=a
theorem zhf (a:Q .ret env h):pF id Q .ret env h:=a
theorem mC (a:Q .normal env h):pF id Q (.exit id) env h:=by simp only [pF,nv];exact a
theorem tD {j:Nat} (a:j ≠ id) (c:Q (.exit j) env h):pF id Q (.exit j) env h:=by simp only [pF,lq a];exact c
theorem zk8 (a:N env h):tG N Q .normal env h:=a
theorem mB (a:Q (.exit id) env h):tG N Q (.exit id) env h:=a
theorem zjQ (a:Q .ret env h):tG N Q .ret env h:=a
theorem zhd {σ:Type} (E:σ->List AV) (H:σ->AH) (d:σ->Prop) (i:σ->Nat) (j:σ) (h0:wk h env h (E j) (H j)) (hi:d j)
  (hs:∀s,d s->wO P body (tG (λa g=>∃c,d c/\i c < i s/\(wk (H s) a g (E c) (H c) \/ wk h a g (E c) (H c))) Q) (E s) (H s)):wO P (.loop body) Q env h:=by
 refine ⟨λn env h=>∃s,i s=n/\d s/\env=E s/\h=H s,⟨_,_,_,h0,j,rfl,hi,rfl,rfl⟩,?_⟩
 rintro n _ _ ⟨s,l,hi,rfl,rfl⟩
 subst l;have:=hs s hi;have e:(tG (λa g=>∃c,d c/\i c < i s/\(wk (H s) a g (E c) (H c) \/ wk h a g (E c) (H c))) Q) =
   (tG (λa g=>∃m f k,m < i s/\(wk (H s) a g f k \/ wk h a g f k)/\(∃c,i c=m/\d c/\f=E c/\k=H c)) Q):=by
  grind
 rw [e] at this;exact this
theorem zqi {h0:AH} {v a:AV} (d:g6 v a) (e:a.low h0.zh.length h0.zs.length=true)
  (f:∀(i:Nat) (k:q6),i < h0.zh.length->h.zh[i]?=some k->h0.zh[i]?=some k \/ k.low h0.zh.length h0.zs.length=true) (c:K a (h.cut h0.zh.length h0.zs.length)):oR h0 K v h :=
 ⟨a,_,(wk.le (fd.cons d fd.nil)).trans (wk.cut (by simp [zA,e]) f),c⟩
theorem xZ {h0 a:AH} {v c:AV} (d:wk h0 [v] h [c] a) (e:K c a):oR h0 K v h:=⟨c,a,d,e⟩
theorem ztD {fn:Func} {h0:AH} (a:rB P fn h0 K .ret env h):rB P fn h0 K .normal env h:=a
end
theorem g6.of_eq {a b:AV} (h:a=b):g6 a b:=h ▸ g6.refl a
theorem zeu {P:Program} {h:AH} {r:aV} {K':AV->AH->Prop} (d:∀v a,K v a->K' v a) (c:cX P h r K):cX P h r K':=by
 cases r with
 | ok v a=>exact d _ _ c
 | len n v a=>exact λg=>d _ _ (c g)
 | call f args=>exact Spec.mono c d
 | round id args=>exact ek.mono c d
 | any S=>exact λv a e=>d _ _ (c v a e)
 | fail=>exact c
theorem pU {P:Program} {a:Array Oper} {Q Q':List AV->AH->Prop} (c:∀e h,Q e h->Q' e h):∀(rest:List Oper) (env:List AV) (h:AH),zu P a Q rest env h->zu P a Q' rest env h
 | [],_,_,hk=>c _ _ hk
 | o::rest,_,_,⟨env,h,hs,hk⟩=>by
  refine ⟨env,h,hs,?_⟩;cases hb:aG a o env with
  | none=>rw [hb] at hk;exact hk
  | some b =>
   rw [hb] at hk;cases b with
   | true=>exact hk.imp (zeu λv g=>pU c rest _ _) λ⟨l,f,d⟩=>⟨l,f,λp hi=>pU c rest _ _ (d p hi)⟩
   | false=>exact pU c rest _ _ hk
theorem zbk {P:Program} {a:Array Oper} {Ns:List Nat} {F:Nat->AH->Prop} {Q Q':List AV->AH->Prop} (c:∀e h,Q e h->Q' e h):∀(rest:List Oper) (i:Nat) (env:List AV) (h:AH),zI P a Ns F Q i rest env h->zI P a Ns F Q' i rest env h
 | [],_,_,_,hk=>c _ _ hk
 | _::rest,i,_,_,⟨v,h',h1,h2,h4,h3⟩=>⟨v,h',h1,h2,h4,zbk c rest (i+1) _ _ h3⟩
theorem pV {P:Program} {d:Array Oper} {Q Q':List AV->AH->Prop} (f:∀e h,Q e h->Q' e h):∀(m:Nat) (a:Array Bool) (env:List AV) (h:AH),qy P d Q m a env h->qy P d Q' m a env h
 | 0,_,_,_,c=>⟨c.1,f _ _ c.2⟩
 | m+1,a,env,h,c=>by
  refine ⟨λe=>f _ _ (c.1 e),λi hi o j=>?_⟩;have c:=c.2 i hi o j;cases hb:aG d o env with
  | none=>rw [hb] at c;exact c
  | some b =>
   rw [hb] at c;cases b with
   | true=>exact c.imp (zeu λv n=>pV f m _ _ _) λ⟨l,k,g⟩=>⟨l,k,λp hi=>pV f m _ _ _ (g p hi)⟩
   | false=>exact pV f m _ _ _ c
theorem vr {P:Program}:∀{Q Q':Exit->List AV->AH->Prop} (_:∀x e h,Q x e h->Q' x e h) (c:Code) (env:List AV) (h:AH),wO P c Q env h->wO P c Q' env h
 | _,_,hq,.skip,_,_,hk=>hq _ _ _ hk
 | _,_,hq,.label _,_,_,hk=>hq _ _ _ hk
 | _,_,hq,.exit _,_,_,hk=>hq _ _ _ hk
 | _,_,hq,.ret,_,_,hk=>hq _ _ _ hk
 | _,_,hq,.region _ _ true,_,_,.inl ⟨Ns,F,j,k,d⟩=>.inl ⟨Ns,F,j,k,zbk (hq .normal) _ _ _ _ d⟩
 | _,_,hq,.region _ _ true,_,_,.inr ⟨j,d⟩=>.inr ⟨j,pV (hq .normal) _ _ _ _ d⟩
 | _,_,hq,.region _ _ false,_,_,hk=>pU (hq .normal) _ _ _ hk
 | _,_,hq,.seq a b,_,_,hk=>vr (λx i m j=>by
   cases x with
   | normal=>obtain ⟨s,d,k,l⟩:=j;exact ⟨s,d,k,vr hq b _ _ l⟩
   | _=>exact hq _ _ _ j) a _ _ hk
 | _,_,hq,.cond c t e,env,_,⟨j,d⟩=>by
  refine ⟨j,?_⟩;cases hc:ev env c with
  | bool b =>
   rw [hc] at d;cases b with
   | true=>exact vr hq t _ _ d
   | false=>exact vr hq e _ _ d
  | _=>rw [hc] at d;exact d
 | _,_,hq,.block id body,_,_,hk=>vr (λx i m j=>by
   cases x with
   | exit id' =>
    grind
   | _=>exact hq _ _ _ j) body _ _ hk
 | _,_,hq,.loop body,_,_,⟨I,j,d⟩=>⟨I,j,λn env h u=>vr (λx i m k=>by
   cases x with
   | normal=>exact k
   | _=>exact hq _ _ _ k) body _ _ (d n env h u)⟩
 | _,_,hq,.rangeFunc f ps assign body,env,h,⟨j,d,k,env2,h5,hwk,l⟩=>by
  refine ⟨j,d,k,env2,h5,hwk,?_⟩;split at l
  ·rename_i g first caps w
   refine l.mono λr m ⟨st,o,i,p,v,q,k1,k2,k3⟩=>⟨st,o,i,p,v,q,k1,k2,?_⟩
   split at k3
   ·simp_all
   ·simp_all
   ·simp_all
   ·exact k3
  ·exact l
 | _,_,_,.scope _,_,_,hk=>hk.elim
 | _,_,_,.goto _,_,_,hk=>hk.elim
 | _,_,_,.refuse _,_,_,hk=>hk.elim
theorem zfX {P:Program} {Q:Exit->List AV->AH->Prop} {env:List AV} {h:AH} {σ:Type} (E:σ->List AV) (H:σ->AH) (a:σ->Prop) (f:σ->Nat) (e:σ) (h0:wk h env h (E e) (H e)) (hi:a e)
  (hs:∀s,a s->wO P body (tG (λc g=>∃d,a d/\f d < f s/\wk (H s) c g (E d) (H d)) Q) (E s) (H s)):wO P (.loop body) Q env h :=
 zhd E H a f e h0 hi λs hi=>vr (λx c g i=>by
  cases x with
  | normal=>obtain ⟨d,k,j,l⟩:=i;exact ⟨d,k,j,.inl l⟩
  | _=>exact i) _ _ _ (hs s hi)
end Go.Vv
