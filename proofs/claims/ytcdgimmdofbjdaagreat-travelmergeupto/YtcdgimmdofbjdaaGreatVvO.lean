/- A region that draws its order, proved. -/
import Derived.Test.YtcdgimmdofbjdaaGreatVvBs
set_option linter.all false
open Option renaming some→aa
open Option renaming none→ac
namespace Go.Vv
open Go Go.RowKit Go.Lib

def oN(ops:Array Oper)(k:Nat):Option Tmp:=(ops[k]?).bind (·.dst)
def vQ(ops:Array Oper)(Ns:List Nat)(k:Nat):Bool:=match ops[k]? with|some o=>bN Ns k o.op|none=>false
def fE(ops:Array Oper)(vs:Nat->AV)(S:Nat->Bool)(env:List AV):Nat->List AV
 |0=>env
 |k+1=>if S k then fw (fE ops vs S env k) (oN ops k) (vs k)else fE ops vs S env k
def fH(ops:Array Oper)(Ns:List Nat)(hs:Nat->AH)(S:Nat->Bool):Nat->AH
 |0=>hs 0
 |k+1=>if S k&&vQ ops Ns k then hs (k+1)else fH ops Ns hs S k

section
variable{ops:Array Oper}{Ns:List Nat}{vs:Nat->AV}{hs:Nat->AH}{env:List AV}

theorem zoc(env:List AV)(d:Option Tmp)(v:AV):(fw env d v).length=env.length:=by cases d<;>simp[fw]
theorem zdq(S:Nat->Bool):∀k,(fE ops vs S env k).length=env.length
 |0=>rfl
 |k+1=>by
  simp only[fE];split
  ·rw[zoc,zdq S k]
  ·exact zdq S k
theorem rG{env:List AV}{d:Option Tmp}{v:AV}{t:Nat}(h:d≠aa t):(fw env d v)[t]?=env[t]?:=by
 cases d with
 |none=>rfl
 |some d=>simp only[fw];exact lR (λe=>h (by rw[e]))
theorem zrT{S T:Nat->Bool}{t:Nat}:∀k,(∀w,w<k->oN ops w=aa t->S w=T w)->(fE ops vs S env k)[t]?=(fE ops vs T env k)[t]?
 |0,_=>rfl
 |k+1,h=>by
  have c:=zrT (S:=S) (T:=T) k λw b hd=>h w (by omega) hd;simp only[fE];by_cases hd:oN ops k=aa t
  ·have a:=h k (by omega) hd;rw[a,hd];cases T k
   ·simp_all
   ·simp only[oS,fw,List.getElem?_set,zdq]
  ·have e:(if S k then fw (fE ops vs S env k) (oN ops k) (vs k)else fE ops vs S env k)[t]?=(fE ops vs S env k)[t]?:=by
    split
    ·exact rG hd
    ·rfl
   have d:(if T k then fw (fE ops vs T env k) (oN ops k) (vs k)else fE ops vs T env k)[t]?=(fE ops vs T env k)[t]?:=by
    split
    ·exact rG hd
    ·rfl
   simp_all
theorem zrS{S T:Nat->Bool}:∀k,(∀w,w<k->S w=T w)->fE ops vs S env k=fE ops vs T env k
 |0,_=>rfl
 |k+1,h=>by simp only[fE,h k (by omega),zrS k λw a=>h w (by omega)]
theorem znk{S:Nat->Bool}{i:Nat}(h:∀w,i<=w->S w=false):∀m,fE ops vs S env (i+m)=fE ops vs S env i
 |0=>rfl
 |m+1=>by rw[<- jA];simp only[fE,h (i+m) (by omega),s5,mb];exact znk h m
theorem zrR{S:Nat->Bool}{i t n:Nat}(hi:S i=true)(hd:oN ops i=aa t)(d:t<env.length)(b:i<n)(h:∀w,i<w->w<n->oN ops w=aa t->S w=false) :
  (fE ops vs S env n)[t]?=aa (vs i):=by
 obtain⟨m,rfl⟩:∃m,n=i+1+m:=⟨n-(i+1),by omega⟩
 induction m with
 |zero =>
  simp only[fE,hi,oS,hd,fw];rw[li (by rw[zdq];exact d)]
 |succ m ih =>
  rw[<- jA];simp only[fE];have a:=ih (by omega) λw c e=>h w c (by omega);split
  ·rename_i f;by_cases hd':oN ops (i+1+m)=aa t
   ·grind
   ·rw[rG hd'];exact a
  ·omega
theorem zrQ{S T:Nat->Bool}:∀k,(∀e,e<k->vQ ops Ns e=true->S e=T e)->fH ops Ns hs S k=fH ops Ns hs T k
 |0,_=>rfl
 |k+1,h=>by
  simp only[fH,zrQ k λe a=>h e (by omega)]
  grind
theorem zhu{S:Nat->Bool}(b:∀k,vQ ops Ns k=false->hs (k+1)=hs k):∀k,(∀e,e<k->vQ ops Ns e=true->S e=true)->fH ops Ns hs S k=hs k
 |0,_=>rfl
 |k+1,h=>by
  simp only[fH];cases a:vQ ops Ns k with
  |true=>simp[h k (by omega) a]
  |false=>simp only[Bool.and_false,s5,mb,zhu b k λe a=>h e (by omega)];exact(b k a).symm
theorem ziR{S:Nat->Bool}{i:Nat}(h:∀w,i<=w->vQ ops Ns w=true->S w=false):∀m,fH ops Ns hs S (i+m)=fH ops Ns hs S i
 |0=>rfl
 |m+1=>by
  rw[<- jA];simp only[fH];rw[n4]
  ·exact ziR h m
  ·grind
theorem znj{S T:Nat->Bool}(g:∀k,vQ ops Ns k=false->hs (k+1)=hs k):∀k,
  (∀e,e<k->vQ ops Ns e=true->S e≠T e->(hs (e+1)).zh=(hs e).zh) ->
  (∀e a,e<a->a<k->vQ ops Ns e=true->vQ ops Ns a=true->S a=true->S e=true)->(∀e a,e<a->a<k->vQ ops Ns e=true->vQ ops Ns a=true->T a=true->T e=true) ->
  (fH ops Ns hs S k).zh=(fH ops Ns hs T k).zh
 |0,_,_,_=>rfl
 |k+1,h,pS,pT=>by
  have d:=znj (S:=S) (T:=T) g k (λe c=>h e (by omega)) (λe a f i=>pS e a f (by omega)) (λe a f i=>pT e a f (by omega));simp only[fH];cases c:vQ ops Ns k with
  |false=>simpa using d
  |true =>
   simp only[k9];cases hS:S k<;>cases hT:T k
   ·simp_all
   ·simp only[s5,mb,oS];rw[h k (by omega) c (by simp_all),d];rw[zhu g k λe b hh=>pT e k b (by omega) hh c hT]
   ·simp only[s5,mb,oS];rw[h k (by omega) c (by simp_all),<- d];rw[zhu g k λe b hh=>pS e k b (by omega) hh c hS]
   ·simp

theorem zkr{p q:Nat->Bool}:∀(l:List Nat),(∀x∈l,p x=true->q x=true)->(∃x∈l,q x=true/\p x=false)->l.countP p<l.countP q
 |[],_,⟨x,a,_⟩=>by cases a
 |y::r,h,⟨x,a,hq,hp⟩=>by
  have b:r.countP p<=r.countP q:=List.countP_mono_left λz c=>h z (by simp[c]);simp only[List.countP_cons];rcases lx.1 a with rfl|a
  ·grind
  ·have d:=zkr r (λz c=>h z (by simp[c])) ⟨x,a,hq,hp⟩
   grind
end
section
variable{P:Program}{B:Nat}{w0:World}{g0:Gh}{D:List Deferred}{ro:Option Nat}{n:Nat}{ops:Array Oper}{Ns:List Nat}{F:Nat->AH->Prop}[GOk P B w0]

theorem zdw(h:pg ops Ns=true){i:Nat}{o:Oper}(hi:ops[i]?=aa o):∀e∈o.after,Region.binds .any e=true->e.on<i:=by
 unfold pg at h;simp only[oB]at h;have hm:(o,i)∈ops.toList.zipIdx:=by grind
 have:=h (o,i) hm;simp only[tx]at this;intro e he hb;have h1:=kX.1 this.1 e he
 simp_all
theorem zdJ(h:pg ops Ns=true):∀(i w:Nat),((Region.before ops).getD i 0).testBit w=true->w<i:=by
 intro i
 induction i using Nat.strongRecOn with
 |_ i ih =>
  intro w a;rcases hi:ops[i]? with _|o
  ·have:(Region.before ops).getD i 0=0:=by
    rw[zhL,lP,iN]
    ·rfl
    rw[zgo];simp at hi ⊢;exact hi
   simp_all
  ·obtain⟨e,b,c,hh⟩:=zdI hi a;have d:=zdw h hi e b c
   grind
theorem oO(h:pg ops Ns=true){i j:Nat}{o a:Oper}(hi:ops[i]?=aa o)(f:ops[j]?=aa a)(c:i≠j)(g:aQ (Region.before ops) i j=false) :
  (∀d,o.dst=aa d->d∉a.looksAt ops/\a.dst≠aa d)/\(bN Ns i o.op=true->bN Ns j a.op=false):=by
 unfold pg at h;simp only[oB]at h;have e:(o,i)∈ops.toList.zipIdx:=by grind
 have b:(a,j)∈ops.toList.zipIdx:=by grind
 grind

theorem zbw{vs:Nat->AV}{env:List AV}{S:Nat->Bool}:∀k,(∀w,w<k->S w=false)->fE ops vs S env k=env
 |0,_=>rfl
 |k+1,h=>by simp only[fE,h k (by omega),s5,mb];exact zbw k λw a=>h w (by omega)

theorem AR.still{o:Oper}{env:List AV}{h d:AH}{v:AV}(b:ziL o.op=false)(a:AR P ops o env h v d):d=h:=by
 unfold AR at a;split at a
 ·rcases dO (P:=P) (env:=env) (h:=h) b with⟨x,c⟩|⟨n,u,c⟩|c
  ·rw[c h λ_=>rfl]at a;cases x with
   |none=>exact a.elim
   |some v'=>exact a.2
  ·simp_all
  ·grind
 ·exact a.2
 ·simp_all

theorem ARN.still{i:Nat}{o:Oper}{env:List AV}{h e:AH}{v:AV}(a:bN Ns i o.op=false)(f:ARN P ops Ns F i o env h v e):e=h:=by
 rcases f with⟨c,b⟩|⟨_,_,b,_⟩|⟨c,d,_,b⟩|⟨_,_,_,b⟩
 ·refine AR.still ?_ b;simp only[bN,c,jk,k9]at a;omega
 ·exact b
 ·simp only[bN,c,jk,k9]at a;exact(zdF a d b).1
 ·exact b
theorem zko{QA:List AV->AH->Prop}:∀(rest:List Oper)(k:Nat) (env:List AV) (h:AH),ops.toList.drop k=rest->k<=ops.size->zI P ops Ns F QA k rest env h ->
  ∃(vs:Nat->AV)(hs:Nat->AH),hs k=h/\(∀i o,k<=i->ops[i]?=aa o->ARN P ops Ns F i o (fE ops vs (λw=>decide (k<=w)) env i) (hs i) (vs i) (hs (i+1))/\(zse ops Ns i=true \/ (hs (i+1)).zh=(hs i).zh)/\(hs (i+1)=hs i \/ f0 ((Region.before ops).getD i 0) Ns F (hs (i+1)))) /\
   QA (fE ops vs (λw=>decide (k<=w)) env ops.size) (hs ops.size)
 |[],k,env,h,hd,hkn,b=>by
  have s:k=ops.size:=by
   have:=congrArg List.length hd
   grind
  subst s;refine⟨λ_=>wb,λ_=>h,rfl,λi o hi g=>?_,?_⟩
  ·simp_all
  ·rw[zbw _ λw b=>by simp;omega];exact b
 |o::rest,k,env,h,hd,hkn,b=>by
  have g:ops[k]?=aa o:=by
   rw[<- lr];have:=congrArg (·[0]?) hd
   grind
  have p:k<ops.size:=(l5.1 g).1;have l:ops.toList.drop (k+1)=rest:=by
   rw[<- kf,hd];rfl
  obtain⟨v,t,r,j,q,c⟩:=b;obtain⟨vs,hs,h0,x,u⟩:=zko rest (k+1) _ t l (by omega) c;have e:oN ops k=o.dst:=by simp[oN,g]
  let f:Nat->AV:=λw=>if w=k then v else vs w
  let d:Nat->AH:=λw=>if w<=k then h else hs w
  have key:∀m,fE ops f (λw=>decide (k<=w)) env (k+1+m)=fE ops vs (λw=>decide (k+1<=w)) (fw env o.dst v) (k+1+m):=by
   intro m
   induction m with
   |zero =>
    simp only[ja];rw[zbw (S:=λw=>decide (k+1<=w)) (k+1) λw b=>by simp;omega];simp only[fE,ob,jB,oS,e];rw[zbw (S:=λw=>decide (k<=w)) k λw b=>by simp;omega]
    grind
   |succ m ih =>
    rw[<- jA];simp only[fE,ih]
    grind
  refine⟨f,d,by simp[d],λi y hi a=>?_,?_⟩
  ·rcases Nat.eq_or_lt_of_le hi with rfl|hi
   ·rw[g]at a;injection a with a;subst a;rw[zbw (S:=λw=>decide (k<=w)) k λw b=>by simp;omega]
    grind
   ·obtain⟨m,rfl⟩:∃m,i=k+1+m:=⟨i-(k+1),by omega⟩
    grind
  ·obtain⟨m,z⟩:∃m,ops.size=k+1+m:=⟨ops.size-(k+1),by omega⟩
   grind

theorem zli(G:pg ops Ns=true){Q:Exit->Act->World->Prop}{vs:Nat->AV}{hs:Nat->AH}{env:List AV}
  (hFs:∀n,F n (hs 0)) (hc:∀i o,ops[i]?=aa o->ARN P ops Ns F i o (fE ops vs (λ_=>true) env i) (hs i) (vs i) (hs (i+1))/\(zse ops Ns i=true \/ (hs (i+1)).zh=(hs i).zh)/\(hs (i+1)=hs i \/ f0 ((Region.before ops).getD i 0) Ns F (hs (i+1))))
  (hQ:∀a w,St B w0 g0 D (fE ops vs (λ_=>true) env ops.size) (hs ops.size) a w->Q .normal a w) :
  ∀(z:Nat)(b:Array Bool) (a:Act) (w:World),b.size=ops.size->(List.range ops.size).countP (λi=>!b.getD i false)<=z ->
   (∀i j,b.getD i false=true->((Region.before ops).getD i 0).testBit j=true->b.getD j false=true) ->
   St B w0 g0 D (fE ops vs (λi=>b.getD i false) env ops.size) (fH ops Ns hs (λi=>b.getD i false) ops.size) a w ->
   wpAnyIn (WF ro) n P .any ops Q z b a w:=by
 have hn:∀k,vQ ops Ns k=false->k<ops.size->hs (k+1)=hs k:=λk A hk=>by
  have C:ops[k]?=aa ops[k]:=lE hk;exact ARN.still (by simpa[vQ,C]using A) (hc k _ C).1
 -- beyond the region nothing is asked
 let O:Nat->AH:=λk=>if k<=ops.size then hs k else hs ops.size
 have H:∀k,k<=ops.size->O k=hs k:=λk hk=>by grind
 have hn2:∀k,vQ ops Ns k=false->O (k+1)=O k:=λk A=>by
  grind
 have fH2:∀(S:Nat->Bool) k,k<=ops.size->fH ops Ns hs S k=fH ops Ns O S k:=λS k=>by
  induction k with
  |zero=>intro _;simp only[fH];exact(H 0 (by omega)).symm
  |succ k ih=>intro hk;simp only[fH,ih (by omega),H (k+1) hk]
 -- all has come
 have fin:∀(b:Array Bool)(a:Act) (w:World),b.size=ops.size->Region.ready .any ops b=[] ->
   St B w0 g0 D (fE ops vs (λi=>b.getD i false) env ops.size) (fH ops Ns hs (λi=>b.getD i false) ops.size) a w->Q .normal a w:=by
  intro b a w N hr s;have hall:∀i,i<ops.size->b.getD i false=true:=by
   intro i
   induction i using Nat.strongRecOn with
   |_ i ih =>
    intro hi;rcases hb:b.getD i false with _|_
    ·exfalso;have:i∈Region.ready .any ops b:=by
      unfold Region.ready;rw[lQ];refine⟨by simp_all,?_⟩;have d:b.getD i true=false:=by
       simp_all
      have C:ops[i]?=aa ops[i]:=lE hi;simp only[d,jk,C,lK,jq,lq];rw[kX];intro e A;cases hbe:Region.binds .any e with
      |false=>rfl
      |true =>
       have hlt:=zdw G C e A hbe
       grind
     simp_all
    ·rfl
  refine hQ a w ?_;rw[zrS (T:=λ_=>true) ops.size λw L=>hall w L]at s;rw[fH2 _ _ (ob _),zhu hn2 ops.size λe A _=>hall e A,H _ (ob _)]at s;omega
 intro z
 induction z with
 |zero =>
  intro b a w N hcnt hcl s;have hr:Region.ready .any ops b=[]:=by
   rcases hrr:Region.ready .any ops b with _|⟨i,r⟩
   ·rfl
   ·exfalso;have hi:i∈Region.ready .any ops b:=by simp_all
    unfold Region.ready at hi
    grind
  exact⟨hr,fin b a w N hr s⟩
 |succ z ih =>
  intro b a w N hcnt hcl s;refine⟨λhr=>fin b a w N hr s,λi hi=>?_⟩;unfold Region.ready at hi;rw[lQ]at hi;have hlt:i<ops.size:=by simp_all
  have C:ops[i]?=aa ops[i]:=lE hlt;generalize hoo:ops[i]=o at C;have hi2:=hi.2;simp only[C,lK,jq,tx,kb]at hi2;have hil:i<b.size:=by omega
  have hSi:b.getD i false=false:=by
   grind
  have hedge:∀e∈o.after,Region.binds .any e=true->b.getD e.on false=true:=λe A hb=>by
   have:=kX.1 hi2.2 e A
   grind
  have hanc:∀w,((Region.before ops).getD i 0).testBit w=true->b.getD w false=true:=λw L=>by
   obtain⟨e,A,hb,hh⟩:=zdI C L;rcases hh with rfl|⟨_,I⟩
   ·grind
   ·grind
  generalize hS:(λw=>b.getD w false)=S at s;have hSd:∀w,S w=b.getD w false:=λw=>by rw[<- hS]
  have hSi':S i=false:=by grind
  let T:Nat->Bool:=λw=>decide (w<i)
  have U:∀w,w≠i->aQ (Region.before ops) w i=true->S w=T w:=λw _ hc'=>by
   simp only[aQ,lN]at hc';rcases hc' with d|d
   ·have:=zdJ G i w d
    grind
   ·have I:=zdJ G w i d
    grind
  -- what it looks at is a5 it was in the text's order
  have hTn:fE ops vs T env ops.size=fE ops vs (λ_=>true) env i:=by
   obtain⟨m,hm⟩:∃m,ops.size=i+m:=⟨ops.size-i,by omega⟩
   rw[hm,znk (S:=T) (λw L=>by grind) m];exact zrS i λw L=>by simp[T,L]
  have Z:∀t∈o.looksAt ops,(fE ops vs S env ops.size)[t]?=(fE ops vs (λ_=>true) env i)[t]?:=λt ht=>by
   rw[<- hTn];refine zrT ops.size λw L hd=>?_;by_cases hwi:w=i
   ·grind
   ·cases hcb:aQ (Region.before ops) w i with
    |true=>exact U w hwi hcb
    |false =>
     have how:ops[w]?=aa ops[w]:=lE L;have:=(oO G how C hwi hcb).1 t (by simpa[oN,how]using hd)
     grind
  obtain⟨hAR,hblk,_⟩:=hc i o C;have hgE:aG ops o (fE ops vs S env ops.size)=aG ops o (fE ops vs (λ_=>true) env i):=za9 Z;have hsE:∀J,zj P o (fE ops vs S env ops.size) J=zj P o (fE ops vs (λ_=>true) env i) J:=λJ=>r8 λx E=>zf5 λt ht=>Z t (zfK (ht ▸ E));have hsB:∀J,xN P o (fE ops vs S env ops.size) J=xN P o (fE ops vs (λ_=>true) env i) J:=λJ=>zdG λx E=>zf5 λt ht=>Z t (zfK (ht ▸ E));have l:ARN P ops Ns F i o (fE ops vs S env ops.size) (hs i) (vs i) (hs (i+1)):=by
   rcases hAR with⟨d,I⟩|⟨d,I,h3,h4⟩|⟨d,hbd,I,h3⟩|⟨d,I,h3,h4⟩
   ·refine .inl ⟨d,?_⟩;unfold AR at I ⊢;rw[hgE,hsE];exact I
   ·exact .inr (.inl ⟨d,by grind,h3,h4.imp (λ⟨f,args,h5,h6⟩=>⟨f,args,λI=>by grind,h6⟩) (λh5 I hf=>by grind)⟩)
   ·exact .inr (.inr (.inl ⟨d,hbd,by grind,by grind⟩))
   ·exact .inr (.inr (.inr ⟨d,by grind,h3,h4⟩))
  have heff:vQ ops Ns i=bN Ns i o.op:=by simp[vQ,C]
  -- effects are in a row
  have pS:∀e M,e<M->M<ops.size->vQ ops Ns e=true->vQ ops Ns M=true->S M=true->S e=true:=λe M d I h3 h4 h5=>by
   have oe:ops[e]?=aa ops[e]:=lE (by omega);have oe':ops[M]?=aa ops[M]:=lE I;cases hcb:aQ (Region.before ops) e M with
   |true =>
    simp only[aQ,lN]at hcb;rcases hcb with h6|h6
    ·grind
    ·have:=zdJ G e M h6;omega
   |false =>
    have h7:=(oO G oe oe' (by omega) hcb).2 (by simpa[vQ,oe]using h3);simp[vQ,oe',h7]at h4
  have pT:∀e M,e<M->M<ops.size->vQ ops Ns e=true->vQ ops Ns M=true->T M=true->T e=true:=λe M d _ _ _ h5=>by
   grind
  have effS:bN Ns i o.op=true->∀e,e<ops.size->vQ ops Ns e=true->S e=T e:=λR e he1 he2=>by
   by_cases hei:e=i
   ·grind
   ·have oe:ops[e]?=aa ops[e]:=lE he1;cases hcb:aQ (Region.before ops) e i with
    |true=>exact U e hei hcb
    |false =>
     have h7:=(oO G oe C hei hcb).2 (by simpa[vQ,oe]using he2)
     grind
  have hTH:fH ops Ns O T ops.size=hs i:=by
   obtain⟨m,hm⟩:∃m,ops.size=i+m:=⟨ops.size-i,by omega⟩
   rw[hm,ziR (S:=T) (λw L _=>by grind) m,zhu hn2 i λe A _=>by simp[T,A]]
   grind
  -- the new list
  have hS':∀w,(b.setIfInBounds i true).getD w false=(w==i || S w):=λw=>by
   rw[hSd];by_cases L:w=i
   ·subst L;simp[lP,hil]
   ·have d:(w==i)=false:=by simpa using L
    simp[lP,d,Array.getElem?_setIfInBounds_ne (λe=>L e.symm)]
  have hfS':(λw=>(b.setIfInBounds i true).getD w false)=λw=>(w==i || S w):=funext hS'
  -- the frame behind it
  have hE':fE ops vs (λw=>(w==i || S w)) env ops.size=fw (fE ops vs S env ops.size) o.dst (vs i):=by
   apply lT;intro t;by_cases hdt:o.dst=aa t
   ·rw[hdt];simp only[fw];rcases kR t env.length with htl|htl
    ·rw[li (by rw[zdq];exact htl)];refine zrR (i:=i) (by simp) (by simp[oN,C,hdt]) htl hlt λw hw1 hw2 hw3=>?_;have d:(w==i)=false:=by simp;omega
     simp only[d,lM];have how:ops[w]?=aa ops[w]:=lE hw2;cases hcb:aQ (Region.before ops) w i with
     |true=>rw[U w (by omega) hcb];simp[T];omega
     |false =>
      have:=(oO G how C (by omega) hcb).1 t (by simpa[oN,how]using hw3)
      grind
    ·rw[kL (by rw[zdq];exact htl),kL (by rw[lm,zdq];exact htl)]
   ·rw[rG hdt];refine zrT ops.size λw L hd=>?_;by_cases hwi:w=i
    ·subst hwi;simp[oN,C]at hd;exact absurd hd hdt
    ·grind
  -- the heap behind it
  have hst2:=s;generalize hX:fH ops Ns hs S ops.size=E at s;have hFx:Ns.contains i=true->F i E:=λX=>by
   -- an effect that has come is ac that waits for this one
   have hA:∀k,k<=ops.size->(∀e,e<k->vQ ops Ns e=true->S e=true)->F i (hs k):=λk=>by
    induction k with
    |zero=>intro _ _;exact hFs i
    |succ k ih =>
     intro hk A;have ihk:=ih (by omega) λe d I=>A e (by omega) I;have ok:ops[k]?=aa ops[k]:=lE (by omega);rcases(hc k _ ok).2.2 with d|d
     ·grind
     ·cases R:vQ ops Ns k with
      |false=>rw[hn k R (by omega)];exact ihk
      |true =>
       refine d i X ?_
       grind
   rw[<- hX];have:∀k,k<=ops.size->F i (fH ops Ns hs S k):=λk=>by
    induction k with
    |zero=>intro _;exact hFs i
    |succ k ih =>
     intro hk;simp only[fH];split
     ·rename_i hh;simp only[tx]at hh;refine hA (k+1) hk λe d I=>?_
      grind
     ·grind
   grind
  have hAR3:∃J,ARN P ops Ns F i o (fE ops vs S env ops.size) E (vs i) J/\fH ops Ns hs (λw=>(w==i || S w)) ops.size=J:=by
   cases R:bN Ns i o.op with
   |true =>
    have d:E=hs i:=by rw[<- hX,fH2 _ _ (ob _),zrQ ops.size (effS R),hTH]
    refine⟨hs (i+1),by grind,?_⟩;rw[fH2 _ _ (ob _)];obtain⟨m,hm⟩:∃m,ops.size=i+1+m:=⟨ops.size-(i+1),by omega⟩
    rw[hm,ziR (λw L hwe=>?_) m]
    ·simp only[fH]
     grind
    ·have I:(w==i)=false:=by simp;omega
     grind
   |false =>
    have d:fH ops Ns hs (λw=>(w==i || S w)) ops.size=E:=by
     rw[<- hX];refine zrQ ops.size λe _ hee=>?_;have:e≠i:=by grind
     grind
    refine⟨E,?_,d⟩;have hb:Ns.contains i=false->zwQ o.op=true->E.zh=(hs i).zh:=λX hrd=>by
     rw[<- hX,fH2 _ _ (ob _),<- hTH];refine znj hn2 ops.size (λe he1 he2 hne=>?_) pS pT;rw[H _ (by omega),H _ (by omega)];have oe:ops[e]?=aa ops[e]:=lE he1;rcases(hc e _ oe).2.1 with han|hbb
     ·exfalso;unfold zse at han;simp only[oB]at han;have hm:(o,i)∈ops.toList.zipIdx:=by grind
      have h3:=han (o,i) hm;have hei:e≠i:=by grind
      grind
     ·omega
    rcases l with⟨hN,l⟩|⟨hN,q1,Y,q3⟩|⟨hN,hbd,q1,Y⟩|⟨hN,q1,Y,q3⟩
    rotate_left
    ·exact .inr (.inl ⟨hN,q1,rfl,q3⟩)
    ·simp only[bN,hN,jk,k9]at R;exact .inr (.inr (.inl ⟨hN,hbd,q1,(zdF R hbd Y).2 E⟩))
    ·exact .inr (.inr (.inr ⟨hN,q1,Y,rfl⟩))
    have hb:=hb hN;have R:ziL o.op=false:=by simp only[bN,hN,jk,k9]at R;exact R
    have h0:hs (i+1)=hs i:=AR.still R l;refine .inl ⟨hN,?_⟩;unfold AR at l ⊢;split at l
    ·rcases dO (P:=P) (env:=fE ops vs S env ops.size) (h:=hs i) R with⟨x,W⟩|⟨m,u,W⟩|W
     ·rw[W (hs i) λ_=>rfl]at l;rw[W E hb];cases x with
      |none=>exact l.elim
      |some v'=>exact⟨l.1,rfl⟩
     ·grind
     ·rcases W (hs i)with⟨S,hS⟩|hS<;>(rw[hS]at l;exact l.elim)
    ·grind
    ·omega
  obtain⟨J,c,hH'⟩:=hAR3;have cnt:(List.range ops.size).countP (λj=>!(b.setIfInBounds i true).getD j false)<=z:=by
   have:=zkr (p:=λj=>!(b.setIfInBounds i true).getD j false) (q:=λj=>!b.getD j false) (List.range ops.size)
    (λx _ E=>by grind)
    ⟨i,by grind,by simp[hSi],by simp[hS']⟩
   omega
  have cl':∀x y,(b.setIfInBounds i true).getD x false=true->((Region.before ops).getD x 0).testBit y=true->(b.setIfInBounds i true).getD y false=true:=λx y d I=>by
   rw[hS']at d ⊢;simp only[lN,jo]at d ⊢;right;rcases d with rfl|d
   ·grind
   ·grind
  have go:∀(a':Act)(w':World),St B w0 g0 D (fw (fE ops vs S env ops.size) o.dst (vs i)) J a' w'->wpAnyIn (WF ro) n P .any ops Q z (b.setIfInBounds i true) a' w':=λa' w' hs' =>
   ih _ a' w' (by simp[N]) cnt cl' (by grind)
  unfold wpOpIn;simp only[C];have hst':=s;obtain⟨g,hg,r,A,hD⟩:=hst';rcases c with⟨_,c⟩|⟨X,q1,Y,q3⟩|⟨_,_,q1,Y⟩|⟨_,q1,Y,q3⟩
  rotate_left
  ·rw[un A q1];simp only[oS];refine md (K:=λv d=>v=vs i/\d=J) s ?_ ?_
   ·rcases q3 with⟨f,args,q3,q4⟩|q4
    ·rw[q3 E,Y];exact q4 E (hFx X)
    ·rw[q4 E (hFx X)];exact⟨rfl,Y.symm⟩
   ·rintro v d u w' ⟨rfl,rfl⟩ ⟨g',k1,k2,k3,k4⟩
    exact go _ w' ⟨g',k1,k2,k3.fw o.dst k4,by rw[qq];exact hD⟩
  ·rw[un A q1];simp only[oS];refine zaB (K:=λv d=>v=vs i/\d=J) s ⟨_,Y,λp hp=>?_⟩ ?_
   ·grind
   ·rintro v d u w' ⟨rfl,rfl⟩ ⟨g',k1,k2,k3,k4⟩
    exact go _ w' ⟨g',k1,k2,k3.fw o.dst k4,by rw[qq];exact hD⟩
  ·rw[un A q1];simp only[s5,mb];refine⟨λ_ _=>trivial,go _ w ⟨g,hg,by grind,?_,by rw[qq];exact hD⟩⟩;rw[Y];exact A.fw o.dst V.f5
  unfold AR at c;split at c
  ·rename_i hgd;rw[un A hgd];simp only[oS];refine md (K:=λv d=>v=vs i/\d=J) s ?_ ?_
   ·cases hst3:zj P o (fE ops vs S env ops.size) E with
    |ok v1 d=>rw[hst3]at c;exact⟨c.1.symm,c.2.symm⟩
    |len m v1 d=>rw[hst3]at c;exact λ_=>⟨c.1.symm,c.2.symm⟩
    |call f args=>rw[hst3]at c;exact c
    |round id args=>rw[hst3]at c;exact c
    |any S=>rw[hst3]at c;exact c.elim
    |fail=>rw[hst3]at c;exact c
   ·rintro v d u w' ⟨rfl,rfl⟩ ⟨g',k1,k2,k3,k4⟩
    exact go _ w' ⟨g',k1,k2,k3.fw o.dst k4,by rw[qq];exact hD⟩
  ·rename_i hgd;rw[un A hgd];simp only[s5,mb];refine⟨λ_ _=>trivial,go _ w ⟨g,hg,by grind,?_,by rw[qq];exact hD⟩⟩;rw[c.1];exact A.fw o.dst V.f5
  ·grind
end
end Go.Vv
namespace Go.Vv
open Go Go.RowKit Go.Lib
variable{p:Nat->Prop}{h:AH}{w:World}

theorem zbp{p:Nat->Prop}(h:∃n,p n):∃m,p m/\∀k,p k->m<=k:=by
 obtain⟨n,hn⟩:=h
 induction n using Nat.strongRecOn with
 |_ n ih =>
  grind
open Classical in
noncomputable def zmG(p:Nat->Prop):Nat:=if h:∃n,p n then Classical.choose (zbp h)else 0
theorem zk9(h:∃n,p n):p (zmG p):=by
 unfold zmG;rw[gF h];exact(kV (zbp h)).1
theorem zoW{n:Nat}(h:p n):zmG p<=n:=by
 unfold zmG;rw[gF ⟨n,h⟩];exact(kV (zbp ⟨n,h⟩)).2 n h

section
variable{P:Program}{B:Nat}{w0:World}{ro:Option Nat}{n:Nat}[GOk P B w0]

def Marks(gb g:Gh)(D:List Deferred):Prop:=∃cs:List Nat,D.map (·.target)=cs.map Target.collected/\cs.Nodup/\∀c∈cs,c∈g.δ/\c∉gb.δ
theorem Marks.mono{gb g g':Gh}{D:List Deferred}(h:Marks gb g D)(k:∀c,c∈g.δ->c∈g'.δ):Marks gb g' D:=by
 obtain⟨cs,e,d,a⟩:=h;exact⟨cs,e,d,λc b=>⟨k c (a c b).1,(a c b).2⟩⟩
theorem Marks.nil(gb g:Gh):Marks gb g []:=⟨[],rfl,List.nodup_nil,λ_ h=>by cases h⟩
def StM(B:Nat)(w0:World)(gb g0:Gh)(env:List AV)(h:AH)(a:Act)(w:World):Prop:=∃g,g0.le g/\Rel B w0 g h w/\VL g env a.tmps.toList/\Marks gb g a.defers/\gb.le g

def Gh.c7(g:Gh)(c:Nat):Gh:={ g with δ:=c::g.δ }
theorem Gh.dn(g:Gh)(c:Nat):g.le (g.c7 c):=⟨λ_ _ _ e=>e,λ_ _ e=>e,λ_ t e=>⟨t,e,ob _,λ_=>rfl,rfl⟩,λ_ h=>kQ _ h⟩
theorem Rel.c7{g:Gh}{h:AH}{w:World}(r:Rel B w0 g h w){c:Nat}(l:B<=c)(m:w.heap[c]?=aa (.deferred (aa [])))(hs:∀i:Nat,g.σ[i]?≠aa c):Rel B w0 (g.c7 c) h w :=
 ⟨r.below,r.dA,r.eK,r.fi,λi x k a b=>by obtain⟨f,d,j,e⟩:=r.g7 i x k a b;exact⟨f,d,j.mono (g.dn c) rfl,e⟩,r.fA,r.tok,r.eF,r.fS,r.sep,λx a=>by
  rcases lx.1 a with rfl|a
  ·exact⟨l,m,hs⟩
  ·exact r.eJ x a,λi k hi b=>(r.row i k hi b).mono (g.dn c) (λ_ _ h _=>h) (λ_ _ _ _ _ _ _=>⟨rfl,λ_=>rfl⟩),r.fX⟩

theorem zcT{L:Operand}{T:Array Tmp}{assign body:Code}{gb g0:Gh}{QA:Exit->List AV->AH->Prop}{env:List AV}{a:Act}(u:ro=ac)
  (y:vi P (.rangeFunc L T assign body) QA env h) (hs:StM B w0 gb g0 env h a w) {Q:Exit->Act->World->Prop} (hQ:∀x m K a' w',QA x m K->StM B w0 gb g0 m K a' w'->Q x a' w') :
  (Code.rangeFunc L T assign body).wpIn (WF ro) n P Q a w:=by
 subst u;obtain⟨g,E,r,A,F,k⟩:=hs;obtain⟨X,_,_,R,h2,D,y⟩:=y;obtain⟨g2,z,r2,he2,H⟩:=D B w0 w w g g _ r (Gh.le.refl g) r A;replace E:=E.trans z;replace F:=F.mono H;replace k:=k.trans z;clear D H r A z;revert y E F k r2 he2;generalize R=env,h2=h,g2=g;intro y r A E F k;have hV:=V.ev A X;split at y
 ·rename_i f first S hx
  rw[hx]at hV;simp only[V]at hV;obtain⟨fs,cs,hev,h1,h2⟩:=hV;refine wpIn_rangeFunc λfn hfn=>?_;have u:(WF ac).round=ac:=rfl;rw[u];obtain⟨l,s⟩:∃l:LoopState->Option Code->Loop,l=λst C=>{ state:=st,pending:=C,fn,tmps:=a.tmps,params:=T,assign,body,defers:=w.heap.size }:=⟨_,rfl⟩
  have r1:=r.eS (.deferred (aa []));have hc1:(w.alloc (.deferred (aa []))).heap[w.heap.size]?=aa (.deferred (aa [])):=World.alloc_heap_new w _;have hns:∀i:Nat,g.σ[i]?≠aa w.heap.size:=λi hi=>by
   have hl:i<h.zh.length:=by rw[<- r.fi];exact(tu.1 hi).1
   have:=(r.g7 i _ _ hi (rk hl)).2.1;omega
  have r2:=r1.c7 (c:=w.heap.size) r.dA hc1 hns;have r3:=r2.dD (.loop (l .ready ac)) (.loop .ready ac env T assign body) ⟨fn,a.tmps,w.heap.size,by rw[s];exact World.alloc_heap_new _ _,A.mono ((g.dn _).trans (Gh.fd _ _))⟩;have W:(w.alloc (.deferred (aa []))).heap.size=w.heap.size+1:=World.size_alloc ..;have N:((g.c7 w.heap.size).ft (w.alloc (.deferred (aa []))).heap.size).σ[h.zh.length]?=aa (w.heap.size+1):=by
   rw[<- r.fi,W];simp[Gh.ft,Gh.c7]
  refine⟨w.heap.size+1,[{ target:=.collected w.heap.size,args:=#[] }],(w.alloc (.deferred (aa []))).alloc (.loop (l .ready ac)),{ target:=.fn (.func f) cs,args:=fs++#[.func (.yield (w.heap.size+1)) #[] #[]] },(w.alloc (.deferred (aa []))).alloc (.loop (l .ready ac)),f,
   fs++#[.func (.yield (w.heap.size+1)) #[] #[]]++cs,(w.alloc (.deferred (aa []))).alloc (.loop (l .ready ac)),?_,?_,λ_ _=>trivial,?_,λh=>by simp[WF,Fence.wide]at h,?_⟩
  ·rw[s];exact run_enterLoop_outer _ _ _ _ _
  ·simp only[resolve,hev];simp[Deferred.ofValue,go_sem]
  ·simpa[invoke]using y.1 _ _
  ·have hvl:VL ((g.c7 w.heap.size).ft (w.alloc (.deferred (aa []))).heap.size) (first++[.ca h.zh.length]++S) (fs++#[Value.func (.yield (w.heap.size+1)) #[] #[]]++cs).toList:=by
    have d:=(g.dn w.heap.size).trans (Gh.fd _ (w.alloc (.deferred (aa []))).heap.size);simp only[kU];refine VL.append (VL.append (h1.mono d) (VL.cons ?_ (by simp[VL]))) (h2.mono d);simp only[V]
    simp_all
   refine zeW ((y.2 B w0 _ _ _ r3 hvl).mono ?_)
   rintro e w3 ⟨v,x,K,g',rfl,⟨st,C,m,M,J,G,hb,Y,U⟩,d,r',_⟩
   obtain⟨_,hlt,⟨O,q,d',hl,_⟩,_⟩:=r'.g7 _ _ _ (d.sig _ _ N) hb;have I:=run_endLoop (P:=P) hl Y;have r4:Rel B w0 g' (K.put h.zh.length .dead) (w3.putObj (w.heap.size+1) (.loop { state:=.exhausted,pending:=C,fn:=O,tmps:=q,params:=M,assign:=J,body:=G,defers:=d' })) :=
    r'.putObj (d.sig _ _ N) hb (by simp) rfl rfl rfl World.putObj_size (λb hb'=>World.putObj_heap_other hb') trivial
   have j:g.le g':=((g.dn _).trans (Gh.fd _ _)).trans d;have Z:Marks gb g' ({ target:=.collected w.heap.size,args:=#[] }::a.defers):=by
    obtain⟨cs,k1,k2,k3⟩:=F;refine⟨w.heap.size::cs,by simp[k1],jm.2 ⟨λt=>ji _ (r.d8 (k3 _ t).1),k2⟩,λc t=>?_⟩;rcases lx.1 t with rfl|t
    ·exact⟨d.del _ (by simp[Gh.ft,Gh.c7]),λt=>ji _ (r.d8 (k.del _ t))⟩
    ·exact⟨j.del _ (k3 c t).1,(k3 c t).2⟩
   have o:StM B w0 gb g0 env (K.put h.zh.length .dead) { a with defers:={ target:=.collected w.heap.size,args:=#[] }::a.defers } (w3.putObj (w.heap.size+1) (.loop { state:=.exhausted,pending:=C,fn:=O,tmps:=q,params:=M,assign:=J,body:=G,defers:=d' })) :=
    ⟨g',E.trans j,r4,A.mono j,Z,k.trans j⟩
   refine⟨C,_,I,?_⟩;cases C with
   |none=>exact hQ _ _ _ _ _ U o
   |some c =>
    cases c with
    |ret=>exact wpIn_ret (hQ _ _ _ _ _ U o)
    |exit i=>exact wpIn_exit (hQ _ _ _ _ _ U o)
    |_=>exact U.elim
 ·simp_all

theorem uM:∀(c:Code){gb g0:Gh} {QA:Exit->List AV->AH->Prop} {env:List AV} {h:AH} {a:Act} {w:World},(ro=ac \/ pk c=true)->vi P c QA env h->StM B w0 gb g0 env h a w->∀{Q:Exit->Act->World->Prop},
  (∀x l L a' w',QA x l L->StM B w0 gb g0 l L a' w'->Q x a' w')->c.wpIn (WF ro) n P Q a w
 |.skip,_,_,_,_,_,_,_,_,d,hs,_,hQ=>wpIn_skip (hQ _ _ _ _ _ d hs)
 |.label _,_,_,_,_,_,_,_,_,d,hs,_,hQ=>wpIn_label (hQ _ _ _ _ _ d hs)
 |.exit _,_,_,_,_,_,_,_,_,d,hs,_,hQ=>wpIn_exit (hQ _ _ _ _ _ d hs)
 |.ret,_,_,_,_,_,_,_,_,d,hs,_,hQ=>wpIn_ret (hQ _ _ _ _ _ d hs)
 |.region id ops draw,gb,g0,QA,env,h,a,w,_,d,hs,Q,hQ=>by
  obtain⟨g,N,r,O,H,s⟩:=hs;have v:∀l L a' w',St B w0 g a.defers l L a' w'->StM B w0 gb g0 l L a' w':=λl L a' w' ⟨g',k1,k2,k3,k4⟩=>⟨g',N.trans k1,k2,k3,by rw[k4];exact H.mono k1.del,s.trans k1⟩
  have hs:St B w0 g a.defers env h a w:=⟨g,Gh.le.refl g,r,O,rfl⟩
  cases draw with
  |false =>
   have h1:=zcW (ro:=ro) (n:=n) (Q:=Q) (λenv h a w E J=>hQ .normal env h a w E (v _ _ _ _ J)) ops.toList 0 env h a w rfl d hs;refine wpIn_region ?_;rw[List.range_eq_range'];omega
  |true =>
   obtain⟨Ns,F,⟨H,hok⟩,hFh,d⟩|⟨H,d⟩:=d
   rotate_left
   ·obtain⟨g,k1,k2,k3,k4⟩:=hs;exact wpIn_region_any H (zdL (λenv h a w E J=>hQ .normal env h a w E (v _ _ _ _ J)) _ _ _ _ _ _ d ⟨g,k1,k2.drew,k3,k4⟩)
   obtain⟨vs,t,h0,h1,h2⟩:=zko ops.toList 0 env h rfl (lV _) d;have hT:(λw:Nat=>decide (0<=w))=λ_=>true:=by rfl
   rw[hT]at h1 h2;refine wpIn_region_any H (zli (D:=a.defers) (g0:=g) hok (vs:=vs) (hs:=t) (env:=env) (by simp_all) (λi o ho=>h1 i o (lV _) ho) (λa w J=>hQ .normal _ _ _ _ h2 (v _ _ _ _ J)) ops.size _ a _ (by simp) ?_ (λi j hi=>?_) ?_)
   ·exact lg List.countP_le_length (by simp)
   ·exfalso;rw[lP]at hi
    grind
   ·have hF:∀w,(Array.replicate ops.size false).getD w false=false:=λw=>by
     rw[lP]
     grind
    rw[zbw _ λw _=>hF w];have hH:fH ops Ns t (λi=>(Array.replicate ops.size false).getD i false) ops.size=h:=by
     have:∀k,fH ops Ns t (λi=>(Array.replicate ops.size false).getD i false) k=h:=λk=>by
      induction k with
      |zero=>exact h0
      |succ k ih=>rw[fH,hF,j3];exact ih
     simp_all
    rw[hH];obtain⟨g,k1,k2,k3,k4⟩:=hs;exact⟨g,k1,k2.drew,k3,k4⟩
 |.seq x y,gb,g0,QA,env,h,a,w,hr,d,hs,Q,hQ=>by
  have U:ro=ac \/ pk x=true:=hr.imp id λh=>by simp only[pk,tx]at h;exact h.1
  have S:ro=ac \/ pk y=true:=hr.imp id λh=>by simp only[pk,tx]at h;exact h.2
  obtain⟨g,N,r,O,H,s⟩:=hs;refine wpIn_seq (uM (gb:=gb) (g0:=g) x U d ⟨g,Gh.le.refl g,r,O,H,s⟩ λe l L a' w' E t=>?_);obtain⟨Z,C,Y,A,G,K⟩:=t;cases e with
  |normal =>
   obtain⟨env2,h2,T,E⟩:=E;obtain⟨W,q,X,z,u⟩:=T B w0 w' w g Z _ r C Y A;exact uM (gb:=gb) (g0:=g0) y S E ⟨W,N.trans q,X,z,G.mono u,s.trans q⟩ hQ
  |_=>exact hQ _ _ _ _ _ E ⟨Z,N.trans C,Y,A,G,K⟩
 |.cond c x y,gb,g0,QA,env,h,a,w,hr,d,hs,Q,hQ=>by
  have U:ro=ac \/ pk x=true:=hr.imp id λh=>by simp only[pk,tx]at h;exact h.1
  have S:ro=ac \/ pk y=true:=hr.imp id λh=>by simp only[pk,tx]at h;exact h.2
  obtain⟨hc,d⟩:=d;have t:=hs;obtain⟨g,N,r,O,H,s⟩:=t;have hV:=V.ev O hc;split at d
  ·rename_i b hb;rw[hb]at hV;simp only[V]at hV;refine wpIn_cond hV ?_;cases b with
   |true=>exact uM x U d hs hQ
   |false=>exact uM y S d hs hQ
  ·simp_all
 |.block id body,gb,g0,QA,env,h,a,w,hr,d,hs,Q,hQ=>by
  refine wpIn_block (uM body (hr.imp (λh=>h) λh=>h) d hs λe l L a' w' E t=>?_);cases e with
  |exit id' =>
   simp only[Exit.inBlock]
   grind
  |_=>exact hQ _ _ _ _ _ E t
 |.loop body,gb,g0,QA,env,h,a,w,hr,d,hs,Q,hQ=>by
  have hrb:ro=ac \/ pk body=true:=hr.imp id λh=>h;obtain⟨I,⟨m0,env0,h0,hk0,hI⟩,M⟩:=d;obtain⟨ge,hge,re,O,H,s⟩:=hs;have hgb0:=s
  let p:Act->World->Nat->Prop:=λa w m=>∃env h,I m env h/\StM B w0 gb ge env h a w
  obtain⟨W,q,X,z,u⟩:=hk0 B w0 w w ge ge _ re (Gh.le.refl ge) re O;refine wpIn_loop (λa w=>∃m,p a w m) (λa w=>zmG (p a w)) ⟨_,env0,h0,hI,W,q,X,z,H.mono u,s.trans q⟩ λa w1 hI'=>?_;obtain⟨l,L,hI2,hs2⟩:=zk9 hI';obtain⟨g,N,r,O,H,s⟩:=hs2;refine uM (gb:=gb) (g0:=g) body hrb (M _ l L hI2) ⟨g,Gh.le.refl g,r,O,H,s⟩ λe env2 h2 a2 w2 E hs3=>?_;obtain⟨Z,C,Y,A,G,K⟩:=hs3;cases e with
  |normal =>
   obtain⟨m,R,h3,hlt,T,hI3⟩:=E;have hp:p a2 w2 m:=by
    rcases T with T|T
    ·obtain⟨W,q,X,z,u⟩:=T B w0 w2 w1 g Z _ r C Y A;exact⟨R,h3,hI3,W,N.trans q,X,z,G.mono u,s.trans q⟩
    ·obtain⟨W,q,X,z,u⟩:=T B w0 w2 w ge Z _ re (N.trans C) Y A;exact⟨R,h3,hI3,W,q,X,z,G.mono u,hgb0.trans q⟩
   exact⟨⟨_,hp⟩,Nat.lt_of_le_of_lt (zoW hp) hlt⟩
  |_=>exact hQ _ _ _ _ _ E ⟨Z,hge.trans (N.trans C),Y,A,G,K⟩
 |.rangeFunc f ps assign body,gb,g0,QA,env,h,a,w,hr,d,hs,Q,hQ=>zcT (hr.elim id λh=>by cases h) d hs hQ
 |.scope _,_,_,_,_,_,_,_,_,d,_,_,_=>d.elim
 |.goto _,_,_,_,_,_,_,_,_,d,_,_,_=>d.elim
 |.refuse _,_,_,_,_,_,_,_,_,d,_,_,_=>d.elim
end

def sQ(P:Program)(env:List AV)(h:AH):List ResultVar->Option (List AV)
 |[]=>aa []
 |.tmp t::r=>match sQ P env h r with
  |some vs=>aa (env.getD t wb::vs)
  |none=>ac
 |.cell a t::r=>match P.underlying t,P.info? t with
  |some d,aa i=>match sJ h (yd d) i.size (env.getD a wb),sQ P env h r with
   |some v,aa vs=>aa (w5 P t v::vs)
   |_,_=>ac
  |_,_=>ac
def zpK(P:Program)(fn:Func)(env:List AV)(h:AH):Option AV :=
 match sQ P env h fn.results.toList with
 |some [v]=>aa v
 |some vs=>aa (.fl vs)
 |none=>ac

def g6(a b:AV):Prop:=∀g v,V g a v->V g b v
theorem g6.refl(a:AV):g6 a a:=λ_ _ h=>h
def nQ(h0:AH)(K:AV->AH->Prop)(r0:AV)(h:AH):Prop:=∃r h',wk h0 [r0] h [r] h'/\K r h'
def pi(P:Program)(fn:Func)(h0:AH)(K:AV->AH->Prop)(x:Exit)(env:List AV)(h:AH):Prop :=
 match x with
 |.normal|.ret=>match zpK P fn env h with
  |some r=>nQ h0 K r h
  |none=>False
 |_=>False

section
variable{P:Program}
def zuw(tmps:Array Value):ResultVar->Sem Value
 |.tmp t=>pure (tmps.getD t undef)
 |.cell a t=>do loadVar t (<- asAddr (tmps.getD a undef))
theorem zkT(fn:Func)(tmps:Array Value):results fn tmps=(do let vs <- fn.results.mapM (zuw tmps);pure (if h:vs.size=1 then vs[0]else .tuple vs)):=by
 rfl
theorem zbg{B:Nat}{w0 w:World}{g:Gh}{h:AH}(r:Rel B w0 g h w){env:List AV}{tmps:Array Value}(e:VL g env tmps.toList):∀{c:List ResultVar}{vs:List AV},sQ P env h c=aa vs ->
  ∃us,(c.mapM (zuw tmps)).run P w=.ok us w/\VL g vs us
 |[],vs,h=>by simp only[sQ,p5]at h;subst h;exact⟨[],by simp,by simp[VL]⟩
 |.tmp t::c,vs,h=>by
  simp only[sQ]at h;split at h
  ·rename_i k j;cases h;obtain⟨us,l,f⟩:=zbg r e j;refine⟨tmps.getD t undef::us,by simp only[j4,Sem.run_bind,zuw,Sem.run_pure,Result.andThen_ok,l],VL.cons ?_ f⟩;exact V.ev (a:={ tmps:=tmps,defers:=[] }) e (x:=.tmp t) rfl
  ·cases h
 |.cell ad t::c,vs,h=>by
  simp only[sQ]at h;split at h
  ·rename_i d i hd hi;split at h
   ·rename_i v k s j;cases h;obtain⟨us,l,f⟩:=zbg r e j;have q:=V.ev (a:={ tmps:=tmps,defers:=[] }) e (x:=.tmp ad) rfl;obtain⟨u,b,m⟩:=zbr r hd hi q s;refine⟨u::us,?_,VL.cons m.w5 f⟩;have o:(do loadVar t (<- asAddr (tmps.getD ad undef)):Sem Value).run P w=.ok u w:=by
     have y:Act.eval { tmps:=tmps,defers:=[] } (.tmp ad)=tmps.getD ad undef:=rfl;rw[y]at b;generalize tmps.getD ad undef=pv at b ⊢;cases pv with
     |pointer x =>
      cases x with
      |none=>simp[Instr.loadAt,Instr.sureAddr]at b
      |some x=>simpa[Instr.loadAt,Instr.sureAddr,asAddr]using b
     |_=>simp[Instr.loadAt,Instr.sureAddr]at b
    have z:(zuw tmps (.cell ad t)).run P w=.ok u w:=o
    simp_all
   ·cases h
  ·cases h

theorem zl7{B:Nat}{w0:World}{g:Gh}(r:Rel B w0 g h w){env:List AV}{tmps:Array Value}(i:VL g env tmps.toList){fn:Func}{v:AV}(c:zpK P fn env h=aa v) :
  ∃u,(results fn tmps).run P w=.ok u w/\V g v u:=by
 unfold zpK at c;have key:∀vs,sQ P env h fn.results.toList=aa vs->∃us:List Value,(results fn tmps).run P w=.ok (if h:us.length=1 then us[0]else .tuple us.toArray) w/\VL g vs us:=by
  intro vs a;obtain⟨us,e,b⟩:=zbg r i a;refine⟨us,?_,b⟩;rw[zkT,Array.mapM_eq_mapM_toList]
  simp_all
 split at c
 ·rename_i j a;cases c;obtain⟨us,e,b⟩:=key _ a;simp only[VL]at b
  grind
 ·rename_i vs f a;cases c;obtain⟨us,e,b⟩:=key _ a;have d:us.length≠1:=by
   intro d;rw[<- b.length]at d;rcases vs with _|⟨x,_|⟨y,r⟩⟩<;>simp at d
   simp_all
  refine⟨.tuple us.toArray,by simp_all,?_⟩;simp only[V];exact⟨_,rfl,b⟩
 ·cases c

theorem VL.am{g:Gh}:∀k,VL g (List.replicate k wb) (List.replicate k undef)
 |0=>by simp[VL]
 |k+1=>by simp only[jU];exact VL.cons V.f5 (VL.am k)

theorem Rel.shut{B:Nat}{w0:World}{g:Gh}(r:Rel B w0 g h w){c:Nat}(R:c∈g.δ):Rel B w0 { g with δ:=g.δ.filter (· != c) } h (w.putObj c (.deferred ac)):=by
 have hd:=r.eJ c R;have f:∀b,b≠c->(w.putObj c (.deferred ac)).heap[b]?=w.heap[b]?:=λb D=>World.putObj_heap_other D;have O:g.le { g with δ:=g.δ }:=Gh.le.refl g;refine⟨⟨r.below.os,r.below.tape,r.below.output,by simpa using r.below.size,λb D=>(f b (by omega)).trans (r.below.block b D)⟩,by simpa using r.dA,λb j v e=>?_,r.fi,λi x k C E=>?_,r.fA,λi t I=>?_,r.eF,r.fS,r.sep,λx C=>?_,λi k hi E=>?_,r.fX⟩
 ·have q:b≠c:=by
   rintro rfl
   have:=r.eK b j v e;unfold World.cell? at this
   simp_all
  exact(World.cell?_of_block (w:=w) (a:=⟨b,j,ac⟩) (f b q)).trans (r.eK b j v e)
 ·obtain⟨z,A,u,F⟩:=r.g7 i x k C E;refine⟨z,by simp_all,?_,F⟩;have q:x≠c:=by grind
  have y:=f x q;cases k with
  |cells cs=>obtain⟨vs,t,k1,k2⟩:=u;exact⟨vs,t,y.trans k1,VA.dd k2⟩
  |ec s pos=>exact y.trans u
  |q7 es clock=>obtain⟨ents,n,k1,k2,k3⟩:=u;exact⟨ents,n,y.trans k1,ME.dd k2,k3⟩
  |loop st pe env ps assign body=>obtain⟨fn,tmps,d,k1,k2⟩:=u;exact⟨fn,tmps,d,y.trans k1,VL.dd k2⟩
  |row _ _ _=>exact u
  |fF id n seen=>obtain⟨m,k1,k2⟩:=u;exact⟨m,k1,y.trans k2⟩
  |eQ=>exact y.trans u
  |other=>trivial
  |dead=>trivial
 ·obtain⟨z,A⟩:=r.tok i t I;refine⟨z,λb l e L=>?_⟩;have lo:=A b l e L;refine lo.mono (by simp) (f b ?_) λ_ _=>rfl
  rintro rfl
  obtain⟨cs,ty,M,_⟩:=lo.cells
  simp_all
 ·simp only[lQ,bne_iff_ne,gP]at C;have H:=r.eJ x C.1
  simp_all
 ·have G:=r.row i k hi E;cases k with
  |row i2 k2 e2 =>
   obtain⟨t,z,A,u,F,J,N⟩:=G;refine⟨t,z,A,u,F,J,N.imp (λh=>h) ?_⟩
   rintro⟨b,o,e,cs,ty,k1,k2,k3,Q,K⟩
   have q:b≠c:=by grind
   exact⟨b,o,e,cs,ty,k1,(f b q).trans k2,VA.dd k3,Q,K⟩
  |dead=>trivial
  |_=>exact G.elim

theorem zbV{B:Nat}{w0:World}{g0:Gh}{h:AH}{env:List AV}{fn:Func}{tmps:Array Value}{R:Ending->World->Prop}:∀(D:List Deferred)(cs:List Nat) (w:World) {g:Gh},D.map (·.target)=cs.map Target.collected->cs.Nodup ->
  (∀(a:World)(b:Gh),g0.le b->Rel B w0 b h a->VL b env tmps.toList->∃v,(results fn tmps).run P a=.ok v a/\R (.returned v) a) ->
  g0.le g->Rel B w0 g h w->VL g env tmps.toList->(∀c∈cs,c∈g.δ)->(∀c∈cs,c∉g0.δ)->LeavesInM (WF ac) 0 P fn tmps R D .returning w
 |[],cs,w,g,e,_,hfin,hg,r,he,_,_=>hfin w g hg r he
 |d::D,cs,w,g,e,hnd,hfin,hg,r,he,h1,h2=>by
  cases cs with
  |nil=>simp at e
  |cons c cs =>
   simp only[m4,List.cons.injEq]at e;obtain⟨hd,e⟩:=e;have i:=h1 c (by simp);refine⟨by simp,.inl ⟨c,_,hd,run_takeDeferred (r.eJ c i).2.1,?_⟩⟩;refine zbV D cs _ (g:={ g with δ:=g.δ.filter (· != c) }) e (jm.1 hnd).2 hfin ⟨hg.eK,hg.sig,hg.au,λx f=>?_⟩ (r.shut i) (VL.dd he) (λx f=>?_) λx f=>h2 x (by simp[f])
   ·simp only[lQ,bne_iff_ne,gP];exact⟨hg.del x f,by grind⟩
   ·grind

theorem zbM{f : FuncId}{fn : Func}{c : Code}(hf : P.funcs[f]? = aa fn)(hb : fn.body = aa c)(hname : (fn.name == "runtime.NumGoroutine") = false){args : List AV}{h : AH}{K : AV→AH→Prop}
  (hw:vi P c (pi P fn h K) (args++List.replicate (fn.ntmps-args.length) wb) h):Spec P f args h K:=by
 have hn : ¬fn.name = "runtime.NumGoroutine" := by simp_all
 refine⟨λvs w=>by simp[callFunc,hf,hb,hn],λB w0 _ g w vs r hv=>?_⟩;refine callsIn_wide.1 (callsIn_of_wp_marks (F:=WF ac) (n:=0) hf hb trivial ?_ rfl);have hlen:args.length=vs.size:=by rw[hv.length];rfl
 refine uM (B:=B) (w0:=w0) (gb:=g) (g0:=g) c (.inl rfl) hw ⟨g,Gh.le.refl g,r,?_,Marks.nil _ _,Gh.le.refl g⟩ λx env' h' a' w' hq hs=>?_
 ·simp only[kU,Array.toList_replicate,hlen];exact VL.append hv (VL.am _)
 ·obtain⟨g',hg,r',he,hm,_⟩:=hs;have fin:(match zpK P fn env' h' with|some r=>nQ h K r h' |none=>False) ->
    LeavesInM (WF ac) 0 P fn a'.tmps (λe w''=>∃v' r h2 g2,e=.returned v'/\K r h2/\g.le g2/\Rel B w0 g2 h2 w''/\V g2 r v') a'.defers .returning w':=by
   intro hfin;split at hfin
   ·rename_i rv hr;obtain⟨cs,hD,hnd,hcs⟩:=hm;refine zbV a'.defers cs w' hD hnd ?_ hg r' he (λc hc=>(hcs c hc).1) (λc hc=>(hcs c hc).2);intro w'' g'' hg'' r'' he'';obtain⟨u,h1,h2⟩:=zl7 r'' he'' hr;refine⟨u,h1,u,?_⟩;obtain⟨rv,h2',hwk,hK⟩:=hfin;obtain⟨g2,k1,k2,k3,_⟩:=hwk B w0 w'' w g g'' [u] r hg'' r'' (VL.cons h2 (by simp[VL]));simp only[VL]at k3
    grind
   ·simp_all
  cases x with
  |normal=>exact fin hq
  |ret=>exact fin hq
  |_=>exact hq.elim
end
end Go.Vv
namespace Go.Vv
open Go
variable{a b v:AV}{r args:List AV}{f:FuncId}{h':AH}

def fc(a5 bs:List AV):Prop:=∀g vs,VL g a5 vs->VL g bs vs
theorem g6.any(a:AV):g6 a .any:=λ_ _ _=>by simp only[V]
theorem g6.nil(k:Nat):g6 .fT (.sl k []):=λ_ v h=>by
 simp only[V]at h ⊢
 grind
theorem g6.gW(o:Option Nat)(k:Nat)(es:List (List AV)):g6 (.gW o k es) (.sl k es):=λ_ v h=>by
 simp only[V]at h ⊢
 grind
theorem fc.nil:fc [] []:=λ_ _ h=>h
theorem fc.refl(a5:List AV):fc a5 a5:=λ_ _ h=>h
theorem fc.cons{s:List AV}(h:g6 a b)(k:fc r s):fc (a::r) (b::s):=λg vs c=>by
 simp only[VL]at c ⊢;obtain⟨v,t,e,i,d⟩:=c;exact⟨v,t,e,h _ _ i,k _ _ d⟩
theorem fc.eq{s:List AV}(k:fc r s):fc (a::r) (a::s):=fc.cons (g6.refl a) k
theorem fc.drop{s:List AV}(k:fc r s):fc (a::r) (.any::s):=fc.cons (g6.any a) k
theorem fc.d4{c d:AV}{s:List AV}(k:fc r s):fc (a::b::c::d::r) (.any::.any::.any::.any::s):=.drop (.drop (.drop (.drop k)))
theorem fc.d16{c d e f g h i j l m n o p q:AV}{s:List AV}(k:fc r s):fc (a::b::c::d::e::f::g::h::i::j::l::m::n::o::p::q::r) (.any::.any::.any::.any::.any::.any::.any::.any::.any::.any::.any::.any::.any::.any::.any::.any::s):=.d4 (.d4 (.d4 (.d4 k)))

theorem wk.refl(hd:AH)(env:List AV)(h:AH):wk hd env h env h:=λ_ _ _ _ _ g _ _ d r c=>⟨g,d,r,c,λ_ h=>h⟩
theorem wk.le{hd:AH}{env env':List AV}{h:AH}(k:fc env env'):wk hd env h env' h:=λ_ _ _ _ _ g _ _ d r c=>⟨g,d,r,k _ _ c,λ_ h=>h⟩
theorem wk.cut{hd:AH}{env:List AV}{h:AH}(l:zB hd.zh.length hd.zs.length env=true)
  (q:∀(i:Nat)(k:q6),i<hd.zh.length->h.zh[i]?=aa k->hd.zh[i]?=aa k \/ k.low hd.zh.length hd.zs.length=true) :
  wk hd env h env (h.cut hd.zh.length hd.zs.length):=λ_ _ _ _ j g _ c p r m=>⟨g.cut hd.zh.length hd.zs.length,by rw[<- c.fi,<- c.fA];exact Gh.aC p,
   r.cut _ _ (λi k hi e=>by
    rcases q i k hi e with d|d
    ·have n:i<j.σ.length:=by rw[c.fi];exact hi
     have:=c.fJ d;rw[c.fi,c.fA]at this;exact this
    ·exact d),VL.cut _ _ l m,λ_ h=>h⟩
theorem wk.trans{hd:AH}{env env' c:List AV}{h e:AH}(a:wk hd env h env' h')(b:wk hd env' h' c e):wk hd env h c e:=λB w0 w d j g vs i k r l=>by
 obtain⟨g',k1,k2,k3,s⟩:=a B w0 w d j g vs i k r l;obtain⟨q,m,t,n,p⟩:=b B w0 w d j g' vs i k1 k2 k3
 grind

def cvo:Value->Option AV
 |.bool b=>aa (.bool b)
 |.int k n=>aa (.int k n)
 |.string s=>if s.size<=maxLen then aa (.str s.data.toList)else ac
 |.pointer ac=>aa .er
 |.slice ac 0 0=>aa .fT
 |.map ac=>aa .ef
 |.nilFunc=>aa .fC
 |.nilIface=>aa .eX
 |_=>ac
def yy(env:List AV):Operand->Option AV
 |.tmp t=>env[t]?
 |.const (.agg cs)=>if okc (.agg cs)then aa (cv (.agg cs))else ac
 |.const v=>cvo v
 |.global g=>aa (.de g)
 |.func f=>aa (.fn (.func f) [] [])
theorem zF{env:List AV}{x:Operand}(h:yy env x=aa v):yo x=true/\ev env x=v:=by
 cases x with
 |tmp t =>
  simp only[yy]at h;refine⟨rfl,?_⟩;simp only[ev]
  simp_all
 |const c =>
  cases c with
  |agg cs =>
   simp only[yy]at h;split at h
   ·rename_i d;cases h;exact⟨d,rfl⟩
   ·cases h
  |string s =>
   simp only[yy,cvo]at h;split at h
   ·rename_i d;cases h;exact⟨by simpa[yo,okc,zoM]using d,rfl⟩
   ·cases h
  |slice a b c =>
   simp only[yy]at h;unfold cvo at h;split at h<;>first|cases h|skip
   all_goals first|(cases h;exact⟨rfl,rfl⟩)|skip
   all_goals simp_all[yo,okc,zoM,ev,cv,b6]
  |pointer a =>
   cases a with
   |none=>simp only[yy,cvo]at h;cases h;exact⟨rfl,rfl⟩
   |some a=>simp only[yy,cvo]at h;cases h
  |map a =>
   cases a with
   |none=>simp only[yy,cvo]at h;cases h;exact⟨rfl,rfl⟩
   |some a=>simp only[yy,cvo]at h;cases h
  |_=>simp only[yy,cvo]at h;first|(cases h;exact⟨rfl,rfl⟩)|cases h
 |global g=>simp only[yy]at h;cases h;exact⟨rfl,rfl⟩
 |func f=>simp only[yy]at h;cases h;exact⟨rfl,rfl⟩

@[irreducible] def gv(b:Bool)(v:AV):AV:=if b then v else wb
theorem pn(v:AV):gv true v=v:=by simp[gv]
theorem p7(v:AV):gv false v=wb:=by simp[gv]

def tX(d:Option Tmp)(env:List AV)(v:AV):Option (List AV) :=
 match d with
 |some d=>aa (env.set d v)
 |none=>aa env
theorem yU{d:Option Tmp}{env env':List AV}(h:tX d env v=aa env'):fw env d v=env':=by
 cases d<;>simp only[tX,p5]at h<;>exact h

section
variable{P:Program}{ops:Array Oper}{Q:List AV->AH->Prop}{o:Oper}{rest:List Oper}{env env':List AV}{h:AH}

theorem yB(hk:Q env h):zx P ops Q [] env h:=hk
theorem zt(e:aG ops o env=aa true)(d:zj P o env h=.ok v h')(hd:tX o.dst env v=aa env')(c:zx P ops Q rest env' h'):zx P ops Q (o::rest) env h:=by
 refine qk ?_;simp only[e,bn,d,bm,yU hd];exact c
theorem zir{n:Nat}(e:aG ops o env=aa true)(d:zj P o env h=.len n v h')(hd:tX o.dst env v=aa env')(c:n<=maxLen->zx P ops Q rest env' h'):zx P ops Q (o::rest) env h:=by
 refine qk ?_;simp only[e,bn,d,bm,yU hd];exact c
theorem pU{K:AV->AH->Prop}(e:aG ops o env=aa true)(d:zj P o env h=.call f args)(hs:Spec P f args h K)
  (c:∀v h',K v h'->zx P ops Q rest (fw env o.dst v) h'):zx P ops Q (o::rest) env h:=by
 refine qk ?_;simp only[e,bn,d,bm];exact hs.mono c
theorem uU(c:aG ops o env=aa false)(hd:tX o.dst env wb=aa env')(d:zx P ops Q rest env' h):zx P ops Q (o::rest) env h:=by
 refine qk ?_;simp only[c,bn,yU hd];exact d
theorem qr{b:Bool}(d:aG ops o env=aa b)(e:b=true->zj P o env h=.ok v h)(hd:tX o.dst env (gv b v)=aa env')(c:zx P ops Q rest env' h):zx P ops Q (o::rest) env h:=by
 cases b with
 |true=>rw[pn]at hd;exact zt d (e rfl) hd c
 |false=>rw[p7]at hd;exact uU d hd c
theorem zoH{b:Bool}{n:Nat}(d:aG ops o env=aa b)(e:b=true->zj P o env h=.len n v h)(hd:tX o.dst env (gv b v)=aa env')(c:(b=true->n<=maxLen)->zx P ops Q rest env' h):zx P ops Q (o::rest) env h:=by
 cases b with
 |true=>rw[pn]at hd;exact zir d (e rfl) hd λi=>c λ_=>i
 |false=>rw[p7]at hd;exact uU d hd (c λg=>by cases g)
theorem vr{b:Bool}(d:aG ops o env=aa b)(g:b=true->zj P o env h=.call f args)(hs:b=true->Spec P f args h λr h'=>r=v/\h'=h)
  (hd:tX o.dst env (gv b v)=aa env') (c:zx P ops Q rest env' h):zx P ops Q (o::rest) env h:=by
 cases b with
 |true=>exact pU d (g rfl) (hs rfl) λr h' ⟨e,i⟩=>by subst e;subst i;rw[pn]at hd;rw[yU hd];exact c
 |false=>rw[p7]at hd;exact uU d hd c
end
theorem yf{P:Program}{ops:Array Oper}{Q:List AV->AH->Prop}{o:Oper}{rest:List Oper}{env env':List AV}{h:AH}(g:aG ops o env=aa true)(e:zj P o env h=.call f args)(hs:Spec P f args h λr h'=>r=v/\h'=h)
  (hd:tX o.dst env v=aa env') (c:zx P ops Q rest env' h):zx P ops Q (o::rest) env h :=
 pU g e hs λr h' ⟨d,i⟩=>by subst d;subst i;rw[yU hd];exact c
end Go.Vv
namespace Go.Vv
open Go
variable{t e u:TypeId}{v v' a b:AV}{x y i:Operand}{c:Call}{d:TypeDesc}{k' off n:Nat}{cs:List AV}{l:List (TypeId×AV)}

class Ty(P:Program)(t:TypeId)(d:outParam TypeDesc)(k:outParam Nat):Prop where
 u:P.underlying t=aa d
 i:∃i,P.info? t=aa i/\i.size=k
class Fo(P:Program)(t:TypeId)(f:Nat)(off:outParam Nat)(u:outParam TypeId)(k:outParam Nat):Prop where
 o:rX P t f=aa (off,u)
 i:∃i,P.info? u=aa i/\i.size=k
class El(P:Program)(t:TypeId)(e:outParam TypeId)(k:outParam Nat):Prop where
 u:P.underlying t=aa (.slice e)
 i:∃i,P.info? e=aa i/\i.size=k/\i.bytes<=65536/\0<k/\(i.zero.map (·.cells.size))=aa k

def tyo:AV->Option AV
 |.fT=>ac
 |.bool b=>aa (.bool b)
 |.int k n=>aa (.int k n)
 |.str s=>aa (.str s)
 |.ptr i o=>aa (.ptr i o)
 |.fK c=>aa (.fK c)
 |.sl k e=>aa (.sl k e)
 |.gW q k e=>aa (.gW q k e)
 |.cu a b c d=>aa (.cu a b c d)
 |.fo a b c d=>aa (.fo a b c d)
 |.fW a b c d e=>aa (.fW a b c d e)
 |.ep a b c d e=>aa (.ep a b c d e)
 |.map i=>aa (.map i)
 |.fn f a b=>aa (.fn f a b)
 |.iface t v=>aa (.iface t v)
 |.agg c=>aa (.agg c)
 |.fl v=>aa (.fl v)
 |.de g=>aa (.de g)
 |.ca i=>aa (.ca i)
 |.any=>aa .any
 |.ct=>aa .ct
 |.er=>aa .er
 |.ef=>aa .ef
 |.fC=>aa .fC
 |.eX=>aa .eX
theorem zc{P:Program}(h:tyo v=aa v'):w5 P t v=v':=by
 cases v<;>simp only[tyo]at h<;>first|(cases h;rfl)|cases h
theorem zpR{P:Program}{k:Nat}(h:El P t e k):w5 P t .fT=.gW ac k []:=by
 obtain⟨i,f,g,_⟩:=h.i;simp only[w5,h.u,Program.cellsOf,f];congr 1
section
variable{P:Program}{o:Oper}{env:List AV}{h:AH}

theorem yS{x:Operand}{v v':AV}(ho:o.op=.move x)(hx:yy env x=aa v)(ht:w5 P o.type v=v'):zj P o env h=.ok v' h:=by
 obtain⟨h1,h2⟩:=zF hx;simp only[zj,ho,h1,oS,h2,ht]
theorem xJ(f:o.op=.assign x)(m:yy env x=aa v)(k:w5 P o.type v=v'):zj P o env h=.ok v' h:=by
 obtain⟨j,g⟩:=zF m;simp only[zj,f,j,oS,g,k]
theorem zlZ{c a b:Operand}{t:Bool}{x y:AV}(g:o.op=.pick c a b)(z:yy env c=aa (.bool t))(k:yy env a=aa x)(w:yy env b=aa y)(j:(if t then x else y)=v):zj P o env h=.ok v h:=by
 obtain⟨q,m⟩:=zF z;obtain⟨s,p⟩:=zF k;obtain⟨r,f⟩:=zF w;simp only[zj,g,q,s,r,lB,oS,m,p,f,j]
theorem wp{op:BinOp}(g:o.op=.binOp op t x y u)(r:yy env x=aa a)(j:yy env y=aa b)(f:yL P op t a b=aa v):zj P o env h=.ok v h:=by
 obtain⟨p,k⟩:=zF r;obtain⟨q,m⟩:=zF j;simp only[zj,g,p,q,lB,oS,k,m,zlr f,f,oo,iO]
theorem zu7{op:UnOp}(f:o.op=.unOp op t x)(m:yy env x=aa a)(g:aUn op a=aa v):zj P o env h=.ok v h:=by
 obtain⟨k,j⟩:=zF m;simp only[zj,f,k,oS,j,g,oo]
theorem tI{s:TypeId}{f:TypeDesc}{k:Nat}(g:o.op=.convert s t x)(hs:Ty P s d k)(q:Ty P t f k')(r:yy env x=aa a)(j:zcz f a=aa v):zj P o env h=.ok v h:=by
 obtain⟨p,m⟩:=zF r;simp only[zj,g,p,oS,m,hs.u,q.u,j,oo]
theorem zgG{k:Nat}(j:o.op=.load t x)(f:Ty P t d k)(s:yy env x=aa a)(m:sJ h (yd d) k a=aa v)(g:w5 P t v=v'):zj P o env h=.ok v' h:=by
 obtain⟨w,p⟩:=zF s;obtain⟨i,r,q⟩:=f.i;simp only[zj,j,f.u,r,q,p,m,lK,g,oo]
theorem zie{k:Nat}{g:AV}{f:AH}(p:o.op=.store t x y)(A:Ty P t d k)(C:yy env x=aa a)(r:yy env y=aa b)(j:w5 P t b=g)(q:mI h k a g=aa f) :
  zj P o env h=.ok wb f:=by
 obtain⟨D,s⟩:=zF C;obtain⟨B,w⟩:=zF r;obtain⟨i,z,m⟩:=A.i;simp only[zj,p,B,oS,z,m,s,w,j,q,oh]
theorem zqH(f:o.op=.alloc t)(g:yY P t=aa cs):zj P o env h=.ok (.ptr h.zh.length 0) (h.new (.cells cs)):=by
 simp only[zj,f,g]
theorem zu9{a':AV}(g:o.op=.box t x)(p:yy env x=aa a)(f:w5 P t a=a')(m:a'.cells?=aa cs):zj P o env h=.ok (.ptr h.zh.length 0) (h.new (.cells cs)):=by
 obtain⟨k,j⟩:=zF p;simp only[zj,g,k,oS,j,f,m]
theorem me(j:o.op=.nilCheck x)(r:yy env x=aa a)(g:(match a with|.ptr id p=>aa (AV.ptr id p)|.fK cs=>aa (.fK cs)|.fn (.func f) p q=>aa (.fn (.func f) p q)|_=>ac)=aa v) :
  zj P o env h=.ok v h:=by
 obtain⟨m,k⟩:=zF r;simp only[zj,j,m,oS,k];split at g<;>first|(cases g;rfl)|cases g
theorem oI{f k:Nat}(j:o.op=.fieldAddr t x f)(g:Fo P t f off u (k+1))(w:yy env x=aa a)(m:tB off a=aa v):zj P o env h=.ok v h:=by
 obtain⟨r,p⟩:=zF w;obtain⟨i,s,q⟩:=g.i;simp only[zj,j,g.o,s,q,r,p,m,oo];simp
theorem zcL{f k:Nat}(j:o.op=.field t x f)(g:Fo P t f off u k)(hd:Ty P u d k')(z:yy env x=aa a)(m:zje (yd d) off k a=aa v)(s:w5 P u v=v') :
  zj P o env h=.ok v' h:=by
 obtain⟨r,p⟩:=zF z;obtain⟨i,w,q⟩:=g.i;simp only[zj,j,g.o,hd.u,w,q,r,oS,p,m,lK,s,oo]
theorem zap{k:Nat}(m:o.op=.indexAddr t x i)(f:El P t e k)(A:yy env x=aa a)(hi:yy env i=aa b)(p:tA k a b=aa v):zj P o env h=.ok v h:=by
 obtain⟨s,q⟩:=zF A;obtain⟨z,r⟩:=zF hi;obtain⟨j,w,g,_⟩:=f.i;simp only[zj,m,s,z,lB,oS,q,r,f.u,w,g,p,oo]
theorem zdY{k:Nat}(g:o.op=.indexAddr t x i)(z:Ty P t (.array n e) k)(m:Ty P e d k')(B:yy env x=aa a)(hi:yy env i=aa b)
  (p:za8 n k' a b=aa v):zj P o env h=.ok v h:=by
 obtain⟨s,q⟩:=zF B;obtain⟨A,r⟩:=zF hi;obtain⟨j,w,f⟩:=m.i;simp only[zj,g,s,A,lB,oS,q,r,z.u,w,f,p,oo]
theorem zkR{k:Nat}(f:o.op=.index t x i)(q:Ty P t .string k)(s:yy env x=aa a)(hi:yy env i=aa b)(g:nY a b=aa v):zj P o env h=.ok v h:=by
 obtain⟨p,j⟩:=zF s;obtain⟨r,m⟩:=zF hi;simp only[zj,f,p,r,lB,oS,j,m,q.u,g,oo]
theorem zkS{k:Nat}(p:o.op=.index t x i)(A:Ty P t (.array n e) k)(f:Ty P e d k')(C:yy env x=aa a)(hi:yy env i=aa b)
  (q:nZ (yd d) n k' a b=aa v) (g:w5 P e v=v'):zj P o env h=.ok v' h:=by
 obtain⟨w,r⟩:=zF C;obtain⟨B,s⟩:=zF hi;obtain⟨j,z,m⟩:=f.i;simp only[zj,p,w,B,lB,oS,r,s,A.u,f.u,z,m,q,lK,g,oo]
theorem xI{t:Operand}{i:Nat}{vs:List AV}(g:o.op=.extract t i)(p:yy env t=aa (.fl vs))(j:vs[i]?=aa v)(f:w5 P o.type v=v'):zj P o env h=.ok v' h:=by
 obtain⟨m,k⟩:=zF p;simp only[zj,g,m,oS,k,j,lK,f,oo]
theorem zea{f:Fn}{a b:Array Operand}{a5 bs:List AV}(s:o.op=.makeFunc f a b)(w:a.toList.mapM (yy env)=aa a5)(m:b.toList.mapM (yy env)=aa bs):zj P o env h=.ok (.fn f a5 bs) h:=by
 have key:∀(l:List Operand)(a5:List AV),l.mapM (yy env)=aa a5->l.all yo=true/\l.map (ev env)=a5:=by
  intro l
  induction l with
  |nil=>intro a5 h;simp at h;subst h;exact⟨rfl,rfl⟩
  |cons x r ih =>
   intro a5 h;simp only[j4,jW,kh,iB,p5]at h;obtain⟨v,z,vs,A,rfl⟩:=h;obtain⟨q,k⟩:=zF z
   simp_all
 obtain⟨q,k⟩:=key _ _ w;obtain⟨B,p⟩:=key _ _ m;have g:a.all yo=true:=by simp_all
 have j:b.all yo=true:=by simp_all
 simp only[zj,s,g,j,lB,oS,k,p]
def oz(env:List AV):List Operand->List TypeId->Option (List (TypeId×AV))
 |[],[]=>aa []
 |x::r,t::ts=>match yy env x,oz env r ts with
  |some v,aa vs=>aa ((t,v)::vs)
  |_,_=>ac
 |_,_=>ac
def zsn(P:Program):List (TypeId×AV)->List AV
 |[]=>[]
 |(t,v)::r=>w5 P t v::zsn P r
theorem zgq:∀{xs:List Operand}{ts:List TypeId} {l:List (TypeId×AV)},oz env xs ts=aa l->xs.all yo=true/\xs.length=ts.length/\(xs.zip ts).map (λp=>w5 P p.2 (ev env p.1))=zsn P l
 |[],[],l,h=>by simp only[oz,p5]at h;subst h;exact⟨rfl,rfl,rfl⟩
 |x::r,t::ts,l,h=>by
  simp only[oz]at h;split at h
  ·rename_i v vs g f;cases h;obtain⟨q,j⟩:=zF g;obtain⟨s,k,m⟩:=zgq f;refine⟨by simp_all,by simp[k],?_⟩;simp only[ga,m4,m,j,zsn]
  ·cases h
 |[],_::_,_,h=>by simp[oz]at h
 |_::_,[],_,h=>by simp[oz]at h
theorem zpT{f:Operand}{g:FuncId}{first j args:List AV}(q:o.op=.call c)(B:c.callee=.value f)(p:yy env f=aa (.fn (.func g) first j))(r:oz env c.args.toList c.argTypes.toList=aa l)
  (s:first++zsn P l++j=args):zj P o env h=.call g args:=by
 obtain⟨z,w⟩:=zF p;obtain⟨D,C,A⟩:=zgq (P:=P) r;have m:c.args.all yo=true:=by grind
 have k:(c.args.size==c.argTypes.size)=true:=by simp_all
 simp only[zj,q,m,k,lB,oS,B,z,w,A,s];simp
theorem zjx{k:Nat}{s:List UInt8}(f:o.op=.call c)(q:c.callee=.builtin .len)(hs:c.args=#[x])(p:c.argTypes=#[t])(m:Ty P t .string k)(r:yy env x=aa (.str s)) :
  zj P o env h=.len s.length (.int .i64 s.length) h:=by
 obtain⟨j,g⟩:=zF r;simp[zj,f,hs,p,q,j,uu,m.u,g]
theorem wj{k:Nat}(f:o.op=.call c)(q:c.callee=.builtin .len)(hs:c.args=#[x])(p:c.argTypes=#[t])(m:El P t e k)(r:yy env x=aa a)(s:zpM a=aa n) :
  zj P o env h=.len n (.int .i64 n) h:=by
 obtain⟨j,g⟩:=zF r;simp[zj,f,hs,p,q,j,uu,m.u,g,s]
theorem zfm{C:TypeId}{k:Nat}{a' g:AV}{p:List (List AV)}{j:AH}(D:o.op=.call c)(N:c.callee=.builtin .append)(hs:c.args=#[x,y])(r:c.argTypes=#[t,u])(m:El P t e k)
  (f:El P u C k') (H:yy env x=aa a) (F:yy env y=aa b) (M:w5 P t a=a') (s:w5 P u b=g) (I:oU k g=aa p) (L:pq h k a' p=aa (v,j)):zj P o env h=.ok v j:=by
 obtain⟨z,q⟩:=zF H;obtain⟨G,w⟩:=zF F;obtain⟨i,B,J,A,E,K⟩:=m.i;subst J;simp[zj,D,hs,r,N,z,G,uu,m.u,f.u,q,w,B,A,E,K,M,s,I,L,ovh]
theorem znR:∀{xs:List Operand}{ts:List TypeId} {l:List (TypeId×AV)},oz env xs ts=aa l->xs.all yo=true/\xs.length=ts.length/\xs.map (ev env)=l.map Prod.snd
 |[],[],l,h=>by simp only[oz,p5]at h;subst h;exact⟨rfl,rfl,rfl⟩
 |x::r,t::ts,l,h=>by
  simp only[oz]at h;split at h
  ·rename_i v vs g f;cases h;obtain⟨m,j⟩:=zF g;obtain⟨q,k,p⟩:=znR f
   simp_all
  ·cases h
 |[],_::_,_,h=>by simp[oz]at h
 |_::_,[],_,h=>by simp[oz]at h
theorem zu8{x:AV}{r:List AV}(mx:Bool)(k:o.op=.call c)(j:c.callee=.builtin (if mx then .max else .min))(s:oz env c.args.toList c.argTypes.toList=aa l)(q:l.map Prod.snd=x::r)(m:aMM mx x r=aa v):zj P o env h=.ok v h:=by
 obtain⟨w,z,p⟩:=znR s;have f:c.args.all yo=true:=by grind
 have g:(c.args.size==c.argTypes.size)=true:=by simp_all
 cases mx
 ·simp only[s5,mb]at j;simp only[zj,k,f,g,lB,oS,j,uu,p,q,m,oo]
 ·simp only[oS]at j;simp only[zj,k,f,g,lB,oS,j,uu,p,q,m,oo]
end
end Go.Vv
namespace Go.Vv
open Go
variable{id:Nat}{b body:Code}{N:List AV->AH->Prop}{K:AV->AH->Prop}

def zog(P:Program)(h0:AH)(b:Code)(Q:Exit->List AV->AH->Prop):Exit->List AV->AH->Prop:=λx env' h'=>match x with
 |.normal=>∃env2 h2,wk h0 env' h' env2 h2/\vi P b Q env2 h2
 |x=>Q x env' h'
def ov(id:Nat)(Q:Exit->List AV->AH->Prop):Exit->List AV->AH->Prop:=λx env h=>match x with
 |.exit id'=>if id'=id then Q .normal env h else Q (.exit id') env h
 |x=>Q x env h
def sn(N:List AV->AH->Prop)(Q:Exit->List AV->AH->Prop):Exit->List AV->AH->Prop:=λx env' h'=>match x with
 |.normal=>N env' h'
 |x=>Q x env' h'

def bi(env:List AV):List (Nat×AV)->List AV
 |[]=>env
 |(i,v)::r=>bi (env.set i v) r
def zo:Nat->Nat->List (Nat×AV)->List (Nat×AV)
 |_,0,m=>m
 |i,n+1,m=>(i,.any)::zo (i+1) n m

section
variable{P:Program}{Q:Exit->List AV->AH->Prop}{env:List AV}{h:AH}
theorem zjD(a:Q .normal env h):vi P .skip Q env h:=a
theorem zqR(a:Q .normal env h):vi P (.label id) Q env h:=a
theorem zor(a:Q .ret env h):vi P .ret Q env h:=a
theorem zmc(a:Q (.exit id) env h):vi P (.exit id) Q env h:=a
theorem yF{l:List Oper}(a:zx P ⟨l⟩ (Q .normal) l env h):vi P (.region id ⟨l⟩ false) Q env h:=a
theorem wr{a:Code}(c:vi P a (zog P h b Q) env h):vi P (.seq a b) Q env h:=c
theorem mo{a:Code}(c:vi P a (ov id Q) env h):vi P (.block id a) Q env h:=c
theorem oY{c:Operand}{t e:Code}{b:Bool}(d:yy env c=aa (.bool b))(i:b=true->vi P t Q env h)(f:b=false->vi P e Q env h):vi P (.cond c t e) Q env h:=by
 obtain⟨a,g⟩:=zF d;refine⟨a,?_⟩
 simp_all
theorem wt{h0:AH}(a:vi P b Q env h):zog P h0 b Q .normal env h:=⟨env,h,wk.refl _ _ _,a⟩
theorem zmd{h0:AH}{a:List AV}{c:AH}(d:wk h0 env h a c)(e:vi P b Q a c):zog P h0 b Q .normal env h:=⟨a,c,d,e⟩
theorem zbk{h0:AH}(a:Q (.exit id) env h):zog P h0 b Q (.exit id) env h:=a
theorem zme{h0:AH}(a:Q .ret env h):zog P h0 b Q .ret env h:=a
theorem zin(a:Q .normal env h):ov id Q .normal env h:=a
theorem zim(a:Q .ret env h):ov id Q .ret env h:=a
theorem zau(a:Q .normal env h):ov id Q (.exit id) env h:=by simp only[ov,oS];exact a
theorem sm{j:Nat}(a:j≠id)(c:Q (.exit j) env h):ov id Q (.exit j) env h:=by simp only[ov,n4 a];exact c
theorem zmf(a:N env h):sn N Q .normal env h:=a
theorem zat(a:Q (.exit id) env h):sn N Q (.exit id) env h:=a
theorem zkX(a:Q .ret env h):sn N Q .ret env h:=a
theorem zij{σ:Type}(E:σ->List AV)(H:σ->AH)(d:σ->Prop)(i:σ->Nat)(j:σ)(h0:wk h env h (E j) (H j))(hi:d j)
  (hs:∀s,d s->vi P body (sn (λa g=>∃c,d c/\i c<i s/\(wk (H s) a g (E c) (H c) \/ wk h a g (E c) (H c))) Q) (E s) (H s)):vi P (.loop body) Q env h:=by
 refine⟨λn env h=>∃s,i s=n/\d s/\env=E s/\h=H s,⟨_,_,_,h0,j,rfl,hi,rfl,rfl⟩,?_⟩
 rintro n _ _ ⟨s,l,hi,rfl,rfl⟩
 subst l;have:=hs s hi;have e:(sn (λa g=>∃c,d c/\i c<i s/\(wk (H s) a g (E c) (H c) \/ wk h a g (E c) (H c))) Q) =
   (sn (λa g=>∃m f k,m<i s/\(wk (H s) a g f k \/ wk h a g f k)/\(∃c,i c=m/\d c/\f=E c/\k=H c)) Q):=by
  grind
 rw[e]at this;exact this
theorem zrP{h0:AH}{v a:AV}(d:g6 v a)(e:a.low h0.zh.length h0.zs.length=true)
  (f:∀(i:Nat)(k:q6),i<h0.zh.length->h.zh[i]?=aa k->h0.zh[i]?=aa k \/ k.low h0.zh.length h0.zs.length=true) (c:K a (h.cut h0.zh.length h0.zs.length)):nQ h0 K v h :=
 ⟨a,_,(wk.le (fc.cons d fc.nil)).trans (wk.cut (by simp[zB,e]) f),c⟩
theorem wv{h0 a:AH}{v c:AV}(d:wk h0 [v] h [c] a)(e:K c a):nQ h0 K v h:=⟨c,a,d,e⟩
theorem zvj{fn:Func}{h0:AH}(a:pi P fn h0 K .ret env h):pi P fn h0 K .normal env h:=a
end
theorem g6.of_eq{a b:AV}(h:a=b):g6 a b:=h ▸ g6.refl a
theorem zfn{P:Program}{h:AH}{r:Res}{K':AV->AH->Prop}(d:∀v a,K v a->K' v a)(c:bm P h r K):bm P h r K':=by
 cases r with
 |ok v a=>exact d _ _ c
 |len n v a=>exact λg=>d _ _ (c g)
 |call f args=>exact Spec.mono c d
 |round id args=>exact ez.mono c d
 |any S=>exact λv a e=>d _ _ (c v a e)
 |fail=>exact c
theorem oR{P:Program}{a:Array Oper}{Q Q':List AV->AH->Prop}(c:∀e h,Q e h->Q' e h):∀(rest:List Oper)(env:List AV) (h:AH),zx P a Q rest env h->zx P a Q' rest env h
 |[],_,_,hk=>c _ _ hk
 |o::rest,_,_,⟨env,h,hs,hk⟩=>by
  refine⟨env,h,hs,?_⟩;cases hb:aG a o env with
  |none=>rw[hb]at hk;exact hk
  |some b =>
   rw[hb]at hk;cases b with
   |true=>exact hk.imp (zfn λv g=>oR c rest _ _) λ⟨l,f,d⟩=>⟨l,f,λp hi=>oR c rest _ _ (d p hi)⟩
   |false=>exact oR c rest _ _ hk
theorem zb2{P:Program}{a:Array Oper}{Ns:List Nat}{F:Nat->AH->Prop}{Q Q':List AV->AH->Prop}(c:∀e h,Q e h->Q' e h):∀(rest:List Oper)(i:Nat) (env:List AV) (h:AH),zI P a Ns F Q i rest env h->zI P a Ns F Q' i rest env h
 |[],_,_,_,hk=>c _ _ hk
 |_::rest,i,_,_,⟨v,h',h1,h2,h4,h3⟩=>⟨v,h',h1,h2,h4,zb2 c rest (i+1) _ _ h3⟩
theorem oT{P:Program}{d:Array Oper}{Q Q':List AV->AH->Prop}(f:∀e h,Q e h->Q' e h):∀(m:Nat)(a:Array Bool) (env:List AV) (h:AH),qR P d Q m a env h->qR P d Q' m a env h
 |0,_,_,_,c=>⟨c.1,f _ _ c.2⟩
 |m+1,a,env,h,c=>by
  refine⟨λe=>f _ _ (c.1 e),λi hi o j=>?_⟩;have c:=c.2 i hi o j;cases hb:aG d o env with
  |none=>rw[hb]at c;exact c
  |some b =>
   rw[hb]at c;cases b with
   |true=>exact c.imp (zfn λv n=>oT f m _ _ _) λ⟨l,k,g⟩=>⟨l,k,λp hi=>oT f m _ _ _ (g p hi)⟩
   |false=>exact oT f m _ _ _ c
theorem vJ{P:Program}:∀{Q Q':Exit->List AV->AH->Prop}(_:∀x e h,Q x e h->Q' x e h) (c:Code) (env:List AV) (h:AH),vi P c Q env h->vi P c Q' env h
 |_,_,hq,.skip,_,_,hk=>hq _ _ _ hk
 |_,_,hq,.label _,_,_,hk=>hq _ _ _ hk
 |_,_,hq,.exit _,_,_,hk=>hq _ _ _ hk
 |_,_,hq,.ret,_,_,hk=>hq _ _ _ hk
 |_,_,hq,.region _ _ true,_,_,.inl ⟨Ns,F,j,k,d⟩=>.inl ⟨Ns,F,j,k,zb2 (hq .normal) _ _ _ _ d⟩
 |_,_,hq,.region _ _ true,_,_,.inr ⟨j,d⟩=>.inr ⟨j,oT (hq .normal) _ _ _ _ d⟩
 |_,_,hq,.region _ _ false,_,_,hk=>oR (hq .normal) _ _ _ hk
 |_,_,hq,.seq a b,_,_,hk=>vJ (λx i m j=>by
   cases x with
   |normal=>obtain⟨u,d,k,l⟩:=j;exact⟨u,d,k,vJ hq b _ _ l⟩
   |_=>exact hq _ _ _ j) a _ _ hk
 |_,_,hq,.cond c t e,env,_,⟨j,d⟩=>by
  refine⟨j,?_⟩;cases hc:ev env c with
  |bool b =>
   rw[hc]at d;cases b with
   |true=>exact vJ hq t _ _ d
   |false=>exact vJ hq e _ _ d
  |_=>rw[hc]at d;exact d
 |_,_,hq,.block id body,_,_,hk=>vJ (λx i m j=>by
   cases x with
   |exit id' =>
    grind
   |_=>exact hq _ _ _ j) body _ _ hk
 |_,_,hq,.loop body,_,_,⟨I,j,d⟩=>⟨I,j,λn env h v=>vJ (λx i m k=>by
   cases x with
   |normal=>exact k
   |_=>exact hq _ _ _ k) body _ _ (d n env h v)⟩
 |_,_,hq,.rangeFunc f ps assign body,env,h,⟨j,d,k,env2,h5,hwk,l⟩=>by
  refine⟨j,d,k,env2,h5,hwk,?_⟩;split at l
  ·rename_i g first o y
   refine l.mono λr m ⟨st,p,i,q,w,s,k1,k2,k3⟩=>⟨st,p,i,q,w,s,k1,k2,?_⟩
   split at k3
   ·simp_all
   ·simp_all
   ·simp_all
   ·exact k3
  ·exact l
 |_,_,_,.scope _,_,_,hk=>hk.elim
 |_,_,_,.goto _,_,_,hk=>hk.elim
 |_,_,_,.refuse _,_,_,hk=>hk.elim
theorem zgR{P:Program}{Q:Exit->List AV->AH->Prop}{env:List AV}{h:AH}{σ:Type}(E:σ->List AV)(H:σ->AH)(a:σ->Prop)(f:σ->Nat)(e:σ)(h0:wk h env h (E e) (H e))(hi:a e)
  (hs:∀s,a s->vi P body (sn (λc g=>∃d,a d/\f d<f s/\wk (H s) c g (E d) (H d)) Q) (E s) (H s)):vi P (.loop body) Q env h :=
 zij E H a f e h0 hi λs hi=>vJ (λx c g i=>by
  cases x with
  |normal=>obtain⟨d,k,j,l⟩:=i;exact⟨d,k,j,.inl l⟩
  |_=>exact i) _ _ _ (hs s hi)
end Go.Vv
