/- Weakest preconditions over abstract states; they are sound over the model's own. -/
import Derived.OrdersIn
import Derived.Test.YtonoilllklmacaaGreatVvRw
import Derived.CallsIn
import Derived.RangeFuncRecord
set_option linter.all false
namespace Go.Vv
open Go Go.RowKit Go.Lib
variable {o:Oper} {env:List AV} {h:AH} {K:AV->AH->Prop} {ops:Array Oper} {Q:List AV->AH->Prop} {rest:List Oper} {a:Act} {w:World} {next:Act->World->Prop}

class GOk (P:Program) (B:Nat) (w0:World):Prop where
 sh:w0.ShapedOpen P
 sz:w0.heap.size<=B
 lay:laid P w0
def Spec (P:Program) (f:FuncId) (args:List AV) (h:AH) (K:AV->AH->Prop):Prop :=
 (∀(vs:Array Value) (w:World),(callFunc f vs).run P w=.ok (.enter f vs) w) /\
 ∀(B:Nat) (w0:World) [GOk P B w0] (g:Gh) (w:World) (vs:Array Value),Rel B w0 g h w->VL g args vs.toList ->
  Calls P f vs w λe w'=>∃v r h' g',e=.returned v/\K r h'/\g.le g'/\Rel B w0 g' h' w'/\V g' r v

def SpecY (P:Program) (id:Nat) (args:List AV) (h:AH) (K:AV->AH->Prop):Prop :=
 ∀(B:Nat) (w0:World) [GOk P B w0] (g:Gh) (w:World) (vs:Array Value) (c:Nat),Rel B w0 g h w->VL g args vs.toList->g.σ[id]?=some c ->
  ∃fn tmps assign body,(Instr.yield c vs).run P w=.ok (.round c fn tmps assign body) w /\
   ∀n,RoundIn Fence.wide n P c fn tmps assign body w λe w'=>∃v r h' g',e=.returned v/\K r h'/\g.le g'/\Rel B w0 g' h' w'/\V g' r v

theorem Spec.mono {P:Program} {f:FuncId} {args:List AV} {h:AH} {K K':AV->AH->Prop} (s:Spec P f args h K) (d:∀r b,K r b->K' r b):Spec P f args h K' :=
 ⟨s.1,λB w0 _ g w vs r j=>(s.2 B w0 g w vs r j).mono λ_ _ ⟨v,x,b,g',e,c,i⟩=>⟨v,x,b,g',e,d _ _ c,i⟩⟩

theorem SpecY.mono {P:Program} {id:Nat} {args:List AV} {h:AH} {K K':AV->AH->Prop} (s:SpecY P id args h K) (f:∀r b,K r b->K' r b):SpecY P id args h K' :=
 λB w0 _ g w vs c r j hc=>by
  obtain ⟨fn,tmps,assign,body,e,d⟩:=s B w0 g w vs c r j hc;exact ⟨fn,tmps,assign,body,e,λn=>(d n).mono λ_ _ ⟨v,x,b,g',e,d,i⟩=>⟨v,x,b,g',e,f _ _ d,i⟩⟩

def aG (ops:Array Oper) (o:Oper) (env:List AV):Option Bool :=
 match o.guard with
 | none=>some true
 | some (j,want)=>match (ops[j]?).bind (·.dst) with
  | none=>some false
  | some d=>match env[d]? with
   | none=>some false
   | some (.bool b)=>some (b==want)
   | some (.tup [])=>some false
   | some _=>none

def rwp (P:Program) (h:AH) (r:Res) (K:AV->AH->Prop):Prop :=
 match r with
 | .ok v h'=>K v h'
 | .len n v h'=>n<=maxLen->K v h'
 | .call f args=>Spec P f args h K
 | .round id args=>SpecY P id args h K
 | .any S=>∀v h',S v h'->K v h'
 | .fail=>False
def gwp (b:Option Bool) (act:(AV->AH->Prop)->Prop) (h:AH) (K:AV->AH->Prop):Prop :=
 match b with
 | some true=>act K
 | some false=>K aundef h
 | none=>False
def swk (env:List AV) (h:AH) (env':List AV) (h':AH):Prop:=∀(B:Nat) (w0 w:World) (g:Gh) (vs:List Value),Rel B w0 g h w->VL g env vs->∃g',g.le g'/\Rel B w0 g' h' w/\VL g' env' vs
theorem swk.refl (env:List AV) (h:AH):swk env h env h:=λ_ _ _ g _ r b=>⟨g,Gh.le.refl g,r,b⟩
theorem swk.trans {env c d:List AV} {h j i:AH} (a:swk env h c j) (b:swk c j d i):swk env h d i:=λB w0 w g vs r s=>by
 obtain ⟨p,k,l,e⟩:=a B w0 w g vs r s;obtain ⟨m,k2,q,f⟩:=b B w0 w p vs l e;exact ⟨m,k.trans k2,q,f⟩
def bwp (P:Program) (o:Oper) (env:List AV) (h:AH) (K:AV->AH->Prop):Prop:=(∃l,wd P o env h=some l/\∀p ∈ l,K p.1 p.2) \/ ∃k ys,anew P o env=some (k,ys)/\K (.nsl k ys) h
theorem bwp_mono {P:Program} {K':AV->AH->Prop} (b:∀v c,K v c->K' v c):bwp P o env h K->bwp P o env h K'
 | .inl ⟨l,hl,hp⟩=>.inl ⟨l,hl,λp hi=>b _ _ (hp p hi)⟩
 | .inr ⟨k,ys,hn,hp⟩=>.inr ⟨k,ys,hn,b _ _ hp⟩
def zS (P:Program) (ops:Array Oper) (Q:List AV->AH->Prop):List Oper->List AV->AH->Prop
 | [],env,h=>Q env h
 | o::rest,env,h=>∃env2 h2,swk env h env2 h2/\gwp (aG ops o env2) (λK=>rwp P h2 (zF P o env2 h2) K \/ bwp P o env2 h2 K) h2 λv h'=>zS P ops Q rest (setd env2 o.dst v) h'
theorem qT {P:Program} (c:gwp (aG ops o env) (rwp P h (zF P o env h)) h λv d=>zS P ops Q rest (setd env o.dst v) d) :
  zS P ops Q (o::rest) env h:=⟨env,h,swk.refl _ _,by
   cases hb:aG ops o env with
   | none=>rw [hb] at c;exact c
   | some b =>
    rw [hb] at c;cases b with
    | true=>exact .inl c
    | false=>exact c⟩
theorem awpOps_consB {P:Program} (c:aG ops o env=some true) (b:∃l,wd P o env h=some l/\∀p ∈ l,zS P ops Q rest (setd env o.dst p.1) p.2) :
  zS P ops Q (o::rest) env h:=⟨env,h,swk.refl _ _,by rw [c];exact .inr (.inl b)⟩
theorem awpOps_consN {P:Program} {k:Nat} {b:List (List AV)} (d:aG ops o env=some true) (e:anew P o env=some (k,b)) (c:zS P ops Q rest (setd env o.dst (.nsl k b)) h) :
  zS P ops Q (o::rest) env h:=⟨env,h,swk.refl _ _,by rw [d];exact .inr (.inr ⟨k,b,e,c⟩)⟩
theorem vr {P:Program} {b:List AV} {c:AH} (hs:swk env h b c) (e:zS P ops Q (o::rest) b c):zS P ops Q (o::rest) env h:=by
 obtain ⟨f,g,d,k2⟩:=e;exact ⟨f,g,hs.trans d,k2⟩

def isEff:Op->Bool
 | .move _ | .assign _ | .pick _ _ _ | .build _ _ | .nilCheck _ | .binOp _ _ _ _ _ | .unOp _ _ _ | .convert _ _ _ | .makeFunc _ _ _ | .slice _ _ _ _ _ | .fieldAddr _ _ _ | .field _ _ _ | .indexAddr _ _ _ | .index _ _ _ | .extract _ _
 | .load _ _ | .buildSlice _ _ _ | .makeInterface _ _ | .typeAssert _ _ _ _=>false
 | .call { callee:=.builtin .len,.. }=>false
 | _=>true
def isRd:Op->Bool
 | .load _ _=>true
 | _=>false
def effN (Ns:List Nat) (i:Nat) (op:Op):Bool:=isEff op&&!Ns.contains i
def cmpb (b:Array Nat) (i j:Nat):Bool:=(b.getD j 0).testBit i || (b.getD i 0).testBit j
def drawOk (ops:Array Oper) (Ns:List Nat):Bool :=
 let b:=Region.before ops
 (ops.toList.zipIdx.all λ(o,i)=>o.after.all (λe=>!Region.binds .any e || decide (e.on < i)) &&
  ops.toList.zipIdx.all λ(o',j)=>i==j || cmpb b i j ||
   ((match o.dst with
    | some d=>!(o'.looksAt ops).contains d&&o'.dst != some d
    | none=>true)&&!(effN Ns i o.op&&effN Ns j o'.op)))
def anch (ops:Array Oper) (Ns:List Nat) (i:Nat):Bool :=
 let b:=Region.before ops
 ops.toList.zipIdx.all λ(o,j)=>i==j || !isRd o.op || Ns.contains j || cmpb b i j
def AR (P:Program) (ops:Array Oper) (o:Oper) (env:List AV) (h:AH) (v:AV) (h':AH):Prop :=
 match aG ops o env with
 | some true=>match zF P o env h with
  | .ok v1 h1=>v=v1/\h'=h1
  | .len _ v1 h1=>v=v1/\h'=h1
  | .call f args=>Spec P f args h λr h1=>r=v/\h1=h'
  | .round id args=>SpecY P id args h λr h1=>r=v/\h1=h'
  | .any _=>False
  | .fail=>False
 | some false=>v=aundef/\h'=h
 | none=>False
def FOk (b:Nat) (Ns:List Nat) (F:Nat->AH->Prop) (h:AH):Prop:=∀n,Ns.contains n=true->b.testBit n=false->F n h
def ARN (P:Program) (ops:Array Oper) (Ns:List Nat) (F:Nat->AH->Prop) (i:Nat) (o:Oper) (env:List AV) (h:AH) (v:AV) (h':AH):Prop :=
 (Ns.contains i=false/\AR P ops o env h v h') \/
 (Ns.contains i=true/\aG ops o env=some true/\h'=h /\
  ((∃f args,(∀h2,zF P o env h2=.call f args)/\∀h2,F i h2->Spec P f args h2 λr hh=>r=v/\hh=h2) \/ ∀h2,F i h2->zF P o env h2=.ok v h2)) \/
 (Ns.contains i=false/\bdraw o.op=true/\aG ops o env=some true/\wd P o env h=some [(v,h')]) \/
 (Ns.contains i=true/\aG ops o env=some false/\v=aundef/\h'=h)
def yd (P:Program) (ops:Array Oper) (Ns:List Nat) (F:Nat->AH->Prop) (Q:List AV->AH->Prop):Nat->List Oper->List AV->AH->Prop
 | _,[],env,h=>Q env h
 | i,o::rest,env,h=>∃v h',ARN P ops Ns F i o env h v h'/\(anch ops Ns i=true \/ h'.blks=h.blks)/\(h'=h \/ FOk ((Region.before ops).getD i 0) Ns F h')/\yd P ops Ns F Q (i+1) rest (setd env o.dst v) h'

def awpAny (P:Program) (ops:Array Oper) (Q:List AV->AH->Prop):Nat->Array Bool->List AV->AH->Prop
 | 0,listed,env,h=>Region.ready .any ops listed=[]/\Q env h
 | m+1,listed,env,h=>(Region.ready .any ops listed=[]->Q env h)/\∀i ∈ Region.ready .any ops listed,∀o,ops[i]?=some o ->
   gwp (aG ops o env) (λK=>rwp P h (zF P o env h) K \/ bwp P o env h K) h λv h'=>awpAny P ops Q m (listed.setIfInBounds i true) (setd env o.dst v) h'

def wk (hd:AH) (env:List AV) (h:AH) (env':List AV) (h':AH):Prop:=∀(B:Nat) (w0 w w1:World) (g1 g:Gh) (vs:List Value),Rel B w0 g1 hd w1 ->
 g1.le g->Rel B w0 g h w->VL g env vs->∃g',g1.le g'/\Rel B w0 g' h' w/\VL g' env' vs/\∀c,c ∈ g.δ->c ∈ g'.δ

def noRF:Code->Bool
 | .seq a b=>noRF a&&noRF b
 | .cond _ a b=>noRF a&&noRF b
 | .block _ a=>noRF a
 | .loop a=>noRF a
 | .rangeFunc _ _ _ _=>false
 | _=>true

def vN (P:Program):Code->(Exit->List AV->AH->Prop)->List AV->AH->Prop
 | .skip,Q,env,h=>Q .normal env h
 | .label _,Q,env,h=>Q .normal env h
 | .region _ ops draw,Q,env,h=>match draw with
  | true=>(∃Ns F,(P.follows .mixedOrders=true/\drawOk ops Ns=true)/\(∀n,F n h)/\yd P ops Ns F (Q .normal) 0 ops.toList env h) \/
    (P.follows .mixedOrders=true/\awpAny P ops (Q .normal) ops.size (Array.replicate ops.size false) env h)
  | false=>zS P ops (Q .normal) ops.toList env h
 | .seq a b,Q,env,h=>vN P a (λx env' h'=>match x with
  | .normal=>∃env2 h2,wk h env' h' env2 h2/\vN P b Q env2 h2
  | x=>Q x env' h') env h
 | .cond c t e,Q,env,h=>yv c=true/\match ev env c with
  | .bool b=>if b then vN P t Q env h else vN P e Q env h
  | _=>False
 | .block id body,Q,env,h=>vN P body (λx env h=>match x with
  | .exit id'=>if id'=id then Q .normal env h else Q (.exit id') env h
  | x=>Q x env h) env h
 | .loop body,Q,env,h=>∃I:Nat->List AV->AH->Prop,(∃n env2 h2,wk h env h env2 h2/\I n env2 h2)/\∀n env1 h1,I n env1 h1->vN P body (λx env' h'=>match x with
  | .normal=>∃m env2 h2,m < n/\(wk h1 env' h' env2 h2 \/ wk h env' h' env2 h2)/\I m env2 h2
  | x=>Q x env' h') env1 h1
 | .exit id,Q,env,h=>Q (.exit id) env h
 | .ret,Q,env,h=>Q .ret env h
 | .rangeFunc f ps assign body,Q,env,h=>yv f=true/\noRF assign=true/\noRF body=true/\∃env2 h2,wk h env h env2 h2/\match ev env2 f with
  | .fn (.func f) first caps=>Spec P f (first++[.yld h2.blks.length]++caps) (h2.new (.loop .ready none env2 ps assign body)) λ_ h'=>∃st pe env' ps' a' b',h'.blk h2.blks.length=some (.loop st pe env' ps' a' b')/\st ≠ .busy/\match pe with
   | none=>Q .normal env2 (h'.put h2.blks.length .dead)
   | some .ret=>Q .ret env2 (h'.put h2.blks.length .dead)
   | some (.exit i)=>Q (.exit i) env2 (h'.put h2.blks.length .dead)
   | _=>False
  | _=>False
 | _,_,_,_=>False

def WF (ro:Option Nat):Fence:={ Fence.wide with round:=ro }

section
variable {P:Program} {B:Nat} {w0:World} {g0:Gh} {D:List Deferred} {ro:Option Nat} {n:Nat} [GOk P B w0]

def St (B:Nat) (w0:World) (g0:Gh) (D:List Deferred) (env:List AV) (h:AH) (a:Act) (w:World):Prop:=∃g,g0.le g/\Rel B w0 g h w/\VL g env a.tmps.toList/\a.defers=D

theorem VL.setd {g:Gh} {env:List AV} {a:Act} (b:VL g env a.tmps.toList) (d:Option Tmp) {v:AV} {u:Value} (c:V g v u):VL g (setd env d v) (a.put d u).tmps.toList:=by
 cases d with
 | none=>exact b
 | some d=>simp only [Vv.setd,Act.put,pj];exact VL.set b d v u c
theorem wZ (a:Act) (d:Option Tmp) (u:Value):(a.put d u).defers=a.defers:=by cases d <;> rfl

theorem vL {g:Gh} (k:VL g env a.tmps.toList) {b:Bool} (c:aG ops o env=some b):Region.wanted o (yielded ops a.tmps)=b:=by
 unfold aG at c;split at c
 ·rename_i l;cases c;simp [Region.wanted,l]
 ·rename_i j e l;have p:Region.wanted o (yielded ops a.tmps)=(yielded ops a.tmps j==some e):=by simp [Region.wanted,l]
  rw [p];split at c
  ·rename_i hd;cases c;simp [yielded,hd]
  ·rename_i d hd;unfold yielded;rw [hd,ua];split at c
   ·rename_i i;cases c;have:a.tmps[d]?=none:=by
     have m:env.length<=d:=by simp_all
     rw [pJ];rw [k.length] at m;simpa using m
    simp [this]
   ·rename_i r i;cases c;obtain ⟨u,q,f⟩:=k.get _ _ i;simp only [V] at f;subst f
    simp_all
   ·rename_i i;cases c;obtain ⟨u,q,f⟩:=k.get _ _ i;simp only [V] at f
    grind
   ·cases c

theorem not_defer (b:zF P o env h ≠ .fail):∀c,o.op ≠ .defer c:=by
 intro c hc;exact b (by simp only [zF,hc])

theorem callsIn_of {f:FuncId} {args:Array Value} {R:Ending->World->Prop} (h:Calls P f args w R):CallsIn (WF ro) n P f args w R:=callsIn_wide (n:=n).2 h

theorem step_sound {Q:Exit->Act->World->Prop}
  (hs:St B w0 g0 D env h a w) (j:rwp P h (zF P o env h) K)
  (y:∀v i u w',K v i->(∃g',g0.le g'/\Rel B w0 g' i w'/\VL g' env a.tmps.toList/\V g' v u)->next (a.put o.dst u) w'):o.wpIn (WF ro) n P a w next Q:=by
 obtain ⟨g,t,r,s,H⟩:=hs;have hfit:=astep_fits (P:=P) r s o;have z:∀c,o.op ≠ .defer c:=by
  refine not_defer (P:=P) (env:=env) (h:=h) λe=>?_;rw [e] at j;exact j
 refine ⟨λ_ _=>trivial,?_⟩;rw [Oper.semAt_eq (WF ro).round a.eval o z];have ok:∀v i,qi P B w0 g a o w v i->K v i->o.uponIn (WF ro) n P a next Q ((execOp a.eval o).run P w):=by
  rintro v i ⟨u,w',g',b,d,l,q⟩ p
  rcases b with b | ⟨b,rfl⟩
  ·rw [b,Oper.uponIn_value];exact y v i u w' p ⟨g',t.trans d,l,s.mono d,q⟩
  ·rw [b,Oper.uponIn_skip];exact y v i undef w' p ⟨g',t.trans d,l,s.mono d,q⟩
 cases hst:zF P o env h with
 | ok v i=>rw [hst] at hfit j;exact ok v i hfit j
 | len m v i=>rw [hst] at hfit j;exact ok v i hfit.2 (j hfit.1)
 | call f args =>
  rw [hst] at hfit j;obtain ⟨vs,b,k⟩:=hfit;rw [b,j.1 vs w,Oper.uponIn_enter];refine ⟨λh=>by simp [WF,Fence.wide] at h,callsIn_of ((j.2 B w0 g w vs r k).mono ?_)⟩
  rintro e w' ⟨v,x,i,g',rfl,p,d,l,q⟩
  exact y x i v w' p ⟨g',t.trans d,l,s.mono d,q⟩
 | round id args =>
  rw [hst] at hfit j;obtain ⟨c,vs,hc,b,k⟩:=hfit;obtain ⟨fn,tmps,assign,body,C,E⟩:=j B w0 g w vs c r k hc;rw [b,C,Oper.uponIn_round];refine ⟨λh=>by simp [WF,Fence.wide] at h,RoundIn.mono (F:=WF ro) (E _) ?_⟩
  rintro e w' ⟨v,x,i,g',rfl,p,d,l,q⟩
  exact y x i v w' p ⟨g',t.trans d,l,s.mono d,q⟩
 | any S =>
  rw [hst] at hfit j;obtain ⟨v,i,G,A⟩:=hfit;exact ok v i A (j v i G)
 | fail=>rw [hst] at j;exact j.elim

omit [GOk P B w0] in
theorem bstep_sound {Q:Exit->Act->World->Prop}
  (hs:St B w0 g0 D env h a w) (y:bwp P o env h K)
  (t:∀v x u w',K v x->(∃g',g0.le g'/\Rel B w0 g' x w'/\VL g' env a.tmps.toList/\V g' v u)->next (a.put o.dst u) w'):o.wpIn (WF ro) n P a w next Q:=by
 obtain ⟨g,s,r,f,z⟩:=hs;rcases y with ⟨l,m,j⟩ | ⟨A,C,m,j⟩
 ·have e:∀c,o.op ≠ .defer c:=λc hc=>by simp [wd,hc] at m
  obtain ⟨p,k,u,w',g',b,d,i,q⟩:=bfits r f m;refine ⟨λ_ _=>trivial,?_⟩;rw [Oper.semAt_eq (WF ro).round a.eval o e];rcases b with b | ⟨b,rfl⟩
  ·rw [b,Oper.uponIn_value];exact t _ _ u w' (j p k) ⟨g',s.trans d,i,f.mono d,q⟩
  ·rw [b,Oper.uponIn_skip];exact t _ _ undef w' (j p k) ⟨g',s.trans d,i,f.mono d,q⟩
 ·have e:∀c,o.op ≠ .defer c:=λc hc=>by simp [anew,hc] at m
  obtain ⟨u,w',g',b,d,i,q⟩:=new_fits r f m;refine ⟨λ_ _=>trivial,?_⟩;rw [Oper.semAt_eq (WF ro).round a.eval o e];rcases b with b | ⟨b,rfl⟩
  ·rw [b,Oper.uponIn_value];exact t _ _ u w' j ⟨g',s.trans d,i,f.mono d,q⟩
  ·rw [b,Oper.uponIn_skip];exact t _ _ undef w' j ⟨g',s.trans d,i,f.mono d,q⟩

theorem ops_sound {ops:Array Oper} {Q:Exit->Act->World->Prop} {QA:List AV->AH->Prop} (l:∀env h a w,QA env h->St B w0 g0 D env h a w->Q .normal a w) :
  ∀(rest:List Oper) (k:Nat) (env:List AV) (h:AH) (a:Act) (w:World),ops.toList.drop k=rest->zS P ops QA rest env h->St B w0 g0 D env h a w->wpOpsIn (WF ro) n P ops Q (List.range' k rest.length) a w
 | [],k,env,h,a,w,_,c,hs=>l env h a w c hs
 | o::rest,k,env,h,a,w,hd,c,hs=>by
  have G:ops[k]?=some o:=by
   rw [<- uF];have:=congrArg (·[0]?) hd
   grind
  have f:ops.toList.drop (k+1)=rest:=by
   rw [<- tn,hd];rfl
  simp only [ux,List.range'_succ,wpOpsIn,G];obtain ⟨env,h,q,c⟩:=c;obtain ⟨y,s,C,j,m⟩:=hs;obtain ⟨g,p,r,t⟩:=q _ _ _ _ _ C j;have x:=s.trans p;have hs:St B w0 g0 D env h a w:=⟨g,x,r,t,m⟩
  cases hb:aG ops o env with
  | none=>rw [hb] at c;exact c.elim
  | some b =>
   have d:=vL t hb;rw [hb] at c;rw [d];cases b with
   | true =>
    simp only [gwp] at c;simp only [ut];have e:∀v i u w',zS P ops QA rest (setd env o.dst v) i->(∃g',g0.le g'/\Rel B w0 g' i w'/\VL g' env a.tmps.toList/\V g' v u)->wpOpsIn (WF ro) n P ops Q (List.range' (k+1) rest.length) (a.put o.dst u) w':=λv i u w' E ⟨g',F,z,H,A⟩ =>
     ops_sound l rest (k+1) _ i _ w' f E ⟨g',F,z,H.setd o.dst A,by rw [wZ];exact m⟩
    rcases c with c | c
    ·exact step_sound hs c e
    ·exact bstep_sound hs c e
   | false =>
    simp only [gwp] at c;simp only [um,uJ];exact ⟨λ_ _=>trivial,ops_sound l rest (k+1) _ h _ w f c ⟨g,x,r,t.setd o.dst V.ofUndef,by rw [wZ];exact m⟩⟩

theorem any_sound {ops:Array Oper} {Q:Exit->Act->World->Prop} {QA:List AV->AH->Prop} (k:∀env h a w,QA env h->St B w0 g0 D env h a w->Q .normal a w) :
  ∀(m:Nat) (c:Array Bool) (env:List AV) (h:AH) (a:Act) (w:World),awpAny P ops QA m c env h->St B w0 g0 D env h a w->wpAnyIn (WF ro) n P .any ops Q m c a w
 | 0,c,env,h,a,w,d,hs=>⟨d.1,k env h a w d.2 hs⟩
 | m+1,c,env,h,a,w,d,hs=>by
  refine ⟨λe=>k env h a w (d.1 e) hs,λi hi=>?_⟩;unfold wpOpIn;cases ho:ops[i]? with
  | none =>
   exfalso;unfold Region.ready at hi
   simp_all
  | some o =>
   have d:=d.2 i hi o ho;simp only;obtain ⟨g,s,r,q,p⟩:=hs;have hs:St B w0 g0 D env h a w:=⟨g,s,r,q,p⟩
   cases hb:aG ops o env with
   | none=>rw [hb] at d;exact d.elim
   | some b =>
    have f:=vL q hb;rw [hb] at d;rw [f];cases b with
    | true =>
     simp only [gwp] at d;simp only [ut];have j:∀v l u w',awpAny P ops QA m (c.setIfInBounds i true) (setd env o.dst v) l->(∃g',g0.le g'/\Rel B w0 g' l w'/\VL g' env a.tmps.toList/\V g' v u)->wpAnyIn (WF ro) n P .any ops Q m (c.setIfInBounds i true) (a.put o.dst u) w':=λv l u w' y ⟨g',z,t,A,x⟩ =>
      any_sound k m _ _ l _ w' y ⟨g',z,t,A.setd o.dst x,by rw [wZ];exact p⟩
     rcases d with d | d
     ·exact step_sound hs d j
     ·exact bstep_sound hs d j
    | false =>
     simp only [gwp] at d;simp only [um,uJ];exact ⟨λ_ _=>trivial,any_sound k m _ _ h _ w d ⟨g,s,r,q.setd o.dst V.ofUndef,by rw [wZ];exact p⟩⟩
end
end Go.Vv
namespace Go.Vv
open Go Go.RowKit Go.Lib
variable {ops:Array Oper} {o:Oper} {env env':List AV} {P:Program} {h:AH}

def befF (acc:Array Nat) (o:Oper):Array Nat:=acc.push (o.after.foldl (λs e=>if Region.binds .any e then s ||| 2 ^ e.on ||| acc.getD e.on 0 else s) 0)
theorem before_eq (ops:Array Oper):Region.before ops=ops.toList.foldl befF #[]:=by
 unfold Region.before;rw [<- pk];rfl
theorem bef_size:∀(l:List Oper) (acc:Array Nat),(l.foldl befF acc).size=acc.size+l.length
 | [],acc=>by simp
 | o::r,acc=>by simp only [tU,bef_size r,befF,Array.size_push,ux];omega
theorem bef_keep:∀(l:List Oper) (acc:Array Nat) (j:Nat),j < acc.size->(l.foldl befF acc).getD j 0=acc.getD j 0
 | [],acc,j,_=>rfl
 | o::r,acc,j,h=>by
  simp only [tU];rw [bef_keep r _ j (by simp [befF];omega)];simp [befF,tA,r8,Nat.ne_of_lt h]
theorem edges_bit (acc:Array Nat) (w:Nat):∀(es:List Edge) (s:Nat),(es.foldl (λs e=>if Region.binds .any e then s ||| 2 ^ e.on ||| acc.getD e.on 0 else s) s).testBit w=true ->
  s.testBit w=true \/ ∃e ∈ es,Region.binds .any e=true/\(e.on=w \/ (acc.getD e.on 0).testBit w=true)
 | [],s,h=>.inl h
 | e::r,s,h=>by
  simp only [tU] at h;rcases edges_bit acc w r _ h with h | ⟨b,a,c,hh⟩
  ·grind
  ·grind
theorem before_spec {i w:Nat} (hi:ops[i]?=some o) (h:((Region.before ops).getD i 0).testBit w=true) :
  ∃e ∈ o.after,Region.binds .any e=true/\(e.on=w \/ (e.on < i/\((Region.before ops).getD e.on 0).testBit w=true)):=by
 have k:ops.toList[i]?=some o:=by simp_all
 obtain ⟨c,_⟩:=uc.1 k;have a:ops.toList=ops.toList.take i++o::ops.toList.drop (i+1):=by
  have:=sV c
  simp_all
 generalize hA:(ops.toList.take i).foldl befF #[]=acc;have b:acc.size=i:=by rw [<- hA,bef_size];simp at c ⊢;omega
 have j:Region.before ops=(ops.toList.drop (i+1)).foldl befF (befF acc o):=by
  rw [before_eq]
  conv=>lhs;rw [a]
  grind
 have f:(Region.before ops).getD i 0=o.after.foldl (λs e=>if Region.binds .any e then s ||| 2 ^ e.on ||| acc.getD e.on 0 else s) 0:=by
  rw [j,bef_keep _ _ _ (by simp [befF,b])];subst b;simp [befF,tA]
 rw [f,<- pk] at h;rcases edges_bit acc w o.after.toList 0 h with h | ⟨e,l,g,hh⟩
 ·grind
 ·refine ⟨e,by grind,g,hh.imp id λhh=>?_⟩;have d:e.on < i:=by
   grind
  refine ⟨d,?_⟩;rw [j,bef_keep _ _ _ (by simp [befF,b];omega)];have:(befF acc o).getD e.on 0=acc.getD e.on 0:=by simp [befF,tA,r8,b,Nat.ne_of_lt d]
  grind

theorem ev_congr {x:Operand} (h:∀t,x=.tmp t->env[t]?=env'[t]?):ev env x=ev env' x:=by
 cases x with
 | tmp t=>simp only [ev,tI,h t rfl]
 | _=>rfl
theorem looks_op {t:Tmp} (h:Operand.tmp t ∈ o.op.operands):t ∈ o.looksAt ops:=by
 unfold Oper.looksAt;refine uG.2 (.inl (List.mem_filterMap.2 ⟨.tmp t,by simpa using h,rfl⟩))
theorem looks_guard {j:Nat} {b:Bool} {d:Tmp} (a:o.guard=some (j,b)) (hd:(ops[j]?).bind (·.dst)=some d):d ∈ o.looksAt ops:=by
 unfold Oper.looksAt
 simp_all
theorem aG_congr (h:∀t ∈ o.looksAt ops,env[t]?=env'[t]?):aG ops o env=aG ops o env':=by
 unfold aG;split
 ·rfl
 ·rename_i j a b;split
  ·rfl
  ·rename_i d hd;rw [h d (looks_guard b hd)]

theorem aParts_congr {d:TypeDesc} {parts:Array (Nat×Operand)} (h:∀p ∈ parts.toList,ev env p.2=ev env' p.2):xA P d env parts=xA P d env' parts:=by
 unfold xA;exact sO λp a=>by rw [h p a]

theorem astep_congr (e:∀x ∈ o.op.operands,ev env x=ev env' x):zF P o env h=zF P o env' h:=by
 unfold zF;cases ho:o.op <;> rw [ho] at e <;> simp only [Op.operands] at e ⊢
 case move x=>rw [e x (by simp)]
 case assign x=>rw [e x (by simp)]
 case pick c a b=>rw [e c (by simp),e a (by simp),e b (by simp)]
 case box t x=>rw [e x (by simp)]
 case build t parts =>
  have g:∀d,xA P d env parts=xA P d env' parts:=λd=>aParts_congr λp g=>e p.2 (by grind)
  simp_all
 case buildSlice t n parts =>
  have g:∀d,xA P d env parts=xA P d env' parts:=λd=>aParts_congr λp g=>e p.2 (by grind)
  simp_all
 case load t x=>rw [e x (by simp)]
 case store t x y=>rw [e x (by simp),e y (by simp)]
 case nilCheck x=>rw [e x (by simp)]
 case binOp op t x y yt=>rw [e x (by simp),e y (by simp)]
 case unOp op t x=>rw [e x (by simp)]
 case convert s t x=>rw [e x (by simp)]
 case makeFunc f a b =>
  have k:a.toList.map (ev env)=a.toList.map (ev env'):=sO λx l=>e x (by simp_all);have j:b.toList.map (ev env)=b.toList.map (ev env'):=sO λx l=>e x (by simp_all)
  grind
 case slice t x lo hi mx =>
  have k:lo.map (ev env)=lo.map (ev env'):=by cases lo with | none=>rfl | some y=>simp [e y (by simp)]
  have j:hi.map (ev env)=hi.map (ev env'):=by cases hi with | none=>rfl | some y=>simp [e y (by simp)]
  have q:mx.map (ev env)=mx.map (ev env'):=by cases mx with | none=>rfl | some y=>simp [e y (by simp)]
  simp_all
 case fieldAddr t x f=>rw [e x (by simp)]
 case field t x f=>rw [e x (by simp)]
 case indexAddr t x i=>rw [e x (by simp),e i (by simp)]
 case index t x i=>rw [e x (by simp),e i (by simp)]
 case extract x i=>rw [e x (by simp)]
 case range t x=>rw [e x (by simp)]
 case next x s=>rw [e x (by simp)]
 case lookup t x i ok=>rw [e x (by simp),e i (by simp)]
 case mapEntry t x i=>rw [e x (by simp),e i (by simp)]
 case entryStore t x i y=>rw [e x (by simp),e i (by simp),e y (by simp)]
 case mapUpdate t x i y=>rw [e x (by simp),e i (by simp),e y (by simp)]
 case makeMap t r=>cases r <;> rfl
 case call c =>
  have k:c.args.toList.map (ev env)=c.args.toList.map (ev env'):=sO λx l=>e x (by simp [Call.operands];exact .inr (by simp_all));have j:(c.args.toList.zip c.argTypes.toList).map (λp=>tyfix P p.2 (ev env p.1))=(c.args.toList.zip c.argTypes.toList).map (λp=>tyfix P p.2 (ev env' p.1)) :=
   sO λp g=>by rw [e p.1 (by simp [Call.operands];exact .inr (by simpa using (List.of_mem_zip g).1))]
  rw [k,j];split
  ·split
   ·rfl
   ·rename_i f hc;rw [e f (by simp [Call.operands,hc])]
   ·rename_i x m hc;rw [e x (by simp [Call.operands,hc])]
  ·rfl

theorem bstep_congr (a:∀x ∈ o.op.operands,ev env x=ev env' x):wd P o env h=wd P o env' h:=by
 unfold wd;cases ho:o.op <;> rw [ho] at a <;> simp only [Op.operands] at a ⊢
 case range t x=>rw [a x (by simp)]
 case next x s=>cases s <;> simp only;rw [a x (by simp)]
 case entry x=>rw [a x (by simp)]
 case buildSlice t n parts =>
  have b:∀d,xA P d env parts=xA P d env' parts:=λd=>aParts_congr λp b=>a p.2 (by grind)
  simp_all
 case convert s t x=>rw [a x (by simp)]
 case makeInterface t x=>rw [a x (by simp)]
 case typeAssert x u t ok=>rw [a x (by simp)]
 case slice t x lo hi mx =>
  split <;> first | rfl | skip
  all_goals (rename_i h0;try (cases h0))
  all_goals first
   | rfl
   | (rename_i y;rw [a x (by simp),a y (by simp)])
 case insert t m k x =>
  have:zF P { o with op:=.mapUpdate t m k x } env h=zF P { o with op:=.mapUpdate t m k x } env' h:=astep_congr λy e=>a y (by simpa [Op.operands] using e);rw [this]
 case call c =>
  have f:∀x ∈ c.args.toList,ev env x=ev env' x:=λx g=>a x (by simp [Call.operands];exact .inr (by simp_all));split
  ·simp_all
  ·simp_all
  ·simp_all
  ·simp_all
  ·simp_all
  ·rfl
theorem bstep_still {f:AH} {v:AV} (d:isEff o.op=false) (hd:bdraw o.op=true) (a:wd P o env h=some [(v,f)]):f=h/\∀e,wd P o env e=some [(v,e)]:=by
 unfold wd at a ⊢;cases ho:o.op <;> rw [ho] at d a hd <;> simp only [isEff,bdraw,reduceCtorEq] at d a hd ⊢
 case convert s t x =>
  by_cases b:yv x=true
  ·simp only [b,ut] at a ⊢;cases h1:convX P s t (ev env x) with
   | some l =>
    simp only [h1,ui,rZ,t6,tM] at a ⊢;obtain ⟨rfl,rfl⟩:=a;exact ⟨rfl,λ_=>rfl⟩
   | none =>
    simp only [h1] at a ⊢;cases e:convBy P s t (ev env x) with
    | some l =>
     simp only [e,ui,rZ,t6,tM] at a ⊢;obtain ⟨rfl,rfl⟩:=a;exact ⟨rfl,λ_=>rfl⟩
    | none=>simp only [e] at a;cases a
  ·simp only [b] at a;cases a
 case makeInterface t x =>
  grind
 case typeAssert x u t ok =>
  split at a
  ·rename_i b;split at a
   ·cases a
   ·split at a
    ·simp_all
    ·grind
   ·cases a
  ·cases a
 case call c =>
  grind
theorem aLoad_blks {a:AH} (b:a.blks=h.blks) (ag:Bool) (n:Nat) (p:AV):aLoad a ag n p=aLoad h ag n p:=by
 unfold aLoad AH.blk;rw [b]

theorem astep_still (d:isEff o.op=false) :
  (∃x:Option AV,∀a:AH,(isRd o.op=true->a.blks=h.blks)->zF P o env a=oo a x) \/ (∃n v,∀a:AH,zF P o env a=.len n v a) \/ (∀a:AH,(∃S,zF P o env a=.any S) \/ zF P o env a=.fail):=by
 cases ho:o.op <;> rw [ho] at d <;> simp only [isEff,reduceCtorEq] at d <;> simp only [zF,ho]
 case call c =>
  obtain ⟨callee,a5,ts⟩:=c;cases callee with
  | value f=>simp at d
  | invoke x m=>simp at d
  | builtin b =>
   cases b <;> simp only [reduceCtorEq] at d;simp only [aBuiltin];split
   ·split
    ·split
     ·split
      ·simp_all
      ·simp_all
     ·split
      ·simp_all
      ·simp_all
     ·grind
     ·simp_all
    ·simp_all
    ·simp_all
    ·simp_all
    ·simp_all
   ·simp_all
 case binOp op t x y u =>
  split
  ·cases hq:aNilq P op t h (ev env x) (ev env y) with
   | none =>
    have g:∀a,aNilq P op t a (ev env x) (ev env y)=none:=by
     intro a;unfold aNilq at hq ⊢;split at hq
     ·grind
     ·grind
     ·rfl
    exact .inl ⟨_,λa _=>by rw [g a]⟩
   | some S =>
    refine .inr (.inr λa=>?_);have:∃S',aNilq P op t a (ev env x) (ev env y)=some S':=by
     unfold aNilq at hq ⊢
     grind
    grind
  ·simp_all
 case load t x =>
  split
  ·exact .inl ⟨_,λa e=>by rw [aLoad_blks (e rfl)]⟩
  ·simp_all
 all_goals
  (repeat' split) <;> first
   | exact .inl ⟨none,λ_ _=>rfl⟩
   | exact .inl ⟨some _,λ_ _=>rfl⟩
   | exact .inl ⟨_,λ_ _=>rfl⟩
end Go.Vv
namespace Go.Vv
open Go Go.RowKit Go.Lib

def dstAt (ops:Array Oper) (k:Nat):Option Tmp:=(ops[k]?).bind (·.dst)
def wK (ops:Array Oper) (Ns:List Nat) (k:Nat):Bool:=match ops[k]? with | some o=>effN Ns k o.op | none=>false
def fE (ops:Array Oper) (vs:Nat->AV) (S:Nat->Bool) (env:List AV):Nat->List AV
 | 0=>env
 | k+1=>if S k then setd (fE ops vs S env k) (dstAt ops k) (vs k) else fE ops vs S env k
def fH (ops:Array Oper) (Ns:List Nat) (hs:Nat->AH) (S:Nat->Bool):Nat->AH
 | 0=>hs 0
 | k+1=>if S k&&wK ops Ns k then hs (k+1) else fH ops Ns hs S k

section
variable {ops:Array Oper} {Ns:List Nat} {vs:Nat->AV} {hs:Nat->AH} {env:List AV}

theorem setd_len (env:List AV) (d:Option Tmp) (v:AV):(setd env d v).length=env.length:=by cases d <;> simp [setd]
theorem fE_len (S:Nat->Bool):∀k,(fE ops vs S env k).length=env.length
 | 0=>rfl
 | k+1=>by
  simp only [fE];split
  ·rw [setd_len,fE_len S k]
  ·exact fE_len S k
theorem setd_get_ne {env:List AV} {d:Option Tmp} {v:AV} {t:Nat} (h:d ≠ some t):(setd env d v)[t]?=env[t]?:=by
 cases d with
 | none=>rfl
 | some d=>simp only [setd];exact uR (λe=>h (by rw [e]))
theorem fE_at {S T:Nat->Bool} {t:Nat}:∀k,(∀w,w < k->dstAt ops w=some t->S w=T w)->(fE ops vs S env k)[t]?=(fE ops vs T env k)[t]?
 | 0,_=>rfl
 | k+1,h=>by
  have c:=fE_at (S:=S) (T:=T) k λw b hd=>h w (by omega) hd;simp only [fE];by_cases hd:dstAt ops k=some t
  ·have a:=h k (by omega) hd;rw [a,hd];cases T k
   ·simp_all
   ·simp only [ut,setd,List.getElem?_set,fE_len]
  ·have e:(if S k then setd (fE ops vs S env k) (dstAt ops k) (vs k) else fE ops vs S env k)[t]?=(fE ops vs S env k)[t]?:=by
    split
    ·exact setd_get_ne hd
    ·rfl
   have d:(if T k then setd (fE ops vs T env k) (dstAt ops k) (vs k) else fE ops vs T env k)[t]?=(fE ops vs T env k)[t]?:=by
    split
    ·exact setd_get_ne hd
    ·rfl
   simp_all
theorem fE_eq {S T:Nat->Bool}:∀k,(∀w,w < k->S w=T w)->fE ops vs S env k=fE ops vs T env k
 | 0,_=>rfl
 | k+1,h=>by simp only [fE,h k (by omega),fE_eq k λw a=>h w (by omega)]
theorem fE_stop {S:Nat->Bool} {i:Nat} (h:∀w,i<=w->S w=false):∀m,fE ops vs S env (i+m)=fE ops vs S env i
 | 0=>rfl
 | m+1=>by rw [<- sZ];simp only [fE,h (i+m) (by omega),um,uJ];exact fE_stop h m
theorem fE_last {S:Nat->Bool} {i t n:Nat} (hi:S i=true) (hd:dstAt ops i=some t) (d:t < env.length) (b:i < n) (h:∀w,i < w->w < n->dstAt ops w=some t->S w=false) :
  (fE ops vs S env n)[t]?=some (vs i):=by
 obtain ⟨m,rfl⟩:∃m,n=i+1+m:=⟨n - (i+1),by omega⟩
 induction m with
 | zero =>
  simp only [fE,hi,ut,hd,setd];rw [uD (by rw [fE_len];exact d)]
 | succ m ih =>
  rw [<- sZ];simp only [fE];have a:=ih (by omega) λw c e=>h w c (by omega);split
  ·rename_i f;by_cases hd':dstAt ops (i+1+m)=some t
   ·grind
   ·rw [setd_get_ne hd'];exact a
  ·omega
theorem fH_eq {S T:Nat->Bool}:∀k,(∀e,e < k->wK ops Ns e=true->S e=T e)->fH ops Ns hs S k=fH ops Ns hs T k
 | 0,_=>rfl
 | k+1,h=>by
  simp only [fH,fH_eq k λe a=>h e (by omega)]
  grind
theorem fH_all {S:Nat->Bool} (b:∀k,wK ops Ns k=false->hs (k+1)=hs k):∀k,(∀e,e < k->wK ops Ns e=true->S e=true)->fH ops Ns hs S k=hs k
 | 0,_=>rfl
 | k+1,h=>by
  simp only [fH];cases a:wK ops Ns k with
  | true=>simp [h k (by omega) a]
  | false=>simp only [Bool.and_false,um,uJ,fH_all b k λe a=>h e (by omega)];exact (b k a).symm
theorem fH_stop {S:Nat->Bool} {i:Nat} (h:∀w,i<=w->wK ops Ns w=true->S w=false):∀m,fH ops Ns hs S (i+m)=fH ops Ns hs S i
 | 0=>rfl
 | m+1=>by
  rw [<- sZ];simp only [fH];rw [uM]
  ·exact fH_stop h m
  ·grind
theorem fH_blks {S T:Nat->Bool} (g:∀k,wK ops Ns k=false->hs (k+1)=hs k):∀k,
  (∀e,e < k->wK ops Ns e=true->S e ≠ T e->(hs (e+1)).blks=(hs e).blks) ->
  (∀e a,e < a->a < k->wK ops Ns e=true->wK ops Ns a=true->S a=true->S e=true)->(∀e a,e < a->a < k->wK ops Ns e=true->wK ops Ns a=true->T a=true->T e=true) ->
  (fH ops Ns hs S k).blks=(fH ops Ns hs T k).blks
 | 0,_,_,_=>rfl
 | k+1,h,pS,pT=>by
  have d:=fH_blks (S:=S) (T:=T) g k (λe c=>h e (by omega)) (λe a f i=>pS e a f (by omega)) (λe a f i=>pT e a f (by omega));simp only [fH];cases c:wK ops Ns k with
  | false=>simpa using d
  | true =>
   simp only [sA];cases hS:S k <;> cases hT:T k
   ·simp_all
   ·simp only [um,uJ,ut];rw [h k (by omega) c (by simp_all),d];rw [fH_all g k λe b hh=>pT e k b (by omega) hh c hT]
   ·simp only [um,uJ,ut];rw [h k (by omega) c (by simp_all),<- d];rw [fH_all g k λe b hh=>pS e k b (by omega) hh c hS]
   ·simp

theorem count_lt {p q:Nat->Bool}:∀(l:List Nat),(∀x ∈ l,p x=true->q x=true)->(∃x ∈ l,q x=true/\p x=false)->l.countP p < l.countP q
 | [],_,⟨x,a,_⟩=>by cases a
 | y::r,h,⟨x,a,hq,hp⟩=>by
  have b:r.countP p<=r.countP q:=List.countP_mono_left λz c=>h z (by simp [c]);simp only [List.countP_cons];rcases uP.1 a with rfl | a
  ·grind
  ·have d:=count_lt r (λz c=>h z (by simp [c])) ⟨x,a,hq,hp⟩
   grind
end
section
variable {P:Program} {B:Nat} {w0:World} {g0:Gh} {D:List Deferred} {ro:Option Nat} {n:Nat} {ops:Array Oper} {Ns:List Nat} {F:Nat->AH->Prop} [GOk P B w0]

theorem drawOk_edge (h:drawOk ops Ns=true) {i:Nat} {o:Oper} (hi:ops[i]?=some o):∀e ∈ o.after,Region.binds .any e=true->e.on < i:=by
 unfold drawOk at h;simp only [ur] at h;have hm:(o,i) ∈ ops.toList.zipIdx:=by grind
 have:=h (o,i) hm;simp only [ud] at this;intro e he hb;have h1:=se.1 this.1 e he
 simp_all
theorem before_lt (h:drawOk ops Ns=true):∀(i w:Nat),((Region.before ops).getD i 0).testBit w=true->w < i:=by
 intro i
 induction i using Nat.strongRecOn with
 | _ i ih =>
  intro w a;rcases hi:ops[i]? with _ | o
  ·have:(Region.before ops).getD i 0=0:=by
    rw [before_eq,tA,pJ]
    ·rfl
    rw [bef_size];simp at hi ⊢;exact hi
   simp_all
  ·obtain ⟨e,b,c,hh⟩:=before_spec hi a;have d:=drawOk_edge h hi e b c
   grind
theorem drawOk_pair (h:drawOk ops Ns=true) {i j:Nat} {o a:Oper} (hi:ops[i]?=some o) (f:ops[j]?=some a) (c:i ≠ j) (hc:cmpb (Region.before ops) i j=false) :
  (∀d,o.dst=some d->d ∉ a.looksAt ops/\a.dst ≠ some d)/\(effN Ns i o.op=true->effN Ns j a.op=false):=by
 unfold drawOk at h;simp only [ur] at h;have e:(o,i) ∈ ops.toList.zipIdx:=by grind
 have b:(a,j) ∈ ops.toList.zipIdx:=by grind
 grind

theorem fE_none {vs:Nat->AV} {env:List AV} {S:Nat->Bool}:∀k,(∀w,w < k->S w=false)->fE ops vs S env k=env
 | 0,_=>rfl
 | k+1,h=>by simp only [fE,h k (by omega),um,uJ];exact fE_none k λw a=>h w (by omega)

theorem AR.still {o:Oper} {env:List AV} {h d:AH} {v:AV} (b:isEff o.op=false) (a:AR P ops o env h v d):d=h:=by
 unfold AR at a;split at a
 ·rcases astep_still (P:=P) (env:=env) (h:=h) b with ⟨x,c⟩ | ⟨n,u,c⟩ | c
  ·rw [c h λ_=>rfl] at a;cases x with
   | none=>exact a.elim
   | some v'=>exact a.2
  ·simp_all
  ·grind
 ·exact a.2
 ·simp_all

theorem ARN.still {i:Nat} {o:Oper} {env:List AV} {h e:AH} {v:AV} (a:effN Ns i o.op=false) (f:ARN P ops Ns F i o env h v e):e=h:=by
 rcases f with ⟨c,b⟩ | ⟨_,_,b,_⟩ | ⟨c,d,_,b⟩ | ⟨_,_,_,b⟩
 ·refine AR.still ?_ b;simp only [effN,c,sC,sA] at a;omega
 ·exact b
 ·simp only [effN,c,sC,sA] at a;exact (bstep_still a d b).1
 ·exact b
theorem draw_seq {QA:List AV->AH->Prop}:∀(rest:List Oper) (k:Nat) (env:List AV) (h:AH),ops.toList.drop k=rest->k<=ops.size->yd P ops Ns F QA k rest env h ->
  ∃(vs:Nat->AV) (hs:Nat->AH),hs k=h/\(∀i o,k<=i->ops[i]?=some o->ARN P ops Ns F i o (fE ops vs (λw=>decide (k<=w)) env i) (hs i) (vs i) (hs (i+1))/\(anch ops Ns i=true \/ (hs (i+1)).blks=(hs i).blks)/\(hs (i+1)=hs i \/ FOk ((Region.before ops).getD i 0) Ns F (hs (i+1)))) /\
   QA (fE ops vs (λw=>decide (k<=w)) env ops.size) (hs ops.size)
 | [],k,env,h,hd,hkn,b=>by
  have s:k=ops.size:=by
   have:=congrArg List.length hd
   grind
  subst s;refine ⟨λ_=>aundef,λ_=>h,rfl,λi o hi g=>?_,?_⟩
  ·simp_all
  ·rw [fE_none _ λw b=>by simp;omega];exact b
 | o::rest,k,env,h,hd,hkn,b=>by
  have g:ops[k]?=some o:=by
   rw [<- uF];have:=congrArg (·[0]?) hd
   grind
  have p:k < ops.size:=(uN.1 g).1;have l:ops.toList.drop (k+1)=rest:=by
   rw [<- tn,hd];rfl
  obtain ⟨v,t,r,j,q,c⟩:=b;obtain ⟨vs,hs,h0,x,u⟩:=draw_seq rest (k+1) _ t l (by omega) c;have e:dstAt ops k=o.dst:=by simp [dstAt,g]
  let f:Nat->AV:=λw=>if w=k then v else vs w
  let d:Nat->AH:=λw=>if w<=k then h else hs w
  have key:∀m,fE ops f (λw=>decide (k<=w)) env (k+1+m)=fE ops vs (λw=>decide (k+1<=w)) (setd env o.dst v) (k+1+m):=by
   intro m
   induction m with
   | zero =>
    simp only [tL];rw [fE_none (S:=λw=>decide (k+1<=w)) (k+1) λw b=>by simp;omega];simp only [fE,ug,rW,ut,e];rw [fE_none (S:=λw=>decide (k<=w)) k λw b=>by simp;omega]
    grind
   | succ m ih =>
    rw [<- sZ];simp only [fE,ih]
    grind
  refine ⟨f,d,by simp [d],λi y hi a=>?_,?_⟩
  ·rcases Nat.eq_or_lt_of_le hi with rfl | hi
   ·rw [g] at a;injection a with a;subst a;rw [fE_none (S:=λw=>decide (k<=w)) k λw b=>by simp;omega]
    grind
   ·obtain ⟨m,rfl⟩:∃m,i=k+1+m:=⟨i - (k+1),by omega⟩
    grind
  ·obtain ⟨m,z⟩:∃m,ops.size=k+1+m:=⟨ops.size - (k+1),by omega⟩
   grind

theorem draw_sound (G:drawOk ops Ns=true) {Q:Exit->Act->World->Prop} {vs:Nat->AV} {hs:Nat->AH} {env:List AV}
  (hFs:∀n,F n (hs 0)) (hc:∀i o,ops[i]?=some o->ARN P ops Ns F i o (fE ops vs (λ_=>true) env i) (hs i) (vs i) (hs (i+1))/\(anch ops Ns i=true \/ (hs (i+1)).blks=(hs i).blks)/\(hs (i+1)=hs i \/ FOk ((Region.before ops).getD i 0) Ns F (hs (i+1))))
  (hQ:∀a w,St B w0 g0 D (fE ops vs (λ_=>true) env ops.size) (hs ops.size) a w->Q .normal a w) :
  ∀(z:Nat) (b:Array Bool) (a:Act) (w:World),b.size=ops.size->(List.range ops.size).countP (λi=>!b.getD i false)<=z ->
   (∀i j,b.getD i false=true->((Region.before ops).getD i 0).testBit j=true->b.getD j false=true) ->
   St B w0 g0 D (fE ops vs (λi=>b.getD i false) env ops.size) (fH ops Ns hs (λi=>b.getD i false) ops.size) a w ->
   wpAnyIn (WF ro) n P .any ops Q z b a w:=by
 have hn:∀k,wK ops Ns k=false->k < ops.size->hs (k+1)=hs k:=λk A hk=>by
  have C:ops[k]?=some ops[k]:=uO hk;exact ARN.still (by simpa [wK,C] using A) (hc k _ C).1
 -- beyond the region nothing is asked
 let O:Nat->AH:=λk=>if k<=ops.size then hs k else hs ops.size
 have H:∀k,k<=ops.size->O k=hs k:=λk hk=>by grind
 have hn2:∀k,wK ops Ns k=false->O (k+1)=O k:=λk A=>by
  grind
 have fH2:∀(S:Nat->Bool) k,k<=ops.size->fH ops Ns hs S k=fH ops Ns O S k:=λS k=>by
  induction k with
  | zero=>intro _;simp only [fH];exact (H 0 (by omega)).symm
  | succ k ih=>intro hk;simp only [fH,ih (by omega),H (k+1) hk]
 -- all has come
 have fin:∀(b:Array Bool) (a:Act) (w:World),b.size=ops.size->Region.ready .any ops b=[] ->
   St B w0 g0 D (fE ops vs (λi=>b.getD i false) env ops.size) (fH ops Ns hs (λi=>b.getD i false) ops.size) a w->Q .normal a w:=by
  intro b a w N hr s;have hall:∀i,i < ops.size->b.getD i false=true:=by
   intro i
   induction i using Nat.strongRecOn with
   | _ i ih =>
    intro hi;rcases hb:b.getD i false with _ | _
    ·exfalso;have:i ∈ Region.ready .any ops b:=by
      unfold Region.ready;rw [tO];refine ⟨by simp_all,?_⟩;have d:b.getD i true=false:=by
       simp_all
      have C:ops[i]?=some ops[i]:=uO hi;simp only [d,sC,C,uY,ri,uS];rw [se];intro e A;cases hbe:Region.binds .any e with
      | false=>rfl
      | true =>
       have hlt:=drawOk_edge G C e A hbe
       grind
     simp_all
    ·rfl
  refine hQ a w ?_;rw [fE_eq (T:=λ_=>true) ops.size λw L=>hall w L] at s;rw [fH2 _ _ (ug _),fH_all hn2 ops.size λe A _=>hall e A,H _ (ug _)] at s;omega
 intro z
 induction z with
 | zero =>
  intro b a w N hcnt hcl s;have hr:Region.ready .any ops b=[]:=by
   rcases hrr:Region.ready .any ops b with _ | ⟨i,r⟩
   ·rfl
   ·exfalso;have hi:i ∈ Region.ready .any ops b:=by simp_all
    unfold Region.ready at hi
    grind
  exact ⟨hr,fin b a w N hr s⟩
 | succ z ih =>
  intro b a w N hcnt hcl s;refine ⟨λhr=>fin b a w N hr s,λi hi=>?_⟩;unfold Region.ready at hi;rw [tO] at hi;have hlt:i < ops.size:=by simp_all
  have C:ops[i]?=some ops[i]:=uO hlt;generalize hoo:ops[i]=o at C;have hi2:=hi.2;simp only [C,uY,ri,ud,so] at hi2;have hil:i < b.size:=by omega
  have hSi:b.getD i false=false:=by
   grind
  have hedge:∀e ∈ o.after,Region.binds .any e=true->b.getD e.on false=true:=λe A hb=>by
   have:=se.1 hi2.2 e A
   grind
  have hanc:∀w,((Region.before ops).getD i 0).testBit w=true->b.getD w false=true:=λw L=>by
   obtain ⟨e,A,hb,hh⟩:=before_spec C L;rcases hh with rfl | ⟨_,I⟩
   ·grind
   ·grind
  generalize hS:(λw=>b.getD w false)=S at s;have hSd:∀w,S w=b.getD w false:=λw=>by rw [<- hS]
  have hSi':S i=false:=by grind
  let T:Nat->Bool:=λw=>decide (w < i)
  have U:∀w,w ≠ i->cmpb (Region.before ops) w i=true->S w=T w:=λw _ hc'=>by
   simp only [cmpb,tC] at hc';rcases hc' with d | d
   ·have:=before_lt G i w d
    grind
   ·have I:=before_lt G w i d
    grind
  -- what it looks at is a5 it was in the text's order
  have hTn:fE ops vs T env ops.size=fE ops vs (λ_=>true) env i:=by
   obtain ⟨m,hm⟩:∃m,ops.size=i+m:=⟨ops.size - i,by omega⟩
   rw [hm,fE_stop (S:=T) (λw L=>by grind) m];exact fE_eq i λw L=>by simp [T,L]
  have Z:∀t ∈ o.looksAt ops,(fE ops vs S env ops.size)[t]?=(fE ops vs (λ_=>true) env i)[t]?:=λt ht=>by
   rw [<- hTn];refine fE_at ops.size λw L hd=>?_;by_cases hwi:w=i
   ·grind
   ·cases hcb:cmpb (Region.before ops) w i with
    | true=>exact U w hwi hcb
    | false =>
     have how:ops[w]?=some ops[w]:=uO L;have:=(drawOk_pair G how C hwi hcb).1 t (by simpa [dstAt,how] using hd)
     grind
  obtain ⟨hAR,hblk,_⟩:=hc i o C;have hgE:aG ops o (fE ops vs S env ops.size)=aG ops o (fE ops vs (λ_=>true) env i):=aG_congr Z;have hsE:∀J,zF P o (fE ops vs S env ops.size) J=zF P o (fE ops vs (λ_=>true) env i) J:=λJ=>astep_congr λx E=>ev_congr λt ht=>Z t (looks_op (ht ▸ E));have hsB:∀J,wd P o (fE ops vs S env ops.size) J=wd P o (fE ops vs (λ_=>true) env i) J:=λJ=>bstep_congr λx E=>ev_congr λt ht=>Z t (looks_op (ht ▸ E));have l:ARN P ops Ns F i o (fE ops vs S env ops.size) (hs i) (vs i) (hs (i+1)):=by
   rcases hAR with ⟨d,I⟩ | ⟨d,I,h3,h4⟩ | ⟨d,hbd,I,h3⟩ | ⟨d,I,h3,h4⟩
   ·refine .inl ⟨d,?_⟩;unfold AR at I ⊢;rw [hgE,hsE];exact I
   ·exact .inr (.inl ⟨d,by grind,h3,h4.imp (λ⟨f,args,h5,h6⟩=>⟨f,args,λI=>by grind,h6⟩) (λh5 I hf=>by grind)⟩)
   ·exact .inr (.inr (.inl ⟨d,hbd,by grind,by grind⟩))
   ·exact .inr (.inr (.inr ⟨d,by grind,h3,h4⟩))
  have heff:wK ops Ns i=effN Ns i o.op:=by simp [wK,C]
  -- effects are in a row
  have pS:∀e M,e < M->M < ops.size->wK ops Ns e=true->wK ops Ns M=true->S M=true->S e=true:=λe M d I h3 h4 h5=>by
   have oe:ops[e]?=some ops[e]:=uO (by omega);have oe':ops[M]?=some ops[M]:=uO I;cases hcb:cmpb (Region.before ops) e M with
   | true =>
    simp only [cmpb,tC] at hcb;rcases hcb with h6 | h6
    ·grind
    ·have:=before_lt G e M h6;omega
   | false =>
    have h7:=(drawOk_pair G oe oe' (by omega) hcb).2 (by simpa [wK,oe] using h3);simp [wK,oe',h7] at h4
  have pT:∀e M,e < M->M < ops.size->wK ops Ns e=true->wK ops Ns M=true->T M=true->T e=true:=λe M d _ _ _ h5=>by
   grind
  have effS:effN Ns i o.op=true->∀e,e < ops.size->wK ops Ns e=true->S e=T e:=λR e he1 he2=>by
   by_cases hei:e=i
   ·grind
   ·have oe:ops[e]?=some ops[e]:=uO he1;cases hcb:cmpb (Region.before ops) e i with
    | true=>exact U e hei hcb
    | false =>
     have h7:=(drawOk_pair G oe C hei hcb).2 (by simpa [wK,oe] using he2)
     grind
  have hTH:fH ops Ns O T ops.size=hs i:=by
   obtain ⟨m,hm⟩:∃m,ops.size=i+m:=⟨ops.size - i,by omega⟩
   rw [hm,fH_stop (S:=T) (λw L _=>by grind) m,fH_all hn2 i λe A _=>by simp [T,A]]
   grind
  -- the new list
  have hS':∀w,(b.setIfInBounds i true).getD w false=(w==i || S w):=λw=>by
   rw [hSd];by_cases L:w=i
   ·subst L;simp [tA,hil]
   ·have d:(w==i)=false:=by simpa using L
    simp [tA,d,Array.getElem?_setIfInBounds_ne (λe=>L e.symm)]
  have hfS':(λw=>(b.setIfInBounds i true).getD w false)=λw=>(w==i || S w):=funext hS'
  -- the frame behind it
  have hE':fE ops vs (λw=>(w==i || S w)) env ops.size=setd (fE ops vs S env ops.size) o.dst (vs i):=by
   apply uZ;intro t;by_cases hdt:o.dst=some t
   ·rw [hdt];simp only [setd];rcases sy t env.length with htl | htl
    ·rw [uD (by rw [fE_len];exact htl)];refine fE_last (i:=i) (by simp) (by simp [dstAt,C,hdt]) htl hlt λw hw1 hw2 hw3=>?_;have d:(w==i)=false:=by simp;omega
     simp only [d,tg];have how:ops[w]?=some ops[w]:=uO hw2;cases hcb:cmpb (Region.before ops) w i with
     | true=>rw [U w (by omega) hcb];simp [T];omega
     | false =>
      have:=(drawOk_pair G how C (by omega) hcb).1 t (by simpa [dstAt,how] using hw3)
      grind
    ·rw [tF (by rw [fE_len];exact htl),tF (by rw [uQ,fE_len];exact htl)]
   ·rw [setd_get_ne hdt];refine fE_at ops.size λw L hd=>?_;by_cases hwi:w=i
    ·subst hwi;simp [dstAt,C] at hd;exact absurd hd hdt
    ·grind
  -- the heap behind it
  have hst2:=s;generalize hX:fH ops Ns hs S ops.size=E at s;have hFx:Ns.contains i=true->F i E:=λX=>by
   -- an effect that has come is none that waits for this one
   have hA:∀k,k<=ops.size->(∀e,e < k->wK ops Ns e=true->S e=true)->F i (hs k):=λk=>by
    induction k with
    | zero=>intro _ _;exact hFs i
    | succ k ih =>
     intro hk A;have ihk:=ih (by omega) λe d I=>A e (by omega) I;have ok:ops[k]?=some ops[k]:=uO (by omega);rcases (hc k _ ok).2.2 with d | d
     ·grind
     ·cases R:wK ops Ns k with
      | false=>rw [hn k R (by omega)];exact ihk
      | true =>
       refine d i X ?_
       grind
   rw [<- hX];have:∀k,k<=ops.size->F i (fH ops Ns hs S k):=λk=>by
    induction k with
    | zero=>intro _;exact hFs i
    | succ k ih =>
     intro hk;simp only [fH];split
     ·rename_i hh;simp only [ud] at hh;refine hA (k+1) hk λe d I=>?_
      grind
     ·grind
   grind
  have hAR3:∃J,ARN P ops Ns F i o (fE ops vs S env ops.size) E (vs i) J/\fH ops Ns hs (λw=>(w==i || S w)) ops.size=J:=by
   cases R:effN Ns i o.op with
   | true =>
    have d:E=hs i:=by rw [<- hX,fH2 _ _ (ug _),fH_eq ops.size (effS R),hTH]
    refine ⟨hs (i+1),by grind,?_⟩;rw [fH2 _ _ (ug _)];obtain ⟨m,hm⟩:∃m,ops.size=i+1+m:=⟨ops.size - (i+1),by omega⟩
    rw [hm,fH_stop (λw L hwe=>?_) m]
    ·simp only [fH]
     grind
    ·have I:(w==i)=false:=by simp;omega
     grind
   | false =>
    have d:fH ops Ns hs (λw=>(w==i || S w)) ops.size=E:=by
     rw [<- hX];refine fH_eq ops.size λe _ hee=>?_;have:e ≠ i:=by grind
     grind
    refine ⟨E,?_,d⟩;have hb:Ns.contains i=false->isRd o.op=true->E.blks=(hs i).blks:=λX hrd=>by
     rw [<- hX,fH2 _ _ (ug _),<- hTH];refine fH_blks hn2 ops.size (λe he1 he2 hne=>?_) pS pT;rw [H _ (by omega),H _ (by omega)];have oe:ops[e]?=some ops[e]:=uO he1;rcases (hc e _ oe).2.1 with han | hbb
     ·exfalso;unfold anch at han;simp only [ur] at han;have hm:(o,i) ∈ ops.toList.zipIdx:=by grind
      have h3:=han (o,i) hm;have hei:e ≠ i:=by grind
      grind
     ·omega
    rcases l with ⟨hN,l⟩ | ⟨hN,q1,Y,q3⟩ | ⟨hN,hbd,q1,Y⟩ | ⟨hN,q1,Y,q3⟩
    rotate_left
    ·exact .inr (.inl ⟨hN,q1,rfl,q3⟩)
    ·simp only [effN,hN,sC,sA] at R;exact .inr (.inr (.inl ⟨hN,hbd,q1,(bstep_still R hbd Y).2 E⟩))
    ·exact .inr (.inr (.inr ⟨hN,q1,Y,rfl⟩))
    have hb:=hb hN;have R:isEff o.op=false:=by simp only [effN,hN,sC,sA] at R;exact R
    have h0:hs (i+1)=hs i:=AR.still R l;refine .inl ⟨hN,?_⟩;unfold AR at l ⊢;split at l
    ·rcases astep_still (P:=P) (env:=fE ops vs S env ops.size) (h:=hs i) R with ⟨x,W⟩ | ⟨m,u,W⟩ | W
     ·rw [W (hs i) λ_=>rfl] at l;rw [W E hb];cases x with
      | none=>exact l.elim
      | some v'=>exact ⟨l.1,rfl⟩
     ·grind
     ·rcases W (hs i) with ⟨S,hS⟩ | hS <;> (rw [hS] at l;exact l.elim)
    ·grind
    ·omega
  obtain ⟨J,c,hH'⟩:=hAR3;have cnt:(List.range ops.size).countP (λj=>!(b.setIfInBounds i true).getD j false)<=z:=by
   have:=count_lt (p:=λj=>!(b.setIfInBounds i true).getD j false) (q:=λj=>!b.getD j false) (List.range ops.size)
    (λx _ E=>by grind)
    ⟨i,by grind,by simp [hSi],by simp [hS']⟩
   omega
  have cl':∀x y,(b.setIfInBounds i true).getD x false=true->((Region.before ops).getD x 0).testBit y=true->(b.setIfInBounds i true).getD y false=true:=λx y d I=>by
   rw [hS'] at d ⊢;simp only [tC,rR] at d ⊢;right;rcases d with rfl | d
   ·grind
   ·grind
  have go:∀(a':Act) (w':World),St B w0 g0 D (setd (fE ops vs S env ops.size) o.dst (vs i)) J a' w'->wpAnyIn (WF ro) n P .any ops Q z (b.setIfInBounds i true) a' w':=λa' w' hs' =>
   ih _ a' w' (by simp [N]) cnt cl' (by grind)
  unfold wpOpIn;simp only [C];have hst':=s;obtain ⟨g,hg,r,A,hD⟩:=hst';rcases c with ⟨_,c⟩ | ⟨X,q1,Y,q3⟩ | ⟨_,_,q1,Y⟩ | ⟨_,q1,Y,q3⟩
  rotate_left
  ·rw [vL A q1];simp only [ut];refine step_sound (K:=λv d=>v=vs i/\d=J) s ?_ ?_
   ·rcases q3 with ⟨f,args,q3,q4⟩ | q4
    ·rw [q3 E,Y];exact q4 E (hFx X)
    ·rw [q4 E (hFx X)];exact ⟨rfl,Y.symm⟩
   ·rintro v d u w' ⟨rfl,rfl⟩ ⟨g',k1,k2,k3,k4⟩
    exact go _ w' ⟨g',k1,k2,k3.setd o.dst k4,by rw [wZ];exact hD⟩
  ·rw [vL A q1];simp only [ut];refine bstep_sound (K:=λv d=>v=vs i/\d=J) s (.inl ⟨_,Y,λp hp=>?_⟩) ?_
   ·grind
   ·rintro v d u w' ⟨rfl,rfl⟩ ⟨g',k1,k2,k3,k4⟩
    exact go _ w' ⟨g',k1,k2,k3.setd o.dst k4,by rw [wZ];exact hD⟩
  ·rw [vL A q1];simp only [um,uJ];refine ⟨λ_ _=>trivial,go _ w ⟨g,hg,by grind,?_,by rw [wZ];exact hD⟩⟩;rw [Y];exact A.setd o.dst V.ofUndef
  unfold AR at c;split at c
  ·rename_i hgd;rw [vL A hgd];simp only [ut];refine step_sound (K:=λv d=>v=vs i/\d=J) s ?_ ?_
   ·cases hst3:zF P o (fE ops vs S env ops.size) E with
    | ok v1 d=>rw [hst3] at c;exact ⟨c.1.symm,c.2.symm⟩
    | len m v1 d=>rw [hst3] at c;exact λ_=>⟨c.1.symm,c.2.symm⟩
    | call f args=>rw [hst3] at c;exact c
    | round id args=>rw [hst3] at c;exact c
    | any S=>rw [hst3] at c;exact c.elim
    | fail=>rw [hst3] at c;exact c
   ·rintro v d u w' ⟨rfl,rfl⟩ ⟨g',k1,k2,k3,k4⟩
    exact go _ w' ⟨g',k1,k2,k3.setd o.dst k4,by rw [wZ];exact hD⟩
  ·rename_i hgd;rw [vL A hgd];simp only [um,uJ];refine ⟨λ_ _=>trivial,go _ w ⟨g,hg,by grind,?_,by rw [wZ];exact hD⟩⟩;rw [c.1];exact A.setd o.dst V.ofUndef
  ·grind
end
end Go.Vv
