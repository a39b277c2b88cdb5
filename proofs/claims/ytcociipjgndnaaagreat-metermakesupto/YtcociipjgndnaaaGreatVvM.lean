/- Weakest preconditions over abstract states; they are sound over the model's own. -/
import Derived.OrdersIn
import Derived.Test.YtcociipjgndnaaaGreatVvNw
import Derived.CallsIn
import Derived.RangeFuncRecord
namespace Go.Vv
open Go Go.RowKit Go.Lib

class GOk (P:Program) (B:Nat) (w0:World):Prop where
 sh:w0.ShapedOpen P
 sz:w0.heap.size<=B
def Spec (P:Program) (f:FuncId) (args:List AV) (h:AH) (K:AV->AH->Prop):Prop :=
 (∀(vs:Array Value) (w:World),(callFunc f vs).run P w=.ok (.enter f vs) w) /\
 ∀(B:Nat) (w0:World) [GOk P B w0] (g:Gh) (w:World) (vs:Array Value),Rel B w0 g h w->VL g args vs.toList ->
  Calls P f vs w λe w'=>∃v r h' g',e=.returned v/\K r h'/\g.le g'/\Rel B w0 g' h' w'/\V g' r v

def SpecY (P:Program) (id:Nat) (args:List AV) (h:AH) (K:AV->AH->Prop):Prop :=
 ∀(B:Nat) (w0:World) [GOk P B w0] (g:Gh) (w:World) (vs:Array Value) (c:Nat),Rel B w0 g h w->VL g args vs.toList->g.σ[id]?=some c ->
  ∃fn tmps assign body,(Instr.yield c vs).run P w=.ok (.round c fn tmps assign body) w /\
   ∀n,RoundIn Fence.wide n P c fn tmps assign body w λe w'=>∃v r h' g',e=.returned v/\K r h'/\g.le g'/\Rel B w0 g' h' w'/\V g' r v

theorem Spec.mono {P:Program} {f:FuncId} {args:List AV} {h:AH} {K K':AV->AH->Prop} (s:Spec P f args h K) (e:∀r a,K r a->K' r a):Spec P f args h K' :=
 ⟨s.1,λB w0 _ g w vs r b=>(s.2 B w0 g w vs r b).mono λ_ _ ⟨v,x,a,g',i,c,d⟩=>⟨v,x,a,g',i,e _ _ c,d⟩⟩

theorem SpecY.mono {P:Program} {id:Nat} {args:List AV} {h:AH} {K K':AV->AH->Prop} (s:SpecY P id args h K) (j:∀r a,K r a->K' r a):SpecY P id args h K' :=
 λB w0 _ g w vs c r e i=>by
  obtain ⟨fn,tmps,assign,body,d,b⟩:=s B w0 g w vs c r e i;exact ⟨fn,tmps,assign,body,d,λn=>(b n).mono λ_ _ ⟨v,x,a,g',d,b,f⟩=>⟨v,x,a,g',d,j _ _ b,f⟩⟩

def aG (ops:Array Oper) (o:Oper) (env:List AV):Option Bool :=
 match o.guard with
 | none=>some true
 | some (j,want)=>match (ops[j]?).bind (·.dst) with
  | none=>some false
  | some d=>match env[d]? with
   | none=>some false
   | some (.bool b)=>some (b==want)
   | some (.tup [])=>some false
   | some _=>none

def rwp (P:Program) (h:AH) (r:Res) (K:AV->AH->Prop):Prop :=
 match r with
 | .ok v h'=>K v h'
 | .len n v h'=>n<=maxLen->K v h'
 | .call f args=>Spec P f args h K
 | .round id args=>SpecY P id args h K
 | .any S=>∀v h',S v h'->K v h'
 | .fail=>False
def gwp (b:Option Bool) (act:(AV->AH->Prop)->Prop) (h:AH) (K:AV->AH->Prop):Prop :=
 match b with
 | some true=>act K
 | some false=>K aundef h
 | none=>False
def swk (env:List AV) (h:AH) (env':List AV) (h':AH):Prop:=∀(B:Nat) (w0 w:World) (g:Gh) (vs:List Value),Rel B w0 g h w->VL g env vs->∃g',g.le g'/\Rel B w0 g' h' w/\VL g' env' vs
theorem swk.refl (env:List AV) (h:AH):swk env h env h:=λ_ _ _ g _ r a=>⟨g,Gh.le.refl g,r,a⟩
theorem swk.trans {env d c:List AV} {h i j:AH} (a:swk env h d i) (b:swk d i c j):swk env h c j:=λB w0 w g vs r m=>by
 obtain ⟨o,p,q,f⟩:=a B w0 w g vs r m;obtain ⟨s,k,l,e⟩:=b B w0 w o vs q f;exact ⟨s,p.trans k,l,e⟩
def bwp (P:Program) (o:Oper) (env:List AV) (h:AH) (K:AV->AH->Prop):Prop:=(∃l,vt P o env h=some l/\∀p ∈ l,K p.1 p.2) \/ ∃k ys,anew P o env=some (k,ys)/\K (.nsl k ys) h
theorem bwp_mono {P:Program} {o:Oper} {env:List AV} {h:AH} {K K':AV->AH->Prop} (b:∀v a,K v a->K' v a):bwp P o env h K->bwp P o env h K'
 | .inl ⟨l,hl,hp⟩=>.inl ⟨l,hl,λp hi=>b _ _ (hp p hi)⟩
 | .inr ⟨k,ys,hn,hp⟩=>.inr ⟨k,ys,hn,b _ _ hp⟩
def zH (P:Program) (ops:Array Oper) (Q:List AV->AH->Prop):List Oper->List AV->AH->Prop
 | [],env,h=>Q env h
 | o::rest,env,h=>∃env2 h2,swk env h env2 h2/\gwp (aG ops o env2) (λK=>rwp P h2 (zw P o env2 h2) K \/ bwp P o env2 h2 K) h2 λv h'=>zH P ops Q rest (setd env2 o.dst v) h'
theorem vO {P:Program} {a:Array Oper} {Q:List AV->AH->Prop} {o:Oper} {rest:List Oper} {env:List AV} {h:AH} (c:gwp (aG a o env) (rwp P h (zw P o env h)) h λv d=>zH P a Q rest (setd env o.dst v) d) :
  zH P a Q (o::rest) env h:=⟨env,h,swk.refl _ _,by
   cases hb:aG a o env with
   | none=>rw [hb] at c;exact c
   | some b =>
    rw [hb] at c;cases b with
    | true=>exact .inl c
    | false=>exact c⟩
theorem awpOps_consB {P:Program} {a:Array Oper} {Q:List AV->AH->Prop} {o:Oper} {rest:List Oper} {env:List AV} {h:AH} (c:aG a o env=some true) (b:∃l,vt P o env h=some l/\∀p ∈ l,zH P a Q rest (setd env o.dst p.1) p.2) :
  zH P a Q (o::rest) env h:=⟨env,h,swk.refl _ _,by rw [c];exact .inr (.inl b)⟩
theorem qr {P:Program} {b:Array Oper} {Q:List AV->AH->Prop} {o:Oper} {rest:List Oper} {env a:List AV} {h c:AH} (hs:swk env h a c) (e:zH P b Q (o::rest) a c):zH P b Q (o::rest) env h:=by
 obtain ⟨i,g,d,f⟩:=e;exact ⟨i,g,hs.trans d,f⟩

def isEff:Op->Bool
 | .move _ | .assign _ | .pick _ _ _ | .build _ _ | .nilCheck _ | .binOp _ _ _ _ _ | .unOp _ _ _ | .convert _ _ _ | .makeFunc _ _ _ | .slice _ _ _ _ _ | .fieldAddr _ _ _ | .field _ _ _ | .indexAddr _ _ _ | .index _ _ _ | .extract _ _
 | .load _ _ | .buildSlice _ _ _ | .makeInterface _ _ | .typeAssert _ _ _ _=>false
 | .call { callee:=.builtin .len,.. }=>false
 | _=>true
def isRd:Op->Bool
 | .load _ _=>true
 | _=>false
def effN (Ns:List Nat) (i:Nat) (op:Op):Bool:=isEff op&&!Ns.contains i
def cmpb (b:Array Nat) (i j:Nat):Bool:=(b.getD j 0).testBit i || (b.getD i 0).testBit j
def drawOk (ops:Array Oper) (Ns:List Nat):Bool :=
 let b:=Region.before ops
 (ops.toList.zipIdx.all λ(o,i)=>o.after.all (λe=>!Region.binds .any e || decide (e.on < i)) &&
  ops.toList.zipIdx.all λ(o',j)=>i==j || cmpb b i j ||
   ((match o.dst with
    | some d=>!(o'.looksAt ops).contains d&&o'.dst != some d
    | none=>true)&&!(effN Ns i o.op&&effN Ns j o'.op)))
def anch (ops:Array Oper) (Ns:List Nat) (i:Nat):Bool :=
 let b:=Region.before ops
 ops.toList.zipIdx.all λ(o,j)=>i==j || !isRd o.op || Ns.contains j || cmpb b i j
def AR (P:Program) (ops:Array Oper) (o:Oper) (env:List AV) (h:AH) (v:AV) (h':AH):Prop :=
 match aG ops o env with
 | some true=>match zw P o env h with
  | .ok v1 h1=>v=v1/\h'=h1
  | .len _ v1 h1=>v=v1/\h'=h1
  | .call f args=>Spec P f args h λr h1=>r=v/\h1=h'
  | .round id args=>SpecY P id args h λr h1=>r=v/\h1=h'
  | .any _=>False
  | .fail=>False
 | some false=>v=aundef/\h'=h
 | none=>False
def FOk (b:Nat) (Ns:List Nat) (F:Nat->AH->Prop) (h:AH):Prop:=∀n,Ns.contains n=true->b.testBit n=false->F n h
def ARN (P:Program) (ops:Array Oper) (Ns:List Nat) (F:Nat->AH->Prop) (i:Nat) (o:Oper) (env:List AV) (h:AH) (v:AV) (h':AH):Prop :=
 (Ns.contains i=false/\AR P ops o env h v h') \/
 (Ns.contains i=true/\aG ops o env=some true/\h'=h /\
  ((∃f args,(∀h2,zw P o env h2=.call f args)/\∀h2,F i h2->Spec P f args h2 λr hh=>r=v/\hh=h2) \/ ∀h2,F i h2->zw P o env h2=.ok v h2)) \/
 (Ns.contains i=false/\bdraw o.op=true/\aG ops o env=some true/\vt P o env h=some [(v,h')])
def zY (P:Program) (ops:Array Oper) (Ns:List Nat) (F:Nat->AH->Prop) (Q:List AV->AH->Prop):Nat->List Oper->List AV->AH->Prop
 | _,[],env,h=>Q env h
 | i,o::rest,env,h=>∃v h',ARN P ops Ns F i o env h v h'/\(anch ops Ns i=true \/ h'.blks=h.blks)/\(h'=h \/ FOk ((Region.before ops).getD i 0) Ns F h')/\zY P ops Ns F Q (i+1) rest (setd env o.dst v) h'

def awpAny (P:Program) (ops:Array Oper) (Q:List AV->AH->Prop):Nat->Array Bool->List AV->AH->Prop
 | 0,listed,env,h=>Region.ready .any ops listed=[]/\Q env h
 | m+1,listed,env,h=>(Region.ready .any ops listed=[]->Q env h)/\∀i ∈ Region.ready .any ops listed,∀o,ops[i]?=some o ->
   gwp (aG ops o env) (λK=>rwp P h (zw P o env h) K \/ bwp P o env h K) h λv h'=>awpAny P ops Q m (listed.setIfInBounds i true) (setd env o.dst v) h'

def wk (hd:AH) (env:List AV) (h:AH) (env':List AV) (h':AH):Prop:=∀(B:Nat) (w0 w w1:World) (g1 g:Gh) (vs:List Value),Rel B w0 g1 hd w1 ->
 g1.le g->Rel B w0 g h w->VL g env vs->∃g',g1.le g'/\Rel B w0 g' h' w/\VL g' env' vs/\∀c,c ∈ g.δ->c ∈ g'.δ

def noRF:Code->Bool
 | .seq a b=>noRF a&&noRF b
 | .cond _ a b=>noRF a&&noRF b
 | .block _ a=>noRF a
 | .loop a=>noRF a
 | .rangeFunc _ _ _ _=>false
 | _=>true

def qb (P:Program):Code->(Exit->List AV->AH->Prop)->List AV->AH->Prop
 | .skip,Q,env,h=>Q .normal env h
 | .label _,Q,env,h=>Q .normal env h
 | .region _ ops draw,Q,env,h=>match draw with
  | true=>(∃Ns F,(P.follows .mixedOrders=true/\drawOk ops Ns=true)/\(∀n,F n h)/\zY P ops Ns F (Q .normal) 0 ops.toList env h) \/
    (P.follows .mixedOrders=true/\awpAny P ops (Q .normal) ops.size (Array.replicate ops.size false) env h)
  | false=>zH P ops (Q .normal) ops.toList env h
 | .seq a b,Q,env,h=>qb P a (λx env' h'=>match x with
  | .normal=>∃env2 h2,wk h env' h' env2 h2/\qb P b Q env2 h2
  | x=>Q x env' h') env h
 | .cond c t e,Q,env,h=>yy c=true/\match ev env c with
  | .bool b=>if b then qb P t Q env h else qb P e Q env h
  | _=>False
 | .block id body,Q,env,h=>qb P body (λx env h=>match x with
  | .exit id'=>if id'=id then Q .normal env h else Q (.exit id') env h
  | x=>Q x env h) env h
 | .loop body,Q,env,h=>∃I:Nat->List AV->AH->Prop,(∃n env2 h2,wk h env h env2 h2/\I n env2 h2)/\∀n env h,I n env h->qb P body (λx env' h'=>match x with
  | .normal=>∃m env2 h2,m < n/\wk h env' h' env2 h2/\I m env2 h2
  | x=>Q x env' h') env h
 | .exit id,Q,env,h=>Q (.exit id) env h
 | .ret,Q,env,h=>Q .ret env h
 | .rangeFunc f ps assign body,Q,env,h=>yy f=true/\noRF assign=true/\noRF body=true/\∃env2 h2,wk h env h env2 h2/\match ev env2 f with
  | .fn (.func f) first caps=>Spec P f (first++[.yld h2.blks.length]++caps) (h2.new (.loop .ready none env2 ps assign body)) λ_ h'=>∃st pe env' ps' a' b',h'.blk h2.blks.length=some (.loop st pe env' ps' a' b')/\st ≠ .busy/\match pe with
   | none=>Q .normal env2 (h'.put h2.blks.length .dead)
   | some .ret=>Q .ret env2 (h'.put h2.blks.length .dead)
   | some (.exit i)=>Q (.exit i) env2 (h'.put h2.blks.length .dead)
   | _=>False
  | _=>False
 | _,_,_,_=>False

def WF (ro:Option Nat):Fence:={ Fence.wide with round:=ro }

section
variable {P:Program} {B:Nat} {w0:World} {g0:Gh} {D:List Deferred} {ro:Option Nat} {n:Nat} [GOk P B w0]

def St (B:Nat) (w0:World) (g0:Gh) (D:List Deferred) (env:List AV) (h:AH) (a:Act) (w:World):Prop:=∃g,g0.le g/\Rel B w0 g h w/\VL g env a.tmps.toList/\a.defers=D

theorem VL.setd {g:Gh} {env:List AV} {a:Act} (b:VL g env a.tmps.toList) (d:Option Tmp) {v:AV} {u:Value} (c:V g v u):VL g (setd env d v) (a.put d u).tmps.toList:=by
 cases d with
 | none=>exact b
 | some d=>simp only [Vv.setd,Act.put,rK];exact VL.set b d v u c
theorem vH (a:Act) (d:Option Tmp) (u:Value):(a.put d u).defers=a.defers:=by cases d <;> rfl

theorem qO {g:Gh} {e:Array Oper} {o:Oper} {env:List AV} {a:Act} (l:VL g env a.tmps.toList) {b:Bool} (c:aG e o env=some b):Region.wanted o (yielded e a.tmps)=b:=by
 unfold aG at c;split at c
 ·rename_i m;cases c;simp [Region.wanted,m]
 ·rename_i j h m;have q:Region.wanted o (yielded e a.tmps)=(yielded e a.tmps j==some h):=by simp [Region.wanted,m]
  rw [q];split at c
  ·rename_i hd;cases c;simp [yielded,hd]
  ·rename_i d hd;unfold yielded;rw [hd,ua];split at c
   ·rename_i f;cases c;have:a.tmps[d]?=none:=by
     have p:env.length<=d:=by simpa using f
     rw [tV];rw [l.length] at p;simpa using p
    simp [this]
   ·rename_i r f;cases c;obtain ⟨u,k,i⟩:=l.get _ _ f;simp only [V] at i;subst i;rw [uv] at k;simp [k]
   ·rename_i f;cases c;obtain ⟨u,k,i⟩:=l.get _ _ f;simp only [V] at i;obtain ⟨vs,rfl,_⟩:=i;rw [uv] at k;simp [k]
   ·cases c

theorem not_defer {o:Oper} {env:List AV} {h:AH} (a:zw P o env h ≠ .fail):∀c,o.op ≠ .defer c:=by
 intro c b;exact a (by simp only [zw,b])

theorem callsIn_of {f:FuncId} {args:Array Value} {w:World} {R:Ending->World->Prop} (h:Calls P f args w R):CallsIn (WF ro) n P f args w R:=callsIn_wide (n:=n).2 h

theorem step_sound {o:Oper} {env:List AV} {h:AH} {a:Act} {w:World} {next:Act->World->Prop} {Q:Exit->Act->World->Prop} {K:AV->AH->Prop}
  (hs:St B w0 g0 D env h a w) (k:rwp P h (zw P o env h) K)
  (y:∀v j u w',K v j->(∃g',g0.le g'/\Rel B w0 g' j w'/\VL g' env a.tmps.toList/\V g' v u)->next (a.put o.dst u) w'):o.wpIn (WF ro) n P a w next Q:=by
 obtain ⟨g,z,r,t,J⟩:=hs;have b:=astep_fits (P:=P) r t o;have C:∀c,o.op ≠ .defer c:=by
  refine not_defer (P:=P) (env:=env) (h:=h) λe=>?_;rw [e] at k;exact k
 refine ⟨λ_ _=>trivial,?_⟩;rw [Oper.semAt_eq (WF ro).round a.eval o C];have ok:∀v j,qf P B w0 g a o w v j->K v j->o.uponIn (WF ro) n P a next Q ((execOp a.eval o).run P w):=by
  rintro v j ⟨u,w',g',d,i,p,q⟩ s
  rcases d with d | ⟨d,rfl⟩
  ·rw [d,Oper.uponIn_value];exact y v j u w' s ⟨g',z.trans i,p,t.mono i,q⟩
  ·rw [d,Oper.uponIn_skip];exact y v j undef w' s ⟨g',z.trans i,p,t.mono i,q⟩
 cases hst:zw P o env h with
 | ok v j=>rw [hst] at b k;exact ok v j b k
 | len m v j=>rw [hst] at b k;exact ok v j b.2 (k b.1)
 | call f args =>
  rw [hst] at b k;obtain ⟨vs,d,l⟩:=b;rw [d,k.1 vs w,Oper.uponIn_enter];refine ⟨λh=>by simp [WF,Fence.wide] at h,callsIn_of ((k.2 B w0 g w vs r l).mono ?_)⟩
  rintro e w' ⟨v,x,j,g',rfl,s,i,p,q⟩
  exact y x j v w' s ⟨g',z.trans i,p,t.mono i,q⟩
 | round id args =>
  rw [hst] at b k;obtain ⟨c,vs,G,d,l⟩:=b;obtain ⟨fn,tmps,assign,body,I,H⟩:=k B w0 g w vs c r l G;rw [d,I,Oper.uponIn_round];refine ⟨λh=>by simp [WF,Fence.wide] at h,RoundIn.mono (F:=WF ro) (H _) ?_⟩
  rintro e w' ⟨v,x,j,g',rfl,s,i,p,q⟩
  exact y x j v w' s ⟨g',z.trans i,p,t.mono i,q⟩
 | any S =>
  rw [hst] at b k;obtain ⟨v,j,E,A⟩:=b;exact ok v j A (k v j E)
 | fail=>rw [hst] at k;exact k.elim

omit [GOk P B w0] in
theorem bstep_sound {o:Oper} {env:List AV} {h:AH} {a:Act} {w:World} {next:Act->World->Prop} {Q:Exit->Act->World->Prop} {K:AV->AH->Prop}
  (hs:St B w0 g0 D env h a w) (z:bwp P o env h K)
  (s:∀v y u w',K v y->(∃g',g0.le g'/\Rel B w0 g' y w'/\VL g' env a.tmps.toList/\V g' v u)->next (a.put o.dst u) w'):o.wpIn (WF ro) n P a w next Q:=by
 obtain ⟨g,t,r,f,C⟩:=hs;rcases z with ⟨l,j,k⟩ | ⟨A,E,j,k⟩
 ·have e:∀c,o.op ≠ .defer c:=λc x=>by simp [vt,x] at j
  obtain ⟨p,i,u,w',g',b,d,m,q⟩:=bfits r f j;refine ⟨λ_ _=>trivial,?_⟩;rw [Oper.semAt_eq (WF ro).round a.eval o e];rcases b with b | ⟨b,rfl⟩
  ·rw [b,Oper.uponIn_value];exact s _ _ u w' (k p i) ⟨g',t.trans d,m,f.mono d,q⟩
  ·rw [b,Oper.uponIn_skip];exact s _ _ undef w' (k p i) ⟨g',t.trans d,m,f.mono d,q⟩
 ·have e:∀c,o.op ≠ .defer c:=λc x=>by simp [anew,x] at j
  obtain ⟨u,w',g',b,d,m,q⟩:=new_fits r f j;refine ⟨λ_ _=>trivial,?_⟩;rw [Oper.semAt_eq (WF ro).round a.eval o e];rcases b with b | ⟨b,rfl⟩
  ·rw [b,Oper.uponIn_value];exact s _ _ u w' k ⟨g',t.trans d,m,f.mono d,q⟩
  ·rw [b,Oper.uponIn_skip];exact s _ _ undef w' k ⟨g',t.trans d,m,f.mono d,q⟩

theorem ops_sound {c:Array Oper} {Q:Exit->Act->World->Prop} {QA:List AV->AH->Prop} (s:∀env h a w,QA env h->St B w0 g0 D env h a w->Q .normal a w) :
  ∀(rest:List Oper) (k:Nat) (env:List AV) (h:AH) (a:Act) (w:World),c.toList.drop k=rest->zH P c QA rest env h->St B w0 g0 D env h a w->wpOpsIn (WF ro) n P c Q (List.range' k rest.length) a w
 | [],k,env,h,a,w,_,d,hs=>s env h a w d hs
 | o::rest,k,env,h,a,w,hd,d,hs=>by
  have H:c[k]?=some o:=by
   rw [<- uv];have:=congrArg (·[0]?) hd;simpa using this
  have f:c.toList.drop (k+1)=rest:=by
   rw [<- tB,hd];rfl
  simp only [uk,List.range'_succ,wpOpsIn,H];obtain ⟨env,h,x,d⟩:=d;obtain ⟨A,p,z,t,q⟩:=hs;obtain ⟨g,m,r,l⟩:=x _ _ _ _ _ z t;have y:=p.trans m;have hs:St B w0 g0 D env h a w:=⟨g,y,r,l,q⟩
  cases hb:aG c o env with
  | none=>rw [hb] at d;exact d.elim
  | some b =>
   have e:=qO l hb;rw [hb] at d;rw [e];cases b with
   | true =>
    simp only [gwp] at d;simp only [ut];have i:∀v j u w',zH P c QA rest (setd env o.dst v) j->(∃g',g0.le g'/\Rel B w0 g' j w'/\VL g' env a.tmps.toList/\V g' v u)->wpOpsIn (WF ro) n P c Q (List.range' (k+1) rest.length) (a.put o.dst u) w':=λv j u w' F ⟨g',I,C,G,E⟩ =>
     ops_sound s rest (k+1) _ j _ w' f F ⟨g',I,C,G.setd o.dst E,by rw [vH];exact q⟩
    rcases d with d | d
    ·exact step_sound hs d i
    ·exact bstep_sound hs d i
   | false =>
    simp only [gwp] at d;simp only [ul,uG];exact ⟨λ_ _=>trivial,ops_sound s rest (k+1) _ h _ w f d ⟨g,y,r,l.setd o.dst V.ofUndef,by rw [vH];exact q⟩⟩

theorem any_sound {f:Array Oper} {Q:Exit->Act->World->Prop} {QA:List AV->AH->Prop} (p:∀env h a w,QA env h->St B w0 g0 D env h a w->Q .normal a w) :
  ∀(m:Nat) (c:Array Bool) (env:List AV) (h:AH) (a:Act) (w:World),awpAny P f QA m c env h->St B w0 g0 D env h a w->wpAnyIn (WF ro) n P .any f Q m c a w
 | 0,c,env,h,a,w,d,hs=>⟨d.1,p env h a w d.2 hs⟩
 | m+1,c,env,h,a,w,d,hs=>by
  refine ⟨λe=>p env h a w (d.1 e) hs,λi hi=>?_⟩;unfold wpOpIn;cases ho:f[i]? with
  | none =>
   exfalso;unfold Region.ready at hi;rw [tf] at hi;have:=hi.1;rw [List.mem_range] at this;rw [uH this] at ho;cases ho
  | some o =>
   have d:=d.2 i hi o ho;simp only;obtain ⟨g,t,r,q,s⟩:=hs;have hs:St B w0 g0 D env h a w:=⟨g,t,r,q,s⟩
   cases hb:aG f o env with
   | none=>rw [hb] at d;exact d.elim
   | some b =>
    have j:=qO q hb;rw [hb] at d;rw [j];cases b with
    | true =>
     simp only [gwp] at d;simp only [ut];have k:∀v l u w',awpAny P f QA m (c.setIfInBounds i true) (setd env o.dst v) l->(∃g',g0.le g'/\Rel B w0 g' l w'/\VL g' env a.tmps.toList/\V g' v u)->wpAnyIn (WF ro) n P .any f Q m (c.setIfInBounds i true) (a.put o.dst u) w':=λv l u w' z ⟨g',C,x,A,y⟩ =>
      any_sound p m _ _ l _ w' z ⟨g',C,x,A.setd o.dst y,by rw [vH];exact s⟩
     rcases d with d | d
     ·exact step_sound hs d k
     ·exact bstep_sound hs d k
    | false =>
     simp only [gwp] at d;simp only [ul,uG];exact ⟨λ_ _=>trivial,any_sound p m _ _ h _ w d ⟨g,t,r,q.setd o.dst V.ofUndef,by rw [vH];exact s⟩⟩
end
end Go.Vv
