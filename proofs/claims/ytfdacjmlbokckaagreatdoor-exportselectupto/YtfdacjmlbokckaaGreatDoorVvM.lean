/- Weakest preconditions over abstract states; they are sound over the model's own. -/
import Derived.OrdersIn
import Derived.Test.YtfdacjmlbokckaaGreatDoorVvRw
import Derived.CallsIn
import Derived.RangeFuncRecord
set_option linter.all false
namespace Go.Vv
open Go Go.RowKit Go.Lib

class GOk (P:Program) (B:Nat) (w0:World):Prop where
 sh:w0.ShapedOpen P
 sz:w0.heap.size≤B
 lay:laid P w0
def Spec (P:Program) (f:FuncId) (args:List AV) (h:AH) (K:AV→AH→Prop):Prop :=
 (∀ (vs:Array Value) (w:World),(callFunc f vs).run P w=.ok (.enter f vs) w) ∧
 ∀ (B:Nat) (w0:World) [GOk P B w0] (g:Gh) (w:World) (vs:Array Value),Rel B w0 g h w→VL g args vs.toList →
  Calls P f vs w fun e w'=>∃ v r h' g',e=.returned v∧K r h'∧g.le g'∧Rel B w0 g' h' w'∧V g' r v

def SpecY (P:Program) (id:Nat) (args:List AV) (h:AH) (K:AV→AH→Prop):Prop :=
 ∀ (B:Nat) (w0:World) [GOk P B w0] (g:Gh) (w:World) (vs:Array Value) (c:Nat),Rel B w0 g h w→VL g args vs.toList→g.σ[id]?=some c →
  ∃ fn tmps assign body,(Instr.yield c vs).run P w=.ok (.round c fn tmps assign body) w ∧
   ∀ n,RoundIn Fence.wide n P c fn tmps assign body w fun e w'=>∃ v r h' g',e=.returned v∧K r h'∧g.le g'∧Rel B w0 g' h' w'∧V g' r v

theorem Spec.mono {P:Program} {f:FuncId} {args:List AV} {h:AH} {K K':AV→AH→Prop} (s:Spec P f args h K) (hk:∀ r h',K r h'→K' r h'):Spec P f args h K' :=
 ⟨s.1,fun B w0 _ g w vs r hv=>(s.2 B w0 g w vs r hv).mono fun _ _ ⟨v,x,h',g',h1,h2,h3⟩=>⟨v,x,h',g',h1,hk _ _ h2,h3⟩⟩

theorem SpecY.mono {P:Program} {id:Nat} {args:List AV} {h:AH} {K K':AV→AH→Prop} (s:SpecY P id args h K) (hk:∀ r h',K r h'→K' r h'):SpecY P id args h K' :=
 fun B w0 _ g w vs c r hv hc=>by
  obtain ⟨fn,tmps,assign,body,h1,h2⟩:=s B w0 g w vs c r hv hc
  exact ⟨fn,tmps,assign,body,h1,fun n=>(h2 n).mono fun _ _ ⟨v,x,h',g',h1,h2,h3⟩=>⟨v,x,h',g',h1,hk _ _ h2,h3⟩⟩

def aG (ops:Array Oper) (o:Oper) (env:List AV):Option Bool :=
 match o.guard with
 | none=>some true
 | some (j,want)=>match (ops[j]?).bind (·.dst) with
  | none=>some false
  | some d=>match env[d]? with
   | none=>some false
   | some (.bool b)=>some (b==want)
   | some (.tup [])=>some false
   | some _=>none

def rwp (P:Program) (h:AH) (r:Res) (K:AV→AH→Prop):Prop :=
 match r with
 | .ok v h'=>K v h'
 | .len n v h'=>n≤maxLen→K v h'
 | .call f args=>Spec P f args h K
 | .round id args=>SpecY P id args h K
 | .any S=>∀ v h',S v h'→K v h'
 | .fail=>False
def gwp (b:Option Bool) (act:(AV→AH→Prop)→Prop) (h:AH) (K:AV→AH→Prop):Prop :=
 match b with
 | some true=>act K
 | some false=>K za h
 | none=>False
def swk (env:List AV) (h:AH) (env':List AV) (h':AH):Prop:=∀ (B:Nat) (w0 w:World) (g:Gh) (vs:List Value),Rel B w0 g h w→VL g env vs→∃ g',g.le g'∧Rel B w0 g' h' w∧VL g' env' vs
theorem swk.refl (env:List AV) (h:AH):swk env h env h:=fun _ _ _ g _ r hv=>⟨g,Gh.le.refl g,r,hv⟩
theorem swk.trans {env env' env2:List AV} {h h' h2:AH} (a:swk env h env' h') (b:swk env' h' env2 h2):swk env h env2 h2:=fun B w0 w g vs r hv=>by
 obtain ⟨g1,k1,r1,hv1⟩:=a B w0 w g vs r hv
 obtain ⟨g2,k2,r2,hv2⟩:=b B w0 w g1 vs r1 hv1
 exact ⟨g2,k1.trans k2,r2,hv2⟩
def bwp (P:Program) (o:Oper) (env:List AV) (h:AH) (K:AV→AH→Prop):Prop:=(∃ l,q6 P o env h=some l∧∀ p ∈ l,K p.1 p.2) ∨ ∃ k ys,anew P o env=some (k,ys)∧K (.nsl k ys) h
theorem bwp_mono {P:Program} {o:Oper} {env:List AV} {h:AH} {K K':AV→AH→Prop} (hk:∀ v h',K v h'→K' v h'):bwp P o env h K→bwp P o env h K'
 | .inl ⟨l,hl,hp⟩=>.inl ⟨l,hl,fun p hi=>hk _ _ (hp p hi)⟩
 | .inr ⟨k,ys,hn,hp⟩=>.inr ⟨k,ys,hn,hk _ _ hp⟩
def yn (P:Program) (ops:Array Oper) (Q:List AV→AH→Prop):List Oper→List AV→AH→Prop
 | [],env,h=>Q env h
 | o::rest,env,h=>∃ env2 h2,swk env h env2 h2∧gwp (aG ops o env2) (fun K=>rwp P h2 (zK P o env2 h2) K ∨ bwp P o env2 h2 K) h2 fun v h'=>yn P ops Q rest (setd env2 o.dst v) h'
theorem wZ {P:Program} {ops:Array Oper} {Q:List AV→AH→Prop} {o:Oper} {rest:List Oper} {env:List AV} {h:AH} (hk:gwp (aG ops o env) (rwp P h (zK P o env h)) h fun v h'=>yn P ops Q rest (setd env o.dst v) h') :
  yn P ops Q (o::rest) env h:=⟨env,h,swk.refl _ _,by
   cases hb:aG ops o env with
   | none=>rw [hb] at hk;exact hk
   | some b =>
    rw [hb] at hk
    cases b with
    | true=>exact .inl hk
    | false=>exact hk⟩
theorem awpOps_consB {P:Program} {ops:Array Oper} {Q:List AV→AH→Prop} {o:Oper} {rest:List Oper} {env:List AV} {h:AH} (hg:aG ops o env=some true) (hk:∃ l,q6 P o env h=some l∧∀ p ∈ l,yn P ops Q rest (setd env o.dst p.1) p.2) :
  yn P ops Q (o::rest) env h:=⟨env,h,swk.refl _ _,by rw [hg];exact .inr (.inl hk)⟩
def isEff:Op→Bool
 | .move _ | .assign _ | .pick _ _ _ | .build _ _ | .nilCheck _ | .binOp _ _ _ _ _ | .unOp _ _ _ | .convert _ _ _ | .makeFunc _ _ _ | .slice _ _ _ _ _ | .fieldAddr _ _ _ | .field _ _ _ | .indexAddr _ _ _ | .index _ _ _ | .extract _ _
 | .load _ _ | .buildSlice _ _ _ | .makeInterface _ _ | .typeAssert _ _ _ _=>false
 | .call { callee:=.builtin .len,.. }=>false
 | _=>true
def isRd:Op→Bool
 | .load _ _=>true
 | _=>false
def effN (Ns:List Nat) (i:Nat) (op:Op):Bool:=isEff op&&!Ns.contains i
def cmpb (b:Array Nat) (i j:Nat):Bool:=(b.getD j 0).testBit i || (b.getD i 0).testBit j
def drawOk (ops:Array Oper) (Ns:List Nat):Bool :=
 let b:=Region.before ops
 (ops.toList.zipIdx.all fun (o,i)=>o.after.all (fun e=>!Region.binds .any e || decide (e.on < i)) &&
  ops.toList.zipIdx.all fun (o',j)=>i==j || cmpb b i j ||
   ((match o.dst with
    | some d=>!(o'.looksAt ops).contains d&&o'.dst != some d
    | none=>true)&&!(effN Ns i o.op&&effN Ns j o'.op)))
def anch (ops:Array Oper) (Ns:List Nat) (i:Nat):Bool :=
 let b:=Region.before ops
 ops.toList.zipIdx.all fun (o,j)=>i==j || !isRd o.op || Ns.contains j || cmpb b i j
def AR (P:Program) (ops:Array Oper) (o:Oper) (env:List AV) (h:AH) (v:AV) (h':AH):Prop :=
 match aG ops o env with
 | some true=>match zK P o env h with
  | .ok v1 h1=>v=v1∧h'=h1
  | .len _ v1 h1=>v=v1∧h'=h1
  | .call f args=>Spec P f args h fun r h1=>r=v∧h1=h'
  | .round id args=>SpecY P id args h fun r h1=>r=v∧h1=h'
  | .any _=>False
  | .fail=>False
 | some false=>v=za∧h'=h
 | none=>False
def FOk (b:Nat) (Ns:List Nat) (F:Nat→AH→Prop) (h:AH):Prop:=∀ n,Ns.contains n=true→b.testBit n=false→F n h
def ARN (P:Program) (ops:Array Oper) (Ns:List Nat) (F:Nat→AH→Prop) (i:Nat) (o:Oper) (env:List AV) (h:AH) (v:AV) (h':AH):Prop :=
 (Ns.contains i=false∧AR P ops o env h v h') ∨
 (Ns.contains i=true∧aG ops o env=some true∧h'=h ∧
  ((∃ f args,(∀ h2,zK P o env h2=.call f args)∧∀ h2,F i h2→Spec P f args h2 fun r hh=>r=v∧hh=h2) ∨ ∀ h2,F i h2→zK P o env h2=.ok v h2)) ∨
 (Ns.contains i=false∧bdraw o.op=true∧aG ops o env=some true∧q6 P o env h=some [(v,h')])
def yy (P:Program) (ops:Array Oper) (Ns:List Nat) (F:Nat→AH→Prop) (Q:List AV→AH→Prop):Nat→List Oper→List AV→AH→Prop
 | _,[],env,h=>Q env h
 | i,o::rest,env,h=>∃ v h',ARN P ops Ns F i o env h v h'∧(anch ops Ns i=true ∨ h'.blks=h.blks)∧(h'=h ∨ FOk ((Region.before ops).getD i 0) Ns F h')∧yy P ops Ns F Q (i+1) rest (setd env o.dst v) h'

def awpAny (P:Program) (ops:Array Oper) (Q:List AV→AH→Prop):Nat→Array Bool→List AV→AH→Prop
 | 0,listed,env,h=>Region.ready .any ops listed=[]∧Q env h
 | m+1,listed,env,h=>(Region.ready .any ops listed=[]→Q env h)∧∀ i ∈ Region.ready .any ops listed,∀ o,ops[i]?=some o →
   gwp (aG ops o env) (fun K=>rwp P h (zK P o env h) K ∨ bwp P o env h K) h fun v h'=>awpAny P ops Q m (listed.setIfInBounds i true) (setd env o.dst v) h'

def wk (hd:AH) (env:List AV) (h:AH) (env':List AV) (h':AH):Prop:=∀ (B:Nat) (w0 w w1:World) (g1 g:Gh) (vs:List Value),Rel B w0 g1 hd w1 →
 g1.le g→Rel B w0 g h w→VL g env vs→∃ g',g1.le g'∧Rel B w0 g' h' w∧VL g' env' vs∧∀ c,c ∈ g.δ→c ∈ g'.δ

def noRF:Code→Bool
 | .seq a b=>noRF a&&noRF b
 | .cond _ a b=>noRF a&&noRF b
 | .block _ a=>noRF a
 | .loop a=>noRF a
 | .rangeFunc _ _ _ _=>false
 | _=>true

def qQ (P:Program):Code→(Exit→List AV→AH→Prop)→List AV→AH→Prop
 | .skip,Q,env,h=>Q .normal env h
 | .label _,Q,env,h=>Q .normal env h
 | .region _ ops draw,Q,env,h=>match draw with
  | true=>(∃ Ns F,(P.follows .mixedOrders=true∧drawOk ops Ns=true)∧(∀ n,F n h)∧yy P ops Ns F (Q .normal) 0 ops.toList env h) ∨
    (P.follows .mixedOrders=true∧awpAny P ops (Q .normal) ops.size (Array.replicate ops.size false) env h)
  | false=>yn P ops (Q .normal) ops.toList env h
 | .seq a b,Q,env,h=>qQ P a (fun x env' h'=>match x with
  | .normal=>∃ env2 h2,wk h env' h' env2 h2∧qQ P b Q env2 h2
  | x=>Q x env' h') env h
 | .cond c t e,Q,env,h=>yo c=true∧match ev env c with
  | .bool b=>if b then qQ P t Q env h else qQ P e Q env h
  | _=>False
 | .block id body,Q,env,h=>qQ P body (fun x env h=>match x with
  | .exit id'=>if id'=id then Q .normal env h else Q (.exit id') env h
  | x=>Q x env h) env h
 | .loop body,Q,env,h=>∃ I:Nat→List AV→AH→Prop,(∃ n env2 h2,wk h env h env2 h2∧I n env2 h2)∧∀ n env1 h1,I n env1 h1→qQ P body (fun x env' h'=>match x with
  | .normal=>∃ m env2 h2,m < n∧(wk h1 env' h' env2 h2 ∨ wk h env' h' env2 h2)∧I m env2 h2
  | x=>Q x env' h') env1 h1
 | .exit id,Q,env,h=>Q (.exit id) env h
 | .ret,Q,env,h=>Q .ret env h
 | .rangeFunc f ps assign body,Q,env,h=>yo f=true∧noRF assign=true∧noRF body=true∧∃ env2 h2,wk h env h env2 h2∧match ev env2 f with
  | .fn (.func f) first caps=>Spec P f (first++[.yld h2.blks.length]++caps) (h2.new (.loop .ready none env2 ps assign body)) fun _ h'=>∃ st pe env' ps' a' b',h'.blk h2.blks.length=some (.loop st pe env' ps' a' b')∧st ≠ .busy∧match pe with
   | none=>Q .normal env2 (h'.put h2.blks.length .dead)
   | some .ret=>Q .ret env2 (h'.put h2.blks.length .dead)
   | some (.exit i)=>Q (.exit i) env2 (h'.put h2.blks.length .dead)
   | _=>False
  | _=>False
 | _,_,_,_=>False

def WF (ro:Option Nat):Fence:={ Fence.wide with round:=ro }

section
variable {P:Program} {B:Nat} {w0:World} {g0:Gh} {D:List Deferred} {ro:Option Nat} {n:Nat} [GOk P B w0]

def St (B:Nat) (w0:World) (g0:Gh) (D:List Deferred) (env:List AV) (h:AH) (a:Act) (w:World):Prop:=∃ g,g0.le g∧Rel B w0 g h w∧VL g env a.tmps.toList∧a.defers=D

theorem VL.setd {g:Gh} {env:List AV} {a:Act} (he:VL g env a.tmps.toList) (d:Option Tmp) {v:AV} {u:Value} (hv:V g v u):VL g (setd env d v) (a.put d u).tmps.toList:=by
 cases d with
 | none=>exact he
 | some d=>simp only [Vv.setd,Act.put,Array.toList_setIfInBounds];exact VL.set he d v u hv
theorem wS (a:Act) (d:Option Tmp) (u:Value):(a.put d u).defers=a.defers:=by cases d <;> rfl

theorem vM {g:Gh} {ops:Array Oper} {o:Oper} {env:List AV} {a:Act} (he:VL g env a.tmps.toList) {b:Bool} (hb:aG ops o env=some b):Region.wanted o (yielded ops a.tmps)=b:=by
 unfold aG at hb
 split at hb
 ·rename_i hg;cases hb;simp [Region.wanted,hg]
 ·rename_i j want hg
  have hw:Region.wanted o (yielded ops a.tmps)=(yielded ops a.tmps j==some want):=by simp [Region.wanted,hg]
  rw [hw]
  split at hb
  ·rename_i hd;cases hb;simp [yielded,hd]
  ·rename_i d hd
   unfold yielded
   rw [hd,Option.bind_some]
   split at hb
   ·rename_i hn
    cases hb
    have:a.tmps[d]?=none:=by
     have h1:env.length≤d:=by simp_all
     rw [Array.getElem?_eq_none];rw [he.length] at h1;simpa using h1
    simp [this]
   ·rename_i b' hn
    cases hb
    obtain ⟨u,hu,hV⟩:=he.get _ _ hn
    simp only [V] at hV;subst hV
    simp_all
   ·rename_i hn
    cases hb
    obtain ⟨u,hu,hV⟩:=he.get _ _ hn
    simp only [V] at hV
    grind
   ·cases hb

theorem not_defer {o:Oper} {env:List AV} {h:AH} (hf:zK P o env h ≠ .fail):∀ c,o.op ≠ .defer c:=by
 intro c hc
 exact hf (by simp only [zK,hc])

theorem callsIn_of {f:FuncId} {args:Array Value} {w:World} {R:Ending→World→Prop} (h:Calls P f args w R):CallsIn (WF ro) n P f args w R:=callsIn_wide (n:=n).2 h

theorem step_sound {o:Oper} {env:List AV} {h:AH} {a:Act} {w:World} {next:Act→World→Prop} {Q:Exit→Act→World→Prop} {K:AV→AH→Prop}
  (hs:St B w0 g0 D env h a w) (hw:rwp P h (zK P o env h) K)
  (hn:∀ v h' u w',K v h'→(∃ g',g0.le g'∧Rel B w0 g' h' w'∧VL g' env a.tmps.toList∧V g' v u)→next (a.put o.dst u) w'):o.wpIn (WF ro) n P a w next Q:=by
 obtain ⟨g,hg,r,he,hD⟩:=hs
 have hfit:=astep_fits (P:=P) r he o
 have hnd:∀ c,o.op ≠ .defer c:=by
  refine not_defer (P:=P) (env:=env) (h:=h) fun e=>?_
  rw [e] at hw;exact hw
 refine ⟨fun _ _=>trivial,?_⟩
 rw [Oper.semAt_eq (WF ro).round a.eval o hnd]
 have ok:∀ v h',vp P B w0 g a o w v h'→K v h'→o.uponIn (WF ro) n P a next Q ((execOp a.eval o).run P w):=by
  rintro v h' ⟨u,w',g',hrun,hle,r',hV⟩ hK
  rcases hrun with hrun | ⟨hrun,rfl⟩
  ·rw [hrun,Oper.uponIn_value]
   exact hn v h' u w' hK ⟨g',hg.trans hle,r',he.mono hle,hV⟩
  ·rw [hrun,Oper.uponIn_skip]
   exact hn v h' undef w' hK ⟨g',hg.trans hle,r',he.mono hle,hV⟩
 cases hst:zK P o env h with
 | ok v h'=>rw [hst] at hfit hw;exact ok v h' hfit hw
 | len m v h'=>rw [hst] at hfit hw;exact ok v h' hfit.2 (hw hfit.1)
 | call f args =>
  rw [hst] at hfit hw
  obtain ⟨vs,hrun,hVL⟩:=hfit
  rw [hrun,hw.1 vs w,Oper.uponIn_enter]
  refine ⟨fun h=>by simp [WF,Fence.wide] at h,callsIn_of ((hw.2 B w0 g w vs r hVL).mono ?_)⟩
  rintro e w' ⟨v,x,h',g',rfl,hK,hle,r',hV⟩
  exact hn x h' v w' hK ⟨g',hg.trans hle,r',he.mono hle,hV⟩
 | round id args =>
  rw [hst] at hfit hw
  obtain ⟨c,vs,hc,hrun,hVL⟩:=hfit
  obtain ⟨fn,tmps,assign,body,hy,hr⟩:=hw B w0 g w vs c r hVL hc
  rw [hrun,hy,Oper.uponIn_round]
  refine ⟨fun h=>by simp [WF,Fence.wide] at h,RoundIn.mono (F:=WF ro) (hr _) ?_⟩
  rintro e w' ⟨v,x,h',g',rfl,hK,hle,r',hV⟩
  exact hn x h' v w' hK ⟨g',hg.trans hle,r',he.mono hle,hV⟩
 | any S =>
  rw [hst] at hfit hw
  obtain ⟨v,h',hS,hok⟩:=hfit
  exact ok v h' hok (hw v h' hS)
 | fail=>rw [hst] at hw;exact hw.elim

omit [GOk P B w0] in
theorem bstep_sound {o:Oper} {env:List AV} {h:AH} {a:Act} {w:World} {next:Act→World→Prop} {Q:Exit→Act→World→Prop} {K:AV→AH→Prop}
  (hs:St B w0 g0 D env h a w) (hw:bwp P o env h K)
  (hn:∀ v h' u w',K v h'→(∃ g',g0.le g'∧Rel B w0 g' h' w'∧VL g' env a.tmps.toList∧V g' v u)→next (a.put o.dst u) w'):o.wpIn (WF ro) n P a w next Q:=by
 obtain ⟨g,hg,r,he,hD⟩:=hs
 rcases hw with ⟨l,hl,hk⟩ | ⟨kk,ys,hl,hk⟩
 ·have hnd:∀ c,o.op ≠ .defer c:=fun c hc=>by simp [q6,hc] at hl
  obtain ⟨p,hin,u,w',g',hrun,hle,r',hV⟩:=bfits r he hl
  refine ⟨fun _ _=>trivial,?_⟩
  rw [Oper.semAt_eq (WF ro).round a.eval o hnd]
  rcases hrun with hrun | ⟨hrun,rfl⟩
  ·rw [hrun,Oper.uponIn_value]
   exact hn _ _ u w' (hk p hin) ⟨g',hg.trans hle,r',he.mono hle,hV⟩
  ·rw [hrun,Oper.uponIn_skip]
   exact hn _ _ undef w' (hk p hin) ⟨g',hg.trans hle,r',he.mono hle,hV⟩
 ·have hnd:∀ c,o.op ≠ .defer c:=fun c hc=>by simp [anew,hc] at hl
  obtain ⟨u,w',g',hrun,hle,r',hV⟩:=new_fits r he hl
  refine ⟨fun _ _=>trivial,?_⟩
  rw [Oper.semAt_eq (WF ro).round a.eval o hnd]
  rcases hrun with hrun | ⟨hrun,rfl⟩
  ·rw [hrun,Oper.uponIn_value]
   exact hn _ _ u w' hk ⟨g',hg.trans hle,r',he.mono hle,hV⟩
  ·rw [hrun,Oper.uponIn_skip]
   exact hn _ _ undef w' hk ⟨g',hg.trans hle,r',he.mono hle,hV⟩

theorem ops_sound {ops:Array Oper} {Q:Exit→Act→World→Prop} {QA:List AV→AH→Prop} (hQ:∀ env h a w,QA env h→St B w0 g0 D env h a w→Q .normal a w) :
  ∀ (rest:List Oper) (k:Nat) (env:List AV) (h:AH) (a:Act) (w:World),ops.toList.drop k=rest→yn P ops QA rest env h→St B w0 g0 D env h a w→wpOpsIn (WF ro) n P ops Q (List.range' k rest.length) a w
 | [],k,env,h,a,w,_,hw,hs=>hQ env h a w hw hs
 | o::rest,k,env,h,a,w,hd,hw,hs=>by
  have ho:ops[k]?=some o:=by
   rw [← Array.getElem?_toList]
   have:=congrArg (·[0]?) hd
   grind
  have hd':ops.toList.drop (k+1)=rest:=by
   rw [← List.drop_drop,hd];rfl
  simp only [List.length_cons,List.range'_succ,wpOpsIn,ho]
  obtain ⟨env,h,hsw,hw⟩:=hw
  obtain ⟨g0',hg0,r0,he0,hD⟩:=hs
  obtain ⟨g,hgg,r,he⟩:=hsw _ _ _ _ _ r0 he0
  have hg:=hg0.trans hgg
  have hs:St B w0 g0 D env h a w:=⟨g,hg,r,he,hD⟩
  cases hb:aG ops o env with
  | none=>rw [hb] at hw;exact hw.elim
  | some b =>
   have hwant:=vM he hb
   rw [hb] at hw
   rw [hwant]
   cases b with
   | true =>
    simp only [gwp] at hw
    simp only [if_true]
    have hnx:∀ v h' u w',yn P ops QA rest (setd env o.dst v) h'→(∃ g',g0.le g'∧Rel B w0 g' h' w'∧VL g' env a.tmps.toList∧V g' v u)→wpOpsIn (WF ro) n P ops Q (List.range' (k+1) rest.length) (a.put o.dst u) w':=fun v h' u w' hK ⟨g',h1,h2,h3,h4⟩ =>
     ops_sound hQ rest (k+1) _ h' _ w' hd' hK ⟨g',h1,h2,h3.setd o.dst h4,by rw [wS];exact hD⟩
    rcases hw with hw | hw
    ·exact step_sound hs hw hnx
    ·exact bstep_sound hs hw hnx
   | false =>
    simp only [gwp] at hw
    simp only [Bool.false_eq_true,if_false]
    exact ⟨fun _ _=>trivial,ops_sound hQ rest (k+1) _ h _ w hd' hw ⟨g,hg,r,he.setd o.dst V.ofUndef,by rw [wS];exact hD⟩⟩

theorem any_sound {ops:Array Oper} {Q:Exit→Act→World→Prop} {QA:List AV→AH→Prop} (hQ:∀ env h a w,QA env h→St B w0 g0 D env h a w→Q .normal a w) :
  ∀ (m:Nat) (listed:Array Bool) (env:List AV) (h:AH) (a:Act) (w:World),awpAny P ops QA m listed env h→St B w0 g0 D env h a w→wpAnyIn (WF ro) n P .any ops Q m listed a w
 | 0,listed,env,h,a,w,hw,hs=>⟨hw.1,hQ env h a w hw.2 hs⟩
 | m+1,listed,env,h,a,w,hw,hs=>by
  refine ⟨fun e=>hQ env h a w (hw.1 e) hs,fun i hi=>?_⟩
  unfold wpOpIn
  cases ho:ops[i]? with
  | none =>
   exfalso
   unfold Region.ready at hi
   simp_all
  | some o =>
   have hw:=hw.2 i hi o ho
   simp only
   obtain ⟨g,hg,r,he,hD⟩:=hs
   have hs:St B w0 g0 D env h a w:=⟨g,hg,r,he,hD⟩
   cases hb:aG ops o env with
   | none=>rw [hb] at hw;exact hw.elim
   | some b =>
    have hwant:=vM he hb
    rw [hb] at hw
    rw [hwant]
    cases b with
    | true =>
     simp only [gwp] at hw
     simp only [if_true]
     have hnx:∀ v h' u w',awpAny P ops QA m (listed.setIfInBounds i true) (setd env o.dst v) h'→(∃ g',g0.le g'∧Rel B w0 g' h' w'∧VL g' env a.tmps.toList∧V g' v u)→wpAnyIn (WF ro) n P .any ops Q m (listed.setIfInBounds i true) (a.put o.dst u) w':=fun v h' u w' hK ⟨g',h1,h2,h3,h4⟩ =>
      any_sound hQ m _ _ h' _ w' hK ⟨g',h1,h2,h3.setd o.dst h4,by rw [wS];exact hD⟩
     rcases hw with hw | hw
     ·exact step_sound hs hw hnx
     ·exact bstep_sound hs hw hnx
    | false =>
     simp only [gwp] at hw
     simp only [Bool.false_eq_true,if_false]
     exact ⟨fun _ _=>trivial,any_sound hQ m _ _ h _ w hw ⟨g,hg,r,he.setd o.dst V.ofUndef,by rw [wS];exact hD⟩⟩
end
end Go.Vv
namespace Go.Vv
open Go Go.RowKit Go.Lib

def befF (acc:Array Nat) (o:Oper):Array Nat:=acc.push (o.after.foldl (fun s e=>if Region.binds .any e then s ||| 2 ^ e.on ||| acc.getD e.on 0 else s) 0)
theorem before_eq (ops:Array Oper):Region.before ops=ops.toList.foldl befF #[]:=by
 unfold Region.before
 rw [← Array.foldl_toList];rfl
theorem bef_size:∀ (l:List Oper) (acc:Array Nat),(l.foldl befF acc).size=acc.size+l.length
 | [],acc=>by simp
 | o::r,acc=>by simp only [List.foldl_cons,bef_size r,befF,Array.size_push,List.length_cons];omega
theorem bef_keep:∀ (l:List Oper) (acc:Array Nat) (j:Nat),j < acc.size→(l.foldl befF acc).getD j 0=acc.getD j 0
 | [],acc,j,_=>rfl
 | o::r,acc,j,h=>by
  simp only [List.foldl_cons]
  rw [bef_keep r _ j (by simp [befF];omega)]
  simp [befF,Array.getD_eq_getD_getElem?,Array.getElem?_push,Nat.ne_of_lt h]
theorem edges_bit (acc:Array Nat) (w:Nat):∀ (es:List Edge) (s:Nat),(es.foldl (fun s e=>if Region.binds .any e then s ||| 2 ^ e.on ||| acc.getD e.on 0 else s) s).testBit w=true →
  s.testBit w=true ∨ ∃ e ∈ es,Region.binds .any e=true∧(e.on=w ∨ (acc.getD e.on 0).testBit w=true)
 | [],s,h=>.inl h
 | e::r,s,h=>by
  simp only [List.foldl_cons] at h
  rcases edges_bit acc w r _ h with h | ⟨e',he',hb,hh⟩
  ·grind
  ·grind
theorem before_spec {ops:Array Oper} {i w:Nat} {o:Oper} (hi:ops[i]?=some o) (h:((Region.before ops).getD i 0).testBit w=true) :
  ∃ e ∈ o.after,Region.binds .any e=true∧(e.on=w ∨ (e.on < i∧((Region.before ops).getD e.on 0).testBit w=true)):=by
 have hl:ops.toList[i]?=some o:=by simp_all
 obtain ⟨hlt,_⟩:=List.getElem?_eq_some_iff.1 hl
 have hsplit:ops.toList=ops.toList.take i++o::ops.toList.drop (i+1):=by
  have:=List.getElem_cons_drop hlt
  simp_all
 generalize hA:(ops.toList.take i).foldl befF #[]=acc
 have hsz:acc.size=i:=by rw [← hA,bef_size];simp at hlt ⊢;omega
 have hb:Region.before ops=(ops.toList.drop (i+1)).foldl befF (befF acc o):=by
  rw [before_eq]
  conv=>lhs;rw [hsplit]
  grind
 have hval:(Region.before ops).getD i 0=o.after.foldl (fun s e=>if Region.binds .any e then s ||| 2 ^ e.on ||| acc.getD e.on 0 else s) 0:=by
  rw [hb,bef_keep _ _ _ (by simp [befF,hsz])]
  subst hsz
  simp [befF,Array.getD_eq_getD_getElem?]
 rw [hval,← Array.foldl_toList] at h
 rcases edges_bit acc w o.after.toList 0 h with h | ⟨e,he,hbe,hh⟩
 ·grind
 ·refine ⟨e,by grind,hbe,hh.imp id fun hh=>?_⟩
  have hei:e.on < i:=by
   grind
  refine ⟨hei,?_⟩
  rw [hb,bef_keep _ _ _ (by simp [befF,hsz];omega)]
  have:(befF acc o).getD e.on 0=acc.getD e.on 0:=by simp [befF,Array.getD_eq_getD_getElem?,Array.getElem?_push,hsz,Nat.ne_of_lt hei]
  grind

theorem ev_congr {env env':List AV} {x:Operand} (h:∀ t,x=.tmp t→env[t]?=env'[t]?):ev env x=ev env' x:=by
 cases x with
 | tmp t=>simp only [ev,List.getD_eq_getElem?_getD,h t rfl]
 | _=>rfl
theorem looks_op {ops:Array Oper} {o:Oper} {t:Tmp} (h:Operand.tmp t ∈ o.op.operands):t ∈ o.looksAt ops:=by
 unfold Oper.looksAt
 refine List.mem_append.2 (.inl (List.mem_filterMap.2 ⟨.tmp t,by simpa using h,rfl⟩))
theorem looks_guard {ops:Array Oper} {o:Oper} {j:Nat} {b:Bool} {d:Tmp} (hg:o.guard=some (j,b)) (hd:(ops[j]?).bind (·.dst)=some d):d ∈ o.looksAt ops:=by
 unfold Oper.looksAt
 simp_all
theorem aG_congr {ops:Array Oper} {o:Oper} {env env':List AV} (h:∀ t ∈ o.looksAt ops,env[t]?=env'[t]?):aG ops o env=aG ops o env':=by
 unfold aG
 split
 ·rfl
 ·rename_i j want hg
  split
  ·rfl
  ·rename_i d hd
   rw [h d (looks_guard hg hd)]

theorem aParts_congr {P:Program} {d:TypeDesc} {env env':List AV} {parts:Array (Nat×Operand)} (h:∀ p ∈ parts.toList,ev env p.2=ev env' p.2):y8 P d env parts=y8 P d env' parts:=by
 unfold y8
 exact List.map_congr_left fun p hp=>by rw [h p hp]

theorem astep_congr {P:Program} {o:Oper} {env env':List AV} {h:AH} (he:∀ x ∈ o.op.operands,ev env x=ev env' x):zK P o env h=zK P o env' h:=by
 unfold zK
 cases ho:o.op <;> rw [ho] at he <;> simp only [Op.operands] at he ⊢
 case move x=>rw [he x (by simp)]
 case assign x=>rw [he x (by simp)]
 case pick c a b=>rw [he c (by simp),he a (by simp),he b (by simp)]
 case box t x=>rw [he x (by simp)]
 case build t parts =>
  have hp:∀ d,y8 P d env parts=y8 P d env' parts:=fun d=>aParts_congr fun p hp=>he p.2 (by grind)
  simp_all
 case buildSlice t n parts =>
  have hp:∀ d,y8 P d env parts=y8 P d env' parts:=fun d=>aParts_congr fun p hp=>he p.2 (by grind)
  simp_all
 case load t x=>rw [he x (by simp)]
 case store t x y=>rw [he x (by simp),he y (by simp)]
 case nilCheck x=>rw [he x (by simp)]
 case binOp op t x y yt=>rw [he x (by simp),he y (by simp)]
 case unOp op t x=>rw [he x (by simp)]
 case convert s t x=>rw [he x (by simp)]
 case makeFunc f a b =>
  have h1:a.toList.map (ev env)=a.toList.map (ev env'):=List.map_congr_left fun x hx=>he x (by simp_all)
  have h2:b.toList.map (ev env)=b.toList.map (ev env'):=List.map_congr_left fun x hx=>he x (by simp_all)
  grind
 case slice t x lo hi mx =>
  have h1:lo.map (ev env)=lo.map (ev env'):=by cases lo with | none=>rfl | some y=>simp [he y (by simp)]
  have h2:hi.map (ev env)=hi.map (ev env'):=by cases hi with | none=>rfl | some y=>simp [he y (by simp)]
  have h3:mx.map (ev env)=mx.map (ev env'):=by cases mx with | none=>rfl | some y=>simp [he y (by simp)]
  simp_all
 case fieldAddr t x f=>rw [he x (by simp)]
 case field t x f=>rw [he x (by simp)]
 case indexAddr t x i=>rw [he x (by simp),he i (by simp)]
 case index t x i=>rw [he x (by simp),he i (by simp)]
 case extract x i=>rw [he x (by simp)]
 case range t x=>rw [he x (by simp)]
 case next x s=>rw [he x (by simp)]
 case lookup t x i ok=>rw [he x (by simp),he i (by simp)]
 case mapEntry t x i=>rw [he x (by simp),he i (by simp)]
 case entryStore t x i y=>rw [he x (by simp),he i (by simp),he y (by simp)]
 case mapUpdate t x i y=>rw [he x (by simp),he i (by simp),he y (by simp)]
 case makeMap t r=>cases r <;> rfl
 case call c =>
  have h1:c.args.toList.map (ev env)=c.args.toList.map (ev env'):=List.map_congr_left fun x hx=>he x (by simp [Call.operands];exact .inr (by simp_all))
  have h2:(c.args.toList.zip c.argTypes.toList).map (fun p=>tyfix P p.2 (ev env p.1))=(c.args.toList.zip c.argTypes.toList).map (fun p=>tyfix P p.2 (ev env' p.1)) :=
   List.map_congr_left fun p hp=>by rw [he p.1 (by simp [Call.operands];exact .inr (by simpa using (List.of_mem_zip hp).1))]
  rw [h1,h2]
  split
  ·split
   ·rfl
   ·rename_i f hc
    rw [he f (by simp [Call.operands,hc])]
   ·rename_i x m hc
    rw [he x (by simp [Call.operands,hc])]
  ·rfl

theorem bstep_congr {P:Program} {o:Oper} {env env':List AV} {h:AH} (he:∀ x ∈ o.op.operands,ev env x=ev env' x):q6 P o env h=q6 P o env' h:=by
 unfold q6
 cases ho:o.op <;> rw [ho] at he <;> simp only [Op.operands] at he ⊢
 case range t x=>rw [he x (by simp)]
 case next x s=>cases s <;> simp only;rw [he x (by simp)]
 case entry x=>rw [he x (by simp)]
 case buildSlice t n parts =>
  have hp:∀ d,y8 P d env parts=y8 P d env' parts:=fun d=>aParts_congr fun p hp=>he p.2 (by grind)
  simp_all
 case convert s t x=>rw [he x (by simp)]
 case makeInterface t x=>rw [he x (by simp)]
 case typeAssert x u t ok=>rw [he x (by simp)]
 case slice t x lo hi mx =>
  split <;> first | rfl | skip
  all_goals (rename_i h0;try (cases h0))
  all_goals first
   | rfl
   | (rename_i y;rw [he x (by simp),he y (by simp)])
 case insert t m k x =>
  have:zK P { o with op:=.mapUpdate t m k x } env h=zK P { o with op:=.mapUpdate t m k x } env' h:=astep_congr fun y hy=>he y (by simpa [Op.operands] using hy)
  rw [this]
 case call c =>
  have h1:∀ x ∈ c.args.toList,ev env x=ev env' x:=fun x hx=>he x (by simp [Call.operands];exact .inr (by simp_all))
  split
  ·simp_all
  ·simp_all
  ·simp_all
  ·simp_all
  ·rfl
theorem bstep_still {P:Program} {o:Oper} {env:List AV} {h h':AH} {v:AV} (hne:isEff o.op=false) (hd:bdraw o.op=true) (hb:q6 P o env h=some [(v,h')]):h'=h∧∀ h2,q6 P o env h2=some [(v,h2)]:=by
 unfold q6 at hb ⊢
 cases ho:o.op <;> rw [ho] at hne hb hd <;> simp only [isEff,bdraw,reduceCtorEq] at hne hb hd ⊢
 case convert s t x =>
  by_cases hok:yo x=true
  ·simp only [hok,if_true] at hb ⊢
   cases h1:convX P s t (ev env x) with
   | some l =>
    simp only [h1,Option.some.injEq,List.cons.injEq,Prod.mk.injEq,and_true] at hb ⊢
    obtain ⟨rfl,rfl⟩:=hb
    exact ⟨rfl,fun _=>rfl⟩
   | none =>
    simp only [h1] at hb ⊢
    cases h2:convBy P s t (ev env x) with
    | some l =>
     simp only [h2,Option.some.injEq,List.cons.injEq,Prod.mk.injEq,and_true] at hb ⊢
     obtain ⟨rfl,rfl⟩:=hb
     exact ⟨rfl,fun _=>rfl⟩
    | none=>simp only [h2] at hb;cases hb
  ·simp only [hok] at hb
   cases hb
 case makeInterface t x =>
  grind
 case typeAssert x u t ok =>
  split at hb
  ·rename_i hok
   split at hb
   ·cases hb
   ·split at hb
    ·simp_all
    ·grind
   ·cases hb
  ·cases hb
 case call c =>
  grind
theorem aLoad_blks {h h2:AH} (hb:h2.blks=h.blks) (ag:Bool) (n:Nat) (p:AV):aLoad h2 ag n p=aLoad h ag n p:=by
 unfold aLoad AH.blk
 rw [hb]

theorem astep_still {P:Program} {o:Oper} {env:List AV} {h:AH} (hne:isEff o.op=false) :
  (∃ x:Option AV,∀ h2:AH,(isRd o.op=true→h2.blks=h.blks)→zK P o env h2=oo h2 x) ∨ (∃ n v,∀ h2:AH,zK P o env h2=.len n v h2) ∨ (∀ h2:AH,(∃ S,zK P o env h2=.any S) ∨ zK P o env h2=.fail):=by
 cases ho:o.op <;> rw [ho] at hne <;> simp only [isEff,reduceCtorEq] at hne <;> simp only [zK,ho]
 case call c =>
  obtain ⟨callee,a5,ts⟩:=c
  cases callee with
  | value f=>simp at hne
  | invoke x m=>simp at hne
  | builtin b =>
   cases b <;> simp only [reduceCtorEq] at hne
   simp only [qP]
   split
   ·split
    ·split
     ·split
      ·simp_all
      ·simp_all
     ·split
      ·simp_all
      ·simp_all
     ·grind
     ·simp_all
    ·simp_all
    ·simp_all
    ·simp_all
    ·simp_all
   ·simp_all
 case binOp op t x y u =>
  split
  ·cases hq:aNilq P op t h (ev env x) (ev env y) with
   | none =>
    have hn:∀ h2,aNilq P op t h2 (ev env x) (ev env y)=none:=by
     intro h2
     unfold aNilq at hq ⊢
     split at hq
     ·grind
     ·grind
     ·rfl
    exact .inl ⟨_,fun h2 _=>by rw [hn h2]⟩
   | some S =>
    refine .inr (.inr fun h2=>?_)
    have:∃ S',aNilq P op t h2 (ev env x) (ev env y)=some S':=by
     unfold aNilq at hq ⊢
     grind
    grind
  ·simp_all
 case load t x =>
  split
  ·exact .inl ⟨_,fun h2 hb=>by rw [aLoad_blks (hb rfl)]⟩
  ·simp_all
 all_goals
  (repeat' split) <;> first
   | exact .inl ⟨none,fun _ _=>rfl⟩
   | exact .inl ⟨some _,fun _ _=>rfl⟩
   | exact .inl ⟨_,fun _ _=>rfl⟩
end Go.Vv
namespace Go.Vv
open Go Go.RowKit Go.Lib

def dstAt (ops:Array Oper) (k:Nat):Option Tmp:=(ops[k]?).bind (·.dst)
def x8 (ops:Array Oper) (Ns:List Nat) (k:Nat):Bool:=match ops[k]? with | some o=>effN Ns k o.op | none=>false
def fE (ops:Array Oper) (vs:Nat→AV) (S:Nat→Bool) (env:List AV):Nat→List AV
 | 0=>env
 | k+1=>if S k then setd (fE ops vs S env k) (dstAt ops k) (vs k) else fE ops vs S env k
def fH (ops:Array Oper) (Ns:List Nat) (hs:Nat→AH) (S:Nat→Bool):Nat→AH
 | 0=>hs 0
 | k+1=>if S k&&x8 ops Ns k then hs (k+1) else fH ops Ns hs S k

section
variable {ops:Array Oper} {Ns:List Nat} {vs:Nat→AV} {hs:Nat→AH} {env:List AV}

theorem setd_len (env:List AV) (d:Option Tmp) (v:AV):(setd env d v).length=env.length:=by cases d <;> simp [setd]
theorem fE_len (S:Nat→Bool):∀ k,(fE ops vs S env k).length=env.length
 | 0=>rfl
 | k+1=>by
  simp only [fE]
  split
  ·rw [setd_len,fE_len S k]
  ·exact fE_len S k
theorem setd_get_ne {env:List AV} {d:Option Tmp} {v:AV} {t:Nat} (h:d ≠ some t):(setd env d v)[t]?=env[t]?:=by
 cases d with
 | none=>rfl
 | some d=>simp only [setd];exact List.getElem?_set_ne (fun e=>h (by rw [e]))
theorem fE_at {S T:Nat→Bool} {t:Nat}:∀ k,(∀ w,w < k→dstAt ops w=some t→S w=T w)→(fE ops vs S env k)[t]?=(fE ops vs T env k)[t]?
 | 0,_=>rfl
 | k+1,h=>by
  have ih:=fE_at (S:=S) (T:=T) k fun w hw hd=>h w (by omega) hd
  simp only [fE]
  by_cases hd:dstAt ops k=some t
  ·have hST:=h k (by omega) hd
   rw [hST,hd]
   cases T k
   ·simp_all
   ·simp only [if_true,setd,List.getElem?_set,fE_len]
  ·have h1:(if S k then setd (fE ops vs S env k) (dstAt ops k) (vs k) else fE ops vs S env k)[t]?=(fE ops vs S env k)[t]?:=by
    split
    ·exact setd_get_ne hd
    ·rfl
   have h2:(if T k then setd (fE ops vs T env k) (dstAt ops k) (vs k) else fE ops vs T env k)[t]?=(fE ops vs T env k)[t]?:=by
    split
    ·exact setd_get_ne hd
    ·rfl
   simp_all
theorem fE_eq {S T:Nat→Bool}:∀ k,(∀ w,w < k→S w=T w)→fE ops vs S env k=fE ops vs T env k
 | 0,_=>rfl
 | k+1,h=>by simp only [fE,h k (by omega),fE_eq k fun w hw=>h w (by omega)]
theorem fE_stop {S:Nat→Bool} {i:Nat} (h:∀ w,i≤w→S w=false):∀ m,fE ops vs S env (i+m)=fE ops vs S env i
 | 0=>rfl
 | m+1=>by rw [← Nat.add_assoc];simp only [fE,h (i+m) (by omega),Bool.false_eq_true,if_false];exact fE_stop h m
theorem fE_last {S:Nat→Bool} {i t n:Nat} (hi:S i=true) (hd:dstAt ops i=some t) (ht:t < env.length) (hlt:i < n) (h:∀ w,i < w→w < n→dstAt ops w=some t→S w=false) :
  (fE ops vs S env n)[t]?=some (vs i):=by
 obtain ⟨m,rfl⟩:∃ m,n=i+1+m:=⟨n - (i+1),by omega⟩
 induction m with
 | zero =>
  simp only [fE,hi,if_true,hd,setd]
  rw [List.getElem?_set_self (by rw [fE_len];exact ht)]
 | succ m ih =>
  rw [← Nat.add_assoc]
  simp only [fE]
  have ih':=ih (by omega) fun w h1 h2=>h w h1 (by omega)
  split
  ·rename_i hS
   by_cases hd':dstAt ops (i+1+m)=some t
   ·grind
   ·rw [setd_get_ne hd'];exact ih'
  ·omega
theorem fH_eq {S T:Nat→Bool}:∀ k,(∀ e,e < k→x8 ops Ns e=true→S e=T e)→fH ops Ns hs S k=fH ops Ns hs T k
 | 0,_=>rfl
 | k+1,h=>by
  simp only [fH,fH_eq k fun e he=>h e (by omega)]
  grind
theorem fH_all {S:Nat→Bool} (hn:∀ k,x8 ops Ns k=false→hs (k+1)=hs k):∀ k,(∀ e,e < k→x8 ops Ns e=true→S e=true)→fH ops Ns hs S k=hs k
 | 0,_=>rfl
 | k+1,h=>by
  simp only [fH]
  cases he:x8 ops Ns k with
  | true=>simp [h k (by omega) he]
  | false=>simp only [Bool.and_false,Bool.false_eq_true,if_false,fH_all hn k fun e he=>h e (by omega)];exact (hn k he).symm
theorem fH_stop {S:Nat→Bool} {i:Nat} (h:∀ w,i≤w→x8 ops Ns w=true→S w=false):∀ m,fH ops Ns hs S (i+m)=fH ops Ns hs S i
 | 0=>rfl
 | m+1=>by
  rw [← Nat.add_assoc];simp only [fH]
  rw [if_neg]
  ·exact fH_stop h m
  ·grind
theorem fH_blks {S T:Nat→Bool} (hn:∀ k,x8 ops Ns k=false→hs (k+1)=hs k):∀ k,
  (∀ e,e < k→x8 ops Ns e=true→S e ≠ T e→(hs (e+1)).blks=(hs e).blks) →
  (∀ e e',e < e'→e' < k→x8 ops Ns e=true→x8 ops Ns e'=true→S e'=true→S e=true)→(∀ e e',e < e'→e' < k→x8 ops Ns e=true→x8 ops Ns e'=true→T e'=true→T e=true) →
  (fH ops Ns hs S k).blks=(fH ops Ns hs T k).blks
 | 0,_,_,_=>rfl
 | k+1,h,pS,pT=>by
  have ih:=fH_blks (S:=S) (T:=T) hn k (fun e he=>h e (by omega)) (fun e e' h1 h2=>pS e e' h1 (by omega)) (fun e e' h1 h2=>pT e e' h1 (by omega))
  simp only [fH]
  cases he:x8 ops Ns k with
  | false=>simpa using ih
  | true =>
   simp only [Bool.and_true]
   cases hS:S k <;> cases hT:T k
   ·simp_all
   ·simp only [Bool.false_eq_true,if_false,if_true]
    rw [h k (by omega) he (by simp_all),ih]
    rw [fH_all hn k fun e he' hh=>pT e k he' (by omega) hh he hT]
   ·simp only [Bool.false_eq_true,if_false,if_true]
    rw [h k (by omega) he (by simp_all),← ih]
    rw [fH_all hn k fun e he' hh=>pS e k he' (by omega) hh he hS]
   ·simp

theorem count_lt {p q:Nat→Bool}:∀ (l:List Nat),(∀ x ∈ l,p x=true→q x=true)→(∃ x ∈ l,q x=true∧p x=false)→l.countP p < l.countP q
 | [],_,⟨x,hx,_⟩=>by cases hx
 | y::r,h,⟨x,hx,hq,hp⟩=>by
  have hmono:r.countP p≤r.countP q:=List.countP_mono_left fun z hz=>h z (by simp [hz])
  simp only [List.countP_cons]
  rcases List.mem_cons.1 hx with rfl | hx
  ·grind
  ·have ih:=count_lt r (fun z hz=>h z (by simp [hz])) ⟨x,hx,hq,hp⟩
   grind
end
section
variable {P:Program} {B:Nat} {w0:World} {g0:Gh} {D:List Deferred} {ro:Option Nat} {n:Nat} {ops:Array Oper} {Ns:List Nat} {F:Nat→AH→Prop} [GOk P B w0]

theorem drawOk_edge (h:drawOk ops Ns=true) {i:Nat} {o:Oper} (hi:ops[i]?=some o):∀ e ∈ o.after,Region.binds .any e=true→e.on < i:=by
 unfold drawOk at h
 simp only [List.all_eq_true] at h
 have hm:(o,i) ∈ ops.toList.zipIdx:=by grind
 have:=h (o,i) hm
 simp only [Bool.and_eq_true] at this
 intro e he hb
 have h1:=Array.all_eq_true_iff_forall_mem.1 this.1 e he
 simp_all
theorem before_lt (h:drawOk ops Ns=true):∀ (i w:Nat),((Region.before ops).getD i 0).testBit w=true→w < i:=by
 intro i
 induction i using Nat.strongRecOn with
 | _ i ih =>
  intro w hw
  rcases hi:ops[i]? with _ | o
  ·have:(Region.before ops).getD i 0=0:=by
    rw [before_eq,Array.getD_eq_getD_getElem?,Array.getElem?_eq_none]
    ·rfl
    rw [bef_size];simp at hi ⊢;exact hi
   simp_all
  ·obtain ⟨e,he,hb,hh⟩:=before_spec hi hw
   have h1:=drawOk_edge h hi e he hb
   grind
theorem drawOk_pair (h:drawOk ops Ns=true) {i j:Nat} {o o':Oper} (hi:ops[i]?=some o) (hj:ops[j]?=some o') (hne:i ≠ j) (hc:cmpb (Region.before ops) i j=false) :
  (∀ d,o.dst=some d→d ∉ o'.looksAt ops∧o'.dst ≠ some d)∧(effN Ns i o.op=true→effN Ns j o'.op=false):=by
 unfold drawOk at h
 simp only [List.all_eq_true] at h
 have hm:(o,i) ∈ ops.toList.zipIdx:=by grind
 have hm':(o',j) ∈ ops.toList.zipIdx:=by grind
 grind

theorem fE_none {vs:Nat→AV} {env:List AV} {S:Nat→Bool}:∀ k,(∀ w,w < k→S w=false)→fE ops vs S env k=env
 | 0,_=>rfl
 | k+1,h=>by simp only [fE,h k (by omega),Bool.false_eq_true,if_false];exact fE_none k fun w hw=>h w (by omega)

theorem AR.still {o:Oper} {env:List AV} {h h':AH} {v:AV} (hne:isEff o.op=false) (hr:AR P ops o env h v h'):h'=h:=by
 unfold AR at hr
 split at hr
 ·rcases astep_still (P:=P) (env:=env) (h:=h) hne with ⟨x,hx⟩ | ⟨n,u,hx⟩ | hx
  ·rw [hx h fun _=>rfl] at hr
   cases x with
   | none=>exact hr.elim
   | some v'=>exact hr.2
  ·simp_all
  ·grind
 ·exact hr.2
 ·simp_all

theorem ARN.still {i:Nat} {o:Oper} {env:List AV} {h h':AH} {v:AV} (hne:effN Ns i o.op=false) (hr:ARN P ops Ns F i o env h v h'):h'=h:=by
 rcases hr with ⟨h1,h2⟩ | ⟨_,_,h2,_⟩ | ⟨h1,hbd,_,h2⟩
 ·refine AR.still ?_ h2
  simp only [effN,h1,Bool.not_false,Bool.and_true] at hne
  omega
 ·exact h2
 ·simp only [effN,h1,Bool.not_false,Bool.and_true] at hne
  exact (bstep_still hne hbd h2).1
theorem draw_seq {QA:List AV→AH→Prop}:∀ (rest:List Oper) (k:Nat) (env:List AV) (h:AH),ops.toList.drop k=rest→k≤ops.size→yy P ops Ns F QA k rest env h →
  ∃ (vs:Nat→AV) (hs:Nat→AH),hs k=h∧(∀ i o,k≤i→ops[i]?=some o→ARN P ops Ns F i o (fE ops vs (fun w=>decide (k≤w)) env i) (hs i) (vs i) (hs (i+1))∧(anch ops Ns i=true ∨ (hs (i+1)).blks=(hs i).blks)∧(hs (i+1)=hs i ∨ FOk ((Region.before ops).getD i 0) Ns F (hs (i+1)))) ∧
   QA (fE ops vs (fun w=>decide (k≤w)) env ops.size) (hs ops.size)
 | [],k,env,h,hd,hkn,hw=>by
  have hk:k=ops.size:=by
   have:=congrArg List.length hd
   grind
  subst hk
  refine ⟨fun _=>za,fun _=>h,rfl,fun i o hi ho=>?_,?_⟩
  ·simp_all
  ·rw [fE_none _ fun w hw=>by simp;omega];exact hw
 | o::rest,k,env,h,hd,hkn,hw=>by
  have ho:ops[k]?=some o:=by
   rw [← Array.getElem?_toList]
   have:=congrArg (·[0]?) hd
   grind
  have hkl:k < ops.size:=(Array.getElem?_eq_some_iff.1 ho).1
  have hd':ops.toList.drop (k+1)=rest:=by
   rw [← List.drop_drop,hd];rfl
  obtain ⟨v,h',har,hanch,hF',hrest⟩:=hw
  obtain ⟨vs,hs,h0,h1,h2⟩:=draw_seq rest (k+1) _ h' hd' (by omega) hrest
  have hdst:dstAt ops k=o.dst:=by simp [dstAt,ho]
  let vs':Nat→AV:=fun w=>if w=k then v else vs w
  let hs':Nat→AH:=fun w=>if w≤k then h else hs w
  have key:∀ m,fE ops vs' (fun w=>decide (k≤w)) env (k+1+m)=fE ops vs (fun w=>decide (k+1≤w)) (setd env o.dst v) (k+1+m):=by
   intro m
   induction m with
   | zero =>
    simp only [Nat.add_zero]
    rw [fE_none (S:=fun w=>decide (k+1≤w)) (k+1) fun w hw=>by simp;omega]
    simp only [fE,Nat.le_refl,decide_true,if_true,hdst]
    rw [fE_none (S:=fun w=>decide (k≤w)) k fun w hw=>by simp;omega]
    grind
   | succ m ih =>
    rw [← Nat.add_assoc]
    simp only [fE,ih]
    grind
  refine ⟨vs',hs',by simp [hs'],fun i o' hi ho'=>?_,?_⟩
  ·rcases Nat.eq_or_lt_of_le hi with rfl | hi
   ·rw [ho] at ho';injection ho' with ho';subst ho'
    rw [fE_none (S:=fun w=>decide (k≤w)) k fun w hw=>by simp;omega]
    grind
   ·obtain ⟨m,rfl⟩:∃ m,i=k+1+m:=⟨i - (k+1),by omega⟩
    grind
  ·obtain ⟨m,hm⟩:∃ m,ops.size=k+1+m:=⟨ops.size - (k+1),by omega⟩
   grind

theorem draw_sound (hok:drawOk ops Ns=true) {Q:Exit→Act→World→Prop} {vs:Nat→AV} {hs:Nat→AH} {env:List AV}
  (hFs:∀ n,F n (hs 0)) (hc:∀ i o,ops[i]?=some o→ARN P ops Ns F i o (fE ops vs (fun _=>true) env i) (hs i) (vs i) (hs (i+1))∧(anch ops Ns i=true ∨ (hs (i+1)).blks=(hs i).blks)∧(hs (i+1)=hs i ∨ FOk ((Region.before ops).getD i 0) Ns F (hs (i+1))))
  (hQ:∀ a w,St B w0 g0 D (fE ops vs (fun _=>true) env ops.size) (hs ops.size) a w→Q .normal a w) :
  ∀ (fuel:Nat) (listed:Array Bool) (a:Act) (w:World),listed.size=ops.size→(List.range ops.size).countP (fun i=>!listed.getD i false)≤fuel →
   (∀ i j,listed.getD i false=true→((Region.before ops).getD i 0).testBit j=true→listed.getD j false=true) →
   St B w0 g0 D (fE ops vs (fun i=>listed.getD i false) env ops.size) (fH ops Ns hs (fun i=>listed.getD i false) ops.size) a w →
   wpAnyIn (WF ro) n P .any ops Q fuel listed a w:=by
 have hn:∀ k,x8 ops Ns k=false→k < ops.size→hs (k+1)=hs k:=fun k he hk=>by
  have ho:ops[k]?=some ops[k]:=Array.getElem?_eq_getElem hk
  exact ARN.still (by simpa [x8,ho] using he) (hc k _ ho).1
 -- beyond the region nothing is asked
 let hs2:Nat→AH:=fun k=>if k≤ops.size then hs k else hs ops.size
 have hs2e:∀ k,k≤ops.size→hs2 k=hs k:=fun k hk=>by grind
 have hn2:∀ k,x8 ops Ns k=false→hs2 (k+1)=hs2 k:=fun k he=>by
  grind
 have fH2:∀ (S:Nat→Bool) k,k≤ops.size→fH ops Ns hs S k=fH ops Ns hs2 S k:=fun S k=>by
  induction k with
  | zero=>intro _;simp only [fH];exact (hs2e 0 (by omega)).symm
  | succ k ih=>intro hk;simp only [fH,ih (by omega),hs2e (k+1) hk]
 -- all has come
 have fin:∀ (listed:Array Bool) (a:Act) (w:World),listed.size=ops.size→Region.ready .any ops listed=[] →
   St B w0 g0 D (fE ops vs (fun i=>listed.getD i false) env ops.size) (fH ops Ns hs (fun i=>listed.getD i false) ops.size) a w→Q .normal a w:=by
  intro listed a w hsz hr hst
  have hall:∀ i,i < ops.size→listed.getD i false=true:=by
   intro i
   induction i using Nat.strongRecOn with
   | _ i ih =>
    intro hi
    rcases hb:listed.getD i false with _ | _
    ·exfalso
     have:i ∈ Region.ready .any ops listed:=by
      unfold Region.ready
      rw [List.mem_filter]
      refine ⟨by simp_all,?_⟩
      have h1:listed.getD i true=false:=by
       simp_all
      have ho:ops[i]?=some ops[i]:=Array.getElem?_eq_getElem hi
      simp only [h1,Bool.not_false,ho,Option.map_some,Option.getD_some,Bool.true_and]
      rw [Array.all_eq_true_iff_forall_mem]
      intro e he
      cases hbe:Region.binds .any e with
      | false=>rfl
      | true =>
       have hlt:=drawOk_edge hok ho e he hbe
       grind
     simp_all
    ·rfl
  refine hQ a w ?_
  rw [fE_eq (T:=fun _=>true) ops.size fun w hw=>hall w hw] at hst
  rw [fH2 _ _ (Nat.le_refl _),fH_all hn2 ops.size fun e he _=>hall e he,hs2e _ (Nat.le_refl _)] at hst
  omega
 intro fuel
 induction fuel with
 | zero =>
  intro listed a w hsz hcnt hcl hst
  have hr:Region.ready .any ops listed=[]:=by
   rcases hrr:Region.ready .any ops listed with _ | ⟨i,r⟩
   ·rfl
   ·exfalso
    have hi:i ∈ Region.ready .any ops listed:=by simp_all
    unfold Region.ready at hi
    grind
  exact ⟨hr,fin listed a w hsz hr hst⟩
 | succ fuel ih =>
  intro listed a w hsz hcnt hcl hst
  refine ⟨fun hr=>fin listed a w hsz hr hst,fun i hi=>?_⟩
  unfold Region.ready at hi
  rw [List.mem_filter] at hi
  have hlt:i < ops.size:=by simp_all
  have ho:ops[i]?=some ops[i]:=Array.getElem?_eq_getElem hlt
  generalize hoo:ops[i]=o at ho
  have hi2:=hi.2
  simp only [ho,Option.map_some,Option.getD_some,Bool.and_eq_true,Bool.not_eq_true'] at hi2
  have hil:i < listed.size:=by omega
  have hSi:listed.getD i false=false:=by
   grind
  have hedge:∀ e ∈ o.after,Region.binds .any e=true→listed.getD e.on false=true:=fun e he hb=>by
   have:=Array.all_eq_true_iff_forall_mem.1 hi2.2 e he
   grind
  have hanc:∀ w,((Region.before ops).getD i 0).testBit w=true→listed.getD w false=true:=fun w hw=>by
   obtain ⟨e,he,hb,hh⟩:=before_spec ho hw
   rcases hh with rfl | ⟨_,h2⟩
   ·grind
   ·grind
  generalize hS:(fun w=>listed.getD w false)=S at hst
  have hSd:∀ w,S w=listed.getD w false:=fun w=>by rw [← hS]
  have hSi':S i=false:=by grind
  let T:Nat→Bool:=fun w=>decide (w < i)
  have hcmp:∀ w,w ≠ i→cmpb (Region.before ops) w i=true→S w=T w:=fun w _ hc'=>by
   simp only [cmpb,Bool.or_eq_true] at hc'
   rcases hc' with h1 | h1
   ·have:=before_lt hok i w h1
    grind
   ·have h2:=before_lt hok w i h1
    grind
  -- what it looks at is a5 it was in the text's order
  have hTn:fE ops vs T env ops.size=fE ops vs (fun _=>true) env i:=by
   obtain ⟨m,hm⟩:∃ m,ops.size=i+m:=⟨ops.size - i,by omega⟩
   rw [hm,fE_stop (S:=T) (fun w hw=>by grind) m]
   exact fE_eq i fun w hw=>by simp [T,hw]
  have hEnv:∀ t ∈ o.looksAt ops,(fE ops vs S env ops.size)[t]?=(fE ops vs (fun _=>true) env i)[t]?:=fun t ht=>by
   rw [← hTn]
   refine fE_at ops.size fun w hw hd=>?_
   by_cases hwi:w=i
   ·grind
   ·cases hcb:cmpb (Region.before ops) w i with
    | true=>exact hcmp w hwi hcb
    | false =>
     have how:ops[w]?=some ops[w]:=Array.getElem?_eq_getElem hw
     have:=(drawOk_pair hok how ho hwi hcb).1 t (by simpa [dstAt,how] using hd)
     grind
  obtain ⟨hAR,hblk,_⟩:=hc i o ho
  have hgE:aG ops o (fE ops vs S env ops.size)=aG ops o (fE ops vs (fun _=>true) env i):=aG_congr hEnv
  have hsE:∀ h',zK P o (fE ops vs S env ops.size) h'=zK P o (fE ops vs (fun _=>true) env i) h':=fun h'=>astep_congr fun x hx=>ev_congr fun t ht=>hEnv t (looks_op (ht ▸ hx))
  have hsB:∀ h',q6 P o (fE ops vs S env ops.size) h'=q6 P o (fE ops vs (fun _=>true) env i) h':=fun h'=>bstep_congr fun x hx=>ev_congr fun t ht=>hEnv t (looks_op (ht ▸ hx))
  have hAR2:ARN P ops Ns F i o (fE ops vs S env ops.size) (hs i) (vs i) (hs (i+1)):=by
   rcases hAR with ⟨h1,h2⟩ | ⟨h1,h2,h3,h4⟩ | ⟨h1,hbd,h2,h3⟩
   ·refine .inl ⟨h1,?_⟩
    unfold AR at h2 ⊢
    rw [hgE,hsE];exact h2
   ·exact .inr (.inl ⟨h1,by grind,h3,h4.imp (fun ⟨f,args,h5,h6⟩=>⟨f,args,fun h2=>by grind,h6⟩) (fun h5 h2 hf=>by grind)⟩)
   ·exact .inr (.inr ⟨h1,hbd,by grind,by grind⟩)
  have heff:x8 ops Ns i=effN Ns i o.op:=by simp [x8,ho]
  -- effects are in a row
  have pS:∀ e e',e < e'→e' < ops.size→x8 ops Ns e=true→x8 ops Ns e'=true→S e'=true→S e=true:=fun e e' h1 h2 h3 h4 h5=>by
   have oe:ops[e]?=some ops[e]:=Array.getElem?_eq_getElem (by omega)
   have oe':ops[e']?=some ops[e']:=Array.getElem?_eq_getElem h2
   cases hcb:cmpb (Region.before ops) e e' with
   | true =>
    simp only [cmpb,Bool.or_eq_true] at hcb
    rcases hcb with h6 | h6
    ·grind
    ·have:=before_lt hok e e' h6;omega
   | false =>
    have h7:=(drawOk_pair hok oe oe' (by omega) hcb).2 (by simpa [x8,oe] using h3)
    simp [x8,oe',h7] at h4
  have pT:∀ e e',e < e'→e' < ops.size→x8 ops Ns e=true→x8 ops Ns e'=true→T e'=true→T e=true:=fun e e' h1 _ _ _ h5=>by
   grind
  have effS:effN Ns i o.op=true→∀ e,e < ops.size→x8 ops Ns e=true→S e=T e:=fun hE e he1 he2=>by
   by_cases hei:e=i
   ·grind
   ·have oe:ops[e]?=some ops[e]:=Array.getElem?_eq_getElem he1
    cases hcb:cmpb (Region.before ops) e i with
    | true=>exact hcmp e hei hcb
    | false =>
     have h7:=(drawOk_pair hok oe ho hei hcb).2 (by simpa [x8,oe] using he2)
     grind
  have hTH:fH ops Ns hs2 T ops.size=hs i:=by
   obtain ⟨m,hm⟩:∃ m,ops.size=i+m:=⟨ops.size - i,by omega⟩
   rw [hm,fH_stop (S:=T) (fun w hw _=>by grind) m,fH_all hn2 i fun e he _=>by simp [T,he]]
   grind
  -- the new list
  have hS':∀ w,(listed.setIfInBounds i true).getD w false=(w==i || S w):=fun w=>by
   rw [hSd]
   by_cases hw:w=i
   ·subst hw;simp [Array.getD_eq_getD_getElem?,hil]
   ·have h1:(w==i)=false:=by simpa using hw
    simp [Array.getD_eq_getD_getElem?,h1,Array.getElem?_setIfInBounds_ne (fun e=>hw e.symm)]
  have hfS':(fun w=>(listed.setIfInBounds i true).getD w false)=fun w=>(w==i || S w):=funext hS'
  -- the frame behind it
  have hE':fE ops vs (fun w=>(w==i || S w)) env ops.size=setd (fE ops vs S env ops.size) o.dst (vs i):=by
   apply List.ext_getElem?
   intro t
   by_cases hdt:o.dst=some t
   ·rw [hdt]
    simp only [setd]
    rcases Nat.lt_or_ge t env.length with htl | htl
    ·rw [List.getElem?_set_self (by rw [fE_len];exact htl)]
     refine fE_last (i:=i) (by simp) (by simp [dstAt,ho,hdt]) htl hlt fun w hw1 hw2 hw3=>?_
     have h1:(w==i)=false:=by simp;omega
     simp only [h1,Bool.false_or]
     have how:ops[w]?=some ops[w]:=Array.getElem?_eq_getElem hw2
     cases hcb:cmpb (Region.before ops) w i with
     | true=>rw [hcmp w (by omega) hcb];simp [T];omega
     | false =>
      have:=(drawOk_pair hok how ho (by omega) hcb).1 t (by simpa [dstAt,how] using hw3)
      grind
    ·rw [List.getElem?_eq_none (by rw [fE_len];exact htl),List.getElem?_eq_none (by rw [List.length_set,fE_len];exact htl)]
   ·rw [setd_get_ne hdt]
    refine fE_at ops.size fun w hw hd=>?_
    by_cases hwi:w=i
    ·subst hwi;simp [dstAt,ho] at hd;exact absurd hd hdt
    ·grind
  -- the heap behind it
  have hst2:=hst
  generalize hX:fH ops Ns hs S ops.size=hx at hst
  have hFx:Ns.contains i=true→F i hx:=fun hNi=>by
   -- an effect that has come is none that waits for this one
   have hA:∀ k,k≤ops.size→(∀ e,e < k→x8 ops Ns e=true→S e=true)→F i (hs k):=fun k=>by
    induction k with
    | zero=>intro _ _;exact hFs i
    | succ k ih =>
     intro hk he
     have ihk:=ih (by omega) fun e h1 h2=>he e (by omega) h2
     have ok:ops[k]?=some ops[k]:=Array.getElem?_eq_getElem (by omega)
     rcases (hc k _ ok).2.2 with h1 | h1
     ·grind
     ·cases hE:x8 ops Ns k with
      | false=>rw [hn k hE (by omega)];exact ihk
      | true =>
       refine h1 i hNi ?_
       grind
   rw [← hX]
   have:∀ k,k≤ops.size→F i (fH ops Ns hs S k):=fun k=>by
    induction k with
    | zero=>intro _;exact hFs i
    | succ k ih =>
     intro hk
     simp only [fH]
     split
     ·rename_i hh
      simp only [Bool.and_eq_true] at hh
      refine hA (k+1) hk fun e h1 h2=>?_
      grind
     ·grind
   grind
  have hAR3:∃ h',ARN P ops Ns F i o (fE ops vs S env ops.size) hx (vs i) h'∧fH ops Ns hs (fun w=>(w==i || S w)) ops.size=h':=by
   cases hE:effN Ns i o.op with
   | true =>
    have h1:hx=hs i:=by rw [← hX,fH2 _ _ (Nat.le_refl _),fH_eq ops.size (effS hE),hTH]
    refine ⟨hs (i+1),by grind,?_⟩
    rw [fH2 _ _ (Nat.le_refl _)]
    obtain ⟨m,hm⟩:∃ m,ops.size=i+1+m:=⟨ops.size - (i+1),by omega⟩
    rw [hm,fH_stop (fun w hw hwe=>?_) m]
    ·simp only [fH]
     grind
    ·have h2:(w==i)=false:=by simp;omega
     grind
   | false =>
    have h1:fH ops Ns hs (fun w=>(w==i || S w)) ops.size=hx:=by
     rw [← hX]
     refine fH_eq ops.size fun e _ hee=>?_
     have:e ≠ i:=by grind
     grind
    refine ⟨hx,?_,h1⟩
    have hb:Ns.contains i=false→isRd o.op=true→hx.blks=(hs i).blks:=fun hNi hrd=>by
     rw [← hX,fH2 _ _ (Nat.le_refl _),← hTH]
     refine fH_blks hn2 ops.size (fun e he1 he2 hne=>?_) pS pT
     rw [hs2e _ (by omega),hs2e _ (by omega)]
     have oe:ops[e]?=some ops[e]:=Array.getElem?_eq_getElem he1
     rcases (hc e _ oe).2.1 with han | hbb
     ·exfalso
      unfold anch at han
      simp only [List.all_eq_true] at han
      have hm:(o,i) ∈ ops.toList.zipIdx:=by grind
      have h3:=han (o,i) hm
      have hei:e ≠ i:=by grind
      grind
     ·omega
    rcases hAR2 with ⟨hN,hAR2⟩ | ⟨hN,q1,q2,q3⟩ | ⟨hN,hbd,q1,q2⟩
    rotate_left
    ·exact .inr (.inl ⟨hN,q1,rfl,q3⟩)
    ·simp only [effN,hN,Bool.not_false,Bool.and_true] at hE
     exact .inr (.inr ⟨hN,hbd,q1,(bstep_still hE hbd q2).2 hx⟩)
    have hb:=hb hN
    have hE:isEff o.op=false:=by simp only [effN,hN,Bool.not_false,Bool.and_true] at hE;exact hE
    have h0:hs (i+1)=hs i:=AR.still hE hAR2
    refine .inl ⟨hN,?_⟩
    unfold AR at hAR2 ⊢
    split at hAR2
    ·rcases astep_still (P:=P) (env:=fE ops vs S env ops.size) (h:=hs i) hE with ⟨x,hx'⟩ | ⟨m,u,hx'⟩ | hx'
     ·rw [hx' (hs i) fun _=>rfl] at hAR2
      rw [hx' hx hb]
      cases x with
      | none=>exact hAR2.elim
      | some v'=>exact ⟨hAR2.1,rfl⟩
     ·grind
     ·rcases hx' (hs i) with ⟨S,hS⟩ | hS <;> (rw [hS] at hAR2;exact hAR2.elim)
    ·grind
    ·omega
  obtain ⟨h',hAR4,hH'⟩:=hAR3
  have cnt:(List.range ops.size).countP (fun j=>!(listed.setIfInBounds i true).getD j false)≤fuel:=by
   have:=count_lt (p:=fun j=>!(listed.setIfInBounds i true).getD j false) (q:=fun j=>!listed.getD j false) (List.range ops.size)
    (fun x _ hx=>by grind)
    ⟨i,by grind,by simp [hSi],by simp [hS']⟩
   omega
  have cl':∀ x y,(listed.setIfInBounds i true).getD x false=true→((Region.before ops).getD x 0).testBit y=true→(listed.setIfInBounds i true).getD y false=true:=fun x y h1 h2=>by
   rw [hS'] at h1 ⊢
   simp only [Bool.or_eq_true,beq_iff_eq] at h1 ⊢
   right
   rcases h1 with rfl | h1
   ·grind
   ·grind
  have go:∀ (a':Act) (w':World),St B w0 g0 D (setd (fE ops vs S env ops.size) o.dst (vs i)) h' a' w'→wpAnyIn (WF ro) n P .any ops Q fuel (listed.setIfInBounds i true) a' w':=fun a' w' hs' =>
   ih _ a' w' (by simp [hsz]) cnt cl' (by grind)
  unfold wpOpIn
  simp only [ho]
  have hst':=hst
  obtain ⟨g,hg,r,he,hD⟩:=hst'
  rcases hAR4 with ⟨_,hAR4⟩ | ⟨hNi,q1,q2,q3⟩ | ⟨_,_,q1,q2⟩
  rotate_left
  ·rw [vM he q1]
   simp only [if_true]
   refine step_sound (K:=fun v h1=>v=vs i∧h1=h') hst ?_ ?_
   ·rcases q3 with ⟨f,args,q3,q4⟩ | q4
    ·rw [q3 hx,q2];exact q4 hx (hFx hNi)
    ·rw [q4 hx (hFx hNi)];exact ⟨rfl,q2.symm⟩
   ·rintro v h1 u w' ⟨rfl,rfl⟩ ⟨g',k1,k2,k3,k4⟩
    exact go _ w' ⟨g',k1,k2,k3.setd o.dst k4,by rw [wS];exact hD⟩
  ·rw [vM he q1]
   simp only [if_true]
   refine bstep_sound (K:=fun v h1=>v=vs i∧h1=h') hst (.inl ⟨_,q2,fun p hp=>?_⟩) ?_
   ·grind
   ·rintro v h1 u w' ⟨rfl,rfl⟩ ⟨g',k1,k2,k3,k4⟩
    exact go _ w' ⟨g',k1,k2,k3.setd o.dst k4,by rw [wS];exact hD⟩
  unfold AR at hAR4
  split at hAR4
  ·rename_i hgd
   rw [vM he hgd]
   simp only [if_true]
   refine step_sound (K:=fun v h1=>v=vs i∧h1=h') hst ?_ ?_
   ·cases hst3:zK P o (fE ops vs S env ops.size) hx with
    | ok v1 h1=>rw [hst3] at hAR4;exact ⟨hAR4.1.symm,hAR4.2.symm⟩
    | len m v1 h1=>rw [hst3] at hAR4;exact fun _=>⟨hAR4.1.symm,hAR4.2.symm⟩
    | call f args=>rw [hst3] at hAR4;exact hAR4
    | round id args=>rw [hst3] at hAR4;exact hAR4
    | any S=>rw [hst3] at hAR4;exact hAR4.elim
    | fail=>rw [hst3] at hAR4;exact hAR4
   ·rintro v h1 u w' ⟨rfl,rfl⟩ ⟨g',k1,k2,k3,k4⟩
    exact go _ w' ⟨g',k1,k2,k3.setd o.dst k4,by rw [wS];exact hD⟩
  ·rename_i hgd
   rw [vM he hgd]
   simp only [Bool.false_eq_true,if_false]
   refine ⟨fun _ _=>trivial,go _ w ⟨g,hg,by grind,?_,by rw [wS];exact hD⟩⟩
   rw [hAR4.1];exact he.setd o.dst V.ofUndef
  ·grind
end
end Go.Vv
