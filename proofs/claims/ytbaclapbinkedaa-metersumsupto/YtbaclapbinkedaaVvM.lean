/- Weakest preconditions over abstract states; they are sound over the model's own. -/
import Derived.OrdersIn
import Derived.Test.YtbaclapbinkedaaVvNw
import Derived.CallsIn
import Derived.RangeFuncRecord
namespace Go.Vv
open Go Go.RowKit Go.Lib

class GOk (P:Program) (B:Nat) (w0:World):Prop where
 sh:w0.ShapedOpen P
 sz:w0.heap.size≤B
def Spec (P:Program) (f:FuncId) (args:List AV) (h:AH) (K:AV→AH→Prop):Prop :=
 (∀ (vs:Array Value) (w:World),(callFunc f vs).run P w=.ok (.enter f vs) w) ∧
 ∀ (B:Nat) (w0:World) [GOk P B w0] (g:Gh) (w:World) (vs:Array Value),Rel B w0 g h w→VL g args vs.toList →
  Calls P f vs w fun e w'=>∃ v r h' g',e=.returned v∧K r h'∧g.le g'∧Rel B w0 g' h' w'∧V g' r v

def SpecY (P:Program) (id:Nat) (args:List AV) (h:AH) (K:AV→AH→Prop):Prop :=
 ∀ (B:Nat) (w0:World) [GOk P B w0] (g:Gh) (w:World) (vs:Array Value) (c:Nat),Rel B w0 g h w→VL g args vs.toList→g.σ[id]?=some c →
  ∃ fn tmps assign body,(Instr.yield c vs).run P w=.ok (.round c fn tmps assign body) w ∧
   ∀ n,RoundIn Fence.wide n P c fn tmps assign body w fun e w'=>∃ v r h' g',e=.returned v∧K r h'∧g.le g'∧Rel B w0 g' h' w'∧V g' r v

theorem Spec.mono {P:Program} {f:FuncId} {args:List AV} {h:AH} {K K':AV→AH→Prop} (s:Spec P f args h K) (hk:∀ r h',K r h'→K' r h'):Spec P f args h K' :=
 ⟨s.1,fun B w0 _ g w vs r hv=>(s.2 B w0 g w vs r hv).mono fun _ _ ⟨v,x,h',g',h1,h2,h3⟩=>⟨v,x,h',g',h1,hk _ _ h2,h3⟩⟩

theorem SpecY.mono {P:Program} {id:Nat} {args:List AV} {h:AH} {K K':AV→AH→Prop} (s:SpecY P id args h K) (hk:∀ r h',K r h'→K' r h'):SpecY P id args h K' :=
 fun B w0 _ g w vs c r hv hc=>by
  obtain ⟨fn,tmps,assign,body,h1,h2⟩:=s B w0 g w vs c r hv hc
  exact ⟨fn,tmps,assign,body,h1,fun n=>(h2 n).mono fun _ _ ⟨v,x,h',g',h1,h2,h3⟩=>⟨v,x,h',g',h1,hk _ _ h2,h3⟩⟩

def aG (ops:Array Oper) (o:Oper) (env:List AV):Option Bool :=
 match o.guard with
 | none=>some true
 | some (j,want)=>match (ops[j]?).bind (·.dst) with
  | none=>some false
  | some d=>match env[d]? with
   | none=>some false
   | some (.bool b)=>some (b==want)
   | some (.tup [])=>some false
   | some _=>none

def rwp (P:Program) (h:AH) (r:Res) (K:AV→AH→Prop):Prop :=
 match r with
 | .ok v h'=>K v h'
 | .len n v h'=>n≤maxLen→K v h'
 | .call f args=>Spec P f args h K
 | .round id args=>SpecY P id args h K
 | .any S=>∀ v h',S v h'→K v h'
 | .fail=>False
def gwp (b:Option Bool) (act:(AV→AH→Prop)→Prop) (h:AH) (K:AV→AH→Prop):Prop :=
 match b with
 | some true=>act K
 | some false=>K za h
 | none=>False
def swk (env:List AV) (h:AH) (env':List AV) (h':AH):Prop:=∀ (B:Nat) (w0 w:World) (g:Gh) (vs:List Value),Rel B w0 g h w→VL g env vs→∃ g',g.le g'∧Rel B w0 g' h' w∧VL g' env' vs
theorem swk.refl (env:List AV) (h:AH):swk env h env h:=fun _ _ _ g _ r hv=>⟨g,Gh.le.refl g,r,hv⟩
theorem swk.trans {env env' env2:List AV} {h h' h2:AH} (a:swk env h env' h') (b:swk env' h' env2 h2):swk env h env2 h2:=fun B w0 w g vs r hv=>by
 obtain ⟨g1,k1,r1,hv1⟩:=a B w0 w g vs r hv
 obtain ⟨g2,k2,r2,hv2⟩:=b B w0 w g1 vs r1 hv1
 exact ⟨g2,k1.trans k2,r2,hv2⟩
def bwp (P:Program) (o:Oper) (env:List AV) (h:AH) (K:AV→AH→Prop):Prop:=(∃ l,bstep P o env h=some l∧∀ p ∈ l,K p.1 p.2) ∨ ∃ k ys,anew P o env=some (k,ys)∧K (.nsl k ys) h
theorem bwp_mono {P:Program} {o:Oper} {env:List AV} {h:AH} {K K':AV→AH→Prop} (hk:∀ v h',K v h'→K' v h'):bwp P o env h K→bwp P o env h K'
 | .inl ⟨l,hl,hp⟩=>.inl ⟨l,hl,fun p hi=>hk _ _ (hp p hi)⟩
 | .inr ⟨k,ys,hn,hp⟩=>.inr ⟨k,ys,hn,hk _ _ hp⟩
def ym (P:Program) (ops:Array Oper) (Q:List AV→AH→Prop):List Oper→List AV→AH→Prop
 | [],env,h=>Q env h
 | o::rest,env,h=>∃ env2 h2,swk env h env2 h2∧gwp (aG ops o env2) (fun K=>rwp P h2 (zN P o env2 h2) K ∨ bwp P o env2 h2 K) h2 fun v h'=>ym P ops Q rest (setd env2 o.dst v) h'
theorem qg {P:Program} {ops:Array Oper} {Q:List AV→AH→Prop} {o:Oper} {rest:List Oper} {env:List AV} {h:AH} (hk:gwp (aG ops o env) (rwp P h (zN P o env h)) h fun v h'=>ym P ops Q rest (setd env o.dst v) h') :
  ym P ops Q (o::rest) env h:=⟨env,h,swk.refl _ _,by
   cases hb:aG ops o env with
   | none=>rw [hb] at hk;exact hk
   | some b =>
    rw [hb] at hk
    cases b with
    | true=>exact .inl hk
    | false=>exact hk⟩
theorem awpOps_consB {P:Program} {ops:Array Oper} {Q:List AV→AH→Prop} {o:Oper} {rest:List Oper} {env:List AV} {h:AH} (hg:aG ops o env=some true) (hk:∃ l,bstep P o env h=some l∧∀ p ∈ l,ym P ops Q rest (setd env o.dst p.1) p.2) :
  ym P ops Q (o::rest) env h:=⟨env,h,swk.refl _ _,by rw [hg];exact .inr (.inl hk)⟩
theorem ops_swk {P:Program} {ops:Array Oper} {Q:List AV→AH→Prop} {o:Oper} {rest:List Oper} {env env2:List AV} {h h2:AH} (hs:swk env h env2 h2) (hk:ym P ops Q (o::rest) env2 h2):ym P ops Q (o::rest) env h:=by
 obtain ⟨e3,h3,k1,k2⟩:=hk
 exact ⟨e3,h3,hs.trans k1,k2⟩

def isEff:Op→Bool
 | .move _ | .assign _ | .pick _ _ _ | .build _ _ | .nilCheck _ | .binOp _ _ _ _ _ | .unOp _ _ _ | .convert _ _ _ | .makeFunc _ _ _ | .slice _ _ _ _ _ | .fieldAddr _ _ _ | .field _ _ _ | .indexAddr _ _ _ | .index _ _ _ | .extract _ _
 | .load _ _ | .buildSlice _ _ _ | .makeInterface _ _ | .typeAssert _ _ _ _=>false
 | .call { callee:=.builtin .len,.. }=>false
 | _=>true
def isRd:Op→Bool
 | .load _ _=>true
 | _=>false
def effN (Ns:List Nat) (i:Nat) (op:Op):Bool:=isEff op&&!Ns.contains i
def cmpb (b:Array Nat) (i j:Nat):Bool:=(b.getD j 0).testBit i || (b.getD i 0).testBit j
def drawOk (ops:Array Oper) (Ns:List Nat):Bool :=
 let b:=Region.before ops
 (ops.toList.zipIdx.all fun (o,i)=>o.after.all (fun e=>!Region.binds .any e || decide (e.on < i)) &&
  ops.toList.zipIdx.all fun (o',j)=>i==j || cmpb b i j ||
   ((match o.dst with
    | some d=>!(o'.looksAt ops).contains d&&o'.dst != some d
    | none=>true)&&!(effN Ns i o.op&&effN Ns j o'.op)))
def anch (ops:Array Oper) (Ns:List Nat) (i:Nat):Bool :=
 let b:=Region.before ops
 ops.toList.zipIdx.all fun (o,j)=>i==j || !isRd o.op || Ns.contains j || cmpb b i j
def AR (P:Program) (ops:Array Oper) (o:Oper) (env:List AV) (h:AH) (v:AV) (h':AH):Prop :=
 match aG ops o env with
 | some true=>match zN P o env h with
  | .ok v1 h1=>v=v1∧h'=h1
  | .len _ v1 h1=>v=v1∧h'=h1
  | .call f args=>Spec P f args h fun r h1=>r=v∧h1=h'
  | .round id args=>SpecY P id args h fun r h1=>r=v∧h1=h'
  | .any _=>False
  | .fail=>False
 | some false=>v=za∧h'=h
 | none=>False
def FOk (b:Nat) (Ns:List Nat) (F:Nat→AH→Prop) (h:AH):Prop:=∀ n,Ns.contains n=true→b.testBit n=false→F n h
def ARN (P:Program) (ops:Array Oper) (Ns:List Nat) (F:Nat→AH→Prop) (i:Nat) (o:Oper) (env:List AV) (h:AH) (v:AV) (h':AH):Prop :=
 (Ns.contains i=false∧AR P ops o env h v h') ∨
 (Ns.contains i=true∧aG ops o env=some true∧h'=h ∧
  ((∃ f args,(∀ h2,zN P o env h2=.call f args)∧∀ h2,F i h2→Spec P f args h2 fun r hh=>r=v∧hh=h2) ∨ ∀ h2,F i h2→zN P o env h2=.ok v h2)) ∨
 (Ns.contains i=false∧bdraw o.op=true∧aG ops o env=some true∧bstep P o env h=some [(v,h')])
def yV (P:Program) (ops:Array Oper) (Ns:List Nat) (F:Nat→AH→Prop) (Q:List AV→AH→Prop):Nat→List Oper→List AV→AH→Prop
 | _,[],env,h=>Q env h
 | i,o::rest,env,h=>∃ v h',ARN P ops Ns F i o env h v h'∧(anch ops Ns i=true ∨ h'.blks=h.blks)∧(h'=h ∨ FOk ((Region.before ops).getD i 0) Ns F h')∧yV P ops Ns F Q (i+1) rest (setd env o.dst v) h'

def awpAny (P:Program) (ops:Array Oper) (Q:List AV→AH→Prop):Nat→Array Bool→List AV→AH→Prop
 | 0,listed,env,h=>Region.ready .any ops listed=[]∧Q env h
 | m+1,listed,env,h=>(Region.ready .any ops listed=[]→Q env h)∧∀ i ∈ Region.ready .any ops listed,∀ o,ops[i]?=some o →
   gwp (aG ops o env) (fun K=>rwp P h (zN P o env h) K ∨ bwp P o env h K) h fun v h'=>awpAny P ops Q m (listed.setIfInBounds i true) (setd env o.dst v) h'

def wk (hd:AH) (env:List AV) (h:AH) (env':List AV) (h':AH):Prop:=∀ (B:Nat) (w0 w w1:World) (g1 g:Gh) (vs:List Value),Rel B w0 g1 hd w1 →
 g1.le g→Rel B w0 g h w→VL g env vs→∃ g',g1.le g'∧Rel B w0 g' h' w∧VL g' env' vs∧∀ c,c ∈ g.δ→c ∈ g'.δ

def noRF:Code→Bool
 | .seq a b=>noRF a&&noRF b
 | .cond _ a b=>noRF a&&noRF b
 | .block _ a=>noRF a
 | .loop a=>noRF a
 | .rangeFunc _ _ _ _=>false
 | _=>true

def qU (P:Program):Code→(Exit→List AV→AH→Prop)→List AV→AH→Prop
 | .skip,Q,env,h=>Q .normal env h
 | .label _,Q,env,h=>Q .normal env h
 | .region _ ops draw,Q,env,h=>match draw with
  | true=>(∃ Ns F,(P.follows .mixedOrders=true∧drawOk ops Ns=true)∧(∀ n,F n h)∧yV P ops Ns F (Q .normal) 0 ops.toList env h) ∨
    (P.follows .mixedOrders=true∧awpAny P ops (Q .normal) ops.size (Array.replicate ops.size false) env h)
  | false=>ym P ops (Q .normal) ops.toList env h
 | .seq a b,Q,env,h=>qU P a (fun x env' h'=>match x with
  | .normal=>∃ env2 h2,wk h env' h' env2 h2∧qU P b Q env2 h2
  | x=>Q x env' h') env h
 | .cond c t e,Q,env,h=>yF c=true∧match ev env c with
  | .bool b=>if b then qU P t Q env h else qU P e Q env h
  | _=>False
 | .block id body,Q,env,h=>qU P body (fun x env h=>match x with
  | .exit id'=>if id'=id then Q .normal env h else Q (.exit id') env h
  | x=>Q x env h) env h
 | .loop body,Q,env,h=>∃ I:Nat→List AV→AH→Prop,(∃ n env2 h2,wk h env h env2 h2∧I n env2 h2)∧∀ n env h,I n env h→qU P body (fun x env' h'=>match x with
  | .normal=>∃ m env2 h2,m < n∧wk h env' h' env2 h2∧I m env2 h2
  | x=>Q x env' h') env h
 | .exit id,Q,env,h=>Q (.exit id) env h
 | .ret,Q,env,h=>Q .ret env h
 | .rangeFunc f ps assign body,Q,env,h=>yF f=true∧noRF assign=true∧noRF body=true∧∃ env2 h2,wk h env h env2 h2∧match ev env2 f with
  | .fn (.func f) first caps=>Spec P f (first++[.yld h2.blks.length]++caps) (h2.new (.loop .ready none env2 ps assign body)) fun _ h'=>∃ st pe env' ps' a' b',h'.blk h2.blks.length=some (.loop st pe env' ps' a' b')∧st ≠ .busy∧match pe with
   | none=>Q .normal env2 (h'.put h2.blks.length .dead)
   | some .ret=>Q .ret env2 (h'.put h2.blks.length .dead)
   | some (.exit i)=>Q (.exit i) env2 (h'.put h2.blks.length .dead)
   | _=>False
  | _=>False
 | _,_,_,_=>False

def WF (ro:Option Nat):Fence:={ Fence.wide with round:=ro }

section
variable {P:Program} {B:Nat} {w0:World} {g0:Gh} {D:List Deferred} {ro:Option Nat} {n:Nat} [GOk P B w0]

def St (B:Nat) (w0:World) (g0:Gh) (D:List Deferred) (env:List AV) (h:AH) (a:Act) (w:World):Prop:=∃ g,g0.le g∧Rel B w0 g h w∧VL g env a.tmps.toList∧a.defers=D

theorem VL.setd {g:Gh} {env:List AV} {a:Act} (he:VL g env a.tmps.toList) (d:Option Tmp) {v:AV} {u:Value} (hv:V g v u):VL g (setd env d v) (a.put d u).tmps.toList:=by
 cases d with
 | none=>exact he
 | some d=>simp only [Vv.setd,Act.put,Array.toList_setIfInBounds];exact VL.set he d v u hv
theorem vY (a:Act) (d:Option Tmp) (u:Value):(a.put d u).defers=a.defers:=by cases d <;> rfl

theorem qH {g:Gh} {ops:Array Oper} {o:Oper} {env:List AV} {a:Act} (he:VL g env a.tmps.toList) {b:Bool} (hb:aG ops o env=some b):Region.wanted o (yielded ops a.tmps)=b:=by
 unfold aG at hb
 split at hb
 ·rename_i hg;cases hb;simp [Region.wanted,hg]
 ·rename_i j want hg
  have hw:Region.wanted o (yielded ops a.tmps)=(yielded ops a.tmps j==some want):=by simp [Region.wanted,hg]
  rw [hw]
  split at hb
  ·rename_i hd;cases hb;simp [yielded,hd]
  ·rename_i d hd
   unfold yielded
   rw [hd,Option.bind_some]
   split at hb
   ·rename_i hn
    cases hb
    have:a.tmps[d]?=none:=by
     have h1:env.length≤d:=by simpa using hn
     rw [Array.getElem?_eq_none];rw [he.length] at h1;simpa using h1
    simp [this]
   ·rename_i b' hn
    cases hb
    obtain ⟨u,hu,hV⟩:=he.get _ _ hn
    simp only [V] at hV;subst hV
    rw [Array.getElem?_toList] at hu
    simp [hu]
   ·rename_i hn
    cases hb
    obtain ⟨u,hu,hV⟩:=he.get _ _ hn
    simp only [V] at hV
    obtain ⟨vs,rfl,_⟩:=hV
    rw [Array.getElem?_toList] at hu
    simp [hu]
   ·cases hb

theorem not_defer {o:Oper} {env:List AV} {h:AH} (hf:zN P o env h ≠ .fail):∀ c,o.op ≠ .defer c:=by
 intro c hc
 exact hf (by simp only [zN,hc])

theorem callsIn_of {f:FuncId} {args:Array Value} {w:World} {R:Ending→World→Prop} (h:Calls P f args w R):CallsIn (WF ro) n P f args w R:=callsIn_wide (n:=n).2 h

theorem step_sound {o:Oper} {env:List AV} {h:AH} {a:Act} {w:World} {next:Act→World→Prop} {Q:Exit→Act→World→Prop} {K:AV→AH→Prop}
  (hs:St B w0 g0 D env h a w) (hw:rwp P h (zN P o env h) K)
  (hn:∀ v h' u w',K v h'→(∃ g',g0.le g'∧Rel B w0 g' h' w'∧VL g' env a.tmps.toList∧V g' v u)→next (a.put o.dst u) w'):o.wpIn (WF ro) n P a w next Q:=by
 obtain ⟨g,hg,r,he,hD⟩:=hs
 have hfit:=astep_fits (P:=P) r he o
 have hnd:∀ c,o.op ≠ .defer c:=by
  refine not_defer (P:=P) (env:=env) (h:=h) fun e=>?_
  rw [e] at hw;exact hw
 refine ⟨fun _ _=>trivial,?_⟩
 rw [Oper.semAt_eq (WF ro).round a.eval o hnd]
 have ok:∀ v h',qn P B w0 g a o w v h'→K v h'→o.uponIn (WF ro) n P a next Q ((execOp a.eval o).run P w):=by
  rintro v h' ⟨u,w',g',hrun,hle,r',hV⟩ hK
  rcases hrun with hrun | ⟨hrun,rfl⟩
  ·rw [hrun,Oper.uponIn_value]
   exact hn v h' u w' hK ⟨g',hg.trans hle,r',he.mono hle,hV⟩
  ·rw [hrun,Oper.uponIn_skip]
   exact hn v h' undef w' hK ⟨g',hg.trans hle,r',he.mono hle,hV⟩
 cases hst:zN P o env h with
 | ok v h'=>rw [hst] at hfit hw;exact ok v h' hfit hw
 | len m v h'=>rw [hst] at hfit hw;exact ok v h' hfit.2 (hw hfit.1)
 | call f args =>
  rw [hst] at hfit hw
  obtain ⟨vs,hrun,hVL⟩:=hfit
  rw [hrun,hw.1 vs w,Oper.uponIn_enter]
  refine ⟨fun h=>by simp [WF,Fence.wide] at h,callsIn_of ((hw.2 B w0 g w vs r hVL).mono ?_)⟩
  rintro e w' ⟨v,x,h',g',rfl,hK,hle,r',hV⟩
  exact hn x h' v w' hK ⟨g',hg.trans hle,r',he.mono hle,hV⟩
 | round id args =>
  rw [hst] at hfit hw
  obtain ⟨c,vs,hc,hrun,hVL⟩:=hfit
  obtain ⟨fn,tmps,assign,body,hy,hr⟩:=hw B w0 g w vs c r hVL hc
  rw [hrun,hy,Oper.uponIn_round]
  refine ⟨fun h=>by simp [WF,Fence.wide] at h,RoundIn.mono (F:=WF ro) (hr _) ?_⟩
  rintro e w' ⟨v,x,h',g',rfl,hK,hle,r',hV⟩
  exact hn x h' v w' hK ⟨g',hg.trans hle,r',he.mono hle,hV⟩
 | any S =>
  rw [hst] at hfit hw
  obtain ⟨v,h',hS,hok⟩:=hfit
  exact ok v h' hok (hw v h' hS)
 | fail=>rw [hst] at hw;exact hw.elim

omit [GOk P B w0] in
theorem bstep_sound {o:Oper} {env:List AV} {h:AH} {a:Act} {w:World} {next:Act→World→Prop} {Q:Exit→Act→World→Prop} {K:AV→AH→Prop}
  (hs:St B w0 g0 D env h a w) (hw:bwp P o env h K)
  (hn:∀ v h' u w',K v h'→(∃ g',g0.le g'∧Rel B w0 g' h' w'∧VL g' env a.tmps.toList∧V g' v u)→next (a.put o.dst u) w'):o.wpIn (WF ro) n P a w next Q:=by
 obtain ⟨g,hg,r,he,hD⟩:=hs
 rcases hw with ⟨l,hl,hk⟩ | ⟨kk,ys,hl,hk⟩
 ·have hnd:∀ c,o.op ≠ .defer c:=fun c hc=>by simp [bstep,hc] at hl
  obtain ⟨p,hin,u,w',g',hrun,hle,r',hV⟩:=bfits r he hl
  refine ⟨fun _ _=>trivial,?_⟩
  rw [Oper.semAt_eq (WF ro).round a.eval o hnd]
  rcases hrun with hrun | ⟨hrun,rfl⟩
  ·rw [hrun,Oper.uponIn_value]
   exact hn _ _ u w' (hk p hin) ⟨g',hg.trans hle,r',he.mono hle,hV⟩
  ·rw [hrun,Oper.uponIn_skip]
   exact hn _ _ undef w' (hk p hin) ⟨g',hg.trans hle,r',he.mono hle,hV⟩
 ·have hnd:∀ c,o.op ≠ .defer c:=fun c hc=>by simp [anew,hc] at hl
  obtain ⟨u,w',g',hrun,hle,r',hV⟩:=new_fits r he hl
  refine ⟨fun _ _=>trivial,?_⟩
  rw [Oper.semAt_eq (WF ro).round a.eval o hnd]
  rcases hrun with hrun | ⟨hrun,rfl⟩
  ·rw [hrun,Oper.uponIn_value]
   exact hn _ _ u w' hk ⟨g',hg.trans hle,r',he.mono hle,hV⟩
  ·rw [hrun,Oper.uponIn_skip]
   exact hn _ _ undef w' hk ⟨g',hg.trans hle,r',he.mono hle,hV⟩

theorem ops_sound {ops:Array Oper} {Q:Exit→Act→World→Prop} {QA:List AV→AH→Prop} (hQ:∀ env h a w,QA env h→St B w0 g0 D env h a w→Q .normal a w) :
  ∀ (rest:List Oper) (k:Nat) (env:List AV) (h:AH) (a:Act) (w:World),ops.toList.drop k=rest→ym P ops QA rest env h→St B w0 g0 D env h a w→wpOpsIn (WF ro) n P ops Q (List.range' k rest.length) a w
 | [],k,env,h,a,w,_,hw,hs=>hQ env h a w hw hs
 | o::rest,k,env,h,a,w,hd,hw,hs=>by
  have ho:ops[k]?=some o:=by
   rw [← Array.getElem?_toList]
   have:=congrArg (·[0]?) hd
   simpa using this
  have hd':ops.toList.drop (k+1)=rest:=by
   rw [← List.drop_drop,hd];rfl
  simp only [List.length_cons,List.range'_succ,wpOpsIn,ho]
  obtain ⟨env,h,hsw,hw⟩:=hw
  obtain ⟨g0',hg0,r0,he0,hD⟩:=hs
  obtain ⟨g,hgg,r,he⟩:=hsw _ _ _ _ _ r0 he0
  have hg:=hg0.trans hgg
  have hs:St B w0 g0 D env h a w:=⟨g,hg,r,he,hD⟩
  cases hb:aG ops o env with
  | none=>rw [hb] at hw;exact hw.elim
  | some b =>
   have hwant:=qH he hb
   rw [hb] at hw
   rw [hwant]
   cases b with
   | true =>
    simp only [gwp] at hw
    simp only [if_true]
    have hnx:∀ v h' u w',ym P ops QA rest (setd env o.dst v) h'→(∃ g',g0.le g'∧Rel B w0 g' h' w'∧VL g' env a.tmps.toList∧V g' v u)→wpOpsIn (WF ro) n P ops Q (List.range' (k+1) rest.length) (a.put o.dst u) w':=fun v h' u w' hK ⟨g',h1,h2,h3,h4⟩ =>
     ops_sound hQ rest (k+1) _ h' _ w' hd' hK ⟨g',h1,h2,h3.setd o.dst h4,by rw [vY];exact hD⟩
    rcases hw with hw | hw
    ·exact step_sound hs hw hnx
    ·exact bstep_sound hs hw hnx
   | false =>
    simp only [gwp] at hw
    simp only [Bool.false_eq_true,if_false]
    exact ⟨fun _ _=>trivial,ops_sound hQ rest (k+1) _ h _ w hd' hw ⟨g,hg,r,he.setd o.dst V.ofUndef,by rw [vY];exact hD⟩⟩

theorem any_sound {ops:Array Oper} {Q:Exit→Act→World→Prop} {QA:List AV→AH→Prop} (hQ:∀ env h a w,QA env h→St B w0 g0 D env h a w→Q .normal a w) :
  ∀ (m:Nat) (listed:Array Bool) (env:List AV) (h:AH) (a:Act) (w:World),awpAny P ops QA m listed env h→St B w0 g0 D env h a w→wpAnyIn (WF ro) n P .any ops Q m listed a w
 | 0,listed,env,h,a,w,hw,hs=>⟨hw.1,hQ env h a w hw.2 hs⟩
 | m+1,listed,env,h,a,w,hw,hs=>by
  refine ⟨fun e=>hQ env h a w (hw.1 e) hs,fun i hi=>?_⟩
  unfold wpOpIn
  cases ho:ops[i]? with
  | none =>
   exfalso
   unfold Region.ready at hi
   rw [List.mem_filter] at hi
   have:=hi.1
   rw [List.mem_range] at this
   rw [Array.getElem?_eq_getElem this] at ho
   cases ho
  | some o =>
   have hw:=hw.2 i hi o ho
   simp only
   obtain ⟨g,hg,r,he,hD⟩:=hs
   have hs:St B w0 g0 D env h a w:=⟨g,hg,r,he,hD⟩
   cases hb:aG ops o env with
   | none=>rw [hb] at hw;exact hw.elim
   | some b =>
    have hwant:=qH he hb
    rw [hb] at hw
    rw [hwant]
    cases b with
    | true =>
     simp only [gwp] at hw
     simp only [if_true]
     have hnx:∀ v h' u w',awpAny P ops QA m (listed.setIfInBounds i true) (setd env o.dst v) h'→(∃ g',g0.le g'∧Rel B w0 g' h' w'∧VL g' env a.tmps.toList∧V g' v u)→wpAnyIn (WF ro) n P .any ops Q m (listed.setIfInBounds i true) (a.put o.dst u) w':=fun v h' u w' hK ⟨g',h1,h2,h3,h4⟩ =>
      any_sound hQ m _ _ h' _ w' hK ⟨g',h1,h2,h3.setd o.dst h4,by rw [vY];exact hD⟩
     rcases hw with hw | hw
     ·exact step_sound hs hw hnx
     ·exact bstep_sound hs hw hnx
    | false =>
     simp only [gwp] at hw
     simp only [Bool.false_eq_true,if_false]
     exact ⟨fun _ _=>trivial,any_sound hQ m _ _ h _ w hw ⟨g,hg,r,he.setd o.dst V.ofUndef,by rw [vY];exact hD⟩⟩
end
end Go.Vv
