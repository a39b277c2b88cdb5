/- Rules for code, and for the ends of functions. -/
import Derived.Test.YtbaclapbinkedaaVvS
namespace Go.Vv
open Go

def seqQ (P:Program) (h0:AH) (b:Code) (Q:Exit→List AV→AH→Prop):Exit→List AV→AH→Prop:=fun x env' h'=>match x with
 | .normal=>∃ env2 h2,wk h0 env' h' env2 h2∧qU P b Q env2 h2
 | x=>Q x env' h'
def blockQ (id:Nat) (Q:Exit→List AV→AH→Prop):Exit→List AV→AH→Prop:=fun x env h=>match x with
 | .exit id'=>if id'=id then Q .normal env h else Q (.exit id') env h
 | x=>Q x env h
def loopQ (N:List AV→AH→Prop) (Q:Exit→List AV→AH→Prop):Exit→List AV→AH→Prop:=fun x env' h'=>match x with
 | .normal=>N env' h'
 | x=>Q x env' h'

def upd (env:List AV):List (Nat×AV)→List AV
 | []=>env
 | (i,v)::r=>upd (env.set i v) r
def yv:List Nat→List (Nat×AV)→List (Nat×AV)
 | [],m=>m
 | i::l,m=>(i,.any)::yv l m

section
variable {P:Program} {Q:Exit→List AV→AH→Prop} {env:List AV} {h:AH}
theorem zH (hk:Q .normal env h):qU P .skip Q env h:=hk
theorem zO (hk:Q .ret env h):qU P .ret Q env h:=hk
theorem yy {id:Nat} (hk:Q (.exit id) env h):qU P (.exit id) Q env h:=hk
theorem zd {id:Nat} {l:List Oper} (hk:ym P ⟨l⟩ (Q .normal) l env h):qU P (.region id ⟨l⟩ false) Q env h:=hk
theorem zn {a b:Code} (hk:qU P a (seqQ P h b Q) env h):qU P (.seq a b) Q env h:=hk
theorem zI {id:Nat} {a:Code} (hk:qU P a (blockQ id Q) env h):qU P (.block id a) Q env h:=hk
theorem r_cond {c:Operand} {t e:Code} {b:Bool} (hc:yZ env c=some (.bool b)) (ht:b=true→qU P t Q env h) (he:b=false→qU P e Q env h):qU P (.cond c t e) Q env h:=by
 obtain ⟨h1,h2⟩:=yu hc
 refine ⟨h1,?_⟩
 rw [h2]
 cases b with
 | true=>exact ht rfl
 | false=>exact he rfl
theorem zj {h0:AH} {b:Code} (hk:qU P b Q env h):seqQ P h0 b Q .normal env h:=⟨env,h,wk.refl _ _ _,hk⟩
theorem q_seqw {h0:AH} {b:Code} {env2:List AV} {h2:AH} (hw:wk h0 env h env2 h2) (hk:qU P b Q env2 h2):seqQ P h0 b Q .normal env h:=⟨env2,h2,hw,hk⟩
theorem zT {h0:AH} {b:Code} {id:Nat} (hk:Q (.exit id) env h):seqQ P h0 b Q (.exit id) env h:=hk
theorem zC {h0:AH} {b:Code} (hk:Q .ret env h):seqQ P h0 b Q .ret env h:=hk
theorem zY {id:Nat} (hk:Q .normal env h):blockQ id Q .normal env h:=hk
theorem zJ {id:Nat} (hk:Q .ret env h):blockQ id Q .ret env h:=hk
theorem zQ {id:Nat} (hk:Q .normal env h):blockQ id Q (.exit id) env h:=by simp only [blockQ,if_true];exact hk
theorem yi {N:List AV→AH→Prop} (hk:N env h):loopQ N Q .normal env h:=hk
theorem zP {N:List AV→AH→Prop} {id:Nat} (hk:Q (.exit id) env h):loopQ N Q (.exit id) env h:=hk
theorem yp {N:List AV→AH→Prop} (hk:Q .ret env h):loopQ N Q .ret env h:=hk
theorem r_loop {body:Code} {σ:Type} (E:σ→List AV) (H:σ→AH) (inv:σ→Prop) (μ:σ→Nat) (s0:σ) (h0:wk h env h (E s0) (H s0)) (hi:inv s0)
  (hs:∀ s,inv s→qU P body (loopQ (fun env' h'=>∃ s',inv s'∧μ s' < μ s∧wk (H s) env' h' (E s') (H s')) Q) (E s) (H s)):qU P (.loop body) Q env h:=by
 refine ⟨fun n env h=>∃ s,μ s=n∧inv s∧env=E s∧h=H s,⟨_,_,_,h0,s0,rfl,hi,rfl,rfl⟩,?_⟩
 rintro n _ _ ⟨s,hn,hi,rfl,rfl⟩
 subst hn
 have:=hs s hi
 have e:(loopQ (fun env' h'=>∃ s',inv s'∧μ s' < μ s∧wk (H s) env' h' (E s') (H s')) Q) =
   (loopQ (fun env' h'=>∃ m env2 h2,m < μ s∧wk (H s) env' h' env2 h2∧(∃ s',μ s'=m∧inv s'∧env2=E s'∧h2=H s')) Q):=by
  funext x env' h'
  cases x with
  | normal =>
   simp only [loopQ]
   refine propext ⟨fun ⟨s',k1,k2,k3⟩=>⟨_,_,_,k2,k3,s',rfl,k1,rfl,rfl⟩,?_⟩
   rintro ⟨m,_,_,k1,k2,s',rfl,k3,rfl,rfl⟩
   exact ⟨s',k3,k1,k2⟩
  | _=>rfl
 rw [e] at this
 exact this

theorem fin_cut {h0:AH} {K:AV→AH→Prop} {v v':AV} (hv:leV v v') (hl:v'.low h0.blks.length h0.toks.length=true)
  (hb:∀ (i:Nat) (k:Blk),i < h0.blks.length→h.blks[i]?=some k→h0.blks[i]?=some k ∨ k.low h0.blks.length h0.toks.length=true) (hk:K v' (h.cut h0.blks.length h0.toks.length)):finK h0 K v h :=
 ⟨v',_,(wk.le (leL.cons hv leL.nil)).trans (wk.cut (by simp [z9,hl]) hb),hk⟩
theorem fin_wk {h0 h':AH} {K:AV→AH→Prop} {v v':AV} (hw:wk h0 [v] h [v'] h') (hk:K v' h'):finK h0 K v h:=⟨v',h',hw,hk⟩
theorem vF {fn:Func} {K:AV→AH→Prop} {h0:AH} (hk:bodyQ P fn h0 K .ret env h):bodyQ P fn h0 K .normal env h:=hk
end
theorem leV.of_eq {a b:AV} (h:a=b):leV a b:=h ▸ leV.refl a
theorem rwp_mono {P:Program} {h:AH} {r:Res} {K K':AV→AH→Prop} (hk:∀ v h',K v h'→K' v h') (hr:rwp P h r K):rwp P h r K':=by
 cases r with
 | ok v h'=>exact hk _ _ hr
 | len n v h'=>exact fun hn=>hk _ _ (hr hn)
 | call f args=>exact Spec.mono hr hk
 | round id args=>exact SpecY.mono hr hk
 | any S=>exact fun v h' hS=>hk _ _ (hr v h' hS)
 | fail=>exact hr
theorem awpOps_mono {P:Program} {ops:Array Oper} {Q Q':List AV→AH→Prop} (hq:∀ e h,Q e h→Q' e h):∀ (rest:List Oper) (env:List AV) (h:AH),ym P ops Q rest env h→ym P ops Q' rest env h
 | [],_,_,hk=>hq _ _ hk
 | o::rest,_,_,⟨env,h,hs,hk⟩=>by
  refine ⟨env,h,hs,?_⟩
  cases hb:aG ops o env with
  | none=>rw [hb] at hk;exact hk
  | some b =>
   rw [hb] at hk
   cases b with
   | true=>exact hk.imp (rwp_mono fun v h'=>awpOps_mono hq rest _ _) (bwp_mono fun v h'=>awpOps_mono hq rest _ _)
   | false=>exact awpOps_mono hq rest _ _ hk
theorem awpDraw_mono {P:Program} {ops:Array Oper} {Ns:List Nat} {F:Nat→AH→Prop} {Q Q':List AV→AH→Prop} (hq:∀ e h,Q e h→Q' e h):∀ (rest:List Oper) (i:Nat) (env:List AV) (h:AH),yV P ops Ns F Q i rest env h→yV P ops Ns F Q' i rest env h
 | [],_,_,_,hk=>hq _ _ hk
 | _::rest,i,_,_,⟨v,h',h1,h2,h4,h3⟩=>⟨v,h',h1,h2,h4,awpDraw_mono hq rest (i+1) _ _ h3⟩
theorem awpAny_mono {P:Program} {ops:Array Oper} {Q Q':List AV→AH→Prop} (hq:∀ e h,Q e h→Q' e h):∀ (m:Nat) (listed:Array Bool) (env:List AV) (h:AH),awpAny P ops Q m listed env h→awpAny P ops Q' m listed env h
 | 0,_,_,_,hk=>⟨hk.1,hq _ _ hk.2⟩
 | m+1,listed,env,h,hk=>by
  refine ⟨fun e=>hq _ _ (hk.1 e),fun i hi o ho=>?_⟩
  have hk:=hk.2 i hi o ho
  cases hb:aG ops o env with
  | none=>rw [hb] at hk;exact hk
  | some b =>
   rw [hb] at hk
   cases b with
   | true=>exact hk.imp (rwp_mono fun v h'=>awpAny_mono hq m _ _ _) (bwp_mono fun v h'=>awpAny_mono hq m _ _ _)
   | false=>exact awpAny_mono hq m _ _ _ hk
theorem qS {P:Program}:∀ {Q Q':Exit→List AV→AH→Prop} (_:∀ x e h,Q x e h→Q' x e h) (c:Code) (env:List AV) (h:AH),qU P c Q env h→qU P c Q' env h
 | _,_,hq,.skip,_,_,hk=>hq _ _ _ hk
 | _,_,hq,.label _,_,_,hk=>hq _ _ _ hk
 | _,_,hq,.exit _,_,_,hk=>hq _ _ _ hk
 | _,_,hq,.ret,_,_,hk=>hq _ _ _ hk
 | _,_,hq,.region _ _ true,_,_,.inl ⟨Ns,F,h1,h3,h2⟩=>.inl ⟨Ns,F,h1,h3,awpDraw_mono (hq .normal) _ _ _ _ h2⟩
 | _,_,hq,.region _ _ true,_,_,.inr ⟨h1,h2⟩=>.inr ⟨h1,awpAny_mono (hq .normal) _ _ _ _ h2⟩
 | _,_,hq,.region _ _ false,_,_,hk=>awpOps_mono (hq .normal) _ _ _ hk
 | _,_,hq,.seq a b,_,_,hk=>qS (fun x env' h' h1=>by
   cases x with
   | normal=>obtain ⟨e2,h2,h3,h4⟩:=h1;exact ⟨e2,h2,h3,qS hq b _ _ h4⟩
   | _=>exact hq _ _ _ h1) a _ _ hk
 | _,_,hq,.cond c t e,env,_,⟨h1,h2⟩=>by
  refine ⟨h1,?_⟩
  cases hc:ev env c with
  | bool b =>
   rw [hc] at h2
   cases b with
   | true=>exact qS hq t _ _ h2
   | false=>exact qS hq e _ _ h2
  | _=>rw [hc] at h2;exact h2
 | _,_,hq,.block id body,_,_,hk=>qS (fun x env' h' h1=>by
   cases x with
   | exit id' =>
    by_cases hid:id'=id
    ·simp only [hid,if_true] at h1 ⊢;exact hq _ _ _ h1
    ·simp only [hid,if_false] at h1 ⊢;exact hq _ _ _ h1
   | _=>exact hq _ _ _ h1) body _ _ hk
 | _,_,hq,.loop body,_,_,⟨I,h1,h2⟩=>⟨I,h1,fun n env h hI=>qS (fun x env' h' h3=>by
   cases x with
   | normal=>exact h3
   | _=>exact hq _ _ _ h3) body _ _ (h2 n env h hI)⟩
 | _,_,hq,.rangeFunc f ps assign body,env,h,⟨h1,h2,h3,env2,h5,hwk,h4⟩=>by
  refine ⟨h1,h2,h3,env2,h5,hwk,?_⟩
  split at h4
  ·rename_i g first caps hx
   refine h4.mono fun r h' ⟨st,pe,env',q1,q2,q3,k1,k2,k3⟩=>⟨st,pe,env',q1,q2,q3,k1,k2,?_⟩
   split at k3
   ·exact hq _ _ _ k3
   ·exact hq _ _ _ k3
   ·exact hq _ _ _ k3
   ·exact k3
  ·exact h4
 | _,_,_,.scope _,_,_,hk=>hk.elim
 | _,_,_,.goto _,_,_,hk=>hk.elim
 | _,_,_,.refuse _,_,_,hk=>hk.elim
end Go.Vv
