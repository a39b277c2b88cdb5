/- More rules: guards, places in slices and texts, drawn orders, folded loops. -/
import Derived.Test.YtdodjocbjapaeaaGreatVvT
namespace Go.Vv
open Go

theorem aG_gv {ops:Array Oper} {o:Oper} {env:List AV} {j d:Nat} {want b c:Bool} (hg:o.guard=some (j,want)) (hd:(ops[j]?).bind (·.dst)=some d) (he:env[d]?=some (gv b (.bool c))):aG ops o env=some (b&&(c==want)):=by
 simp only [aG,hg,hd,he];cases b <;> simp [gv,aundef]
theorem yh {env:List AV} {x:Operand} {b:Bool} {v:AV} (hx:z7 env x=some (gv b v)) (hb:b=true):z7 env x=some v:=by subst hb;rw [gv_true] at hx;exact hx
theorem and_l {a b:Bool} (h:(a&&b)=true):a=true:=by cases a <;> simp_all
theorem pick_bb {t q r:Bool}:(if t then AV.bool q else .bool r)=.bool (if t then q else r):=by cases t <;> rfl
theorem pick_and {t q b:Bool} (hg:t=true→b=true):(if t then gv b (.bool q) else .bool false)=AV.bool (t&&q):=by cases t <;> simp [gv] ; simp [hg rfl]
theorem pick_or {t q b:Bool} (hg:t=false→b=true):(if t then .bool true else gv b (.bool q))=AV.bool (t || q):=by cases t <;> simp [gv] ; simp [hg rfl]
theorem pick_g1 {t q r b:Bool} (hg:t=true→b=true):(if t then gv b (.bool q) else .bool r)=AV.bool (if t then q else r):=by cases t <;> simp [gv] ; simp [hg rfl]
theorem pick_g2 {t q r b:Bool} (hg:t=false→b=true):(if t then .bool r else gv b (.bool q))=AV.bool (if t then r else q):=by cases t <;> simp [gv] ; simp [hg rfl]
theorem pick_g3 {t q r b c:Bool} (hg:t=true→b=true) (hg':t=false→c=true):(if t then gv b (.bool q) else gv c (.bool r))=AV.bool (if t then q else r):=by cases t <;> simp [gv] <;> simp [hg,hg']
theorem pick_ii {t:Bool} {k:IntKind} {a b:Int}:(if t then AV.int k a else .int k b)=.int k (if t then a else b):=by cases t <;> rfl
theorem pick_ig1 {t b:Bool} {k:IntKind} {x y:Int} (hg:t=true→b=true):(if t then gv b (.int k x) else .int k y)=AV.int k (if t then x else y):=by cases t <;> simp [gv] ; simp [hg rfl]
theorem pick_ig2 {t b:Bool} {k:IntKind} {x y:Int} (hg:t=false→b=true):(if t then .int k y else gv b (.int k x))=AV.int k (if t then y else x):=by cases t <;> simp [gv] ; simp [hg rfl]


section
variable {P:Program} {ops:Array Oper} {Q:List AV→AH→Prop} {o:Oper} {rest:List Oper} {env env':List AV} {h:AH}
variable {i:Nat} {Ns:List Nat} {F:Nat→AH→Prop}
theorem draw_nil (hk:Q env h):zP P ops Ns F Q i [] env h:=hk
theorem zx (hN:Ns.contains i=false) {v:AV} (hg:aG ops o env=some true) (ha:zp P o env h=.ok v h) (hd:x9 o.dst env v=some env') (hk:zP P ops Ns F Q (i+1) rest env' h):zP P ops Ns F Q i (o::rest) env h :=
 ⟨v,h,.inl ⟨hN,by simp only [AR,hg,ha,and_self]⟩,.inr rfl,.inl rfl,by rw [y6 hd];exact hk⟩
theorem zH (hN:Ns.contains i=false) {v:AV} {h':AH} (hF:FOk ((Region.before ops).getD i 0) Ns F h') (hc:anch ops Ns i=true) (hg:aG ops o env=some true) (ha:zp P o env h=.ok v h') (hd:x9 o.dst env v=some env') (hk:zP P ops Ns F Q (i+1) rest env' h'):zP P ops Ns F Q i (o::rest) env h :=
 ⟨v,h',.inl ⟨hN,by simp only [AR,hg,ha,and_self]⟩,.inl hc,.inr hF,by rw [y6 hd];exact hk⟩
theorem draw_len (hN:Ns.contains i=false) {n:Nat} {v:AV} (hg:aG ops o env=some true) (ha:zp P o env h=.len n v h) (hd:x9 o.dst env v=some env') (hk:zP P ops Ns F Q (i+1) rest env' h):zP P ops Ns F Q i (o::rest) env h :=
 ⟨v,h,.inl ⟨hN,by simp only [AR,hg,ha,and_self]⟩,.inr rfl,.inl rfl,by rw [y6 hd];exact hk⟩
theorem wg (hN:Ns.contains i=false) {f:FuncId} {args:List AV} {v:AV} (hg:aG ops o env=some true) (ha:zp P o env h=.call f args) (hs:Spec P f args h fun r h'=>r=v∧h'=h) (hd:x9 o.dst env v=some env') (hk:zP P ops Ns F Q (i+1) rest env' h) :
  zP P ops Ns F Q i (o::rest) env h:=⟨v,h,.inl ⟨hN,by simp only [AR,hg,ha];exact hs⟩,.inr rfl,.inl rfl,by rw [y6 hd];exact hk⟩
theorem zy (hN:Ns.contains i=true) {f:FuncId} {args:List AV} {v:AV} (hg:aG ops o env=some true) (ha:∀ h2,zp P o env h2=.call f args) (hs:∀ h2,F i h2→Spec P f args h2 fun r hh=>r=v∧hh=h2) (hd:x9 o.dst env v=some env') (hk:zP P ops Ns F Q (i+1) rest env' h) :
  zP P ops Ns F Q i (o::rest) env h:=⟨v,h,.inr (.inl ⟨hN,hg,rfl,.inl ⟨f,args,ha,hs⟩⟩),.inr rfl,.inl rfl,by rw [y6 hd];exact hk⟩
theorem xe (hN:Ns.contains i=true) {v:AV} (hg:aG ops o env=some true) (ha:∀ h2,F i h2→zp P o env h2=.ok v h2) (hd:x9 o.dst env v=some env') (hk:zP P ops Ns F Q (i+1) rest env' h) :
  zP P ops Ns F Q i (o::rest) env h:=⟨v,h,.inr (.inl ⟨hN,hg,rfl,.inr ha⟩),.inr rfl,.inl rfl,by rw [y6 hd];exact hk⟩
theorem qy (hN:Ns.contains i=false) {b:Bool} {v:AV} (hg:aG ops o env=some b) (ha:b=true→zp P o env h=.ok v h) (hd:x9 o.dst env (gv b v)=some env') (hk:zP P ops Ns F Q (i+1) rest env' h):zP P ops Ns F Q i (o::rest) env h:=by
 cases b with
 | true=>rw [gv_true] at hd;exact zx hN hg (ha rfl) hd hk
 | false=>exact ⟨aundef,h,.inl ⟨hN,by simp [AR,hg]⟩,.inr rfl,.inl rfl,by rw [gv_false] at hd;rw [y6 hd];exact hk⟩
theorem qU (hN:Ns.contains i=false) {b:Bool} {n:Nat} {v:AV} (hg:aG ops o env=some b) (ha:b=true→zp P o env h=.len n v h) (hd:x9 o.dst env (gv b v)=some env') (hk:zP P ops Ns F Q (i+1) rest env' h):zP P ops Ns F Q i (o::rest) env h:=by
 cases b with
 | true=>rw [gv_true] at hd;exact draw_len hN hg (ha rfl) hd hk
 | false=>exact ⟨aundef,h,.inl ⟨hN,by simp [AR,hg]⟩,.inr rfl,.inl rfl,by rw [gv_false] at hd;rw [y6 hd];exact hk⟩
theorem yI (hN:Ns.contains i=false) {b:Bool} {f:FuncId} {args:List AV} {v:AV} (hg:aG ops o env=some b) (ha:b=true→zp P o env h=.call f args) (hs:b=true→Spec P f args h fun r h'=>r=v∧h'=h)
  (hd:x9 o.dst env (gv b v)=some env') (hk:zP P ops Ns F Q (i+1) rest env' h):zP P ops Ns F Q i (o::rest) env h:=by
 cases b with
 | true=>rw [gv_true] at hd;exact wg hN hg (ha rfl) (hs rfl) hd hk
 | false=>exact ⟨aundef,h,.inl ⟨hN,by simp [AR,hg]⟩,.inr rfl,.inl rfl,by rw [gv_false] at hd;rw [y6 hd];exact hk⟩
variable {i0:Nat}
end

inductive Fx (P:Program):List (TypeId×AV)→List AV→Prop
 | nil:Fx P [] []
 | cons {t:TypeId} {v v':AV} {r:List (TypeId×AV)} {s:List AV}:tyfix P t v=v'→Fx P r s→Fx P ((t,v)::r) (v'::s)
theorem Fx.eq {P:Program} {l:List (TypeId×AV)} {s:List AV} (h:Fx P l s):fixL P l=s:=by
 induction h with
 | nil=>rfl
 | cons h _ ih=>simp only [fixL,h,ih]
theorem wp {P:Program} {o:Oper} {env:List AV} {h:AH} {c:Call} {f:Operand} {g:FuncId} {l:List (TypeId×AV)} {args:List AV} (ho:o.op=.call c) (hc:c.callee=.value f) (hf:z7 env f=some (.fn (.func g) [] []))
  (hl:argo env c.args.toList c.argTypes.toList=some l) (ha:Fx P l args):zp P o env h=.call g args :=
 s_call ho hc hf hl (by simp [ha.eq])
theorem s_callC {P:Program} {o:Oper} {env:List AV} {h:AH} {c:Call} {f:Operand} {g:FuncId} {l:List (TypeId×AV)} {args first caps all:List AV} (ho:o.op=.call c) (hc:c.callee=.value f) (hf:z7 env f=some (.fn (.func g) first caps))
  (hl:argo env c.args.toList c.argTypes.toList=some l) (ha:Fx P l args) (hall:first++args++caps=all):zp P o env h=.call g all :=
 s_call ho hc hf hl (by rw [ha.eq,hall])
theorem r_loopU {P:Program} {Q:Exit→List AV→AH→Prop} {env:List AV} {h:AH} {body:Code} {σ:Type} (U:σ→List (Nat×AV)) (inv:σ→Prop) (μ:σ→Nat) (s0:σ) {E:σ→List AV} (_hE:∀ s,wD env (U s)=E s) (h0:leL env (E s0)) (hi:inv s0)
  (hs:∀ s,inv s→qd P body (loopQ (fun env' h'=>∃ s',inv s'∧μ s' < μ s∧wk h env' h' (E s') h) Q) (E s) h):qd P (.loop body) Q env h :=
 r_loop E (fun _=>h) inv μ s0 (wk.le h0) hi hs
end Go.Vv
