/- More rules: guards, places in slices and texts, drawn orders, folded loops. -/
import Derived.Test.YtbaclapbinkedaaVvT
namespace Go.Vv
open Go

theorem zW {ops:Array Oper} {o:Oper} {env:List AV} {j d:Nat} {want b c:Bool} (hg:o.guard=some (j,want)) (hd:(ops[j]?).bind (·.dst)=some d) (he:env[d]?=some (gv b (.bool c))):aG ops o env=some (b&&(c==want)):=by
 simp only [aG,hg,hd,he]
 cases b <;> simp [gv,za]
theorem zp {env:List AV} {x:Operand} {b:Bool} {v:AV} (hx:yZ env x=some (gv b v)) (hb:b=true):yZ env x=some v:=by subst hb;rw [gv_true] at hx;exact hx
theorem gT {t:Bool} (h:t=true):(t==true)=true:=by rw [h];rfl
theorem gF {t:Bool} (h:t=false):(t==false)=true:=by rw [h];rfl
theorem gT2 {b t:Bool} (hb:b=true) (h:t=true):(b&&(t==true))=true:=by rw [hb,h];rfl
theorem gF2 {b t:Bool} (hb:b=true) (h:t=false):(b&&(t==false))=true:=by rw [hb,h];rfl
theorem zS {t q b:Bool} (hg:t=true→b=true):(if t then gv b (.bool q) else .bool false)=AV.bool (t&&q):=by cases t <;> simp [gv] ; simp [hg rfl]
theorem ya {t q b:Bool} (hg:t=false→b=true):(if t then .bool true else gv b (.bool q))=AV.bool (t || q):=by cases t <;> simp [gv] ; simp [hg rfl]
section
variable {P:Program} {ops:Array Oper} {Q:List AV→AH→Prop} {o:Oper} {rest:List Oper} {env env':List AV} {h:AH}
variable {i:Nat} {Ns:List Nat} {F:Nat→AH→Prop}
theorem yc (hk:Q env h):yV P ops Ns F Q i [] env h:=hk
theorem zo (hN:Ns.contains i=false) {v:AV} (hg:aG ops o env=some true) (ha:zN P o env h=.ok v h) (hd:vl o.dst env v=some env') (hk:yV P ops Ns F Q (i+1) rest env' h):yV P ops Ns F Q i (o::rest) env h :=
 ⟨v,h,.inl ⟨hN,by simp only [AR,hg,ha,and_self]⟩,.inr rfl,.inl rfl,by rw [wl hd];exact hk⟩
theorem x7 (hN:Ns.contains i=false) {v:AV} {h':AH} (hF:FOk ((Region.before ops).getD i 0) Ns F h') (hc:anch ops Ns i=true) (hg:aG ops o env=some true) (ha:zN P o env h=.ok v h') (hd:vl o.dst env v=some env') (hk:yV P ops Ns F Q (i+1) rest env' h'):yV P ops Ns F Q i (o::rest) env h :=
 ⟨v,h',.inl ⟨hN,by simp only [AR,hg,ha,and_self]⟩,.inl hc,.inr hF,by rw [wl hd];exact hk⟩
theorem draw_len (hN:Ns.contains i=false) {n:Nat} {v:AV} (hg:aG ops o env=some true) (ha:zN P o env h=.len n v h) (hd:vl o.dst env v=some env') (hk:yV P ops Ns F Q (i+1) rest env' h):yV P ops Ns F Q i (o::rest) env h :=
 ⟨v,h,.inl ⟨hN,by simp only [AR,hg,ha,and_self]⟩,.inr rfl,.inl rfl,by rw [wl hd];exact hk⟩
theorem draw_call (hN:Ns.contains i=false) {f:FuncId} {args:List AV} {v:AV} (hg:aG ops o env=some true) (ha:zN P o env h=.call f args) (hs:Spec P f args h fun r h'=>r=v∧h'=h) (hd:vl o.dst env v=some env') (hk:yV P ops Ns F Q (i+1) rest env' h) :
  yV P ops Ns F Q i (o::rest) env h:=⟨v,h,.inl ⟨hN,by simp only [AR,hg,ha];exact hs⟩,.inr rfl,.inl rfl,by rw [wl hd];exact hk⟩
theorem xc (hN:Ns.contains i=true) {f:FuncId} {args:List AV} {v:AV} (hg:aG ops o env=some true) (ha:∀ h2,zN P o env h2=.call f args) (hs:∀ h2,F i h2→Spec P f args h2 fun r hh=>r=v∧hh=h2) (hd:vl o.dst env v=some env') (hk:yV P ops Ns F Q (i+1) rest env' h) :
  yV P ops Ns F Q i (o::rest) env h:=⟨v,h,.inr (.inl ⟨hN,hg,rfl,.inl ⟨f,args,ha,hs⟩⟩),.inr rfl,.inl rfl,by rw [wl hd];exact hk⟩
theorem qc (hN:Ns.contains i=true) {v:AV} (hg:aG ops o env=some true) (ha:∀ h2,F i h2→zN P o env h2=.ok v h2) (hd:vl o.dst env v=some env') (hk:yV P ops Ns F Q (i+1) rest env' h) :
  yV P ops Ns F Q i (o::rest) env h:=⟨v,h,.inr (.inl ⟨hN,hg,rfl,.inr ha⟩),.inr rfl,.inl rfl,by rw [wl hd];exact hk⟩
theorem zx (hN:Ns.contains i=false) {b:Bool} {v:AV} (hg:aG ops o env=some b) (ha:b=true→zN P o env h=.ok v h) (hd:vl o.dst env (gv b v)=some env') (hk:yV P ops Ns F Q (i+1) rest env' h):yV P ops Ns F Q i (o::rest) env h:=by
 cases b with
 | true=>rw [gv_true] at hd;exact zo hN hg (ha rfl) hd hk
 | false=>exact ⟨za,h,.inl ⟨hN,by simp [AR,hg]⟩,.inr rfl,.inl rfl,by rw [gv_false] at hd;rw [wl hd];exact hk⟩
theorem draw_glen (hN:Ns.contains i=false) {b:Bool} {n:Nat} {v:AV} (hg:aG ops o env=some b) (ha:b=true→zN P o env h=.len n v h) (hd:vl o.dst env (gv b v)=some env') (hk:yV P ops Ns F Q (i+1) rest env' h):yV P ops Ns F Q i (o::rest) env h:=by
 cases b with
 | true=>rw [gv_true] at hd;exact draw_len hN hg (ha rfl) hd hk
 | false=>exact ⟨za,h,.inl ⟨hN,by simp [AR,hg]⟩,.inr rfl,.inl rfl,by rw [gv_false] at hd;rw [wl hd];exact hk⟩
theorem vz (hN:Ns.contains i=false) {b:Bool} {f:FuncId} {args:List AV} {v:AV} (hg:aG ops o env=some b) (ha:b=true→zN P o env h=.call f args) (hs:b=true→Spec P f args h fun r h'=>r=v∧h'=h)
  (hd:vl o.dst env (gv b v)=some env') (hk:yV P ops Ns F Q (i+1) rest env' h):yV P ops Ns F Q i (o::rest) env h:=by
 cases b with
 | true=>rw [gv_true] at hd;exact draw_call hN hg (ha rfl) (hs rfl) hd hk
 | false=>exact ⟨za,h,.inl ⟨hN,by simp [AR,hg]⟩,.inr rfl,.inl rfl,by rw [gv_false] at hd;rw [wl hd];exact hk⟩
variable {i0:Nat}
end

inductive Fx (P:Program):List (TypeId×AV)→List AV→Prop
 | nil:Fx P [] []
 | cons {t:TypeId} {v v':AV} {r:List (TypeId×AV)} {s:List AV}:tyfix P t v=v'→Fx P r s→Fx P ((t,v)::r) (v'::s)
theorem Fx.eq {P:Program} {l:List (TypeId×AV)} {s:List AV} (h:Fx P l s):fixL P l=s:=by
 induction h with
 | nil=>rfl
 | cons h _ ih=>simp only [fixL,h,ih]
theorem zz {P:Program} {o:Oper} {env:List AV} {h:AH} {c:Call} {f:Operand} {g:FuncId} {l:List (TypeId×AV)} {args:List AV} (ho:o.op=.call c) (hc:c.callee=.value f) (hf:yZ env f=some (.fn (.func g) [] []))
  (hl:argo env c.args.toList c.argTypes.toList=some l) (ha:Fx P l args):zN P o env h=.call g args :=
 s_call ho hc hf hl (by simp [ha.eq])
theorem s_callC {P:Program} {o:Oper} {env:List AV} {h:AH} {c:Call} {f:Operand} {g:FuncId} {l:List (TypeId×AV)} {args first caps all:List AV} (ho:o.op=.call c) (hc:c.callee=.value f) (hf:yZ env f=some (.fn (.func g) first caps))
  (hl:argo env c.args.toList c.argTypes.toList=some l) (ha:Fx P l args) (hall:first++args++caps=all):zN P o env h=.call g all :=
 s_call ho hc hf hl (by rw [ha.eq,hall])
theorem r_loopU {P:Program} {Q:Exit→List AV→AH→Prop} {env:List AV} {h:AH} {body:Code} {σ:Type} (U:σ→List (Nat×AV)) (inv:σ→Prop) (μ:σ→Nat) (s0:σ) {E:σ→List AV} (_hE:∀ s,upd env (U s)=E s) (h0:leL env (E s0)) (hi:inv s0)
  (hs:∀ s,inv s→qU P body (loopQ (fun env' h'=>∃ s',inv s'∧μ s' < μ s∧wk h env' h' (E s') h) Q) (E s) h):qU P (.loop body) Q env h :=
 r_loop E (fun _=>h) inv μ s0 (wk.le h0) hi hs
end Go.Vv
