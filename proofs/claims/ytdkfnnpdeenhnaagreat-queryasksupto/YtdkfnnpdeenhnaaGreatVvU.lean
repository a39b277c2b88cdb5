/- More rules: guards, places in slices and texts, drawn orders, folded loops. -/
import Derived.Test.YtdkfnnpdeenhnaaGreatVvT
namespace Go.Vv
open Go

theorem aG_gv {ops:Array Oper} {o:Oper} {env:List AV} {j d:Nat} {want b c:Bool} (hg:o.guard=some (j,want)) (hd:(ops[j]?).bind (·.dst)=some d) (he:env[d]?=some (gv b (.bool c))):aG ops o env=some (b&&(c==want)):=by
 simp only [aG,hg,hd,he];cases b <;> simp [gv,aundef]
theorem zL {env:List AV} {x:Operand} {b:Bool} {v:AV} (a:zU env x=some (gv b v)) (c:b=true):zU env x=some v:=by subst c;rw [qR] at a;exact a
theorem gF {t:Bool} (h:t=false):(t==false)=true:=by rw [h];rfl
theorem and_l {a b:Bool} (h:(a&&b)=true):a=true:=by cases a <;> simp_all
theorem pick_bb {t q r:Bool}:(if t then AV.bool q else .bool r)=.bool (if t then q else r):=by cases t <;> rfl
theorem pick_and {t q b:Bool} (a:t=true->b=true):(if t then gv b (.bool q) else .bool false)=AV.bool (t&&q):=by cases t <;> simp [gv] ; simp [a rfl]
theorem pick_or {t q b:Bool} (a:t=false->b=true):(if t then .bool true else gv b (.bool q))=AV.bool (t || q):=by cases t <;> simp [gv] ; simp [a rfl]
theorem pick_g1 {t q r b:Bool} (a:t=true->b=true):(if t then gv b (.bool q) else .bool r)=AV.bool (if t then q else r):=by cases t <;> simp [gv] ; simp [a rfl]
theorem pick_g2 {t q r b:Bool} (a:t=false->b=true):(if t then .bool r else gv b (.bool q))=AV.bool (if t then r else q):=by cases t <;> simp [gv] ; simp [a rfl]
theorem pick_g3 {t q r b c:Bool} (d:t=true->b=true) (a:t=false->c=true):(if t then gv b (.bool q) else gv c (.bool r))=AV.bool (if t then q else r):=by cases t <;> simp [gv] <;> simp [d,a]
theorem pick_ii {t:Bool} {k:IntKind} {a b:Int}:(if t then AV.int k a else .int k b)=.int k (if t then a else b):=by cases t <;> rfl
theorem pick_ig1 {t b:Bool} {k:IntKind} {x y:Int} (a:t=true->b=true):(if t then gv b (.int k x) else .int k y)=AV.int k (if t then x else y):=by cases t <;> simp [gv] ; simp [a rfl]
theorem pick_ig2 {t b:Bool} {k:IntKind} {x y:Int} (a:t=false->b=true):(if t then .int k y else gv b (.int k x))=AV.int k (if t then y else x):=by cases t <;> simp [gv] ; simp [a rfl]


section
variable {P:Program} {ops:Array Oper} {Q:List AV->AH->Prop} {o:Oper} {rest:List Oper} {env env':List AV} {h:AH}
variable {i:Nat} {Ns:List Nat} {F:Nat->AH->Prop}
theorem draw_nil (a:Q env h):zA P ops Ns F Q i [] env h:=a
theorem zD (b:Ns.contains i=false) {v:AV} (a:aG ops o env=some true) (c:zn P o env h=.ok v h) (hd:xw o.dst env v=some env') (d:zA P ops Ns F Q (i+1) rest env' h):zA P ops Ns F Q i (o::rest) env h :=
 ⟨v,h,.inl ⟨b,by simp only [AR,a,c,and_self]⟩,.inr rfl,.inl rfl,by rw [yY hd];exact d⟩
theorem yD (d:Ns.contains i=false) {v:AV} {a:AH} (c:FOk ((Region.before ops).getD i 0) Ns F a) (f:anch ops Ns i=true) (b:aG ops o env=some true) (e:zn P o env h=.ok v a) (hd:xw o.dst env v=some env') (g:zA P ops Ns F Q (i+1) rest env' a):zA P ops Ns F Q i (o::rest) env h :=
 ⟨v,a,.inl ⟨d,by simp only [AR,b,e,and_self]⟩,.inl f,.inr c,by rw [yY hd];exact g⟩
theorem draw_len (b:Ns.contains i=false) {n:Nat} {v:AV} (a:aG ops o env=some true) (c:zn P o env h=.len n v h) (hd:xw o.dst env v=some env') (d:zA P ops Ns F Q (i+1) rest env' h):zA P ops Ns F Q i (o::rest) env h :=
 ⟨v,h,.inl ⟨b,by simp only [AR,a,c,and_self]⟩,.inr rfl,.inl rfl,by rw [yY hd];exact d⟩
theorem draw_call (c:Ns.contains i=false) {f:FuncId} {args:List AV} {v:AV} (b:aG ops o env=some true) (d:zn P o env h=.call f args) (hs:Spec P f args h λr a=>r=v/\a=h) (hd:xw o.dst env v=some env') (e:zA P ops Ns F Q (i+1) rest env' h) :
  zA P ops Ns F Q i (o::rest) env h:=⟨v,h,.inl ⟨c,by simp only [AR,b,d];exact hs⟩,.inr rfl,.inl rfl,by rw [yY hd];exact e⟩
theorem zM (c:Ns.contains i=true) {f:FuncId} {args:List AV} {v:AV} (b:aG ops o env=some true) (d:∀a,zn P o env a=.call f args) (hs:∀a,F i a->Spec P f args a λr hh=>r=v/\hh=a) (hd:xw o.dst env v=some env') (e:zA P ops Ns F Q (i+1) rest env' h) :
  zA P ops Ns F Q i (o::rest) env h:=⟨v,h,.inr (.inl ⟨c,b,rfl,.inl ⟨f,args,d,hs⟩⟩),.inr rfl,.inl rfl,by rw [yY hd];exact e⟩
theorem draw_okN (c:Ns.contains i=true) {v:AV} (b:aG ops o env=some true) (d:∀a,F i a->zn P o env a=.ok v a) (hd:xw o.dst env v=some env') (e:zA P ops Ns F Q (i+1) rest env' h) :
  zA P ops Ns F Q i (o::rest) env h:=⟨v,h,.inr (.inl ⟨c,b,rfl,.inr d⟩),.inr rfl,.inl rfl,by rw [yY hd];exact e⟩
theorem w4 (c:Ns.contains i=false) {b:Bool} {v:AV} (a:aG ops o env=some b) (e:b=true->zn P o env h=.ok v h) (hd:xw o.dst env (gv b v)=some env') (d:zA P ops Ns F Q (i+1) rest env' h):zA P ops Ns F Q i (o::rest) env h:=by
 cases b with
 | true=>rw [qR] at hd;exact zD c a (e rfl) hd d
 | false=>exact ⟨aundef,h,.inl ⟨c,by simp [AR,a]⟩,.inr rfl,.inl rfl,by rw [gv_false] at hd;rw [yY hd];exact d⟩
theorem qe (c:Ns.contains i=false) {b:Bool} {n:Nat} {v:AV} (a:aG ops o env=some b) (e:b=true->zn P o env h=.len n v h) (hd:xw o.dst env (gv b v)=some env') (d:zA P ops Ns F Q (i+1) rest env' h):zA P ops Ns F Q i (o::rest) env h:=by
 cases b with
 | true=>rw [qR] at hd;exact draw_len c a (e rfl) hd d
 | false=>exact ⟨aundef,h,.inl ⟨c,by simp [AR,a]⟩,.inr rfl,.inl rfl,by rw [gv_false] at hd;rw [yY hd];exact d⟩
theorem yy (c:Ns.contains i=false) {b:Bool} {f:FuncId} {args:List AV} {v:AV} (a:aG ops o env=some b) (g:b=true->zn P o env h=.call f args) (hs:b=true->Spec P f args h λr e=>r=v/\e=h)
  (hd:xw o.dst env (gv b v)=some env') (d:zA P ops Ns F Q (i+1) rest env' h):zA P ops Ns F Q i (o::rest) env h:=by
 cases b with
 | true=>rw [qR] at hd;exact draw_call c a (g rfl) (hs rfl) hd d
 | false=>exact ⟨aundef,h,.inl ⟨c,by simp [AR,a]⟩,.inr rfl,.inl rfl,by rw [gv_false] at hd;rw [yY hd];exact d⟩
variable {i0:Nat}
end

inductive Fx (P:Program):List (TypeId×AV)->List AV->Prop
 | nil:Fx P [] []
 | cons {t:TypeId} {v v':AV} {r:List (TypeId×AV)} {s:List AV}:tyfix P t v=v'->Fx P r s->Fx P ((t,v)::r) (v'::s)
theorem Fx.eq {P:Program} {l:List (TypeId×AV)} {s:List AV} (h:Fx P l s):fixL P l=s:=by
 induction h with
 | nil=>rfl
 | cons h _ ih=>simp only [fixL,h,ih]
theorem xD {P:Program} {o:Oper} {env:List AV} {h:AH} {c:Call} {f:Operand} {g:FuncId} {l:List (TypeId×AV)} {args:List AV} (d:o.op=.call c) (j:c.callee=.value f) (b:zU env f=some (.fn (.func g) [] []))
  (a:argo env c.args.toList c.argTypes.toList=some l) (e:Fx P l args):zn P o env h=.call g args :=
 s_call d j b a (by simp [e.eq])
theorem s_callC {P:Program} {o:Oper} {env:List AV} {h:AH} {c:Call} {f:Operand} {g:FuncId} {l:List (TypeId×AV)} {args first a all:List AV} (j:o.op=.call c) (m:c.callee=.value f) (e:zU env f=some (.fn (.func g) first a))
  (d:argo env c.args.toList c.argTypes.toList=some l) (k:Fx P l args) (b:first++args++a=all):zn P o env h=.call g all :=
 s_call j m e d (by rw [k.eq,b])
theorem r_loopU {P:Program} {Q:Exit->List AV->AH->Prop} {env:List AV} {h:AH} {body:Code} {σ:Type} (U:σ->List (Nat×AV)) (a:σ->Prop) (b:σ->Nat) (c:σ) {E:σ->List AV} (f:∀s,wQ env (U s)=E s) (h0:leL env (E c)) (hi:a c)
  (hs:∀s,a s->wP P body (qM (λenv' e=>∃d,a d/\b d < b s/\wk h env' e (E d) h) Q) (E s) h):wP P (.loop body) Q env h :=
 r_loop E (λ_=>h) a b c (wk.le h0) hi hs
end Go.Vv
