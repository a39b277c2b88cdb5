/- More rules: guards, places in slices and texts, drawn orders, folded loops. -/
import Derived.Test.YtcociipjgndnaaaGreatVvT
namespace Go.Vv
open Go

theorem aG_gv {ops:Array Oper} {o:Oper} {env:List AV} {j d:Nat} {want b c:Bool} (hg:o.guard=some (j,want)) (hd:(ops[j]?).bind (·.dst)=some d) (he:env[d]?=some (gv b (.bool c))):aG ops o env=some (b&&(c==want)):=by
 simp only [aG,hg,hd,he];cases b <;> simp [gv,aundef]
theorem yi {env:List AV} {x:Operand} {b:Bool} {v:AV} (a:yF env x=some (gv b v)) (c:b=true):yF env x=some v:=by subst c;rw [gv_true] at a;exact a
theorem and_l {a b:Bool} (h:(a&&b)=true):a=true:=by cases a <;> simp_all
theorem pick_bb {t q r:Bool}:(if t then AV.bool q else .bool r)=.bool (if t then q else r):=by cases t <;> rfl
theorem pick_and {t q b:Bool} (a:t=true->b=true):(if t then gv b (.bool q) else .bool false)=AV.bool (t&&q):=by cases t <;> simp [gv] ; simp [a rfl]
theorem pick_or {t q b:Bool} (a:t=false->b=true):(if t then .bool true else gv b (.bool q))=AV.bool (t || q):=by cases t <;> simp [gv] ; simp [a rfl]
theorem pick_g1 {t q r b:Bool} (a:t=true->b=true):(if t then gv b (.bool q) else .bool r)=AV.bool (if t then q else r):=by cases t <;> simp [gv] ; simp [a rfl]
theorem pick_g2 {t q r b:Bool} (a:t=false->b=true):(if t then .bool r else gv b (.bool q))=AV.bool (if t then r else q):=by cases t <;> simp [gv] ; simp [a rfl]
theorem pick_g3 {t q r b c:Bool} (d:t=true->b=true) (a:t=false->c=true):(if t then gv b (.bool q) else gv c (.bool r))=AV.bool (if t then q else r):=by cases t <;> simp [gv] <;> simp [d,a]
theorem pick_ii {t:Bool} {k:IntKind} {a b:Int}:(if t then AV.int k a else .int k b)=.int k (if t then a else b):=by cases t <;> rfl
theorem pick_ig1 {t b:Bool} {k:IntKind} {x y:Int} (a:t=true->b=true):(if t then gv b (.int k x) else .int k y)=AV.int k (if t then x else y):=by cases t <;> simp [gv] ; simp [a rfl]
theorem pick_ig2 {t b:Bool} {k:IntKind} {x y:Int} (a:t=false->b=true):(if t then .int k y else gv b (.int k x))=AV.int k (if t then y else x):=by cases t <;> simp [gv] ; simp [a rfl]


section
variable {P:Program} {ops:Array Oper} {Q:List AV->AH->Prop} {o:Oper} {rest:List Oper} {env env':List AV} {h:AH}
variable {i:Nat} {Ns:List Nat} {F:Nat->AH->Prop}
theorem draw_nil (a:Q env h):zY P ops Ns F Q i [] env h:=a
theorem zt (a:Ns.contains i=false) {v:AV} (d:aG ops o env=some true) (b:zw P o env h=.ok v h) (hd:vZ o.dst env v=some env') (c:zY P ops Ns F Q (i+1) rest env' h):zY P ops Ns F Q i (o::rest) env h :=
 ⟨v,h,.inl ⟨a,by simp only [AR,d,b,pk]⟩,.inr rfl,.inl rfl,by rw [xG hd];exact c⟩
theorem zG (b:Ns.contains i=false) {v:AV} {a:AH} (e:FOk ((Region.before ops).getD i 0) Ns F a) (d:anch ops Ns i=true) (g:aG ops o env=some true) (c:zw P o env h=.ok v a) (hd:vZ o.dst env v=some env') (f:zY P ops Ns F Q (i+1) rest env' a):zY P ops Ns F Q i (o::rest) env h :=
 ⟨v,a,.inl ⟨b,by simp only [AR,g,c,pk]⟩,.inl d,.inr e,by rw [xG hd];exact f⟩
theorem wF (a:Ns.contains i=false) {n:Nat} {v:AV} (d:aG ops o env=some true) (b:zw P o env h=.len n v h) (hd:vZ o.dst env v=some env') (c:zY P ops Ns F Q (i+1) rest env' h):zY P ops Ns F Q i (o::rest) env h :=
 ⟨v,h,.inl ⟨a,by simp only [AR,d,b,pk]⟩,.inr rfl,.inl rfl,by rw [xG hd];exact c⟩
theorem xC (a:Ns.contains i=false) {f:FuncId} {args:List AV} {v:AV} (d:aG ops o env=some true) (b:zw P o env h=.call f args) (hs:Spec P f args h λr e=>r=v/\e=h) (hd:vZ o.dst env v=some env') (c:zY P ops Ns F Q (i+1) rest env' h) :
  zY P ops Ns F Q i (o::rest) env h:=⟨v,h,.inl ⟨a,by simp only [AR,d,b];exact hs⟩,.inr rfl,.inl rfl,by rw [xG hd];exact c⟩
theorem zS (b:Ns.contains i=true) {f:FuncId} {args:List AV} {v:AV} (e:aG ops o env=some true) (c:∀a,zw P o env a=.call f args) (hs:∀a,F i a->Spec P f args a λr hh=>r=v/\hh=a) (hd:vZ o.dst env v=some env') (d:zY P ops Ns F Q (i+1) rest env' h) :
  zY P ops Ns F Q i (o::rest) env h:=⟨v,h,.inr (.inl ⟨b,e,rfl,.inl ⟨f,args,c,hs⟩⟩),.inr rfl,.inl rfl,by rw [xG hd];exact d⟩
theorem xc (b:Ns.contains i=true) {v:AV} (e:aG ops o env=some true) (c:∀a,F i a->zw P o env a=.ok v a) (hd:vZ o.dst env v=some env') (d:zY P ops Ns F Q (i+1) rest env' h) :
  zY P ops Ns F Q i (o::rest) env h:=⟨v,h,.inr (.inl ⟨b,e,rfl,.inr c⟩),.inr rfl,.inl rfl,by rw [xG hd];exact d⟩
theorem wd (a:Ns.contains i=false) {b:Bool} {v:AV} (d:aG ops o env=some b) (e:b=true->zw P o env h=.ok v h) (hd:vZ o.dst env (gv b v)=some env') (c:zY P ops Ns F Q (i+1) rest env' h):zY P ops Ns F Q i (o::rest) env h:=by
 cases b with
 | true=>rw [gv_true] at hd;exact zt a d (e rfl) hd c
 | false=>exact ⟨aundef,h,.inl ⟨a,by simp [AR,d]⟩,.inr rfl,.inl rfl,by rw [gv_false] at hd;rw [xG hd];exact c⟩
theorem draw_glen (a:Ns.contains i=false) {b:Bool} {n:Nat} {v:AV} (d:aG ops o env=some b) (e:b=true->zw P o env h=.len n v h) (hd:vZ o.dst env (gv b v)=some env') (c:zY P ops Ns F Q (i+1) rest env' h):zY P ops Ns F Q i (o::rest) env h:=by
 cases b with
 | true=>rw [gv_true] at hd;exact wF a d (e rfl) hd c
 | false=>exact ⟨aundef,h,.inl ⟨a,by simp [AR,d]⟩,.inr rfl,.inl rfl,by rw [gv_false] at hd;rw [xG hd];exact c⟩
theorem yV (a:Ns.contains i=false) {b:Bool} {f:FuncId} {args:List AV} {v:AV} (d:aG ops o env=some b) (e:b=true->zw P o env h=.call f args) (hs:b=true->Spec P f args h λr g=>r=v/\g=h)
  (hd:vZ o.dst env (gv b v)=some env') (c:zY P ops Ns F Q (i+1) rest env' h):zY P ops Ns F Q i (o::rest) env h:=by
 cases b with
 | true=>rw [gv_true] at hd;exact xC a d (e rfl) (hs rfl) hd c
 | false=>exact ⟨aundef,h,.inl ⟨a,by simp [AR,d]⟩,.inr rfl,.inl rfl,by rw [gv_false] at hd;rw [xG hd];exact c⟩
variable {i0:Nat}
end

inductive Fx (P:Program):List (TypeId×AV)->List AV->Prop
 | nil:Fx P [] []
 | cons {t:TypeId} {v v':AV} {r:List (TypeId×AV)} {s:List AV}:tyfix P t v=v'->Fx P r s->Fx P ((t,v)::r) (v'::s)
theorem Fx.eq {P:Program} {l:List (TypeId×AV)} {s:List AV} (h:Fx P l s):fixL P l=s:=by
 induction h with
 | nil=>rfl
 | cons h _ ih=>simp only [fixL,h,ih]
theorem ym {P:Program} {o:Oper} {env:List AV} {h:AH} {c:Call} {f:Operand} {g:FuncId} {l:List (TypeId×AV)} {args:List AV} (e:o.op=.call c) (j:c.callee=.value f) (b:yF env f=some (.fn (.func g) [] []))
  (a:argo env c.args.toList c.argTypes.toList=some l) (d:Fx P l args):zw P o env h=.call g args :=
 s_call e j b a (by simp [d.eq])
theorem s_callC {P:Program} {o:Oper} {env:List AV} {h:AH} {c:Call} {f:Operand} {g:FuncId} {l:List (TypeId×AV)} {args first caps all:List AV} (j:o.op=.call c) (k:c.callee=.value f) (b:yF env f=some (.fn (.func g) first caps))
  (d:argo env c.args.toList c.argTypes.toList=some l) (e:Fx P l args) (a:first++args++caps=all):zw P o env h=.call g all :=
 s_call j k b d (by rw [e.eq,a])
theorem r_loopU {P:Program} {Q:Exit->List AV->AH->Prop} {env:List AV} {h:AH} {body:Code} {σ:Type} (U:σ->List (Nat×AV)) (a:σ->Prop) (c:σ->Nat) (d:σ) {E:σ->List AV} (e:∀s,xQ env (U s)=E s) (h0:leL env (E d)) (hi:a d)
  (hs:∀s,a s->qb P body (loopQ (λenv' f=>∃b,a b/\c b < c s/\wk h env' f (E b) h) Q) (E s) h):qb P (.loop body) Q env h :=
 r_loop E (λ_=>h) a c d (wk.le h0) hi hs
end Go.Vv
