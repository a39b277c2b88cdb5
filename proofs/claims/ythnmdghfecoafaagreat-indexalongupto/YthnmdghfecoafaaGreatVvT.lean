/- Rules for code, and for the ends of functions. -/
import Derived.Test.YthnmdghfecoafaaGreatVvO
import Derived.Shelf.Strings.OnBuilder
import Derived.Shelf.Strings.SplitShaped
import Derived.Shelf.Small.Strs
set_option linter.all false
namespace Go.Vv
open Go
variable {id:Nat} {b body:Code} {N:List AV->AH->Prop} {K:AV->AH->Prop}

def seqQ (P:Program) (h0:AH) (b:Code) (Q:Exit->List AV->AH->Prop):Exit->List AV->AH->Prop:=λx env' h'=>match x with
 | .normal=>∃env2 h2,wk h0 env' h' env2 h2/\vB P b Q env2 h2
 | x=>Q x env' h'
def blockQ (id:Nat) (Q:Exit->List AV->AH->Prop):Exit->List AV->AH->Prop:=λx env h=>match x with
 | .exit id'=>if id'=id then Q .normal env h else Q (.exit id') env h
 | x=>Q x env h
def loopQ (N:List AV->AH->Prop) (Q:Exit->List AV->AH->Prop):Exit->List AV->AH->Prop:=λx env' h'=>match x with
 | .normal=>N env' h'
 | x=>Q x env' h'

def vi (env:List AV):List (Nat×AV)->List AV
 | []=>env
 | (i,v)::r=>vi (env.set i v) r
def zK:Nat->Nat->List (Nat×AV)->List (Nat×AV)
 | _,0,m=>m
 | i,n+1,m=>(i,.any)::zK (i+1) n m

section
variable {P:Program} {Q:Exit->List AV->AH->Prop} {env:List AV} {h:AH}
theorem yl (a:Q .normal env h):vB P .skip Q env h:=a
theorem r_label (a:Q .normal env h):vB P (.label id) Q env h:=a
theorem xr (a:Q .ret env h):vB P .ret Q env h:=a
theorem wn (a:Q (.exit id) env h):vB P (.exit id) Q env h:=a
theorem zc {l:List Oper} (a:zJ P ⟨l⟩ (Q .normal) l env h):vB P (.region id ⟨l⟩ false) Q env h:=a
theorem zk {a:Code} (c:vB P a (seqQ P h b Q) env h):vB P (.seq a b) Q env h:=c
theorem yh {a:Code} (c:vB P a (blockQ id Q) env h):vB P (.block id a) Q env h:=c
theorem y4 {c:Operand} {t e:Code} {b:Bool} (d:yk env c=some (.bool b)) (i:b=true->vB P t Q env h) (f:b=false->vB P e Q env h):vB P (.cond c t e) Q env h:=by
 obtain ⟨a,g⟩:=zS d;refine ⟨a,?_⟩
 simp_all
theorem zj {h0:AH} (a:vB P b Q env h):seqQ P h0 b Q .normal env h:=⟨env,h,wk.refl _ _ _,a⟩
theorem q_seqw {h0:AH} {a:List AV} {c:AH} (d:wk h0 env h a c) (e:vB P b Q a c):seqQ P h0 b Q .normal env h:=⟨a,c,d,e⟩
theorem yr {h0:AH} (a:Q (.exit id) env h):seqQ P h0 b Q (.exit id) env h:=a
theorem wA {h0:AH} (a:Q .ret env h):seqQ P h0 b Q .ret env h:=a
theorem yK (a:Q .normal env h):blockQ id Q .normal env h:=a
theorem q_block_ret (a:Q .ret env h):blockQ id Q .ret env h:=a
theorem yn (a:Q .normal env h):blockQ id Q (.exit id) env h:=by simp only [blockQ,ur];exact a
theorem q_block_miss {j:Nat} (a:j ≠ id) (c:Q (.exit j) env h):blockQ id Q (.exit j) env h:=by simp only [blockQ,te a];exact c
theorem xd (a:N env h):loopQ N Q .normal env h:=a
theorem ym (a:Q (.exit id) env h):loopQ N Q (.exit id) env h:=a
theorem q_loop_ret (a:Q .ret env h):loopQ N Q .ret env h:=a
theorem r_loop2 {σ:Type} (E:σ->List AV) (H:σ->AH) (d:σ->Prop) (g:σ->Nat) (i:σ) (h0:wk h env h (E i) (H i)) (hi:d i)
  (hs:∀s,d s->vB P body (loopQ (λa h'=>∃c,d c/\g c < g s/\(wk (H s) a h' (E c) (H c) \/ wk h a h' (E c) (H c))) Q) (E s) (H s)):vB P (.loop body) Q env h:=by
 refine ⟨λn env h=>∃s,g s=n/\d s/\env=E s/\h=H s,⟨_,_,_,h0,i,rfl,hi,rfl,rfl⟩,?_⟩
 rintro n _ _ ⟨s,k,hi,rfl,rfl⟩
 subst k;have:=hs s hi;have e:(loopQ (λa h'=>∃c,d c/\g c < g s/\(wk (H s) a h' (E c) (H c) \/ wk h a h' (E c) (H c))) Q) =
   (loopQ (λa h'=>∃m f j,m < g s/\(wk (H s) a h' f j \/ wk h a h' f j)/\(∃c,g c=m/\d c/\f=E c/\j=H c)) Q):=by
  grind
 rw [e] at this;exact this
theorem fin_cut {h0:AH} {v a:AV} (d:leV v a) (e:a.low h0.blks.length h0.toks.length=true)
  (f:∀(i:Nat) (k:Blk),i < h0.blks.length->h.blks[i]?=some k->h0.blks[i]?=some k \/ k.low h0.blks.length h0.toks.length=true) (c:K a (h.cut h0.blks.length h0.toks.length)):finK h0 K v h :=
 ⟨a,_,(wk.le (leL.cons d leL.nil)).trans (wk.cut (by simp [zP,e]) f),c⟩
theorem wa {h0 h':AH} {v a:AV} (c:wk h0 [v] h [a] h') (d:K a h'):finK h0 K v h:=⟨a,h',c,d⟩
theorem q_end {fn:Func} {h0:AH} (a:qU P fn h0 K .ret env h):qU P fn h0 K .normal env h:=a
end
theorem leV.of_eq {a b:AV} (h:a=b):leV a b:=h ▸ leV.refl a
theorem rwp_mono {P:Program} {h:AH} {r:Res} {K':AV->AH->Prop} (c:∀v h',K v h'->K' v h') (a:rwp P h r K):rwp P h r K':=by
 cases r with
 | ok v h'=>exact c _ _ a
 | len n v h'=>exact λe=>c _ _ (a e)
 | call f args=>exact Spec.mono a c
 | round id args=>exact SpecY.mono a c
 | any S=>exact λv h' d=>c _ _ (a v h' d)
 | fail=>exact a
theorem awpOps_mono {P:Program} {a:Array Oper} {Q Q':List AV->AH->Prop} (c:∀e h,Q e h->Q' e h):∀(rest:List Oper) (env:List AV) (h:AH),zJ P a Q rest env h->zJ P a Q' rest env h
 | [],_,_,hk=>c _ _ hk
 | o::rest,_,_,⟨env,h,hs,hk⟩=>by
  refine ⟨env,h,hs,?_⟩;cases hb:aG a o env with
  | none=>rw [hb] at hk;exact hk
  | some b =>
   rw [hb] at hk;cases b with
   | true=>exact hk.imp (rwp_mono λv h'=>awpOps_mono c rest _ _) (bwp_mono λv h'=>awpOps_mono c rest _ _)
   | false=>exact awpOps_mono c rest _ _ hk
theorem awpDraw_mono {P:Program} {a:Array Oper} {Ns:List Nat} {F:Nat->AH->Prop} {Q Q':List AV->AH->Prop} (c:∀e h,Q e h->Q' e h):∀(rest:List Oper) (i:Nat) (env:List AV) (h:AH),zW P a Ns F Q i rest env h->zW P a Ns F Q' i rest env h
 | [],_,_,_,hk=>c _ _ hk
 | _::rest,i,_,_,⟨v,h',h1,h2,h4,h3⟩=>⟨v,h',h1,h2,h4,awpDraw_mono c rest (i+1) _ _ h3⟩
theorem awpAny_mono {P:Program} {d:Array Oper} {Q Q':List AV->AH->Prop} (f:∀e h,Q e h->Q' e h):∀(m:Nat) (a:Array Bool) (env:List AV) (h:AH),awpAny P d Q m a env h->awpAny P d Q' m a env h
 | 0,_,_,_,c=>⟨c.1,f _ _ c.2⟩
 | m+1,a,env,h,c=>by
  refine ⟨λe=>f _ _ (c.1 e),λi hi o g=>?_⟩;have c:=c.2 i hi o g;cases hb:aG d o env with
  | none=>rw [hb] at c;exact c
  | some b =>
   rw [hb] at c;cases b with
   | true=>exact c.imp (rwp_mono λv h'=>awpAny_mono f m _ _ _) (bwp_mono λv h'=>awpAny_mono f m _ _ _)
   | false=>exact awpAny_mono f m _ _ _ c
theorem w9 {P:Program}:∀{Q Q':Exit->List AV->AH->Prop} (_:∀x e h,Q x e h->Q' x e h) (c:Code) (env:List AV) (h:AH),vB P c Q env h->vB P c Q' env h
 | _,_,hq,.skip,_,_,hk=>hq _ _ _ hk
 | _,_,hq,.label _,_,_,hk=>hq _ _ _ hk
 | _,_,hq,.exit _,_,_,hk=>hq _ _ _ hk
 | _,_,hq,.ret,_,_,hk=>hq _ _ _ hk
 | _,_,hq,.region _ _ true,_,_,.inl ⟨Ns,F,j,k,d⟩=>.inl ⟨Ns,F,j,k,awpDraw_mono (hq .normal) _ _ _ _ d⟩
 | _,_,hq,.region _ _ true,_,_,.inr ⟨j,d⟩=>.inr ⟨j,awpAny_mono (hq .normal) _ _ _ _ d⟩
 | _,_,hq,.region _ _ false,_,_,hk=>awpOps_mono (hq .normal) _ _ _ hk
 | _,_,hq,.seq a b,_,_,hk=>w9 (λx i h' j=>by
   cases x with
   | normal=>obtain ⟨u,d,k,l⟩:=j;exact ⟨u,d,k,w9 hq b _ _ l⟩
   | _=>exact hq _ _ _ j) a _ _ hk
 | _,_,hq,.cond c t e,env,_,⟨j,d⟩=>by
  refine ⟨j,?_⟩;cases hc:ev env c with
  | bool b =>
   rw [hc] at d;cases b with
   | true=>exact w9 hq t _ _ d
   | false=>exact w9 hq e _ _ d
  | _=>rw [hc] at d;exact d
 | _,_,hq,.block id body,_,_,hk=>w9 (λx i h' j=>by
   cases x with
   | exit id' =>
    grind
   | _=>exact hq _ _ _ j) body _ _ hk
 | _,_,hq,.loop body,_,_,⟨I,j,d⟩=>⟨I,j,λn env h v=>w9 (λx i h' k=>by
   cases x with
   | normal=>exact k
   | _=>exact hq _ _ _ k) body _ _ (d n env h v)⟩
 | _,_,hq,.rangeFunc f ps assign body,env,h,⟨j,d,k,env2,h5,hwk,l⟩=>by
  refine ⟨j,d,k,env2,h5,hwk,?_⟩;split at l
  ·rename_i g first caps A
   refine l.mono λr h' ⟨w,p,i,q,z,s,o,y,m⟩=>⟨w,p,i,q,z,s,o,y,?_⟩
   split at m
   ·simp_all
   ·simp_all
   ·simp_all
   ·exact m
  ·exact l
 | _,_,_,.scope _,_,_,hk=>hk.elim
 | _,_,_,.goto _,_,_,hk=>hk.elim
 | _,_,_,.refuse _,_,_,hk=>hk.elim
theorem r_loop {P:Program} {Q:Exit->List AV->AH->Prop} {env:List AV} {h:AH} {σ:Type} (E:σ->List AV) (H:σ->AH) (a:σ->Prop) (f:σ->Nat) (e:σ) (h0:wk h env h (E e) (H e)) (hi:a e)
  (hs:∀s,a s->vB P body (loopQ (λc h'=>∃d,a d/\f d < f s/\wk (H s) c h' (E d) (H d)) Q) (E s) (H s)):vB P (.loop body) Q env h :=
 r_loop2 E H a f e h0 hi λs hi=>w9 (λx c h' g=>by
  cases x with
  | normal=>obtain ⟨d,j,i,k⟩:=g;exact ⟨d,j,i,.inl k⟩
  | _=>exact g) _ _ _ (hs s hi)
end Go.Vv
namespace Go.Vv
open Go
variable {b t q r:Bool} {k:IntKind} {l:List (TypeId×AV)} {f:Operand} {g:FuncId} {args:List AV}

theorem aG_gv {ops:Array Oper} {o:Oper} {env:List AV} {j d:Nat} {want b c:Bool} (hg:o.guard=some (j,want)) (hd:(ops[j]?).bind (·.dst)=some d) (he:env[d]?=some (gv b (.bool c))):aG ops o env=some (b&&(c==want)):=by
 simp only [aG,hg,hd,he];cases b <;> simp [gv,aundef]
theorem yi {env:List AV} {x:Operand} {v:AV} (a:yk env x=some (gv b v)) (c:b=true):yk env x=some v:=by subst c;rw [gv_true] at a;exact a
theorem gT (h:t=true):(t==true)=true:=by rw [h];rfl
theorem gF (h:t=false):(t==false)=true:=by rw [h];rfl
theorem and_l {a:Bool} (h:(a&&b)=true):a=true:=by simp_all
theorem pick_bb:(if t then AV.bool q else .bool r)=.bool (if t then q else r):=by grind
theorem pick_and (a:t=true->b=true):(if t then gv b (.bool q) else .bool false)=AV.bool (t&&q):=by cases t <;> simp [gv] ; simp [a rfl]
theorem qB (a:t=false->b=true):(if t then .bool true else gv b (.bool q))=AV.bool (t || q):=by cases t <;> simp [gv] ; simp [a rfl]
theorem pick_g1 (a:t=true->b=true):(if t then gv b (.bool q) else .bool r)=AV.bool (if t then q else r):=by cases t <;> simp [gv] ; simp [a rfl]
theorem pick_g2 (a:t=false->b=true):(if t then .bool r else gv b (.bool q))=AV.bool (if t then r else q):=by cases t <;> simp [gv] ; simp [a rfl]
theorem pick_g3 {c:Bool} (d:t=true->b=true) (a:t=false->c=true):(if t then gv b (.bool q) else gv c (.bool r))=AV.bool (if t then q else r):=by cases t <;> simp [gv] <;> simp [d,a]
theorem pick_ii {a b:Int}:(if t then AV.int k a else .int k b)=.int k (if t then a else b):=by grind
theorem pick_ig1 {x y:Int} (a:t=true->b=true):(if t then gv b (.int k x) else .int k y)=AV.int k (if t then x else y):=by cases t <;> simp [gv] ; simp [a rfl]
theorem pick_ig2 {x y:Int} (a:t=false->b=true):(if t then .int k y else gv b (.int k x))=AV.int k (if t then y else x):=by cases t <;> simp [gv] ; simp [a rfl]


section
variable {P:Program} {ops:Array Oper} {Q:List AV->AH->Prop} {o:Oper} {rest:List Oper} {env env':List AV} {h:AH}
variable {i:Nat} {Ns:List Nat} {F:Nat->AH->Prop}
theorem wl (a:Q env h):zW P ops Ns F Q i [] env h:=a
theorem zu (e:Ns.contains i=false) {v:AV} (d:aG ops o env=some true) (c:zB P o env h=.ok v h) (hd:xO o.dst env v=some env') (a:zW P ops Ns F Q (i+1) rest env' h):zW P ops Ns F Q i (o::rest) env h :=
 ⟨v,h,.inl ⟨e,by simp only [AR,d,c,rM]⟩,.inr rfl,.inl rfl,by rw [yQ hd];exact a⟩
theorem yo (e:Ns.contains i=false) {v:AV} {h':AH} (m:FOk ((Region.before ops).getD i 0) Ns F h') (j:anch ops Ns i=true) (d:aG ops o env=some true) (c:zB P o env h=.ok v h') (hd:xO o.dst env v=some env') (a:zW P ops Ns F Q (i+1) rest env' h'):zW P ops Ns F Q i (o::rest) env h :=
 ⟨v,h',.inl ⟨e,by simp only [AR,d,c,rM]⟩,.inl j,.inr m,by rw [yQ hd];exact a⟩
theorem draw_len (e:Ns.contains i=false) {n:Nat} {v:AV} (d:aG ops o env=some true) (c:zB P o env h=.len n v h) (hd:xO o.dst env v=some env') (a:zW P ops Ns F Q (i+1) rest env' h):zW P ops Ns F Q i (o::rest) env h :=
 ⟨v,h,.inl ⟨e,by simp only [AR,d,c,rM]⟩,.inr rfl,.inl rfl,by rw [yQ hd];exact a⟩
theorem draw_call (e:Ns.contains i=false) {f:FuncId} {args:List AV} {v:AV} (d:aG ops o env=some true) (c:zB P o env h=.call f args) (hs:Spec P f args h λr h'=>r=v/\h'=h) (hd:xO o.dst env v=some env') (a:zW P ops Ns F Q (i+1) rest env' h) :
  zW P ops Ns F Q i (o::rest) env h:=⟨v,h,.inl ⟨e,by simp only [AR,d,c];exact hs⟩,.inr rfl,.inl rfl,by rw [yQ hd];exact a⟩
theorem zR (j:Ns.contains i=true) {f:FuncId} {args:List AV} {v:AV} (e:aG ops o env=some true) (d:∀a,zB P o env a=.call f args) (hs:∀a,F i a->Spec P f args a λr hh=>r=v/\hh=a) (hd:xO o.dst env v=some env') (c:zW P ops Ns F Q (i+1) rest env' h) :
  zW P ops Ns F Q i (o::rest) env h:=⟨v,h,.inr (.inl ⟨j,e,rfl,.inl ⟨f,args,d,hs⟩⟩),.inr rfl,.inl rfl,by rw [yQ hd];exact c⟩
theorem draw_okN (j:Ns.contains i=true) {v:AV} (e:aG ops o env=some true) (d:∀a,F i a->zB P o env a=.ok v a) (hd:xO o.dst env v=some env') (c:zW P ops Ns F Q (i+1) rest env' h) :
  zW P ops Ns F Q i (o::rest) env h:=⟨v,h,.inr (.inl ⟨j,e,rfl,.inr d⟩),.inr rfl,.inl rfl,by rw [yQ hd];exact c⟩
theorem draw_gv (d:Ns.contains i=false) {b:Bool} {v:AV} (c:aG ops o env=some b) (e:b=true->zB P o env h=.ok v h) (hd:xO o.dst env (gv b v)=some env') (a:zW P ops Ns F Q (i+1) rest env' h):zW P ops Ns F Q i (o::rest) env h:=by
 cases b with
 | true=>rw [gv_true] at hd;exact zu d c (e rfl) hd a
 | false=>exact ⟨aundef,h,.inl ⟨d,by simp [AR,c]⟩,.inr rfl,.inl rfl,by rw [gv_false] at hd;rw [yQ hd];exact a⟩
theorem draw_glen (d:Ns.contains i=false) {b:Bool} {n:Nat} {v:AV} (c:aG ops o env=some b) (e:b=true->zB P o env h=.len n v h) (hd:xO o.dst env (gv b v)=some env') (a:zW P ops Ns F Q (i+1) rest env' h):zW P ops Ns F Q i (o::rest) env h:=by
 cases b with
 | true=>rw [gv_true] at hd;exact draw_len d c (e rfl) hd a
 | false=>exact ⟨aundef,h,.inl ⟨d,by simp [AR,c]⟩,.inr rfl,.inl rfl,by rw [gv_false] at hd;rw [yQ hd];exact a⟩
theorem wr (d:Ns.contains i=false) {b:Bool} {f:FuncId} {args:List AV} {v:AV} (c:aG ops o env=some b) (e:b=true->zB P o env h=.call f args) (hs:b=true->Spec P f args h λr h'=>r=v/\h'=h)
  (hd:xO o.dst env (gv b v)=some env') (a:zW P ops Ns F Q (i+1) rest env' h):zW P ops Ns F Q i (o::rest) env h:=by
 cases b with
 | true=>rw [gv_true] at hd;exact draw_call d c (e rfl) (hs rfl) hd a
 | false=>exact ⟨aundef,h,.inl ⟨d,by simp [AR,c]⟩,.inr rfl,.inl rfl,by rw [gv_false] at hd;rw [yQ hd];exact a⟩
variable {i0:Nat}
end

inductive Fx (P:Program):List (TypeId×AV)->List AV->Prop
 | nil:Fx P [] []
 | cons {t:TypeId} {v v':AV} {r:List (TypeId×AV)} {s:List AV}:tyfix P t v=v'->Fx P r s->Fx P ((t,v)::r) (v'::s)
theorem Fx.eq {P:Program} {s:List AV} (h:Fx P l s):fixL P l=s:=by
 induction h with
 | nil=>rfl
 | cons h _ ih=>simp only [fixL,h,ih]
theorem zC {P:Program} {o:Oper} {env:List AV} {h:AH} {c:Call} (d:o.op=.call c) (m:c.callee=.value f) (a:yk env f=some (.fn (.func g) [] []))
  (e:argo env c.args.toList c.argTypes.toList=some l) (j:Fx P l args):zB P o env h=.call g args :=
 s_call d m a e (by simp [j.eq])
theorem s_callC {P:Program} {o:Oper} {env:List AV} {h:AH} {c:Call} {first caps all:List AV} (e:o.op=.call c) (n:c.callee=.value f) (d:yk env f=some (.fn (.func g) first caps))
  (j:argo env c.args.toList c.argTypes.toList=some l) (m:Fx P l args) (a:first++args++caps=all):zB P o env h=.call g all :=
 s_call e n d j (by rw [m.eq,a])
theorem r_loopU {P:Program} {Q:Exit->List AV->AH->Prop} {env:List AV} {h:AH} {body:Code} {σ:Type} (U:σ->List (Nat×AV)) (a:σ->Prop) (d:σ->Nat) (e:σ) {E:σ->List AV} (j:∀s,vi env (U s)=E s) (h0:leL env (E e)) (hi:a e)
  (hs:∀s,a s->vB P body (loopQ (λenv' h'=>∃c,a c/\d c < d s/\wk h env' h' (E c) h) Q) (E s) h):vB P (.loop body) Q env h :=
 r_loop E (λ_=>h) a d e (wk.le h0) hi hs
end Go.Vv
namespace Go.Vv
open Go
variable {j k off n:Nat} {cs cs' ds z:List AV} {v v':AV} {t e:TypeId} {x:Operand} {d:TypeDesc} {fn:Func} {f:FuncId} {l l':List (Nat×AV)} {ks:List Kd}

def AH.ext (h:AH) (L:List Blk) (M:List Nat):AH:={ blks:=h.blks++L,toks:=h.toks++M }
theorem ext_nil (h:AH):h.ext [] []=h:=by simp [AH.ext]
theorem yC {h:AH} {L:List Blk} {M:List Nat}:(h.ext L M).blk (h.blks.length+j)=L[j]?:=by
 simp only [AH.blk,AH.ext]
 grind
theorem ext_new {h:AH} {L:List Blk} {M:List Nat} {b:Blk}:(h.ext L M).new b=h.ext (L++[b]) M:=by simp [AH.ext,AH.new,uy]
theorem wi {h:AH} {L:List Blk} {M:List Nat} {b:Blk}:(h.ext L M).put (h.blks.length+j) b=h.ext (L.set j b) M:=by
 simp only [AH.ext,AH.put]
 simp_all
theorem ext_cut {h:AH} {L:List Blk} {M:List Nat}:(h.ext L M).cut h.blks.length h.toks.length=h:=by
 simp [AH.cut,AH.ext]
def ldC (ag:Bool) (k off:Nat) (cs:List AV):Option AV:=if ag then (if off+k<=cs.length then some (.agg ((cs.drop off).take k)) else none) else cs[off]?
theorem zD (h:cs[off]?=some v):ldC false k off cs=some v:=h
theorem ldC_ag (h:Nat.ble (off+k) cs.length=true) (a:(cs.drop off).take k=cs'):ldC true k off cs=some (.agg cs'):=by
 simp only [ldC,ur,uG (sP h),a]

section
variable {P:Program} {o:Oper} {env:List AV} {h:AH} {L:List Blk} {M:List Nat}
theorem wS (b:o.op=.alloc t) (c:xQ P t=some cs) (a:L.length=n):zB P o env (h.ext L M)=.ok (.ptr (h.blks.length+n) 0) (h.ext (L++[.cells cs]) M):=by
 rw [s_alloc b c,ext_new,<- a];simp [AH.ext]
theorem e_box {a a':AV} (c:o.op=.box t x) (i:yk env x=some a) (b:tyfix P t a=a') (g:a'.cells?=some cs) (m:L.length=n) :
  zB P o env (h.ext L M)=.ok (.ptr (h.blks.length+n) 0) (h.ext (L++[.cells cs]) M):=by
 rw [s_box c i b g,ext_new,<- m];simp [AH.ext]
theorem zH (b:o.op=.load t x) (i:Ty P t d k) (m:yk env x=some (.ptr (h.blks.length+j) off)) (c:L[j]?=some (.cells cs))
  (g:ldC (yq d) k off cs=some v) (a:tyfix P t v=v'):zB P o env (h.ext L M)=.ok v' (h.ext L M):=by
 refine s_load b i m ?_ a;simp only [aLoad,yC,c];exact g
theorem qK (b:o.op=.load t x) (g:Ty P t d k) (i:yk env x=some (.fptr cs))
  (c:ldC (yq d) k 0 cs=some v) (a:tyfix P t v=v'):zB P o env h=.ok v' h:=by
 refine s_load b g i ?_ a;simp only [aLoad];simpa only [ldC,u5,sq] using c
theorem yc {y:Operand} {vs:List AV} {b a:AV} (g:o.op=.store t x y) (q:Ty P t d k) (u:yk env x=some (.ptr (h.blks.length+j) off)) (p:yk env y=some b)
  (c:tyfix P t b=a) (s:a.cells?=some vs) (m:vs.length=k) (i:L[j]?=some (.cells cs)) (r:Nat.ble (off+k) cs.length=true) (hs:yP cs off vs=cs'):zB P o env (h.ext L M)=.ok aundef (h.ext (L.set j (.cells cs')) M):=by
 refine s_store g q u p c ?_;simp only [aStore,s,yC,i];rw [uG ⟨m,sP r⟩,wi,hs]
end
theorem wk_ext2 {h:AH} {L0 L1 L':List Blk} {M0 M1 M':List Nat} {env:List AV} (p:zP (h.blks.length+L0.length) (h.toks.length+M0.length) env=true) (s:L'.take L0.length=L1) (q:M'.take M0.length=M1)
  (r:∀(i:Nat) (k:Blk),L1[i]?=some k->L0[i]?=some k \/ k.low (h.blks.length+L0.length) (h.toks.length+M0.length)=true) :
  wk (h.ext L0 M0) env (h.ext L' M') env (h.ext L1 M1):=by
 have b:(h.ext L0 M0).blks.length=h.blks.length+L0.length:=by simp [AH.ext]
 have c:(h.ext L0 M0).toks.length=h.toks.length+M0.length:=by simp [AH.ext]
 have:=wk.cut (hd:=h.ext L0 M0) (env:=env) (h:=h.ext L' M') (by rw [b,c];exact p) (λi k hi a=>by
  rw [b] at hi;rw [b,c];simp only [AH.ext] at a ⊢;rcases sn i h.blks.length with g | g
  ·rw [uo g] at a ⊢;exact .inl a
  ·rw [un g] at a ⊢;exact r (i - h.blks.length) k (by grind))
 have m:(h.ext L' M').cut (h.ext L0 M0).blks.length (h.ext L0 M0).toks.length=h.ext L1 M1:=by
  rw [b,c];simp only [AH.cut,AH.ext,tN,uQ,s,q];rw [uO (l:=h.blks) (by omega),uO (l:=h.toks) (by omega)]
 rw [m] at this;exact this
theorem e_range {P:Program} {o:Oper} {env:List AV} {h:AH} {L:List Blk} {M:List Nat} {s:List UInt8} (a:o.op=.range t x) (g:Ty P t .string k) (i:yk env x=some (.str s)) (m:L.length=n) :
  zB P o env (h.ext L M)=.ok (.ptr (h.blks.length+n) 0) (h.ext (L++[.siter s 0]) M):=by
 obtain ⟨c,b⟩:=zS i;simp only [zB,a,c,ur,g.u,b,ext_new,<- m];simp [AH.ext]
theorem ops_next {P:Program} {b:Array Oper} {Q:List AV->AH->Prop} {o:Oper} {rest:List Oper} {env:List AV} {y:List AV} {u:List AV} {h:AH} {L:List Blk} {M:List Nat} {s:List UInt8} {a:Nat} (q:aG b o env=some true) (w:o.op=.next x true)
  (B:yk env x=some (.ptr (h.blks.length+j) 0)) (A:L[j]?=some (.siter s a)) (m:xO o.dst env (.tup [.bool true,.int .i64 a,.int .i32 (dec s a).1])=some y) (c:xO o.dst env (.tup [.bool false])=some u)
  (i:a < s.length->zJ P b Q rest y (h.ext (L.set j (.siter s (a+(dec s a).2))) M)) (g:s.length<=a->zJ P b Q rest u (h.ext L M)):zJ P b Q (o::rest) env (h.ext L M):=by
 obtain ⟨r,p⟩:=zS B;by_cases hp:a < s.length
 ·refine zb q ?_ m (i hp);simp only [zB,w,r,uW,ur,p,aNext,yC,A,hp,wi]
 ·refine zb q ?_ c (g (by omega));simp only [zB,w,r,uW,ur,p,aNext,yC,A,hp,uJ]
section
variable {P:Program} {env:List AV} {h:AH} {rs:List ResultVar} {vs:List AV}
theorem yD:qt P env h []=some []:=rfl
theorem yy {t:Nat} (b:yk env (.tmp t)=some v) (k:qt P env h rs=some vs):qt P env h (.tmp t::rs)=some (v::vs):=by
 have a:env.getD t aundef=v:=by rw [uP,show env[t]?=some v from b];rfl
 simp only [qt,k,a]
theorem rl_cell {a t:Nat} {L:List Blk} {M:List Nat} (c:Ty P t d k) (g:yk env (.tmp a)=some (.ptr (h.blks.length+j) 0)) (m:L[j]?=some (.cells cs)) (p:ldC (yq d) k 0 cs=some v) (w:tyfix P t v=v')
  (r:qt P env (h.ext L M) rs=some vs):qt P env (h.ext L M) (.cell a t::rs)=some (v'::vs):=by
 have b:env.getD a aundef=.ptr (h.blks.length+j) 0:=by rw [uP,show env[a]?=some _ from g];rfl
 obtain ⟨i,s,q⟩:=c.i;simp only [qt,c.u,s,q,b,aLoad,yC,m,r];have e:(if yq d then if 0+k<=cs.length then some (AV.agg ((cs.drop 0).take k)) else none else cs[0]?)=some v:=p
 simp_all
theorem yJ {K:AV->AH->Prop} {h0:AH} (c:fn.results=⟨rs⟩) (a:qt P env h rs=some [v]) (b:finK h0 K v h):qU P fn h0 K .ret env h:=by
 simp only [qU,aRes,c,a];exact b
theorem q_retL {K:AV->AH->Prop} {h0:AH} {w:AV} {r:List AV} (c:fn.results=⟨rs⟩) (b:qt P env h rs=some (v::w::r)) (a:finK h0 K (.tup (v::w::r)) h):qU P fn h0 K .ret env h:=by
 simp only [qU,aRes,c,b];exact a
theorem q_retL0 {K:AV->AH->Prop} {h0:AH} (c:fn.results=⟨rs⟩) (a:qt P env h rs=some []) (b:finK h0 K (.tup []) h):qU P fn h0 K .ret env h:=by
 simp only [qU,aRes,c,a];exact b
end
theorem fin_ext {h:AH} {L:List Blk} {M:List Nat} {K:AV->AH->Prop} (b:leV v v') (c:v'.low h.blks.length h.toks.length=true) (a:K v' h):finK h K v (h.ext L M):=by
 refine fin_cut b c (λi k hi a=>.inl ?_) (by rw [ext_cut];exact a);simp only [AH.ext] at a
 grind
theorem zd {P : Program} {c : Code} (hf : P.funcs[f]? = some fn) (hb : fn.body = some c) (hname : (fn.name == "runtime.NumGoroutine") = false) {args : List AV} {h : AH} {K : AV → AH → Prop} {env : List AV}
  (he:args++List.replicate (fn.ntmps - args.length) aundef=env) (hw:vB P c (qU P fn h K) env (h.ext [] [])):Spec P f args h K:=by
 rw [ext_nil] at hw;exact spec_of_body hf hb hname (by simp_all)
theorem z7 (hd:yq d=true) {k off:Nat} {cs cs':List AV} (h:Nat.ble (off+k) cs.length=true) (a:(cs.drop off).take k=cs'):ldC (yq d) k off cs=some (.agg cs'):=by
 rw [hd];exact ldC_ag h a
theorem mkTy {P:Program} (a:P.underlying t=some d) (hi:(P.info? t).map (λi=>i.size)=some k):Ty P t d k:=by
 refine ⟨a,?_⟩
 simp_all
theorem qD {P:Program} {u:TypeId} {f:Nat} (a:fieldOff P t f=some (off,u)) (hi:(P.info? u).map (λi=>i.size)=some k):Fo P t f off u k:=by
 refine ⟨a,?_⟩
 simp_all
theorem mkEl {P:Program} (a:P.underlying t=some (.slice e)) (hi:(P.info? e).map (λi=>(i.size,decide (i.bytes<=65536)&&decide (0 < k)&&(i.zero.map (·.cells.size))==some k))=some (k,true)):El P t e k:=by
 refine ⟨a,?_⟩;cases h:P.info? e with
 | none=>rw [h] at hi;cases hi
 | some i =>
  simp_all
theorem w64 {n:Int} (h:-9223372036854775808<=n/\n<=9223372036854775807):IntKind.i64.wrap n=n:=by rw [IntKind.wrap_i64];omega
theorem xw {n m:Int} (e:n=m) (h:-9223372036854775808<=n/\n<=9223372036854775807):AV.int .i64 (IntKind.i64.wrap n)=.int .i64 m:=by rw [w64 h,e]
theorem zw {env:List AV}:argo env [] []=some []:=rfl
theorem zg {env:List AV} {r:List Operand} {ts:List TypeId} {l:List (TypeId×AV)} (h:yk env x=some v) (k:argo env r ts=some l):argo env (x::r) (t::ts)=some ((t,v)::l):=by
 simp only [argo,h,k]
theorem yz (h:n<=maxLen):n<=9223372036854775807:=h
theorem Spec.le {P:Program} {a5 bs:List AV} {h:AH} {K:AV->AH->Prop} (s:Spec P f bs h K) (k:leL a5 bs):Spec P f a5 h K :=
 ⟨s.1,λB w0 _ g w vs r a=>s.2 B w0 g w vs r (k _ _ a)⟩
abbrev plainK2:=xN
structure PK (P:Program) (t:TypeId) (ks:List Kd):Prop where
 g:P.eqGuardType P.depth t=false
 a:(P.underlying t).any yq=true
 k:xN P 6 t=some ks
theorem mkPK {P:Program} (a:P.eqGuardType P.depth t=false) (b:(P.underlying t).any yq=true) (c:plainK2 P 6 t=some ks):PK P t ks:=⟨a,b,c⟩
theorem bin_eq {P:Program} {b:Bool} (c:PK P t ks) (h:qT ks cs ds=some b):yG P .eql t (.agg cs) (.agg ds)=some (.bool b):=by
 simp only [yG,aEq,c.g,c.a,c.k,rF,rM,ur,h,uB]
theorem bin_ne {P:Program} {b:Bool} (c:PK P t ks) (h:qT ks cs ds=some b):yG P .neq t (.agg cs) (.agg ds)=some (.bool !b):=by
 simp only [yG,aEq,c.g,c.a,c.k,rF,rM,ur,h,uB]
structure PKA (P:Program) (t:TypeId) (ks:List Kd):Prop where
 g:P.eqGuardType P.depth t=false
 a:(P.underlying t).any yq=true
 k:(xN P 6 t).or (arrKs P t)=some ks
def parto (env:List AV):List (Nat×Operand)->Option (List (Nat×AV))
 | []=>some []
 | (i,x)::r=>match yk env x,parto env r with
  | some v,some vs=>some ((i,v)::vs)
  | _,_=>none
theorem zA {env:List AV}:parto env []=some []:=rfl
theorem zn {env:List AV} {i:Nat} {r:List (Nat×Operand)} (h:yk env x=some v) (k:parto env r=some l):parto env ((i,x)::r)=some ((i,v)::l):=by simp only [parto,h,k]
inductive Fp (P:Program) (d:TypeDesc):List (Nat×AV)->List (Nat×AV)->Prop
 | nil:Fp P d [] []
 | cons {i:Nat} {v v':AV} {r s:List (Nat×AV)}:tyfix P (partTy d i) v=v'->Fp P d r s->Fp P d ((i,v)::r) ((i,v')::s)
theorem parts_ok {P:Program} {d:TypeDesc} {env:List AV}:∀{parts:List (Nat×Operand)} {l l':List (Nat×AV)},parto env parts=some l->Fp P d l l' ->
  parts.all (λp=>yf p.2)=true/\parts.map (λp=>(p.1,tyfix P (partTy d p.1) (ev env p.2)))=l'
 | [],l,l',h,hf=>by simp only [parto,uf] at h;subst h;cases hf;exact ⟨rfl,rfl⟩
 | (i,x)::r,l,l',h,hf=>by
  simp only [parto] at h;split at h
  ·rename_i v vs b a;cases h;cases hf with
   | cons h1 h2 =>
    obtain ⟨q,g⟩:=parts_ok a h2;obtain ⟨m,c⟩:=zS b
    grind
  ·cases h
theorem yB {P:Program} {o:Oper} {env:List AV} {h:AH} {parts:List (Nat×Operand)} {fs:Array Field} {pl:List (Nat×Nat)} (q:o.op=.build t ⟨parts⟩) (s:P.underlying t=some (.struct fs)) (c:xQ P t=some z)
  (g:vH P fs=some pl) (r:parto env parts=some l) (m:Fp P (.struct fs) l l') (w:qc (λi=>pl[i]?) z l'=some cs) (u:cs=cs'):zB P o env h=.ok (.agg cs') h:=by
 obtain ⟨y,b⟩:=parts_ok r m;have a:(⟨parts⟩:Array (Nat×Operand)).all (λp=>yf p.2)=true:=by grind
 simp only [zB,q,a,ur,s,c,g,xj,b,w,uB,oo,u]
theorem zI {P:Program} {o:Oper} {env:List AV} {h:AH} {parts:List (Nat×Operand)} {es:List (List AV)} (y:o.op=.buildSlice t n ⟨parts⟩) (c:El P t e k) (s:xQ P e=some z)
  (m:Nat.ble (n * k) 65536=true) (a:z.length=k) (A:parto env parts=some l) (w:Fp P (.slice e) l l') (D:qc (λi=>some (i * k,k)) ((List.replicate n z).flatten) l'=some cs) (E:xF cs=some cs') (B:rows k n cs'=es) :
  zB P o env h=.ok (.osl none k es) h:=by
 obtain ⟨F,g⟩:=parts_ok A w;obtain ⟨j,C,q,_,r,_⟩:=c.i;have b:(⟨parts⟩:Array (Nat×Operand)).all (λp=>yf p.2)=true:=by grind
 simp only [zB,y,b,ur,c.u,s,C,q,xj,g,D,E,B,r,sP m,a,rM]
end Go.Vv
namespace Go.Vv
open Go
variable {i:Nat} {body:Code} {N:List AV->AH->Prop}

abbrev zi:=List UInt8
def InK (k:IntKind) (n:Int):Prop:=k.min<=n/\n<=k.max
inductive Out (ρ σ:Type) where
 | ret (r:ρ)
 | brk (s:σ)
 | nxt (s:σ)
section
variable {α ρ σ:Type}
def zx (f:Nat->α->σ->Option (Out ρ σ)):List α->Nat->σ->Option (ρ ⊕ σ)
 | [],_,s=>some (.inr s)
 | x::t,i,s=>match f i x s with
  | none=>none
  | some (.ret r)=>some (.inl r)
  | some (.brk s')=>some (.inr s')
  | some (.nxt s')=>zx f t (i+1) s'
def vY (f:σ->Option (Out ρ σ)):Nat->σ->Option (ρ ⊕ σ)
 | 0,_=>none
 | n+1,s=>match f s with
  | none=>none
  | some (.ret r)=>some (.inl r)
  | some (.brk s')=>some (.inr s')
  | some (.nxt s')=>vY f n s'
theorem loopN_more {f:σ->Option (Out ρ σ)}:∀{n m:Nat} {s:σ} {o:ρ ⊕ σ},vY f n s=some o->n<=m->vY f m s=some o
 | 0,_,_,_,h,_=>by simp [vY] at h
 | n+1,0,_,_,_,hl=>by omega
 | n+1,m+1,s,o,h,hl=>by
  simp only [vY] at h ⊢;rcases hf:f s with _ | (r | a | a) <;> rw [hf] at h <;> simp only at h ⊢
  ·cases h
  ·exact h
  ·exact h
  ·exact loopN_more h (by omega)
open Classical in
noncomputable def vP (f:σ->Option (Out ρ σ)) (s:σ):Option (ρ ⊕ σ) :=
 if h:∃n o,vY f n s=some o then some (Classical.choose (tL h)) else none
theorem loopW_of {f:σ->Option (Out ρ σ)} {n:Nat} {s:σ} {o:ρ ⊕ σ} (h:vY f n s=some o):vP f s=some o:=by
 have a:∃n o,vY f n s=some o:=⟨n,o,h⟩
 unfold vP;rw [pE a];have b:=tL (tL a);have c:=loopN_more b (Nat.le_max_left _ n);have d:=loopN_more h (Nat.le_max_right (Classical.choose a) n)
 grind
theorem loopW_is {f:σ->Option (Out ρ σ)} {s:σ} {o:ρ ⊕ σ} (h:vP f s=some o):∃n,vY f n s=some o:=by
 unfold vP at h;split at h
 ·grind
 ·cases h
theorem loopW_eq (f:σ->Option (Out ρ σ)) (s:σ):vP f s=match f s with
  | none=>none
  | some (.ret r)=>some (.inl r)
  | some (.brk b)=>some (.inr b)
  | some (.nxt b)=>vP f b:=by
 rcases hf:f s with _ | (r | b | b) <;> simp only
 ·cases hx:vP f s with
  | none=>rfl
  | some o =>
   obtain ⟨n,a⟩:=loopW_is hx;cases n <;> simp [vY,hf] at a
 ·exact loopW_of (n:=1) (by simp only [vY,hf])
 ·exact loopW_of (n:=1) (by simp only [vY,hf])
 ·cases hx:vP f b with
  | some o =>
   obtain ⟨n,a⟩:=loopW_is hx;exact loopW_of (n:=n+1) (by simp only [vY,hf];exact a)
  | none =>
   cases hy:vP f s with
   | none=>rfl
   | some o =>
    obtain ⟨n,a⟩:=loopW_is hy;cases n with
    | zero=>simp [vY] at a
    | succ n =>
     simp only [vY,hf] at a;rw [loopW_of a] at hx;cases hx
def lp (o:Option (ρ ⊕ σ)) (rest:σ->Option ρ):Option ρ :=
 match o with
 | none=>none
 | some (.inl r)=>some r
 | some (.inr s)=>rest s
def x6 (p:Prop) [Decidable p] (o:Option ρ):Option ρ:=if p then o else none
def qO (L:List α) (n:Int):Option α:=if 0<=n then L[n.toNat]? else none
def slc (L:List α) (lo hi:Int):Option (List α):=if 0<=lo/\lo<=hi/\hi<=L.length then some ((L.take hi.toNat).drop lo.toNat) else none

theorem zo {α ρ:Type} {o:Option α} {k:α->Option ρ} {r:ρ} {G:Prop} (a:o.bind k=some r) (b:∀v,o=some v->k v=some r->G):G:=by
 cases o with
 | none=>cases a
 | some v=>exact b v rfl a
theorem yw {α ρ:Type} {b:Bool} {d:α} {o:Option α} {k:α->Option ρ} {r:ρ} {G:Prop} (a:(if b=true then o else some d).bind k=some r) (c:∀v,(b=true->o=some v)->k v=some r->G):G:=by
 cases b with
 | false=>exact c d (λh=>by cases h) a
 | true =>
  cases o with
  | none=>cases a
  | some v=>exact c v (λ_=>rfl) a
theorem xu {p:Prop} [Decidable p] {o:Option ρ} {r:ρ} {G:Prop} (a:x6 p o=some r) (b:p->o=some r->G):G:=by
 unfold x6 at a
 simp_all
theorem idxF {L:List α} {n:Int} {y:α} (h:qO L n=some y):0<=n/\L[n.toNat]?=some y:=by
 unfold qO at h
 simp_all
theorem slcF {L M:List α} {lo hi:Int} (h:slc L lo hi=some M):(0<=lo/\lo<=hi/\hi<=L.length)/\M=(L.take hi.toNat).drop lo.toNat:=by
 unfold slc at h
 simp_all

def konL (f:Nat->α->σ->Option (Out ρ σ)) (L:List α) (i:Nat) (rest:σ->Option ρ):Out ρ σ->Option ρ
 | .ret r=>some r
 | .brk s=>rest s
 | .nxt s=>lp (zx f (L.drop (i+1)) (i+1) s) rest
def konN (f:σ->Option (Out ρ σ)) (n:Nat) (rest:σ->Option ρ):Out ρ σ->Option ρ
 | .ret r=>some r
 | .brk s=>rest s
 | .nxt s=>lp (vY f n s) rest
def konJ (rest:σ->Option ρ):ρ ⊕ σ->Option ρ
 | .inl r=>some r
 | .inr s=>rest s
theorem loopL_step {f:Nat->α->σ->Option (Out ρ σ)} {L:List α} {s:σ} {rest:σ->Option ρ} {c:ρ} (h:lp (zx f (L.drop i) i s) rest=some c) (b:i < L.length) :
  ∃x d,L[i]?=some x/\f i x s=some d/\konL f L i rest d=some c:=by
 have e:=(sN b).symm;rw [e] at h;refine ⟨L[i],?_⟩;simp only [zx] at h;split at h
 ·cases h
 ·rename_i r a;exact ⟨.ret r,ui b,a,h⟩
 ·rename_i r a;exact ⟨.brk r,ui b,a,h⟩
 ·rename_i r a;exact ⟨.nxt r,ui b,a,h⟩
theorem loopL_end {f:Nat->α->σ->Option (Out ρ σ)} {L:List α} {s:σ} {rest:σ->Option ρ} {a:ρ} (h:lp (zx f (L.drop i) i s) rest=some a) (b:¬ i < L.length):rest s=some a:=by
 rw [tq (by omega)] at h;exact h
theorem lpF {o:Option (ρ ⊕ σ)} {rest:σ->Option ρ} {b:ρ} (h:lp o rest=some b):∃a,o=some a/\konJ rest a=some b:=by
 cases o with
 | none=>cases h
 | some a=>cases a <;> exact ⟨_,rfl,h⟩
end
section
variable {P:Program} {Q:Exit->List AV->AH->Prop} {env:List AV} {h:AH} {α ρ σ:Type}
theorem zt {c:Operand} {t e:Code} {b:Bool} {A B:Option ρ} {r:ρ} (g:yk env c=some (.bool b)) (j:(if b=true then A else B)=some r) (f:b=true->A=some r->vB P t Q env h) (d:b=false->B=some r->vB P e Q env h) :
  vB P (.cond c t e) Q env h:=by
 refine y4 g (λa=>f a ?_) (λa=>d a ?_)
 ·simp_all
 ·simp_all
theorem zZ {f:Nat->α->σ->Option (Out ρ σ)} {L:List α} {s:σ} {rest:σ->Option ρ} {g:ρ} {c:Operand} {t e:Code} (l:yk env c=some (.bool (decide ((i:Int) < (L.length:Int))))) (j:lp (zx f (L.drop i) i s) rest=some g)
  (n:∀x b,i < L.length->L[i]?=some x->f i x s=some b->konL f L i rest b=some g->vB P t Q env h) (k:rest s=some g->vB P e Q env h):vB P (.cond c t e) Q env h:=by
 refine y4 l (λa=>?_) (λa=>?_)
 ·have d:i < L.length:=by have:=tm a;omega
  obtain ⟨x,b,o,m,p⟩:=loopL_step j d
  simp_all
 ·have d:¬ i < L.length:=by have:=of_decide_eq_false a;omega
  exact k (loopL_end j d)
theorem zU {f:Nat->α->σ->Option (Out ρ σ)} {L:List α} {d:σ} {rest:σ->Option ρ} {c:ρ} (U:Nat->σ->List (Nat×AV)) (H:σ->AH) (g:lp (zx f L 0 d) rest=some c) {E:Nat->σ->List AV}
  (m:∀i s,vi env (U i s)=E i s) (h0:wk h env h (E 0 d) (H d))
  (hs:∀i s,i<=L.length->lp (zx f (L.drop i) i s) rest=some c->vB P body (loopQ (λa h'=>∃b,i < L.length/\lp (zx f (L.drop (i+1)) (i+1) b) rest=some c/\wk (H s) a h' (E (i+1) b) (H b)) Q) (E i s) (H s)) :
  vB P (.loop body) Q env h:=by
 refine r_loop (σ:=Nat×σ) (λp=>E p.1 p.2) (λp=>H p.2) (λp=>p.1<=L.length/\lp (zx f (L.drop p.1) p.1 p.2) rest=some c) (λp=>L.length - p.1) (0,d) h0 ⟨tU _,g⟩ ?_
 rintro ⟨i,s⟩ ⟨hi,g⟩
 have:=hs i s hi g;have e:(loopQ (λa h'=>∃b,i < L.length/\lp (zx f (L.drop (i+1)) (i+1) b) rest=some c/\wk (H s) a h' (E (i+1) b) (H b)) Q) =
  λx a h'=>match x with | .normal=>∃b,i < L.length/\lp (zx f (L.drop (i+1)) (i+1) b) rest=some c/\wk (H s) a h' (E (i+1) b) (H b) | x=>Q x a h':=rfl
 refine w9 ?_ _ _ _ this;intro x a h' j;cases x with
 | normal =>
  obtain ⟨b,l,k,n⟩:=j;exact ⟨(i+1,b),⟨l,k⟩,by omega,n⟩
 | _=>exact j
theorem r_loopWF {f:σ->Option (Out ρ σ)} {j:σ} {rest:σ->Option ρ} {d:ρ} (U:σ->List (Nat×AV)) (H:σ->AH) (a:lp (vP f j) rest=some d) {E:σ->List AV}
  (t:∀s,vi env (U s)=E s) (h0:wk h env h (E j) (H j))
  (hs:∀n s c,f s=some c->konN f n rest c=some d->vB P body (loopQ (λb h'=>∃e,lp (vY f n e) rest=some d/\wk (H s) b h' (E e) (H e)) Q) (E s) (H s)) :
  vB P (.loop body) Q env h:=by
 obtain ⟨q,m⟩:∃n,lp (vY f n j) rest=some d:=by
  obtain ⟨c,g,l⟩:=lpF a;obtain ⟨n,u⟩:=loopW_is g
  grind
 refine r_loop (σ:=Nat×σ) (λp=>E p.2) (λp=>H p.2) (λp=>lp (vY f p.1 p.2) rest=some d) (λp=>p.1) (q,j) h0 m ?_
 rintro ⟨n,s⟩ a
 cases n with
 | zero=>simp [vY,lp] at a
 | succ n =>
  obtain ⟨c,g,l⟩:∃c,f s=some c/\konN f n rest c=some d:=by
   simp only [vY] at a;split at a
   ·cases a
   ·rename_i r k;exact ⟨.ret r,k,a⟩
   ·rename_i r k;exact ⟨.brk r,k,a⟩
   ·rename_i r k;exact ⟨.nxt r,k,a⟩
  refine w9 ?_ _ _ _ (hs n s c g l);intro x b h' o;cases x with
  | normal =>
   obtain ⟨e,g,l⟩:=o;exact ⟨(n,e),g,by omega,l⟩
  | _=>exact o
def joinQ (h0:AH) (N:List AV->AH->Prop) (Q:Exit->List AV->AH->Prop):Exit->List AV->AH->Prop:=λx env' h'=>match x with
 | .normal=>N env' h'
 | x=>Q x env' h'
theorem r_join {a b:Code} {J:Option (ρ ⊕ σ)} {rest:σ->Option ρ} {d:ρ} (U:σ->List (Nat×AV)) (H:σ->AH) (p:lp J rest=some d) {E:σ->List AV} (j:∀s,vi env (U s)=E s)
  (g:∀e,J=some e->konJ rest e=some d->vB P a (joinQ h (λc h'=>∃s,rest s=some d/\wk h c h' (E s) (H s)) Q) env h)
  (o:∀s,rest s=some d->vB P b Q (E s) (H s)):vB P (.seq a b) Q env h:=by
 obtain ⟨e,m,k⟩:=lpF p;refine zk (w9 ?_ _ _ _ (g e m k));intro x c h' f;cases x with
 | normal =>
  obtain ⟨s,n,l⟩:=f;exact ⟨_,_,l,o s n⟩
 | _=>exact f
theorem q_join {h0:AH} (a:N env h):joinQ h0 N Q .normal env h:=a
theorem q_join_ret {h0:AH} (a:Q .ret env h):joinQ h0 N Q .ret env h:=a
end
end Go.Vv
namespace Go.Vv
open Go
variable {q:Option Nat} {k m id j off:Nat} {i x y:Operand} {lo hi:Option Operand} {n l hh:Int} {t e u e':TypeId} {a:AV} {b:Bool} {d:TypeDesc} {ρ:Type} {ops:Array Oper} {Q:List AV->AH->Prop} {rest:List Oper} {env' cs cs':List AV} {B L' B':List Blk} {T T' Ns M' M1:List Nat} {F:Nat->AH->Prop} {f:FuncId} {g:Gh} {hd:AH} {w0 w:World} {K:AV->AH->Prop}

abbrev zr (s:zi):List AV:=[.str s]
def vN (b:UInt8):List AV:=[.int .u8 b.toNat]
abbrev intRow (k:IntKind) (n:Int):List AV:=[.int k n]
abbrev boolRow (b:Bool):List AV:=[.bool b]
def IsSl {α:Type} (a:AV) (z:Nat) (row:α->List AV) (L:List α):Prop:=a=.sl z (L.map row) \/ ∃q,a=.osl q z (L.map row)
section
variable {α:Type} {row:α->List AV} {L M:List α} {z:Nat}
theorem isl:IsSl (.sl z (L.map row)) z row L:=.inl rfl
theorem iosl:IsSl (.osl q z (L.map row)) z row L:=.inr ⟨_,rfl⟩
theorem vQ {f:α->List AV} {L:List α}:aLen (.sl k (L.map f))=some L.length:=by simp [aLen]
theorem lenMapO {f:α->List AV} {L:List α}:aLen (.osl q k (L.map f))=some L.length:=by simp [aLen]
theorem yd {i:Nat} {x:α} (h:L[i]?=some x):qO L (i:Int)=some x:=by
 unfold qO;rw [uG (by omega),uU];exact h
end
theorem slc_of {α:Type} {L:List α} {lo hi:Int} (h:0<=lo/\lo<=hi/\hi<=L.length):slc L lo hi=some ((L.take hi.toNat).drop lo.toNat):=uG h
theorem byte_of (h:0<=n/\n < 256):((UInt8.ofNat n.toNat).toNat:Int)=n:=by
 rw [UInt8.toNat_ofNat'];omega
theorem bin_boolE {P:Program} {a:Bool} (c:Ty P t .bool k):yG P .eql t (.bool a) (.bool b)=some (.bool (a==b)):=by simp only [yG,aEq,c.u,uB]
theorem bin_boolN {P:Program} {a:Bool} (c:Ty P t .bool k):yG P .neq t (.bool a) (.bool b)=some (.bool !(a==b)):=by simp only [yG,aEq,c.u,uB]
set_option maxHeartbeats 4000000 in
theorem yA {P:Program} {x y:AV} (c:Ty P t d k) (h:aNil d x y=some b):yG P .eql t x y=some (.bool b):=by
 cases x <;> cases y <;> first | (cases d <;> simp [aNil] at h;done) | (simp only [yG,aEq,c.u,h,uB])
set_option maxHeartbeats 4000000 in
open Classical in
noncomputable def nilq {α:Type} (L:List α) (f:Bool->Option ρ):Option ρ:=if L=[]/\f true ≠ f false then none else f false
theorem nilqF {α:Type} {L:List α} {f:Bool->Option ρ} {r:ρ} (h:nilq L f=some r):f false=some r/\(L=[]->f true=some r):=by
 unfold nilq at h
 simp_all
theorem nilq_of {α:Type} {L:List α} {f:Bool->Option ρ} {r:ρ} (p:f false=some r) (c:L=[]->f true=some r):nilq L f=some r:=by
 unfold nilq
 simp_all
theorem ops_nilqE {P:Program} {o:Oper} {env:List AV} {env':Bool->List AV} {h:AH} {z:Nat} {α:Type} {row:α->List AV} {L:List α} {f:Bool->Option ρ} {r:ρ} (I:aG ops o env=some true)
  (G:o.op=.binOp .eql t x y u) (C:El P t e k) (S:yk env x=some a) (U:IsSl a z row L) (R:yk env y=some .nilsl) (hd:∀b:Bool,xO o.dst env (.bool b)=some (env' b)) (N:nilq L f=some r)
  (J:∀b,(b=true->L=[])->f b=some r->zJ P ops Q rest (env' b) h):zJ P ops Q (o::rest) env h:=by
 obtain ⟨E,A⟩:=zS S;obtain ⟨H,D⟩:=zS R;obtain ⟨O,s⟩:=nilqF N;have key:∀b,(b=true->L.map row=[])->zJ P ops Q rest (env' b) h:=λb p=>by
  have c:b=true->L=[]:=λh=>by simp_all
  refine J b c ?_;cases b with
  | false=>exact O
  | true=>exact s (c rfl)
 refine vA ?_;simp only [I,gwp];rcases U with rfl | ⟨q,rfl⟩
 ·simp only [zB,G,E,H,uW,ur,A,D,aNilq,C.u,rwp]
  rintro v h' ⟨rfl,b,rfl,p⟩
  rw [yQ (hd b)];exact key b p
 ·simp only [zB,G,E,H,uW,ur,A,D,aNilq,C.u,rwp]
  rintro v h' ⟨rfl,b,rfl,p⟩
  rw [yQ (hd b)];exact key b p
section
variable {P:Program} {o:Oper} {env:List AV} {h:AH} {α:Type} {row:α->List AV} {L:List α}
theorem wy {c a b:Operand} {x y:AV} (p:o.op=.pick c a b) (v:yk env c=some (.bool false)) (r:yk env a=some x) (s:yk env b=some y):zB P o env h=.ok y h:=qx p v r s (by simp)
theorem we {k:IntKind} {z:Nat} {y:α} (r:o.op=.indexAddr t x i) (v:El P t e z) (A:yk env x=some a) (hi:yk env i=some (.int k n)) (s:IsSl a z row L) (p:qO L n=some y) :
  zB P o env h=.ok (.fptr (row y)) h:=by
 obtain ⟨h0,p⟩:=idxF p;refine s_indexAddr r v A hi ?_;have c:(L.map row)[n.toNat]?=some (row y):=by simp_all
 rcases s with rfl | ⟨q,rfl⟩ <;> simp only [aIndexAddr,h0,rM,ur,c,uB]
theorem wb {k:IntKind} {z:Nat} {y:α} (c:o.op=.indexAddr t x i) (s:El P t e z) (A:yk env x=some a) (hi:yk env i=some (.int k n)) (p:IsSl a z row L) (r:qO L n=some y) (v:row y=cs) :
  zB P o env h=.ok (.fptr cs) h:=by rw [<- v];exact we c s A hi p r
theorem s_gidxRow {k:IntKind} {z:Nat} (d:α) (c:o.op=.indexAddr t x i) (r:El P t e z) (s:yk env x=some a) (hi:yk env i=some (.int k n)) (p:IsSl a z row L) (v:0<=n/\n < L.length) :
  zB P o env h=.ok (.fptr (row (L.getD n.toNat d))) h:=by
 refine we c r s hi p ?_;unfold qO
 simp_all
theorem s_gidxRowE {k:IntKind} {z:Nat} (d:α) (c:o.op=.indexAddr t x i) (r:El P t e z) (v:yk env x=some a) (hi:yk env i=some (.int k n)) (p:IsSl a z row L) (A:0<=n/\n < L.length)
  (s:row (L.getD n.toNat d)=cs):zB P o env h=.ok (.fptr cs) h:=by rw [<- s];exact s_gidxRow d c r v hi p A
theorem s_idxStr {s:zi} {k:IntKind} {z:Nat} {b:UInt8} (p:o.op=.index t x i) (r:Ty P t .string z) (v:yk env x=some (.str s)) (hi:yk env i=some (.int k n)) (c:qO s n=some b) :
  zB P o env h=.ok (.int .u8 b.toNat) h:=by
 obtain ⟨h0,c⟩:=idxF c;refine s_indexStr p r v hi ?_;simp only [aIndexStr,h0,ur,c,uB]
inductive Bd (env:List AV):Option Operand->Int->Int->Prop
 | none {d:Int}:Bd env none d d
 | some {x:Operand} {k:IntKind} {n d:Int}:yk env x=some (.int k n)->Bd env (some x) d n
theorem Bd.all {x:Option Operand} {d n:Int} (h:Bd env x d n):x.all yf=true:=by
 cases h with
 | none=>rfl
 | some h=>exact (zS h).1
theorem Bd.ab {x:Option Operand} {d:Nat} (h:Bd env x d n) (h0:0<=n):aBound d (x.map (ev env))=Option.some n.toNat:=by
 cases h with
 | none=>rfl
 | some h=>simp only [uB,(zS h).2,aBound,uG h0]
theorem s_slcStr {s M:zi} {z:Nat} (r:o.op=.slice t x lo hi none) (D:Ty P t .string z) (H:yk env x=some (.str s)) (p:Bd env lo 0 l) (c:Bd env hi s.length hh) (C:slc s l hh=some M) :
  zB P o env h=.ok (.str M) h:=by
 obtain ⟨⟨h0,J,I⟩,rfl⟩:=slcF C;obtain ⟨E,A⟩:=zS H;have v:=Bd.ab (d:=0) p h0;have G:=Bd.ab (d:=s.length) c (by omega);simp only [zB,r,E,p.all,c.all,Option.all_none,uW,ur,D.u,A,rP,aSlice,Option.isNone_none,aSliceStr,v,G];rw [uG (by omega)];rfl
theorem s_slcSl {M:List α} {z:Nat} (H:o.op=.slice t x lo hi none) (r:El P t e z) (J:yk env x=some a) (O:a=.sl z (L.map row) \/ ∃q,a=.osl q z (L.map row)/\(hi.isSome=true \/ q.isSome=true)) (v:Bd env lo 0 l) (c:Bd env hi L.length hh)
  (C:slc L l hh=some M):zB P o env h=.ok (.sl z (M.map row)) h:=by
 obtain ⟨⟨h0,S,R⟩,rfl⟩:=slcF C;obtain ⟨I,D⟩:=zS J;obtain ⟨i,E,N,_⟩:=r.i;have A:=Bd.ab (d:=0) v h0;have s:=Bd.ab (d:=L.length) c (by omega);simp only [zB,H,I,v.all,c.all,Option.all_none,uW,ur,r.u,D,E,N,rP];rcases O with rfl | ⟨q,rfl,p⟩
 ·simp only [tyfix,ur,aSlice,aSliceSl,A,ut,s,rE,um,uJ];rw [uG (by omega)];simp only [oo,pp,rk]
 ·simp only [tyfix,ur,aSlice,aSliceSl,A,ut,s];rw [uG (by omega)];have G:(q.isNone&&(hi.map (ev env)).isNone)=false:=by
   rcases p with p | p
   ·simp_all
   ·cases q <;> simp_all
  simp only [G,um,uJ,oo,pp,rk]
theorem s_slcMax {m:Operand} {M:List α} {k k':IntKind} {z:Nat} (G:o.op=.slice t x lo (some y) (some m)) (p:El P t e z) (N:yk env x=some a) (U:IsSl a z row L) (s:Bd env lo 0 l) (I:yk env y=some (.int k hh)) (O:yk env m=some (.int k' hh))
  (A:slc L l hh=some M):zB P o env h=.ok (.osl none z (M.map row)) h:=by
 obtain ⟨⟨h0,W,V⟩,rfl⟩:=slcF A;obtain ⟨J,C⟩:=zS N;obtain ⟨D,H⟩:=zS I;obtain ⟨S,c⟩:=zS O;obtain ⟨i,E,R,_⟩:=p.i;have v:=Bd.ab (d:=0) s h0;have r:aBound L.length (some (.int k hh))=some hh.toNat:=by simp only [aBound];rw [uG (by omega)]
 simp only [zB,G,J,D,S,s.all,Option.all_some,uW,ur,p.u,C,E,R,uB,H,c];rcases U with rfl | ⟨q,rfl⟩
 ·simp only [tyfix,ur,aSlice,aSliceSl,v,ut,r];rw [uG (by omega),uG ⟨by omega,rfl⟩];simp only [oo,pp,rk]
 ·simp only [tyfix,ur,aSlice,aSliceSl,v,ut,r];rw [uG (by omega),uG ⟨by omega,rfl⟩];simp only [oo,pp,rk]

theorem a_app {M:List α} {h':AH} (p:L.length+M.length<=xe) (c:h.grow q L.length M.length=some (id,h')):aAppend h k (.osl q k (L.map row)) (M.map row)=some (.osl (some id) k ((L++M).map row),h'):=by
 simp only [aAppend,ut];by_cases h0:M.length=0
 ·have:M=[]:=uD h0;subst this;rw [uG (show ([]:List α).length=0 from rfl)];cases q with
  | none =>
   simp only [AH.grow,uE,tB,uf,tD] at c
   simp_all
  | some id' =>
   simp only [AH.grow,uE,tB] at c;split at c
   ·rename_i r;simp only [uf,tD] at c;obtain ⟨rfl,rfl⟩:=c;have:h.toks.set id' L.length=h.toks:=by
     refine uT λj=>?_
     grind
    simp [this]
   ·cases c
 ·simp_all
variable {M:List α}
theorem e_appN {c:Call} {k':Nat} {b r:AV} (v:o.op=.call c) (I:c.callee=.builtin .append) (hs:c.args=#[x,y]) (H:c.argTypes=#[t,u]) (G:El P t e k)
  (p:El P u e' k') (N:yk env x=some a) (C:yk env y=some b) (A:tyfix P t a=.osl none k (L.map row)) (J:tyfix P u b=r) (O:aNews k r=some (M.map row)) (D:L.length+M.length<=xe) (s:T.length=m) (E:T++[(L++M).length]=T') :
  zB P o env (h.ext B T)=.ok (.osl (some (h.toks.length+m)) k ((L++M).map row)) (h.ext B T'):=by
 refine s_append v I hs H G p N C A J O (a_app D ?_);subst E s;simp [AH.grow,AH.ext]
theorem e_appT {c:Call} {k':Nat} {b r:AV} (D:o.op=.call c) (O:c.callee=.builtin .append) (hs:c.args=#[x,y]) (s:c.argTypes=#[t,u]) (H:El P t e k)
  (p:El P u e' k') (I:yk env x=some a) (G:yk env y=some b) (N:tyfix P t a=.osl (some (h.toks.length+j)) k (L.map row)) (v:tyfix P u b=r) (J:aNews k r=some (M.map row)) (E:L.length+M.length<=xe) (R:T[j]?=some L.length) (C:T.set j (L++M).length=T') :
  zB P o env (h.ext B T)=.ok (.osl (some (h.toks.length+j)) k ((L++M).map row)) (h.ext B T'):=by
 refine s_append D O hs s H p I G N v J (a_app E ?_);subst C;have A:(h.toks++T)[h.toks.length+j]?=some L.length:=by grind
 simp only [AH.grow,AH.ext,A,ur]
 simp_all
theorem news_sl:aNews k (.sl k (M.map row))=some (M.map row):=by simp [aNews]
theorem xL:aNews k (.osl q k (M.map row))=some (M.map row):=by simp [aNews]
end

theorem leL.app {a5 bs:List AV} {cs:List AV} (k:leL a5 bs):leL (a5++cs) (bs++cs):=λg vs hv=>by
 have hs:∀{a5:List AV} {vs:List Value},VL g (a5++cs) vs->∃us ws,vs=us++ws/\VL g a5 us/\VL g cs ws:=by
  intro a5
  induction a5 with
  | nil=>intro vs h;exact ⟨[],vs,rfl,by simp [VL],h⟩
  | cons a r ih =>
   intro vs h;simp only [tj,VL] at h;obtain ⟨v,s,rfl,h1,h2⟩:=h;obtain ⟨us,ws,rfl,h3,h4⟩:=ih h2;exact ⟨v::us,ws,rfl,VL.cons h1 h3,h4⟩
 obtain ⟨us,ws,rfl,h1,h2⟩:=hs hv;exact VL.append (k _ _ h1) h2
theorem leL.pre {a5 bs:List AV}:∀{cs:List AV},leL a5 bs->leL (cs++a5) (cs++bs)
 | [],k=>k
 | _::_,k=>leL.eq (leL.pre k)
def keeps:List (Nat×Blk)->List Blk->Prop
 | [],_=>True
 | (j,b)::r,B=>B[j]?=some b/\keeps r B
theorem keeps1 {b:Blk} {r:List (Nat×Blk)} (h:keeps ((j,b)::r) B):B[j]?=some b:=h.1
def lk:List (Nat×List (Nat×Blk))->Nat->List (Nat×Blk)
 | [],_=>[]
 | (m,l)::r,n=>if n=m then l else lk r n
def KeepB (h:AH) (l:List (Nat×Blk)) (x:AH):Prop:=∃B T,x=h.ext B T/\keeps l B
theorem yR {h:AH} {l:List (Nat×Blk)} (c:keeps l B):KeepB h l (h.ext B T):=⟨_,_,rfl,c⟩
def keepA:List (Nat×List (Nat×Blk))->List Blk->Prop
 | [],_=>True
 | (_,l)::r,B=>keeps l B/\keepA r B
theorem keepA_lk:∀{l:List (Nat×List (Nat×Blk))} {B:List Blk},keepA l B->∀n,keeps (lk l n) B
 | [],_,_,_=>trivial
 | (m,l)::r,B,h,n=>by
  simp only [lk];split
  ·exact h.1
  ·exact keepA_lk h.2 n
theorem FOk.all {b:Nat} {G:AH->Prop} {h:AH} (c:G h):FOk b Ns (λ_=>G) h:=λ_ _ _=>c
theorem FOk.nil {b:Nat} {h:AH}:FOk b [] F h:=λ_ h _=>by simp at h
theorem FOk.cons {b n:Nat} {h:AH} (c:b.testBit n=true \/ F n h) (p:FOk b Ns F h):FOk b (n::Ns) F h:=λm s r=>by
 rcases c with c | c
 ·by_cases e:m=n
  ·simp_all
  ·exact p m (by simp_all) r
 ·by_cases e:m=n
  ·simp_all
  ·exact p m (by simp_all) r
abbrev rsA (h:AH) (i j k n:Nat):AV:=.rsl (h.blks.length+i) (h.toks.length+j) k n
abbrev osA (h:AH) (j k:Nat) (es:List (List AV)):AV:=.osl (some (h.toks.length+j)) k es
abbrev rwA (h:AH) (j k:Nat) (es:List (List AV)):Blk:=.row (h.toks.length+j) k es
theorem yu {P:Program} {Q:Exit->List AV->AH->Prop} {env:List AV} {h:AH} {l:List Oper} (Ns:List Nat) (c:List (Nat×List (Nat×Blk))) (s:keepA c B) (p:P.follows .mixedOrders=true) (hd:drawOk ⟨l⟩ Ns=true) (r:zW P ⟨l⟩ Ns (λn=>KeepB h (lk c n)) (Q .normal) 0 l env (h.ext B T)) :
  vB P (.region id ⟨l⟩ true) Q env (h.ext B T):=.inl ⟨Ns,λn=>KeepB h (lk c n),⟨p,hd⟩,λn=>yR (keepA_lk s n),r⟩
theorem r_drawnF {P:Program} {Q:Exit->List AV->AH->Prop} {env:List AV} {h:AH} {l:List Oper} (Ns:List Nat) (F:Nat->AH->Prop) (r:∀n,F n h) (c:P.follows .mixedOrders=true) (hd:drawOk ⟨l⟩ Ns=true) (p:zW P ⟨l⟩ Ns F (Q .normal) 0 l env h) :
  vB P (.region id ⟨l⟩ true) Q env h:=.inl ⟨Ns,F,⟨c,hd⟩,r,p⟩
theorem xE {h:AH} {L:List Blk} {M:List Nat}:(h.ext L M).ext L' M'=h.ext (L++L') (M++M'):=by simp [AH.ext,uy]
theorem y8 {P:Program} {o:Oper} {env:List AV} {h h':AH} {args:List AV} {v:AV} (A:aG ops o env=some true) (s:zB P o env h=.call f args) (hs:Spec P f args h λr hh=>r=v/\hh=h')
  (hd:xO o.dst env v=some env') (c:zJ P ops Q rest env' h'):zJ P ops Q (o::rest) env h :=
 ops_call A s hs λr h' ⟨p,C⟩=>by subst p;subst C;rw [yQ hd];exact c
theorem xh {i:Nat} (D:Ns.contains i=false) {P:Program} {ops:Array Oper} {Q:List AV->AH->Prop} {o:Oper} {rest:List Oper} {env env':List AV} {h h':AH} {f:FuncId} {args:List AV} {v:AV} (A:FOk ((Region.before ops).getD i 0) Ns F h') (c:h'.blks=h.blks) (p:aG ops o env=some true) (C:zB P o env h=.call f args) (hs:Spec P f args h λr hh=>r=v/\hh=h')
  (hd:xO o.dst env v=some env') (s:zW P ops Ns F Q (i+1) rest env' h'):zW P ops Ns F Q i (o::rest) env h :=
 ⟨v,h',.inl ⟨D,by simp only [AR,p,C];exact hs⟩,.inr c,.inr A,by rw [yQ hd];exact s⟩
theorem draw_okH {i:Nat} (A:Ns.contains i=false) {P:Program} {ops:Array Oper} {Q:List AV->AH->Prop} {o:Oper} {rest:List Oper} {env env':List AV} {h h':AH} {v:AV} (C:FOk ((Region.before ops).getD i 0) Ns F h') (s:h'.blks=h.blks) (r:aG ops o env=some true) (p:zB P o env h=.ok v h') (hd:xO o.dst env v=some env') (c:zW P ops Ns F Q (i+1) rest env' h') :
  zW P ops Ns F Q i (o::rest) env h:=⟨v,h',.inl ⟨A,by simp only [AR,r,p,rM]⟩,.inr s,.inr C,by rw [yQ hd];exact c⟩
def OwnK (h:AH) (k n:Nat) (R:List (List AV)) (rr:AV) (hh:AH):Prop:=rr=.osl (some h.toks.length) k R/\hh=h.ext [] [n]
theorem x5 {P:Program} {a5:List AV} {h:AH} {n:Nat} {R:List (List AV)} (s:Spec P f a5 (h.ext B T) (OwnK (h.ext B T) k n R)) (c:T.length=m) (p:T++[n]=T') :
  Spec P f a5 (h.ext B T) (λv hh=>v=.osl (some (h.toks.length+m)) k R/\hh=h.ext B T'):=by
 refine s.mono ?_
 rintro r h' ⟨rfl,rfl⟩
 subst c p;simp [AH.ext,uy]
theorem blk_ext2 {h:AH} {b:Blk} (c:B[j]?=some b):((h.ext B T).ext B' T').blk (h.blks.length+j)=some b:=by
 rw [xE,yC,uo (ua.1 c).1];exact c
theorem blk_old {h:AH} {b:Blk} (c:h.blk id=some b):(h.ext B T).blk id=some b:=by
 have p:id < h.blks.length:=(ua.1 c).1;simp only [AH.blk,AH.ext] at c ⊢
 grind
theorem b_load {P:Program} {o:Oper} {env:List AV} {h:AH} {v c:AV} (r:o.op=.load t x) (A:Ty P t d k) (D:yk env x=some (.ptr id off)) (C:h.blk id=some (.cells cs))
  (s:ldC (yq d) k off cs=some v) (p:tyfix P t v=c):zB P o env (h.ext B T)=.ok c (h.ext B T):=by
 refine s_load r A D ?_ p;simp only [aLoad,blk_old C];exact s

theorem leV.agg {cs ds:List AV} (k:leL cs ds) (p:ds.all AV.one=true):leV (.agg cs) (.agg ds):=λg v c=>by
 simp only [V] at c ⊢;obtain ⟨vs,e,r⟩:=c;exact ⟨vs,e,VA.mk (k _ _ r.toVL) p⟩
theorem leV.tup {cs ds:List AV} (k:leL cs ds):leV (.tup cs) (.tup ds):=λg v c=>by
 simp only [V] at c ⊢;obtain ⟨vs,e,p⟩:=c;exact ⟨vs,e,k _ _ p⟩
theorem VL.setE {g:Gh}:∀{a5:List AV} {vs:List Value},VL g a5 vs->∀(i:Nat) (a:AV),(∀v,vs[i]?=some v->V g a v)->VL g (a5.set i a) vs
 | [],_,h,i,a,_=>by simpa using h
 | _::r,_,h,i,a,hv=>by
  simp only [VL] at h;obtain ⟨c,s,rfl,A,p⟩:=h;cases i with
  | zero=>simp only [uh,VL];exact ⟨c,s,rfl,hv c rfl,p⟩
  | succ i=>simp only [ug,VL];exact ⟨c,s,rfl,A,VL.setE p i a (λv C=>hv v (by simp_all))⟩
theorem V.tok {n:Nat} {es:List (List AV)} {v:Value} (E:es.length=n) (p:V g (.osl none k es) v):V (g.addT ⟨n,none,false⟩) (.osl (some g.τ.length) k es) v:=by
 subst E;simp only [V] at p ⊢;obtain ⟨a,c,A,r,C,s,D⟩:=p;refine ⟨a,c,A,r,C,s.imp id λ⟨b,o,e,hh⟩=>⟨b,o,e,VE.mono (g.le_addT _) _ _ _ _ hh⟩,⟨es.length,none,false⟩,?_,rfl,ue _,λ_=>.inl D⟩;simp only [Gh.addT]
 simp_all
theorem wk_tok {α:Type} {row:α->List AV} {L:List α} {h:AH} {env:List AV} {d:Nat} (J:yk env (.tmp d)=some (.osl none k (L.map row))) (I:T.length=m)
  (D:xO (some d) env (.osl (some (h.toks.length+m)) k (L.map row))=some env') (H:T++[L.length]=T') :
  wk hd env (h.ext B T) env' (h.ext B T'):=λ_ _ _ _ O g vs _ G r E=>by
 subst I H;simp only [xO,uf] at D;subst D;have c:h.toks.length+T.length=g.τ.length:=by rw [r.tlen];simp [AH.ext]
 refine ⟨g.addT ⟨L.length,none,false⟩,G.trans (g.le_addT _),?_,?_⟩
 ·have:=r.addTok ⟨L.length,none,false⟩ (λ_ _ _ h=>by cases h) (λ_ _ h=>by cases h);have e:(h.ext B (T++[L.length]))={ (h.ext B T) with toks:=(h.ext B T).toks++[L.length] }:=by simp [AH.ext,uy]
  simp_all
 ·have A:=E;refine ⟨VL.setE (VL.mono (g.le_addT _) _ _ E) d _ λv s=>?_,λ_ h=>h⟩;obtain ⟨a,p,N⟩:=A.getR _ _ s;have C:env[d]?=some (.osl none k (L.map row)):=J;rw [C] at p;injection p with p;subst p;rw [c];exact N.tok (by simp)
theorem Rel.rowsC {B:Nat} {h:AH} (r:Rel B w0 g h w) {i:Nat} {cs cs':List AV} (A:h.blks[i]?=some (.cells cs)) :
  (∀(j:Nat) (x:Blk),g.σ[j]?=some none->(h.put i (.cells cs')).blks[j]?=some x->RowB g w j x) /\
  ∀(a b t k k':Nat) (es es':List (List AV)),(h.put i (.cells cs')).blks[a]?=some (.row t k es)->(h.put i (.cells cs')).blks[b]?=some (.row t k' es')->a=b:=by
 have key:∀(a t k:Nat) (es:List (List AV)),(h.put i (.cells cs')).blks[a]?=some (.row t k es)->h.blks[a]?=some (.row t k es):=by
  intro a t k es p;simp only [AH.put] at p
  grind
 refine ⟨λj x s c=>?_,λa b t k k' es es' p v=>r.rinj _ _ _ _ _ _ _ (key _ _ _ _ p) (key _ _ _ _ v)⟩;simp only [AH.put] at c;by_cases hij:i=j
 ·subst hij;exact (r.row i _ s A).elim
 ·rw [uR hij] at c;exact r.row j x s c
theorem Rel.reblk {B:Nat} {h:AH} (r:Rel B w0 g h w) {i:Nat} {cs cs':List AV} (s:h.blks[i]?=some (.cells cs)) (G:∀c,BlkOk g w c (.cells cs)->BlkOk g w c (.cells cs')):Rel B w0 g (h.put i (.cells cs')) w:=by
 refine ⟨r.below,r.bsz,r.phi,by simp [AH.put,r.slen],λj c q v p=>?_,r.tlen,r.tok,r.sinj,r.tinj,r.sep,r.dfr,(r.rowsC s).1,(r.rowsC s).2,r.nb,r.ob,r.oa⟩;simp only [AH.put] at p;by_cases hij:i=j
 ·subst hij;rw [uz (ua.1 s).1] at p;injection p with p;subst p;obtain ⟨D,A,E,C⟩:=r.blk i c _ v s
  simp_all
 ·rw [uR hij] at p;exact r.blk j c q v p
theorem wk_tokB {α:Type} {row:α->List AV} {L:List α} {h:AH} {env:List AV} (U:B[j]?=some (.cells cs)) (he:yk cs (.tmp off)=some (.osl none k (L.map row))) (hm:T.length=m)
  (S:xO (some off) cs (.osl (some (h.toks.length+m)) k (L.map row))=some cs') (hB:B.set j (.cells cs')=B') (X:T++[L.length]=T') :
  wk hd env (h.ext B T) env (h.ext B' T'):=λ_ _ w _ g1 g vs _ W r hv=>by
 subst hm X hB;simp only [xO,uf] at S;subst S;have E:h.toks.length+T.length=g.τ.length:=by rw [r.tlen];simp [AH.ext]
 refine ⟨g.addT ⟨L.length,none,false⟩,W.trans (g.le_addT _),?_,VL.mono (g.le_addT _) _ _ hv,λ_ h=>h⟩;have p:=r.addTok ⟨L.length,none,false⟩ (λ_ _ _ h=>by cases h) (λ_ _ h=>by cases h);have I:({ (h.ext B T) with toks:=(h.ext B T).toks++[L.length] }:AH).blks[h.blks.length+j]?=some (.cells cs):=by
  simp only [AH.ext];rw [un (by omega),uQ];exact U
 have e:(h.ext (B.set j (.cells (cs.set off (.osl (some (h.toks.length+T.length)) k (L.map row))))) (T++[L.length])) =
   ({ (h.ext B T) with toks:=(h.ext B T).toks++[L.length] }:AH).put (h.blks.length+j) (.cells (cs.set off (.osl (some (h.toks.length+T.length)) k (L.map row)))):=by
  simp only [AH.ext,AH.put,uy]
  simp_all
 rw [e]
 -- what the cells were ahead of the token
 have D:(h.ext B T).blks[h.blks.length+j]?=some (.cells cs):=by
  omega
 obtain ⟨c,V⟩:∃c:Nat,g.σ[h.blks.length+j]?=some (some c):=by
  have:h.blks.length+j < g.σ.length:=by rw [r.slen];simp only [AH.ext,uq];have:=(ua.1 U).1;omega
  rcases V:g.σ[h.blks.length+j] with _ | c
  ·exact (r.row _ _ (by simp_all) D).elim
  ·simp_all
 obtain ⟨_,_,⟨us,t,Z,O⟩,_⟩:=r.blk _ c _ V D;have G:VA (g.addT ⟨L.length,none,false⟩) (cs.set off (.osl (some (h.toks.length+T.length)) k (L.map row))) us.toList:=by
  have R:=O.toVL;refine VA.mk (VL.setE (VL.mono (g.le_addT _) _ _ R) off _ λv J=>?_) ?_
  ·obtain ⟨a,s,hV⟩:=R.getR _ _ J;have N:cs[off]?=some (.osl none k (L.map row)):=he;rw [N] at s;injection s with s;subst s;rw [E];exact hV.tok (by simp)
  ·rw [uv];intro a s;rcases List.mem_or_eq_of_mem_set s with s | rfl
   ·have:=O.ones;rw [uv] at this;exact this a s
   ·rfl
 -- one block alone: the same cell
 refine ⟨p.below,p.bsz,p.phi,by simp [AH.put,p.slen],λi H q C A=>?_,p.tlen,p.tok,p.sinj,p.tinj,p.sep,p.dfr,(p.rowsC I).1,(p.rowsC I).2,p.nb,p.ob,p.oa⟩;simp only [AH.put] at A;by_cases hij:h.blks.length+j=i
 ·subst hij;rw [uz (ua.1 I).1] at A;injection A with A;subst A;obtain ⟨h6,Y,_,h9⟩:=p.blk _ H _ C I;have:H=c:=by
   have:g.σ[h.blks.length+j]?=some (some H):=C
   simp_all
  subst this;exact ⟨h6,Y,⟨us,t,Z,G⟩,λ_=>h9 (by simp)⟩
 ·rw [uR hij] at A;exact p.blk i H q C A
mutual
theorem AV.low_up {n p m m':Nat} (c:n<=p) (h:m<=m'):∀a:AV,a.low n m=true->a.low p m'=true
 | .bool _,_ | .int _ _,_ | .str _,_ | .nilp,_ | .nilm,_ | .nilf,_ | .nili,_ | .nilsl,_ | .fptr _,_ | .sl _ _,_ | .glob _,_ | .any,_ | .opq,_ | .bsl _ _,_ | .nsl _ _,_ | .gsl _ _,_ | .gptr _,_=>rfl
 | .osl none _ _,_=>rfl
 | .osl (some t) _ _,hl=>by simp only [AV.low,uk] at hl ⊢;omega
 | .ptr _ _,hl=>by simp only [AV.low,uk] at hl ⊢;omega
 | .msl _ _ _ _,hl=>by simp only [AV.low,uk] at hl ⊢;omega
 | .rsl _ _ _ _,hl=>by simp only [AV.low,uk] at hl ⊢;omega
 | .rsuf _ _ _ _ _,hl=>by simp only [AV.low,uk] at hl ⊢;omega
 | .rptr _ _ _ _ _,hl=>by simp only [AV.low,uk] at hl ⊢;omega
 | .map _,hl=>by simp only [AV.low,uk] at hl ⊢;omega
 | .imap _ _,hl=>by simp only [AV.low,uk] at hl ⊢;omega
 | .yld _,hl=>by simp only [AV.low,uk] at hl ⊢;omega
 | .fn _ a b,hl=>by
  simp only [AV.low,ud] at hl ⊢;exact ⟨yx c h a hl.1,yx c h b hl.2⟩
 | .iface _ v,hl=>by simp only [AV.low] at hl ⊢;exact AV.low_up c h v hl
 | .agg cs,hl=>by simp only [AV.low] at hl ⊢;exact yx c h cs hl
 | .tup cs,hl=>by simp only [AV.low] at hl ⊢;exact yx c h cs hl
theorem yx {n p m m':Nat} (c:n<=p) (h:m<=m'):∀l:List AV,zP n m l=true->zP p m' l=true
 | [],_=>rfl
 | a::r,hl=>by
  simp only [zP,ud] at hl ⊢;exact ⟨AV.low_up c h a hl.1,yx c h r hl.2⟩
end
theorem wk_cutm {h:AH} {env:List AV} {L:List Blk} {M:List Nat} (m:Nat) (D:zP h.blks.length (h.toks.length+m) env=true) (s:M.take m=M1):wk h env (h.ext L M) env (h.ext [] M1):=λ_ _ _ _ C g vs c v r E=>by
 subst s;refine ⟨g.cut h.blks.length (h.toks.length+m),Gh.le_cut2 c.ownlt v (by rw [c.slen];exact ue _) (by rw [c.tlen];omega),?_,VL.cut _ _ D E,λ_ h=>h⟩;have e:(h.ext L M).cut h.blks.length (h.toks.length+m)=h.ext [] (M.take m):=by
  simp [AH.cut,AH.ext,tN];rw [uO (by omega)]
 have:=r.cut h.blks.length (h.toks.length+m) (λi k hi p=>?_)
 ·simp_all
 ·have A:i < C.σ.length:=by rw [c.slen];exact hi
  simp only [AH.ext] at p;rw [uo hi] at p;have:=c.isLow p;rw [c.slen,c.tlen] at this;exact Blk.low_mono (by omega) _ this
theorem fin_own {h:AH} {n:Nat} {R:List (List AV)} (c:K (.osl (some h.toks.length) k R) (h.ext [] [n])):finK h K (.osl (some (h.toks.length+0)) k R) (h.ext B (n::T)) :=
 wa (wk_cutm 1 (by simp [zP,AV.low]) rfl) c
theorem fin_own0 {α:Type} {row:α->List AV} {L:List α} {h:AH} (c:K (.osl (some h.toks.length) k (L.map row)) (h.ext [] [L.length])):finK h K (.osl none k (L.map row)) (h.ext B T) :=
 wa ((wk_cutm (M1:=[]) 0 (by rfl) rfl).trans (wk_tok (d:=0) (m:=0) rfl rfl rfl rfl)) c
theorem wk_leB {h:AH} {env:List AV} (D:B[j]?=some (.cells cs)) (C:leL cs cs') (A:cs'.all AV.one=true) (E:B.set j (.cells cs')=B'):wk hd env (h.ext B T) env (h.ext B' T):=λ_ _ w _ H g vs _ G r I=>by
 subst E;have s:(h.ext B T).blks[h.blks.length+j]?=some (.cells cs):=by
  simp only [AH.ext];rw [un (by omega),uQ];exact D
 have:=r.reblk s (cs':=cs') (λc ⟨us,t,v,p⟩=>⟨us,t,v,VA.mk (C _ _ p.toVL) A⟩);have e:(h.ext B T).put (h.blks.length+j) (.cells cs')=h.ext (B.set j (.cells cs')) T:=by
  simp only [AH.ext,AH.put]
  simp_all
 grind
theorem yb {h:AH} {L0 L1:List Blk} {M0:List Nat} {env:List AV} (c:zP (h.blks.length+L0.length) (h.toks.length+M0.length) env=true) (r:L'.take L0.length=L1) (p:M'.take M0.length=M1)
  (v:L1.all (λb=>b.low (h.blks.length+L0.length) (h.toks.length+M0.length))=true):wk (h.ext L0 M0) env (h.ext L' M') env (h.ext L1 M1) :=
 wk_ext2 c r p λ_ k s=>.inr (by grind)
theorem ops_nextF {P:Program} {o:Oper} {env H I:List AV} {h:AH} {L:List Blk} {M:List Nat} {s:List UInt8} {c:Nat} {A C:Option ρ} {r:ρ} (O:aG ops o env=some true) (J:o.op=.next x true)
  (R:yk env x=some (.ptr (h.blks.length+j) 0)) (N:L[j]?=some (.siter s c)) (v:xO o.dst env (.tup [.bool true,.int .i64 c,.int .i32 (dec s c).1])=some H) (p:xO o.dst env (.tup [.bool false])=some I)
  (S:(if c < s.length then A else C)=some r) (D:c < s.length->A=some r->zJ P ops Q rest H (h.ext (L.set j (.siter s (c+(dec s c).2))) M)) (E:C=some r->zJ P ops Q rest I (h.ext L M)):zJ P ops Q (o::rest) env (h.ext L M) :=
 ops_next O J R N v p (λG=>D G (by simp_all)) (λG=>E (by grind))
open Classical in
noncomputable def anyN (g:Nat->Option ρ):Option ρ:=if h:∃r N,∀n,N<=n->g n=some r then some (Classical.choose h) else none
theorem anyN_is {g:Nat->Option ρ} {r:ρ} (h:anyN g=some r):∃n,g n=some r:=by
 unfold anyN at h;split at h
 ·rename_i p;injection h with h;subst h;obtain ⟨N,c⟩:=tL p;exact ⟨N,c N (ue _)⟩
 ·cases h
theorem anyN_of {g:Nat->Option ρ} {r:ρ} (N:Nat) (h:∀n,N<=n->g n=some r):anyN g=some r:=by
 have c:∃r N,∀n,N<=n->g n=some r:=⟨r,N,h⟩
 unfold anyN;rw [pE c];obtain ⟨M,p⟩:=tL c;have s:=p (max N M) (Nat.le_max_right _ _)
 grind
theorem Rel.beyond {B:Nat} {w':World} {h:AH} (r:Rel B w0 g h w) (s:RowKit.Below w.heap.size w w'):Rel B w0 g h w' :=
 ⟨r.below.trans (s.mono r.bsz),uN r.bsz s.size,λb j v e=>(s.cell (p:=⟨b,j,none⟩) (r.phi_lt e)).trans (r.phi b j v e),r.slen,
   λi c k D H=>by
     obtain ⟨I,E,N,J⟩:=r.blk i c k D H;exact ⟨I,th E s.size,N.mono (Gh.le.refl g) (s.block c E),J⟩,r.tlen,
   λi t G=>by
     obtain ⟨I,E⟩:=r.tok i t G;exact ⟨I,λb l e A=>(E b l e A).mono s.size (s.block b (E b l e A).lt) λ_ _=>rfl⟩,r.sinj,r.tinj,r.sep,λc D=>⟨(r.dfr c D).1,(s.block c (r.dfr_lt D)).trans (r.dfr c D).2.1,(r.dfr c D).2.2⟩,
   λi k hi H=>(r.row i k hi H).mono (Gh.le.refl g) ⟨λ_ _ h=>h,λb q C=>s.block b (r.nlt C)⟩ (λ_ _ h _=>h) (λi t b x G _ A=>⟨s.block b ((r.tok i t G).2 b x.1 x.2 A).lt,λ_=>rfl⟩),r.rinj,
   λb x C=>(r.nb b x C).mono (ue _) s.size λ_ A O=>⟨s.block b A,O,λh=>h⟩,λb C=>⟨th (r.ob b C).1 s.size,(r.ob b C).2⟩,r.oa⟩
end Go.Vv
namespace Go.Vv
open Go Go.RowKit Go.Lib
def apart (ops:Array Oper) (o p:Oper):Bool :=
 (match o.dst with | some d=>!(p.looksAt ops).contains d&&p.dst != some d | none=>true) &&
 (match p.dst with | some d=>!(o.looksAt ops).contains d | none=>true)
section
variable {P:Program} {l:List Oper} {Q:List AV->AH->Prop} {m i j:Nat} {listed:Array Bool} {env env':List AV} {h h':AH} {o:Oper} {v:AV}
end
section
variable {P:Program} {l:List Oper} {Q:List AV->AH->Prop} {m i:Nat} {listed:Array Bool} {env env':List AV} {h:AH} {o:Oper} {v:AV}
end
end Go.Vv
namespace Go.Vv
open Go Go.RowKit Go.Proofs Go.Shelf

def strJoin (xs:List (List UInt8)) (sep:List UInt8):Option (List UInt8):=if xs.length<=140737488355328/\(Lib.join xs sep).length<=140737488355328 then some (Lib.join xs sep) else none

theorem spec_join {P:Program} {ρ:Ren} (L:Lays.n156 P ρ) (X:Builder.Extra P ρ) {xs:List (List UInt8)} {sep res:List UInt8} {h:AH} (n:strJoin xs sep=some res) :
  Spec P (ρ.f 156) [.sl 1 (xs.map λx=>[.str x]),.str sep] h (λC hh=>C=.str res/\hh=h):=by
 unfold strJoin at n;split at n
 case isFalse=>cases n
 rename_i I;obtain ⟨F,l⟩:=I;injection n with n;subst n;have J:(Body.n156 ρ).body=some ((Body.n156 ρ).body.get rfl):=rfl;refine ⟨λvs w=>by simp [callFunc,L.f156,Body.n156],λB w0 _ g w vs r A=>?_⟩;obtain ⟨us,rfl⟩:∃us:List Value,vs=us.toArray:=⟨vs.toList,by simp⟩
 simp only [VL,V] at A;obtain ⟨K,N,z,⟨a,c,rfl,k,G,t⟩,M,s2,rfl,⟨rfl,hs⟩,rfl⟩:=A;simp only [ut] at k G;simp at z;subst z;have m:∀e w',e=Ending.returned (.string ⟨(Lib.join xs sep).toArray⟩)->Below w.heap.size w w'->∃v r h' g',e=.returned v/\(r=.str (Lib.join xs sep)/\h'=h)/\g.le g'/\Rel B w0 g' h' w'/\V g' r v:=by
  rintro e w' rfl D
  refine ⟨_,_,h,g,rfl,⟨rfl,rfl⟩,Gh.le.refl g,r.beyond D,?_⟩;simp only [V];have s:(140737488355328:Nat)<=maxLen:=by decide
  exact ⟨trivial,uN l s⟩
 rcases t with t | ⟨b,o,rfl,H⟩
 ·have:xs=[]:=by simpa using t
  subst this;refine (Any.strings_Join_none L X a c ⟨sep.toArray⟩ w).mono λe w' ⟨p,i⟩=>m e w' ?_ (i ▸ Below.refl _ _);rw [p];rfl
 ·have key:(xs.map λx=>(⟨x.toArray⟩:ByteArray)).map (·.data.toList)=xs:=by simp [sA]
  have d:∀(j:Nat) x,(xs.map λx=>(⟨x.toArray⟩:ByteArray))[j]?=some x->w.cell? ⟨b,o+j,none⟩=some (.string x):=by
   intro j x q;rw [tO] at q;rcases hx:xs[j]? with _ | y
   ·simp [hx] at q
   ·simp [hx] at q;subst q;obtain ⟨_,i⟩:=H.get j [.str y] (by rw [tO,hx];rfl);simp only [VC,V,Nat.mul_one] at i;obtain ⟨⟨v,E,_,rfl,_⟩,_⟩:=i;exact r.phi _ _ _ E
  by_cases hx:xs=[]
  ·subst hx;refine (Any.strings_Join_none L X _ c ⟨sep.toArray⟩ w).mono λe w' ⟨p,i⟩=>m e w' ?_ (i ▸ Below.refl _ _);rw [p];rfl
  ·have u:b < w.heap.size:=by
    obtain ⟨y,O,rfl⟩:=List.exists_cons_of_ne_nil hx;have:=d 0 ⟨y.toArray⟩ (by simp);exact World.block_lt_of_cell? w ⟨b,o+0,none⟩ this
   have:=Any.strings_Join L X b o c (xs.map λx=>(⟨x.toArray⟩:ByteArray)) ⟨sep.toArray⟩ w d u (by simpa using F) (by simpa using k) (by rw [key];simpa using l);rw [key] at this;simp only [ut] at this ⊢;exact this.mono λe w' ⟨p,i⟩=>m e w' (by simpa using p) i

end Go.Vv
namespace Go.Vv
open Go Go.RowKit Go.Lib Go.Shelf
theorem spec_scompare {P:Program} {ρ:Ren} (L:Go.Proofs.Lays.n106 P ρ) {a b:List UInt8} {h:AH}:Spec P (ρ.f 106) [.str a,.str b] h λd hh=>d=.int .i64 (Lib.compareBytes a b)/\hh=h:=by
 refine ⟨λvs w=>Go.Proofs.enters_of L.f106 (by kernel_rfl) rfl vs w,λB w0 _ g w vs r c=>?_⟩;obtain ⟨us,rfl⟩:∃us:List Value,vs=us.toArray:=⟨vs.toList,by simp⟩
 simp only [VL,V] at c;obtain ⟨j,l,i,⟨rfl,_⟩,k,s2,rfl,⟨rfl,_⟩,rfl⟩:=c;subst i;refine (Go.Proofs.Any.strings_Compare L _ _ w).mono ?_
 rintro e w' ⟨rfl,rfl⟩
 exact ⟨_,_,h,g,rfl,⟨rfl,rfl⟩,Gh.le.refl g,r,by simp only [V]⟩
end Go.Vv
