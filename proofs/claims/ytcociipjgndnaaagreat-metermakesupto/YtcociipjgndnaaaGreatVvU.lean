/- More rules: guards, places in slices and texts, drawn orders, folded loops. -/
import Derived.Test.YtcociipjgndnaaaGreatVvO
import Derived.Shelf.Strings.OnBuilder
import Derived.Shelf.Strings.SplitShaped
import Derived.Shelf.Small.Strs
set_option linter.all false
namespace Go.Vv
open Go
variable {b t q r:Bool} {k:IntKind} {l:List (TypeId×AV)} {f:Operand} {g:FuncId} {args:List AV}

theorem aG_gv {ops:Array Oper} {o:Oper} {env:List AV} {j d:Nat} {want b c:Bool} (hg:o.guard=some (j,want)) (hd:(ops[j]?).bind (·.dst)=some d) (he:env[d]?=some (gv b (.bool c))):aG ops o env=some (b&&(c==want)):=by
 simp only [aG,hg,hd,he];cases b <;> simp [gv,aundef]
theorem yf {env:List AV} {x:Operand} {v:AV} (a:yH env x=some (gv b v)) (c:b=true):yH env x=some v:=by subst c;rw [gv_true] at a;exact a
theorem and_l {a:Bool} (h:(a&&b)=true):a=true:=by simp_all
theorem pick_bb:(if t then AV.bool q else .bool r)=.bool (if t then q else r):=by grind
theorem pick_and (a:t=true->b=true):(if t then gv b (.bool q) else .bool false)=AV.bool (t&&q):=by cases t <;> simp [gv] ; simp [a rfl]
theorem pick_or (a:t=false->b=true):(if t then .bool true else gv b (.bool q))=AV.bool (t || q):=by cases t <;> simp [gv] ; simp [a rfl]
theorem pick_g1 (a:t=true->b=true):(if t then gv b (.bool q) else .bool r)=AV.bool (if t then q else r):=by cases t <;> simp [gv] ; simp [a rfl]
theorem pick_g2 (a:t=false->b=true):(if t then .bool r else gv b (.bool q))=AV.bool (if t then r else q):=by cases t <;> simp [gv] ; simp [a rfl]
theorem pick_g3 {c:Bool} (d:t=true->b=true) (a:t=false->c=true):(if t then gv b (.bool q) else gv c (.bool r))=AV.bool (if t then q else r):=by cases t <;> simp [gv] <;> simp [d,a]
theorem pick_ii {a b:Int}:(if t then AV.int k a else .int k b)=.int k (if t then a else b):=by grind
theorem pick_ig1 {x y:Int} (a:t=true->b=true):(if t then gv b (.int k x) else .int k y)=AV.int k (if t then x else y):=by cases t <;> simp [gv] ; simp [a rfl]
theorem pick_ig2 {x y:Int} (a:t=false->b=true):(if t then .int k y else gv b (.int k x))=AV.int k (if t then y else x):=by cases t <;> simp [gv] ; simp [a rfl]


section
variable {P:Program} {ops:Array Oper} {Q:List AV->AH->Prop} {o:Oper} {rest:List Oper} {env env':List AV} {h:AH}
variable {i:Nat} {Ns:List Nat} {F:Nat->AH->Prop}
theorem draw_nil (a:Q env h):zV P ops Ns F Q i [] env h:=a
theorem zt (e:Ns.contains i=false) {v:AV} (d:aG ops o env=some true) (c:zw P o env h=.ok v h) (hd:qe o.dst env v=some env') (a:zV P ops Ns F Q (i+1) rest env' h):zV P ops Ns F Q i (o::rest) env h :=
 ⟨v,h,.inl ⟨e,by simp only [AR,d,c,rH]⟩,.inr rfl,.inl rfl,by rw [xL hd];exact a⟩
theorem zF (j:Ns.contains i=false) {v:AV} {a:AH} (n:FOk ((Region.before ops).getD i 0) Ns F a) (m:anch ops Ns i=true) (e:aG ops o env=some true) (d:zw P o env h=.ok v a) (hd:qe o.dst env v=some env') (c:zV P ops Ns F Q (i+1) rest env' a):zV P ops Ns F Q i (o::rest) env h :=
 ⟨v,a,.inl ⟨j,by simp only [AR,e,d,rH]⟩,.inl m,.inr n,by rw [xL hd];exact c⟩
theorem wJ (e:Ns.contains i=false) {n:Nat} {v:AV} (d:aG ops o env=some true) (c:zw P o env h=.len n v h) (hd:qe o.dst env v=some env') (a:zV P ops Ns F Q (i+1) rest env' h):zV P ops Ns F Q i (o::rest) env h :=
 ⟨v,h,.inl ⟨e,by simp only [AR,d,c,rH]⟩,.inr rfl,.inl rfl,by rw [xL hd];exact a⟩
theorem xH (j:Ns.contains i=false) {f:FuncId} {args:List AV} {v:AV} (e:aG ops o env=some true) (d:zw P o env h=.call f args) (hs:Spec P f args h λr c=>r=v/\c=h) (hd:qe o.dst env v=some env') (a:zV P ops Ns F Q (i+1) rest env' h) :
  zV P ops Ns F Q i (o::rest) env h:=⟨v,h,.inl ⟨j,by simp only [AR,e,d];exact hs⟩,.inr rfl,.inl rfl,by rw [xL hd];exact a⟩
theorem zS (j:Ns.contains i=true) {f:FuncId} {args:List AV} {v:AV} (e:aG ops o env=some true) (d:∀a,zw P o env a=.call f args) (hs:∀a,F i a->Spec P f args a λr hh=>r=v/\hh=a) (hd:qe o.dst env v=some env') (c:zV P ops Ns F Q (i+1) rest env' h) :
  zV P ops Ns F Q i (o::rest) env h:=⟨v,h,.inr (.inl ⟨j,e,rfl,.inl ⟨f,args,d,hs⟩⟩),.inr rfl,.inl rfl,by rw [xL hd];exact c⟩
theorem xh (j:Ns.contains i=true) {v:AV} (e:aG ops o env=some true) (d:∀a,F i a->zw P o env a=.ok v a) (hd:qe o.dst env v=some env') (c:zV P ops Ns F Q (i+1) rest env' h) :
  zV P ops Ns F Q i (o::rest) env h:=⟨v,h,.inr (.inl ⟨j,e,rfl,.inr d⟩),.inr rfl,.inl rfl,by rw [xL hd];exact c⟩
theorem wl (d:Ns.contains i=false) {b:Bool} {v:AV} (c:aG ops o env=some b) (e:b=true->zw P o env h=.ok v h) (hd:qe o.dst env (gv b v)=some env') (a:zV P ops Ns F Q (i+1) rest env' h):zV P ops Ns F Q i (o::rest) env h:=by
 cases b with
 | true=>rw [gv_true] at hd;exact zt d c (e rfl) hd a
 | false=>exact ⟨aundef,h,.inl ⟨d,by simp [AR,c]⟩,.inr rfl,.inl rfl,by rw [gv_false] at hd;rw [xL hd];exact a⟩
theorem draw_glen (d:Ns.contains i=false) {b:Bool} {n:Nat} {v:AV} (c:aG ops o env=some b) (e:b=true->zw P o env h=.len n v h) (hd:qe o.dst env (gv b v)=some env') (a:zV P ops Ns F Q (i+1) rest env' h):zV P ops Ns F Q i (o::rest) env h:=by
 cases b with
 | true=>rw [gv_true] at hd;exact wJ d c (e rfl) hd a
 | false=>exact ⟨aundef,h,.inl ⟨d,by simp [AR,c]⟩,.inr rfl,.inl rfl,by rw [gv_false] at hd;rw [xL hd];exact a⟩
theorem yZ (d:Ns.contains i=false) {b:Bool} {f:FuncId} {args:List AV} {v:AV} (c:aG ops o env=some b) (j:b=true->zw P o env h=.call f args) (hs:b=true->Spec P f args h λr e=>r=v/\e=h)
  (hd:qe o.dst env (gv b v)=some env') (a:zV P ops Ns F Q (i+1) rest env' h):zV P ops Ns F Q i (o::rest) env h:=by
 cases b with
 | true=>rw [gv_true] at hd;exact xH d c (j rfl) (hs rfl) hd a
 | false=>exact ⟨aundef,h,.inl ⟨d,by simp [AR,c]⟩,.inr rfl,.inl rfl,by rw [gv_false] at hd;rw [xL hd];exact a⟩
variable {i0:Nat}
end

inductive Fx (P:Program):List (TypeId×AV)->List AV->Prop
 | nil:Fx P [] []
 | cons {t:TypeId} {v v':AV} {r:List (TypeId×AV)} {s:List AV}:tyfix P t v=v'->Fx P r s->Fx P ((t,v)::r) (v'::s)
theorem Fx.eq {P:Program} {s:List AV} (h:Fx P l s):fixL P l=s:=by
 induction h with
 | nil=>rfl
 | cons h _ ih=>simp only [fixL,h,ih]
theorem yn {P:Program} {o:Oper} {env:List AV} {h:AH} {c:Call} (d:o.op=.call c) (m:c.callee=.value f) (a:yH env f=some (.fn (.func g) [] []))
  (e:argo env c.args.toList c.argTypes.toList=some l) (j:Fx P l args):zw P o env h=.call g args :=
 s_call d m a e (by simp [j.eq])
theorem s_callC {P:Program} {o:Oper} {env:List AV} {h:AH} {c:Call} {first caps all:List AV} (e:o.op=.call c) (n:c.callee=.value f) (d:yH env f=some (.fn (.func g) first caps))
  (j:argo env c.args.toList c.argTypes.toList=some l) (m:Fx P l args) (a:first++args++caps=all):zw P o env h=.call g all :=
 s_call e n d j (by rw [m.eq,a])
theorem r_loopU {P:Program} {Q:Exit->List AV->AH->Prop} {env:List AV} {h:AH} {body:Code} {σ:Type} (U:σ->List (Nat×AV)) (a:σ->Prop) (d:σ->Nat) (e:σ) {E:σ->List AV} (m:∀s,xU env (U s)=E s) (h0:leL env (E e)) (hi:a e)
  (hs:∀s,a s->vV P body (loopQ (λenv' j=>∃c,a c/\d c < d s/\wk h env' j (E c) h) Q) (E s) h):vV P (.loop body) Q env h :=
 r_loop E (λ_=>h) a d e (wk.le h0) hi hs
end Go.Vv
namespace Go.Vv
open Go
variable {j k off n:Nat} {b:Bool} {cs cs' ds z:List AV} {t e:TypeId} {x:Operand} {d:TypeDesc} {v':AV} {fn:Func} {f:FuncId} {l l':List (Nat×AV)} {ks:List Kd}

def AH.ext (h:AH) (L:List Blk) (M:List Nat):AH:={ blks:=h.blks++L,toks:=h.toks++M }
theorem ext_nil (h:AH):h.ext [] []=h:=by simp [AH.ext]
theorem yC {h:AH} {L:List Blk} {M:List Nat}:(h.ext L M).blk (h.blks.length+j)=L[j]?:=by
 simp only [AH.blk,AH.ext]
 grind
theorem ext_new {h:AH} {L:List Blk} {M:List Nat} {b:Blk}:(h.ext L M).new b=h.ext (L++[b]) M:=by simp [AH.ext,AH.new,uy]
theorem ext_put {h:AH} {L:List Blk} {M:List Nat} {b:Blk}:(h.ext L M).put (h.blks.length+j) b=h.ext (L.set j b) M:=by
 simp only [AH.ext,AH.put]
 simp_all
theorem ext_cut {h:AH} {L:List Blk} {M:List Nat}:(h.ext L M).cut h.blks.length h.toks.length=h:=by
 simp [AH.cut,AH.ext]
def ldC (ag:Bool) (k off:Nat) (cs:List AV):Option AV:=if ag then (if off+k<=cs.length then some (.agg ((cs.drop off).take k)) else none) else cs[off]?
theorem yx {v:AV} (h:cs[off]?=some v):ldC false k off cs=some v:=h
theorem ldC_ag (h:Nat.ble (off+k) cs.length=true) (a:(cs.drop off).take k=cs'):ldC true k off cs=some (.agg cs'):=by
 simp only [ldC,up,ur (sZ h),a]

section
variable {P:Program} {o:Oper} {env:List AV} {h:AH} {L:List Blk} {M:List Nat}
theorem e_alloc (c:o.op=.alloc t) (g:xI P t=some cs) (a:L.length=n):zw P o env (h.ext L M)=.ok (.ptr (h.blks.length+n) 0) (h.ext (L++[.cells cs]) M):=by
 rw [s_alloc c g,ext_new,<- a];simp [AH.ext]
theorem e_box {a a':AV} (g:o.op=.box t x) (m:yH env x=some a) (c:tyfix P t a=a') (i:a'.cells?=some cs) (p:L.length=n) :
  zw P o env (h.ext L M)=.ok (.ptr (h.blks.length+n) 0) (h.ext (L++[.cells cs]) M):=by
 rw [s_box g m c i,ext_new,<- p];simp [AH.ext]
theorem xW {v:AV} (c:o.op=.load t x) (m:Ty P t d k) (p:yH env x=some (.ptr (h.blks.length+j) off)) (g:L[j]?=some (.cells cs))
  (i:ldC (yk d) k off cs=some v) (a:tyfix P t v=v'):zw P o env (h.ext L M)=.ok v' (h.ext L M):=by
 refine s_load c m p ?_ a;simp only [aLoad,yC,g];exact i
theorem f_load {v:AV} (c:o.op=.load t x) (i:Ty P t d k) (m:yH env x=some (.fptr cs))
  (g:ldC (yk d) k 0 cs=some v) (a:tyfix P t v=v'):zw P o env h=.ok v' h:=by
 refine s_load c i m ?_ a;simp only [aLoad];simpa only [ldC,uT,su] using g
theorem yd {y:Operand} {vs:List AV} {b a:AV} (g:o.op=.store t x y) (q:Ty P t d k) (u:yH env x=some (.ptr (h.blks.length+j) off)) (p:yH env y=some b)
  (c:tyfix P t b=a) (s:a.cells?=some vs) (m:vs.length=k) (i:L[j]?=some (.cells cs)) (r:Nat.ble (off+k) cs.length=true) (hs:xc cs off vs=cs'):zw P o env (h.ext L M)=.ok aundef (h.ext (L.set j (.cells cs')) M):=by
 refine s_store g q u p c ?_;simp only [aStore,s,yC,i];rw [ur ⟨m,sZ r⟩,ext_put,hs]
end
theorem wk_ext2 {h:AH} {L0 L1 L':List Blk} {M0 M1 M':List Nat} {env:List AV} (q:zA (h.blks.length+L0.length) (h.toks.length+M0.length) env=true) (u:L'.take L0.length=L1) (r:M'.take M0.length=M1)
  (s:∀(i:Nat) (k:Blk),L1[i]?=some k->L0[i]?=some k \/ k.low (h.blks.length+L0.length) (h.toks.length+M0.length)=true) :
  wk (h.ext L0 M0) env (h.ext L' M') env (h.ext L1 M1):=by
 have c:(h.ext L0 M0).blks.length=h.blks.length+L0.length:=by simp [AH.ext]
 have g:(h.ext L0 M0).toks.length=h.toks.length+M0.length:=by simp [AH.ext]
 have:=wk.cut (hd:=h.ext L0 M0) (env:=env) (h:=h.ext L' M') (by rw [c,g];exact q) (λi k hi a=>by
  rw [c] at hi;rw [c,g];simp only [AH.ext] at a ⊢;rcases tZ i h.blks.length with m | m
  ·rw [um m] at a ⊢;exact .inl a
  ·rw [uk m] at a ⊢;exact s (i - h.blks.length) k (by grind))
 have p:(h.ext L' M').cut (h.ext L0 M0).blks.length (h.ext L0 M0).toks.length=h.ext L1 M1:=by
  rw [c,g];simp only [AH.cut,AH.ext,tM,uK,u,r];rw [uG (l:=h.blks) (by omega),uG (l:=h.toks) (by omega)]
 rw [p] at this;exact this
theorem e_range {P:Program} {o:Oper} {env:List AV} {h:AH} {L:List Blk} {M:List Nat} {s:List UInt8} (a:o.op=.range t x) (i:Ty P t .string k) (m:yH env x=some (.str s)) (p:L.length=n) :
  zw P o env (h.ext L M)=.ok (.ptr (h.blks.length+n) 0) (h.ext (L++[.siter s 0]) M):=by
 obtain ⟨g,c⟩:=zO m;simp only [zw,a,g,up,i.u,c,ext_new,<- p];simp [AH.ext]
theorem ops_next {P:Program} {c:Array Oper} {Q:List AV->AH->Prop} {o:Oper} {rest:List Oper} {env:List AV} {y:List AV} {v:List AV} {h:AH} {L:List Blk} {M:List Nat} {s:List UInt8} {a:Nat} (r:aG c o env=some true) (w:o.op=.next x true)
  (B:yH env x=some (.ptr (h.blks.length+j) 0)) (A:L[j]?=some (.siter s a)) (p:qe o.dst env (.tup [.bool true,.int .i64 a,.int .i32 (dec s a).1])=some y) (g:qe o.dst env (.tup [.bool false])=some v)
  (m:a < s.length->zG P c Q rest y (h.ext (L.set j (.siter s (a+(dec s a).2))) M)) (i:s.length<=a->zG P c Q rest v (h.ext L M)):zG P c Q (o::rest) env (h.ext L M):=by
 obtain ⟨u,q⟩:=zO B;by_cases hp:a < s.length
 ·refine zc r ?_ p (m hp);simp only [zw,w,u,uW,up,q,aNext,yC,A,hp,ext_put]
 ·refine zc r ?_ g (i (by omega));simp only [zw,w,u,uW,up,q,aNext,yC,A,hp,uz]
section
variable {P:Program} {env:List AV} {h:AH} {rs:List ResultVar} {vs:List AV}
theorem rl_nil:aResL P env h []=some []:=rfl
theorem rl_tmp {t:Nat} {v:AV} (c:yH env (.tmp t)=some v) (k:aResL P env h rs=some vs):aResL P env h (.tmp t::rs)=some (v::vs):=by
 have a:env.getD t aundef=v:=by rw [u9,show env[t]?=some v from c];rfl
 simp only [aResL,k,a]
theorem rl_cell {a t:Nat} {L:List Blk} {M:List Nat} {v:AV} (g:Ty P t d k) (m:yH env (.tmp a)=some (.ptr (h.blks.length+j) 0)) (p:L[j]?=some (.cells cs)) (q:ldC (yk d) k 0 cs=some v) (y:tyfix P t v=v')
  (r:aResL P env (h.ext L M) rs=some vs):aResL P env (h.ext L M) (.cell a t::rs)=some (v'::vs):=by
 have c:env.getD a aundef=.ptr (h.blks.length+j) 0:=by rw [u9,show env[a]?=some _ from m];rfl
 obtain ⟨i,w,s⟩:=g.i;simp only [aResL,g.u,w,s,c,aLoad,yC,p,r];have e:(if yk d then if 0+k<=cs.length then some (AV.agg ((cs.drop 0).take k)) else none else cs[0]?)=some v:=q
 simp_all
theorem q_retL1 {K:AV->AH->Prop} {h0:AH} {v:AV} (g:fn.results=⟨rs⟩) (c:aResL P env h rs=some [v]) (a:finK h0 K v h):bodyQ P fn h0 K .ret env h:=by
 simp only [bodyQ,aRes,g,c];exact a
end
theorem wz {h:AH} {L:List Blk} {M:List Nat} {K:AV->AH->Prop} {v:AV} (c:leV v v') (g:v'.low h.blks.length h.toks.length=true) (a:K v' h):finK h K v (h.ext L M):=by
 refine fin_cut c g (λi k hi a=>.inl ?_) (by rw [ext_cut];exact a);simp only [AH.ext] at a
 grind
theorem zb {P : Program} {c : Code} (hf : P.funcs[f]? = some fn) (hb : fn.body = some c) (hname : (fn.name == "runtime.NumGoroutine") = false) {args : List AV} {h : AH} {K : AV → AH → Prop} {env : List AV}
  (he:args++List.replicate (fn.ntmps - args.length) aundef=env) (hw:vV P c (bodyQ P fn h K) env (h.ext [] [])):Spec P f args h K:=by
 rw [ext_nil] at hw;exact spec_of_body hf hb hname (by simp_all)
theorem yq (hd:yk d=true) {k off:Nat} {cs cs':List AV} (h:Nat.ble (off+k) cs.length=true) (a:(cs.drop off).take k=cs'):ldC (yk d) k off cs=some (.agg cs'):=by
 rw [hd];exact ldC_ag h a
theorem qq {P:Program} (a:P.underlying t=some d) (hi:(P.info? t).map (λi=>i.size)=some k):Ty P t d k:=by
 refine ⟨a,?_⟩
 simp_all
theorem wT {P:Program} {u:TypeId} {f:Nat} (a:fieldOff P t f=some (off,u)) (hi:(P.info? u).map (λi=>i.size)=some k):Fo P t f off u k:=by
 refine ⟨a,?_⟩
 simp_all
theorem mkEl {P:Program} (a:P.underlying t=some (.slice e)) (hi:(P.info? e).map (λi=>(i.size,decide (i.bytes<=65536)&&decide (0 < k)&&(i.zero.map (·.cells.size))==some k))=some (k,true)):El P t e k:=by
 refine ⟨a,?_⟩;cases h:P.info? e with
 | none=>rw [h] at hi;cases hi
 | some i =>
  simp_all
theorem w64 {n:Int} (h:-9223372036854775808<=n/\n<=9223372036854775807):IntKind.i64.wrap n=n:=by rw [IntKind.wrap_i64];omega
theorem yN {n m:Int} (e:n=m) (h:-9223372036854775808<=n/\n<=9223372036854775807):AV.int .i64 (IntKind.i64.wrap n)=.int .i64 m:=by rw [w64 h,e]
theorem zI {env:List AV}:argo env [] []=some []:=rfl
theorem zf {env:List AV} {r:List Operand} {ts:List TypeId} {v:AV} {l:List (TypeId×AV)} (h:yH env x=some v) (k:argo env r ts=some l):argo env (x::r) (t::ts)=some ((t,v)::l):=by
 simp only [argo,h,k]
theorem zX (h:n<=maxLen):n<=9223372036854775807:=h
theorem Spec.le {P:Program} {a5 bs:List AV} {h:AH} {K:AV->AH->Prop} (s:Spec P f bs h K) (k:leL a5 bs):Spec P f a5 h K :=
 ⟨s.1,λB w0 _ g w vs r a=>s.2 B w0 g w vs r (k _ _ a)⟩
abbrev plainK2:=wj
structure PK (P:Program) (t:TypeId) (ks:List Kd):Prop where
 g:P.eqGuardType P.depth t=false
 a:(P.underlying t).any yk=true
 k:wj P 6 t=some ks
theorem mkPK {P:Program} (a:P.eqGuardType P.depth t=false) (c:(P.underlying t).any yk=true) (g:plainK2 P 6 t=some ks):PK P t ks:=⟨a,c,g⟩
theorem bin_eq {P:Program} (c:PK P t ks) (h:aEqL ks cs ds=some b):yR P .eql t (.agg cs) (.agg ds)=some (.bool b):=by
 simp only [yR,aEq,c.g,c.a,c.k,rY,rH,up,h,uV]
theorem bin_ne {P:Program} (c:PK P t ks) (h:aEqL ks cs ds=some b):yR P .neq t (.agg cs) (.agg ds)=some (.bool !b):=by
 simp only [yR,aEq,c.g,c.a,c.k,rY,rH,up,h,uV]
structure PKA (P:Program) (t:TypeId) (ks:List Kd):Prop where
 g:P.eqGuardType P.depth t=false
 a:(P.underlying t).any yk=true
 k:(wj P 6 t).or (arrKs P t)=some ks
theorem bin_neA {P:Program} (c:PKA P t ks) (h:aEqL ks cs ds=some b):yR P .neq t (.agg cs) (.agg ds)=some (.bool !b):=by
 simp only [yR,aEq,c.g,c.a,c.k,rH,up,h,uV]
def parto (env:List AV):List (Nat×Operand)->Option (List (Nat×AV))
 | []=>some []
 | (i,x)::r=>match yH env x,parto env r with
  | some v,some vs=>some ((i,v)::vs)
  | _,_=>none
theorem zj {env:List AV}:parto env []=some []:=rfl
theorem zg {env:List AV} {i:Nat} {r:List (Nat×Operand)} {v:AV} (h:yH env x=some v) (k:parto env r=some l):parto env ((i,x)::r)=some ((i,v)::l):=by simp only [parto,h,k]
inductive Fp (P:Program) (d:TypeDesc):List (Nat×AV)->List (Nat×AV)->Prop
 | nil:Fp P d [] []
 | cons {i:Nat} {v v':AV} {r s:List (Nat×AV)}:tyfix P (partTy d i) v=v'->Fp P d r s->Fp P d ((i,v)::r) ((i,v')::s)
theorem parts_ok {P:Program} {d:TypeDesc} {env:List AV}:∀{parts:List (Nat×Operand)} {l l':List (Nat×AV)},parto env parts=some l->Fp P d l l' ->
  parts.all (λp=>yA p.2)=true/\parts.map (λp=>(p.1,tyfix P (partTy d p.1) (ev env p.2)))=l'
 | [],l,l',h,hf=>by simp only [parto,uj] at h;subst h;cases hf;exact ⟨rfl,rfl⟩
 | (i,x)::r,l,l',h,hf=>by
  simp only [parto] at h;split at h
  ·rename_i v vs c a;cases h;cases hf with
   | cons h1 h2 =>
    obtain ⟨s,m⟩:=parts_ok a h2;obtain ⟨q,g⟩:=zO c
    grind
  ·cases h
theorem ya {P:Program} {o:Oper} {env:List AV} {h:AH} {parts:List (Nat×Operand)} {fs:Array Field} {pl:List (Nat×Nat)} (r:o.op=.build t ⟨parts⟩) (u:P.underlying t=some (.struct fs)) (g:xI P t=some z)
  (m:vh P fs=some pl) (s:parto env parts=some l) (q:Fp P (.struct fs) l l') (w:qh (λi=>pl[i]?) z l'=some cs) (v:cs=cs'):zw P o env h=.ok (.agg cs') h:=by
 obtain ⟨y,c⟩:=parts_ok s q;have a:(⟨parts⟩:Array (Nat×Operand)).all (λp=>yA p.2)=true:=by grind
 simp only [zw,r,a,up,u,g,m,xG,c,w,uV,oo,v]
theorem s_buildArr {P:Program} {o:Oper} {env:List AV} {h:AH} {parts:List (Nat×Operand)} (r:o.op=.build t ⟨parts⟩) (u:P.underlying t=some (.array n e)) (m:xI P t=some z)
  (y:Ty P e d k) (s:parto env parts=some l) (q:Fp P (.array n e) l l') (A:qh (λi=>some (i * k,k)) z l'=some cs) (w:cs=cs'):zw P o env h=.ok (.agg cs') h:=by
 obtain ⟨B,c⟩:=parts_ok s q;obtain ⟨j,v,g⟩:=y.i;have a:(⟨parts⟩:Array (Nat×Operand)).all (λp=>yA p.2)=true:=by grind
 simp only [zw,r,a,up,u,m,v,g,xG,c,A,uV,oo,w]
theorem zr {P:Program} {o:Oper} {env:List AV} {h:AH} {parts:List (Nat×Operand)} {es:List (List AV)} (y:o.op=.buildSlice t n ⟨parts⟩) (g:El P t e k) (v:xI P e=some z)
  (q:Nat.ble (n * k) 65536=true) (a:z.length=k) (A:parto env parts=some l) (w:Fp P (.slice e) l l') (D:qh (λi=>some (i * k,k)) ((List.replicate n z).flatten) l'=some cs) (E:wa cs=some cs') (B:rows k n cs'=es) :
  zw P o env h=.ok (.osl none k es) h:=by
 obtain ⟨F,m⟩:=parts_ok A w;obtain ⟨j,C,r,_,s,_⟩:=g.i;have c:(⟨parts⟩:Array (Nat×Operand)).all (λp=>yA p.2)=true:=by grind
 simp only [zw,y,c,up,g.u,v,C,r,xG,m,D,E,B,s,sZ q,a,rH]
end Go.Vv
namespace Go.Vv
open Go
variable {i:Nat} {c:Operand} {body:Code} {N:List AV->AH->Prop}

abbrev zx:=List UInt8
def InK (k:IntKind) (n:Int):Prop:=k.min<=n/\n<=k.max
inductive Out (ρ σ:Type) where
 | ret (r:ρ)
 | brk (s:σ)
 | nxt (s:σ)
section
variable {α ρ σ:Type}
def zq (f:Nat->α->σ->Option (Out ρ σ)):List α->Nat->σ->Option (ρ ⊕ σ)
 | [],_,s=>some (.inr s)
 | x::t,i,s=>match f i x s with
  | none=>none
  | some (.ret r)=>some (.inl r)
  | some (.brk s')=>some (.inr s')
  | some (.nxt s')=>zq f t (i+1) s'
def qs (f:σ->Option (Out ρ σ)):Nat->σ->Option (ρ ⊕ σ)
 | 0,_=>none
 | n+1,s=>match f s with
  | none=>none
  | some (.ret r)=>some (.inl r)
  | some (.brk s')=>some (.inr s')
  | some (.nxt s')=>qs f n s'
theorem loopN_more {f:σ->Option (Out ρ σ)}:∀{n m:Nat} {s:σ} {o:ρ ⊕ σ},qs f n s=some o->n<=m->qs f m s=some o
 | 0,_,_,_,h,_=>by simp [qs] at h
 | n+1,0,_,_,_,hl=>by omega
 | n+1,m+1,s,o,h,hl=>by
  simp only [qs] at h ⊢;rcases hf:f s with _ | (r | a | a) <;> rw [hf] at h <;> simp only at h ⊢
  ·cases h
  ·exact h
  ·exact h
  ·exact loopN_more h (by omega)
open Classical in
noncomputable def ye (f:σ->Option (Out ρ σ)) (s:σ):Option (ρ ⊕ σ) :=
 if h:∃n o,qs f n s=some o then some (Classical.choose (tV h)) else none
theorem loopW_of {f:σ->Option (Out ρ σ)} {n:Nat} {s:σ} {o:ρ ⊕ σ} (h:qs f n s=some o):ye f s=some o:=by
 have a:∃n o,qs f n s=some o:=⟨n,o,h⟩
 unfold ye;rw [pJ a];have b:=tV (tV a);have d:=loopN_more b (Nat.le_max_left _ n);have e:=loopN_more h (Nat.le_max_right (Classical.choose a) n)
 grind
theorem loopW_is {f:σ->Option (Out ρ σ)} {s:σ} {o:ρ ⊕ σ} (h:ye f s=some o):∃n,qs f n s=some o:=by
 unfold ye at h;split at h
 ·grind
 ·cases h
theorem xA (f:σ->Option (Out ρ σ)) (s:σ):ye f s=match f s with
  | none=>none
  | some (.ret r)=>some (.inl r)
  | some (.brk b)=>some (.inr b)
  | some (.nxt b)=>ye f b:=by
 rcases hf:f s with _ | (r | b | b) <;> simp only
 ·cases hx:ye f s with
  | none=>rfl
  | some o =>
   obtain ⟨n,a⟩:=loopW_is hx;cases n <;> simp [qs,hf] at a
 ·exact loopW_of (n:=1) (by simp only [qs,hf])
 ·exact loopW_of (n:=1) (by simp only [qs,hf])
 ·cases hx:ye f b with
  | some o =>
   obtain ⟨n,a⟩:=loopW_is hx;exact loopW_of (n:=n+1) (by simp only [qs,hf];exact a)
  | none =>
   cases hy:ye f s with
   | none=>rfl
   | some o =>
    obtain ⟨n,a⟩:=loopW_is hy;cases n with
    | zero=>simp [qs] at a
    | succ n =>
     simp only [qs,hf] at a;rw [loopW_of a] at hx;cases hx
def lp (o:Option (ρ ⊕ σ)) (rest:σ->Option ρ):Option ρ :=
 match o with
 | none=>none
 | some (.inl r)=>some r
 | some (.inr s)=>rest s
def yg (p:Prop) [Decidable p] (o:Option ρ):Option ρ:=if p then o else none
def yw (L:List α) (n:Int):Option α:=if 0<=n then L[n.toNat]? else none
def slc (L:List α) (lo hi:Int):Option (List α):=if 0<=lo/\lo<=hi/\hi<=L.length then some ((L.take hi.toNat).drop lo.toNat) else none

theorem zd {α ρ:Type} {o:Option α} {k:α->Option ρ} {r:ρ} {G:Prop} (a:o.bind k=some r) (b:∀v,o=some v->k v=some r->G):G:=by
 cases o with
 | none=>cases a
 | some v=>exact b v rfl a
theorem zY {α ρ:Type} {b:Bool} {d:α} {o:Option α} {k:α->Option ρ} {r:ρ} {G:Prop} (a:(if b=true then o else some d).bind k=some r) (e:∀v,(b=true->o=some v)->k v=some r->G):G:=by
 cases b with
 | false=>exact e d (λh=>by cases h) a
 | true =>
  cases o with
  | none=>cases a
  | some v=>exact e v (λ_=>rfl) a
theorem zW {p:Prop} [Decidable p] {o:Option ρ} {r:ρ} {G:Prop} (a:yg p o=some r) (b:p->o=some r->G):G:=by
 unfold yg at a
 simp_all
theorem idxF {L:List α} {n:Int} {y:α} (h:yw L n=some y):0<=n/\L[n.toNat]?=some y:=by
 unfold yw at h
 simp_all
theorem slcF {L M:List α} {lo hi:Int} (h:slc L lo hi=some M):(0<=lo/\lo<=hi/\hi<=L.length)/\M=(L.take hi.toNat).drop lo.toNat:=by
 unfold slc at h
 simp_all

def konL (f:Nat->α->σ->Option (Out ρ σ)) (L:List α) (i:Nat) (rest:σ->Option ρ):Out ρ σ->Option ρ
 | .ret r=>some r
 | .brk s=>rest s
 | .nxt s=>lp (zq f (L.drop (i+1)) (i+1) s) rest
def konN (f:σ->Option (Out ρ σ)) (n:Nat) (rest:σ->Option ρ):Out ρ σ->Option ρ
 | .ret r=>some r
 | .brk s=>rest s
 | .nxt s=>lp (qs f n s) rest
def konJ (rest:σ->Option ρ):ρ ⊕ σ->Option ρ
 | .inl r=>some r
 | .inr s=>rest s
theorem loopL_step {f:Nat->α->σ->Option (Out ρ σ)} {L:List α} {s:σ} {rest:σ->Option ρ} {d:ρ} (h:lp (zq f (L.drop i) i s) rest=some d) (b:i < L.length) :
  ∃x g,L[i]?=some x/\f i x s=some g/\konL f L i rest g=some d:=by
 have e:=(sX b).symm;rw [e] at h;refine ⟨L[i],?_⟩;simp only [zq] at h;split at h
 ·cases h
 ·rename_i r a;exact ⟨.ret r,ui b,a,h⟩
 ·rename_i r a;exact ⟨.brk r,ui b,a,h⟩
 ·rename_i r a;exact ⟨.nxt r,ui b,a,h⟩
theorem loopL_end {f:Nat->α->σ->Option (Out ρ σ)} {L:List α} {s:σ} {rest:σ->Option ρ} {a:ρ} (h:lp (zq f (L.drop i) i s) rest=some a) (b:¬ i < L.length):rest s=some a:=by
 rw [tq (by omega)] at h;exact h
theorem lpF {o:Option (ρ ⊕ σ)} {rest:σ->Option ρ} {b:ρ} (h:lp o rest=some b):∃a,o=some a/\konJ rest a=some b:=by
 cases o with
 | none=>cases h
 | some a=>cases a <;> exact ⟨_,rfl,h⟩
end
section
variable {P:Program} {Q:Exit->List AV->AH->Prop} {env:List AV} {h:AH} {α ρ σ:Type}
theorem ze {t e:Code} {b:Bool} {A B:Option ρ} {r:ρ} (g:yH env c=some (.bool b)) (j:(if b=true then A else B)=some r) (f:b=true->A=some r->vV P t Q env h) (d:b=false->B=some r->vV P e Q env h) :
  vV P (.cond c t e) Q env h:=by
 refine r_cond g (λa=>f a ?_) (λa=>d a ?_)
 ·simp_all
 ·simp_all
theorem zC {f:Nat->α->σ->Option (Out ρ σ)} {L:List α} {s:σ} {rest:σ->Option ρ} {a:ρ} {t e:Code} (l:yH env c=some (.bool (decide ((i:Int) < (L.length:Int))))) (j:lp (zq f (L.drop i) i s) rest=some a)
  (o:∀x g,i < L.length->L[i]?=some x->f i x s=some g->konL f L i rest g=some a->vV P t Q env h) (k:rest s=some a->vV P e Q env h):vV P (.cond c t e) Q env h:=by
 refine r_cond l (λd=>?_) (λd=>?_)
 ·have b:i < L.length:=by have:=u6 d;omega
  obtain ⟨x,g,n,m,p⟩:=loopL_step j b
  simp_all
 ·have b:¬ i < L.length:=by have:=rZ d;omega
  exact k (loopL_end j b)
theorem zz {f:Nat->α->σ->Option (Out ρ σ)} {L:List α} {j:σ} {rest:σ->Option ρ} {g:ρ} (U:Nat->σ->List (Nat×AV)) (H:σ->AH) (k:lp (zq f L 0 j) rest=some g) {E:Nat->σ->List AV}
  (o:∀i s,xU env (U i s)=E i s) (h0:wk h env h (E 0 j) (H j))
  (hs:∀i s,i<=L.length->lp (zq f (L.drop i) i s) rest=some g->vV P body (loopQ (λa d=>∃b,i < L.length/\lp (zq f (L.drop (i+1)) (i+1) b) rest=some g/\wk (H s) a d (E (i+1) b) (H b)) Q) (E i s) (H s)) :
  vV P (.loop body) Q env h:=by
 refine r_loop (σ:=Nat×σ) (λp=>E p.1 p.2) (λp=>H p.2) (λp=>p.1<=L.length/\lp (zq f (L.drop p.1) p.1 p.2) rest=some g) (λp=>L.length - p.1) (0,j) h0 ⟨tu _,k⟩ ?_
 rintro ⟨i,s⟩ ⟨hi,k⟩
 have:=hs i s hi k;have e:(loopQ (λa d=>∃b,i < L.length/\lp (zq f (L.drop (i+1)) (i+1) b) rest=some g/\wk (H s) a d (E (i+1) b) (H b)) Q) =
  λx a d=>match x with | .normal=>∃b,i < L.length/\lp (zq f (L.drop (i+1)) (i+1) b) rest=some g/\wk (H s) a d (E (i+1) b) (H b) | x=>Q x a d:=rfl
 refine awp_mono ?_ _ _ _ this;intro x a d l;cases x with
 | normal =>
  obtain ⟨b,n,m,q⟩:=l;exact ⟨(i+1,b),⟨n,m⟩,by omega,q⟩
 | _=>exact l
theorem yF {f:σ->Option (Out ρ σ)} {k:σ} {rest:σ->Option ρ} {e:ρ} (U:σ->List (Nat×AV)) (H:σ->AH) (a:lp (ye f k) rest=some e) {E:σ->List AV}
  (v:∀s,xU env (U s)=E s) (h0:wk h env h (E k) (H k))
  (hs:∀n s d,f s=some d->konN f n rest d=some e->vV P body (loopQ (λb q=>∃g,lp (qs f n g) rest=some e/\wk (H s) b q (E g) (H g)) Q) (E s) (H s)) :
  vV P (.loop body) Q env h:=by
 obtain ⟨u,o⟩:∃n,lp (qs f n k) rest=some e:=by
  obtain ⟨d,j,m⟩:=lpF a;obtain ⟨n,w⟩:=loopW_is j
  grind
 refine r_loop (σ:=Nat×σ) (λp=>E p.2) (λp=>H p.2) (λp=>lp (qs f p.1 p.2) rest=some e) (λp=>p.1) (u,k) h0 o ?_
 rintro ⟨n,s⟩ a
 cases n with
 | zero=>simp [qs,lp] at a
 | succ n =>
  obtain ⟨d,j,m⟩:∃d,f s=some d/\konN f n rest d=some e:=by
   simp only [qs] at a;split at a
   ·cases a
   ·rename_i r l;exact ⟨.ret r,l,a⟩
   ·rename_i r l;exact ⟨.brk r,l,a⟩
   ·rename_i r l;exact ⟨.nxt r,l,a⟩
  refine awp_mono ?_ _ _ _ (hs n s d j m);intro x b q t;cases x with
  | normal =>
   obtain ⟨g,j,m⟩:=t;exact ⟨(n,g),j,by omega,m⟩
  | _=>exact t
def joinQ (h0:AH) (N:List AV->AH->Prop) (Q:Exit->List AV->AH->Prop):Exit->List AV->AH->Prop:=λx env' h'=>match x with
 | .normal=>N env' h'
 | x=>Q x env' h'
theorem r_join {a b:Code} {J:Option (ρ ⊕ σ)} {rest:σ->Option ρ} {e:ρ} (U:σ->List (Nat×AV)) (H:σ->AH) (r:lp J rest=some e) {E:σ->List AV} (l:∀s,xU env (U s)=E s)
  (k:∀f,J=some f->konJ rest f=some e->vV P a (joinQ h (λd g=>∃s,rest s=some e/\wk h d g (E s) (H s)) Q) env h)
  (q:∀s,rest s=some e->vV P b Q (E s) (H s)):vV P (.seq a b) Q env h:=by
 obtain ⟨f,o,m⟩:=lpF r;refine r_seq (awp_mono ?_ _ _ _ (k f o m));intro x d g j;cases x with
 | normal =>
  obtain ⟨s,p,n⟩:=j;exact ⟨_,_,n,q s p⟩
 | _=>exact j
theorem q_join {h0:AH} (a:N env h):joinQ h0 N Q .normal env h:=a
theorem q_join_ret {h0:AH} (a:Q .ret env h):joinQ h0 N Q .ret env h:=a
end
end Go.Vv
namespace Go.Vv
open Go
variable {q:Option Nat} {k id k' m j off:Nat} {i x y:Operand} {n:Int} {t e u e':TypeId} {a b b':AV} {ρ:Type} {ops:Array Oper} {Q:List AV->AH->Prop} {rest l:List Oper} {env' cs cs':List AV} {c:Call} {B L' B':List Blk} {T T' Ns M' M1:List Nat} {F:Nat->AH->Prop} {f:FuncId} {g:Gh} {hd:AH} {w0 w:World} {K:AV->AH->Prop}

abbrev yz (s:zx):List AV:=[.str s]
def zR (b:UInt8):List AV:=[.int .u8 b.toNat]
abbrev intRow (k:IntKind) (n:Int):List AV:=[.int k n]
abbrev boolRow (b:Bool):List AV:=[.bool b]
def IsSl {α:Type} (a:AV) (z:Nat) (row:α->List AV) (L:List α):Prop:=a=.sl z (L.map row) \/ ∃q,a=.osl q z (L.map row)
section
variable {α:Type} {row:α->List AV} {L M:List α} {z:Nat}
theorem isl:IsSl (.sl z (L.map row)) z row L:=.inl rfl
theorem iosl:IsSl (.osl q z (L.map row)) z row L:=.inr ⟨_,rfl⟩
theorem vP {f:α->List AV} {L:List α}:aLen (.sl k (L.map f))=some L.length:=by simp [aLen]
theorem lenMapO {f:α->List AV} {L:List α}:aLen (.osl q k (L.map f))=some L.length:=by simp [aLen]
theorem zB {i:Nat} {x:α} (h:L[i]?=some x):yw L (i:Int)=some x:=by
 unfold yw;rw [ur (by omega),uw];exact h
end
theorem byte_of (h:0<=n/\n < 256):((UInt8.ofNat n.toNat).toNat:Int)=n:=by
 rw [UInt8.toNat_ofNat'];omega
theorem bin_boolE {P:Program} {a b:Bool} (d:Ty P t .bool k):yR P .eql t (.bool a) (.bool b)=some (.bool (a==b)):=by simp only [yR,aEq,d.u,uV]
theorem bin_boolN {P:Program} {a b:Bool} (d:Ty P t .bool k):yR P .neq t (.bool a) (.bool b)=some (.bool !(a==b)):=by simp only [yR,aEq,d.u,uV]
open Classical in
noncomputable def nilq {α:Type} (L:List α) (f:Bool->Option ρ):Option ρ:=if L=[]/\f true ≠ f false then none else f false
theorem nilqF {α:Type} {L:List α} {f:Bool->Option ρ} {r:ρ} (h:nilq L f=some r):f false=some r/\(L=[]->f true=some r):=by
 unfold nilq at h
 simp_all
theorem nilq_of {α:Type} {L:List α} {f:Bool->Option ρ} {r:ρ} (p:f false=some r) (d:L=[]->f true=some r):nilq L f=some r:=by
 unfold nilq
 simp_all
theorem ops_nilqE {P:Program} {o:Oper} {env:List AV} {env':Bool->List AV} {h:AH} {z:Nat} {α:Type} {row:α->List AV} {L:List α} {f:Bool->Option ρ} {r:ρ} (I:aG ops o env=some true)
  (G:o.op=.binOp .eql t x y u) (C:El P t e k) (U:yH env x=some a) (V:IsSl a z row L) (S:yH env y=some .nilsl) (hd:∀b:Bool,qe o.dst env (.bool b)=some (env' b)) (O:nilq L f=some r)
  (J:∀b,(b=true->L=[])->f b=some r->zG P ops Q rest (env' b) h):zG P ops Q (o::rest) env h:=by
 obtain ⟨E,A⟩:=zO U;obtain ⟨H,D⟩:=zO S;obtain ⟨R,s⟩:=nilqF O;have key:∀b,(b=true->L.map row=[])->zG P ops Q rest (env' b) h:=λb p=>by
  have d:b=true->L=[]:=λh=>by simp_all
  refine J b d ?_;cases b with
  | false=>exact R
  | true=>exact s (d rfl)
 refine vT ?_;simp only [I,gwp];rcases V with rfl | ⟨q,rfl⟩
 ·simp only [zw,G,E,H,uW,up,A,D,aNilq,C.u,rwp]
  rintro v N ⟨rfl,b,rfl,p⟩
  rw [xL (hd b)];exact key b p
 ·simp only [zw,G,E,H,uW,up,A,D,aNilq,C.u,rwp]
  rintro v N ⟨rfl,b,rfl,p⟩
  rw [xL (hd b)];exact key b p
section
variable {P:Program} {o:Oper} {env:List AV} {h:AH} {α:Type} {row:α->List AV} {L:List α}
theorem s_idxRow {k:IntKind} {z:Nat} {y:α} (r:o.op=.indexAddr t x i) (v:El P t e z) (A:yH env x=some a) (hi:yH env i=some (.int k n)) (s:IsSl a z row L) (p:yw L n=some y) :
  zw P o env h=.ok (.fptr (row y)) h:=by
 obtain ⟨h0,p⟩:=idxF p;refine s_indexAddr r v A hi ?_;have d:(L.map row)[n.toNat]?=some (row y):=by simp_all
 rcases s with rfl | ⟨q,rfl⟩ <;> simp only [qB,h0,rH,up,d,uV]
theorem yh {k:IntKind} {z:Nat} {y:α} (d:o.op=.indexAddr t x i) (s:El P t e z) (A:yH env x=some a) (hi:yH env i=some (.int k n)) (p:IsSl a z row L) (r:yw L n=some y) (v:row y=cs) :
  zw P o env h=.ok (.fptr cs) h:=by rw [<- v];exact s_idxRow d s A hi p r
theorem s_gidxRow {k:IntKind} {z:Nat} (d:α) (p:o.op=.indexAddr t x i) (s:El P t e z) (v:yH env x=some a) (hi:yH env i=some (.int k n)) (r:IsSl a z row L) (A:0<=n/\n < L.length) :
  zw P o env h=.ok (.fptr (row (L.getD n.toNat d))) h:=by
 refine s_idxRow p s v hi r ?_;unfold yw
 simp_all
theorem s_gidxRowE {k:IntKind} {z:Nat} (d:α) (p:o.op=.indexAddr t x i) (s:El P t e z) (A:yH env x=some a) (hi:yH env i=some (.int k n)) (r:IsSl a z row L) (C:0<=n/\n < L.length)
  (v:row (L.getD n.toNat d)=cs):zw P o env h=.ok (.fptr cs) h:=by rw [<- v];exact s_gidxRow d p s A hi r C
theorem s_idxStr {s:zx} {k:IntKind} {z:Nat} {b:UInt8} (p:o.op=.index t x i) (r:Ty P t .string z) (v:yH env x=some (.str s)) (hi:yH env i=some (.int k n)) (d:yw s n=some b) :
  zw P o env h=.ok (.int .u8 b.toNat) h:=by
 obtain ⟨h0,d⟩:=idxF d;refine s_indexStr p r v hi ?_;simp only [aIndexStr,h0,up,d,uV]
inductive Bd (env:List AV):Option Operand->Int->Int->Prop
 | none {d:Int}:Bd env none d d
 | some {x:Operand} {k:IntKind} {n d:Int}:yH env x=some (.int k n)->Bd env (some x) d n
theorem Bd.all {x:Option Operand} {d n:Int} (h:Bd env x d n):x.all yA=true:=by
 cases h with
 | none=>rfl
 | some h=>exact (zO h).1
theorem Bd.ab {x:Option Operand} {d:Nat} (h:Bd env x d n) (h0:0<=n):aBound d (x.map (ev env))=Option.some n.toNat:=by
 cases h with
 | none=>rfl
 | some h=>simp only [uV,(zO h).2,aBound,ur h0]
theorem wy {lo hi:Option Operand} {M:List α} {l hh:Int} {z:Nat} (I:o.op=.slice t x lo hi none) (s:El P t e z) (N:yH env x=some a) (R:a=.sl z (L.map row) \/ ∃q,a=.osl q z (L.map row)/\(hi.isSome=true \/ q.isSome=true)) (A:Bd env lo 0 l) (p:Bd env hi L.length hh)
  (D:slc L l hh=some M):zw P o env h=.ok (.sl z (M.map row)) h:=by
 obtain ⟨⟨h0,U,S⟩,rfl⟩:=slcF D;obtain ⟨J,E⟩:=zO N;obtain ⟨i,G,O,_⟩:=s.i;have C:=Bd.ab (d:=0) A h0;have v:=Bd.ab (d:=L.length) p (by omega);simp only [zw,I,J,A.all,p.all,Option.all_none,uW,up,s.u,E,G,O,Option.map_none];rcases R with rfl | ⟨q,rfl,r⟩
 ·simp only [tyfix,up,aSlice,aSliceSl,C,uq,v,rd,uh,uz];rw [ur (by omega)];simp only [oo,List.map_drop,pn]
 ·simp only [tyfix,up,aSlice,aSliceSl,C,uq,v];rw [ur (by omega)];have H:(q.isNone&&(hi.map (ev env)).isNone)=false:=by
   rcases r with r | r
   ·simp_all
   ·cases q <;> simp_all
  simp only [H,uh,uz,oo,List.map_drop,pn]
theorem a_app {M:List α} {p:AH} (r:L.length+M.length<=yM) (d:h.grow q L.length M.length=some (id,p)):aAppend h k (.osl q k (L.map row)) (M.map row)=some (.osl (some id) k ((L++M).map row),p):=by
 simp only [aAppend,uq];by_cases h0:M.length=0
 ·have:M=[]:=uR h0;subst this;rw [ur (show ([]:List α).length=0 from rfl)];cases q with
  | none =>
   simp only [AH.grow,uN,tQ,uj,sq] at d
   simp_all
  | some id' =>
   simp only [AH.grow,uN,tQ] at d;split at d
   ·rename_i s;simp only [uj,sq] at d;obtain ⟨rfl,rfl⟩:=d;have:h.toks.set id' L.length=h.toks:=by
     refine tb λj=>?_
     grind
    simp [this]
   ·cases d
 ·simp_all
variable {M:List α}
theorem e_appN (r:o.op=.call c) (H:c.callee=.builtin .append) (hs:c.args=#[x,y]) (E:c.argTypes=#[t,u]) (D:El P t e k)
  (d:El P u e' k') (I:yH env x=some a) (v:yH env y=some b) (s:tyfix P t a=.osl none k (L.map row)) (G:tyfix P u b=b') (J:qU k b'=some (M.map row)) (A:L.length+M.length<=yM) (p:T.length=m) (C:T++[(L++M).length]=T') :
  zw P o env (h.ext B T)=.ok (.osl (some (h.toks.length+m)) k ((L++M).map row)) (h.ext B T'):=by
 refine s_append r H hs E D d I v s G J (a_app A ?_);subst C p;simp [AH.grow,AH.ext]
theorem yW (p:o.op=.call c) (H:c.callee=.builtin .append) (hs:c.args=#[x,y]) (D:c.argTypes=#[t,u]) (C:El P t e k)
  (d:El P u e' k') (I:yH env x=some a) (s:yH env y=some b) (r:tyfix P t a=.osl (some (h.toks.length+j)) k (L.map row)) (E:tyfix P u b=b') (J:qU k b'=some (M.map row)) (v:L.length+M.length<=yM) (N:T[j]?=some L.length) (A:T.set j (L++M).length=T') :
  zw P o env (h.ext B T)=.ok (.osl (some (h.toks.length+j)) k ((L++M).map row)) (h.ext B T'):=by
 refine s_append p H hs D C d I s r E J (a_app v ?_);subst A;have G:(h.toks++T)[h.toks.length+j]?=some L.length:=by grind
 simp only [AH.grow,AH.ext,G,up]
 simp_all
theorem xS:qU k (.sl k (M.map row))=some (M.map row):=by simp [qU]
theorem yB:qU k (.osl q k (M.map row))=some (M.map row):=by simp [qU]
theorem news_str {s:zx}:qU 1 (.str s)=some (s.map zR):=by rfl
theorem e_appST (p:o.op=.call c) (H:c.callee=.builtin .append) (hs:c.args=#[x,y]) (D:c.argTypes=#[t,u]) (C:El P t e k)
  (d:Ty P u .string k') (I:yH env x=some a) (s:yH env y=some b) (r:tyfix P t a=.osl (some (h.toks.length+j)) k (L.map row)) (E:tyfix P u b=b') (J:qU k b'=some (M.map row)) (v:L.length+M.length<=yM) (N:T[j]?=some L.length) (A:T.set j (L++M).length=T') :
  zw P o env (h.ext B T)=.ok (.osl (some (h.toks.length+j)) k ((L++M).map row)) (h.ext B T'):=by
 refine s_appendStr p H hs D C d I s r E J (a_app v ?_);subst A;have G:(h.toks++T)[h.toks.length+j]?=some L.length:=by grind
 simp only [AH.grow,AH.ext,G,up]
 simp_all
end

theorem leL.app {a5 bs:List AV} {cs:List AV} (k:leL a5 bs):leL (a5++cs) (bs++cs):=λg vs hv=>by
 have hs:∀{a5:List AV} {vs:List Value},VL g (a5++cs) vs->∃us ws,vs=us++ws/\VL g a5 us/\VL g cs ws:=by
  intro a5
  induction a5 with
  | nil=>intro vs h;exact ⟨[],vs,rfl,by simp [VL],h⟩
  | cons a r ih =>
   intro vs h;simp only [tD,VL] at h;obtain ⟨v,s,rfl,h1,h2⟩:=h;obtain ⟨us,ws,rfl,h3,h4⟩:=ih h2;exact ⟨v::us,ws,rfl,VL.cons h1 h3,h4⟩
 obtain ⟨us,ws,rfl,h1,h2⟩:=hs hv;exact VL.append (k _ _ h1) h2
theorem leL.pre {a5 bs:List AV}:∀{cs:List AV},leL a5 bs->leL (cs++a5) (cs++bs)
 | [],k=>k
 | _::_,k=>leL.eq (leL.pre k)
def keeps:List (Nat×Blk)->List Blk->Prop
 | [],_=>True
 | (j,b)::r,B=>B[j]?=some b/\keeps r B
theorem vi {b:Blk} {r:List (Nat×Blk)} (h:keeps ((j,b)::r) B):B[j]?=some b:=h.1
def lk:List (Nat×List (Nat×Blk))->Nat->List (Nat×Blk)
 | [],_=>[]
 | (m,l)::r,n=>if n=m then l else lk r n
def KeepB (h:AH) (l:List (Nat×Blk)) (x:AH):Prop:=∃B T,x=h.ext B T/\keeps l B
theorem yi {h:AH} {l:List (Nat×Blk)} (d:keeps l B):KeepB h l (h.ext B T):=⟨_,_,rfl,d⟩
def keepA:List (Nat×List (Nat×Blk))->List Blk->Prop
 | [],_=>True
 | (_,l)::r,B=>keeps l B/\keepA r B
theorem keepA_lk:∀{l:List (Nat×List (Nat×Blk))} {B:List Blk},keepA l B->∀n,keeps (lk l n) B
 | [],_,_,_=>trivial
 | (m,l)::r,B,h,n=>by
  simp only [lk];split
  ·exact h.1
  ·exact keepA_lk h.2 n
theorem FOk.all {b:Nat} {G:AH->Prop} {h:AH} (d:G h):FOk b Ns (λ_=>G) h:=λ_ _ _=>d
theorem FOk.nil {b:Nat} {h:AH}:FOk b [] F h:=λ_ h _=>by simp at h
theorem FOk.cons {b n:Nat} {h:AH} (d:b.testBit n=true \/ F n h) (p:FOk b Ns F h):FOk b (n::Ns) F h:=λm s r=>by
 rcases d with d | d
 ·by_cases e:m=n
  ·simp_all
  ·exact p m (by simp_all) r
 ·by_cases e:m=n
  ·simp_all
  ·exact p m (by simp_all) r
abbrev yl (h:AH) (i j k n:Nat):AV:=.rsl (h.blks.length+i) (h.toks.length+j) k n
abbrev osA (h:AH) (j k:Nat) (es:List (List AV)):AV:=.osl (some (h.toks.length+j)) k es
abbrev y4 (h:AH) (j k:Nat) (es:List (List AV)):Blk:=.row (h.toks.length+j) k es
theorem yP {P:Program} {Q:Exit->List AV->AH->Prop} {env:List AV} {h:AH} (Ns:List Nat) (d:List (Nat×List (Nat×Blk))) (s:keepA d B) (p:P.follows .mixedOrders=true) (hd:drawOk ⟨l⟩ Ns=true) (r:zV P ⟨l⟩ Ns (λn=>KeepB h (lk d n)) (Q .normal) 0 l env (h.ext B T)) :
  vV P (.region id ⟨l⟩ true) Q env (h.ext B T):=.inl ⟨Ns,λn=>KeepB h (lk d n),⟨p,hd⟩,λn=>yi (keepA_lk s n),r⟩
theorem r_drawnF {P:Program} {Q:Exit->List AV->AH->Prop} {env:List AV} {h:AH} (Ns:List Nat) (F:Nat->AH->Prop) (r:∀n,F n h) (d:P.follows .mixedOrders=true) (hd:drawOk ⟨l⟩ Ns=true) (p:zV P ⟨l⟩ Ns F (Q .normal) 0 l env h) :
  vV P (.region id ⟨l⟩ true) Q env h:=.inl ⟨Ns,F,⟨d,hd⟩,r,p⟩
theorem zQ {h:AH} {L:List Blk} {M:List Nat}:(h.ext L M).ext L' M'=h.ext (L++L') (M++M'):=by simp [AH.ext,uy]
theorem zP {P:Program} {o:Oper} {env:List AV} {h d:AH} {args:List AV} {v:AV} (C:aG ops o env=some true) (A:zw P o env h=.call f args) (hs:Spec P f args h λr hh=>r=v/\hh=d)
  (hd:qe o.dst env v=some env') (p:zG P ops Q rest env' d):zG P ops Q (o::rest) env h :=
 ops_call C A hs λr d ⟨s,D⟩=>by subst s;subst D;rw [xL hd];exact p
theorem yT {i:Nat} (E:Ns.contains i=false) {P:Program} {ops:Array Oper} {Q:List AV->AH->Prop} {o:Oper} {rest:List Oper} {env env':List AV} {h d:AH} {f:FuncId} {args:List AV} {v:AV} (C:FOk ((Region.before ops).getD i 0) Ns F d) (p:d.blks=h.blks) (s:aG ops o env=some true) (D:zw P o env h=.call f args) (hs:Spec P f args h λr hh=>r=v/\hh=d)
  (hd:qe o.dst env v=some env') (A:zV P ops Ns F Q (i+1) rest env' d):zV P ops Ns F Q i (o::rest) env h :=
 ⟨v,d,.inl ⟨E,by simp only [AR,s,D];exact hs⟩,.inr p,.inr C,by rw [xL hd];exact A⟩
theorem xB {i:Nat} (C:Ns.contains i=false) {P:Program} {ops:Array Oper} {Q:List AV->AH->Prop} {o:Oper} {rest:List Oper} {env env':List AV} {h d:AH} {v:AV} (D:FOk ((Region.before ops).getD i 0) Ns F d) (A:d.blks=h.blks) (s:aG ops o env=some true) (r:zw P o env h=.ok v d) (hd:qe o.dst env v=some env') (p:zV P ops Ns F Q (i+1) rest env' d) :
  zV P ops Ns F Q i (o::rest) env h:=⟨v,d,.inl ⟨C,by simp only [AR,s,r,rH]⟩,.inr A,.inr D,by rw [xL hd];exact p⟩
def OwnK (h:AH) (k n:Nat) (R:List (List AV)) (rr:AV) (hh:AH):Prop:=rr=.osl (some h.toks.length) k R/\hh=h.ext [] [n]
theorem x6 {P:Program} {a5:List AV} {h:AH} {n:Nat} {R:List (List AV)} (s:Spec P f a5 (h.ext B T) (OwnK (h.ext B T) k n R)) (d:T.length=m) (p:T++[n]=T') :
  Spec P f a5 (h.ext B T) (λv hh=>v=.osl (some (h.toks.length+m)) k R/\hh=h.ext B T'):=by
 refine s.mono ?_
 rintro r A ⟨rfl,rfl⟩
 subst d p;simp [AH.ext,uy]
theorem ldC_arr {α:Type} {row:α->List AV} {L:List α} {i:Int} {y:α} (s:∀x,(row x).length=k) (d:yw L i=some y) (A:L.flatMap row=cs):ldC true k (0+i.toNat * k) cs=some (.agg (row y)):=by
 obtain ⟨h0,d⟩:=idxF d;subst A;have key:∀(L:List α) (n:Nat),L[n]?=some y->n * k+k<=(L.flatMap row).length/\((L.flatMap row).drop (n * k)).take k=row y:=by
  intro L
  induction L with
  | nil=>intro n h;simp at h
  | cons a r ih =>
   intro n h;cases n with
   | zero =>
    simp_all
   | succ n =>
    obtain ⟨v,p⟩:=ih n (by simpa using h);simp only [tU,uo,s,t7];refine ⟨by omega,?_⟩;rw [show n * k+k=(row a).length+n * k by grind,sV,tq (by omega),uY,uK];exact p
 obtain ⟨v,p⟩:=key L i.toNat d;simp only [ldC,up,uT]
 simp_all
theorem s_idxArr {P:Program} {o:Oper} {env:List AV} {h:AH} {n:Nat} {d:TypeDesc} {q:IntKind} {m:Int} {α:Type} {L:List α} {y:α} (r:o.op=.indexAddr t x i) (v:Ty P t (.array n e) k) (s:Ty P e d k') (A:yH env x=some (.ptr id off)) (hi:yH env i=some (.int q m))
  (D:L.length=n) (p:yw L m=some y):zw P o env h=.ok (.ptr id (off+m.toNat * k')) h:=by
 obtain ⟨h0,p⟩:=idxF p;have C:m.toNat < L.length:=(uc.1 p).1;exact yc r v s A hi (ur ⟨h0,by omega⟩)
theorem evo_eq {env:List AV} (h:yH env x=some a) (e:a=b):yH env x=some b:=by rw [h,e]
theorem blk_ext2 {h:AH} {b:Blk} (d:B[j]?=some b):((h.ext B T).ext B' T').blk (h.blks.length+j)=some b:=by
 rw [zQ,yC,um (uc.1 d).1];exact d
theorem blk_old {h:AH} {b:Blk} (d:h.blk id=some b):(h.ext B T).blk id=some b:=by
 have p:id < h.blks.length:=(uc.1 d).1;simp only [AH.blk,AH.ext] at d ⊢
 grind
theorem b_load {P:Program} {o:Oper} {env:List AV} {h:AH} {d:TypeDesc} {v v':AV} (r:o.op=.load t x) (A:Ty P t d k) (D:yH env x=some (.ptr id off)) (C:h.blk id=some (.cells cs))
  (s:ldC (yk d) k off cs=some v) (p:tyfix P t v=v'):zw P o env (h.ext B T)=.ok v' (h.ext B T):=by
 refine s_load r A D ?_ p;simp only [aLoad,blk_old C];exact s

theorem leV.agg {cs ds:List AV} (k:leL cs ds) (p:ds.all AV.one=true):leV (.agg cs) (.agg ds):=λg v d=>by
 simp only [V] at d ⊢;obtain ⟨vs,e,r⟩:=d;exact ⟨vs,e,VA.mk (k _ _ r.toVL) p⟩
theorem leV.tup {cs ds:List AV} (k:leL cs ds):leV (.tup cs) (.tup ds):=λg v d=>by
 simp only [V] at d ⊢;obtain ⟨vs,e,p⟩:=d;exact ⟨vs,e,k _ _ p⟩
theorem VL.setE {g:Gh}:∀{a5:List AV} {vs:List Value},VL g a5 vs->∀(i:Nat) (a:AV),(∀v,vs[i]?=some v->V g a v)->VL g (a5.set i a) vs
 | [],_,h,i,a,_=>by simpa using h
 | _::r,_,h,i,a,hv=>by
  simp only [VL] at h;obtain ⟨v',s,rfl,p,d⟩:=h;cases i with
  | zero=>simp only [uf,VL];exact ⟨v',s,rfl,hv v' rfl,d⟩
  | succ i=>simp only [ue,VL];exact ⟨v',s,rfl,p,VL.setE d i a (λv A=>hv v (by simp_all))⟩
theorem V.tok {n:Nat} {es:List (List AV)} {v:Value} (D:es.length=n) (d:V g (.osl none k es) v):V (g.addT ⟨n,none,false⟩) (.osl (some g.τ.length) k es) v:=by
 subst D;simp only [V] at d ⊢;obtain ⟨a,c,s,p,A,r,C⟩:=d;refine ⟨a,c,s,p,A,r.imp id λ⟨b,o,e,hh⟩=>⟨b,o,e,VE.mono (g.le_addT _) _ _ _ _ hh⟩,⟨es.length,none,false⟩,?_,rfl,ug _,λ_=>.inl C⟩;simp only [Gh.addT]
 simp_all
theorem wk_tok {α:Type} {row:α->List AV} {L:List α} {h:AH} {env:List AV} {d:Nat} (N:yH env (.tmp d)=some (.osl none k (L.map row))) (J:T.length=m)
  (E:qe (some d) env (.osl (some (h.toks.length+m)) k (L.map row))=some env') (I:T++[L.length]=T') :
  wk hd env (h.ext B T) env' (h.ext B T'):=λ_ _ _ _ R g vs _ H r G=>by
 subst J I;simp only [qe,uj] at E;subst E;have p:h.toks.length+T.length=g.τ.length:=by rw [r.tlen];simp [AH.ext]
 refine ⟨g.addT ⟨L.length,none,false⟩,H.trans (g.le_addT _),?_,?_⟩
 ·have:=r.addTok ⟨L.length,none,false⟩ (λ_ _ _ h=>by cases h) (λ_ _ h=>by cases h);have e:(h.ext B (T++[L.length]))={ (h.ext B T) with toks:=(h.ext B T).toks++[L.length] }:=by simp [AH.ext,uy]
  simp_all
 ·have C:=G;refine ⟨VL.setE (VL.mono (g.le_addT _) _ _ G) d _ λv A=>?_,λ_ h=>h⟩;obtain ⟨a,s,O⟩:=C.getR _ _ A;have D:env[d]?=some (.osl none k (L.map row)):=N;rw [D] at s;injection s with s;subst s;rw [p];exact O.tok (by simp)
theorem Rel.rowsC {B:Nat} {h:AH} (r:Rel B w0 g h w) {i:Nat} {cs cs':List AV} (A:h.blks[i]?=some (.cells cs)) :
  (∀(j:Nat) (x:Blk),g.σ[j]?=some none->(h.put i (.cells cs')).blks[j]?=some x->RowB g w x) /\
  ∀(a b t k k':Nat) (es es':List (List AV)),(h.put i (.cells cs')).blks[a]?=some (.row t k es)->(h.put i (.cells cs')).blks[b]?=some (.row t k' es')->a=b:=by
 have key:∀(a t k:Nat) (es:List (List AV)),(h.put i (.cells cs')).blks[a]?=some (.row t k es)->h.blks[a]?=some (.row t k es):=by
  intro a t k es p;simp only [AH.put] at p
  grind
 refine ⟨λj x s d=>?_,λa b t k k' es es' p v=>r.rinj _ _ _ _ _ _ _ (key _ _ _ _ p) (key _ _ _ _ v)⟩;simp only [AH.put] at d;by_cases hij:i=j
 ·subst hij;exact (r.row i _ s A).elim
 ·rw [u2 hij] at d;exact r.row j x s d
theorem Rel.reblk {B:Nat} {h:AH} (r:Rel B w0 g h w) {i:Nat} {cs cs':List AV} (p:h.blks[i]?=some (.cells cs)) (E:∀c,BlkOk g w c (.cells cs)->BlkOk g w c (.cells cs')):Rel B w0 g (h.put i (.cells cs')) w:=by
 refine ⟨r.below,r.bsz,r.phi,by simp [AH.put,r.slen],λj c q s d=>?_,r.tlen,r.tok,r.sinj,r.tinj,r.sep,r.dfr,(r.rowsC p).1,(r.rowsC p).2,r.nb,r.ob⟩;simp only [AH.put] at d;by_cases hij:i=j
 ·subst hij;rw [uE (uc.1 p).1] at d;injection d with d;subst d;obtain ⟨C,v,D,A⟩:=r.blk i c _ s p
  simp_all
 ·rw [u2 hij] at d;exact r.blk j c q s d
theorem wk_tokB {α:Type} {row:α->List AV} {L:List α} {h:AH} {env:List AV} (S:B[j]?=some (.cells cs)) (he:yH cs (.tmp off)=some (.osl none k (L.map row))) (Z:T.length=m)
  (R:qe (some off) cs (.osl (some (h.toks.length+m)) k (L.map row))=some cs') (hB:B.set j (.cells cs')=B') (W:T++[L.length]=T') :
  wk hd env (h.ext B T) env (h.ext B' T'):=λ_ _ w _ g1 g vs _ V r hv=>by
 subst Z W hB;simp only [qe,uj] at R;subst R;have D:h.toks.length+T.length=g.τ.length:=by rw [r.tlen];simp [AH.ext]
 refine ⟨g.addT ⟨L.length,none,false⟩,V.trans (g.le_addT _),?_,VL.mono (g.le_addT _) _ _ hv,λ_ h=>h⟩;have d:=r.addTok ⟨L.length,none,false⟩ (λ_ _ _ h=>by cases h) (λ_ _ h=>by cases h);have H:({ (h.ext B T) with toks:=(h.ext B T).toks++[L.length] }:AH).blks[h.blks.length+j]?=some (.cells cs):=by
  simp only [AH.ext];rw [uk (by omega),uK];exact S
 have e:(h.ext (B.set j (.cells (cs.set off (.osl (some (h.toks.length+T.length)) k (L.map row))))) (T++[L.length])) =
   ({ (h.ext B T) with toks:=(h.ext B T).toks++[L.length] }:AH).put (h.blks.length+j) (.cells (cs.set off (.osl (some (h.toks.length+T.length)) k (L.map row)))):=by
  simp only [AH.ext,AH.put,uy]
  simp_all
 rw [e]
 -- what the cells were ahead of the token
 have C:(h.ext B T).blks[h.blks.length+j]?=some (.cells cs):=by
  omega
 obtain ⟨c,U⟩:∃c:Nat,g.σ[h.blks.length+j]?=some (some c):=by
  have:h.blks.length+j < g.σ.length:=by rw [r.slen];simp only [AH.ext,uo];have:=(uc.1 S).1;omega
  rcases U:g.σ[h.blks.length+j] with _ | c
  ·exact (r.row _ _ (by simp_all) C).elim
  ·simp_all
 obtain ⟨_,_,⟨us,t,Y,N⟩,_⟩:=r.blk _ c _ U C;have E:VA (g.addT ⟨L.length,none,false⟩) (cs.set off (.osl (some (h.toks.length+T.length)) k (L.map row))) us.toList:=by
  have O:=N.toVL;refine VA.mk (VL.setE (VL.mono (g.le_addT _) _ _ O) off _ λv I=>?_) ?_
  ·obtain ⟨a,p,hV⟩:=O.getR _ _ I;have J:cs[off]?=some (.osl none k (L.map row)):=he;rw [J] at p;injection p with p;subst p;rw [D];exact hV.tok (by simp)
  ·rw [ut];intro a p;rcases pf p with p | rfl
   ·have:=N.ones;rw [ut] at this;exact this a p
   ·rfl
 -- one block alone: the same cell
 refine ⟨d.below,d.bsz,d.phi,by simp [AH.put,d.slen],λi G q A s=>?_,d.tlen,d.tok,d.sinj,d.tinj,d.sep,d.dfr,(d.rowsC H).1,(d.rowsC H).2,d.nb,d.ob⟩;simp only [AH.put] at s;by_cases hij:h.blks.length+j=i
 ·subst hij;rw [uE (uc.1 H).1] at s;injection s with s;subst s;obtain ⟨h6,X,_,h9⟩:=d.blk _ G _ A H;have:G=c:=by
   have:g.σ[h.blks.length+j]?=some (some G):=A
   simp_all
  subst this;exact ⟨h6,X,⟨us,t,Y,E⟩,λ_=>h9 (by simp)⟩
 ·rw [u2 hij] at s;exact d.blk i G q A s
mutual
theorem AV.low_up {n p m s:Nat} (d:n<=p) (h:m<=s):∀a:AV,a.low n m=true->a.low p s=true
 | .bool _,_ | .int _ _,_ | .str _,_ | .nilp,_ | .nilm,_ | .nilf,_ | .nili,_ | .nilsl,_ | .fptr _,_ | .sl _ _,_ | .glob _,_ | .any,_ | .opq,_ | .bsl _ _,_ | .nsl _ _,_ | .gsl _ _,_ | .gptr _,_=>rfl
 | .osl none _ _,_=>rfl
 | .osl (some t) _ _,hl=>by simp only [AV.low,ul] at hl ⊢;omega
 | .ptr _ _,hl=>by simp only [AV.low,ul] at hl ⊢;omega
 | .msl _ _ _ _,hl=>by simp only [AV.low,ul] at hl ⊢;omega
 | .rsl _ _ _ _,hl=>by simp only [AV.low,ul] at hl ⊢;omega
 | .rsuf _ _ _ _ _,hl=>by simp only [AV.low,ul] at hl ⊢;omega
 | .rptr _ _ _ _ _,hl=>by simp only [AV.low,ul] at hl ⊢;omega
 | .map _,hl=>by simp only [AV.low,ul] at hl ⊢;omega
 | .yld _,hl=>by simp only [AV.low,ul] at hl ⊢;omega
 | .fn _ a b,hl=>by
  simp only [AV.low,ud] at hl ⊢;exact ⟨yb d h a hl.1,yb d h b hl.2⟩
 | .iface _ v,hl=>by simp only [AV.low] at hl ⊢;exact AV.low_up d h v hl
 | .agg cs,hl=>by simp only [AV.low] at hl ⊢;exact yb d h cs hl
 | .tup cs,hl=>by simp only [AV.low] at hl ⊢;exact yb d h cs hl
theorem yb {n p m s:Nat} (d:n<=p) (h:m<=s):∀l:List AV,zA n m l=true->zA p s l=true
 | [],_=>rfl
 | a::r,hl=>by
  simp only [zA,ud] at hl ⊢;exact ⟨AV.low_up d h a hl.1,yb d h r hl.2⟩
end
theorem wk_cutm {h:AH} {env:List AV} {L:List Blk} {M:List Nat} (m:Nat) (D:zA h.blks.length (h.toks.length+m) env=true) (s:M.take m=M1):wk h env (h.ext L M) env (h.ext [] M1):=λ_ _ _ _ C g vs d v r E=>by
 subst s;refine ⟨g.cut h.blks.length (h.toks.length+m),Gh.le_cut2 v (by rw [d.slen];exact ug _) (by rw [d.tlen];omega),?_,VL.cut _ _ D E,λ_ h=>h⟩;have e:(h.ext L M).cut h.blks.length (h.toks.length+m)=h.ext [] (M.take m):=by
  simp [AH.cut,AH.ext,tM];rw [uG (by omega)]
 have:=r.cut h.blks.length (h.toks.length+m) (λi k hi p=>?_)
 ·simp_all
 ·have A:i < C.σ.length:=by rw [d.slen];exact hi
  simp only [AH.ext] at p;rw [um hi] at p;have:=d.isLow p;rw [d.slen,d.tlen] at this;exact Blk.low_mono (by omega) _ this
theorem fin_own {h:AH} {n:Nat} {R:List (List AV)} (d:K (.osl (some h.toks.length) k R) (h.ext [] [n])):finK h K (.osl (some (h.toks.length+0)) k R) (h.ext B (n::T)) :=
 vE (wk_cutm 1 (by simp [zA,AV.low]) rfl) d
theorem fin_own0 {α:Type} {row:α->List AV} {L:List α} {h:AH} (p:K (.osl (some h.toks.length) k (L.map row)) (h.ext [] [L.length])):finK h K (.osl none k (L.map row)) (h.ext B T) :=
 vE ((wk_cutm (M1:=[]) 0 (by rfl) rfl).trans (wk_tok (d:=0) (m:=0) rfl rfl rfl rfl)) p
theorem wk_leB {h:AH} {env:List AV} (C:B[j]?=some (.cells cs)) (A:leL cs cs') (v:cs'.all AV.one=true) (D:B.set j (.cells cs')=B'):wk hd env (h.ext B T) env (h.ext B' T):=λ_ _ w _ G g vs _ E r H=>by
 subst D;have p:(h.ext B T).blks[h.blks.length+j]?=some (.cells cs):=by
  simp only [AH.ext];rw [uk (by omega),uK];exact C
 have:=r.reblk p (cs':=cs') (λc ⟨us,t,s,d⟩=>⟨us,t,s,VA.mk (A _ _ d.toVL) v⟩);have e:(h.ext B T).put (h.blks.length+j) (.cells cs')=h.ext (B.set j (.cells cs')) T:=by
  simp only [AH.ext,AH.put]
  simp_all
 grind
theorem yj {h:AH} {L0 L1:List Blk} {M0:List Nat} {env:List AV} (d:zA (h.blks.length+L0.length) (h.toks.length+M0.length) env=true) (r:L'.take L0.length=L1) (p:M'.take M0.length=M1)
  (v:L1.all (λb=>b.low (h.blks.length+L0.length) (h.toks.length+M0.length))=true):wk (h.ext L0 M0) env (h.ext L' M') env (h.ext L1 M1) :=
 wk_ext2 d r p λ_ k s=>.inr (by grind)
theorem r_condR {P:Program} {Q:Exit->List AV->AH->Prop} {env:List AV} {h:AH} {σ:Type} {f:Nat->Nat->σ->Option (Out ρ σ)} {m:Int} {i:Nat} {s:σ} {rest:σ->Option ρ} {v:ρ} {c:Operand} {t e:Code} (E:yH env c=some (.bool (decide ((i:Int) < m))))
  (A:lp (zq f ((List.range m.toNat).drop i) i s) rest=some v)
  (H:∀x p,i < (List.range m.toNat).length->(i:Int) < m->x=i->f i x s=some p->konL f (List.range m.toNat) i rest p=some v->vV P t Q env h) (D:rest s=some v->vV P e Q env h):vV P (.cond c t e) Q env h:=by
 refine r_cond E (λd=>?_) (λd=>?_)
 ·have C:=u6 d;have r:i < (List.range m.toNat).length:=by simp;omega
  obtain ⟨x,p,I,G,J⟩:=loopL_step A r
  simp_all
 ·have C:=rZ d;exact D (loopL_end A (by simp;omega))
theorem ops_nextF {P:Program} {o:Oper} {env H I:List AV} {h:AH} {L:List Blk} {M:List Nat} {s:List UInt8} {d:Nat} {A C:Option ρ} {r:ρ} (O:aG ops o env=some true) (J:o.op=.next x true)
  (R:yH env x=some (.ptr (h.blks.length+j) 0)) (N:L[j]?=some (.siter s d)) (v:qe o.dst env (.tup [.bool true,.int .i64 d,.int .i32 (dec s d).1])=some H) (p:qe o.dst env (.tup [.bool false])=some I)
  (S:(if d < s.length then A else C)=some r) (D:d < s.length->A=some r->zG P ops Q rest H (h.ext (L.set j (.siter s (d+(dec s d).2))) M)) (E:C=some r->zG P ops Q rest I (h.ext L M)):zG P ops Q (o::rest) env (h.ext L M) :=
 ops_next O J R N v p (λG=>D G (by simp_all)) (λG=>E (by grind))
open Classical in
noncomputable def anyN (g:Nat->Option ρ):Option ρ:=if h:∃r N,∀n,N<=n->g n=some r then some (Classical.choose h) else none
theorem anyN_is {g:Nat->Option ρ} {r:ρ} (h:anyN g=some r):∃n,g n=some r:=by
 unfold anyN at h;split at h
 ·rename_i p;injection h with h;subst h;obtain ⟨N,d⟩:=tV p;exact ⟨N,d N (ug _)⟩
 ·cases h
theorem qg {g:Nat->Option ρ} {r:ρ} (N:Nat) (h:∀n,N<=n->g n=some r):anyN g=some r:=by
 have d:∃r N,∀n,N<=n->g n=some r:=⟨r,N,h⟩
 unfold anyN;rw [pJ d];obtain ⟨M,p⟩:=tV d;have s:=p (max N M) (Nat.le_max_right _ _)
 grind
theorem Rel.beyond {B:Nat} {w':World} {h:AH} (r:Rel B w0 g h w) (d:RowKit.Below w.heap.size w w'):Rel B w0 g h w' :=
 ⟨r.below.trans (d.mono r.bsz),uB r.bsz d.size,λb j v e=>(d.cell (p:=⟨b,j,none⟩) (r.phi_lt e)).trans (r.phi b j v e),r.slen,
   λi c k A G=>by
     obtain ⟨H,C,J,I⟩:=r.blk i c k A G;exact ⟨H,tJ C d.size,J.mono (Gh.le.refl g) (d.block c C),I⟩,r.tlen,
   λi t E=>by
     obtain ⟨H,C⟩:=r.tok i t E;exact ⟨H,λb l e s=>(C b l e s).mono d.size (d.block b (C b l e s).lt) λ_ _=>rfl⟩,r.sinj,r.tinj,r.sep,λc A=>⟨(r.dfr c A).1,(d.block c (r.dfr_lt A)).trans (r.dfr c A).2.1,(r.dfr c A).2.2⟩,
   λi k hi G=>(r.row i k hi G).mono (Gh.le.refl g) (λ_ _ h _=>h) (λi t b x E _ s=>⟨d.block b ((r.tok i t E).2 b x.1 x.2 s).lt,λ_=>rfl⟩),r.rinj,
   λb x D=>(r.nb b x D).mono λ_ s N=>⟨d.block b s,N,λh=>h⟩,λb D=>⟨tJ (r.ob b D).1 d.size,(r.ob b D).2⟩⟩
end Go.Vv
namespace Go.Vv
open Go Go.RowKit Go.Lib
def apart (ops:Array Oper) (o p:Oper):Bool :=
 (match o.dst with | some d=>!(p.looksAt ops).contains d&&p.dst != some d | none=>true) &&
 (match p.dst with | some d=>!(o.looksAt ops).contains d | none=>true)
section
variable {P:Program} {l:List Oper} {Q:List AV->AH->Prop} {m i j:Nat} {listed:Array Bool} {env env':List AV} {h h':AH} {o:Oper} {v:AV}
end
end Go.Vv
namespace Go.Vv
open Go Go.RowKit Go.Proofs Go.Shelf
end Go.Vv
namespace Go.Vv
open Go Go.RowKit Go.Lib Go.Shelf
theorem spec_scompare {P:Program} {ρ:Ren} (L:Go.Proofs.Lays.n106 P ρ) {a b:List UInt8} {h:AH}:Spec P (ρ.f 106) [.str a,.str b] h λd hh=>d=.int .i64 (Lib.compareBytes a b)/\hh=h:=by
 refine ⟨λvs w=>Go.Proofs.enters_of L.f106 (by kernel_rfl) rfl vs w,λB w0 _ g w vs r c=>?_⟩;obtain ⟨us,rfl⟩:∃us:List Value,vs=us.toArray:=⟨vs.toList,by simp⟩
 simp only [VL,V] at c;obtain ⟨j,s1,i,⟨rfl,_⟩,k,s2,rfl,⟨rfl,_⟩,rfl⟩:=c;subst i;refine (Go.Proofs.Any.strings_Compare L _ _ w).mono ?_
 rintro e w' ⟨rfl,rfl⟩
 exact ⟨_,_,h,g,rfl,⟨rfl,rfl⟩,Gh.le.refl g,r,by simp only [V]⟩
end Go.Vv
namespace Go.Vv
open Go
variable {B:List Blk}
section
variable {K W:Type}
def wQ (eq:K->K->Bool) (d:W):List (K×W)->K->W
 | [],_=>d
 | e::r,k=>if eq k e.1 then e.2 else wQ eq d r k
def mhas (eq:K->K->Bool):List (K×W)->K->Bool
 | [],_=>false
 | e::r,k=>eq k e.1 || mhas eq r k
def midx (eq:K->K->Bool):List (K×W)->K->Nat
 | [],_=>0
 | e::r,k=>if eq k e.1 then 0 else midx eq r k+1
def mput (eq:K->K->Bool):List (K×W)->K->W->List (K×W)
 | [],k,v=>[(k,v)]
 | e::r,k,v=>if eq k e.1 then (e.1,v)::r else e::mput eq r k v
def ment (eq:K->K->Bool) (d:W) (m:List (K×W)) (k:K):List (K×W):=if mhas eq m k then m else m++[(k,d)]
def mrow (kv:K->AV) (vv:W->AV) (e:K×W):AV×AV:=(kv e.1,vv e.2)

theorem midx_lt {eq:K->K->Bool} {k:K}:∀{m:List (K×W)},mhas eq m k=true->midx eq m k < m.length
 | [],h=>by simp [mhas] at h
 | e::r,h=>by
  simp only [mhas,midx,un] at h ⊢;by_cases hk:eq k e.1=true
  ·simp [hk]
  ·simp only [hk,tv,uz,uh] at h ⊢;have:=midx_lt h;omega
theorem midx_eq {eq:K->K->Bool} {k:K}:∀{m:List (K×W)},mhas eq m k=false->midx eq m k=m.length
 | [],h=>rfl
 | e::r,h=>by
  simp only [mhas,midx,un,sy] at h ⊢;simp [h.1,midx_eq h.2]
theorem mput_has {eq:K->K->Bool} {k:K} {v:W}:∀{m:List (K×W)} {e:K×W},mhas eq m k=true->m[midx eq m k]?=some e->m.set (midx eq m k) (e.1,v)=mput eq m k v
 | [],_,h,_=>by simp_all
 | p::r,e,h,he=>by
  simp only [mhas,midx,mput] at h he ⊢;by_cases hk:eq k p.1=true
  ·simp_all
  ·simp only [hk,tv,uz,uh,rD] at h he ⊢;rw [ue,mput_has h he]
theorem mput_not {eq:K->K->Bool} {k:K} {v:W}:∀{m:List (K×W)},mhas eq m k=false->m++[(k,v)]=mput eq m k v
 | [],_=>rfl
 | p::r,h=>by
  simp only [mhas,mput,sy] at h ⊢;simp [h.1,mput_not h.2]
def KQ (P:Program) (kt:TypeId) (kv:K->AV) (eq:K->K->Bool):Prop:=(∀a b,xj P kt (kv a) (kv b)=some (eq a b))/\∀a,eq a a=true
theorem KQ.str {P:Program} {t:TypeId} {z:Nat} (h:Ty P t .string z):KQ P t AV.str (λa b=>a==b):=⟨λa b=>by simp only [xj,h.u,aEq1],λa=>by simp⟩
theorem KQ.int {P:Program} {t:TypeId} {i:IntKind} {z:Nat} (h:Ty P t (.int i) z):KQ P t (AV.int i) (λa b=>a==b):=⟨λa b=>by simp only [xj,h.u,aEq1,up],λa=>by simp⟩
theorem KQ.struct {P:Program} {t:TypeId} {fs:Array Field} {c:List Kd} {row:K->List AV} {eq:K->K->Bool} (g:P.underlying t=some (.struct fs)) (e:PK P t c) (h:∀a b,aEqL c (row a) (row b)=some (eq a b)) (f:∀a,eq a a=true):KQ P t (λx=>.agg (row x)) eq :=
 ⟨λa b=>by simp only [xj,g,e.k,h],f⟩

variable {P:Program} {kt et t:TypeId} {kv:K->AV} {vv:W->AV} {eq:K->K->Bool} {d:W}
theorem aFind_is (a:KQ P kt kv eq) (d:W) (k:K):∀(m:List (K×W)) (i:Nat),aFind P kt (kv k) (m.map (mrow kv vv)) i=some (if mhas eq m k then some (i+midx eq m k,vv (wQ eq d m k)) else none)
 | [],i=>rfl
 | e::r,i=>by
  have l:=aFind_is a d k r (i+1);simp only [ux,aFind];have g:xj P kt (kv k) (mrow kv vv e).1=some (eq k e.1):=a.1 _ _;rw [g];by_cases h:eq k e.1=true
  ·have b:mhas eq (e::r) k=true:=by simp [mhas,h]
   have f:midx eq (e::r) k=0:=by simp [midx,h]
   have c:wQ eq d (e::r) k=e.2:=by simp [wQ,h]
   rw [b,f,c,h];rfl
  ·simp only [ri] at h;have b:mhas eq (e::r) k=mhas eq r k:=by simp [mhas,h]
   have f:midx eq (e::r) k=midx eq r k+1:=by simp [midx,h]
   have c:wQ eq d (e::r) k=wQ eq d r k:=by simp [wQ,h]
   grind

variable {ops:Array Oper} {o:Oper} {env:List AV} {h:AH} {L:List Blk} {M:List Nat} {m:List (K×W)} {k:K} {j:Nat} {x y z:Operand}
theorem e_makeMap {n:Nat} (b:o.op=.makeMap t none) (a:L.length=n):zw P o env (h.ext L M)=.ok (.map (h.blks.length+n)) (h.ext (L++[.mapo [] 0]) M):=by
 simp only [zw,b,ext_new,<- a];simp [AH.ext]
theorem e_lookup (c:o.op=.lookup t x y false) (n:P.underlying t=some (.map kt et)) (a:KQ P kt kv eq) (s:aZeroM P et=some (vv d)) (q:yH env x=some (.map (h.blks.length+j))) (b:L[j]?=some (.mapo (m.map (mrow kv vv)) 0)) (f:yH env y=some (kv k)) :
  zw P o env (h.ext L M)=.ok (vv (wQ eq d m k)) (h.ext L M):=by
 obtain ⟨l,g⟩:=zO q;obtain ⟨p,i⟩:=zO f;simp only [zw,c,l,g,p,i,n,uW,up,aLookup,a.1,a.2,yC,b,aFind_is a d k m 0,s];cases hm:mhas eq m k with
 | true=>simp [withOk,oo]
 | false =>
  have:wQ eq d m k=d:=by
   clear b
   induction m with
   | nil=>rfl
   | cons e r ih=>simp only [mhas,sy] at hm;simp only [wQ,hm.1,uh,uz];exact ih hm.2
  simp [withOk,oo,this]
theorem e_entry (c:o.op=.mapEntry t x y) (q:P.underlying t=some (.map kt et)) (a:KQ P kt kv eq) (v:aZeroM P et=some (vv d)) (u:yH env x=some (.map (h.blks.length+j))) (b:L[j]?=some (.mapo (m.map (mrow kv vv)) 0)) (g:yH env y=some (kv k))
  (p:L.set j (.mapo ((ment eq d m k).map (mrow kv vv)) 0)=B):zw P o env (h.ext L M)=.ok (.tup [vv (wQ eq d m k),.int .i64 (midx eq m k)]) (h.ext B M):=by
 obtain ⟨n,i⟩:=zO u;obtain ⟨s,l⟩:=zO g;subst p;simp only [zw,c,n,i,s,l,q,uW,up,aEntry,a.1,a.2,yC,b,aFind_is a d k m 0,v,ment];cases hm:mhas eq m k with
 | true =>
  have:L.set j (.mapo (m.map (mrow kv vv)) 0)=L:=by
   apply tb
   grind
  simp [ovh,this]
 | false =>
  have f:wQ eq d m k=d:=by
   clear b
   induction m with
   | nil=>rfl
   | cons e r ih=>simp only [mhas,sy] at hm;simp only [wQ,hm.1,uh,uz];exact ih hm.2
  simp [ovh,f,ext_put,mrow,midx_eq hm]
theorem e_entryStore {v:W} {i:Int} {n:IntKind} (u:o.op=.entryStore t x y z) (C:yH env x=some (.map (h.blks.length+j))) (E:L[j]?=some (.mapo ((ment eq d m k).map (mrow kv vv)) 0)) (w:yH env y=some (.int n i)) (hi:i=midx eq m k) {a:AV} (s:yH env z=some a) (b:a.zcl=vv v)
  (F:L.set j (.mapo ((mput eq m k v).map (mrow kv vv)) 0)=B):zw P o env (h.ext L M)=.ok aundef (h.ext B M):=by
 obtain ⟨q,l⟩:=zO C;obtain ⟨A,p⟩:=zO w;obtain ⟨r,D⟩:=zO s;subst F hi;have h0:(0:Int)<=(midx eq m k:Int):=by omega
 have key:∃e,(ment eq d m k)[midx eq m k]?=some e/\(ment eq d m k).set (midx eq m k) (e.1,v)=mput eq m k v:=by
  unfold ment;cases hm:mhas eq m k with
  | true =>
   have g:=midx_lt hm;exact ⟨m[midx eq m k],by simp [g],by simpa using mput_has hm (ui g)⟩
  | false =>
   refine ⟨(k,d),by simp [midx_eq hm],?_⟩;simp only [uh,uz,midx_eq hm];rw [<- mput_not hm];simp
 obtain ⟨e,f,c⟩:=key;simp only [zw,u,q,l,A,p,r,D,b,uW,up,aEntryStore,yC,E,h0,uw,pi,f,uV,oh,ext_put,<- c,List.map_set];rfl
theorem ops_mlen {Q:List AV->AH->Prop} {rest:List Oper} {a:List AV} {c:Call} (i:aG ops o env=some true) (p:o.op=.call c) (u:c.callee=.builtin .len) (s:c.args=#[x]) (b:c.argTypes=#[t]) (g:P.underlying t=some (.map kt et))
  (q:yH env x=some (.map (h.blks.length+j))) (r:L[j]?=some (.mapo (m.map (mrow kv vv)) 0)) (hd:qe o.dst env (.int .i64 m.length)=some a) (l:zG P ops Q rest a (h.ext L M)):zG P ops Q (o::rest) env (h.ext L M):=by
 obtain ⟨n,f⟩:=zO q;have key:zw P o env (h.ext L M)=.any λv e=>e=h.ext L M/\v=.int .i64 m.length:=by
  simp [zw,p,u,s,b,n,f,vU,g,yC,r]
 refine vT ?_;simp only [i,gwp,key,rwp]
 rintro v e ⟨rfl,rfl⟩
 rw [xL hd];exact l

theorem mgetD_app {eq:K->K->Bool} {d:W} {k:K} (a:eq k k=true):∀{m:List (K×W)},wQ eq d (m++[(k,d)]) k=wQ eq d m k
 | []=>by simp [wQ,a]
 | e::r=>by simp [wQ,mgetD_app a]
theorem mgetD_ment {eq:K->K->Bool} {d:W} {k:K} (a:eq k k=true) {m:List (K×W)}:wQ eq d (ment eq d m k) k=wQ eq d m k:=by
 unfold ment;split
 ·rfl
 ·exact mgetD_app a
def MapE (h:AH) (j:Nat) (m1 m2:List (AV×AV)) (x:AH):Prop:=∃B T,x=h.ext B T/\(B[j]?=some (.mapo m1 0) \/ B[j]?=some (.mapo m2 0))
theorem e_lookupF (e:o.op=.lookup t x y false) (g:P.underlying t=some (.map kt et)) (a:KQ P kt kv eq) (l:aZeroM P et=some (vv d)) (i:yH env x=some (.map (h.blks.length+j))) (f:yH env y=some (kv k)) :
  ∀c,MapE h j (m.map (mrow kv vv)) ((ment eq d m k).map (mrow kv vv)) c->zw P o env c=.ok (vv (wQ eq d m k)) c:=by
 rintro _ ⟨B,T,rfl,b | b⟩
 ·exact e_lookup e g a l i b f
 ·rw [<- mgetD_ment (m:=m) (d:=d) (a.2 k)];exact e_lookup e g a l i b f
theorem FOk.skip {b:Nat} {Ns:List Nat} {F:Nat->AH->Prop} {h:AH} (c:Ns.all (λn=>b.testBit n)=true):FOk b Ns F h:=λn e a=>by
 simp_all
end
end Go.Vv
namespace Go.Vv
open Go Go.RowKit
variable {ops:Array Oper} {rest:List Oper} {env':List AV}
section
variable {α ρ σ:Type}
open Classical in
end
section
variable {P:Program} {env:List AV} {h:AH} {Q:Exit->List AV->AH->Prop}
theorem ops_entryM {K W:Type} {kv:K->AV} {vv:W->AV} {Q:List AV->AH->Prop} {o:Oper} {env:List AV} {h:AH} {L:List Blk} {M:List Nat} {x:Operand} {m:List (K×W)} {id j i:Nat} {y:K×W} {a:List Nat}
  (e:aG ops o env=some true) (k:o.op=.entry x) (n:yH env x=some (.ptr (h.blks.length+j) 0)) (q:L[j]?=some (.miter id m.length (a++[i]))) (d:(h.ext L M).blk id=some (.mapo (m.map (mrow kv vv)) 0)) (l:m[i]?=some y)
  (hd:qe o.dst env (.tup [kv y.1,vv y.2])=some env') (f:zG P ops Q rest env' (h.ext L M)):zG P ops Q (o::rest) env (h.ext L M):=by
 obtain ⟨g,c⟩:=zO n;have key:vB P o env (h.ext L M)=some [(.tup [kv y.1,vv y.2],h.ext L M)]:=by
  simp [vB,k,g,c,yC,q,d,l,mrow]
 refine awpOps_consB e ⟨_,key,λp b=>?_⟩;simp only [uM] at b;subst b;show zG P ops Q rest (setd env o.dst (.tup [kv y.1,vv y.2])) _;rw [xL hd];exact f
theorem ops_b {Q:List AV->AH->Prop} {o:Oper} {env:List AV} {h a:AH} {v:AV} (e:aG ops o env=some true) (d:vB P o env h=some [(v,a)]) (hd:qe o.dst env v=some env') (c:zG P ops Q rest env' a):zG P ops Q (o::rest) env h:=by
 refine awpOps_consB e ⟨_,d,λp b=>?_⟩;simp only [uM] at b;subst b;show zG P ops Q rest (setd env o.dst v) a;rw [xL hd];exact c
end
end Go.Vv
