/- More rules: guards, places in slices and texts, drawn orders, folded loops. -/
import Derived.Test.YtgobgfehoplnjaaGreatVvO
import Derived.Shelf.Strings.OnBuilder
import Derived.Shelf.Strings.SplitShaped
import Derived.Shelf.Small.Strs
set_option linter.all false
namespace Go.Vv
open Go
variable {b t q r:Bool} {l:List (TypeId×AV)} {f:Operand} {g:FuncId} {args:List AV}

theorem zkm {ops:Array Oper} {o:Oper} {env:List AV} {j d:Nat} {want b c:Bool} (hg:o.guard=some (j,want)) (hd:(ops[j]?).bind (·.dst)=some d) (he:env[d]?=some (gv b (.bool c))):aG ops o env=some (b&&(c==want)):=by
 simp only [aG,hg,hd,he];cases b <;> simp [gv,xo]
theorem zN {env:List AV} {x:Operand} {v:AV} (a:yu env x=some (gv b v)) (c:b=true):yu env x=some v:=by subst c;rw [rE] at a;exact a
theorem zvr {a:Bool} (h:(a&&b)=true):a=true:=by simp_all
theorem zpA:(if t then AV.bool q else .bool r)=.bool (if t then q else r):=by grind
theorem znj (a:t=true->b=true):(if t then gv b (.bool q) else .bool false)=AV.bool (t&&q):=by cases t <;> simp [gv] ; simp [a rfl]
theorem zpv (a:t=false->b=true):(if t then .bool true else gv b (.bool q))=AV.bool (t || q):=by cases t <;> simp [gv] ; simp [a rfl]
theorem zpz (a:t=true->b=true):(if t then gv b (.bool q) else .bool r)=AV.bool (if t then q else r):=by cases t <;> simp [gv] ; simp [a rfl]
theorem zpy (a:t=false->b=true):(if t then .bool r else gv b (.bool q))=AV.bool (if t then r else q):=by cases t <;> simp [gv] ; simp [a rfl]
theorem zpx {c:Bool} (d:t=true->b=true) (a:t=false->c=true):(if t then gv b (.bool q) else gv c (.bool r))=AV.bool (if t then q else r):=by cases t <;> simp [gv] <;> simp [d,a]
theorem zpw {k:IntKind} {a b:Int}:(if t then AV.int k a else .int k b)=.int k (if t then a else b):=by grind
theorem zni {k:IntKind} {x y:Int} (a:t=true->b=true):(if t then gv b (.int k x) else .int k y)=AV.int k (if t then x else y):=by cases t <;> simp [gv] ; simp [a rfl]
theorem znh {k:IntKind} {x y:Int} (a:t=false->b=true):(if t then .int k y else gv b (.int k x))=AV.int k (if t then y else x):=by cases t <;> simp [gv] ; simp [a rfl]


section
variable {P:Program} {ops:Array Oper} {Q:List AV->AH->Prop} {o:Oper} {rest:List Oper} {env env':List AV} {h:AH}
variable {i:Nat} {Ns:List Nat} {F:Nat->AH->Prop}
theorem zfi (a:Q env h):zI P ops Ns F Q i [] env h:=a
theorem yn (e:Ns.contains i=false) {v:AV} (d:aG ops o env=some true) (c:zj P o env h=.ok v h) (hd:tq o.dst env v=some env') (a:zI P ops Ns F Q (i+1) rest env' h):zI P ops Ns F Q i (o::rest) env h :=
 ⟨v,h,.inl ⟨e,by simp only [AR,d,c,jZ]⟩,.inr rfl,.inl rfl,by rw [yT hd];exact a⟩
theorem uA (k:Ns.contains i=false) {v:AV} {c:AH} (a:fY ((Region.before ops).getD i 0) Ns F c) (m:zqI ops Ns i=true) (j:aG ops o env=some true) (e:zj P o env h=.ok v c) (hd:tq o.dst env v=some env') (d:zI P ops Ns F Q (i+1) rest env' c):zI P ops Ns F Q i (o::rest) env h :=
 ⟨v,c,.inl ⟨k,by simp only [AR,j,e,jZ]⟩,.inl m,.inr a,by rw [yT hd];exact d⟩
theorem qm (e:Ns.contains i=false) {n:Nat} {v:AV} (d:aG ops o env=some true) (c:zj P o env h=.len n v h) (hd:tq o.dst env v=some env') (a:zI P ops Ns F Q (i+1) rest env' h):zI P ops Ns F Q i (o::rest) env h :=
 ⟨v,h,.inl ⟨e,by simp only [AR,d,c,jZ]⟩,.inr rfl,.inl rfl,by rw [yT hd];exact a⟩
theorem wi (j:Ns.contains i=false) {f:FuncId} {args:List AV} {v:AV} (e:aG ops o env=some true) (d:zj P o env h=.call f args) (hs:Spec P f args h λr c=>r=v/\c=h) (hd:tq o.dst env v=some env') (a:zI P ops Ns F Q (i+1) rest env' h) :
  zI P ops Ns F Q i (o::rest) env h:=⟨v,h,.inl ⟨j,by simp only [AR,e,d];exact hs⟩,.inr rfl,.inl rfl,by rw [yT hd];exact a⟩
theorem yH (j:Ns.contains i=true) {f:FuncId} {args:List AV} {v:AV} (e:aG ops o env=some true) (d:∀a,zj P o env a=.call f args) (hs:∀a,F i a->Spec P f args a λr hh=>r=v/\hh=a) (hd:tq o.dst env v=some env') (c:zI P ops Ns F Q (i+1) rest env' h) :
  zI P ops Ns F Q i (o::rest) env h:=⟨v,h,.inr (.inl ⟨j,e,rfl,.inl ⟨f,args,d,hs⟩⟩),.inr rfl,.inl rfl,by rw [yT hd];exact c⟩
theorem yM (j:Ns.contains i=true) {v:AV} (e:aG ops o env=some true) (d:∀a,F i a->zj P o env a=.ok v a) (hd:tq o.dst env v=some env') (c:zI P ops Ns F Q (i+1) rest env' h) :
  zI P ops Ns F Q i (o::rest) env h:=⟨v,h,.inr (.inl ⟨j,e,rfl,.inr d⟩),.inr rfl,.inl rfl,by rw [yT hd];exact c⟩
theorem wV (d:Ns.contains i=false) {b:Bool} {v:AV} (c:aG ops o env=some b) (e:b=true->zj P o env h=.ok v h) (hd:tq o.dst env (gv b v)=some env') (a:zI P ops Ns F Q (i+1) rest env' h):zI P ops Ns F Q i (o::rest) env h:=by
 cases b with
 | true=>rw [rE] at hd;exact yn d c (e rfl) hd a
 | false=>exact ⟨xo,h,.inl ⟨d,by simp [AR,c]⟩,.inr rfl,.inl rfl,by rw [pq] at hd;rw [yT hd];exact a⟩
theorem qv (d:Ns.contains i=false) {b:Bool} {n:Nat} {v:AV} (c:aG ops o env=some b) (e:b=true->zj P o env h=.len n v h) (hd:tq o.dst env (gv b v)=some env') (a:zI P ops Ns F Q (i+1) rest env' h):zI P ops Ns F Q i (o::rest) env h:=by
 cases b with
 | true=>rw [rE] at hd;exact qm d c (e rfl) hd a
 | false=>exact ⟨xo,h,.inl ⟨d,by simp [AR,c]⟩,.inr rfl,.inl rfl,by rw [pq] at hd;rw [yT hd];exact a⟩
theorem uK (d:Ns.contains i=false) {b:Bool} {f:FuncId} {args:List AV} {v:AV} (c:aG ops o env=some b) (j:b=true->zj P o env h=.call f args) (hs:b=true->Spec P f args h λr e=>r=v/\e=h)
  (hd:tq o.dst env (gv b v)=some env') (a:zI P ops Ns F Q (i+1) rest env' h):zI P ops Ns F Q i (o::rest) env h:=by
 cases b with
 | true=>rw [rE] at hd;exact wi d c (j rfl) (hs rfl) hd a
 | false=>exact ⟨xo,h,.inl ⟨d,by simp [AR,c]⟩,.inr rfl,.inl rfl,by rw [pq] at hd;rw [yT hd];exact a⟩
variable {i0:Nat}
end

inductive Fx (P:Program):List (TypeId×AV)->List AV->Prop
 | nil:Fx P [] []
 | cons {t:TypeId} {v v':AV} {r:List (TypeId×AV)} {s:List AV}:w6 P t v=v'->Fx P r s->Fx P ((t,v)::r) (v'::s)
theorem Fx.eq {P:Program} {s:List AV} (h:Fx P l s):zqQ P l=s:=by
 induction h with
 | nil=>rfl
 | cons h _ ih=>simp only [zqQ,h,ih]
theorem yb {P:Program} {o:Oper} {env:List AV} {h:AH} {c:Call} (d:o.op=.call c) (k:c.callee=.value f) (a:yu env f=some (.fn (.func g) [] []))
  (e:pH env c.args.toList c.argTypes.toList=some l) (j:Fx P l args):zj P o env h=.call g args :=
 zox d k a e (by simp [j.eq])
theorem zb4 {P:Program} {o:Oper} {env:List AV} {h:AH} {c:Call} {first caps all:List AV} (e:o.op=.call c) (m:c.callee=.value f) (d:yu env f=some (.fn (.func g) first caps))
  (j:pH env c.args.toList c.argTypes.toList=some l) (k:Fx P l args) (a:first++args++caps=all):zj P o env h=.call g all :=
 zox e m d j (by rw [k.eq,a])
theorem ztB {P:Program} {Q:Exit->List AV->AH->Prop} {env:List AV} {h:AH} {body:Code} {σ:Type} (U:σ->List (Nat×AV)) (a:σ->Prop) (d:σ->Nat) (e:σ) {E:σ->List AV} (k:∀s,cV env (U s)=E s) (h0:fd env (E e)) (hi:a e)
  (hs:∀s,a s->wO P body (tG (λenv' j=>∃c,a c/\d c < d s/\wk h env' j (E c) h) Q) (E s) h):wO P (.loop body) Q env h :=
 zfX E (λ_=>h) a d e (wk.le h0) hi hs
end Go.Vv
namespace Go.Vv
open Go
variable {j off n:Nat} {cs cs' ds z:List AV} {v v':AV} {t e:TypeId} {x:Operand} {d:TypeDesc} {fn:Func} {f:FuncId} {l l':List (Nat×AV)} {ks:List Kd}

def AH.ext (h:AH) (L:List q6) (M:List Nat):AH:={ zh:=h.zh++L,zs:=h.zs++M }
theorem pN (h:AH):h.ext [] []=h:=by simp [AH.ext]
theorem zW {h:AH} {L:List q6} {M:List Nat}:(h.ext L M).gZ (h.zh.length+j)=L[j]?:=by
 simp only [AH.gZ,AH.ext]
 grind
theorem zaV {h:AH} {L:List q6} {M:List Nat} {b:q6}:(h.ext L M).new b=h.ext (L++[b]) M:=by simp [AH.ext,AH.new,li]
theorem wU {h:AH} {L:List q6} {M:List Nat} {b:q6}:(h.ext L M).put (h.zh.length+j) b=h.ext (L.set j b) M:=by
 simp only [AH.ext,AH.put]
 simp_all
theorem zl4 {h:AH} {L:List q6} {M:List Nat}:(h.ext L M).cut h.zh.length h.zs.length=h:=by
 simp [AH.cut,AH.ext]
def dW (ag:Bool) (k off:Nat) (cs:List AV):Option AV:=if ag then (if off+k<=cs.length then some (.agg ((cs.drop off).take k)) else none) else cs[off]?
theorem zB {k:Nat} (h:cs[off]?=some v):dW false k off cs=some v:=h
theorem ziQ {k:Nat} (h:Nat.ble (off+k) cs.length=true) (a:(cs.drop off).take k=cs'):dW true k off cs=some (.agg cs'):=by
 simp only [dW,nv,lc (l7 h),a]

section
variable {P:Program} {o:Oper} {env:List AV} {h:AH} {L:List q6} {M:List Nat}
theorem nG (b:o.op=.alloc t) (c:yX P t=some cs) (a:L.length=n):zj P o env (h.ext L M)=.ok (.ptr (h.zh.length+n) 0) (h.ext (L++[.cells cs]) M):=by
 rw [zpf b c,zaV,<- a];simp [AH.ext]
theorem zvf {a a':AV} (c:o.op=.box t x) (i:yu env x=some a) (b:w6 P t a=a') (g:a'.cells?=some cs) (k:L.length=n) :
  zj P o env (h.ext L M)=.ok (.ptr (h.zh.length+n) 0) (h.ext (L++[.cells cs]) M):=by
 rw [zts c i b g,zaV,<- k];simp [AH.ext]
theorem xM {k:Nat} (b:o.op=.load t x) (i:Ty P t d k) (m:yu env x=some (.ptr (h.zh.length+j) off)) (c:L[j]?=some (.cells cs))
  (g:dW (ye d) k off cs=some v) (a:w6 P t v=v'):zj P o env (h.ext L M)=.ok v' (h.ext L M):=by
 refine zfJ b i m ?_ a;simp only [tU,zW,c];exact g
theorem zi7 {k:Nat} (b:o.op=.load t x) (g:Ty P t d k) (i:yu env x=some (.fI cs))
  (c:dW (ye d) k 0 cs=some v) (a:w6 P t v=v'):zj P o env h=.ok v' h:=by
 refine zfJ b g i ?_ a;simp only [tU];simpa only [dW,l6,k9] using c
theorem uE {k:Nat} {y:Operand} {vs:List AV} {b a:AV} (g:o.op=.store t x y) (q:Ty P t d k) (u:yu env x=some (.ptr (h.zh.length+j) off)) (p:yu env y=some b)
  (c:w6 P t b=a) (s:a.cells?=some vs) (m:vs.length=k) (i:L[j]?=some (.cells cs)) (r:Nat.ble (off+k) cs.length=true) (hs:yI cs off vs=cs'):zj P o env (h.ext L M)=.ok xo (h.ext (L.set j (.cells cs')) M):=by
 refine zes g q u p c ?_;simp only [p7,s,zW,i];rw [lc ⟨m,l7 r⟩,wU,hs]
end
theorem zo2 {h:AH} {L0 L1 L':List q6} {M0 M1 M':List Nat} {env:List AV} (p:zA (h.zh.length+L0.length) (h.zs.length+M0.length) env=true) (s:L'.take L0.length=L1) (q:M'.take M0.length=M1)
  (r:∀(i:Nat) (k:q6),L1[i]?=some k->L0[i]?=some k \/ k.low (h.zh.length+L0.length) (h.zs.length+M0.length)=true) :
  wk (h.ext L0 M0) env (h.ext L' M') env (h.ext L1 M1):=by
 have b:(h.ext L0 M0).zh.length=h.zh.length+L0.length:=by simp [AH.ext]
 have c:(h.ext L0 M0).zs.length=h.zs.length+M0.length:=by simp [AH.ext]
 have:=wk.cut (hd:=h.ext L0 M0) (env:=env) (h:=h.ext L' M') (by rw [b,c];exact p) (λi k hi a=>by
  rw [b] at hi;rw [b,c];simp only [AH.ext] at a ⊢;rcases kR i h.zh.length with g | g
  ·rw [o4 g] at a ⊢;exact .inl a
  ·rw [pa g] at a ⊢;exact r (i - h.zh.length) k (by grind))
 have m:(h.ext L' M').cut (h.ext L0 M0).zh.length (h.ext L0 M0).zs.length=h.ext L1 M1:=by
  rw [b,c];simp only [AH.cut,AH.ext,kz,la,s,q];rw [lm (l:=h.zh) (by omega),lm (l:=h.zs) (by omega)]
 rw [m] at this;exact this
theorem zqp {P:Program} {o:Oper} {env:List AV} {h:AH} {L:List q6} {M:List Nat} {s:List UInt8} {k:Nat} (a:o.op=.range t x) (g:Ty P t .string k) (i:yu env x=some (.str s)) (m:L.length=n) :
  zj P o env (h.ext L M)=.ok (.ptr (h.zh.length+n) 0) (h.ext (L++[.f7 s 0]) M):=by
 obtain ⟨c,b⟩:=zD i;simp only [zj,a,c,nv,g.u,b,zaV,<- m];simp [AH.ext]
theorem zno {P:Program} {b:Array Oper} {Q:List AV->AH->Prop} {o:Oper} {rest:List Oper} {env:List AV} {w:List AV} {r:List AV} {h:AH} {L:List q6} {M:List Nat} {s:List UInt8} {a:Nat} (p:aG b o env=some true) (u:o.op=.next x true)
  (A:yu env x=some (.ptr (h.zh.length+j) 0)) (y:L[j]?=some (.f7 s a)) (k:tq o.dst env (.fk [.bool true,.int .i64 a,.int .i32 (dec s a).1])=some w) (c:tq o.dst env (.fk [.bool false])=some r)
  (i:a < s.length->zu P b Q rest w (h.ext (L.set j (.f7 s (a+(dec s a).2))) M)) (g:s.length<=a->zu P b Q rest r (h.ext L M)):zu P b Q (o::rest) env (h.ext L M):=by
 obtain ⟨q,m⟩:=zD A;by_cases hp:a < s.length
 ·refine zy p ?_ k (i hp);simp only [zj,u,q,lI,nv,m,zop,zW,y,hp,wU]
 ·refine zy p ?_ c (g (by omega));simp only [zj,u,q,lI,nv,m,zop,zW,y,hp,lg]
section
variable {P:Program} {env:List AV} {h:AH} {rs:List ResultVar} {vs:List AV}
theorem zkY:t7 P env h []=some []:=rfl
theorem zit {t:Nat} (b:yu env (.tmp t)=some v) (k:t7 P env h rs=some vs):t7 P env h (.tmp t::rs)=some (v::vs):=by
 have a:env.getD t xo=v:=by rw [lz,show env[t]?=some v from b];rfl
 simp only [t7,k,a]
theorem zkZ {a t:Nat} {k:Nat} {L:List q6} {M:List Nat} (c:Ty P t d k) (g:yu env (.tmp a)=some (.ptr (h.zh.length+j) 0)) (m:L[j]?=some (.cells cs)) (p:dW (ye d) k 0 cs=some v) (w:w6 P t v=v')
  (r:t7 P env (h.ext L M) rs=some vs):t7 P env (h.ext L M) (.cell a t::rs)=some (v'::vs):=by
 have b:env.getD a xo=.ptr (h.zh.length+j) 0:=by rw [lz,show env[a]?=some _ from g];rfl
 obtain ⟨i,s,q⟩:=c.i;simp only [t7,c.u,s,q,b,tU,zW,m,r];have e:(if ye d then if 0+k<=cs.length then some (AV.agg ((cs.drop 0).take k)) else none else cs[0]?)=some v:=p
 simp_all
theorem zhe {K:AV->AH->Prop} {h0:AH} (c:fn.results=⟨rs⟩) (a:t7 P env h rs=some [v]) (b:oR h0 K v h):rB P fn h0 K .ret env h:=by
 simp only [rB,az,c,a];exact b
end
theorem wa {h:AH} {L:List q6} {M:List Nat} {K:AV->AH->Prop} (b:g6 v v') (c:v'.low h.zh.length h.zs.length=true) (a:K v' h):oR h K v (h.ext L M):=by
 refine zqi b c (λi k hi a=>.inl ?_) (by rw [zl4];exact a);simp only [AH.ext] at a
 grind
theorem zr {P : Program} {c : Code} (hf : P.funcs[f]? = some fn) (hb : fn.body = some c) (hname : (fn.name == "runtime.NumGoroutine") = false) {args : List AV} {h : AH} {K : AV → AH → Prop} {env : List AV}
  (he:args++List.replicate (fn.ntmps - args.length) xo=env) (hw:wO P c (rB P fn h K) env (h.ext [] [])):Spec P f args h K:=by
 rw [pN] at hw;exact zba hf hb hname (by simp_all)
theorem yj (hd:ye d=true) {k off:Nat} {cs cs':List AV} (h:Nat.ble (off+k) cs.length=true) (a:(cs.drop off).take k=cs'):dW (ye d) k off cs=some (.agg cs'):=by
 rw [hd];exact ziQ h a
theorem vR {P:Program} {k:Nat} (a:P.underlying t=some d) (hi:(P.info? t).map (λi=>i.size)=some k):Ty P t d k:=by
 refine ⟨a,?_⟩
 simp_all
theorem vi {P:Program} {u:TypeId} {f k:Nat} (a:rf P t f=some (off,u)) (hi:(P.info? u).map (λi=>i.size)=some k):Fo P t f off u k:=by
 refine ⟨a,?_⟩
 simp_all
theorem cU {P:Program} {k:Nat} (a:P.underlying t=some (.slice e)) (hi:(P.info? e).map (λi=>(i.size,decide (i.bytes<=65536)&&decide (0 < k)&&(i.zero.map (·.cells.size))==some k))=some (k,true)):El P t e k:=by
 refine ⟨a,?_⟩;cases h:P.info? e with
 | none=>rw [h] at hi;cases hi
 | some i =>
  simp_all
theorem w64 {n:Int} (h:-9223372036854775808<=n/\n<=9223372036854775807):IntKind.i64.wrap n=n:=by rw [IntKind.wrap_i64];omega
theorem oa {n m:Int} (e:n=m) (h:-9223372036854775808<=n/\n<=9223372036854775807):AV.int .i64 (IntKind.i64.wrap n)=.int .i64 m:=by rw [w64 h,e]
theorem vt {env:List AV}:pH env [] []=some []:=rfl
theorem xq {env:List AV} {r:List Operand} {ts:List TypeId} {l:List (TypeId×AV)} (h:yu env x=some v) (k:pH env r ts=some l):pH env (x::r) (t::ts)=some ((t,v)::l):=by
 simp only [pH,h,k]
theorem zvV (h:n<=maxLen):n<=9223372036854775807:=h
theorem Spec.le {P:Program} {a5 bs:List AV} {h:AH} {K:AV->AH->Prop} (s:Spec P f bs h K) (k:fd a5 bs):Spec P f a5 h K :=
 ⟨s.1,λB w0 _ g w vs r a=>s.2 B w0 g w vs r (k _ _ a)⟩
abbrev zpt:=wA
structure PK (P:Program) (t:TypeId) (ks:List Kd):Prop where
 g:P.eqGuardType P.depth t=false
 a:(P.underlying t).any ye=true
 k:wA P 6 t=some ks
theorem zuV {P:Program} (a:P.eqGuardType P.depth t=false) (b:(P.underlying t).any ye=true) (c:zpt P 6 t=some ks):PK P t ks:=⟨a,b,c⟩
theorem rz {P:Program} {b:Bool} (c:PK P t ks) (h:tY ks cs ds=some b):yF P .eql t (.agg cs) (.agg ds)=some (.bool b):=by
 simp only [yF,cN,c.g,c.a,c.k,iP,jZ,nv,h,lM]
theorem pG {P:Program} {b:Bool} (c:PK P t ks) (h:tY ks cs ds=some b):yF P .neq t (.agg cs) (.agg ds)=some (.bool !b):=by
 simp only [yF,cN,c.g,c.a,c.k,iP,jZ,nv,h,lM]
structure PKA (P:Program) (t:TypeId) (ks:List Kd):Prop where
 g:P.eqGuardType P.depth t=false
 a:(P.underlying t).any ye=true
 k:(wA P 6 t).or (zoi P t)=some ks
def nR (env:List AV):List (Nat×Operand)->Option (List (Nat×AV))
 | []=>some []
 | (i,x)::r=>match yu env x,nR env r with
  | some v,some vs=>some ((i,v)::vs)
  | _,_=>none
theorem zal {env:List AV}:nR env []=some []:=rfl
theorem zdt {env:List AV} {i:Nat} {r:List (Nat×Operand)} (h:yu env x=some v) (k:nR env r=some l):nR env ((i,x)::r)=some ((i,v)::l):=by simp only [nR,h,k]
inductive Fp (P:Program) (d:TypeDesc):List (Nat×AV)->List (Nat×AV)->Prop
 | nil:Fp P d [] []
 | cons {i:Nat} {v v':AV} {r s:List (Nat×AV)}:w6 P (ziz d i) v=v'->Fp P d r s->Fp P d ((i,v)::r) ((i,v')::s)
theorem zby {P:Program} {d:TypeDesc} {env:List AV}:∀{parts:List (Nat×Operand)} {l l':List (Nat×AV)},nR env parts=some l->Fp P d l l' ->
  parts.all (λp=>yl p.2)=true/\parts.map (λp=>(p.1,w6 P (ziz d p.1) (ev env p.2)))=l'
 | [],l,l',h,hf=>by simp only [nR,p3] at h;subst h;cases hf;exact ⟨rfl,rfl⟩
 | (i,x)::r,l,l',h,hf=>by
  simp only [nR] at h;split at h
  ·rename_i v vs b a;cases h;cases hf with
   | cons h1 h2 =>
    obtain ⟨m,g⟩:=zby a h2;obtain ⟨k,c⟩:=zD b
    grind
  ·cases h
theorem zkT {P:Program} {o:Oper} {env:List AV} {h:AH} {parts:List (Nat×Operand)} {fs:Array Field} {b:List (Nat×Nat)} (q:o.op=.build t ⟨parts⟩) (s:P.underlying t=some (.struct fs)) (g:yX P t=some z)
  (k:zaK P fs=some b) (r:nR env parts=some l) (m:Fp P (.struct fs) l l') (w:qq (λi=>b[i]?) z l'=some cs) (u:cs=cs'):zj P o env h=.ok (.agg cs') h:=by
 obtain ⟨y,c⟩:=zby r m;have a:(⟨parts⟩:Array (Nat×Operand)).all (λp=>yl p.2)=true:=by grind
 simp only [zj,q,a,nv,s,g,k,xO,c,w,lM,oo,u]
theorem zaE {P:Program} {o:Oper} {env:List AV} {h:AH} {k:Nat} {parts:List (Nat×Operand)} (q:o.op=.build t ⟨parts⟩) (s:P.underlying t=some (.array n e)) (g:yX P t=some z)
  (y:Ty P e d k) (r:nR env parts=some l) (m:Fp P (.array n e) l l') (A:qq (λi=>some (i * k,k)) z l'=some cs) (w:cs=cs'):zj P o env h=.ok (.agg cs') h:=by
 obtain ⟨B,b⟩:=zby r m;obtain ⟨j,u,c⟩:=y.i;have a:(⟨parts⟩:Array (Nat×Operand)).all (λp=>yl p.2)=true:=by grind
 simp only [zj,q,a,nv,s,g,u,c,xO,b,A,lM,oo,w]
theorem xh {P:Program} {o:Oper} {env:List AV} {h:AH} {k:Nat} {parts:List (Nat×Operand)} {es:List (List AV)} (y:o.op=.buildSlice t n ⟨parts⟩) (c:El P t e k) (s:yX P e=some z)
  (m:Nat.ble (n * k) 65536=true) (a:z.length=k) (A:nR env parts=some l) (w:Fp P (.slice e) l l') (D:qq (λi=>some (i * k,k)) ((List.replicate n z).flatten) l'=some cs) (E:xH cs=some cs') (B:rows k n cs'=es) :
  zj P o env h=.ok (.gW none k es) h:=by
 obtain ⟨F,g⟩:=zby A w;obtain ⟨j,C,q,_,r,_⟩:=c.i;have b:(⟨parts⟩:Array (Nat×Operand)).all (λp=>yl p.2)=true:=by grind
 simp only [zj,y,b,nv,c.u,s,C,q,xO,g,D,E,B,r,l7 m,a,jZ]
end Go.Vv
namespace Go.Vv
open Go
variable {i:Nat} {c:Operand} {body:Code} {N:List AV->AH->Prop}

abbrev zq:=List UInt8
def dy (k:IntKind) (n:Int):Prop:=k.min<=n/\n<=k.max
inductive Out (ρ σ:Type) where
 | ret (r:ρ)
 | brk (s:σ)
 | gV (s:σ)
section
variable {α ρ σ:Type}
def zf (f:Nat->α->σ->Option (Out ρ σ)):List α->Nat->σ->Option (ρ ⊕ σ)
 | [],_,s=>some (.inr s)
 | x::t,i,s=>match f i x s with
  | none=>none
  | some (.ret r)=>some (.inl r)
  | some (.brk s')=>some (.inr s')
  | some (.gV s')=>zf f t (i+1) s'
def vS (f:σ->Option (Out ρ σ)):Nat->σ->Option (ρ ⊕ σ)
 | 0,_=>none
 | n+1,s=>match f s with
  | none=>none
  | some (.ret r)=>some (.inl r)
  | some (.brk s')=>some (.inr s')
  | some (.gV s')=>vS f n s'
theorem zaO {f:σ->Option (Out ρ σ)}:∀{n m:Nat} {s:σ} {o:ρ ⊕ σ},vS f n s=some o->n<=m->vS f m s=some o
 | 0,_,_,_,h,_=>by simp [vS] at h
 | n+1,0,_,_,_,hl=>by omega
 | n+1,m+1,s,o,h,hl=>by
  simp only [vS] at h ⊢;rcases hf:f s with _ | (r | a | a) <;> rw [hf] at h <;> simp only at h ⊢
  ·cases h
  ·exact h
  ·exact h
  ·exact zaO h (by omega)
open Classical in
noncomputable def zY (f:σ->Option (Out ρ σ)) (s:σ):Option (ρ ⊕ σ) :=
 if h:∃n o,vS f n s=some o then some (Classical.choose (kW h)) else none
theorem zbF {f:σ->Option (Out ρ σ)} {n:Nat} {s:σ} {o:ρ ⊕ σ} (h:vS f n s=some o):zY f s=some o:=by
 have a:∃n o,vS f n s=some o:=⟨n,o,h⟩
 unfold zY;rw [gI a];have b:=kW (kW a);have d:=zaO b (Nat.le_max_left _ n);have e:=zaO h (Nat.le_max_right (Classical.choose a) n)
 grind
theorem mJ {f:σ->Option (Out ρ σ)} {s:σ} {o:ρ ⊕ σ} (h:zY f s=some o):∃n,vS f n s=some o:=by
 unfold zY at h;split at h
 ·grind
 ·cases h
theorem yE (f:σ->Option (Out ρ σ)) (s:σ):zY f s=match f s with
  | none=>none
  | some (.ret r)=>some (.inl r)
  | some (.brk b)=>some (.inr b)
  | some (.gV b)=>zY f b:=by
 rcases hf:f s with _ | (r | b | b) <;> simp only
 ·cases hx:zY f s with
  | none=>rfl
  | some o =>
   obtain ⟨n,a⟩:=mJ hx;cases n <;> simp [vS,hf] at a
 ·exact zbF (n:=1) (by simp only [vS,hf])
 ·exact zbF (n:=1) (by simp only [vS,hf])
 ·cases hx:zY f b with
  | some o =>
   obtain ⟨n,a⟩:=mJ hx;exact zbF (n:=n+1) (by simp only [vS,hf];exact a)
  | none =>
   cases hy:zY f s with
   | none=>rfl
   | some o =>
    obtain ⟨n,a⟩:=mJ hy;cases n with
    | zero=>simp [vS] at a
    | succ n =>
     simp only [vS,hf] at a;rw [zbF a] at hx;cases hx
def lp (o:Option (ρ ⊕ σ)) (rest:σ->Option ρ):Option ρ :=
 match o with
 | none=>none
 | some (.inl r)=>some r
 | some (.inr s)=>rest s
def zQ (p:Prop) [Decidable p] (o:Option ρ):Option ρ:=if p then o else none
def zS (L:List α) (n:Int):Option α:=if 0<=n then L[n.toNat]? else none
def fL (L:List α) (lo hi:Int):Option (List α):=if 0<=lo/\lo<=hi/\hi<=L.length then some ((L.take hi.toNat).drop lo.toNat) else none

theorem zd {α ρ:Type} {o:Option α} {k:α->Option ρ} {r:ρ} {G:Prop} (a:o.bind k=some r) (b:∀v,o=some v->k v=some r->G):G:=by
 cases o with
 | none=>cases a
 | some v=>exact b v rfl a
theorem qc {α ρ:Type} {b:Bool} {d:α} {o:Option α} {k:α->Option ρ} {r:ρ} {G:Prop} (a:(if b=true then o else some d).bind k=some r) (e:∀v,(b=true->o=some v)->k v=some r->G):G:=by
 cases b with
 | false=>exact e d (λh=>by cases h) a
 | true =>
  cases o with
  | none=>cases a
  | some v=>exact e v (λ_=>rfl) a
theorem zM {p:Prop} [Decidable p] {o:Option ρ} {r:ρ} {G:Prop} (a:zQ p o=some r) (b:p->o=some r->G):G:=by
 unfold zQ at a
 simp_all
theorem zqP {L:List α} {n:Int} {y:α} (h:zS L n=some y):0<=n/\L[n.toNat]?=some y:=by
 unfold zS at h
 simp_all
theorem zvz {L M:List α} {lo hi:Int} (h:fL L lo hi=some M):(0<=lo/\lo<=hi/\hi<=L.length)/\M=(L.take hi.toNat).drop lo.toNat:=by
 unfold fL at h
 simp_all

def zs6 (f:Nat->α->σ->Option (Out ρ σ)) (L:List α) (i:Nat) (rest:σ->Option ρ):Out ρ σ->Option ρ
 | .ret r=>some r
 | .brk s=>rest s
 | .gV s=>lp (zf f (L.drop (i+1)) (i+1) s) rest
def zs5 (f:σ->Option (Out ρ σ)) (n:Nat) (rest:σ->Option ρ):Out ρ σ->Option ρ
 | .ret r=>some r
 | .brk s=>rest s
 | .gV s=>lp (vS f n s) rest
def zvZ (rest:σ->Option ρ):ρ ⊕ σ->Option ρ
 | .inl r=>some r
 | .inr s=>rest s
theorem zdz {f:Nat->α->σ->Option (Out ρ σ)} {L:List α} {s:σ} {rest:σ->Option ρ} {d:ρ} (h:lp (zf f (L.drop i) i s) rest=some d) (b:i < L.length) :
  ∃x g,L[i]?=some x/\f i x s=some g/\zs6 f L i rest g=some d:=by
 have e:=(j5 b).symm;rw [e] at h;refine ⟨L[i],?_⟩;simp only [zf] at h;split at h
 ·cases h
 ·rename_i r a;exact ⟨.ret r,s5 b,a,h⟩
 ·rename_i r a;exact ⟨.brk r,s5 b,a,h⟩
 ·rename_i r a;exact ⟨.gV r,s5 b,a,h⟩
theorem zge {f:Nat->α->σ->Option (Out ρ σ)} {L:List α} {s:σ} {rest:σ->Option ρ} {a:ρ} (h:lp (zf f (L.drop i) i s) rest=some a) (b:¬ i < L.length):rest s=some a:=by
 rw [lZ (by omega)] at h;exact h
theorem lpF {o:Option (ρ ⊕ σ)} {rest:σ->Option ρ} {b:ρ} (h:lp o rest=some b):∃a,o=some a/\zvZ rest a=some b:=by
 cases o with
 | none=>cases h
 | some a=>cases a <;> exact ⟨_,rfl,h⟩
end
section
variable {P:Program} {Q:Exit->List AV->AH->Prop} {env:List AV} {h:AH} {α ρ σ:Type}
theorem tB {t e:Code} {b:Bool} {A B:Option ρ} {r:ρ} (j:yu env c=some (.bool b)) (a:(if b=true then A else B)=some r) (g:b=true->A=some r->wO P t Q env h) (f:b=false->B=some r->wO P e Q env h) :
  wO P (.cond c t e) Q env h:=by
 refine pZ j (λd=>g d ?_) (λd=>f d ?_)
 ·simp_all
 ·simp_all
theorem zpq {f:Nat->α->σ->Option (Out ρ σ)} {L:List α} {s:σ} {rest:σ->Option ρ} {b:ρ} {t e:Code} (l:yu env c=some (.bool (decide ((i:Int) < (L.length:Int))))) (a:lp (zf f (L.drop i) i s) rest=some b)
  (o:∀x j,i < L.length->L[i]?=some x->f i x s=some j->zs6 f L i rest j=some b->wO P t Q env h) (k:rest s=some b->wO P e Q env h):wO P (.cond c t e) Q env h:=by
 refine pZ l (λg=>?_) (λg=>?_)
 ·have d:i < L.length:=by have:=ke g;omega
  obtain ⟨x,j,n,m,p⟩:=zdz a d
  simp_all
 ·have d:¬ i < L.length:=by have:=of_decide_eq_false g;omega
  exact k (zge a d)
theorem znc {f:Nat->α->σ->Option (Out ρ σ)} {L:List α} {k:σ} {rest:σ->Option ρ} {j:ρ} (U:Nat->σ->List (Nat×AV)) (H:σ->AH) (a:lp (zf f L 0 k) rest=some j) {E:Nat->σ->List AV}
  (o:∀i s,cV env (U i s)=E i s) (h0:wk h env h (E 0 k) (H k))
  (hs:∀i s,i<=L.length->lp (zf f (L.drop i) i s) rest=some j->wO P body (tG (λb g=>∃d,i < L.length/\lp (zf f (L.drop (i+1)) (i+1) d) rest=some j/\wk (H s) b g (E (i+1) d) (H d)) Q) (E i s) (H s)) :
  wO P (.loop body) Q env h:=by
 refine zfX (σ:=Nat×σ) (λp=>E p.1 p.2) (λp=>H p.2) (λp=>p.1<=L.length/\lp (zf f (L.drop p.1) p.1 p.2) rest=some j) (λp=>L.length - p.1) (0,k) h0 ⟨lX _,a⟩ ?_
 rintro ⟨i,s⟩ ⟨hi,a⟩
 have:=hs i s hi a;have e:(tG (λb g=>∃d,i < L.length/\lp (zf f (L.drop (i+1)) (i+1) d) rest=some j/\wk (H s) b g (E (i+1) d) (H d)) Q) =
  λx b g=>match x with | .normal=>∃d,i < L.length/\lp (zf f (L.drop (i+1)) (i+1) d) rest=some j/\wk (H s) b g (E (i+1) d) (H d) | x=>Q x b g:=rfl
 refine vr ?_ _ _ _ this;intro x b g l;cases x with
 | normal =>
  obtain ⟨d,n,m,q⟩:=l;exact ⟨(i+1,d),⟨n,m⟩,by omega,q⟩
 | _=>exact l
theorem znd {f:Nat->α->σ->Option (Out ρ σ)} {L:List α} {e:σ} {rest:σ->Option ρ} {g:ρ} (U:Nat->σ->List (Nat×AV)) (H:σ->AH) (a:lp (zf f L 0 e) rest=some g) {E:Nat->σ->List AV}
  (n:∀i s,cV env (U i s)=E i s) (h0:wk h env h (E 0 e) (H e))
  (hs:∀i s,i<=L.length->lp (zf f (L.drop i) i s) rest=some g->wO P body (tG (λb j=>∃d,i < L.length/\lp (zf f (L.drop (i+1)) (i+1) d) rest=some g/\wk h b j (E (i+1) d) (H d)) Q) (E i s) (H s)) :
  wO P (.loop body) Q env h:=by
 refine zhd (σ:=Nat×σ) (λp=>E p.1 p.2) (λp=>H p.2) (λp=>p.1<=L.length/\lp (zf f (L.drop p.1) p.1 p.2) rest=some g) (λp=>L.length - p.1) (0,e) h0 ⟨lX _,a⟩ ?_
 rintro ⟨i,s⟩ ⟨hi,a⟩
 refine vr ?_ _ _ _ (hs i s hi a);intro x b j k;cases x with
 | normal =>
  obtain ⟨d,m,l,o⟩:=k;exact ⟨(i+1,d),⟨m,l⟩,by omega,.inr o⟩
 | _=>exact k
theorem xd {f:σ->Option (Out ρ σ)} {k:σ} {rest:σ->Option ρ} {e:ρ} (U:σ->List (Nat×AV)) (H:σ->AH) (a:lp (zY f k) rest=some e) {E:σ->List AV}
  (v:∀s,cV env (U s)=E s) (h0:wk h env h (E k) (H k))
  (hs:∀n s d,f s=some d->zs5 f n rest d=some e->wO P body (tG (λb q=>∃g,lp (vS f n g) rest=some e/\wk (H s) b q (E g) (H g)) Q) (E s) (H s)) :
  wO P (.loop body) Q env h:=by
 obtain ⟨u,o⟩:∃n,lp (vS f n k) rest=some e:=by
  obtain ⟨d,j,m⟩:=lpF a;obtain ⟨n,w⟩:=mJ j
  grind
 refine zfX (σ:=Nat×σ) (λp=>E p.2) (λp=>H p.2) (λp=>lp (vS f p.1 p.2) rest=some e) (λp=>p.1) (u,k) h0 o ?_
 rintro ⟨n,s⟩ a
 cases n with
 | zero=>simp [vS,lp] at a
 | succ n =>
  obtain ⟨d,j,m⟩:∃d,f s=some d/\zs5 f n rest d=some e:=by
   simp only [vS] at a;split at a
   ·cases a
   ·rename_i r l;exact ⟨.ret r,l,a⟩
   ·rename_i r l;exact ⟨.brk r,l,a⟩
   ·rename_i r l;exact ⟨.gV r,l,a⟩
  refine vr ?_ _ _ _ (hs n s d j m);intro x b q t;cases x with
  | normal =>
   obtain ⟨g,j,m⟩:=t;exact ⟨(n,g),j,by omega,m⟩
  | _=>exact t
def zp7 (h0:AH) (N:List AV->AH->Prop) (Q:Exit->List AV->AH->Prop):Exit->List AV->AH->Prop:=λx env' h'=>match x with
 | .normal=>N env' h'
 | x=>Q x env' h'
theorem zdq {a b:Code} {J:Option (ρ ⊕ σ)} {rest:σ->Option ρ} {e:ρ} (U:σ->List (Nat×AV)) (H:σ->AH) (r:lp J rest=some e) {E:σ->List AV} (l:∀s,cV env (U s)=E s)
  (k:∀f,J=some f->zvZ rest f=some e->wO P a (zp7 h (λd g=>∃s,rest s=some e/\wk h d g (E s) (H s)) Q) env h)
  (q:∀s,rest s=some e->wO P b Q (E s) (H s)):wO P (.seq a b) Q env h:=by
 obtain ⟨f,o,m⟩:=lpF r;refine wK (vr ?_ _ _ _ (k f o m));intro x d g j;cases x with
 | normal =>
  obtain ⟨s,p,n⟩:=j;exact ⟨_,_,n,q s p⟩
 | _=>exact j
theorem tC {h0:AH} (a:N env h):zp7 h0 N Q .normal env h:=a
theorem zdr {h0:AH} (a:Q .ret env h):zp7 h0 N Q .ret env h:=a
end
end Go.Vv
namespace Go.Vv
open Go
variable {q:Option Nat} {i x y c:Operand} {t e u e':TypeId} {a:AV} {b:Bool} {d:TypeDesc} {ρ:Type} {ops:Array Oper} {Q:List AV->AH->Prop} {rest l:List Oper} {env' cs cs':List AV} {n:Int} {id k' m j off:Nat} {B L' B':List q6} {T T' Ns M' M1:List Nat} {F:Nat->AH->Prop} {f:FuncId} {g:Gh} {hd:AH} {w0 w:World} {K:AV->AH->Prop}

abbrev yp (s:zq):List AV:=[.str s]
def zmr (b:UInt8):List AV:=[.int .u8 b.toNat]
abbrev zdK (k:IntKind) (n:Int):List AV:=[.int k n]
def zo0 {α:Type} (a:AV) (z:Nat) (row:α->List AV) (L:List α):Prop:=a=.sl z (L.map row) \/ ∃q,a=.gW q z (L.map row)
section
variable {α:Type} {row:α->List AV} {L M:List α} {z:Nat}
theorem oL:zo0 (.sl z (L.map row)) z row L:=.inl rfl
theorem zxA:zo0 (.gW q z (L.map row)) z row L:=.inr ⟨_,rfl⟩
theorem vC {k:Nat} {f:α->List AV} {L:List α}:ay (.sl k (L.map f))=some L.length:=by simp [ay]
theorem zpY {k:Nat} {f:α->List AV} {L:List α}:ay (.gW q k (L.map f))=some L.length:=by simp [ay]
theorem zt {i:Nat} {x:α} (h:L[i]?=some x):zS L (i:Int)=some x:=by
 unfold zS;rw [lc (by omega),nr];exact h
end
theorem zov {α:Type} {L:List α} {lo hi:Int} (h:0<=lo/\lo<=hi/\hi<=L.length):fL L lo hi=some ((L.take hi.toNat).drop lo.toNat):=lc h
theorem zcU {P:Program} {k:Nat} {a:Bool} (p:Ty P t .bool k):yF P .eql t (.bool a) (.bool b)=some (.bool (a==b)):=by simp only [yF,cN,p.u,lM]
theorem zmx {P:Program} {k:Nat} {a:Bool} (p:Ty P t .bool k):yF P .neq t (.bool a) (.bool b)=some (.bool !(a==b)):=by simp only [yF,cN,p.u,lM]
set_option maxHeartbeats 4000000 in
theorem zbP {P:Program} {k:Nat} {x y:AV} (p:Ty P t d k) (h:b8 d x y=some b):yF P .eql t x y=some (.bool b):=by
 cases x <;> cases y <;> first | (cases d <;> simp [b8] at h;done) | (simp only [yF,cN,p.u,h,lM])
set_option maxHeartbeats 4000000 in
open Classical in
noncomputable def bF {α:Type} (L:List α) (f:Bool->Option ρ):Option ρ:=if L=[]/\f true ≠ f false then none else f false
theorem zuU {α:Type} {L:List α} {f:Bool->Option ρ} {r:ρ} (h:bF L f=some r):f false=some r/\(L=[]->f true=some r):=by
 unfold bF at h
 simp_all
theorem zpS {α:Type} {L:List α} {f:Bool->Option ρ} {r:ρ} (p:f false=some r) (k:L=[]->f true=some r):bF L f=some r:=by
 unfold bF
 simp_all
theorem uX {P:Program} {o:Oper} {env:List AV} {env':Bool->List AV} {h:AH} {k z:Nat} {α:Type} {row:α->List AV} {L:List α} {f:Bool->Option ρ} {r:ρ} (J:aG ops o env=some true)
  (H:o.op=.binOp .eql t x y u) (D:El P t e k) (V:yu env x=some a) (W:zo0 a z row L) (U:yu env y=some .fP) (hd:∀b:Bool,tq o.dst env (.bool b)=some (env' b)) (R:bF L f=some r)
  (N:∀b,(b=true->L=[])->f b=some r->zu P ops Q rest (env' b) h):zu P ops Q (o::rest) env h:=by
 obtain ⟨G,C⟩:=zD V;obtain ⟨I,E⟩:=zD U;obtain ⟨S,A⟩:=zuU R;have key:∀b,(b=true->L.map row=[])->zu P ops Q rest (env' b) h:=λb s=>by
  have p:b=true->L=[]:=λh=>by simp_all
  refine N b p ?_;cases b with
  | false=>exact S
  | true=>exact A (p rfl)
 refine vT ?_;simp only [J,cY];rcases W with rfl | ⟨q,rfl⟩
 ·simp only [zj,H,G,I,lI,nv,C,E,nW,D.u,cX]
  rintro v O ⟨rfl,b,rfl,s⟩
  rw [yT (hd b)];exact key b s
 ·simp only [zj,H,G,I,lI,nv,C,E,nW,D.u,cX]
  rintro v O ⟨rfl,b,rfl,s⟩
  rw [yT (hd b)];exact key b s
section
variable {P:Program} {o:Oper} {env:List AV} {h:AH} {α:Type} {row:α->List AV} {L:List α}
theorem zpe {a b:Operand} {x y:AV} (k:o.op=.pick c a b) (s:yu env c=some (.bool false)) (p:yu env a=some x) (r:yu env b=some y):zj P o env h=.ok y h:=zow k s p r (by simp)
theorem ol {k:IntKind} {z:Nat} {y:α} (s:o.op=.indexAddr t x i) (A:El P t e z) (C:yu env x=some a) (hi:yu env i=some (.int k n)) (v:zo0 a z row L) (r:zS L n=some y) :
  zj P o env h=.ok (.fI (row y)) h:=by
 obtain ⟨h0,r⟩:=zqP r;refine mr s A C hi ?_;have p:(L.map row)[n.toNat]?=some (row y):=by simp_all
 rcases v with rfl | ⟨q,rfl⟩ <;> simp only [uL,h0,jZ,nv,p,lM]
theorem yN {k:IntKind} {z:Nat} {y:α} (p:o.op=.indexAddr t x i) (v:El P t e z) (C:yu env x=some a) (hi:yu env i=some (.int k n)) (r:zo0 a z row L) (s:zS L n=some y) (A:row y=cs) :
  zj P o env h=.ok (.fI cs) h:=by rw [<- A];exact ol p v C hi r s
theorem zb2 {k:IntKind} {z:Nat} (d:α) (p:o.op=.indexAddr t x i) (s:El P t e z) (v:yu env x=some a) (hi:yu env i=some (.int k n)) (r:zo0 a z row L) (A:0<=n/\n < L.length) :
  zj P o env h=.ok (.fI (row (L.getD n.toNat d))) h:=by
 refine ol p s v hi r ?_;unfold zS
 simp_all
theorem vX {k:IntKind} {z:Nat} (d:α) (p:o.op=.indexAddr t x i) (s:El P t e z) (A:yu env x=some a) (hi:yu env i=some (.int k n)) (r:zo0 a z row L) (C:0<=n/\n < L.length)
  (v:row (L.getD n.toNat d)=cs):zj P o env h=.ok (.fI cs) h:=by rw [<- v];exact zb2 d p s A hi r C
theorem zm0 {s:zq} {k:IntKind} {z:Nat} {b:UInt8} (r:o.op=.index t x i) (v:Ty P t .string z) (A:yu env x=some (.str s)) (hi:yu env i=some (.int k n)) (p:zS s n=some b) :
  zj P o env h=.ok (.int .u8 b.toNat) h:=by
 obtain ⟨h0,p⟩:=zqP p;refine zjJ r v A hi ?_;simp only [o6,h0,nv,p,lM]
inductive Bd (env:List AV):Option Operand->Int->Int->Prop
 | none {d:Int}:Bd env none d d
 | some {x:Operand} {k:IntKind} {n d:Int}:yu env x=some (.int k n)->Bd env (some x) d n
theorem Bd.all {x:Option Operand} {d n:Int} (h:Bd env x d n):x.all yl=true:=by
 cases h with
 | none=>rfl
 | some h=>exact (zD h).1
theorem Bd.ab {x:Option Operand} {d:Nat} (h:Bd env x d n) (h0:0<=n):pJ d (x.map (ev env))=Option.some n.toNat:=by
 cases h with
 | none=>rfl
 | some h=>simp only [lM,(zD h).2,pJ,lc h0]
theorem qB {lo hi:Option Operand} {M:List α} {l hh:Int} {z:Nat} (H:o.op=.slice t x lo hi none) (r:El P t e z) (J:yu env x=some a) (O:a=.sl z (L.map row) \/ ∃q,a=.gW q z (L.map row)/\(hi.isSome=true \/ q.isSome=true)) (v:Bd env lo 0 l) (k:Bd env hi L.length hh)
  (C:fL L l hh=some M):zj P o env h=.ok (.sl z (M.map row)) h:=by
 obtain ⟨⟨h0,S,R⟩,rfl⟩:=zvz C;obtain ⟨I,D⟩:=zD J;obtain ⟨i,E,N,_⟩:=r.i;have A:=Bd.ab (d:=0) v h0;have s:=Bd.ab (d:=L.length) k (by omega);simp only [zj,H,I,v.all,k.all,Option.all_none,lI,nv,r.u,D,E,N,Option.map_none];rcases O with rfl | ⟨q,rfl,p⟩
 ·simp only [w6,nv,zc3,oZ,A,oS,s,ii,tx,lg];rw [lc (by omega)];simp only [oo,List.map_drop,gt]
 ·simp only [w6,nv,zc3,oZ,A,oS,s];rw [lc (by omega)];have G:(q.isNone&&(hi.map (ev env)).isNone)=false:=by
   rcases p with p | p
   ·simp_all
   ·cases q <;> simp_all
  simp only [G,tx,lg,oo,List.map_drop,gt]
theorem zsT {M:List α} {k:Nat} {r:AH} (s:L.length+M.length<=lim) (p:h.grow q L.length M.length=some (id,r)):rH h k (.gW q k (L.map row)) (M.map row)=some (.gW (some id) k ((L++M).map row),r):=by
 simp only [rH,oS];by_cases h0:M.length=0
 ·have:M=[]:=lE h0;subst this;rw [lc (show ([]:List α).length=0 from rfl)];cases q with
  | none =>
   simp only [AH.grow,lF,jc,p3,kT] at p
   simp_all
  | some id' =>
   simp only [AH.grow,lF,jc] at p;split at p
   ·rename_i v;simp only [p3,kT] at p;obtain ⟨rfl,rfl⟩:=p;have:h.zs.set id' L.length=h.zs:=by
     refine lW λj=>?_
     grind
    simp [this]
   ·cases p
 ·simp_all
variable {M:List α}
theorem zsC {c:Call} {k:Nat} {b r:AV} (v:o.op=.call c) (J:c.callee=.builtin .append) (hs:c.args=#[x,y]) (H:c.argTypes=#[t,u]) (G:El P t e k)
  (p:El P u e' k') (N:yu env x=some a) (C:yu env y=some b) (A:w6 P t a=.gW none k (L.map row)) (I:w6 P u b=r) (O:pI k r=some (M.map row)) (D:L.length+M.length<=lim) (s:T.length=m) (E:T++[(L++M).length]=T') :
  zj P o env (h.ext B T)=.ok (.gW (some (h.zs.length+m)) k ((L++M).map row)) (h.ext B T'):=by
 refine zet v J hs H G p N C A I O (zsT D ?_);subst E s;simp [AH.grow,AH.ext]
theorem zoT {c:Call} {k:Nat} {b r:AV} (D:o.op=.call c) (O:c.callee=.builtin .append) (hs:c.args=#[x,y]) (s:c.argTypes=#[t,u]) (H:El P t e k)
  (p:El P u e' k') (I:yu env x=some a) (G:yu env y=some b) (N:w6 P t a=.gW (some (h.zs.length+j)) k (L.map row)) (v:w6 P u b=r) (J:pI k r=some (M.map row)) (E:L.length+M.length<=lim) (R:T[j]?=some L.length) (C:T.set j (L++M).length=T') :
  zj P o env (h.ext B T)=.ok (.gW (some (h.zs.length+j)) k ((L++M).map row)) (h.ext B T'):=by
 refine zet D O hs s H p I G N v J (zsT E ?_);subst C;have A:(h.zs++T)[h.zs.length+j]?=some L.length:=by grind
 simp only [AH.grow,AH.ext,A,nv]
 simp_all
theorem zcm {k:Nat}:pI k (.sl k (M.map row))=some (M.map row):=by simp [pI]
theorem zbE {k:Nat}:pI k (.gW q k (M.map row))=some (M.map row):=by simp [pI]
theorem znz {s:zq}:pI 1 (.str s)=some (s.map zmr):=by rfl
end
theorem fd.pre {a5 bs:List AV}:∀{cs:List AV},fd a5 bs->fd (cs++a5) (cs++bs)
 | [],k=>k
 | _::_,k=>fd.eq (fd.pre k)
def zhy:List (Nat×q6)->List q6->Prop
 | [],_=>True
 | (j,b)::r,B=>B[j]?=some b/\zhy r B
theorem qx {b:q6} {r:List (Nat×q6)} (h:zhy ((j,b)::r) B):B[j]?=some b:=h.1
def lk:List (Nat×List (Nat×q6))->Nat->List (Nat×q6)
 | [],_=>[]
 | (m,l)::r,n=>if n=m then l else lk r n
def zkn (h:AH) (l:List (Nat×q6)) (x:AH):Prop:=∃B T,x=h.ext B T/\zhy l B
theorem oJ {h:AH} {l:List (Nat×q6)} (k:zhy l B):zkn h l (h.ext B T):=⟨_,_,rfl,k⟩
def znJ:List (Nat×List (Nat×q6))->List q6->Prop
 | [],_=>True
 | (_,l)::r,B=>zhy l B/\znJ r B
theorem ziX:∀{l:List (Nat×List (Nat×q6))} {B:List q6},znJ l B->∀n,zhy (lk l n) B
 | [],_,_,_=>trivial
 | (m,l)::r,B,h,n=>by
  simp only [lk];split
  ·exact h.1
  ·exact ziX h.2 n
theorem fY.all {b:Nat} {G:AH->Prop} {h:AH} (k:G h):fY b Ns (λ_=>G) h:=λ_ _ _=>k
theorem fY.nil {b:Nat} {h:AH}:fY b [] F h:=λ_ h _=>by simp at h
theorem fY.cons {b n:Nat} {h:AH} (k:b.testBit n=true \/ F n h) (p:fY b Ns F h):fY b (n::Ns) F h:=λm s r=>by
 rcases k with k | k
 ·by_cases e:m=n
  ·simp_all
  ·exact p m (by simp_all) r
 ·by_cases e:m=n
  ·simp_all
  ·exact p m (by simp_all) r
abbrev zU (h:AH) (i j k n:Nat):AV:=.fm (h.zh.length+i) (h.zs.length+j) k n
abbrev dM (h:AH) (j k:Nat) (es:List (List AV)):AV:=.gW (some (h.zs.length+j)) k es
abbrev yq (h:AH) (j k:Nat) (es:List (List AV)):q6:=.row (h.zs.length+j) k es
theorem zeC {P:Program} {Q:Exit->List AV->AH->Prop} {env:List AV} {h:AH} (Ns:List Nat) (k:List (Nat×List (Nat×q6))) (s:znJ k B) (p:P.follows .mixedOrders=true) (hd:ry ⟨l⟩ Ns=true) (r:zI P ⟨l⟩ Ns (λn=>zkn h (lk k n)) (Q .normal) 0 l env (h.ext B T)) :
  wO P (.region id ⟨l⟩ true) Q env (h.ext B T):=.inl ⟨Ns,λn=>zkn h (lk k n),⟨p,hd⟩,λn=>oJ (ziX s n),r⟩
theorem zeB {P:Program} {Q:Exit->List AV->AH->Prop} {env:List AV} {h:AH} (Ns:List Nat) (F:Nat->AH->Prop) (r:∀n,F n h) (k:P.follows .mixedOrders=true) (hd:ry ⟨l⟩ Ns=true) (p:zI P ⟨l⟩ Ns F (Q .normal) 0 l env h) :
  wO P (.region id ⟨l⟩ true) Q env h:=.inl ⟨Ns,F,⟨k,hd⟩,r,p⟩
theorem xG {h:AH} {L:List q6} {M:List Nat}:(h.ext L M).ext L' M'=h.ext (L++L') (M++M'):=by simp [AH.ext,li]
theorem zam {P:Program} {o:Oper} {env:List AV} {h k:AH} {args:List AV} {v:AV} (C:aG ops o env=some true) (A:zj P o env h=.call f args) (hs:Spec P f args h λr hh=>r=v/\hh=k)
  (hd:tq o.dst env v=some env') (p:zu P ops Q rest env' k):zu P ops Q (o::rest) env h :=
 pj C A hs λr k ⟨s,D⟩=>by subst s;subst D;rw [yT hd];exact p
theorem wq {i:Nat} (E:Ns.contains i=false) {P:Program} {ops:Array Oper} {Q:List AV->AH->Prop} {o:Oper} {rest:List Oper} {env env':List AV} {h k:AH} {f:FuncId} {args:List AV} {v:AV} (C:fY ((Region.before ops).getD i 0) Ns F k) (p:k.zh=h.zh) (s:aG ops o env=some true) (D:zj P o env h=.call f args) (hs:Spec P f args h λr hh=>r=v/\hh=k)
  (hd:tq o.dst env v=some env') (A:zI P ops Ns F Q (i+1) rest env' k):zI P ops Ns F Q i (o::rest) env h :=
 ⟨v,k,.inl ⟨E,by simp only [AR,s,D];exact hs⟩,.inr p,.inr C,by rw [yT hd];exact A⟩
theorem zn0 {i:Nat} (C:Ns.contains i=false) {P:Program} {ops:Array Oper} {Q:List AV->AH->Prop} {o:Oper} {rest:List Oper} {env env':List AV} {h k:AH} {v:AV} (D:fY ((Region.before ops).getD i 0) Ns F k) (A:k.zh=h.zh) (s:aG ops o env=some true) (r:zj P o env h=.ok v k) (hd:tq o.dst env v=some env') (p:zI P ops Ns F Q (i+1) rest env' k) :
  zI P ops Ns F Q i (o::rest) env h:=⟨v,k,.inl ⟨C,by simp only [AR,s,r,jZ]⟩,.inr A,.inr D,by rw [yT hd];exact p⟩
def zsU (h:AH) (k n:Nat) (R:List (List AV)) (rr:AV) (hh:AH):Prop:=rr=.gW (some h.zs.length) k R/\hh=h.ext [] [n]
theorem zpC {P:Program} {a5:List AV} {h:AH} {k n:Nat} {R:List (List AV)} (s:Spec P f a5 (h.ext B T) (zsU (h.ext B T) k n R)) (p:T.length=m) (v:T++[n]=T') :
  Spec P f a5 (h.ext B T) (λA hh=>A=.gW (some (h.zs.length+m)) k R/\hh=h.ext B T'):=by
 refine s.mono ?_
 rintro r C ⟨rfl,rfl⟩
 subst p v;simp [AH.ext,li]
theorem zp1 {α:Type} {row:α->List AV} {L:List α} {k:Nat} {i:Int} {y:α} (v:∀x,(row x).length=k) (p:zS L i=some y) (C:L.flatMap row=cs):dW true k (0+i.toNat * k) cs=some (.agg (row y)):=by
 obtain ⟨h0,p⟩:=zqP p;subst C;have key:∀(L:List α) (n:Nat),L[n]?=some y->n * k+k<=(L.flatMap row).length/\((L.flatMap row).drop (n * k)).take k=row y:=by
  intro L
  induction L with
  | nil=>intro n h;simp at h
  | cons a r ih =>
   intro n h;cases n with
   | zero =>
    simp_all
   | succ n =>
    obtain ⟨A,s⟩:=ih n (by simpa using h);simp only [jf,ng,v,jx];refine ⟨by omega,?_⟩;rw [show n * k+k=(row a).length+n * k by grind,jF,lZ (by omega),lC,la];exact s
 obtain ⟨A,s⟩:=key L i.toNat p;simp only [dW,nv,l6]
 simp_all
theorem zio {P:Program} {o:Oper} {env:List AV} {h:AH} {n k:Nat} {q:IntKind} {m:Int} {α:Type} {L:List α} {y:α} (r:o.op=.indexAddr t x i) (v:Ty P t (.array n e) k) (s:Ty P e d k') (A:yu env x=some (.ptr id off)) (hi:yu env i=some (.int q m))
  (D:L.length=n) (p:zS L m=some y):zj P o env h=.ok (.ptr id (off+m.toNat * k')) h:=by
 obtain ⟨h0,p⟩:=zqP p;have C:m.toNat < L.length:=(tm.1 p).1;exact zdc r v s A hi (lc ⟨h0,by omega⟩)
theorem zoQ {env:List AV} {b:AV} (h:yu env x=some a) (e:a=b):yu env x=some b:=by rw [h,e]
theorem vq {h:AH} {b:q6} (k:B[j]?=some b):((h.ext B T).ext B' T').gZ (h.zh.length+j)=some b:=by
 rw [xG,zW,o4 (tm.1 k).1];exact k
theorem zz {h:AH} {b:q6} (k:h.gZ id=some b):(h.ext B T).gZ id=some b:=by
 have p:id < h.zh.length:=(tm.1 k).1;simp only [AH.gZ,AH.ext] at k ⊢
 grind
theorem yU {P:Program} {o:Oper} {env:List AV} {h:AH} {k:Nat} {v p:AV} (s:o.op=.load t x) (C:Ty P t d k) (E:yu env x=some (.ptr id off)) (D:h.gZ id=some (.cells cs))
  (A:dW (ye d) k off cs=some v) (r:w6 P t v=p):zj P o env (h.ext B T)=.ok p (h.ext B T):=by
 refine zfJ s C E ?_ r;simp only [tU,zz D];exact A

theorem g6.agg {cs ds:List AV} (k:fd cs ds) (r:ds.all AV.one=true):g6 (.agg cs) (.agg ds):=λg v p=>by
 simp only [V] at p ⊢;obtain ⟨vs,e,s⟩:=p;exact ⟨vs,e,VA.mk (k _ _ s.f4) r⟩
theorem g6.fk {cs ds:List AV} (k:fd cs ds):g6 (.fk cs) (.fk ds):=λg v p=>by
 simp only [V] at p ⊢;obtain ⟨vs,e,r⟩:=p;exact ⟨vs,e,k _ _ r⟩
theorem VL.dL {g:Gh}:∀{a5:List AV} {vs:List Value},VL g a5 vs->∀(i:Nat) (a:AV),(∀v,vs[i]?=some v->V g a v)->VL g (a5.set i a) vs
 | [],_,h,i,a,_=>by simpa using h
 | _::r,_,h,i,a,hv=>by
  simp only [VL] at h;obtain ⟨k,s,rfl,A,p⟩:=h;cases i with
  | zero=>simp only [kE,VL];exact ⟨k,s,rfl,hv k rfl,p⟩
  | succ i=>simp only [kf,VL];exact ⟨k,s,rfl,A,VL.dL p i a (λv C=>hv v (by simp_all))⟩
theorem V.tok {k n:Nat} {es:List (List AV)} {v:Value} (E:es.length=n) (p:V g (.gW none k es) v):V (g.fD ⟨n,none,false⟩) (.gW (some g.τ.length) k es) v:=by
 subst E;simp only [V] at p ⊢;obtain ⟨a,c,s,r,C,A,D⟩:=p;refine ⟨a,c,s,r,C,A.imp id λ⟨b,o,e,hh⟩=>⟨b,o,e,VE.mono (g.fq _) _ _ _ _ hh⟩,⟨es.length,none,false⟩,?_,rfl,oA _,λ_=>.inl D⟩;simp only [Gh.fD]
 simp_all
theorem t8 {α:Type} {row:α->List AV} {L:List α} {h:AH} {env:List AV} {d k:Nat} (N:yu env (.tmp d)=some (.gW none k (L.map row))) (J:T.length=m)
  (E:tq (some d) env (.gW (some (h.zs.length+m)) k (L.map row))=some env') (I:T++[L.length]=T') :
  wk hd env (h.ext B T) env' (h.ext B T'):=λ_ _ _ _ R g vs _ H r G=>by
 subst J I;simp only [tq,p3] at E;subst E;have p:h.zs.length+T.length=g.τ.length:=by rw [r.fw];simp [AH.ext]
 refine ⟨g.fD ⟨L.length,none,false⟩,H.trans (g.fq _),?_,?_⟩
 ·have:=r.dx ⟨L.length,none,false⟩ (λ_ _ _ h=>by cases h) (λ_ _ h=>by cases h);have e:(h.ext B (T++[L.length]))={ (h.ext B T) with zs:=(h.ext B T).zs++[L.length] }:=by simp [AH.ext,li]
  simp_all
 ·have C:=G;refine ⟨VL.dL (VL.mono (g.fq _) _ _ G) d _ λv A=>?_,λ_ h=>h⟩;obtain ⟨a,s,O⟩:=C.aR _ _ A;have D:env[d]?=some (.gW none k (L.map row)):=N;rw [D] at s;injection s with s;subst s;rw [p];exact O.tok (by simp)
theorem Rel.bi {B:Nat} {h:AH} (r:Rel B w0 g h w) {i:Nat} {cs cs':List AV} (C:h.zh[i]?=some (.cells cs)) :
  (∀(j:Nat) (x:q6),g.σ[j]?=some none->(h.put i (.cells cs')).zh[j]?=some x->dE g w x) /\
  ∀(a b t k k':Nat) (es es':List (List AV)),(h.put i (.cells cs')).zh[a]?=some (.row t k es)->(h.put i (.cells cs')).zh[b]?=some (.row t k' es')->a=b:=by
 have key:∀(a t k:Nat) (es:List (List AV)),(h.put i (.cells cs')).zh[a]?=some (.row t k es)->h.zh[a]?=some (.row t k es):=by
  intro a t k es s;simp only [AH.put] at s
  grind
 refine ⟨λj x v p=>?_,λa b t k k' es es' s A=>r.fW _ _ _ _ _ _ _ (key _ _ _ _ s) (key _ _ _ _ A)⟩;simp only [AH.put] at p;by_cases hij:i=j
 ·subst hij;exact (r.row i _ v C).elim
 ·rw [lV hij] at p;exact r.row j x v p
theorem Rel.zxY {B:Nat} {h:AH} (r:Rel B w0 g h w) {i:Nat} {cs cs':List AV} (p:h.zh[i]?=some (.cells cs)) (E:∀c,ey g w c (.cells cs)->ey g w c (.cells cs')):Rel B w0 g (h.put i (.cells cs')) w:=by
 refine ⟨r.below,r.dp,r.eF,by simp [AH.put,r.fh],λj c q s k=>?_,r.fw,r.tok,r.eA,r.fO,r.sep,r.eE,(r.bi p).1,(r.bi p).2⟩;simp only [AH.put] at k;by_cases hij:i=j
 ·subst hij;rw [lr (tm.1 p).1] at k;injection k with k;subst k;obtain ⟨C,v,D,A⟩:=r.gZ i c _ s p
  simp_all
 ·rw [lV hij] at k;exact r.gZ j c q s k
theorem zgV {α:Type} {row:α->List AV} {L:List α} {h:AH} {env:List AV} {k:Nat} (U:B[j]?=some (.cells cs)) (he:yu cs (.tmp off)=some (.gW none k (L.map row))) (hm:T.length=m)
  (S:tq (some off) cs (.gW (some (h.zs.length+m)) k (L.map row))=some cs') (hB:B.set j (.cells cs')=B') (X:T++[L.length]=T') :
  wk hd env (h.ext B T) env (h.ext B' T'):=λ_ _ w _ g1 g vs _ W r hv=>by
 subst hm X hB;simp only [tq,p3] at S;subst S;have E:h.zs.length+T.length=g.τ.length:=by rw [r.fw];simp [AH.ext]
 refine ⟨g.fD ⟨L.length,none,false⟩,W.trans (g.fq _),?_,VL.mono (g.fq _) _ _ hv,λ_ h=>h⟩;have p:=r.dx ⟨L.length,none,false⟩ (λ_ _ _ h=>by cases h) (λ_ _ h=>by cases h);have I:({ (h.ext B T) with zs:=(h.ext B T).zs++[L.length] }:AH).zh[h.zh.length+j]?=some (.cells cs):=by
  simp only [AH.ext];rw [pa (by omega),la];exact U
 have e:(h.ext (B.set j (.cells (cs.set off (.gW (some (h.zs.length+T.length)) k (L.map row))))) (T++[L.length])) =
   ({ (h.ext B T) with zs:=(h.ext B T).zs++[L.length] }:AH).put (h.zh.length+j) (.cells (cs.set off (.gW (some (h.zs.length+T.length)) k (L.map row)))):=by
  simp only [AH.ext,AH.put,li]
  simp_all
 rw [e]
 -- what the cells were ahead of the token
 have D:(h.ext B T).zh[h.zh.length+j]?=some (.cells cs):=by
  omega
 obtain ⟨c,V⟩:∃c:Nat,g.σ[h.zh.length+j]?=some (some c):=by
  have:h.zh.length+j < g.σ.length:=by rw [r.fh];simp only [AH.ext,ng];have:=(tm.1 U).1;omega
  rcases V:g.σ[h.zh.length+j] with _ | c
  ·exact (r.row _ _ (by simp_all) D).elim
  ·simp_all
 obtain ⟨_,_,⟨us,t,Z,O⟩,_⟩:=r.gZ _ c _ V D;have G:VA (g.fD ⟨L.length,none,false⟩) (cs.set off (.gW (some (h.zs.length+T.length)) k (L.map row))) us.toList:=by
  have R:=O.f4;refine VA.mk (VL.dL (VL.mono (g.fq _) _ _ R) off _ λv J=>?_) ?_
  ·obtain ⟨a,s,hV⟩:=R.aR _ _ J;have N:cs[off]?=some (.gW none k (L.map row)):=he;rw [N] at s;injection s with s;subst s;rw [E];exact hV.tok (by simp)
  ·rw [nK];intro a s;rcases js s with s | rfl
   ·have:=O.db;rw [nK] at this;exact this a s
   ·rfl
 -- one block alone: the same cell
 refine ⟨p.below,p.dp,p.eF,by simp [AH.put,p.fh],λi H q C A=>?_,p.fw,p.tok,p.eA,p.fO,p.sep,p.eE,(p.bi I).1,(p.bi I).2⟩;simp only [AH.put] at A;by_cases hij:h.zh.length+j=i
 ·subst hij;rw [lr (tm.1 I).1] at A;injection A with A;subst A;obtain ⟨h6,Y,_,h9⟩:=p.gZ _ H _ C I;have:H=c:=by
   have:g.σ[h.zh.length+j]?=some (some H):=C
   simp_all
  subst this;exact ⟨h6,Y,⟨us,t,Z,G⟩,λ_=>h9 (by simp)⟩
 ·rw [lV hij] at A;exact p.gZ i H q C A
mutual
theorem AV.fX {n p m s:Nat} (k:n<=p) (h:m<=s):∀a:AV,a.low n m=true->a.low p s=true
 | .bool _,_ | .int _ _,_ | .str _,_ | .em,_ | .ea,_ | .fy,_ | .eP,_ | .fP,_ | .fI _,_ | .sl _ _,_ | .e7 _,_ | .any,_ | .d7,_=>rfl
 | .gW none _ _,_=>rfl
 | .gW (some t) _ _,hl=>by simp only [AV.low,so] at hl ⊢;omega
 | .ptr _ _,hl=>by simp only [AV.low,so] at hl ⊢;omega
 | .d8 _ _ _ _,hl=>by simp only [AV.low,so] at hl ⊢;omega
 | .fm _ _ _ _,hl=>by simp only [AV.low,so] at hl ⊢;omega
 | .el _ _ _ _ _,hl=>by simp only [AV.low,so] at hl ⊢;omega
 | .fU _ _ _ _ _,hl=>by simp only [AV.low,so] at hl ⊢;omega
 | .map _,hl=>by simp only [AV.low,so] at hl ⊢;omega
 | .dG _,hl=>by simp only [AV.low,so] at hl ⊢;omega
 | .fn _ a b,hl=>by
  simp only [AV.low,tr] at hl ⊢;exact ⟨zT k h a hl.1,zT k h b hl.2⟩
 | .iface _ v,hl=>by simp only [AV.low] at hl ⊢;exact AV.fX k h v hl
 | .agg cs,hl=>by simp only [AV.low] at hl ⊢;exact zT k h cs hl
 | .fk cs,hl=>by simp only [AV.low] at hl ⊢;exact zT k h cs hl
theorem zT {n p m s:Nat} (k:n<=p) (h:m<=s):∀l:List AV,zA n m l=true->zA p s l=true
 | [],_=>rfl
 | a::r,hl=>by
  simp only [zA,tr] at hl ⊢;exact ⟨AV.fX k h a hl.1,zT k h r hl.2⟩
end
theorem zky {h:AH} {env:List AV} {L:List q6} {M:List Nat} (m:Nat) (E:zA h.zh.length (h.zs.length+m) env=true) (v:M.take m=M1):wk h env (h.ext L M) env (h.ext [] M1):=λ_ _ _ _ D g vs p A r G=>by
 subst v;refine ⟨g.cut h.zh.length (h.zs.length+m),Gh.de A (by rw [p.fh];exact oA _) (by rw [p.fw];omega),?_,VL.cut _ _ E G,λ_ h=>h⟩;have e:(h.ext L M).cut h.zh.length (h.zs.length+m)=h.ext [] (M.take m):=by
  simp [AH.cut,AH.ext,kz];rw [lm (by omega)]
 have:=r.cut h.zh.length (h.zs.length+m) (λi k hi s=>?_)
 ·simp_all
 ·have C:i < D.σ.length:=by rw [p.fh];exact hi
  simp only [AH.ext] at s;rw [o4 hi] at s;have:=p.fG s;rw [p.fh,p.fw] at this;exact q6.eB (by omega) _ this
theorem zqh {h:AH} {k n:Nat} {R:List (List AV)} (p:K (.gW (some h.zs.length) k R) (h.ext [] [n])):oR h K (.gW (some (h.zs.length+0)) k R) (h.ext B (n::T)) :=
 xZ (zky 1 (by simp [zA,AV.low]) rfl) p
theorem znW {α:Type} {row:α->List AV} {L:List α} {h:AH} {k:Nat} (p:K (.gW (some h.zs.length) k (L.map row)) (h.ext [] [L.length])):oR h K (.gW none k (L.map row)) (h.ext B T) :=
 xZ ((zky (M1:=[]) 0 (by rfl) rfl).trans (t8 (d:=0) (m:=0) rfl rfl rfl rfl)) p
theorem zfw {h:AH} {env:List AV} (C:B[j]?=some (.cells cs)) (A:fd cs cs') (v:cs'.all AV.one=true) (D:B.set j (.cells cs')=B'):wk hd env (h.ext B T) env (h.ext B' T):=λ_ _ w _ G g vs _ E r H=>by
 subst D;have p:(h.ext B T).zh[h.zh.length+j]?=some (.cells cs):=by
  simp only [AH.ext];rw [pa (by omega),la];exact C
 have:=r.zxY p (cs':=cs') (λc ⟨us,t,s,k⟩=>⟨us,t,s,VA.mk (A _ _ k.f4) v⟩);have e:(h.ext B T).put (h.zh.length+j) (.cells cs')=h.ext (B.set j (.cells cs')) T:=by
  simp only [AH.ext,AH.put]
  simp_all
 grind
theorem yA {h:AH} {L0 L1:List q6} {M0:List Nat} {env:List AV} (p:zA (h.zh.length+L0.length) (h.zs.length+M0.length) env=true) (s:L'.take L0.length=L1) (r:M'.take M0.length=M1)
  (A:L1.all (λb=>b.low (h.zh.length+L0.length) (h.zs.length+M0.length))=true):wk (h.ext L0 M0) env (h.ext L' M') env (h.ext L1 M1) :=
 zo2 p s r λ_ k v=>.inr (by grind)
theorem zaH {P:Program} {Q:Exit->List AV->AH->Prop} {env:List AV} {h:AH} {σ:Type} {f:Nat->Nat->σ->Option (Out ρ σ)} {m:Int} {i:Nat} {s:σ} {rest:σ->Option ρ} {v:ρ} {t e:Code} (E:yu env c=some (.bool (decide ((i:Int) < m))))
  (A:lp (zf f ((List.range m.toNat).drop i) i s) rest=some v)
  (H:∀x p,i < (List.range m.toNat).length->(i:Int) < m->x=i->f i x s=some p->zs6 f (List.range m.toNat) i rest p=some v->wO P t Q env h) (D:rest s=some v->wO P e Q env h):wO P (.cond c t e) Q env h:=by
 refine pZ E (λk=>?_) (λk=>?_)
 ·have C:=ke k;have r:i < (List.range m.toNat).length:=by simp;omega
  obtain ⟨x,p,I,G,J⟩:=zdz A r
  simp_all
 ·have C:=of_decide_eq_false k;exact D (zge A (by simp;omega))
theorem zlj {P:Program} {o:Oper} {env H I:List AV} {h:AH} {L:List q6} {M:List Nat} {s:List UInt8} {k:Nat} {A C:Option ρ} {r:ρ} (O:aG ops o env=some true) (J:o.op=.next x true)
  (R:yu env x=some (.ptr (h.zh.length+j) 0)) (N:L[j]?=some (.f7 s k)) (v:tq o.dst env (.fk [.bool true,.int .i64 k,.int .i32 (dec s k).1])=some H) (p:tq o.dst env (.fk [.bool false])=some I)
  (S:(if k < s.length then A else C)=some r) (D:k < s.length->A=some r->zu P ops Q rest H (h.ext (L.set j (.f7 s (k+(dec s k).2))) M)) (E:C=some r->zu P ops Q rest I (h.ext L M)):zu P ops Q (o::rest) env (h.ext L M) :=
 zno O J R N v p (λG=>D G (by simp_all)) (λG=>E (by grind))
open Classical in
noncomputable def ba (g:Nat->Option ρ):Option ρ:=if h:∃r N,∀n,N<=n->g n=some r then some (Classical.choose h) else none
theorem rG {g:Nat->Option ρ} {r:ρ} (h:ba g=some r):∃n,g n=some r:=by
 unfold ba at h;split at h
 ·rename_i p;injection h with h;subst h;obtain ⟨N,k⟩:=kW p;exact ⟨N,k N (oA _)⟩
 ·cases h
theorem tT {g:Nat->Option ρ} {r:ρ} (N:Nat) (h:∀n,N<=n->g n=some r):ba g=some r:=by
 have k:∃r N,∀n,N<=n->g n=some r:=⟨r,N,h⟩
 unfold ba;rw [gI k];obtain ⟨M,p⟩:=kW k;have s:=p (max N M) (Nat.le_max_right _ _)
 grind
theorem Rel.beyond {B:Nat} {w':World} {h:AH} (r:Rel B w0 g h w) (s:RowKit.Below w.heap.size w w'):Rel B w0 g h w' :=
 ⟨r.below.trans (s.mono r.dp),lu r.dp s.size,λb j v e=>(s.cell (p:=⟨b,j,none⟩) (r.ef e)).trans (r.eF b j v e),r.fh,
   λi c k A G=>by
     obtain ⟨H,C,J,I⟩:=r.gZ i c k A G;exact ⟨H,o5 C s.size,J.mono (Gh.le.refl g) (s.block c C),I⟩,r.fw,
   λi t E=>by
     obtain ⟨H,C⟩:=r.tok i t E;exact ⟨H,λb l e D=>(C b l e D).mono s.size (s.block b (C b l e D).lt) λ_ _=>rfl⟩,r.eA,r.fO,r.sep,λc A=>⟨(r.eE c A).1,(s.block c (r.dP A)).trans (r.eE c A).2.1,(r.eE c A).2.2⟩,
   λi k hi G=>(r.row i k hi G).mono (Gh.le.refl g) (λ_ _ h _=>h) (λi t b x E _ D=>⟨s.block b ((r.tok i t E).2 b x.1 x.2 D).lt,λ_=>rfl⟩),r.fW⟩
end Go.Vv
namespace Go.Vv
open Go Go.RowKit Go.Lib
variable {a:Array Bool} {d:Option Tmp} {ops:Array Oper}

theorem zfU {ops:Array Oper} {listed:Array Bool} {i:Nat}:i ∈ Region.ready .any ops listed ↔ i < ops.size/\listed.getD i true=false/\∀o,ops[i]?=some o->∀e ∈ o.after,Region.binds .any e=true->listed.getD e.on false=true:=by
 unfold Region.ready;rw [kL,List.mem_range];refine and_congr_right λhi=>?_;have ho:ops[i]?=some ops[i]:=lJ hi;simp only [tr,kA,ho,lM,jE];refine and_congr_right λ_=>?_;rw [kY];constructor
 ·intro h o e1 e he hb;cases e1;have:=h e he;rw [hb] at this;simpa using this
 ·intro h e he;cases hb:Region.binds .any e with
  | false=>rfl
  | true=>simpa using h _ rfl e he hb
theorem zil {i j:Nat} {d:Bool} (h:i ≠ j):(a.setIfInBounds i true).getD j d=a.getD j d:=by
 simp [lU,h]
theorem zmY {i j:Nat} (h:a.getD j false=true):(a.setIfInBounds i true).getD j false=true:=by
 by_cases e:i=j
 ·subst e;rw [lU] at h ⊢;rw [i6];simp only [nv];split
  ·rfl
  ·rename_i b;rw [iO (by omega)] at h;simp at h
 ·rw [zil e];exact h
theorem zfT {listed:Array Bool} {i j:Nat} (h:i ∈ Region.ready .any ops listed) (b:j ≠ i):i ∈ Region.ready .any ops (listed.setIfInBounds j true):=by
 rw [zfU] at h ⊢;exact ⟨h.1,by rw [zil b];exact h.2.1,λo c e f g=>zmY (h.2.2 o c e f g)⟩
theorem zkS {i j:Nat}:(a.setIfInBounds i true).setIfInBounds j true=(a.setIfInBounds j true).setIfInBounds i true:=by
 apply iF;intro k;simp only [i6,Array.size_setIfInBounds];by_cases h1:i=k <;> by_cases h2:j=k <;> simp [h1,h2]
theorem zkR {env:List AV} {b:Option Tmp} {v c:AV} (h:b=none \/ d ≠ b):ft (ft env d v) b c=ft (ft env b c) d v:=by
 cases d with
 | none=>rfl
 | some d =>
  cases b with
  | none=>rfl
  | some b =>
   simp only [ft];exact List.set_comm _ _ (λe=>by rcases h with h | h <;> simp_all)
def apart (ops:Array Oper) (o p:Oper):Bool :=
 (match o.dst with | some d=>!(p.looksAt ops).contains d&&p.dst != some d | none=>true) &&
 (match p.dst with | some d=>!(o.looksAt ops).contains d | none=>true)
def zbQ (ops:Array Oper) (i:Nat):Bool:=match ops[i]? with
 | none=>false
 | some o=>ops.toList.zipIdx.all λ(p,j)=>i==j || (p.after.any λe=>Region.binds .any e&&e.on==i) || (o.after.any λe=>Region.binds .any e&&e.on==j) || apart ops o p
theorem zol {listed:Array Bool} {i j:Nat} {o p:Oper} (h:zbQ ops i=true) (q:ops[i]?=some o) (n:ops[j]?=some p) (c:i ≠ j) (hi:i ∈ Region.ready .any ops listed) (f:j ∈ Region.ready .any ops listed):apart ops o p=true:=by
 unfold zbQ at h;rw [q] at h;simp only [nK,Prod.forall] at h;have r:(p,j) ∈ ops.toList.zipIdx:=by
  rw [jA];simpa using n
 have h:=h p j r;rw [zfU] at hi f;simp only [kj,ju,Array.any_eq_true'] at h;rcases h with ((h | ⟨e,g,h⟩) | ⟨e,g,h⟩) | h
 ·exact absurd h c
 ·exfalso;simp only [tr,ju] at h;have k:=f.2.2 p n e g h.1;have k2:=hi.2.1;rw [h.2] at k;rw [lU] at k k2;cases hh:listed[i]? with
  | none=>rw [hh] at k;simp at k
  | some b=>rw [hh] at k k2;simp at k k2;rw [k] at k2;cases k2
 ·exfalso;simp only [tr,ju] at h;have k:=hi.2.2 o q e g h.1;have k2:=f.2.1;rw [h.2] at k;rw [lU] at k k2;cases hh:listed[j]? with
  | none=>rw [hh] at k;simp at k
  | some b=>rw [hh] at k k2;simp at k k2;rw [k] at k2;cases k2
 ·exact h
def Sil (P:Program) (ops:Array Oper) (o:Oper) (env:List AV) (v:AV):Prop :=
 (aG ops o env=some true/\∀h,zj P o env h=.ok v h) \/ (aG ops o env=some false/\v=xo) \/
 (aG ops o env=some true/\∃f args,(∀h,zj P o env h=.call f args)/\∀h,Spec P f args h λr hh=>r=v/\hh=h)
theorem zgg {o:Oper} {env:List AV} {v:AV} (h:∀t,d=some t->t ∉ o.looksAt ops):(∀t ∈ o.looksAt ops,(ft env d v)[t]?=env[t]?)/\∀x ∈ o.op.operands,ev (ft env d v) x=ev env x:=by
 have b:∀t ∈ o.looksAt ops,(ft env d v)[t]?=env[t]?:=λt c=>sP λe=>h t e c;exact ⟨b,λx f=>zfb λt e=>b t (zeQ (by rw [<- e];exact f))⟩
theorem zqH {o p:Oper} (h:apart ops o p=true):(∀t,o.dst=some t->t ∉ p.looksAt ops)/\(∀t,p.dst=some t->t ∉ o.looksAt ops)/\(p.dst=none \/ o.dst ≠ p.dst):=by
 unfold apart at h;rw [tr] at h;refine ⟨λt e=>?_,λt e=>?_,?_⟩
 ·have b:=h.1;rw [e] at b;simp only [tr,kA,i3,iJ] at b;exact b.1
 ·have b:=h.2;rw [e] at b;simpa [i3] using b
 ·cases hp:p.dst with
  | none=>exact .inl rfl
  | some t =>
   right;intro e;have b:=h.1;rw [e,hp] at b;simp at b
theorem zmC {P:Program} {ops:Array Oper} {Q:List AV->AH->Prop} {i:Nat} {o:Oper} {v:AV} (w:ops[i]?=some o) (s:zbQ ops i=true):∀(m:Nat) {listed:Array Bool} {env:List AV} {h:AH},i ∈ Region.ready .any ops listed->Sil P ops o env v ->
  qy P ops Q m (listed.setIfInBounds i true) (ft env o.dst v) h->qy P ops Q (m+1) listed env h
 | m,listed,env,h,hi,hs,c=>by
  refine ⟨λe=>(by rw [e] at hi;cases hi),λj B p u=>?_⟩;by_cases hne:j=i
  ·subst hne;rw [w] at u;cases u;rcases hs with ⟨g,k⟩ | ⟨g,rfl⟩ | ⟨g,f,args,k,x⟩
   ·rw [g,k];exact .inl c
   ·rw [g];exact c
   ·rw [g,k];exact .inl ((x h).mono λr hh e=>by rw [e.1,e.2];exact c)
  ·have n:=zfT B (Ne.symm hne);obtain ⟨F,G,a3⟩:=zqH (zol s w u (Ne.symm hne) hi B);cases m with
   | zero=>rw [c.1] at n;cases n
   | succ m =>
    have c:=c.2 j n p u;obtain ⟨C,A⟩:=zgg (env:=env) (v:=v) F;rw [zaA C,rk A] at c;have y:∀t h',qy P ops Q m ((listed.setIfInBounds i true).setIfInBounds j true) (ft (ft env o.dst v) p.dst t) h'->qy P ops Q (m+1) (listed.setIfInBounds j true) (ft env p.dst t) h':=λt h' hh=>by
     obtain ⟨c1,z⟩:=zgg (env:=env) (v:=t) G;refine zmC (v:=v) w s m (zfT hi hne) ?_ ?_
     ·rcases hs with ⟨g,k⟩ | ⟨g,k⟩ | ⟨g,f,args,k,x⟩
      ·exact .inl ⟨by rw [zaA c1];exact g,λh=>by rw [rk z];exact k h⟩
      ·exact .inr (.inl ⟨by rw [zaA c1];exact g,k⟩)
      ·exact .inr (.inr ⟨by rw [zaA c1];exact g,f,args,λh=>by rw [rk z];exact k h,x⟩)
     ·rw [zkS,zkR a3] at hh;exact hh
    cases hb:aG ops p env with
    | none=>rw [hb] at c;exact c
    | some b =>
     rw [hb] at c;cases b with
     | true=>exact c.imp (zeu y) λ⟨l,E,D⟩=>⟨l,by rw [<- zcT A];exact E,λq hi=>y _ _ (D q hi)⟩
     | false=>exact y _ _ c
def zom (P:Program) (ops:Array Oper) (Q:List AV->AH->Prop) (m:Nat) (listed:Array Bool) (env:List AV) (h:AH) (i:Nat):Prop:=∀o,ops[i]?=some o ->
 cY (aG ops o env) (λK=>cX P h (zj P o env h) K \/ bwp P o env h K) h λv h'=>qy P ops Q m (listed.setIfInBounds i true) (ft env o.dst v) h'
section
variable {P:Program} {l:List Oper} {Q:List AV->AH->Prop} {m i j:Nat} {listed:Array Bool} {env env':List AV} {h h':AH} {o:Oper} {v:AV}
theorem zmD (b:(Region.ready .any ⟨l⟩ listed==[])=true) (c:Q env h):qy P ⟨l⟩ Q m listed env h:=by
 have b:=eq_of_beq b;cases m with
 | zero=>exact ⟨b,c⟩
 | succ m=>exact ⟨λ_=>c,λi hi=>by rw [b] at hi;cases hi⟩
theorem zgO (g:(Region.ready .any ⟨l⟩ listed).contains i=true) (b:zbQ ⟨l⟩ i=true) (e:l[i]?=some o) (k:aG ⟨l⟩ o env=some true) (f:∀h,zj P o env h=.ok v h) (hd:tq o.dst env v=some env')
  (c:qy P ⟨l⟩ Q m (listed.setIfInBounds i true) env' h):qy P ⟨l⟩ Q (m+1) listed env h:=by
 refine zmC (v:=v) (by simpa using e) b m (by simpa [i3] using g) (.inl ⟨k,f⟩) ?_;rw [yT hd];exact c
theorem zbl (f:l[i]?=some o) (k:aG ⟨l⟩ o env=some true) (g:zj P o env h=.ok v h') (hd:tq o.dst env v=some env') (e:qy P ⟨l⟩ Q m (listed.setIfInBounds i true) env' h'):zom P ⟨l⟩ Q m listed env h i:=by
 intro p c;have:o=p:=by
  have b:l[i]?=some p:=by simpa using c
  rw [f] at b;exact kK b
 subst this;rw [k,g];exact .inl (by simp only [cX];rw [yT hd];exact e)
theorem zkj (b:(Region.ready .any ⟨l⟩ listed==[i])=true) (hi:zom P ⟨l⟩ Q m listed env h i):qy P ⟨l⟩ Q (m+1) listed env h:=by
 have b:=eq_of_beq b;refine ⟨λe=>(by rw [b] at e;cases e),λk c o f=>?_⟩;rw [b,lh] at c;subst c;exact hi o f
theorem zvq (c:(Region.ready .any ⟨l⟩ listed==[i,j])=true) (hi:zom P ⟨l⟩ Q m listed env h i) (g:zom P ⟨l⟩ Q m listed env h j):qy P ⟨l⟩ Q (m+1) listed env h:=by
 have c:=eq_of_beq c;refine ⟨λe=>(by rw [c] at e;cases e),λk b o f=>?_⟩;rw [c] at b;rcases lG.1 b with rfl | b
 ·exact hi o f
 ·rw [lh] at b;subst b;exact g o f
end
section
variable {P:Program} {l:List Oper} {Q:List AV->AH->Prop} {m i:Nat} {listed:Array Bool} {env env':List AV} {h:AH} {o:Oper} {v:AV}
end
theorem ztC {P:Program} {Q:Exit->List AV->AH->Prop} {env:List AV} {h:AH} {id:Nat} {l:List Oper} (n:Nat) (e:l.length=n) (b:P.follows .mixedOrders=true) (c:qy P ⟨l⟩ (Q .normal) n (Array.replicate n false) env h):wO P (.region id ⟨l⟩ true) Q env h:=by
 refine .inr ⟨b,?_⟩;subst e;exact c
end Go.Vv
namespace Go.Vv
open Go Go.RowKit Go.Proofs Go.Shelf
end Go.Vv
namespace Go.Vv
open Go Go.RowKit Go.Lib Go.Shelf
theorem zeq {P:Program} {ρ:Ren} (L:Go.Proofs.Lays.n106 P ρ) {a b:List UInt8} {h:AH}:Spec P (ρ.f 106) [.str a,.str b] h λd hh=>d=.int .i64 (Lib.compareBytes a b)/\hh=h:=by
 refine ⟨λvs w=>Go.Proofs.enters_of L.f106 (by kernel_rfl) rfl vs w,λB w0 _ g w vs r c=>?_⟩;obtain ⟨us,rfl⟩:∃us:List Value,vs=us.toArray:=⟨vs.toList,by simp⟩
 simp only [VL,V] at c;obtain ⟨j,l,i,⟨rfl,_⟩,k,s2,rfl,⟨rfl,_⟩,rfl⟩:=c;subst i;refine (Go.Proofs.Any.strings_Compare L _ _ w).mono ?_
 rintro e w' ⟨rfl,rfl⟩
 exact ⟨_,_,h,g,rfl,⟨rfl,rfl⟩,Gh.le.refl g,r,by simp only [V]⟩
end Go.Vv
