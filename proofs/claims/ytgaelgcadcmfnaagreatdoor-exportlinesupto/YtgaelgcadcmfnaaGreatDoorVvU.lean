/- More rules: guards, places in slices and texts, drawn orders, folded loops. -/
import Derived.Test.YtgaelgcadcmfnaaGreatDoorVvO
import Derived.Shelf.Strings.OnBuilder
import Derived.Shelf.Strings.SplitShaped
import Derived.Shelf.Small.Strs
set_option linter.all false
namespace Go.Vv
open Go
variable {b t q r:Bool} {k:IntKind} {l:List (TypeId×AV)} {f:Operand} {g:FuncId} {args:List AV}

theorem aG_gv {ops:Array Oper} {o:Oper} {env:List AV} {j d:Nat} {want b c:Bool} (hg:o.guard=some (j,want)) (hd:(ops[j]?).bind (·.dst)=some d) (he:env[d]?=some (gv b (.bool c))):aG ops o env=some (b&&(c==want)):=by
 simp only [aG,hg,hd,he];cases b <;> simp [gv,aundef]
theorem zK {env:List AV} {x:Operand} {v:AV} (hx:yg env x=some (gv b v)) (a:b=true):yg env x=some v:=by subst a;rw [qu] at hx;exact hx
theorem and_l {a:Bool} (h:(a&&b)=true):a=true:=by simp_all
theorem pick_bb:(if t then AV.bool q else .bool r)=.bool (if t then q else r):=by grind
theorem pick_and (a:t=true->b=true):(if t then gv b (.bool q) else .bool false)=AV.bool (t&&q):=by cases t <;> simp [gv] ; simp [a rfl]
theorem pick_or (a:t=false->b=true):(if t then .bool true else gv b (.bool q))=AV.bool (t || q):=by cases t <;> simp [gv] ; simp [a rfl]
theorem pick_g1 (a:t=true->b=true):(if t then gv b (.bool q) else .bool r)=AV.bool (if t then q else r):=by cases t <;> simp [gv] ; simp [a rfl]
theorem pick_g2 (a:t=false->b=true):(if t then .bool r else gv b (.bool q))=AV.bool (if t then r else q):=by cases t <;> simp [gv] ; simp [a rfl]
theorem pick_g3 {c:Bool} (d:t=true->b=true) (a:t=false->c=true):(if t then gv b (.bool q) else gv c (.bool r))=AV.bool (if t then q else r):=by cases t <;> simp [gv] <;> simp [d,a]
theorem pick_ii {a b:Int}:(if t then AV.int k a else .int k b)=.int k (if t then a else b):=by grind
theorem pick_ig1 {x y:Int} (a:t=true->b=true):(if t then gv b (.int k x) else .int k y)=AV.int k (if t then x else y):=by cases t <;> simp [gv] ; simp [a rfl]
theorem pick_ig2 {x y:Int} (a:t=false->b=true):(if t then .int k y else gv b (.int k x))=AV.int k (if t then y else x):=by cases t <;> simp [gv] ; simp [a rfl]


section
variable {P:Program} {ops:Array Oper} {Q:List AV->AH->Prop} {o:Oper} {rest:List Oper} {env env':List AV} {h:AH}
variable {i:Nat} {Ns:List Nat} {F:Nat->AH->Prop}
theorem draw_nil (a:Q env h):zD P ops Ns F Q i [] env h:=a
theorem zB (e:Ns.contains i=false) {v:AV} (d:aG ops o env=some true) (c:zn P o env h=.ok v h) (hd:qx o.dst env v=some env') (a:zD P ops Ns F Q (i+1) rest env' h):zD P ops Ns F Q i (o::rest) env h :=
 ⟨v,h,.inl ⟨e,by simp only [AR,d,c,s6]⟩,.inr rfl,.inl rfl,by rw [yL hd];exact a⟩
theorem zX (e:Ns.contains i=false) {v:AV} {h':AH} (m:FOk ((Region.before ops).getD i 0) Ns F h') (j:anch ops Ns i=true) (d:aG ops o env=some true) (c:zn P o env h=.ok v h') (hd:qx o.dst env v=some env') (a:zD P ops Ns F Q (i+1) rest env' h'):zD P ops Ns F Q i (o::rest) env h :=
 ⟨v,h',.inl ⟨e,by simp only [AR,d,c,s6]⟩,.inl j,.inr m,by rw [yL hd];exact a⟩
theorem draw_len (e:Ns.contains i=false) {n:Nat} {v:AV} (d:aG ops o env=some true) (c:zn P o env h=.len n v h) (hd:qx o.dst env v=some env') (a:zD P ops Ns F Q (i+1) rest env' h):zD P ops Ns F Q i (o::rest) env h :=
 ⟨v,h,.inl ⟨e,by simp only [AR,d,c,s6]⟩,.inr rfl,.inl rfl,by rw [yL hd];exact a⟩
theorem draw_call (e:Ns.contains i=false) {f:FuncId} {args:List AV} {v:AV} (d:aG ops o env=some true) (c:zn P o env h=.call f args) (hs:Spec P f args h λr h'=>r=v/\h'=h) (hd:qx o.dst env v=some env') (a:zD P ops Ns F Q (i+1) rest env' h) :
  zD P ops Ns F Q i (o::rest) env h:=⟨v,h,.inl ⟨e,by simp only [AR,d,c];exact hs⟩,.inr rfl,.inl rfl,by rw [yL hd];exact a⟩
theorem zw (j:Ns.contains i=true) {f:FuncId} {args:List AV} {v:AV} (e:aG ops o env=some true) (d:∀a,zn P o env a=.call f args) (hs:∀a,F i a->Spec P f args a λr hh=>r=v/\hh=a) (hd:qx o.dst env v=some env') (c:zD P ops Ns F Q (i+1) rest env' h) :
  zD P ops Ns F Q i (o::rest) env h:=⟨v,h,.inr (.inl ⟨j,e,rfl,.inl ⟨f,args,d,hs⟩⟩),.inr rfl,.inl rfl,by rw [yL hd];exact c⟩
theorem draw_okN (j:Ns.contains i=true) {v:AV} (e:aG ops o env=some true) (d:∀a,F i a->zn P o env a=.ok v a) (hd:qx o.dst env v=some env') (c:zD P ops Ns F Q (i+1) rest env' h) :
  zD P ops Ns F Q i (o::rest) env h:=⟨v,h,.inr (.inl ⟨j,e,rfl,.inr d⟩),.inr rfl,.inl rfl,by rw [yL hd];exact c⟩
theorem draw_gv (d:Ns.contains i=false) {b:Bool} {v:AV} (c:aG ops o env=some b) (e:b=true->zn P o env h=.ok v h) (hd:qx o.dst env (gv b v)=some env') (a:zD P ops Ns F Q (i+1) rest env' h):zD P ops Ns F Q i (o::rest) env h:=by
 cases b with
 | true=>rw [qu] at hd;exact zB d c (e rfl) hd a
 | false=>exact ⟨aundef,h,.inl ⟨d,by simp [AR,c]⟩,.inr rfl,.inl rfl,by rw [qK] at hd;rw [yL hd];exact a⟩
theorem draw_glen (d:Ns.contains i=false) {b:Bool} {n:Nat} {v:AV} (c:aG ops o env=some b) (e:b=true->zn P o env h=.len n v h) (hd:qx o.dst env (gv b v)=some env') (a:zD P ops Ns F Q (i+1) rest env' h):zD P ops Ns F Q i (o::rest) env h:=by
 cases b with
 | true=>rw [qu] at hd;exact draw_len d c (e rfl) hd a
 | false=>exact ⟨aundef,h,.inl ⟨d,by simp [AR,c]⟩,.inr rfl,.inl rfl,by rw [qK] at hd;rw [yL hd];exact a⟩
theorem x7 (d:Ns.contains i=false) {b:Bool} {f:FuncId} {args:List AV} {v:AV} (c:aG ops o env=some b) (e:b=true->zn P o env h=.call f args) (hs:b=true->Spec P f args h λr h'=>r=v/\h'=h)
  (hd:qx o.dst env (gv b v)=some env') (a:zD P ops Ns F Q (i+1) rest env' h):zD P ops Ns F Q i (o::rest) env h:=by
 cases b with
 | true=>rw [qu] at hd;exact draw_call d c (e rfl) (hs rfl) hd a
 | false=>exact ⟨aundef,h,.inl ⟨d,by simp [AR,c]⟩,.inr rfl,.inl rfl,by rw [qK] at hd;rw [yL hd];exact a⟩
variable {i0:Nat}
end

inductive Fx (P:Program):List (TypeId×AV)->List AV->Prop
 | nil:Fx P [] []
 | cons {t:TypeId} {v v':AV} {r:List (TypeId×AV)} {s:List AV}:tyfix P t v=v'->Fx P r s->Fx P ((t,v)::r) (v'::s)
theorem Fx.eq {P:Program} {s:List AV} (h:Fx P l s):fixL P l=s:=by
 induction h with
 | nil=>rfl
 | cons h _ ih=>simp only [fixL,h,ih]
theorem z8 {P:Program} {o:Oper} {env:List AV} {h:AH} {c:Call} (d:o.op=.call c) (m:c.callee=.value f) (a:yg env f=some (.fn (.func g) [] []))
  (e:argo env c.args.toList c.argTypes.toList=some l) (j:Fx P l args):zn P o env h=.call g args :=
 s_call d m a e (by simp [j.eq])
theorem s_callC {P:Program} {o:Oper} {env:List AV} {h:AH} {c:Call} {first caps all:List AV} (e:o.op=.call c) (n:c.callee=.value f) (d:yg env f=some (.fn (.func g) first caps))
  (j:argo env c.args.toList c.argTypes.toList=some l) (m:Fx P l args) (a:first++args++caps=all):zn P o env h=.call g all :=
 s_call e n d j (by rw [m.eq,a])
theorem r_loopU {P:Program} {Q:Exit->List AV->AH->Prop} {env:List AV} {h:AH} {body:Code} {σ:Type} (U:σ->List (Nat×AV)) (a:σ->Prop) (d:σ->Nat) (e:σ) {E:σ->List AV} (j:∀s,vE env (U s)=E s) (h0:leL env (E e)) (hi:a e)
  (hs:∀s,a s->wS P body (loopQ (λenv' h'=>∃c,a c/\d c < d s/\wk h env' h' (E c) h) Q) (E s) h):wS P (.loop body) Q env h :=
 r_loop E (λ_=>h) a d e (wk.le h0) hi hs
end Go.Vv
namespace Go.Vv
open Go
variable {j k off n:Nat} {cs cs' ds z:List AV} {v v':AV} {t e:TypeId} {x:Operand} {d:TypeDesc} {fn:Func} {f:FuncId} {l l':List (Nat×AV)} {ks:List Kd}

def AH.ext (h:AH) (L:List Blk) (M:List Nat):AH:={ blks:=h.blks++L,toks:=h.toks++M }
theorem ext_nil (h:AH):h.ext [] []=h:=by simp [AH.ext]
theorem yJ {h:AH} {L:List Blk} {M:List Nat}:(h.ext L M).blk (h.blks.length+j)=L[j]?:=by
 simp only [AH.blk,AH.ext]
 grind
theorem ext_new {h:AH} {L:List Blk} {M:List Nat} {b:Blk}:(h.ext L M).new b=h.ext (L++[b]) M:=by simp [AH.ext,AH.new,uy]
theorem qw {h:AH} {L:List Blk} {M:List Nat} {b:Blk}:(h.ext L M).put (h.blks.length+j) b=h.ext (L.set j b) M:=by
 simp only [AH.ext,AH.put]
 simp_all
theorem ext_cut {h:AH} {L:List Blk} {M:List Nat}:(h.ext L M).cut h.blks.length h.toks.length=h:=by
 simp [AH.cut,AH.ext]
def ldC (ag:Bool) (k off:Nat) (cs:List AV):Option AV:=if ag then (if off+k<=cs.length then some (.agg ((cs.drop off).take k)) else none) else cs[off]?
theorem yy (h:cs[off]?=some v):ldC false k off cs=some v:=h
theorem ldC_ag (h:Nat.ble (off+k) cs.length=true) (a:(cs.drop off).take k=cs'):ldC true k off cs=some (.agg cs'):=by
 simp only [ldC,uq,uv (sR h),a]

section
variable {P:Program} {o:Oper} {env:List AV} {h:AH} {L:List Blk} {M:List Nat}
theorem e_alloc (b:o.op=.alloc t) (c:yR P t=some cs) (a:L.length=n):zn P o env (h.ext L M)=.ok (.ptr (h.blks.length+n) 0) (h.ext (L++[.cells cs]) M):=by
 rw [s_alloc b c,ext_new,<- a];simp [AH.ext]
theorem e_box {a a':AV} (c:o.op=.box t x) (hx:yg env x=some a) (b:tyfix P t a=a') (g:a'.cells?=some cs) (i:L.length=n) :
  zn P o env (h.ext L M)=.ok (.ptr (h.blks.length+n) 0) (h.ext (L++[.cells cs]) M):=by
 rw [s_box c hx b g,ext_new,<- i];simp [AH.ext]
theorem wn (b:o.op=.load t x) (i:Ty P t d k) (hx:yg env x=some (.ptr (h.blks.length+j) off)) (c:L[j]?=some (.cells cs))
  (g:ldC (zU d) k off cs=some v) (a:tyfix P t v=v'):zn P o env (h.ext L M)=.ok v' (h.ext L M):=by
 refine s_load b i hx ?_ a;simp only [qV,yJ,c];exact g
theorem f_load (b:o.op=.load t x) (g:Ty P t d k) (hx:yg env x=some (.fptr cs))
  (c:ldC (zU d) k 0 cs=some v) (a:tyfix P t v=v'):zn P o env h=.ok v' h:=by
 refine s_load b g hx ?_ a;simp only [qV];simpa only [ldC,te,sg] using c
theorem yo {y:Operand} {vs:List AV} {b a:AV} (g:o.op=.store t x y) (q:Ty P t d k) (hx:yg env x=some (.ptr (h.blks.length+j) off)) (p:yg env y=some b)
  (c:tyfix P t b=a) (s:a.cells?=some vs) (m:vs.length=k) (i:L[j]?=some (.cells cs)) (r:Nat.ble (off+k) cs.length=true) (hs:yp cs off vs=cs'):zn P o env (h.ext L M)=.ok aundef (h.ext (L.set j (.cells cs')) M):=by
 refine s_store g q hx p c ?_;simp only [aStore,s,yJ,i];rw [uv ⟨m,sR r⟩,qw,hs]
end
theorem wk_ext2 {h:AH} {L0 L1 L':List Blk} {M0 M1 M':List Nat} {env:List AV} (p:zy (h.blks.length+L0.length) (h.toks.length+M0.length) env=true) (s:L'.take L0.length=L1) (q:M'.take M0.length=M1)
  (r:∀(i:Nat) (k:Blk),L1[i]?=some k->L0[i]?=some k \/ k.low (h.blks.length+L0.length) (h.toks.length+M0.length)=true) :
  wk (h.ext L0 M0) env (h.ext L' M') env (h.ext L1 M1):=by
 have b:(h.ext L0 M0).blks.length=h.blks.length+L0.length:=by simp [AH.ext]
 have c:(h.ext L0 M0).toks.length=h.toks.length+M0.length:=by simp [AH.ext]
 have:=wk.cut (hd:=h.ext L0 M0) (env:=env) (h:=h.ext L' M') (by rw [b,c];exact p) (λi k hi a=>by
  rw [b] at hi;rw [b,c];simp only [AH.ext] at a ⊢;rcases sr i h.blks.length with g | g
  ·rw [uo g] at a ⊢;exact .inl a
  ·rw [un g] at a ⊢;exact r (i - h.blks.length) k (by grind))
 have m:(h.ext L' M').cut (h.ext L0 M0).blks.length (h.ext L0 M0).toks.length=h.ext L1 M1:=by
  rw [b,c];simp only [AH.cut,AH.ext,tI,uO,s,q];rw [uJ (l:=h.blks) (by omega),uJ (l:=h.toks) (by omega)]
 rw [m] at this;exact this
theorem e_range {P:Program} {o:Oper} {env:List AV} {h:AH} {L:List Blk} {M:List Nat} {s:List UInt8} (a:o.op=.range t x) (g:Ty P t .string k) (hx:yg env x=some (.str s)) (i:L.length=n) :
  zn P o env (h.ext L M)=.ok (.ptr (h.blks.length+n) 0) (h.ext (L++[.siter s 0]) M):=by
 obtain ⟨c,b⟩:=zC hx;simp only [zn,a,c,uq,g.u,b,ext_new,<- i];simp [AH.ext]
theorem ops_next {P:Program} {b:Array Oper} {Q:List AV->AH->Prop} {o:Oper} {rest:List Oper} {env:List AV} {y:List AV} {u:List AV} {h:AH} {L:List Blk} {M:List Nat} {s:List UInt8} {a:Nat} (q:aG b o env=some true) (w:o.op=.next x true)
  (hx:yg env x=some (.ptr (h.blks.length+j) 0)) (A:L[j]?=some (.siter s a)) (m:qx o.dst env (.tup [.bool true,.int .i64 a,.int .i32 (dec s a).1])=some y) (c:qx o.dst env (.tup [.bool false])=some u)
  (i:a < s.length->zA P b Q rest y (h.ext (L.set j (.siter s (a+(dec s a).2))) M)) (g:s.length<=a->zA P b Q rest u (h.ext L M)):zA P b Q (o::rest) env (h.ext L M):=by
 obtain ⟨r,p⟩:=zC hx;by_cases hp:a < s.length
 ·refine zc q ?_ m (i hp);simp only [zn,w,r,uV,uq,p,aNext,yJ,A,hp,qw]
 ·refine zc q ?_ c (g (by omega));simp only [zn,w,r,uV,uq,p,aNext,yJ,A,hp,uL]
section
variable {P:Program} {env:List AV} {h:AH} {rs:List ResultVar} {vs:List AV}
theorem rl_nil:vV P env h []=some []:=rfl
theorem rl_tmp {t:Nat} (b:yg env (.tmp t)=some v) (k:vV P env h rs=some vs):vV P env h (.tmp t::rs)=some (v::vs):=by
 have a:env.getD t aundef=v:=by rw [uM,show env[t]?=some v from b];rfl
 simp only [vV,k,a]
theorem rl_cell {a t:Nat} {L:List Blk} {M:List Nat} (c:Ty P t d k) (g:yg env (.tmp a)=some (.ptr (h.blks.length+j) 0)) (m:L[j]?=some (.cells cs)) (p:ldC (zU d) k 0 cs=some v) (w:tyfix P t v=v')
  (r:vV P env (h.ext L M) rs=some vs):vV P env (h.ext L M) (.cell a t::rs)=some (v'::vs):=by
 have b:env.getD a aundef=.ptr (h.blks.length+j) 0:=by rw [uM,show env[a]?=some _ from g];rfl
 obtain ⟨i,s,q⟩:=c.i;simp only [vV,c.u,s,q,b,qV,yJ,m,r];have e:(if zU d then if 0+k<=cs.length then some (AV.agg ((cs.drop 0).take k)) else none else cs[0]?)=some v:=p
 simp_all
theorem q_retL1 {K:AV->AH->Prop} {h0:AH} (c:fn.results=⟨rs⟩) (a:vV P env h rs=some [v]) (b:finK h0 K v h):bodyQ P fn h0 K .ret env h:=by
 simp only [bodyQ,aRes,c,a];exact b
end
theorem fin_ext {h:AH} {L:List Blk} {M:List Nat} {K:AV->AH->Prop} (b:leV v v') (c:v'.low h.blks.length h.toks.length=true) (a:K v' h):finK h K v (h.ext L M):=by
 refine fin_cut b c (λi k hi a=>.inl ?_) (by rw [ext_cut];exact a);simp only [AH.ext] at a
 grind
theorem za {P : Program} {c : Code} (hf : P.funcs[f]? = some fn) (hb : fn.body = some c) (hname : (fn.name == "runtime.NumGoroutine") = false) {args : List AV} {h : AH} {K : AV → AH → Prop} {env : List AV}
  (he:args++List.replicate (fn.ntmps - args.length) aundef=env) (hw:wS P c (bodyQ P fn h K) env (h.ext [] [])):Spec P f args h K:=by
 rw [ext_nil] at hw;exact spec_of_body hf hb hname (by simp_all)
theorem wN (hd:zU d=true) {k off:Nat} {cs cs':List AV} (h:Nat.ble (off+k) cs.length=true) (a:(cs.drop off).take k=cs'):ldC (zU d) k off cs=some (.agg cs'):=by
 rw [hd];exact ldC_ag h a
theorem qG {P:Program} (a:P.underlying t=some d) (hi:(P.info? t).map (λi=>i.size)=some k):Ty P t d k:=by
 refine ⟨a,?_⟩
 simp_all
theorem vO {P:Program} {u:TypeId} {f:Nat} (a:qL P t f=some (off,u)) (hi:(P.info? u).map (λi=>i.size)=some k):Fo P t f off u k:=by
 refine ⟨a,?_⟩
 simp_all
theorem mkEl {P:Program} (a:P.underlying t=some (.slice e)) (hi:(P.info? e).map (λi=>(i.size,decide (i.bytes<=65536)&&decide (0 < k)&&(i.zero.map (·.cells.size))==some k))=some (k,true)):El P t e k:=by
 refine ⟨a,?_⟩;cases h:P.info? e with
 | none=>rw [h] at hi;cases hi
 | some i =>
  simp_all
theorem w64 {n:Int} (h:-9223372036854775808<=n/\n<=9223372036854775807):IntKind.i64.wrap n=n:=by rw [IntKind.wrap_i64];omega
theorem xB {n m:Int} (e:n=m) (h:-9223372036854775808<=n/\n<=9223372036854775807):AV.int .i64 (IntKind.i64.wrap n)=.int .i64 m:=by rw [w64 h,e]
theorem zQ {env:List AV}:argo env [] []=some []:=rfl
theorem zo {env:List AV} {r:List Operand} {ts:List TypeId} {l:List (TypeId×AV)} (h:yg env x=some v) (k:argo env r ts=some l):argo env (x::r) (t::ts)=some ((t,v)::l):=by
 simp only [argo,h,k]
theorem yl (h:n<=maxLen):n<=9223372036854775807:=h
theorem Spec.le {P:Program} {a5 bs:List AV} {h:AH} {K:AV->AH->Prop} (s:Spec P f bs h K) (k:leL a5 bs):Spec P f a5 h K :=
 ⟨s.1,λB w0 _ g w vs r a=>s.2 B w0 g w vs r (k _ _ a)⟩
abbrev plainK2:=xi
structure PK (P:Program) (t:TypeId) (ks:List Kd):Prop where
 g:P.eqGuardType P.depth t=false
 a:(P.underlying t).any zU=true
 k:xi P 6 t=some ks
theorem mkPK {P:Program} (a:P.eqGuardType P.depth t=false) (b:(P.underlying t).any zU=true) (c:plainK2 P 6 t=some ks):PK P t ks:=⟨a,b,c⟩
theorem bin_eq {P:Program} {b:Bool} (c:PK P t ks) (h:vQ ks cs ds=some b):yd P .eql t (.agg cs) (.agg ds)=some (.bool b):=by
 simp only [yd,aEq,c.g,c.a,c.k,rH,s6,uq,h,uU]
theorem bin_ne {P:Program} {b:Bool} (c:PK P t ks) (h:vQ ks cs ds=some b):yd P .neq t (.agg cs) (.agg ds)=some (.bool !b):=by
 simp only [yd,aEq,c.g,c.a,c.k,rH,s6,uq,h,uU]
structure PKA (P:Program) (t:TypeId) (ks:List Kd):Prop where
 g:P.eqGuardType P.depth t=false
 a:(P.underlying t).any zU=true
 k:(xi P 6 t).or (arrKs P t)=some ks
def parto (env:List AV):List (Nat×Operand)->Option (List (Nat×AV))
 | []=>some []
 | (i,x)::r=>match yg env x,parto env r with
  | some v,some vs=>some ((i,v)::vs)
  | _,_=>none
theorem zk {env:List AV}:parto env []=some []:=rfl
theorem ze {env:List AV} {i:Nat} {r:List (Nat×Operand)} (h:yg env x=some v) (k:parto env r=some l):parto env ((i,x)::r)=some ((i,v)::l):=by simp only [parto,h,k]
inductive Fp (P:Program) (d:TypeDesc):List (Nat×AV)->List (Nat×AV)->Prop
 | nil:Fp P d [] []
 | cons {i:Nat} {v v':AV} {r s:List (Nat×AV)}:tyfix P (partTy d i) v=v'->Fp P d r s->Fp P d ((i,v)::r) ((i,v')::s)
theorem parts_ok {P:Program} {d:TypeDesc} {env:List AV}:∀{parts:List (Nat×Operand)} {l l':List (Nat×AV)},parto env parts=some l->Fp P d l l' ->
  parts.all (λp=>zV p.2)=true/\parts.map (λp=>(p.1,tyfix P (partTy d p.1) (ev env p.2)))=l'
 | [],l,l',h,hf=>by simp only [parto,uj] at h;subst h;cases hf;exact ⟨rfl,rfl⟩
 | (i,x)::r,l,l',h,hf=>by
  simp only [parto] at h;split at h
  ·rename_i v vs b a;cases h;cases hf with
   | cons h1 h2 =>
    obtain ⟨q,g⟩:=parts_ok a h2;obtain ⟨m,c⟩:=zC b
    grind
  ·cases h
theorem yf {P:Program} {o:Oper} {env:List AV} {h:AH} {parts:List (Nat×Operand)} {fs:Array Field} {pl:List (Nat×Nat)} (q:o.op=.build t ⟨parts⟩) (s:P.underlying t=some (.struct fs)) (c:yR P t=some z)
  (g:wM P fs=some pl) (r:parto env parts=some l) (m:Fp P (.struct fs) l l') (w:wU (λi=>pl[i]?) z l'=some cs) (u:cs=cs'):zn P o env h=.ok (.agg cs') h:=by
 obtain ⟨y,b⟩:=parts_ok r m;have a:(⟨parts⟩:Array (Nat×Operand)).all (λp=>zV p.2)=true:=by grind
 simp only [zn,q,a,uq,s,c,g,yM,b,w,uU,oo,u]
theorem s_buildArr {P:Program} {o:Oper} {env:List AV} {h:AH} {parts:List (Nat×Operand)} (q:o.op=.build t ⟨parts⟩) (s:P.underlying t=some (.array n e)) (g:yR P t=some z)
  (y:Ty P e d k) (r:parto env parts=some l) (m:Fp P (.array n e) l l') (A:wU (λi=>some (i * k,k)) z l'=some cs) (w:cs=cs'):zn P o env h=.ok (.agg cs') h:=by
 obtain ⟨B,b⟩:=parts_ok r m;obtain ⟨j,u,c⟩:=y.i;have a:(⟨parts⟩:Array (Nat×Operand)).all (λp=>zV p.2)=true:=by grind
 simp only [zn,q,a,uq,s,g,u,c,yM,b,A,uU,oo,w]
theorem zr {P:Program} {o:Oper} {env:List AV} {h:AH} {parts:List (Nat×Operand)} {es:List (List AV)} (y:o.op=.buildSlice t n ⟨parts⟩) (c:El P t e k) (s:yR P e=some z)
  (m:Nat.ble (n * k) 65536=true) (a:z.length=k) (A:parto env parts=some l) (w:Fp P (.slice e) l l') (D:wU (λi=>some (i * k,k)) ((List.replicate n z).flatten) l'=some cs) (E:y6 cs=some cs') (B:rows k n cs'=es) :
  zn P o env h=.ok (.osl none k es) h:=by
 obtain ⟨F,g⟩:=parts_ok A w;obtain ⟨j,C,q,_,r,_⟩:=c.i;have b:(⟨parts⟩:Array (Nat×Operand)).all (λp=>zV p.2)=true:=by grind
 simp only [zn,y,b,uq,c.u,s,C,q,yM,g,D,E,B,r,sR m,a,s6]
end Go.Vv
namespace Go.Vv
open Go
variable {i:Nat} {c:Operand} {body:Code} {N:List AV->AH->Prop}

abbrev zd:=List UInt8
def InK (k:IntKind) (n:Int):Prop:=k.min<=n/\n<=k.max
inductive Out (ρ σ:Type) where
 | ret (r:ρ)
 | brk (s:σ)
 | nxt (s:σ)
section
variable {α ρ σ:Type}
def zq (f:Nat->α->σ->Option (Out ρ σ)):List α->Nat->σ->Option (ρ ⊕ σ)
 | [],_,s=>some (.inr s)
 | x::t,i,s=>match f i x s with
  | none=>none
  | some (.ret r)=>some (.inl r)
  | some (.brk s')=>some (.inr s')
  | some (.nxt s')=>zq f t (i+1) s'
def wY (f:σ->Option (Out ρ σ)):Nat->σ->Option (ρ ⊕ σ)
 | 0,_=>none
 | n+1,s=>match f s with
  | none=>none
  | some (.ret r)=>some (.inl r)
  | some (.brk s')=>some (.inr s')
  | some (.nxt s')=>wY f n s'
theorem loopN_more {f:σ->Option (Out ρ σ)}:∀{n m:Nat} {s:σ} {o:ρ ⊕ σ},wY f n s=some o->n<=m->wY f m s=some o
 | 0,_,_,_,h,_=>by simp [wY] at h
 | n+1,0,_,_,_,hl=>by omega
 | n+1,m+1,s,o,h,hl=>by
  simp only [wY] at h ⊢;rcases hf:f s with _ | (r | a | a) <;> rw [hf] at h <;> simp only at h ⊢
  ·cases h
  ·exact h
  ·exact h
  ·exact loopN_more h (by omega)
open Classical in
noncomputable def yr (f:σ->Option (Out ρ σ)) (s:σ):Option (ρ ⊕ σ) :=
 if h:∃n o,wY f n s=some o then some (Classical.choose (tS h)) else none
theorem loopW_of {f:σ->Option (Out ρ σ)} {n:Nat} {s:σ} {o:ρ ⊕ σ} (h:wY f n s=some o):yr f s=some o:=by
 have hx:∃n o,wY f n s=some o:=⟨n,o,h⟩
 unfold yr;rw [r9 hx];have a:=tS (tS hx);have b:=loopN_more a (Nat.le_max_left _ n);have d:=loopN_more h (Nat.le_max_right (Classical.choose hx) n)
 grind
theorem loopW_is {f:σ->Option (Out ρ σ)} {s:σ} {o:ρ ⊕ σ} (h:yr f s=some o):∃n,wY f n s=some o:=by
 unfold yr at h;split at h
 ·grind
 ·cases h
theorem wB (f:σ->Option (Out ρ σ)) (s:σ):yr f s=match f s with
  | none=>none
  | some (.ret r)=>some (.inl r)
  | some (.brk b)=>some (.inr b)
  | some (.nxt b)=>yr f b:=by
 rcases hf:f s with _ | (r | b | b) <;> simp only
 ·cases hx:yr f s with
  | none=>rfl
  | some o =>
   obtain ⟨n,a⟩:=loopW_is hx;cases n <;> simp [wY,hf] at a
 ·exact loopW_of (n:=1) (by simp only [wY,hf])
 ·exact loopW_of (n:=1) (by simp only [wY,hf])
 ·cases hx:yr f b with
  | some o =>
   obtain ⟨n,a⟩:=loopW_is hx;exact loopW_of (n:=n+1) (by simp only [wY,hf];exact a)
  | none =>
   cases hy:yr f s with
   | none=>rfl
   | some o =>
    obtain ⟨n,a⟩:=loopW_is hy;cases n with
    | zero=>simp [wY] at a
    | succ n =>
     simp only [wY,hf] at a;rw [loopW_of a] at hx;cases hx
def lp (o:Option (ρ ⊕ σ)) (rest:σ->Option ρ):Option ρ :=
 match o with
 | none=>none
 | some (.inl r)=>some r
 | some (.inr s)=>rest s
def ym (p:Prop) [Decidable p] (o:Option ρ):Option ρ:=if p then o else none
def wh (L:List α) (n:Int):Option α:=if 0<=n then L[n.toNat]? else none
def slc (L:List α) (lo hi:Int):Option (List α):=if 0<=lo/\lo<=hi/\hi<=L.length then some ((L.take hi.toNat).drop lo.toNat) else none

theorem zf {α ρ:Type} {o:Option α} {k:α->Option ρ} {r:ρ} {G:Prop} (a:o.bind k=some r) (b:∀v,o=some v->k v=some r->G):G:=by
 cases o with
 | none=>cases a
 | some v=>exact b v rfl a
theorem zZ {α ρ:Type} {b:Bool} {d:α} {o:Option α} {k:α->Option ρ} {r:ρ} {G:Prop} (a:(if b=true then o else some d).bind k=some r) (e:∀v,(b=true->o=some v)->k v=some r->G):G:=by
 cases b with
 | false=>exact e d (λh=>by cases h) a
 | true =>
  cases o with
  | none=>cases a
  | some v=>exact e v (λ_=>rfl) a
theorem z7 {p:Prop} [Decidable p] {o:Option ρ} {r:ρ} {G:Prop} (a:ym p o=some r) (b:p->o=some r->G):G:=by
 unfold ym at a
 simp_all
theorem idxF {L:List α} {n:Int} {y:α} (h:wh L n=some y):0<=n/\L[n.toNat]?=some y:=by
 unfold wh at h
 simp_all
theorem slcF {L M:List α} {lo hi:Int} (h:slc L lo hi=some M):(0<=lo/\lo<=hi/\hi<=L.length)/\M=(L.take hi.toNat).drop lo.toNat:=by
 unfold slc at h
 simp_all

def konL (f:Nat->α->σ->Option (Out ρ σ)) (L:List α) (i:Nat) (rest:σ->Option ρ):Out ρ σ->Option ρ
 | .ret r=>some r
 | .brk s=>rest s
 | .nxt s=>lp (zq f (L.drop (i+1)) (i+1) s) rest
def konN (f:σ->Option (Out ρ σ)) (n:Nat) (rest:σ->Option ρ):Out ρ σ->Option ρ
 | .ret r=>some r
 | .brk s=>rest s
 | .nxt s=>lp (wY f n s) rest
def konJ (rest:σ->Option ρ):ρ ⊕ σ->Option ρ
 | .inl r=>some r
 | .inr s=>rest s
theorem loopL_step {f:Nat->α->σ->Option (Out ρ σ)} {L:List α} {s:σ} {rest:σ->Option ρ} {d:ρ} (h:lp (zq f (L.drop i) i s) rest=some d) (b:i < L.length) :
  ∃x g,L[i]?=some x/\f i x s=some g/\konL f L i rest g=some d:=by
 have e:=(sx b).symm;rw [e] at h;refine ⟨L[i],?_⟩;simp only [zq] at h;split at h
 ·cases h
 ·rename_i r a;exact ⟨.ret r,ui b,a,h⟩
 ·rename_i r a;exact ⟨.brk r,ui b,a,h⟩
 ·rename_i r a;exact ⟨.nxt r,ui b,a,h⟩
theorem loopL_end {f:Nat->α->σ->Option (Out ρ σ)} {L:List α} {s:σ} {rest:σ->Option ρ} {a:ρ} (h:lp (zq f (L.drop i) i s) rest=some a) (b:¬ i < L.length):rest s=some a:=by
 rw [tr (by omega)] at h;exact h
theorem lpF {o:Option (ρ ⊕ σ)} {rest:σ->Option ρ} {b:ρ} (h:lp o rest=some b):∃a,o=some a/\konJ rest a=some b:=by
 cases o with
 | none=>cases h
 | some a=>cases a <;> exact ⟨_,rfl,h⟩
end
section
variable {P:Program} {Q:Exit->List AV->AH->Prop} {env:List AV} {h:AH} {α ρ σ:Type}
theorem zi {t e:Code} {b:Bool} {A B:Option ρ} {r:ρ} (g:yg env c=some (.bool b)) (j:(if b=true then A else B)=some r) (f:b=true->A=some r->wS P t Q env h) (d:b=false->B=some r->wS P e Q env h) :
  wS P (.cond c t e) Q env h:=by
 refine r_cond g (λa=>f a ?_) (λa=>d a ?_)
 ·simp_all
 ·simp_all
theorem zT {f:Nat->α->σ->Option (Out ρ σ)} {L:List α} {s:σ} {rest:σ->Option ρ} {a:ρ} {t e:Code} (l:yg env c=some (.bool (decide ((i:Int) < (L.length:Int))))) (j:lp (zq f (L.drop i) i s) rest=some a)
  (o:∀x g,i < L.length->L[i]?=some x->f i x s=some g->konL f L i rest g=some a->wS P t Q env h) (k:rest s=some a->wS P e Q env h):wS P (.cond c t e) Q env h:=by
 refine r_cond l (λd=>?_) (λd=>?_)
 ·have b:i < L.length:=by have:=u9 d;omega
  obtain ⟨x,g,n,m,p⟩:=loopL_step j b
  simp_all
 ·have b:¬ i < L.length:=by have:=of_decide_eq_false d;omega
  exact k (loopL_end j b)
theorem zF {f:Nat->α->σ->Option (Out ρ σ)} {L:List α} {g:σ} {rest:σ->Option ρ} {d:ρ} (U:Nat->σ->List (Nat×AV)) (H:σ->AH) (j:lp (zq f L 0 g) rest=some d) {E:Nat->σ->List AV}
  (n:∀i s,vE env (U i s)=E i s) (h0:wk h env h (E 0 g) (H g))
  (hs:∀i s,i<=L.length->lp (zq f (L.drop i) i s) rest=some d->wS P body (loopQ (λa h'=>∃b,i < L.length/\lp (zq f (L.drop (i+1)) (i+1) b) rest=some d/\wk (H s) a h' (E (i+1) b) (H b)) Q) (E i s) (H s)) :
  wS P (.loop body) Q env h:=by
 refine r_loop (σ:=Nat×σ) (λp=>E p.1 p.2) (λp=>H p.2) (λp=>p.1<=L.length/\lp (zq f (L.drop p.1) p.1 p.2) rest=some d) (λp=>L.length - p.1) (0,g) h0 ⟨tO _,j⟩ ?_
 rintro ⟨i,s⟩ ⟨hi,j⟩
 have:=hs i s hi j;have e:(loopQ (λa h'=>∃b,i < L.length/\lp (zq f (L.drop (i+1)) (i+1) b) rest=some d/\wk (H s) a h' (E (i+1) b) (H b)) Q) =
  λx a h'=>match x with | .normal=>∃b,i < L.length/\lp (zq f (L.drop (i+1)) (i+1) b) rest=some d/\wk (H s) a h' (E (i+1) b) (H b) | x=>Q x a h':=rfl
 refine vd ?_ _ _ _ this;intro x a h' k;cases x with
 | normal =>
  obtain ⟨b,m,l,o⟩:=k;exact ⟨(i+1,b),⟨m,l⟩,by omega,o⟩
 | _=>exact k
theorem wX {f:σ->Option (Out ρ σ)} {k:σ} {rest:σ->Option ρ} {e:ρ} (U:σ->List (Nat×AV)) (H:σ->AH) (a:lp (yr f k) rest=some e) {E:σ->List AV}
  (u:∀s,vE env (U s)=E s) (h0:wk h env h (E k) (H k))
  (hs:∀n s d,f s=some d->konN f n rest d=some e->wS P body (loopQ (λb h'=>∃g,lp (wY f n g) rest=some e/\wk (H s) b h' (E g) (H g)) Q) (E s) (H s)) :
  wS P (.loop body) Q env h:=by
 obtain ⟨t,o⟩:∃n,lp (wY f n k) rest=some e:=by
  obtain ⟨d,j,m⟩:=lpF a;obtain ⟨n,v⟩:=loopW_is j
  grind
 refine r_loop (σ:=Nat×σ) (λp=>E p.2) (λp=>H p.2) (λp=>lp (wY f p.1 p.2) rest=some e) (λp=>p.1) (t,k) h0 o ?_
 rintro ⟨n,s⟩ a
 cases n with
 | zero=>simp [wY,lp] at a
 | succ n =>
  obtain ⟨d,j,m⟩:∃d,f s=some d/\konN f n rest d=some e:=by
   simp only [wY] at a;split at a
   ·cases a
   ·rename_i r l;exact ⟨.ret r,l,a⟩
   ·rename_i r l;exact ⟨.brk r,l,a⟩
   ·rename_i r l;exact ⟨.nxt r,l,a⟩
  refine vd ?_ _ _ _ (hs n s d j m);intro x b h' q;cases x with
  | normal =>
   obtain ⟨g,j,m⟩:=q;exact ⟨(n,g),j,by omega,m⟩
  | _=>exact q
def joinQ (h0:AH) (N:List AV->AH->Prop) (Q:Exit->List AV->AH->Prop):Exit->List AV->AH->Prop:=λx env' h'=>match x with
 | .normal=>N env' h'
 | x=>Q x env' h'
theorem r_join {a b:Code} {J:Option (ρ ⊕ σ)} {rest:σ->Option ρ} {e:ρ} (U:σ->List (Nat×AV)) (H:σ->AH) (q:lp J rest=some e) {E:σ->List AV} (k:∀s,vE env (U s)=E s)
  (j:∀f,J=some f->konJ rest f=some e->wS P a (joinQ h (λd h'=>∃s,rest s=some e/\wk h d h' (E s) (H s)) Q) env h)
  (p:∀s,rest s=some e->wS P b Q (E s) (H s)):wS P (.seq a b) Q env h:=by
 obtain ⟨f,n,l⟩:=lpF q;refine r_seq (vd ?_ _ _ _ (j f n l));intro x d h' g;cases x with
 | normal =>
  obtain ⟨s,o,m⟩:=g;exact ⟨_,_,m,p s o⟩
 | _=>exact g
theorem q_join {h0:AH} (a:N env h):joinQ h0 N Q .normal env h:=a
theorem q_join_ret {h0:AH} (a:Q .ret env h):joinQ h0 N Q .ret env h:=a
end
end Go.Vv
namespace Go.Vv
open Go
variable {q:Option Nat} {k id m j off:Nat} {i x y:Operand} {lo hi:Option Operand} {n:Int} {t e u e':TypeId} {a b:AV} {ρ:Type} {ops:Array Oper} {Q:List AV->AH->Prop} {rest:List Oper} {env' cs cs':List AV} {B L' B':List Blk} {T T' Ns M' M1:List Nat} {F:Nat->AH->Prop} {f:FuncId} {g:Gh} {hd:AH} {w0 w:World} {K:AV->AH->Prop}

abbrev zg (s:zd):List AV:=[.str s]
def wQ (b:UInt8):List AV:=[.int .u8 b.toNat]
abbrev intRow (k:IntKind) (n:Int):List AV:=[.int k n]
abbrev boolRow (b:Bool):List AV:=[.bool b]
def IsSl {α:Type} (a:AV) (z:Nat) (row:α->List AV) (L:List α):Prop:=a=.sl z (L.map row) \/ ∃q,a=.osl q z (L.map row)
section
variable {α:Type} {row:α->List AV} {L M:List α} {z:Nat}
theorem isl:IsSl (.sl z (L.map row)) z row L:=.inl rfl
theorem iosl:IsSl (.osl q z (L.map row)) z row L:=.inr ⟨_,rfl⟩
theorem lenMap {f:α->List AV} {L:List α}:aLen (.sl k (L.map f))=some L.length:=by simp [aLen]
theorem lenMapO {f:α->List AV} {L:List α}:aLen (.osl q k (L.map f))=some L.length:=by simp [aLen]
theorem zM {i:Nat} {x:α} (h:L[i]?=some x):wh L (i:Int)=some x:=by
 unfold wh;rw [uv (by omega),uP];exact h
end
theorem slc_of {α:Type} {L:List α} {lo hi:Int} (h:0<=lo/\lo<=hi/\hi<=L.length):slc L lo hi=some ((L.take hi.toNat).drop lo.toNat):=uv h
theorem byte_of (h:0<=n/\n < 256):((UInt8.ofNat n.toNat).toNat:Int)=n:=by
 rw [UInt8.toNat_ofNat'];omega
theorem bin_boolE {P:Program} {a b:Bool} (c:Ty P t .bool k):yd P .eql t (.bool a) (.bool b)=some (.bool (a==b)):=by simp only [yd,aEq,c.u,uU]
theorem bin_boolN {P:Program} {a b:Bool} (c:Ty P t .bool k):yd P .neq t (.bool a) (.bool b)=some (.bool !(a==b)):=by simp only [yd,aEq,c.u,uU]
set_option maxHeartbeats 4000000 in
set_option maxHeartbeats 4000000 in
open Classical in
noncomputable def nilq {α:Type} (L:List α) (f:Bool->Option ρ):Option ρ:=if L=[]/\f true ≠ f false then none else f false
theorem nilqF {α:Type} {L:List α} {f:Bool->Option ρ} {r:ρ} (h:nilq L f=some r):f false=some r/\(L=[]->f true=some r):=by
 unfold nilq at h
 simp_all
theorem nilq_of {α:Type} {L:List α} {f:Bool->Option ρ} {r:ρ} (d:f false=some r) (c:L=[]->f true=some r):nilq L f=some r:=by
 unfold nilq
 simp_all
theorem ops_nilqE {P:Program} {o:Oper} {env:List AV} {env':Bool->List AV} {h:AH} {z:Nat} {α:Type} {row:α->List AV} {L:List α} {f:Bool->Option ρ} {r:ρ} (G:aG ops o env=some true)
  (D:o.op=.binOp .eql t x y u) (s:El P t e k) (hx:yg env x=some a) (O:IsSl a z row L) (N:yg env y=some .nilsl) (hd:∀b:Bool,qx o.dst env (.bool b)=some (env' b)) (I:nilq L f=some r)
  (H:∀b,(b=true->L=[])->f b=some r->zA P ops Q rest (env' b) h):zA P ops Q (o::rest) env h:=by
 obtain ⟨C,p⟩:=zC hx;obtain ⟨E,A⟩:=zC N;obtain ⟨J,l⟩:=nilqF I;have key:∀b,(b=true->L.map row=[])->zA P ops Q rest (env' b) h:=λb d=>by
  have c:b=true->L=[]:=λh=>by simp_all
  refine H b c ?_;cases b with
  | false=>exact J
  | true=>exact l (c rfl)
 refine wJ ?_;simp only [G,gwp];rcases O with rfl | ⟨q,rfl⟩
 ·simp only [zn,D,C,E,uV,uq,p,A,aNilq,s.u,rwp]
  rintro v h' ⟨rfl,b,rfl,d⟩
  rw [yL (hd b)];exact key b d
 ·simp only [zn,D,C,E,uV,uq,p,A,aNilq,s.u,rwp]
  rintro v h' ⟨rfl,b,rfl,d⟩
  rw [yL (hd b)];exact key b d
section
variable {P:Program} {o:Oper} {env:List AV} {h:AH} {α:Type} {row:α->List AV} {L:List α}
theorem s_idxRow {k:IntKind} {z:Nat} {y:α} (l:o.op=.indexAddr t x i) (r:El P t e z) (hx:yg env x=some a) (hi:yg env i=some (.int k n)) (p:IsSl a z row L) (d:wh L n=some y) :
  zn P o env h=.ok (.fptr (row y)) h:=by
 obtain ⟨h0,d⟩:=idxF d;refine s_indexAddr l r hx hi ?_;have c:(L.map row)[n.toNat]?=some (row y):=by simp_all
 rcases p with rfl | ⟨q,rfl⟩ <;> simp only [vm,h0,s6,uq,c,uU]
theorem yN {k:IntKind} {z:Nat} {y:α} (c:o.op=.indexAddr t x i) (p:El P t e z) (hx:yg env x=some a) (hi:yg env i=some (.int k n)) (d:IsSl a z row L) (l:wh L n=some y) (r:row y=cs) :
  zn P o env h=.ok (.fptr cs) h:=by rw [<- r];exact s_idxRow c p hx hi d l
theorem s_gidxRow {k:IntKind} {z:Nat} (d:α) (c:o.op=.indexAddr t x i) (p:El P t e z) (hx:yg env x=some a) (hi:yg env i=some (.int k n)) (l:IsSl a z row L) (r:0<=n/\n < L.length) :
  zn P o env h=.ok (.fptr (row (L.getD n.toNat d))) h:=by
 refine s_idxRow c p hx hi l ?_;unfold wh
 simp_all
theorem s_gidxRowE {k:IntKind} {z:Nat} (d:α) (c:o.op=.indexAddr t x i) (p:El P t e z) (hx:yg env x=some a) (hi:yg env i=some (.int k n)) (l:IsSl a z row L) (s:0<=n/\n < L.length)
  (r:row (L.getD n.toNat d)=cs):zn P o env h=.ok (.fptr cs) h:=by rw [<- r];exact s_gidxRow d c p hx hi l s
theorem s_idxStr {s:zd} {k:IntKind} {z:Nat} {b:UInt8} (d:o.op=.index t x i) (l:Ty P t .string z) (hx:yg env x=some (.str s)) (hi:yg env i=some (.int k n)) (c:wh s n=some b) :
  zn P o env h=.ok (.int .u8 b.toNat) h:=by
 obtain ⟨h0,c⟩:=idxF c;refine s_indexStr d l hx hi ?_;simp only [aIndexStr,h0,uq,c,uU]
inductive Bd (env:List AV):Option Operand->Int->Int->Prop
 | none {d:Int}:Bd env none d d
 | some {x:Operand} {k:IntKind} {n d:Int}:yg env x=some (.int k n)->Bd env (some x) d n
theorem Bd.all {x:Option Operand} {d n:Int} (h:Bd env x d n):x.all zV=true:=by
 cases h with
 | none=>rfl
 | some h=>exact (zC h).1
theorem Bd.ab {x:Option Operand} {d:Nat} (h:Bd env x d n) (h0:0<=n):aBound d (x.map (ev env))=Option.some n.toNat:=by
 cases h with
 | none=>rfl
 | some h=>simp only [uU,(zC h).2,aBound,uv h0]
theorem s_slcStr {s M:zd} {l hh:Int} {z:Nat} (r:o.op=.slice t x lo hi none) (D:Ty P t .string z) (hx:yg env x=some (.str s)) (p:Bd env lo 0 l) (c:Bd env hi s.length hh) (C:slc s l hh=some M) :
  zn P o env h=.ok (.str M) h:=by
 obtain ⟨⟨h0,I,H⟩,rfl⟩:=slcF C;obtain ⟨E,A⟩:=zC hx;have v:=Bd.ab (d:=0) p h0;have G:=Bd.ab (d:=s.length) c (by omega);simp only [zn,r,E,p.all,c.all,pq,uV,uq,D.u,A,Option.map_none,aSlice,Option.isNone_none,aSliceStr,v,G];rw [uv (by omega)];rfl
theorem s_slcSl {M:List α} {l hh:Int} {z:Nat} (H:o.op=.slice t x lo hi none) (r:El P t e z) (hx:yg env x=some a) (N:a=.sl z (L.map row) \/ ∃q,a=.osl q z (L.map row)/\(hi.isSome=true \/ q.isSome=true)) (v:Bd env lo 0 l) (c:Bd env hi L.length hh)
  (C:slc L l hh=some M):zn P o env h=.ok (.sl z (M.map row)) h:=by
 obtain ⟨⟨h0,R,O⟩,rfl⟩:=slcF C;obtain ⟨I,D⟩:=zC hx;obtain ⟨i,E,J,_⟩:=r.i;have A:=Bd.ab (d:=0) v h0;have s:=Bd.ab (d:=L.length) c (by omega);simp only [zn,H,I,v.all,c.all,pq,uV,uq,r.u,D,E,J,Option.map_none];rcases N with rfl | ⟨q,rfl,p⟩
 ·simp only [tyfix,uq,aSlice,aSliceSl,A,ux,s,rG,up,uL];rw [uv (by omega)];simp only [oo,List.map_drop,pd]
 ·simp only [tyfix,uq,aSlice,aSliceSl,A,ux,s];rw [uv (by omega)];have G:(q.isNone&&(hi.map (ev env)).isNone)=false:=by
   rcases p with p | p
   ·simp_all
   ·cases q <;> simp_all
  simp only [G,up,uL,oo,List.map_drop,pd]
theorem a_app {M:List α} {h':AH} (d:L.length+M.length<=yS) (c:h.grow q L.length M.length=some (id,h')):aAppend h k (.osl q k (L.map row)) (M.map row)=some (.osl (some id) k ((L++M).map row),h'):=by
 simp only [aAppend,ux];by_cases h0:M.length=0
 ·have:M=[]:=uN h0;subst this;rw [uv (show ([]:List α).length=0 from rfl)];cases q with
  | none =>
   simp only [AH.grow,uk,tE,uj,tA] at c
   simp_all
  | some id' =>
   simp only [AH.grow,uk,tE] at c;split at c
   ·rename_i l;simp only [uj,tA] at c;obtain ⟨rfl,rfl⟩:=c;have:h.toks.set id' L.length=h.toks:=by
     refine uZ λj=>?_
     grind
    simp [this]
   ·cases c
 ·simp_all
variable {M:List α}
theorem e_appN {c:Call} {k':Nat} {l:AV} (r:o.op=.call c) (G:c.callee=.builtin .append) (hs:c.args=#[x,y]) (E:c.argTypes=#[t,u]) (D:El P t e k)
  (d:El P u e' k') (hx:yg env x=some a) (v:yg env y=some b) (s:tyfix P t a=.osl none k (L.map row)) (H:tyfix P u b=l) (I:qU k l=some (M.map row)) (A:L.length+M.length<=yS) (p:T.length=m) (C:T++[(L++M).length]=T') :
  zn P o env (h.ext B T)=.ok (.osl (some (h.toks.length+m)) k ((L++M).map row)) (h.ext B T'):=by
 refine s_append r G hs E D d hx v s H I (a_app A ?_);subst C p;simp [AH.grow,AH.ext]
theorem xw {c:Call} {k':Nat} {l:AV} (p:o.op=.call c) (E:c.callee=.builtin .append) (hs:c.args=#[x,y]) (D:c.argTypes=#[t,u]) (C:El P t e k)
  (d:El P u e' k') (hx:yg env x=some a) (s:yg env y=some b) (r:tyfix P t a=.osl (some (h.toks.length+j)) k (L.map row)) (G:tyfix P u b=l) (I:qU k l=some (M.map row)) (v:L.length+M.length<=yS) (J:T[j]?=some L.length) (A:T.set j (L++M).length=T') :
  zn P o env (h.ext B T)=.ok (.osl (some (h.toks.length+j)) k ((L++M).map row)) (h.ext B T'):=by
 refine s_append p E hs D C d hx s r G I (a_app v ?_);subst A;have H:(h.toks++T)[h.toks.length+j]?=some L.length:=by grind
 simp only [AH.grow,AH.ext,H,uq]
 simp_all
theorem vf:qU k (.sl k (M.map row))=some (M.map row):=by simp [qU]
theorem yI:qU k (.osl q k (M.map row))=some (M.map row):=by simp [qU]
end

theorem leL.app {a5 bs:List AV} {cs:List AV} (k:leL a5 bs):leL (a5++cs) (bs++cs):=λg vs hv=>by
 have hs:∀{a5:List AV} {vs:List Value},VL g (a5++cs) vs->∃us ws,vs=us++ws/\VL g a5 us/\VL g cs ws:=by
  intro a5
  induction a5 with
  | nil=>intro vs h;exact ⟨[],vs,rfl,by simp [VL],h⟩
  | cons a r ih =>
   intro vs h;simp only [tj,VL] at h;obtain ⟨v,s,rfl,h1,h2⟩:=h;obtain ⟨us,ws,rfl,h3,h4⟩:=ih h2;exact ⟨v::us,ws,rfl,VL.cons h1 h3,h4⟩
 obtain ⟨us,ws,rfl,h1,h2⟩:=hs hv;exact VL.append (k _ _ h1) h2
theorem leL.pre {a5 bs:List AV}:∀{cs:List AV},leL a5 bs->leL (cs++a5) (cs++bs)
 | [],k=>k
 | _::_,k=>leL.eq (leL.pre k)
def keeps:List (Nat×Blk)->List Blk->Prop
 | [],_=>True
 | (j,b)::r,B=>B[j]?=some b/\keeps r B
theorem keeps1 {b:Blk} {r:List (Nat×Blk)} (h:keeps ((j,b)::r) B):B[j]?=some b:=h.1
def lk:List (Nat×List (Nat×Blk))->Nat->List (Nat×Blk)
 | [],_=>[]
 | (m,l)::r,n=>if n=m then l else lk r n
def KeepB (h:AH) (l:List (Nat×Blk)) (x:AH):Prop:=∃B T,x=h.ext B T/\keeps l B
theorem yT {h:AH} {l:List (Nat×Blk)} (c:keeps l B):KeepB h l (h.ext B T):=⟨_,_,rfl,c⟩
def keepA:List (Nat×List (Nat×Blk))->List Blk->Prop
 | [],_=>True
 | (_,l)::r,B=>keeps l B/\keepA r B
theorem keepA_lk:∀{l:List (Nat×List (Nat×Blk))} {B:List Blk},keepA l B->∀n,keeps (lk l n) B
 | [],_,_,_=>trivial
 | (m,l)::r,B,h,n=>by
  simp only [lk];split
  ·exact h.1
  ·exact keepA_lk h.2 n
theorem FOk.all {b:Nat} {G:AH->Prop} {h:AH} (c:G h):FOk b Ns (λ_=>G) h:=λ_ _ _=>c
theorem FOk.nil {b:Nat} {h:AH}:FOk b [] F h:=λ_ h _=>by simp at h
theorem FOk.cons {b n:Nat} {h:AH} (c:b.testBit n=true \/ F n h) (d:FOk b Ns F h):FOk b (n::Ns) F h:=λm p l=>by
 rcases c with c | c
 ·by_cases e:m=n
  ·simp_all
  ·exact d m (by simp_all) l
 ·by_cases e:m=n
  ·simp_all
  ·exact d m (by simp_all) l
abbrev rsA (h:AH) (i j k n:Nat):AV:=.rsl (h.blks.length+i) (h.toks.length+j) k n
abbrev ve (h:AH) (j k:Nat) (es:List (List AV)):AV:=.osl (some (h.toks.length+j)) k es
abbrev rwA (h:AH) (j k:Nat) (es:List (List AV)):Blk:=.row (h.toks.length+j) k es
theorem yn {P:Program} {Q:Exit->List AV->AH->Prop} {env:List AV} {h:AH} {l:List Oper} (Ns:List Nat) (c:List (Nat×List (Nat×Blk))) (r:keepA c B) (d:P.follows .mixedOrders=true) (hd:drawOk ⟨l⟩ Ns=true) (p:zD P ⟨l⟩ Ns (λn=>KeepB h (lk c n)) (Q .normal) 0 l env (h.ext B T)) :
  wS P (.region id ⟨l⟩ true) Q env (h.ext B T):=.inl ⟨Ns,λn=>KeepB h (lk c n),⟨d,hd⟩,λn=>yT (keepA_lk r n),p⟩
theorem r_drawnF {P:Program} {Q:Exit->List AV->AH->Prop} {env:List AV} {h:AH} {l:List Oper} (Ns:List Nat) (F:Nat->AH->Prop) (p:∀n,F n h) (c:P.follows .mixedOrders=true) (hd:drawOk ⟨l⟩ Ns=true) (d:zD P ⟨l⟩ Ns F (Q .normal) 0 l env h) :
  wS P (.region id ⟨l⟩ true) Q env h:=.inl ⟨Ns,F,⟨c,hd⟩,p,d⟩
theorem yZ {h:AH} {L:List Blk} {M:List Nat}:(h.ext L M).ext L' M'=h.ext (L++L') (M++M'):=by simp [AH.ext,uy]
theorem ops_callH {P:Program} {o:Oper} {env:List AV} {h h':AH} {args:List AV} {v:AV} (p:aG ops o env=some true) (l:zn P o env h=.call f args) (hs:Spec P f args h λr hh=>r=v/\hh=h')
  (hd:qx o.dst env v=some env') (c:zA P ops Q rest env' h'):zA P ops Q (o::rest) env h :=
 ops_call p l hs λr h' ⟨d,s⟩=>by subst d;subst s;rw [yL hd];exact c
theorem x8 {i:Nat} (A:Ns.contains i=false) {P:Program} {ops:Array Oper} {Q:List AV->AH->Prop} {o:Oper} {rest:List Oper} {env env':List AV} {h h':AH} {f:FuncId} {args:List AV} {v:AV} (p:FOk ((Region.before ops).getD i 0) Ns F h') (c:h'.blks=h.blks) (d:aG ops o env=some true) (s:zn P o env h=.call f args) (hs:Spec P f args h λr hh=>r=v/\hh=h')
  (hd:qx o.dst env v=some env') (l:zD P ops Ns F Q (i+1) rest env' h'):zD P ops Ns F Q i (o::rest) env h :=
 ⟨v,h',.inl ⟨A,by simp only [AR,d,s];exact hs⟩,.inr c,.inr p,by rw [yL hd];exact l⟩
theorem wF {i:Nat} (r:Ns.contains i=false) {P:Program} {ops:Array Oper} {Q:List AV->AH->Prop} {o:Oper} {rest:List Oper} {env env':List AV} {h h':AH} {v:AV} (s:FOk ((Region.before ops).getD i 0) Ns F h') (p:h'.blks=h.blks) (l:aG ops o env=some true) (d:zn P o env h=.ok v h') (hd:qx o.dst env v=some env') (c:zD P ops Ns F Q (i+1) rest env' h') :
  zD P ops Ns F Q i (o::rest) env h:=⟨v,h',.inl ⟨r,by simp only [AR,l,d,s6]⟩,.inr p,.inr s,by rw [yL hd];exact c⟩
def OwnK (h:AH) (k n:Nat) (R:List (List AV)) (rr:AV) (hh:AH):Prop:=rr=.osl (some h.toks.length) k R/\hh=h.ext [] [n]
theorem qY {P:Program} {a5:List AV} {h:AH} {n:Nat} {R:List (List AV)} (s:Spec P f a5 (h.ext B T) (OwnK (h.ext B T) k n R)) (c:T.length=m) (d:T++[n]=T') :
  Spec P f a5 (h.ext B T) (λl hh=>l=.osl (some (h.toks.length+m)) k R/\hh=h.ext B T'):=by
 refine s.mono ?_
 rintro r h' ⟨rfl,rfl⟩
 subst c d;simp [AH.ext,uy]
theorem evo_eq {env:List AV} (h:yg env x=some a) (e:a=b):yg env x=some b:=by rw [h,e]
theorem blk_ext2 {h:AH} {b:Blk} (c:B[j]?=some b):((h.ext B T).ext B' T').blk (h.blks.length+j)=some b:=by
 rw [yZ,yJ,uo (uc.1 c).1];exact c
theorem blk_old {h:AH} {b:Blk} (c:h.blk id=some b):(h.ext B T).blk id=some b:=by
 have d:id < h.blks.length:=(uc.1 c).1;simp only [AH.blk,AH.ext] at c ⊢
 grind
theorem b_load {P:Program} {o:Oper} {env:List AV} {h:AH} {d:TypeDesc} {v c:AV} (p:o.op=.load t x) (s:Ty P t d k) (hx:yg env x=some (.ptr id off)) (A:h.blk id=some (.cells cs))
  (r:ldC (zU d) k off cs=some v) (l:tyfix P t v=c):zn P o env (h.ext B T)=.ok c (h.ext B T):=by
 refine s_load p s hx ?_ l;simp only [qV,blk_old A];exact r

theorem leV.agg {cs ds:List AV} (k:leL cs ds) (d:ds.all AV.one=true):leV (.agg cs) (.agg ds):=λg v c=>by
 simp only [V] at c ⊢;obtain ⟨vs,e,l⟩:=c;exact ⟨vs,e,VA.mk (k _ _ l.toVL) d⟩
theorem leV.tup {cs ds:List AV} (k:leL cs ds):leV (.tup cs) (.tup ds):=λg v c=>by
 simp only [V] at c ⊢;obtain ⟨vs,e,d⟩:=c;exact ⟨vs,e,k _ _ d⟩
theorem VL.setE {g:Gh}:∀{a5:List AV} {vs:List Value},VL g a5 vs->∀(i:Nat) (a:AV),(∀v,vs[i]?=some v->V g a v)->VL g (a5.set i a) vs
 | [],_,h,i,a,_=>by simpa using h
 | _::r,_,h,i,a,hv=>by
  simp only [VL] at h;obtain ⟨c,s,rfl,l,d⟩:=h;cases i with
  | zero=>simp only [um,VL];exact ⟨c,s,rfl,hv c rfl,d⟩
  | succ i=>simp only [ul,VL];exact ⟨c,s,rfl,l,VL.setE d i a (λv p=>hv v (by simp_all))⟩
theorem V.tok {n:Nat} {es:List (List AV)} {v:Value} (C:es.length=n) (d:V g (.osl none k es) v):V (g.addT ⟨n,none,false⟩) (.osl (some g.τ.length) k es) v:=by
 subst C;simp only [V] at d ⊢;obtain ⟨a,c,r,l,s,p,A⟩:=d;refine ⟨a,c,r,l,s,p.imp id λ⟨b,o,e,hh⟩=>⟨b,o,e,VE.mono (g.le_addT _) _ _ _ _ hh⟩,⟨es.length,none,false⟩,?_,rfl,ug _,λ_=>.inl A⟩;simp only [Gh.addT]
 simp_all
theorem wk_tok {α:Type} {row:α->List AV} {L:List α} {h:AH} {env:List AV} {d:Nat} (H:yg env (.tmp d)=some (.osl none k (L.map row))) (G:T.length=m)
  (hE:qx (some d) env (.osl (some (h.toks.length+m)) k (L.map row))=some env') (E:T++[L.length]=T') :
  wk hd env (h.ext B T) env' (h.ext B T'):=λ_ _ _ _ g1 g vs _ D r C=>by
 subst G E;simp only [qx,uj] at hE;subst hE;have c:h.toks.length+T.length=g.τ.length:=by rw [r.tlen];simp [AH.ext]
 refine ⟨g.addT ⟨L.length,none,false⟩,D.trans (g.le_addT _),?_,?_⟩
 ·have:=r.addTok ⟨L.length,none,false⟩ (λ_ _ _ h=>by cases h) (λ_ _ h=>by cases h);have e:(h.ext B (T++[L.length]))={ (h.ext B T) with toks:=(h.ext B T).toks++[L.length] }:=by simp [AH.ext,uy]
  simp_all
 ·have s:=C;refine ⟨VL.setE (VL.mono (g.le_addT _) _ _ C) d _ λv p=>?_,λ_ h=>h⟩;obtain ⟨a,l,I⟩:=s.getR _ _ p;have A:env[d]?=some (.osl none k (L.map row)):=H;rw [A] at l;injection l with l;subst l;rw [c];exact I.tok (by simp)
theorem Rel.rowsC {B:Nat} {h:AH} (r:Rel B w0 g h w) {i:Nat} {cs cs':List AV} (p:h.blks[i]?=some (.cells cs)) :
  (∀(j:Nat) (x:Blk),g.σ[j]?=some none->(h.put i (.cells cs')).blks[j]?=some x->RowB g w x) /\
  ∀(a b t k k':Nat) (es es':List (List AV)),(h.put i (.cells cs')).blks[a]?=some (.row t k es)->(h.put i (.cells cs')).blks[b]?=some (.row t k' es')->a=b:=by
 have key:∀(a t k:Nat) (es:List (List AV)),(h.put i (.cells cs')).blks[a]?=some (.row t k es)->h.blks[a]?=some (.row t k es):=by
  intro a t k es c;simp only [AH.put] at c
  grind
 refine ⟨λj x d hx=>?_,λa b t k k' es es' c l=>r.rinj _ _ _ _ _ _ _ (key _ _ _ _ c) (key _ _ _ _ l)⟩;simp only [AH.put] at hx;by_cases hij:i=j
 ·subst hij;exact (r.row i _ d p).elim
 ·rw [u6 hij] at hx;exact r.row j x d hx
theorem Rel.reblk {B:Nat} {h:AH} (r:Rel B w0 g h w) {i:Nat} {cs cs':List AV} (l:h.blks[i]?=some (.cells cs)) (D:∀c,BlkOk g w c (.cells cs)->BlkOk g w c (.cells cs')):Rel B w0 g (h.put i (.cells cs')) w:=by
 refine ⟨r.below,r.bsz,r.phi,by simp [AH.put,r.slen],λj c q p d=>?_,r.tlen,r.tok,r.sinj,r.tinj,r.sep,r.dfr,(r.rowsC l).1,(r.rowsC l).2,r.nb,r.ob,r.oa⟩;simp only [AH.put] at d;by_cases hij:i=j
 ·subst hij;rw [uF (uc.1 l).1] at d;injection d with d;subst d;obtain ⟨A,s,C,v⟩:=r.blk i c _ p l
  simp_all
 ·rw [u6 hij] at d;exact r.blk j c q p d
theorem wk_tokB {α:Type} {row:α->List AV} {L:List α} {h:AH} {env:List AV} (O:B[j]?=some (.cells cs)) (he:yg cs (.tmp off)=some (.osl none k (L.map row))) (X:T.length=m)
  (hE:qx (some off) cs (.osl (some (h.toks.length+m)) k (L.map row))=some cs') (hB:B.set j (.cells cs')=B') (U:T++[L.length]=T') :
  wk hd env (h.ext B T) env (h.ext B' T'):=λ_ _ w _ g1 g vs _ S r hv=>by
 subst X U hB;simp only [qx,uj] at hE;subst hE;have C:h.toks.length+T.length=g.τ.length:=by rw [r.tlen];simp [AH.ext]
 refine ⟨g.addT ⟨L.length,none,false⟩,S.trans (g.le_addT _),?_,VL.mono (g.le_addT _) _ _ hv,λ_ h=>h⟩;have d:=r.addTok ⟨L.length,none,false⟩ (λ_ _ _ h=>by cases h) (λ_ _ h=>by cases h);have G:({ (h.ext B T) with toks:=(h.ext B T).toks++[L.length] }:AH).blks[h.blks.length+j]?=some (.cells cs):=by
  simp only [AH.ext];rw [un (by omega),uO];exact O
 have e:(h.ext (B.set j (.cells (cs.set off (.osl (some (h.toks.length+T.length)) k (L.map row))))) (T++[L.length])) =
   ({ (h.ext B T) with toks:=(h.ext B T).toks++[L.length] }:AH).put (h.blks.length+j) (.cells (cs.set off (.osl (some (h.toks.length+T.length)) k (L.map row)))):=by
  simp only [AH.ext,AH.put,uy]
  simp_all
 rw [e]
 -- what the cells were ahead of the token
 have A:(h.ext B T).blks[h.blks.length+j]?=some (.cells cs):=by
  omega
 obtain ⟨c,R⟩:∃c:Nat,g.σ[h.blks.length+j]?=some (some c):=by
  have:h.blks.length+j < g.σ.length:=by rw [r.slen];simp only [AH.ext,uf];have:=(uc.1 O).1;omega
  rcases R:g.σ[h.blks.length+j] with _ | c
  ·exact (r.row _ _ (by simp_all) A).elim
  ·simp_all
 obtain ⟨_,_,⟨us,t,W,J⟩,_⟩:=r.blk _ c _ R A;have D:VA (g.addT ⟨L.length,none,false⟩) (cs.set off (.osl (some (h.toks.length+T.length)) k (L.map row))) us.toList:=by
  have N:=J.toVL;refine VA.mk (VL.setE (VL.mono (g.le_addT _) _ _ N) off _ λv H=>?_) ?_
  ·obtain ⟨a,l,hV⟩:=N.getR _ _ H;have I:cs[off]?=some (.osl none k (L.map row)):=he;rw [I] at l;injection l with l;subst l;rw [C];exact hV.tok (by simp)
  ·rw [ur];intro a l;rcases r6 l with l | rfl
   ·have:=J.ones;rw [ur] at this;exact this a l
   ·rfl
 -- one block alone: the same cell
 refine ⟨d.below,d.bsz,d.phi,by simp [AH.put,d.slen],λi E q s p=>?_,d.tlen,d.tok,d.sinj,d.tinj,d.sep,d.dfr,(d.rowsC G).1,(d.rowsC G).2,d.nb,d.ob,d.oa⟩;simp only [AH.put] at p;by_cases hij:h.blks.length+j=i
 ·subst hij;rw [uF (uc.1 G).1] at p;injection p with p;subst p;obtain ⟨Y,V,_,Z⟩:=d.blk _ E _ s G;have:E=c:=by
   have:g.σ[h.blks.length+j]?=some (some E):=s
   simp_all
  subst this;exact ⟨Y,V,⟨us,t,W,D⟩,λ_=>Z (by simp)⟩
 ·rw [u6 hij] at p;exact d.blk i E q s p
mutual
theorem AV.low_up {n d m p:Nat} (c:n<=d) (h:m<=p):∀a:AV,a.low n m=true->a.low d p=true
 | .bool _,_ | .int _ _,_ | .str _,_ | .nilp,_ | .nilm,_ | .nilf,_ | .nili,_ | .nilsl,_ | .fptr _,_ | .sl _ _,_ | .glob _,_ | .any,_ | .opq,_ | .bsl _ _,_ | .nsl _ _,_ | .gsl _ _,_ | .gptr _,_=>rfl
 | .osl none _ _,_=>rfl
 | .osl (some t) _ _,hl=>by simp only [AV.low,uh] at hl ⊢;omega
 | .ptr _ _,hl=>by simp only [AV.low,uh] at hl ⊢;omega
 | .msl _ _ _ _,hl=>by simp only [AV.low,uh] at hl ⊢;omega
 | .rsl _ _ _ _,hl=>by simp only [AV.low,uh] at hl ⊢;omega
 | .rsuf _ _ _ _ _,hl=>by simp only [AV.low,uh] at hl ⊢;omega
 | .rptr _ _ _ _ _,hl=>by simp only [AV.low,uh] at hl ⊢;omega
 | .map _,hl=>by simp only [AV.low,uh] at hl ⊢;omega
 | .yld _,hl=>by simp only [AV.low,uh] at hl ⊢;omega
 | .fn _ a b,hl=>by
  simp only [AV.low,ud] at hl ⊢;exact ⟨ya c h a hl.1,ya c h b hl.2⟩
 | .iface _ v,hl=>by simp only [AV.low] at hl ⊢;exact AV.low_up c h v hl
 | .agg cs,hl=>by simp only [AV.low] at hl ⊢;exact ya c h cs hl
 | .tup cs,hl=>by simp only [AV.low] at hl ⊢;exact ya c h cs hl
theorem ya {n d m p:Nat} (c:n<=d) (h:m<=p):∀l:List AV,zy n m l=true->zy d p l=true
 | [],_=>rfl
 | a::r,hl=>by
  simp only [zy,ud] at hl ⊢;exact ⟨AV.low_up c h a hl.1,ya c h r hl.2⟩
end
theorem wk_cutm {h:AH} {env:List AV} {L:List Blk} {M:List Nat} (m:Nat) (v:zy h.blks.length (h.toks.length+m) env=true) (l:M.take m=M1):wk h env (h.ext L M) env (h.ext [] M1):=λ_ _ _ _ g1 g vs c p r A=>by
 subst l;refine ⟨g.cut h.blks.length (h.toks.length+m),Gh.le_cut2 p (by rw [c.slen];exact ug _) (by rw [c.tlen];omega),?_,VL.cut _ _ v A,λ_ h=>h⟩;have e:(h.ext L M).cut h.blks.length (h.toks.length+m)=h.ext [] (M.take m):=by
  simp [AH.cut,AH.ext,tI];rw [uJ (by omega)]
 have:=r.cut h.blks.length (h.toks.length+m) (λi k hi d=>?_)
 ·simp_all
 ·have s:i < g1.σ.length:=by rw [c.slen];exact hi
  simp only [AH.ext] at d;rw [uo hi] at d;have:=c.isLow d;rw [c.slen,c.tlen] at this;exact Blk.low_mono (by omega) _ this
theorem fin_own {h:AH} {n:Nat} {R:List (List AV)} (c:K (.osl (some h.toks.length) k R) (h.ext [] [n])):finK h K (.osl (some (h.toks.length+0)) k R) (h.ext B (n::T)) :=
 xu (wk_cutm 1 (by simp [zy,AV.low]) rfl) c
theorem fin_own0 {α:Type} {row:α->List AV} {L:List α} {h:AH} (c:K (.osl (some h.toks.length) k (L.map row)) (h.ext [] [L.length])):finK h K (.osl none k (L.map row)) (h.ext B T) :=
 xu ((wk_cutm (M1:=[]) 0 (by rfl) rfl).trans (wk_tok (d:=0) (m:=0) rfl rfl rfl rfl)) c
theorem wk_leB {h:AH} {env:List AV} (A:B[j]?=some (.cells cs)) (v:leL cs cs') (s:cs'.all AV.one=true) (C:B.set j (.cells cs')=B'):wk hd env (h.ext B T) env (h.ext B' T):=λ_ _ w _ g1 g vs _ D r E=>by
 subst C;have l:(h.ext B T).blks[h.blks.length+j]?=some (.cells cs):=by
  simp only [AH.ext];rw [un (by omega),uO];exact A
 have:=r.reblk l (cs':=cs') (λc ⟨us,t,p,d⟩=>⟨us,t,p,VA.mk (v _ _ d.toVL) s⟩);have e:(h.ext B T).put (h.blks.length+j) (.cells cs')=h.ext (B.set j (.cells cs')) T:=by
  simp only [AH.ext,AH.put]
  simp_all
 grind
theorem zN {h:AH} {L0 L1:List Blk} {M0:List Nat} {env:List AV} (c:zy (h.blks.length+L0.length) (h.toks.length+M0.length) env=true) (l:L'.take L0.length=L1) (d:M'.take M0.length=M1)
  (r:L1.all (λb=>b.low (h.blks.length+L0.length) (h.toks.length+M0.length))=true):wk (h.ext L0 M0) env (h.ext L' M') env (h.ext L1 M1) :=
 wk_ext2 c l d λ_ k p=>.inr (by grind)
theorem r_condR {P:Program} {Q:Exit->List AV->AH->Prop} {env:List AV} {h:AH} {σ:Type} {f:Nat->Nat->σ->Option (Out ρ σ)} {m:Int} {i:Nat} {s:σ} {rest:σ->Option ρ} {r:ρ} {c:Operand} {t e:Code} (D:yg env c=some (.bool (decide ((i:Int) < m))))
  (v:lp (zq f ((List.range m.toNat).drop i) i s) rest=some r)
  (G:∀x l,i < (List.range m.toNat).length->(i:Int) < m->x=i->f i x s=some l->konL f (List.range m.toNat) i rest l=some r->wS P t Q env h) (C:rest s=some r->wS P e Q env h):wS P (.cond c t e) Q env h:=by
 refine r_cond D (λd=>?_) (λd=>?_)
 ·have A:=u9 d;have p:i < (List.range m.toNat).length:=by simp;omega
  obtain ⟨x,l,H,E,I⟩:=loopL_step v p
  simp_all
 ·have A:=of_decide_eq_false d;exact C (loopL_end v (by simp;omega))
theorem ops_nextF {P:Program} {o:Oper} {env E G:List AV} {h:AH} {L:List Blk} {M:List Nat} {s:List UInt8} {c:Nat} {A C:Option ρ} {r:ρ} (J:aG ops o env=some true) (H:o.op=.next x true)
  (hx:yg env x=some (.ptr (h.blks.length+j) 0)) (I:L[j]?=some (.siter s c)) (l:qx o.dst env (.tup [.bool true,.int .i64 c,.int .i32 (dec s c).1])=some E) (d:qx o.dst env (.tup [.bool false])=some G)
  (N:(if c < s.length then A else C)=some r) (p:c < s.length->A=some r->zA P ops Q rest E (h.ext (L.set j (.siter s (c+(dec s c).2))) M)) (v:C=some r->zA P ops Q rest G (h.ext L M)):zA P ops Q (o::rest) env (h.ext L M) :=
 ops_next J H hx I l d (λD=>p D (by simp_all)) (λD=>v (by grind))
open Classical in
noncomputable def anyN (g:Nat->Option ρ):Option ρ:=if h:∃r N,∀n,N<=n->g n=some r then some (Classical.choose h) else none
theorem anyN_is {g:Nat->Option ρ} {r:ρ} (h:anyN g=some r):∃n,g n=some r:=by
 unfold anyN at h;split at h
 ·rename_i hx;injection h with h;subst h;obtain ⟨N,c⟩:=tS hx;exact ⟨N,c N (ug _)⟩
 ·cases h
theorem anyN_of {g:Nat->Option ρ} {r:ρ} (N:Nat) (h:∀n,N<=n->g n=some r):anyN g=some r:=by
 have hx:∃r N,∀n,N<=n->g n=some r:=⟨r,N,h⟩
 unfold anyN;rw [r9 hx];obtain ⟨M,c⟩:=tS hx;have d:=c (max N M) (Nat.le_max_right _ _)
 grind
theorem Rel.beyond {B:Nat} {w':World} {h:AH} (r:Rel B w0 g h w) (d:RowKit.Below w.heap.size w w'):Rel B w0 g h w' :=
 ⟨r.below.trans (d.mono r.bsz),uB r.bsz d.size,λb j v e=>(d.cell (p:=⟨b,j,none⟩) (r.phi_lt e)).trans (r.phi b j v e),r.slen,
   λi c k A E=>by
     obtain ⟨G,C,I,H⟩:=r.blk i c k A E;exact ⟨G,tw C d.size,I.mono (Gh.le.refl g) (d.block c C),H⟩,r.tlen,
   λi t D=>by
     obtain ⟨G,C⟩:=r.tok i t D;exact ⟨G,λb l e s=>(C b l e s).mono d.size (d.block b (C b l e s).lt) λ_ _=>rfl⟩,r.sinj,r.tinj,r.sep,λc A=>⟨(r.dfr c A).1,(d.block c (r.dfr_lt A)).trans (r.dfr c A).2.1,(r.dfr c A).2.2⟩,
   λi k hi E=>(r.row i k hi E).mono (Gh.le.refl g) (λ_ _ h _=>h) (λi t b x D _ s=>⟨d.block b ((r.tok i t D).2 b x.1 x.2 s).lt,λ_=>rfl⟩),r.rinj,
   λb x hx=>(r.nb b x hx).mono λ_ s J=>⟨d.block b s,J,λh=>h⟩,λb hx=>⟨tw (r.ob b hx).1 d.size,(r.ob b hx).2⟩,r.oa⟩
end Go.Vv
namespace Go.Vv
open Go Go.RowKit Go.Lib
def apart (ops:Array Oper) (o p:Oper):Bool :=
 (match o.dst with | some d=>!(p.looksAt ops).contains d&&p.dst != some d | none=>true) &&
 (match p.dst with | some d=>!(o.looksAt ops).contains d | none=>true)
section
variable {P:Program} {l:List Oper} {Q:List AV->AH->Prop} {m i j:Nat} {listed:Array Bool} {env env':List AV} {h h':AH} {o:Oper} {v:AV}
end
section
variable {P:Program} {l:List Oper} {Q:List AV->AH->Prop} {m i:Nat} {listed:Array Bool} {env env':List AV} {h:AH} {o:Oper} {v:AV}
end
end Go.Vv
namespace Go.Vv
open Go Go.RowKit Go.Proofs Go.Shelf
variable {P:Program}

def strJoin (xs:List (List UInt8)) (sep:List UInt8):Option (List UInt8):=if xs.length<=140737488355328/\(Lib.join xs sep).length<=140737488355328 then some (Lib.join xs sep) else none

theorem spec_join {ρ:Ren} (L:Lays.n156 P ρ) (X:Builder.Extra P ρ) {xs:List (List UInt8)} {sep res:List UInt8} {h:AH} (n:strJoin xs sep=some res) :
  Spec P (ρ.f 156) [.sl 1 (xs.map λx=>[.str x]),.str sep] h (λC hh=>C=.str res/\hh=h):=by
 unfold strJoin at n;split at n
 case isFalse=>cases n
 rename_i I;obtain ⟨F,l⟩:=I;injection n with n;subst n;have J:(Body.n156 ρ).body=some ((Body.n156 ρ).body.get rfl):=rfl;refine ⟨λvs w=>by simp [callFunc,L.f156,Body.n156],λB w0 _ g w vs r A=>?_⟩;obtain ⟨us,rfl⟩:∃us:List Value,vs=us.toArray:=⟨vs.toList,by simp⟩
 simp only [VL,V] at A;obtain ⟨K,M,z,⟨a,c,rfl,k,G,t⟩,v2,s2,rfl,⟨rfl,hs⟩,rfl⟩:=A;simp only [ux] at k G;simp at z;subst z;have m:∀e w',e=Ending.returned (.string ⟨(Lib.join xs sep).toArray⟩)->Below w.heap.size w w'->∃v r h' g',e=.returned v/\(r=.str (Lib.join xs sep)/\h'=h)/\g.le g'/\Rel B w0 g' h' w'/\V g' r v:=by
  rintro e w' rfl D
  refine ⟨_,_,h,g,rfl,⟨rfl,rfl⟩,Gh.le.refl g,r.beyond D,?_⟩;simp only [V];have s:(140737488355328:Nat)<=maxLen:=by decide
  exact ⟨trivial,uB l s⟩
 rcases t with t | ⟨b,o,rfl,H⟩
 ·have:xs=[]:=by simpa using t
  subst this;refine (Any.strings_Join_none L X a c ⟨sep.toArray⟩ w).mono λe w' ⟨p,i⟩=>m e w' ?_ (i ▸ Below.refl _ _);rw [p];rfl
 ·have key:(xs.map λx=>(⟨x.toArray⟩:ByteArray)).map (·.data.toList)=xs:=by simp [sj]
  have d:∀(j:Nat) x,(xs.map λx=>(⟨x.toArray⟩:ByteArray))[j]?=some x->w.cell? ⟨b,o+j,none⟩=some (.string x):=by
   intro j x q;rw [tX] at q;rcases hx:xs[j]? with _ | y
   ·simp [hx] at q
   ·simp [hx] at q;subst q;obtain ⟨_,i⟩:=H.get j [.str y] (by rw [tX,hx];rfl);simp only [VC,V,Nat.mul_one] at i;obtain ⟨⟨v,E,_,rfl,_⟩,_⟩:=i;exact r.phi _ _ _ E
  by_cases hx:xs=[]
  ·subst hx;refine (Any.strings_Join_none L X _ c ⟨sep.toArray⟩ w).mono λe w' ⟨p,i⟩=>m e w' ?_ (i ▸ Below.refl _ _);rw [p];rfl
  ·have u:b < w.heap.size:=by
    obtain ⟨y,N,rfl⟩:=s7 hx;have:=d 0 ⟨y.toArray⟩ (by simp);exact World.block_lt_of_cell? w ⟨b,o+0,none⟩ this
   have:=Any.strings_Join L X b o c (xs.map λx=>(⟨x.toArray⟩:ByteArray)) ⟨sep.toArray⟩ w d u (by simpa using F) (by simpa using k) (by rw [key];simpa using l);rw [key] at this;simp only [ux] at this ⊢;exact this.mono λe w' ⟨p,i⟩=>m e w' (by simpa using p) i

theorem splitK_le (sep:List UInt8):∀(k:Nat) (s:List UInt8),∀p ∈ Lib.splitK sep 0 k s,p.length<=s.length
 | 0,s,p,a=>by simp [Lib.splitK] at a;simp [a]
 | k+1,s,p,a=>by
  simp only [Lib.splitK] at a;split at a
  ·simp at a;simp [a]
  ·rcases ut.1 a with rfl | a
   ·simp;omega
   ·have:=splitK_le sep k _ p a;simp at this;omega

def strSplit (s sep:List UInt8):Option (List (List UInt8)):=if s.length < 4294967281/\1<=sep.length then some (Lib.split s sep) else none

theorem spec_split {ρ:Ren} (L:LaysM.n146 P ρ) {s sep:List UInt8} {res:List (List UInt8)} {h:AH} (d:strSplit s sep=some res) :
  Spec P (ρ.f 146) [.str s,.str sep] h (λO hh=>O=.sl 1 (res.map λx=>[.str x])/\hh=h):=by
 unfold strSplit at d;split at d
 case isFalse=>cases d
 rename_i R;obtain ⟨hs,z⟩:=R;injection d with d;subst d;refine ⟨λvs w=>by simp [callFunc,L.f146,Body.n146],λB w0 G g w vs r J=>?_⟩;obtain ⟨us,rfl⟩:∃us:List Value,vs=us.toArray:=⟨vs.toList,by simp⟩
 simp only [VL,V] at J;obtain ⟨S,T,I,⟨rfl,C⟩,v2,s2,rfl,⟨rfl,N⟩,rfl⟩:=J
 try simp at I
 subst I;obtain ⟨m,H⟩:=L.s1_3 w0 G.sh;have n:ρ.g 1 < w0.heap.size:=World.block_lt_of_cell? w0 ⟨ρ.g 1,0,none⟩ H;have o:w.cell? ⟨ρ.g 1,0,none⟩=some (.int .i64 m):=(r.below.cell (p:=⟨ρ.g 1,0,none⟩) (tw n G.sz)).trans H;refine (Any.strings_Split { L with } L.i9 ⟨s.toArray⟩ ⟨sep.toArray⟩ m w (by simpa [ByteArray.size] using hs) o (by simpa [ByteArray.size] using z)).mono λe w' ⟨K,F⟩=>?_;have a:Lib.countB ⟨s.toArray⟩ ⟨sep.toArray⟩=Lib.count s sep:=by first | rfl | simp [Lib.countB]
 have b:(Lib.splitB ⟨sep.toArray⟩ 0 (Lib.count s sep) ⟨s.toArray⟩).map (·.data.toList)=Lib.split s sep:=by rw [Lib.splitB_data];rfl
 have k:(Lib.splitB ⟨sep.toArray⟩ 0 (Lib.count s sep) ⟨s.toArray⟩).length=Lib.count s sep+1:=Lib.splitB_all ⟨sep.toArray⟩ (by simpa [ByteArray.size] using z) 0 _ ⟨s.toArray⟩ a;have i:(Lib.split s sep).length=Lib.count s sep+1:=by rw [<- b,ux,k]
 rw [a] at K F;generalize hpp:Lib.splitB ⟨sep.toArray⟩ 0 (Lib.count s sep) ⟨s.toArray⟩=pp at *;subst F K;have M:=r.newRow (pp.map Value.string).toArray (ρ.t 9) (pp.map Value.string).toArray.size;have D:=g.le_vow w.heap.size λj=>if j < (pp.map Value.string).toArray.size then (pp.map Value.string).toArray[j]? else none
 refine ⟨_,.sl 1 ((Lib.split s sep).map λx=>[.str x]),h,_,rfl,⟨rfl,rfl⟩,D,M,?_⟩;unfold V;rw [ux];have E:Lib.count s sep+1<=maxLen:=by
  have:=Lib.countB_le ⟨sep.toArray⟩ (by simpa [ByteArray.size] using z) (⟨s.toArray⟩:ByteArray).size ⟨s.toArray⟩ (ug _);rw [a] at this;have A:(⟨s.toArray⟩:ByteArray).size=s.length:=by simp [ByteArray.size]
  rw [A] at this;simp only [maxLen];omega
 refine ⟨some ⟨w.heap.size,0,none⟩,Lib.count s sep+1,by rw [i],by rw [i];exact ug _,E,.inr ⟨w.heap.size,0,rfl,?_⟩⟩;refine VE.mk λj e l=>?_;rw [tX] at l;rcases hx:(Lib.split s sep)[j]? with _ | y
 ·simp [hx] at l
 ·simp [hx] at l;subst l;refine ⟨rfl,?_⟩;simp only [VC,Nat.mul_one,te,V];have Q:y.length<=s.length:=splitK_le sep _ s y (uD hx);rw [<- b,tX] at hx;rcases hq:pp[j]? with _ | q
  ·simp [hq] at hx
  ·simp [hq] at hx;have c:g.Φ w.heap.size j=none:=by
    rcases he':g.Φ w.heap.size j with _ | v
    ·rfl
    ·exact absurd (r.phi_lt he') (tH _)
   have u:j < pp.length:=(uc.1 hq).1;refine ⟨⟨.string q,?_,rfl,?_,uB Q C⟩,trivial⟩
   ·simp [Gh.vow,c,u,hq];have:=(uc.1 hq).2;simpa using this
   ·subst hx;simp
end Go.Vv
namespace Go.Vv
open Go Go.RowKit Go.Lib Go.Shelf
theorem spec_scompare {P:Program} {ρ:Ren} (L:Go.Proofs.Lays.n106 P ρ) {a b:List UInt8} {h:AH}:Spec P (ρ.f 106) [.str a,.str b] h λd hh=>d=.int .i64 (Lib.compareBytes a b)/\hh=h:=by
 refine ⟨λvs w=>Go.Proofs.enters_of L.f106 (by kernel_rfl) rfl vs w,λB w0 _ g w vs r c=>?_⟩;obtain ⟨us,rfl⟩:∃us:List Value,vs=us.toArray:=⟨vs.toList,by simp⟩
 simp only [VL,V] at c;obtain ⟨j,k,i,⟨rfl,_⟩,v2,s2,rfl,⟨rfl,_⟩,rfl⟩:=c;subst i;refine (Go.Proofs.Any.strings_Compare L _ _ w).mono ?_
 rintro e w' ⟨rfl,rfl⟩
 exact ⟨_,_,h,g,rfl,⟨rfl,rfl⟩,Gh.le.refl g,r,by simp only [V]⟩
end Go.Vv
