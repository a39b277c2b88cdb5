/- More rules: guards, places in slices and texts, drawn orders, folded loops. -/
import Derived.Test.YtmpfjlkfmckohaaGreatVvO
import Derived.Shelf.Strings.OnBuilder
import Derived.Shelf.Strings.SplitShaped
import Derived.Shelf.Small.Strs
set_option linter.all false
namespace Go.Vv
open Go
variable {b t q r:Bool} {k:IntKind} {l:List (TypeId×AV)} {f:Operand} {g:FuncId} {args:List AV}

theorem aG_gv {ops:Array Oper} {o:Oper} {env:List AV} {j d:Nat} {want b c:Bool} (hg:o.guard=some (j,want)) (hd:(ops[j]?).bind (·.dst)=some d) (he:env[d]?=some (gv b (.bool c))):aG ops o env=some (b&&(c==want)):=by
 simp only [aG,hg,hd,he];cases b <;> simp [gv,aundef]
theorem zX {env:List AV} {x:Operand} {v:AV} (a:yh env x=some (gv b v)) (c:b=true):yh env x=some v:=by subst c;rw [qy] at a;exact a
theorem gT (h:t=true):(t==true)=true:=by rw [h];rfl
theorem gF (h:t=false):(t==false)=true:=by rw [h];rfl
theorem and_l {a:Bool} (h:(a&&b)=true):a=true:=by simp_all
theorem pick_bb:(if t then AV.bool q else .bool r)=.bool (if t then q else r):=by grind
theorem xM (a:t=true->b=true):(if t then gv b (.bool q) else .bool false)=AV.bool (t&&q):=by cases t <;> simp [gv] ; simp [a rfl]
theorem pick_or (a:t=false->b=true):(if t then .bool true else gv b (.bool q))=AV.bool (t || q):=by cases t <;> simp [gv] ; simp [a rfl]
theorem pick_g1 (a:t=true->b=true):(if t then gv b (.bool q) else .bool r)=AV.bool (if t then q else r):=by cases t <;> simp [gv] ; simp [a rfl]
theorem pick_g2 (a:t=false->b=true):(if t then .bool r else gv b (.bool q))=AV.bool (if t then r else q):=by cases t <;> simp [gv] ; simp [a rfl]
theorem pick_g3 {c:Bool} (d:t=true->b=true) (a:t=false->c=true):(if t then gv b (.bool q) else gv c (.bool r))=AV.bool (if t then q else r):=by cases t <;> simp [gv] <;> simp [d,a]
theorem pick_ii {a b:Int}:(if t then AV.int k a else .int k b)=.int k (if t then a else b):=by grind
theorem pick_ig1 {x y:Int} (a:t=true->b=true):(if t then gv b (.int k x) else .int k y)=AV.int k (if t then x else y):=by cases t <;> simp [gv] ; simp [a rfl]
theorem pick_ig2 {x y:Int} (a:t=false->b=true):(if t then .int k y else gv b (.int k x))=AV.int k (if t then y else x):=by cases t <;> simp [gv] ; simp [a rfl]


section
variable {P:Program} {ops:Array Oper} {Q:List AV->AH->Prop} {o:Oper} {rest:List Oper} {env env':List AV} {h:AH}
variable {i:Nat} {Ns:List Nat} {F:Nat->AH->Prop}
theorem va (a:Q env h):zR P ops Ns F Q i [] env h:=a
theorem zp (e:Ns.contains i=false) {v:AV} (d:aG ops o env=some true) (c:zw P o env h=.ok v h) (hd:xG o.dst env v=some env') (a:zR P ops Ns F Q (i+1) rest env' h):zR P ops Ns F Q i (o::rest) env h :=
 ⟨v,h,.inl ⟨e,by simp only [AR,d,c,rR]⟩,.inr rfl,.inl rfl,by rw [yK hd];exact a⟩
theorem zS (e:Ns.contains i=false) {v:AV} {h':AH} (m:FOk ((Region.before ops).getD i 0) Ns F h') (j:anch ops Ns i=true) (d:aG ops o env=some true) (c:zw P o env h=.ok v h') (hd:xG o.dst env v=some env') (a:zR P ops Ns F Q (i+1) rest env' h'):zR P ops Ns F Q i (o::rest) env h :=
 ⟨v,h',.inl ⟨e,by simp only [AR,d,c,rR]⟩,.inl j,.inr m,by rw [yK hd];exact a⟩
theorem draw_len (e:Ns.contains i=false) {n:Nat} {v:AV} (d:aG ops o env=some true) (c:zw P o env h=.len n v h) (hd:xG o.dst env v=some env') (a:zR P ops Ns F Q (i+1) rest env' h):zR P ops Ns F Q i (o::rest) env h :=
 ⟨v,h,.inl ⟨e,by simp only [AR,d,c,rR]⟩,.inr rfl,.inl rfl,by rw [yK hd];exact a⟩
theorem draw_call (e:Ns.contains i=false) {f:FuncId} {args:List AV} {v:AV} (d:aG ops o env=some true) (c:zw P o env h=.call f args) (hs:Spec P f args h λr h'=>r=v/\h'=h) (hd:xG o.dst env v=some env') (a:zR P ops Ns F Q (i+1) rest env' h) :
  zR P ops Ns F Q i (o::rest) env h:=⟨v,h,.inl ⟨e,by simp only [AR,d,c];exact hs⟩,.inr rfl,.inl rfl,by rw [yK hd];exact a⟩
theorem zO (j:Ns.contains i=true) {f:FuncId} {args:List AV} {v:AV} (e:aG ops o env=some true) (d:∀a,zw P o env a=.call f args) (hs:∀a,F i a->Spec P f args a λr hh=>r=v/\hh=a) (hd:xG o.dst env v=some env') (c:zR P ops Ns F Q (i+1) rest env' h) :
  zR P ops Ns F Q i (o::rest) env h:=⟨v,h,.inr (.inl ⟨j,e,rfl,.inl ⟨f,args,d,hs⟩⟩),.inr rfl,.inl rfl,by rw [yK hd];exact c⟩
theorem vR (j:Ns.contains i=true) {v:AV} (e:aG ops o env=some true) (d:∀a,F i a->zw P o env a=.ok v a) (hd:xG o.dst env v=some env') (c:zR P ops Ns F Q (i+1) rest env' h) :
  zR P ops Ns F Q i (o::rest) env h:=⟨v,h,.inr (.inl ⟨j,e,rfl,.inr d⟩),.inr rfl,.inl rfl,by rw [yK hd];exact c⟩
theorem wz (d:Ns.contains i=false) {b:Bool} {v:AV} (c:aG ops o env=some b) (e:b=true->zw P o env h=.ok v h) (hd:xG o.dst env (gv b v)=some env') (a:zR P ops Ns F Q (i+1) rest env' h):zR P ops Ns F Q i (o::rest) env h:=by
 cases b with
 | true=>rw [qy] at hd;exact zp d c (e rfl) hd a
 | false=>exact ⟨aundef,h,.inl ⟨d,by simp [AR,c]⟩,.inr rfl,.inl rfl,by rw [qG] at hd;rw [yK hd];exact a⟩
theorem draw_glen (d:Ns.contains i=false) {b:Bool} {n:Nat} {v:AV} (c:aG ops o env=some b) (e:b=true->zw P o env h=.len n v h) (hd:xG o.dst env (gv b v)=some env') (a:zR P ops Ns F Q (i+1) rest env' h):zR P ops Ns F Q i (o::rest) env h:=by
 cases b with
 | true=>rw [qy] at hd;exact draw_len d c (e rfl) hd a
 | false=>exact ⟨aundef,h,.inl ⟨d,by simp [AR,c]⟩,.inr rfl,.inl rfl,by rw [qG] at hd;rw [yK hd];exact a⟩
theorem qk (d:Ns.contains i=false) {b:Bool} {f:FuncId} {args:List AV} {v:AV} (c:aG ops o env=some b) (e:b=true->zw P o env h=.call f args) (hs:b=true->Spec P f args h λr h'=>r=v/\h'=h)
  (hd:xG o.dst env (gv b v)=some env') (a:zR P ops Ns F Q (i+1) rest env' h):zR P ops Ns F Q i (o::rest) env h:=by
 cases b with
 | true=>rw [qy] at hd;exact draw_call d c (e rfl) (hs rfl) hd a
 | false=>exact ⟨aundef,h,.inl ⟨d,by simp [AR,c]⟩,.inr rfl,.inl rfl,by rw [qG] at hd;rw [yK hd];exact a⟩
variable {i0:Nat}
end

inductive Fx (P:Program):List (TypeId×AV)->List AV->Prop
 | nil:Fx P [] []
 | cons {t:TypeId} {v v':AV} {r:List (TypeId×AV)} {s:List AV}:tyfix P t v=v'->Fx P r s->Fx P ((t,v)::r) (v'::s)
theorem Fx.eq {P:Program} {s:List AV} (h:Fx P l s):fixL P l=s:=by
 induction h with
 | nil=>rfl
 | cons h _ ih=>simp only [fixL,h,ih]
theorem zM {P:Program} {o:Oper} {env:List AV} {h:AH} {c:Call} (d:o.op=.call c) (m:c.callee=.value f) (a:yh env f=some (.fn (.func g) [] []))
  (e:argo env c.args.toList c.argTypes.toList=some l) (j:Fx P l args):zw P o env h=.call g args :=
 s_call d m a e (by simp [j.eq])
theorem s_callC {P:Program} {o:Oper} {env:List AV} {h:AH} {c:Call} {first caps all:List AV} (e:o.op=.call c) (n:c.callee=.value f) (d:yh env f=some (.fn (.func g) first caps))
  (j:argo env c.args.toList c.argTypes.toList=some l) (m:Fx P l args) (a:first++args++caps=all):zw P o env h=.call g all :=
 s_call e n d j (by rw [m.eq,a])
theorem r_loopU {P:Program} {Q:Exit->List AV->AH->Prop} {env:List AV} {h:AH} {body:Code} {σ:Type} (U:σ->List (Nat×AV)) (a:σ->Prop) (d:σ->Nat) (e:σ) {E:σ->List AV} (j:∀s,qB env (U s)=E s) (h0:leL env (E e)) (hi:a e)
  (hs:∀s,a s->wM P body (qW (λenv' h'=>∃c,a c/\d c < d s/\wk h env' h' (E c) h) Q) (E s) h):wM P (.loop body) Q env h :=
 r_loop E (λ_=>h) a d e (wk.le h0) hi hs
end Go.Vv
namespace Go.Vv
open Go
variable {j k off n:Nat} {cs cs' ds z:List AV} {v v':AV} {t e:TypeId} {x:Operand} {d:TypeDesc} {fn:Func} {f:FuncId} {l l':List (Nat×AV)} {ks:List Kd}

def AH.ext (h:AH) (L:List Blk) (M:List Nat):AH:={ blks:=h.blks++L,toks:=h.toks++M }
theorem ext_nil (h:AH):h.ext [] []=h:=by simp [AH.ext]
theorem yL {h:AH} {L:List Blk} {M:List Nat}:(h.ext L M).blk (h.blks.length+j)=L[j]?:=by
 simp only [AH.blk,AH.ext]
 grind
theorem ext_new {h:AH} {L:List Blk} {M:List Nat} {b:Blk}:(h.ext L M).new b=h.ext (L++[b]) M:=by simp [AH.ext,AH.new,ur]
theorem wR {h:AH} {L:List Blk} {M:List Nat} {b:Blk}:(h.ext L M).put (h.blks.length+j) b=h.ext (L.set j b) M:=by
 simp only [AH.ext,AH.put]
 simp_all
theorem ext_cut {h:AH} {L:List Blk} {M:List Nat}:(h.ext L M).cut h.blks.length h.toks.length=h:=by
 simp [AH.cut,AH.ext]
def ldC (ag:Bool) (k off:Nat) (cs:List AV):Option AV:=if ag then (if off+k<=cs.length then some (.agg ((cs.drop off).take k)) else none) else cs[off]?
theorem zA (h:cs[off]?=some v):ldC false k off cs=some v:=h
theorem ldC_ag (h:Nat.ble (off+k) cs.length=true) (a:(cs.drop off).take k=cs'):ldC true k off cs=some (.agg cs'):=by
 simp only [ldC,uv,uz (uP h),a]

section
variable {P:Program} {o:Oper} {env:List AV} {h:AH} {L:List Blk} {M:List Nat}
theorem vQ (b:o.op=.alloc t) (c:xw P t=some cs) (a:L.length=n):zw P o env (h.ext L M)=.ok (.ptr (h.blks.length+n) 0) (h.ext (L++[.cells cs]) M):=by
 rw [s_alloc b c,ext_new,<- a];simp [AH.ext]
theorem e_box {a a':AV} (c:o.op=.box t x) (i:yh env x=some a) (b:tyfix P t a=a') (g:a'.cells?=some cs) (m:L.length=n) :
  zw P o env (h.ext L M)=.ok (.ptr (h.blks.length+n) 0) (h.ext (L++[.cells cs]) M):=by
 rw [s_box c i b g,ext_new,<- m];simp [AH.ext]
theorem zF (b:o.op=.load t x) (i:Ty P t d k) (m:yh env x=some (.ptr (h.blks.length+j) off)) (c:L[j]?=some (.cells cs))
  (g:ldC (z8 d) k off cs=some v) (a:tyfix P t v=v'):zw P o env (h.ext L M)=.ok v' (h.ext L M):=by
 refine s_load b i m ?_ a;simp only [qZ,yL,c];exact g
theorem qj (b:o.op=.load t x) (g:Ty P t d k) (i:yh env x=some (.fptr cs))
  (c:ldC (z8 d) k 0 cs=some v) (a:tyfix P t v=v'):zw P o env h=.ok v' h:=by
 refine s_load b g i ?_ a;simp only [qZ];simpa only [ldC,uV,sn] using c
theorem zQ {y:Operand} {vs:List AV} {b a:AV} (g:o.op=.store t x y) (q:Ty P t d k) (u:yh env x=some (.ptr (h.blks.length+j) off)) (p:yh env y=some b)
  (c:tyfix P t b=a) (s:a.cells?=some vs) (m:vs.length=k) (i:L[j]?=some (.cells cs)) (r:Nat.ble (off+k) cs.length=true) (hs:yC cs off vs=cs'):zw P o env (h.ext L M)=.ok aundef (h.ext (L.set j (.cells cs')) M):=by
 refine s_store g q u p c ?_;simp only [aStore,s,yL,i];rw [uz ⟨m,uP r⟩,wR,hs]
end
theorem wk_ext2 {h:AH} {L0 L1 L':List Blk} {M0 M1 M':List Nat} {env:List AV} (p:zG (h.blks.length+L0.length) (h.toks.length+M0.length) env=true) (s:L'.take L0.length=L1) (q:M'.take M0.length=M1)
  (r:∀(i:Nat) (k:Blk),L1[i]?=some k->L0[i]?=some k \/ k.low (h.blks.length+L0.length) (h.toks.length+M0.length)=true) :
  wk (h.ext L0 M0) env (h.ext L' M') env (h.ext L1 M1):=by
 have b:(h.ext L0 M0).blks.length=h.blks.length+L0.length:=by simp [AH.ext]
 have c:(h.ext L0 M0).toks.length=h.toks.length+M0.length:=by simp [AH.ext]
 have:=wk.cut (hd:=h.ext L0 M0) (env:=env) (h:=h.ext L' M') (by rw [b,c];exact p) (λi k hi a=>by
  rw [b] at hi;rw [b,c];simp only [AH.ext] at a ⊢;rcases tQ i h.blks.length with g | g
  ·rw [uk g] at a ⊢;exact .inl a
  ·rw [uf g] at a ⊢;exact r (i - h.blks.length) k (by grind))
 have m:(h.ext L' M').cut (h.ext L0 M0).blks.length (h.ext L0 M0).toks.length=h.ext L1 M1:=by
  rw [b,c];simp only [AH.cut,AH.ext,tv,uu,s,q];rw [ux (l:=h.blks) (by omega),ux (l:=h.toks) (by omega)]
 rw [m] at this;exact this
theorem e_range {P:Program} {o:Oper} {env:List AV} {h:AH} {L:List Blk} {M:List Nat} {s:List UInt8} (a:o.op=.range t x) (g:Ty P t .string k) (i:yh env x=some (.str s)) (m:L.length=n) :
  zw P o env (h.ext L M)=.ok (.ptr (h.blks.length+n) 0) (h.ext (L++[.siter s 0]) M):=by
 obtain ⟨c,b⟩:=zT i;simp only [zw,a,c,uv,g.u,b,ext_new,<- m];simp [AH.ext]
theorem ops_next {P:Program} {b:Array Oper} {Q:List AV->AH->Prop} {o:Oper} {rest:List Oper} {env:List AV} {y:List AV} {u:List AV} {h:AH} {L:List Blk} {M:List Nat} {s:List UInt8} {a:Nat} (q:aG b o env=some true) (w:o.op=.next x true)
  (B:yh env x=some (.ptr (h.blks.length+j) 0)) (A:L[j]?=some (.siter s a)) (m:xG o.dst env (.tup [.bool true,.int .i64 a,.int .i32 (dec s a).1])=some y) (c:xG o.dst env (.tup [.bool false])=some u)
  (i:a < s.length->zH P b Q rest y (h.ext (L.set j (.siter s (a+(dec s a).2))) M)) (g:s.length<=a->zH P b Q rest u (h.ext L M)):zH P b Q (o::rest) env (h.ext L M):=by
 obtain ⟨r,p⟩:=zT B;by_cases hp:a < s.length
 ·refine za q ?_ m (i hp);simp only [zw,w,r,u2,uv,p,aNext,yL,A,hp,wR]
 ·refine za q ?_ c (g (by omega));simp only [zw,w,r,u2,uv,p,aNext,yL,A,hp,uO]
section
variable {P:Program} {env:List AV} {h:AH} {rs:List ResultVar} {vs:List AV}
theorem ye:vU P env h []=some []:=rfl
theorem zV {t:Nat} (b:yh env (.tmp t)=some v) (k:vU P env h rs=some vs):vU P env h (.tmp t::rs)=some (v::vs):=by
 have a:env.getD t aundef=v:=by rw [uN,show env[t]?=some v from b];rfl
 simp only [vU,k,a]
theorem rl_cell {a t:Nat} {L:List Blk} {M:List Nat} (c:Ty P t d k) (g:yh env (.tmp a)=some (.ptr (h.blks.length+j) 0)) (m:L[j]?=some (.cells cs)) (p:ldC (z8 d) k 0 cs=some v) (w:tyfix P t v=v')
  (r:vU P env (h.ext L M) rs=some vs):vU P env (h.ext L M) (.cell a t::rs)=some (v'::vs):=by
 have b:env.getD a aundef=.ptr (h.blks.length+j) 0:=by rw [uN,show env[a]?=some _ from g];rfl
 obtain ⟨i,s,q⟩:=c.i;simp only [vU,c.u,s,q,b,qZ,yL,m,r];have e:(if z8 d then if 0+k<=cs.length then some (AV.agg ((cs.drop 0).take k)) else none else cs[0]?)=some v:=p
 simp_all
theorem yo {K:AV->AH->Prop} {h0:AH} (c:fn.results=⟨rs⟩) (a:vU P env h rs=some [v]) (b:finK h0 K v h):qX P fn h0 K .ret env h:=by
 simp only [qX,aRes,c,a];exact b
theorem qT {K:AV->AH->Prop} {h0:AH} {w:AV} {r:List AV} (c:fn.results=⟨rs⟩) (b:vU P env h rs=some (v::w::r)) (a:finK h0 K (.tup (v::w::r)) h):qX P fn h0 K .ret env h:=by
 simp only [qX,aRes,c,b];exact a
end
theorem qz {h:AH} {L:List Blk} {M:List Nat} {K:AV->AH->Prop} (b:leV v v') (c:v'.low h.blks.length h.toks.length=true) (a:K v' h):finK h K v (h.ext L M):=by
 refine fin_cut b c (λi k hi a=>.inl ?_) (by rw [ext_cut];exact a);simp only [AH.ext] at a
 grind
theorem zd {P : Program} {c : Code} (hf : P.funcs[f]? = some fn) (hb : fn.body = some c) (hname : (fn.name == "runtime.NumGoroutine") = false) {args : List AV} {h : AH} {K : AV → AH → Prop} {env : List AV}
  (he:args++List.replicate (fn.ntmps - args.length) aundef=env) (hw:wM P c (qX P fn h K) env (h.ext [] [])):Spec P f args h K:=by
 rw [ext_nil] at hw;exact spec_of_body hf hb hname (by simp_all)
theorem yP (hd:z8 d=true) {k off:Nat} {cs cs':List AV} (h:Nat.ble (off+k) cs.length=true) (a:(cs.drop off).take k=cs'):ldC (z8 d) k off cs=some (.agg cs'):=by
 rw [hd];exact ldC_ag h a
theorem qe {P:Program} (a:P.underlying t=some d) (hi:(P.info? t).map (λi=>i.size)=some k):Ty P t d k:=by
 refine ⟨a,?_⟩
 simp_all
theorem wG {P:Program} {u:TypeId} {f:Nat} (a:qH P t f=some (off,u)) (hi:(P.info? u).map (λi=>i.size)=some k):Fo P t f off u k:=by
 refine ⟨a,?_⟩
 simp_all
theorem mkEl {P:Program} (a:P.underlying t=some (.slice e)) (hi:(P.info? e).map (λi=>(i.size,decide (i.bytes<=65536)&&decide (0 < k)&&(i.zero.map (·.cells.size))==some k))=some (k,true)):El P t e k:=by
 refine ⟨a,?_⟩;cases h:P.info? e with
 | none=>rw [h] at hi;cases hi
 | some i =>
  simp_all
theorem w64 {n:Int} (h:-9223372036854775808<=n/\n<=9223372036854775807):IntKind.i64.wrap n=n:=by rw [IntKind.wrap_i64];omega
theorem xC {n m:Int} (e:n=m) (h:-9223372036854775808<=n/\n<=9223372036854775807):AV.int .i64 (IntKind.i64.wrap n)=.int .i64 m:=by rw [w64 h,e]
theorem zB {env:List AV}:argo env [] []=some []:=rfl
theorem zr {env:List AV} {r:List Operand} {ts:List TypeId} {l:List (TypeId×AV)} (h:yh env x=some v) (k:argo env r ts=some l):argo env (x::r) (t::ts)=some ((t,v)::l):=by
 simp only [argo,h,k]
theorem yA (h:n<=maxLen):n<=9223372036854775807:=h
theorem Spec.le {P:Program} {a5 bs:List AV} {h:AH} {K:AV->AH->Prop} (s:Spec P f bs h K) (k:leL a5 bs):Spec P f a5 h K :=
 ⟨s.1,λB w0 _ g w vs r a=>s.2 B w0 g w vs r (k _ _ a)⟩
abbrev plainK2:=xl
structure PK (P:Program) (t:TypeId) (ks:List Kd):Prop where
 g:P.eqGuardType P.depth t=false
 a:(P.underlying t).any z8=true
 k:xl P 6 t=some ks
theorem mkPK {P:Program} (a:P.eqGuardType P.depth t=false) (b:(P.underlying t).any z8=true) (c:plainK2 P 6 t=some ks):PK P t ks:=⟨a,b,c⟩
theorem bin_eq {P:Program} {b:Bool} (c:PK P t ks) (h:vV ks cs ds=some b):yw P .eql t (.agg cs) (.agg ds)=some (.bool b):=by
 simp only [yw,aEq,c.g,c.a,c.k,rS,rR,uv,h,uR]
theorem bin_ne {P:Program} {b:Bool} (c:PK P t ks) (h:vV ks cs ds=some b):yw P .neq t (.agg cs) (.agg ds)=some (.bool !b):=by
 simp only [yw,aEq,c.g,c.a,c.k,rS,rR,uv,h,uR]
structure PKA (P:Program) (t:TypeId) (ks:List Kd):Prop where
 g:P.eqGuardType P.depth t=false
 a:(P.underlying t).any z8=true
 k:(xl P 6 t).or (arrKs P t)=some ks
def parto (env:List AV):List (Nat×Operand)->Option (List (Nat×AV))
 | []=>some []
 | (i,x)::r=>match yh env x,parto env r with
  | some v,some vs=>some ((i,v)::vs)
  | _,_=>none
theorem zC {env:List AV}:parto env []=some []:=rfl
theorem zx {env:List AV} {i:Nat} {r:List (Nat×Operand)} (h:yh env x=some v) (k:parto env r=some l):parto env ((i,x)::r)=some ((i,v)::l):=by simp only [parto,h,k]
inductive Fp (P:Program) (d:TypeDesc):List (Nat×AV)->List (Nat×AV)->Prop
 | nil:Fp P d [] []
 | cons {i:Nat} {v v':AV} {r s:List (Nat×AV)}:tyfix P (partTy d i) v=v'->Fp P d r s->Fp P d ((i,v)::r) ((i,v')::s)
theorem parts_ok {P:Program} {d:TypeDesc} {env:List AV}:∀{parts:List (Nat×Operand)} {l l':List (Nat×AV)},parto env parts=some l->Fp P d l l' ->
  parts.all (λp=>yc p.2)=true/\parts.map (λp=>(p.1,tyfix P (partTy d p.1) (ev env p.2)))=l'
 | [],l,l',h,hf=>by simp only [parto,ug] at h;subst h;cases hf;exact ⟨rfl,rfl⟩
 | (i,x)::r,l,l',h,hf=>by
  simp only [parto] at h;split at h
  ·rename_i v vs b a;cases h;cases hf with
   | cons h1 h2 =>
    obtain ⟨q,g⟩:=parts_ok a h2;obtain ⟨m,c⟩:=zT b
    grind
  ·cases h
theorem xc {P:Program} {o:Oper} {env:List AV} {h:AH} {parts:List (Nat×Operand)} {fs:Array Field} {pl:List (Nat×Nat)} (q:o.op=.build t ⟨parts⟩) (s:P.underlying t=some (.struct fs)) (c:xw P t=some z)
  (g:vi P fs=some pl) (r:parto env parts=some l) (m:Fp P (.struct fs) l l') (w:ve (λi=>pl[i]?) z l'=some cs) (u:cs=cs'):zw P o env h=.ok (.agg cs') h:=by
 obtain ⟨y,b⟩:=parts_ok r m;have a:(⟨parts⟩:Array (Nat×Operand)).all (λp=>yc p.2)=true:=by grind
 simp only [zw,q,a,uv,s,c,g,yT,b,w,uR,oo,u]
theorem zL {P:Program} {o:Oper} {env:List AV} {h:AH} {parts:List (Nat×Operand)} {es:List (List AV)} (y:o.op=.buildSlice t n ⟨parts⟩) (c:El P t e k) (s:xw P e=some z)
  (m:Nat.ble (n * k) 65536=true) (a:z.length=k) (A:parto env parts=some l) (w:Fp P (.slice e) l l') (D:ve (λi=>some (i * k,k)) ((List.replicate n z).flatten) l'=some cs) (E:xe cs=some cs') (B:rows k n cs'=es) :
  zw P o env h=.ok (.osl none k es) h:=by
 obtain ⟨F,g⟩:=parts_ok A w;obtain ⟨j,C,q,_,r,_⟩:=c.i;have b:(⟨parts⟩:Array (Nat×Operand)).all (λp=>yc p.2)=true:=by grind
 simp only [zw,y,b,uv,c.u,s,C,q,yT,g,D,E,B,r,uP m,a,rR]
end Go.Vv
namespace Go.Vv
open Go
variable {i:Nat} {c:Operand} {body:Code}

abbrev zj:=List UInt8
def InK (k:IntKind) (n:Int):Prop:=k.min<=n/\n<=k.max
inductive Out (ρ σ:Type) where
 | ret (r:ρ)
 | brk (s:σ)
 | nxt (s:σ)
section
variable {α ρ σ:Type}
def zy (f:Nat->α->σ->Option (Out ρ σ)):List α->Nat->σ->Option (ρ ⊕ σ)
 | [],_,s=>some (.inr s)
 | x::t,i,s=>match f i x s with
  | none=>none
  | some (.ret r)=>some (.inl r)
  | some (.brk s')=>some (.inr s')
  | some (.nxt s')=>zy f t (i+1) s'
def w6 (f:σ->Option (Out ρ σ)):Nat->σ->Option (ρ ⊕ σ)
 | 0,_=>none
 | n+1,s=>match f s with
  | none=>none
  | some (.ret r)=>some (.inl r)
  | some (.brk s')=>some (.inr s')
  | some (.nxt s')=>w6 f n s'
theorem loopN_more {f:σ->Option (Out ρ σ)}:∀{n m:Nat} {s:σ} {o:ρ ⊕ σ},w6 f n s=some o->n<=m->w6 f m s=some o
 | 0,_,_,_,h,_=>by simp [w6] at h
 | n+1,0,_,_,_,hl=>by omega
 | n+1,m+1,s,o,h,hl=>by
  simp only [w6] at h ⊢;rcases hf:f s with _ | (r | a | a) <;> rw [hf] at h <;> simp only at h ⊢
  ·cases h
  ·exact h
  ·exact h
  ·exact loopN_more h (by omega)
open Classical in
noncomputable def wU (f:σ->Option (Out ρ σ)) (s:σ):Option (ρ ⊕ σ) :=
 if h:∃n o,w6 f n s=some o then some (Classical.choose (tE h)) else none
theorem loopW_of {f:σ->Option (Out ρ σ)} {n:Nat} {s:σ} {o:ρ ⊕ σ} (h:w6 f n s=some o):wU f s=some o:=by
 have a:∃n o,w6 f n s=some o:=⟨n,o,h⟩
 unfold wU;rw [po a];have b:=tE (tE a);have d:=loopN_more b (Nat.le_max_left _ n);have e:=loopN_more h (Nat.le_max_right (Classical.choose a) n)
 grind
theorem loopW_is {f:σ->Option (Out ρ σ)} {s:σ} {o:ρ ⊕ σ} (h:wU f s=some o):∃n,w6 f n s=some o:=by
 unfold wU at h;split at h
 ·grind
 ·cases h
theorem loopW_eq (f:σ->Option (Out ρ σ)) (s:σ):wU f s=match f s with
  | none=>none
  | some (.ret r)=>some (.inl r)
  | some (.brk b)=>some (.inr b)
  | some (.nxt b)=>wU f b:=by
 rcases hf:f s with _ | (r | b | b) <;> simp only
 ·cases hx:wU f s with
  | none=>rfl
  | some o =>
   obtain ⟨n,a⟩:=loopW_is hx;cases n <;> simp [w6,hf] at a
 ·exact loopW_of (n:=1) (by simp only [w6,hf])
 ·exact loopW_of (n:=1) (by simp only [w6,hf])
 ·cases hx:wU f b with
  | some o =>
   obtain ⟨n,a⟩:=loopW_is hx;exact loopW_of (n:=n+1) (by simp only [w6,hf];exact a)
  | none =>
   cases hy:wU f s with
   | none=>rfl
   | some o =>
    obtain ⟨n,a⟩:=loopW_is hy;cases n with
    | zero=>simp [w6] at a
    | succ n =>
     simp only [w6,hf] at a;rw [loopW_of a] at hx;cases hx
def lp (o:Option (ρ ⊕ σ)) (rest:σ->Option ρ):Option ρ :=
 match o with
 | none=>none
 | some (.inl r)=>some r
 | some (.inr s)=>rest s
def wA (p:Prop) [Decidable p] (o:Option ρ):Option ρ:=if p then o else none
def vm (L:List α) (n:Int):Option α:=if 0<=n then L[n.toNat]? else none
def slc (L:List α) (lo hi:Int):Option (List α):=if 0<=lo/\lo<=hi/\hi<=L.length then some ((L.take hi.toNat).drop lo.toNat) else none

theorem zq {α ρ:Type} {o:Option α} {k:α->Option ρ} {r:ρ} {G:Prop} (a:o.bind k=some r) (b:∀v,o=some v->k v=some r->G):G:=by
 cases o with
 | none=>cases a
 | some v=>exact b v rfl a
theorem yE {α ρ:Type} {b:Bool} {d:α} {o:Option α} {k:α->Option ρ} {r:ρ} {G:Prop} (a:(if b=true then o else some d).bind k=some r) (e:∀v,(b=true->o=some v)->k v=some r->G):G:=by
 cases b with
 | false=>exact e d (λh=>by cases h) a
 | true =>
  cases o with
  | none=>cases a
  | some v=>exact e v (λ_=>rfl) a
theorem xU {p:Prop} [Decidable p] {o:Option ρ} {r:ρ} {G:Prop} (a:wA p o=some r) (b:p->o=some r->G):G:=by
 unfold wA at a
 simp_all
theorem idxF {L:List α} {n:Int} {y:α} (h:vm L n=some y):0<=n/\L[n.toNat]?=some y:=by
 unfold vm at h
 simp_all
theorem slcF {L M:List α} {lo hi:Int} (h:slc L lo hi=some M):(0<=lo/\lo<=hi/\hi<=L.length)/\M=(L.take hi.toNat).drop lo.toNat:=by
 unfold slc at h
 simp_all

def konL (f:Nat->α->σ->Option (Out ρ σ)) (L:List α) (i:Nat) (rest:σ->Option ρ):Out ρ σ->Option ρ
 | .ret r=>some r
 | .brk s=>rest s
 | .nxt s=>lp (zy f (L.drop (i+1)) (i+1) s) rest
def konN (f:σ->Option (Out ρ σ)) (n:Nat) (rest:σ->Option ρ):Out ρ σ->Option ρ
 | .ret r=>some r
 | .brk s=>rest s
 | .nxt s=>lp (w6 f n s) rest
def konJ (rest:σ->Option ρ):ρ ⊕ σ->Option ρ
 | .inl r=>some r
 | .inr s=>rest s
theorem loopL_step {f:Nat->α->σ->Option (Out ρ σ)} {L:List α} {s:σ} {rest:σ->Option ρ} {d:ρ} (h:lp (zy f (L.drop i) i s) rest=some d) (b:i < L.length) :
  ∃x g,L[i]?=some x/\f i x s=some g/\konL f L i rest g=some d:=by
 have e:=(sH b).symm;rw [e] at h;refine ⟨L[i],?_⟩;simp only [zy] at h;split at h
 ·cases h
 ·rename_i r a;exact ⟨.ret r,ui b,a,h⟩
 ·rename_i r a;exact ⟨.brk r,ui b,a,h⟩
 ·rename_i r a;exact ⟨.nxt r,ui b,a,h⟩
theorem loopL_end {f:Nat->α->σ->Option (Out ρ σ)} {L:List α} {s:σ} {rest:σ->Option ρ} {a:ρ} (h:lp (zy f (L.drop i) i s) rest=some a) (b:¬ i < L.length):rest s=some a:=by
 rw [tj (by omega)] at h;exact h
theorem lpF {o:Option (ρ ⊕ σ)} {rest:σ->Option ρ} {b:ρ} (h:lp o rest=some b):∃a,o=some a/\konJ rest a=some b:=by
 cases o with
 | none=>cases h
 | some a=>cases a <;> exact ⟨_,rfl,h⟩
end
section
variable {P:Program} {Q:Exit->List AV->AH->Prop} {env:List AV} {h:AH} {α ρ σ:Type}
theorem zt {t e:Code} {b:Bool} {A B:Option ρ} {r:ρ} (g:yh env c=some (.bool b)) (j:(if b=true then A else B)=some r) (f:b=true->A=some r->wM P t Q env h) (d:b=false->B=some r->wM P e Q env h) :
  wM P (.cond c t e) Q env h:=by
 refine vK g (λa=>f a ?_) (λa=>d a ?_)
 ·simp_all
 ·simp_all
theorem ya {f:Nat->α->σ->Option (Out ρ σ)} {L:List α} {s:σ} {rest:σ->Option ρ} {a:ρ} {t e:Code} (l:yh env c=some (.bool (decide ((i:Int) < (L.length:Int))))) (j:lp (zy f (L.drop i) i s) rest=some a)
  (o:∀x g,i < L.length->L[i]?=some x->f i x s=some g->konL f L i rest g=some a->wM P t Q env h) (k:rest s=some a->wM P e Q env h):wM P (.cond c t e) Q env h:=by
 refine vK l (λd=>?_) (λd=>?_)
 ·have b:i < L.length:=by have:=sM d;omega
  obtain ⟨x,g,n,m,p⟩:=loopL_step j b
  simp_all
 ·have b:¬ i < L.length:=by have:=of_decide_eq_false d;omega
  exact k (loopL_end j b)
theorem zY {f:Nat->α->σ->Option (Out ρ σ)} {L:List α} {g:σ} {rest:σ->Option ρ} {d:ρ} (U:Nat->σ->List (Nat×AV)) (H:σ->AH) (j:lp (zy f L 0 g) rest=some d) {E:Nat->σ->List AV}
  (n:∀i s,qB env (U i s)=E i s) (h0:wk h env h (E 0 g) (H g))
  (hs:∀i s,i<=L.length->lp (zy f (L.drop i) i s) rest=some d->wM P body (qW (λa h'=>∃b,i < L.length/\lp (zy f (L.drop (i+1)) (i+1) b) rest=some d/\wk (H s) a h' (E (i+1) b) (H b)) Q) (E i s) (H s)) :
  wM P (.loop body) Q env h:=by
 refine r_loop (σ:=Nat×σ) (λp=>E p.1 p.2) (λp=>H p.2) (λp=>p.1<=L.length/\lp (zy f (L.drop p.1) p.1 p.2) rest=some d) (λp=>L.length - p.1) (0,g) h0 ⟨tH _,j⟩ ?_
 rintro ⟨i,s⟩ ⟨hi,j⟩
 have:=hs i s hi j;have e:(qW (λa h'=>∃b,i < L.length/\lp (zy f (L.drop (i+1)) (i+1) b) rest=some d/\wk (H s) a h' (E (i+1) b) (H b)) Q) =
  λx a h'=>match x with | .normal=>∃b,i < L.length/\lp (zy f (L.drop (i+1)) (i+1) b) rest=some d/\wk (H s) a h' (E (i+1) b) (H b) | x=>Q x a h':=rfl
 refine wt ?_ _ _ _ this;intro x a h' k;cases x with
 | normal =>
  obtain ⟨b,m,l,o⟩:=k;exact ⟨(i+1,b),⟨m,l⟩,by omega,o⟩
 | _=>exact k
theorem r_loopLE {f:Nat->α->σ->Option (Out ρ σ)} {L:List α} {d:σ} {rest:σ->Option ρ} {e:ρ} (U:Nat->σ->List (Nat×AV)) (H:σ->AH) (g:lp (zy f L 0 d) rest=some e) {E:Nat->σ->List AV}
  (m:∀i s,qB env (U i s)=E i s) (h0:wk h env h (E 0 d) (H d))
  (hs:∀i s,i<=L.length->lp (zy f (L.drop i) i s) rest=some e->wM P body (qW (λa h'=>∃b,i < L.length/\lp (zy f (L.drop (i+1)) (i+1) b) rest=some e/\wk h a h' (E (i+1) b) (H b)) Q) (E i s) (H s)) :
  wM P (.loop body) Q env h:=by
 refine r_loop2 (σ:=Nat×σ) (λp=>E p.1 p.2) (λp=>H p.2) (λp=>p.1<=L.length/\lp (zy f (L.drop p.1) p.1 p.2) rest=some e) (λp=>L.length - p.1) (0,d) h0 ⟨tH _,g⟩ ?_
 rintro ⟨i,s⟩ ⟨hi,g⟩
 refine wt ?_ _ _ _ (hs i s hi g);intro x a h' j;cases x with
 | normal =>
  obtain ⟨b,l,k,n⟩:=j;exact ⟨(i+1,b),⟨l,k⟩,by omega,.inr n⟩
 | _=>exact j
theorem r_loopWF {f:σ->Option (Out ρ σ)} {k:σ} {rest:σ->Option ρ} {e:ρ} (U:σ->List (Nat×AV)) (H:σ->AH) (a:lp (wU f k) rest=some e) {E:σ->List AV}
  (u:∀s,qB env (U s)=E s) (h0:wk h env h (E k) (H k))
  (hs:∀n s d,f s=some d->konN f n rest d=some e->wM P body (qW (λb h'=>∃g,lp (w6 f n g) rest=some e/\wk (H s) b h' (E g) (H g)) Q) (E s) (H s)) :
  wM P (.loop body) Q env h:=by
 obtain ⟨t,o⟩:∃n,lp (w6 f n k) rest=some e:=by
  obtain ⟨d,j,m⟩:=lpF a;obtain ⟨n,v⟩:=loopW_is j
  grind
 refine r_loop (σ:=Nat×σ) (λp=>E p.2) (λp=>H p.2) (λp=>lp (w6 f p.1 p.2) rest=some e) (λp=>p.1) (t,k) h0 o ?_
 rintro ⟨n,s⟩ a
 cases n with
 | zero=>simp [w6,lp] at a
 | succ n =>
  obtain ⟨d,j,m⟩:∃d,f s=some d/\konN f n rest d=some e:=by
   simp only [w6] at a;split at a
   ·cases a
   ·rename_i r l;exact ⟨.ret r,l,a⟩
   ·rename_i r l;exact ⟨.brk r,l,a⟩
   ·rename_i r l;exact ⟨.nxt r,l,a⟩
  refine wt ?_ _ _ _ (hs n s d j m);intro x b h' q;cases x with
  | normal =>
   obtain ⟨g,j,m⟩:=q;exact ⟨(n,g),j,by omega,m⟩
  | _=>exact q
def joinQ (h0:AH) (N:List AV->AH->Prop) (Q:Exit->List AV->AH->Prop):Exit->List AV->AH->Prop:=λx env' h'=>match x with
 | .normal=>N env' h'
 | x=>Q x env' h'
theorem r_join {a b:Code} {J:Option (ρ ⊕ σ)} {rest:σ->Option ρ} {e:ρ} (U:σ->List (Nat×AV)) (H:σ->AH) (q:lp J rest=some e) {E:σ->List AV} (k:∀s,qB env (U s)=E s)
  (j:∀f,J=some f->konJ rest f=some e->wM P a (joinQ h (λd h'=>∃s,rest s=some e/\wk h d h' (E s) (H s)) Q) env h)
  (p:∀s,rest s=some e->wM P b Q (E s) (H s)):wM P (.seq a b) Q env h:=by
 obtain ⟨f,n,l⟩:=lpF q;refine zn (wt ?_ _ _ _ (j f n l));intro x d h' g;cases x with
 | normal =>
  obtain ⟨s,o,m⟩:=g;exact ⟨_,_,m,p s o⟩
 | _=>exact g
theorem q_join {h0:AH} {N:List AV->AH->Prop} (a:N env h):joinQ h0 N Q .normal env h:=a
end
end Go.Vv
namespace Go.Vv
open Go
variable {q:Option Nat} {k m id j off:Nat} {i x y:Operand} {n:Int} {t e u e':TypeId} {a:AV} {b:Bool} {d:TypeDesc} {ρ:Type} {ops:Array Oper} {Q:List AV->AH->Prop} {rest:List Oper} {env' cs cs':List AV} {lo:Option Operand} {B L' B':List Blk} {T T' Ns M' M1:List Nat} {F:Nat->AH->Prop} {f:FuncId} {g:Gh} {hd:AH} {w0 w:World} {K:AV->AH->Prop}

abbrev zI (s:zj):List AV:=[.str s]
def vj (b:UInt8):List AV:=[.int .u8 b.toNat]
abbrev intRow (k:IntKind) (n:Int):List AV:=[.int k n]
abbrev boolRow (b:Bool):List AV:=[.bool b]
def IsSl {α:Type} (a:AV) (z:Nat) (row:α->List AV) (L:List α):Prop:=a=.sl z (L.map row) \/ ∃q,a=.osl q z (L.map row)
section
variable {α:Type} {row:α->List AV} {L M:List α} {z:Nat}
theorem isl:IsSl (.sl z (L.map row)) z row L:=.inl rfl
theorem iosl:IsSl (.osl q z (L.map row)) z row L:=.inr ⟨_,rfl⟩
theorem vN {f:α->List AV} {L:List α}:aLen (.sl k (L.map f))=some L.length:=by simp [aLen]
theorem lenMapO {f:α->List AV} {L:List α}:aLen (.osl q k (L.map f))=some L.length:=by simp [aLen]
theorem yb {i:Nat} {x:α} (h:L[i]?=some x):vm L (i:Int)=some x:=by
 unfold vm;rw [uz (by omega),u9];exact h
end
theorem byte_of (h:0<=n/\n < 256):((UInt8.ofNat n.toNat).toNat:Int)=n:=by
 rw [UInt8.toNat_ofNat'];omega
theorem bin_boolE {P:Program} {a:Bool} (c:Ty P t .bool k):yw P .eql t (.bool a) (.bool b)=some (.bool (a==b)):=by simp only [yw,aEq,c.u,uR]
theorem bin_boolN {P:Program} {a:Bool} (c:Ty P t .bool k):yw P .neq t (.bool a) (.bool b)=some (.bool !(a==b)):=by simp only [yw,aEq,c.u,uR]
set_option maxHeartbeats 4000000 in
theorem yI {P:Program} {x y:AV} (c:Ty P t d k) (h:aNil d x y=some b):yw P .eql t x y=some (.bool b):=by
 cases x <;> cases y <;> first | (cases d <;> simp [aNil] at h;done) | (simp only [yw,aEq,c.u,h,uR])
set_option maxHeartbeats 4000000 in
open Classical in
noncomputable def nilq {α:Type} (L:List α) (f:Bool->Option ρ):Option ρ:=if L=[]/\f true ≠ f false then none else f false
theorem nilqF {α:Type} {L:List α} {f:Bool->Option ρ} {r:ρ} (h:nilq L f=some r):f false=some r/\(L=[]->f true=some r):=by
 unfold nilq at h
 simp_all
theorem nilq_of {α:Type} {L:List α} {f:Bool->Option ρ} {r:ρ} (l:f false=some r) (c:L=[]->f true=some r):nilq L f=some r:=by
 unfold nilq
 simp_all
theorem ops_nilqE {P:Program} {o:Oper} {env:List AV} {env':Bool->List AV} {h:AH} {z:Nat} {α:Type} {row:α->List AV} {L:List α} {f:Bool->Option ρ} {r:ρ} (H:aG ops o env=some true)
  (E:o.op=.binOp .eql t x y u) (A:El P t e k) (R:yh env x=some a) (S:IsSl a z row L) (O:yh env y=some .nilsl) (hd:∀b:Bool,xG o.dst env (.bool b)=some (env' b)) (J:nilq L f=some r)
  (I:∀b,(b=true->L=[])->f b=some r->zH P ops Q rest (env' b) h):zH P ops Q (o::rest) env h:=by
 obtain ⟨D,s⟩:=zT R;obtain ⟨G,C⟩:=zT O;obtain ⟨N,p⟩:=nilqF J;have key:∀b,(b=true->L.map row=[])->zH P ops Q rest (env' b) h:=λb l=>by
  have c:b=true->L=[]:=λh=>by simp_all
  refine I b c ?_;cases b with
  | false=>exact N
  | true=>exact p (c rfl)
 refine wK ?_;simp only [H,gwp];rcases S with rfl | ⟨q,rfl⟩
 ·simp only [zw,E,D,G,u2,uv,s,C,aNilq,A.u,rwp]
  rintro v h' ⟨rfl,b,rfl,l⟩
  rw [yK (hd b)];exact key b l
 ·simp only [zw,E,D,G,u2,uv,s,C,aNilq,A.u,rwp]
  rintro v h' ⟨rfl,b,rfl,l⟩
  rw [yK (hd b)];exact key b l
section
variable {P:Program} {o:Oper} {env:List AV} {h:AH} {α:Type} {row:α->List AV} {L:List α}
theorem wx {c a b:Operand} {x y:AV} (l:o.op=.pick c a b) (s:yh env c=some (.bool false)) (p:yh env a=some x) (r:yh env b=some y):zw P o env h=.ok y h:=wu l s p r (by simp)
theorem wm {k:IntKind} {z:Nat} {y:α} (p:o.op=.indexAddr t x i) (s:El P t e z) (v:yh env x=some a) (hi:yh env i=some (.int k n)) (r:IsSl a z row L) (l:vm L n=some y) :
  zw P o env h=.ok (.fptr (row y)) h:=by
 obtain ⟨h0,l⟩:=idxF l;refine s_indexAddr p s v hi ?_;have c:(L.map row)[n.toNat]?=some (row y):=by simp_all
 rcases r with rfl | ⟨q,rfl⟩ <;> simp only [qr,h0,rR,uv,c,uR]
theorem yR {k:IntKind} {z:Nat} {y:α} (c:o.op=.indexAddr t x i) (r:El P t e z) (v:yh env x=some a) (hi:yh env i=some (.int k n)) (l:IsSl a z row L) (p:vm L n=some y) (s:row y=cs) :
  zw P o env h=.ok (.fptr cs) h:=by rw [<- s];exact wm c r v hi l p
theorem s_gidxRow {k:IntKind} {z:Nat} (d:α) (c:o.op=.indexAddr t x i) (p:El P t e z) (r:yh env x=some a) (hi:yh env i=some (.int k n)) (l:IsSl a z row L) (s:0<=n/\n < L.length) :
  zw P o env h=.ok (.fptr (row (L.getD n.toNat d))) h:=by
 refine wm c p r hi l ?_;unfold vm
 simp_all
theorem vY {k:IntKind} {z:Nat} (d:α) (c:o.op=.indexAddr t x i) (p:El P t e z) (s:yh env x=some a) (hi:yh env i=some (.int k n)) (l:IsSl a z row L) (v:0<=n/\n < L.length)
  (r:row (L.getD n.toNat d)=cs):zw P o env h=.ok (.fptr cs) h:=by rw [<- r];exact s_gidxRow d c p s hi l v
inductive Bd (env:List AV):Option Operand->Int->Int->Prop
 | none {d:Int}:Bd env none d d
 | some {x:Operand} {k:IntKind} {n d:Int}:yh env x=some (.int k n)->Bd env (some x) d n
theorem Bd.all {x:Option Operand} {d n:Int} (h:Bd env x d n):x.all yc=true:=by
 cases h with
 | none=>rfl
 | some h=>exact (zT h).1
theorem Bd.ab {x:Option Operand} {d:Nat} (h:Bd env x d n) (h0:0<=n):qs d (x.map (ev env))=Option.some n.toNat:=by
 cases h with
 | none=>rfl
 | some h=>simp only [uR,(zT h).2,qs,uz h0]
theorem vI {hi:Option Operand} {M:List α} {l hh:Int} {z:Nat} (H:o.op=.slice t x lo hi none) (r:El P t e z) (J:yh env x=some a) (O:a=.sl z (L.map row) \/ ∃q,a=.osl q z (L.map row)/\(hi.isSome=true \/ q.isSome=true)) (v:Bd env lo 0 l) (c:Bd env hi L.length hh)
  (C:slc L l hh=some M):zw P o env h=.ok (.sl z (M.map row)) h:=by
 obtain ⟨⟨h0,S,R⟩,rfl⟩:=slcF C;obtain ⟨I,D⟩:=zT J;obtain ⟨i,E,N,_⟩:=r.i;have A:=Bd.ab (d:=0) v h0;have s:=Bd.ab (d:=L.length) c (by omega);simp only [zw,H,I,v.all,c.all,Option.all_none,u2,uv,r.u,D,E,N,Option.map_none];rcases O with rfl | ⟨q,rfl,p⟩
 ·simp only [tyfix,uv,aSlice,qP,A,uA,s,rq,up,uO];rw [uz (by omega)];simp only [oo,r9,s6]
 ·simp only [tyfix,uv,aSlice,qP,A,uA,s];rw [uz (by omega)];have G:(q.isNone&&(hi.map (ev env)).isNone)=false:=by
   rcases p with p | p
   ·simp_all
   ·cases q <;> simp_all
  simp only [G,up,uO,oo,r9,s6]
theorem s_slcMax {m:Operand} {M:List α} {l hh:Int} {k k':IntKind} {z:Nat} (G:o.op=.slice t x lo (some y) (some m)) (p:El P t e z) (N:yh env x=some a) (U:IsSl a z row L) (s:Bd env lo 0 l) (I:yh env y=some (.int k hh)) (O:yh env m=some (.int k' hh))
  (A:slc L l hh=some M):zw P o env h=.ok (.osl none z (M.map row)) h:=by
 obtain ⟨⟨h0,W,V⟩,rfl⟩:=slcF A;obtain ⟨J,C⟩:=zT N;obtain ⟨D,H⟩:=zT I;obtain ⟨S,c⟩:=zT O;obtain ⟨i,E,R,_⟩:=p.i;have v:=Bd.ab (d:=0) s h0;have r:qs L.length (some (.int k hh))=some hh.toNat:=by simp only [qs];rw [uz (by omega)]
 simp only [zw,G,J,D,S,s.all,Option.all_some,u2,uv,p.u,C,E,R,uR,H,c];rcases U with rfl | ⟨q,rfl⟩
 ·simp only [tyfix,uv,aSlice,qP,v,uA,r];rw [uz (by omega),uz ⟨by omega,rfl⟩];simp only [oo,r9,s6]
 ·simp only [tyfix,uv,aSlice,qP,v,uA,r];rw [uz (by omega),uz ⟨by omega,rfl⟩];simp only [oo,r9,s6]

theorem a_app {M:List α} {h':AH} (l:L.length+M.length<=xO) (c:h.grow q L.length M.length=some (id,h')):aAppend h k (.osl q k (L.map row)) (M.map row)=some (.osl (some id) k ((L++M).map row),h'):=by
 simp only [aAppend,uA];by_cases h0:M.length=0
 ·have:M=[]:=uL h0;subst this;rw [uz (show ([]:List α).length=0 from rfl)];cases q with
  | none =>
   simp only [AH.grow,uC,tF,ug,t7] at c
   simp_all
  | some id' =>
   simp only [AH.grow,uC,tF] at c;split at c
   ·rename_i p;simp only [ug,t7] at c;obtain ⟨rfl,rfl⟩:=c;have:h.toks.set id' L.length=h.toks:=by
     refine uX λj=>?_
     grind
    simp [this]
   ·cases c
 ·simp_all
variable {M:List α}
theorem e_appN {c:Call} {k':Nat} {b p:AV} (s:o.op=.call c) (H:c.callee=.builtin .append) (hs:c.args=#[x,y]) (G:c.argTypes=#[t,u]) (E:El P t e k)
  (l:El P u e' k') (J:yh env x=some a) (A:yh env y=some b) (v:tyfix P t a=.osl none k (L.map row)) (I:tyfix P u b=p) (N:qY k p=some (M.map row)) (C:L.length+M.length<=xO) (r:T.length=m) (D:T++[(L++M).length]=T') :
  zw P o env (h.ext B T)=.ok (.osl (some (h.toks.length+m)) k ((L++M).map row)) (h.ext B T'):=by
 refine s_append s H hs G E l J A v I N (a_app C ?_);subst D r;simp [AH.grow,AH.ext]
theorem vn {c:Call} {k':Nat} {b p:AV} (C:o.op=.call c) (N:c.callee=.builtin .append) (hs:c.args=#[x,y]) (r:c.argTypes=#[t,u]) (G:El P t e k)
  (l:El P u e' k') (H:yh env x=some a) (E:yh env y=some b) (J:tyfix P t a=.osl (some (h.toks.length+j)) k (L.map row)) (s:tyfix P u b=p) (I:qY k p=some (M.map row)) (D:L.length+M.length<=xO) (O:T[j]?=some L.length) (A:T.set j (L++M).length=T') :
  zw P o env (h.ext B T)=.ok (.osl (some (h.toks.length+j)) k ((L++M).map row)) (h.ext B T'):=by
 refine s_append C N hs r G l H E J s I (a_app D ?_);subst A;have v:(h.toks++T)[h.toks.length+j]?=some L.length:=by grind
 simp only [AH.grow,AH.ext,v,uv]
 simp_all
theorem wP:qY k (.sl k (M.map row))=some (M.map row):=by simp [qY]
theorem w5:qY k (.osl q k (M.map row))=some (M.map row):=by simp [qY]
end

theorem leL.app {a5 bs:List AV} {cs:List AV} (k:leL a5 bs):leL (a5++cs) (bs++cs):=λg vs hv=>by
 have hs:∀{a5:List AV} {vs:List Value},VL g (a5++cs) vs->∃us ws,vs=us++ws/\VL g a5 us/\VL g cs ws:=by
  intro a5
  induction a5 with
  | nil=>intro vs h;exact ⟨[],vs,rfl,by simp [VL],h⟩
  | cons a r ih =>
   intro vs h;simp only [tm,VL] at h;obtain ⟨v,s,rfl,h1,h2⟩:=h;obtain ⟨us,ws,rfl,h3,h4⟩:=ih h2;exact ⟨v::us,ws,rfl,VL.cons h1 h3,h4⟩
 obtain ⟨us,ws,rfl,h1,h2⟩:=hs hv;exact VL.append (k _ _ h1) h2
theorem leL.pre {a5 bs:List AV}:∀{cs:List AV},leL a5 bs->leL (cs++a5) (cs++bs)
 | [],k=>k
 | _::_,k=>leL.eq (leL.pre k)
def keeps:List (Nat×Blk)->List Blk->Prop
 | [],_=>True
 | (j,b)::r,B=>B[j]?=some b/\keeps r B
theorem keeps1 {b:Blk} {r:List (Nat×Blk)} (h:keeps ((j,b)::r) B):B[j]?=some b:=h.1
def lk:List (Nat×List (Nat×Blk))->Nat->List (Nat×Blk)
 | [],_=>[]
 | (m,l)::r,n=>if n=m then l else lk r n
def KeepB (h:AH) (l:List (Nat×Blk)) (x:AH):Prop:=∃B T,x=h.ext B T/\keeps l B
theorem yj {h:AH} {l:List (Nat×Blk)} (c:keeps l B):KeepB h l (h.ext B T):=⟨_,_,rfl,c⟩
def keepA:List (Nat×List (Nat×Blk))->List Blk->Prop
 | [],_=>True
 | (_,l)::r,B=>keeps l B/\keepA r B
theorem keepA_lk:∀{l:List (Nat×List (Nat×Blk))} {B:List Blk},keepA l B->∀n,keeps (lk l n) B
 | [],_,_,_=>trivial
 | (m,l)::r,B,h,n=>by
  simp only [lk];split
  ·exact h.1
  ·exact keepA_lk h.2 n
theorem FOk.all {b:Nat} {G:AH->Prop} {h:AH} (c:G h):FOk b Ns (λ_=>G) h:=λ_ _ _=>c
theorem FOk.nil {b:Nat} {h:AH}:FOk b [] F h:=λ_ h _=>by simp at h
theorem FOk.cons {b n:Nat} {h:AH} (c:b.testBit n=true \/ F n h) (l:FOk b Ns F h):FOk b (n::Ns) F h:=λm r p=>by
 rcases c with c | c
 ·by_cases e:m=n
  ·simp_all
  ·exact l m (by simp_all) p
 ·by_cases e:m=n
  ·simp_all
  ·exact l m (by simp_all) p
abbrev rsA (h:AH) (i j k n:Nat):AV:=.rsl (h.blks.length+i) (h.toks.length+j) k n
abbrev wL (h:AH) (j k:Nat) (es:List (List AV)):AV:=.osl (some (h.toks.length+j)) k es
abbrev rwA (h:AH) (j k:Nat) (es:List (List AV)):Blk:=.row (h.toks.length+j) k es
theorem yB {P:Program} {Q:Exit->List AV->AH->Prop} {env:List AV} {h:AH} {l:List Oper} (Ns:List Nat) (c:List (Nat×List (Nat×Blk))) (s:keepA c B) (p:P.follows .mixedOrders=true) (hd:drawOk ⟨l⟩ Ns=true) (r:zR P ⟨l⟩ Ns (λn=>KeepB h (lk c n)) (Q .normal) 0 l env (h.ext B T)) :
  wM P (.region id ⟨l⟩ true) Q env (h.ext B T):=.inl ⟨Ns,λn=>KeepB h (lk c n),⟨p,hd⟩,λn=>yj (keepA_lk s n),r⟩
theorem r_drawnF {P:Program} {Q:Exit->List AV->AH->Prop} {env:List AV} {h:AH} {l:List Oper} (Ns:List Nat) (F:Nat->AH->Prop) (r:∀n,F n h) (c:P.follows .mixedOrders=true) (hd:drawOk ⟨l⟩ Ns=true) (p:zR P ⟨l⟩ Ns F (Q .normal) 0 l env h) :
  wM P (.region id ⟨l⟩ true) Q env h:=.inl ⟨Ns,F,⟨c,hd⟩,r,p⟩
theorem xd {h:AH} {L:List Blk} {M:List Nat}:(h.ext L M).ext L' M'=h.ext (L++L') (M++M'):=by simp [AH.ext,ur]
theorem xI {P:Program} {o:Oper} {env:List AV} {h h':AH} {args:List AV} {v:AV} (s:aG ops o env=some true) (p:zw P o env h=.call f args) (hs:Spec P f args h λr hh=>r=v/\hh=h')
  (hd:xG o.dst env v=some env') (c:zH P ops Q rest env' h'):zH P ops Q (o::rest) env h :=
 ops_call s p hs λr h' ⟨l,A⟩=>by subst l;subst A;rw [yK hd];exact c
theorem yO {i:Nat} (C:Ns.contains i=false) {P:Program} {ops:Array Oper} {Q:List AV->AH->Prop} {o:Oper} {rest:List Oper} {env env':List AV} {h h':AH} {f:FuncId} {args:List AV} {v:AV} (s:FOk ((Region.before ops).getD i 0) Ns F h') (c:h'.blks=h.blks) (l:aG ops o env=some true) (A:zw P o env h=.call f args) (hs:Spec P f args h λr hh=>r=v/\hh=h')
  (hd:xG o.dst env v=some env') (p:zR P ops Ns F Q (i+1) rest env' h'):zR P ops Ns F Q i (o::rest) env h :=
 ⟨v,h',.inl ⟨C,by simp only [AR,l,A];exact hs⟩,.inr c,.inr s,by rw [yK hd];exact p⟩
theorem draw_okH {i:Nat} (s:Ns.contains i=false) {P:Program} {ops:Array Oper} {Q:List AV->AH->Prop} {o:Oper} {rest:List Oper} {env env':List AV} {h h':AH} {v:AV} (A:FOk ((Region.before ops).getD i 0) Ns F h') (r:h'.blks=h.blks) (p:aG ops o env=some true) (l:zw P o env h=.ok v h') (hd:xG o.dst env v=some env') (c:zR P ops Ns F Q (i+1) rest env' h') :
  zR P ops Ns F Q i (o::rest) env h:=⟨v,h',.inl ⟨s,by simp only [AR,p,l,rR]⟩,.inr r,.inr A,by rw [yK hd];exact c⟩
def OwnK (h:AH) (k n:Nat) (R:List (List AV)) (rr:AV) (hh:AH):Prop:=rr=.osl (some h.toks.length) k R/\hh=h.ext [] [n]
theorem xn {P:Program} {a5:List AV} {h:AH} {n:Nat} {R:List (List AV)} (s:Spec P f a5 (h.ext B T) (OwnK (h.ext B T) k n R)) (c:T.length=m) (l:T++[n]=T') :
  Spec P f a5 (h.ext B T) (λp hh=>p=.osl (some (h.toks.length+m)) k R/\hh=h.ext B T'):=by
 refine s.mono ?_
 rintro r h' ⟨rfl,rfl⟩
 subst c l;simp [AH.ext,ur]
theorem blk_ext2 {h:AH} {b:Blk} (c:B[j]?=some b):((h.ext B T).ext B' T').blk (h.blks.length+j)=some b:=by
 rw [xd,yL,uk (ua.1 c).1];exact c
theorem blk_old {h:AH} {b:Blk} (c:h.blk id=some b):(h.ext B T).blk id=some b:=by
 have l:id < h.blks.length:=(ua.1 c).1;simp only [AH.blk,AH.ext] at c ⊢
 grind
theorem b_load {P:Program} {o:Oper} {env:List AV} {h:AH} {v c:AV} (p:o.op=.load t x) (s:Ty P t d k) (C:yh env x=some (.ptr id off)) (A:h.blk id=some (.cells cs))
  (r:ldC (z8 d) k off cs=some v) (l:tyfix P t v=c):zw P o env (h.ext B T)=.ok c (h.ext B T):=by
 refine s_load p s C ?_ l;simp only [qZ,blk_old A];exact r

theorem leV.agg {cs ds:List AV} (k:leL cs ds) (l:ds.all AV.one=true):leV (.agg cs) (.agg ds):=λg v c=>by
 simp only [V] at c ⊢;obtain ⟨vs,e,p⟩:=c;exact ⟨vs,e,VA.mk (k _ _ p.toVL) l⟩
theorem leV.tup {cs ds:List AV} (k:leL cs ds):leV (.tup cs) (.tup ds):=λg v c=>by
 simp only [V] at c ⊢;obtain ⟨vs,e,l⟩:=c;exact ⟨vs,e,k _ _ l⟩
theorem VL.setE {g:Gh}:∀{a5:List AV} {vs:List Value},VL g a5 vs->∀(i:Nat) (a:AV),(∀v,vs[i]?=some v->V g a v)->VL g (a5.set i a) vs
 | [],_,h,i,a,_=>by simpa using h
 | _::r,_,h,i,a,hv=>by
  simp only [VL] at h;obtain ⟨c,s,rfl,p,l⟩:=h;cases i with
  | zero=>simp only [un,VL];exact ⟨c,s,rfl,hv c rfl,l⟩
  | succ i=>simp only [um,VL];exact ⟨c,s,rfl,p,VL.setE l i a (λv A=>hv v (by simp_all))⟩
theorem V.tok {n:Nat} {es:List (List AV)} {v:Value} (D:es.length=n) (l:V g (.osl none k es) v):V (g.addT ⟨n,none,false⟩) (.osl (some g.τ.length) k es) v:=by
 subst D;simp only [V] at l ⊢;obtain ⟨a,c,s,p,A,r,C⟩:=l;refine ⟨a,c,s,p,A,r.imp id λ⟨b,o,e,hh⟩=>⟨b,o,e,VE.mono (g.le_addT _) _ _ _ _ hh⟩,⟨es.length,none,false⟩,?_,rfl,ue _,λ_=>.inl C⟩;simp only [Gh.addT]
 simp_all
theorem wk_tok {α:Type} {row:α->List AV} {L:List α} {h:AH} {env:List AV} {d:Nat} (I:yh env (.tmp d)=some (.osl none k (L.map row))) (H:T.length=m)
  (C:xG (some d) env (.osl (some (h.toks.length+m)) k (L.map row))=some env') (G:T++[L.length]=T') :
  wk hd env (h.ext B T) env' (h.ext B T'):=λ_ _ _ _ N g vs _ E r D=>by
 subst H G;simp only [xG,ug] at C;subst C;have c:h.toks.length+T.length=g.τ.length:=by rw [r.tlen];simp [AH.ext]
 refine ⟨g.addT ⟨L.length,none,false⟩,E.trans (g.le_addT _),?_,?_⟩
 ·have:=r.addTok ⟨L.length,none,false⟩ (λ_ _ _ h=>by cases h) (λ_ _ h=>by cases h);have e:(h.ext B (T++[L.length]))={ (h.ext B T) with toks:=(h.ext B T).toks++[L.length] }:=by simp [AH.ext,ur]
  simp_all
 ·have s:=D;refine ⟨VL.setE (VL.mono (g.le_addT _) _ _ D) d _ λv p=>?_,λ_ h=>h⟩;obtain ⟨a,l,J⟩:=s.getR _ _ p;have A:env[d]?=some (.osl none k (L.map row)):=I;rw [A] at l;injection l with l;subst l;rw [c];exact J.tok (by simp)
theorem Rel.rowsC {B:Nat} {h:AH} (r:Rel B w0 g h w) {i:Nat} {cs cs':List AV} (v:h.blks[i]?=some (.cells cs)) :
  (∀(j:Nat) (x:Blk),g.σ[j]?=some none->(h.put i (.cells cs')).blks[j]?=some x->RowB g w x) /\
  ∀(a b t k k':Nat) (es es':List (List AV)),(h.put i (.cells cs')).blks[a]?=some (.row t k es)->(h.put i (.cells cs')).blks[b]?=some (.row t k' es')->a=b:=by
 have key:∀(a t k:Nat) (es:List (List AV)),(h.put i (.cells cs')).blks[a]?=some (.row t k es)->h.blks[a]?=some (.row t k es):=by
  intro a t k es l;simp only [AH.put] at l
  grind
 refine ⟨λj x p c=>?_,λa b t k k' es es' l s=>r.rinj _ _ _ _ _ _ _ (key _ _ _ _ l) (key _ _ _ _ s)⟩;simp only [AH.put] at c;by_cases hij:i=j
 ·subst hij;exact (r.row i _ p v).elim
 ·rw [uT hij] at c;exact r.row j x p c
theorem Rel.reblk {B:Nat} {h:AH} (r:Rel B w0 g h w) {i:Nat} {cs cs':List AV} (p:h.blks[i]?=some (.cells cs)) (E:∀c,BlkOk g w c (.cells cs)->BlkOk g w c (.cells cs')):Rel B w0 g (h.put i (.cells cs')) w:=by
 refine ⟨r.below,r.bsz,r.phi,by simp [AH.put,r.slen],λj c q s l=>?_,r.tlen,r.tok,r.sinj,r.tinj,r.sep,r.dfr,(r.rowsC p).1,(r.rowsC p).2,r.nb,r.ob⟩;simp only [AH.put] at l;by_cases hij:i=j
 ·subst hij;rw [uB (ua.1 p).1] at l;injection l with l;subst l;obtain ⟨C,v,D,A⟩:=r.blk i c _ s p
  simp_all
 ·rw [uT hij] at l;exact r.blk j c q s l
theorem wk_tokB {α:Type} {row:α->List AV} {L:List α} {h:AH} {env:List AV} (S:B[j]?=some (.cells cs)) (he:yh cs (.tmp off)=some (.osl none k (L.map row))) (Z:T.length=m)
  (R:xG (some off) cs (.osl (some (h.toks.length+m)) k (L.map row))=some cs') (hB:B.set j (.cells cs')=B') (W:T++[L.length]=T') :
  wk hd env (h.ext B T) env (h.ext B' T'):=λ_ _ w _ g1 g vs _ V r hv=>by
 subst Z W hB;simp only [xG,ug] at R;subst R;have D:h.toks.length+T.length=g.τ.length:=by rw [r.tlen];simp [AH.ext]
 refine ⟨g.addT ⟨L.length,none,false⟩,V.trans (g.le_addT _),?_,VL.mono (g.le_addT _) _ _ hv,λ_ h=>h⟩;have l:=r.addTok ⟨L.length,none,false⟩ (λ_ _ _ h=>by cases h) (λ_ _ h=>by cases h);have H:({ (h.ext B T) with toks:=(h.ext B T).toks++[L.length] }:AH).blks[h.blks.length+j]?=some (.cells cs):=by
  simp only [AH.ext];rw [uf (by omega),uu];exact S
 have e:(h.ext (B.set j (.cells (cs.set off (.osl (some (h.toks.length+T.length)) k (L.map row))))) (T++[L.length])) =
   ({ (h.ext B T) with toks:=(h.ext B T).toks++[L.length] }:AH).put (h.blks.length+j) (.cells (cs.set off (.osl (some (h.toks.length+T.length)) k (L.map row)))):=by
  simp only [AH.ext,AH.put,ur]
  simp_all
 rw [e]
 -- what the cells were ahead of the token
 have C:(h.ext B T).blks[h.blks.length+j]?=some (.cells cs):=by
  omega
 obtain ⟨c,U⟩:∃c:Nat,g.σ[h.blks.length+j]?=some (some c):=by
  have:h.blks.length+j < g.σ.length:=by rw [r.slen];simp only [AH.ext,ul];have:=(ua.1 S).1;omega
  rcases U:g.σ[h.blks.length+j] with _ | c
  ·exact (r.row _ _ (by simp_all) C).elim
  ·simp_all
 obtain ⟨_,_,⟨us,t,Y,N⟩,_⟩:=r.blk _ c _ U C;have E:VA (g.addT ⟨L.length,none,false⟩) (cs.set off (.osl (some (h.toks.length+T.length)) k (L.map row))) us.toList:=by
  have O:=N.toVL;refine VA.mk (VL.setE (VL.mono (g.le_addT _) _ _ O) off _ λv I=>?_) ?_
  ·obtain ⟨a,p,hV⟩:=O.getR _ _ I;have J:cs[off]?=some (.osl none k (L.map row)):=he;rw [J] at p;injection p with p;subst p;rw [D];exact hV.tok (by simp)
  ·rw [uw];intro a p;rcases su p with p | rfl
   ·have:=N.ones;rw [uw] at this;exact this a p
   ·rfl
 -- one block alone: the same cell
 refine ⟨l.below,l.bsz,l.phi,by simp [AH.put,l.slen],λi G q A s=>?_,l.tlen,l.tok,l.sinj,l.tinj,l.sep,l.dfr,(l.rowsC H).1,(l.rowsC H).2,l.nb,l.ob⟩;simp only [AH.put] at s;by_cases hij:h.blks.length+j=i
 ·subst hij;rw [uB (ua.1 H).1] at s;injection s with s;subst s;obtain ⟨h6,X,_,h9⟩:=l.blk _ G _ A H;have:G=c:=by
   have:g.σ[h.blks.length+j]?=some (some G):=A
   simp_all
  subst this;exact ⟨h6,X,⟨us,t,Y,E⟩,λ_=>h9 (by simp)⟩
 ·rw [uT hij] at s;exact l.blk i G q A s
mutual
theorem AV.low_up {n p m s:Nat} (c:n<=p) (h:m<=s):∀a:AV,a.low n m=true->a.low p s=true
 | .bool _,_ | .int _ _,_ | .str _,_ | .nilp,_ | .nilm,_ | .nilf,_ | .nili,_ | .nilsl,_ | .fptr _,_ | .sl _ _,_ | .glob _,_ | .any,_ | .opq,_ | .bsl _ _,_ | .nsl _ _,_ | .gsl _ _,_ | .gptr _,_=>rfl
 | .osl none _ _,_=>rfl
 | .osl (some t) _ _,hl=>by simp only [AV.low,uo] at hl ⊢;omega
 | .ptr _ _,hl=>by simp only [AV.low,uo] at hl ⊢;omega
 | .msl _ _ _ _,hl=>by simp only [AV.low,uo] at hl ⊢;omega
 | .rsl _ _ _ _,hl=>by simp only [AV.low,uo] at hl ⊢;omega
 | .rsuf _ _ _ _ _,hl=>by simp only [AV.low,uo] at hl ⊢;omega
 | .rptr _ _ _ _ _,hl=>by simp only [AV.low,uo] at hl ⊢;omega
 | .map _,hl=>by simp only [AV.low,uo] at hl ⊢;omega
 | .yld _,hl=>by simp only [AV.low,uo] at hl ⊢;omega
 | .fn _ a b,hl=>by
  simp only [AV.low,ud] at hl ⊢;exact ⟨yp c h a hl.1,yp c h b hl.2⟩
 | .iface _ v,hl=>by simp only [AV.low] at hl ⊢;exact AV.low_up c h v hl
 | .agg cs,hl=>by simp only [AV.low] at hl ⊢;exact yp c h cs hl
 | .tup cs,hl=>by simp only [AV.low] at hl ⊢;exact yp c h cs hl
theorem yp {n p m s:Nat} (c:n<=p) (h:m<=s):∀l:List AV,zG n m l=true->zG p s l=true
 | [],_=>rfl
 | a::r,hl=>by
  simp only [zG,ud] at hl ⊢;exact ⟨AV.low_up c h a hl.1,yp c h r hl.2⟩
end
theorem wk_cutm {h:AH} {env:List AV} {L:List Blk} {M:List Nat} (m:Nat) (C:zG h.blks.length (h.toks.length+m) env=true) (p:M.take m=M1):wk h env (h.ext L M) env (h.ext [] M1):=λ_ _ _ _ A g vs c s r D=>by
 subst p;refine ⟨g.cut h.blks.length (h.toks.length+m),Gh.le_cut2 s (by rw [c.slen];exact ue _) (by rw [c.tlen];omega),?_,VL.cut _ _ C D,λ_ h=>h⟩;have e:(h.ext L M).cut h.blks.length (h.toks.length+m)=h.ext [] (M.take m):=by
  simp [AH.cut,AH.ext,tv];rw [ux (by omega)]
 have:=r.cut h.blks.length (h.toks.length+m) (λi k hi l=>?_)
 ·simp_all
 ·have v:i < A.σ.length:=by rw [c.slen];exact hi
  simp only [AH.ext] at l;rw [uk hi] at l;have:=c.isLow l;rw [c.slen,c.tlen] at this;exact Blk.low_mono (by omega) _ this
theorem fin_own {h:AH} {n:Nat} {R:List (List AV)} (c:K (.osl (some h.toks.length) k R) (h.ext [] [n])):finK h K (.osl (some (h.toks.length+0)) k R) (h.ext B (n::T)) :=
 xE (wk_cutm 1 (by simp [zG,AV.low]) rfl) c
theorem fin_own0 {α:Type} {row:α->List AV} {L:List α} {h:AH} (c:K (.osl (some h.toks.length) k (L.map row)) (h.ext [] [L.length])):finK h K (.osl none k (L.map row)) (h.ext B T) :=
 xE ((wk_cutm (M1:=[]) 0 (by rfl) rfl).trans (wk_tok (d:=0) (m:=0) rfl rfl rfl rfl)) c
theorem wk_leB {h:AH} {env:List AV} (C:B[j]?=some (.cells cs)) (A:leL cs cs') (v:cs'.all AV.one=true) (D:B.set j (.cells cs')=B'):wk hd env (h.ext B T) env (h.ext B' T):=λ_ _ w _ G g vs _ E r H=>by
 subst D;have p:(h.ext B T).blks[h.blks.length+j]?=some (.cells cs):=by
  simp only [AH.ext];rw [uf (by omega),uu];exact C
 have:=r.reblk p (cs':=cs') (λc ⟨us,t,s,l⟩=>⟨us,t,s,VA.mk (A _ _ l.toVL) v⟩);have e:(h.ext B T).put (h.blks.length+j) (.cells cs')=h.ext (B.set j (.cells cs')) T:=by
  simp only [AH.ext,AH.put]
  simp_all
 grind
theorem yk {h:AH} {L0 L1:List Blk} {M0:List Nat} {env:List AV} (c:zG (h.blks.length+L0.length) (h.toks.length+M0.length) env=true) (p:L'.take L0.length=L1) (l:M'.take M0.length=M1)
  (s:L1.all (λb=>b.low (h.blks.length+L0.length) (h.toks.length+M0.length))=true):wk (h.ext L0 M0) env (h.ext L' M') env (h.ext L1 M1) :=
 wk_ext2 c p l λ_ k r=>.inr (by grind)
theorem ops_nextF {P:Program} {o:Oper} {env G H:List AV} {h:AH} {L:List Blk} {M:List Nat} {s:List UInt8} {c:Nat} {A C:Option ρ} {r:ρ} (N:aG ops o env=some true) (I:o.op=.next x true)
  (O:yh env x=some (.ptr (h.blks.length+j) 0)) (J:L[j]?=some (.siter s c)) (p:xG o.dst env (.tup [.bool true,.int .i64 c,.int .i32 (dec s c).1])=some G) (l:xG o.dst env (.tup [.bool false])=some H)
  (R:(if c < s.length then A else C)=some r) (v:c < s.length->A=some r->zH P ops Q rest G (h.ext (L.set j (.siter s (c+(dec s c).2))) M)) (D:C=some r->zH P ops Q rest H (h.ext L M)):zH P ops Q (o::rest) env (h.ext L M) :=
 ops_next N I O J p l (λE=>v E (by simp_all)) (λE=>D (by grind))
open Classical in
noncomputable def anyN (g:Nat->Option ρ):Option ρ:=if h:∃r N,∀n,N<=n->g n=some r then some (Classical.choose h) else none
theorem anyN_is {g:Nat->Option ρ} {r:ρ} (h:anyN g=some r):∃n,g n=some r:=by
 unfold anyN at h;split at h
 ·rename_i l;injection h with h;subst h;obtain ⟨N,c⟩:=tE l;exact ⟨N,c N (ue _)⟩
 ·cases h
theorem anyN_of {g:Nat->Option ρ} {r:ρ} (N:Nat) (h:∀n,N<=n->g n=some r):anyN g=some r:=by
 have c:∃r N,∀n,N<=n->g n=some r:=⟨r,N,h⟩
 unfold anyN;rw [po c];obtain ⟨M,l⟩:=tE c;have p:=l (max N M) (Nat.le_max_right _ _)
 grind
theorem Rel.beyond {B:Nat} {w':World} {h:AH} (r:Rel B w0 g h w) (s:RowKit.Below w.heap.size w w'):Rel B w0 g h w' :=
 ⟨r.below.trans (s.mono r.bsz),uG r.bsz s.size,λb j v e=>(s.cell (p:=⟨b,j,none⟩) (r.phi_lt e)).trans (r.phi b j v e),r.slen,
   λi c k C H=>by
     obtain ⟨I,D,N,J⟩:=r.blk i c k C H;exact ⟨I,tg D s.size,N.mono (Gh.le.refl g) (s.block c D),J⟩,r.tlen,
   λi t G=>by
     obtain ⟨I,D⟩:=r.tok i t G;exact ⟨I,λb l e A=>(D b l e A).mono s.size (s.block b (D b l e A).lt) λ_ _=>rfl⟩,r.sinj,r.tinj,r.sep,λc C=>⟨(r.dfr c C).1,(s.block c (r.dfr_lt C)).trans (r.dfr c C).2.1,(r.dfr c C).2.2⟩,
   λi k hi H=>(r.row i k hi H).mono (Gh.le.refl g) (λ_ _ h _=>h) (λi t b x G _ A=>⟨s.block b ((r.tok i t G).2 b x.1 x.2 A).lt,λ_=>rfl⟩),r.rinj,
   λb x E=>(r.nb b x E).mono λ_ A O=>⟨s.block b A,O,λh=>h⟩,λb E=>⟨tg (r.ob b E).1 s.size,(r.ob b E).2⟩⟩
end Go.Vv
namespace Go.Vv
open Go Go.RowKit Go.Lib
def apart (ops:Array Oper) (o p:Oper):Bool :=
 (match o.dst with | some d=>!(p.looksAt ops).contains d&&p.dst != some d | none=>true) &&
 (match p.dst with | some d=>!(o.looksAt ops).contains d | none=>true)
section
variable {P:Program} {l:List Oper} {Q:List AV->AH->Prop} {m i j:Nat} {listed:Array Bool} {env env':List AV} {h h':AH} {o:Oper} {v:AV}
end
end Go.Vv
namespace Go.Vv
open Go Go.RowKit Go.Proofs Go.Shelf

def strJoin (xs:List (List UInt8)) (sep:List UInt8):Option (List UInt8):=if xs.length<=140737488355328/\(Lib.join xs sep).length<=140737488355328 then some (Lib.join xs sep) else none

theorem spec_join {P:Program} {ρ:Ren} (L:Lays.n156 P ρ) (X:Builder.Extra P ρ) {xs:List (List UInt8)} {sep res:List UInt8} {h:AH} (n:strJoin xs sep=some res) :
  Spec P (ρ.f 156) [.sl 1 (xs.map λx=>[.str x]),.str sep] h (λC hh=>C=.str res/\hh=h):=by
 unfold strJoin at n;split at n
 case isFalse=>cases n
 rename_i I;obtain ⟨F,l⟩:=I;injection n with n;subst n;have J:(Body.n156 ρ).body=some ((Body.n156 ρ).body.get rfl):=rfl;refine ⟨λvs w=>by simp [callFunc,L.f156,Body.n156],λB w0 _ g w vs r A=>?_⟩;obtain ⟨us,rfl⟩:∃us:List Value,vs=us.toArray:=⟨vs.toList,by simp⟩
 simp only [VL,V] at A;obtain ⟨K,N,z,⟨a,c,rfl,k,G,t⟩,M,s2,rfl,⟨rfl,hs⟩,rfl⟩:=A;simp only [uA] at k G;simp at z;subst z;have m:∀e w',e=Ending.returned (.string ⟨(Lib.join xs sep).toArray⟩)->Below w.heap.size w w'->∃v r h' g',e=.returned v/\(r=.str (Lib.join xs sep)/\h'=h)/\g.le g'/\Rel B w0 g' h' w'/\V g' r v:=by
  rintro e w' rfl D
  refine ⟨_,_,h,g,rfl,⟨rfl,rfl⟩,Gh.le.refl g,r.beyond D,?_⟩;simp only [V];have s:(140737488355328:Nat)<=maxLen:=by decide
  exact ⟨trivial,uG l s⟩
 rcases t with t | ⟨b,o,rfl,H⟩
 ·have:xs=[]:=by simpa using t
  subst this;refine (Any.strings_Join_none L X a c ⟨sep.toArray⟩ w).mono λe w' ⟨p,i⟩=>m e w' ?_ (i ▸ Below.refl _ _);rw [p];rfl
 ·have key:(xs.map λx=>(⟨x.toArray⟩:ByteArray)).map (·.data.toList)=xs:=by simp [sB]
  have d:∀(j:Nat) x,(xs.map λx=>(⟨x.toArray⟩:ByteArray))[j]?=some x->w.cell? ⟨b,o+j,none⟩=some (.string x):=by
   intro j x q;rw [sd] at q;rcases hx:xs[j]? with _ | y
   ·simp [hx] at q
   ·simp [hx] at q;subst q;obtain ⟨_,i⟩:=H.get j [.str y] (by rw [sd,hx];rfl);simp only [VC,V,py] at i;obtain ⟨⟨v,E,_,rfl,_⟩,_⟩:=i;exact r.phi _ _ _ E
  by_cases hx:xs=[]
  ·subst hx;refine (Any.strings_Join_none L X _ c ⟨sep.toArray⟩ w).mono λe w' ⟨p,i⟩=>m e w' ?_ (i ▸ Below.refl _ _);rw [p];rfl
  ·have u:b < w.heap.size:=by
    obtain ⟨y,O,rfl⟩:=List.exists_cons_of_ne_nil hx;have:=d 0 ⟨y.toArray⟩ (by simp);exact World.block_lt_of_cell? w ⟨b,o+0,none⟩ this
   have:=Any.strings_Join L X b o c (xs.map λx=>(⟨x.toArray⟩:ByteArray)) ⟨sep.toArray⟩ w d u (by simpa using F) (by simpa using k) (by rw [key];simpa using l);rw [key] at this;simp only [uA] at this ⊢;exact this.mono λe w' ⟨p,i⟩=>m e w' (by simpa using p) i

end Go.Vv
namespace Go.Vv
open Go Go.RowKit Go.Lib Go.Shelf
theorem spec_scompare {P:Program} {ρ:Ren} (L:Go.Proofs.Lays.n106 P ρ) {a b:List UInt8} {h:AH}:Spec P (ρ.f 106) [.str a,.str b] h λd hh=>d=.int .i64 (Lib.compareBytes a b)/\hh=h:=by
 refine ⟨λvs w=>Go.Proofs.enters_of L.f106 (by kernel_rfl) rfl vs w,λB w0 _ g w vs r c=>?_⟩;obtain ⟨us,rfl⟩:∃us:List Value,vs=us.toArray:=⟨vs.toList,by simp⟩
 simp only [VL,V] at c;obtain ⟨j,l,i,⟨rfl,_⟩,k,s2,rfl,⟨rfl,_⟩,rfl⟩:=c;subst i;refine (Go.Proofs.Any.strings_Compare L _ _ w).mono ?_
 rintro e w' ⟨rfl,rfl⟩
 exact ⟨_,_,h,g,rfl,⟨rfl,rfl⟩,Gh.le.refl g,r,by simp only [V]⟩
end Go.Vv
namespace Go.Vv
open Go
variable {B:List Blk}
section
variable {K W:Type}
def zo (eq:K->K->Bool) (d:W):List (K×W)->K->W
 | [],_=>d
 | e::r,k=>if eq k e.1 then e.2 else zo eq d r k
def xX (eq:K->K->Bool):List (K×W)->K->Bool
 | [],_=>false
 | e::r,k=>eq k e.1 || xX eq r k
def midx (eq:K->K->Bool):List (K×W)->K->Nat
 | [],_=>0
 | e::r,k=>if eq k e.1 then 0 else midx eq r k+1
def mput (eq:K->K->Bool):List (K×W)->K->W->List (K×W)
 | [],k,v=>[(k,v)]
 | e::r,k,v=>if eq k e.1 then (e.1,v)::r else e::mput eq r k v
def yn (eq:K->K->Bool):List (K×W)->K->W->List (K×W)
 | [],k,v=>[(k,v)]
 | e::r,k,v=>if eq k e.1 then (k,v)::r else e::yn eq r k v
def ment (eq:K->K->Bool) (d:W) (m:List (K×W)) (k:K):List (K×W):=if xX eq m k then m else m++[(k,d)]
def yd (kv:K->AV) (vv:W->AV) (e:K×W):AV×AV:=(kv e.1,vv e.2)

theorem midx_lt {eq:K->K->Bool} {k:K}:∀{m:List (K×W)},xX eq m k=true->midx eq m k < m.length
 | [],h=>by simp [xX] at h
 | e::r,h=>by
  simp only [xX,midx,uh] at h ⊢;by_cases hk:eq k e.1=true
  ·simp [hk]
  ·simp only [hk,tP,uO,up] at h ⊢;have:=midx_lt h;omega
theorem midx_eq {eq:K->K->Bool} {k:K}:∀{m:List (K×W)},xX eq m k=false->midx eq m k=m.length
 | [],h=>rfl
 | e::r,h=>by
  simp only [xX,midx,uh,sa] at h ⊢;simp [h.1,midx_eq h.2]
theorem mput_has {eq:K->K->Bool} {k:K} {v:W}:∀{m:List (K×W)} {e:K×W},xX eq m k=true->m[midx eq m k]?=some e->m.set (midx eq m k) (e.1,v)=mput eq m k v
 | [],_,h,_=>by simp_all
 | p::r,e,h,he=>by
  simp only [xX,midx,mput] at h he ⊢;by_cases hk:eq k p.1=true
  ·simp_all
  ·simp only [hk,tP,uO,up,rj] at h he ⊢;rw [um,mput_has h he]
theorem mputN_has {eq:K->K->Bool} {k:K} {v:W}:∀{m:List (K×W)},xX eq m k=true->m.set (midx eq m k) (k,v)=yn eq m k v
 | [],h=>by simp [xX] at h
 | p::r,h=>by
  simp only [xX,midx,yn] at h ⊢;by_cases hk:eq k p.1=true
  ·simp_all
  ·simp only [hk,tP,uO,up] at h ⊢;rw [um,mputN_has h]
theorem mput_not {eq:K->K->Bool} {k:K} {v:W}:∀{m:List (K×W)},xX eq m k=false->m++[(k,v)]=mput eq m k v
 | [],_=>rfl
 | p::r,h=>by
  simp only [xX,mput,sa] at h ⊢;simp [h.1,mput_not h.2]
theorem mputN_not {eq:K->K->Bool} {k:K} {v:W}:∀{m:List (K×W)},xX eq m k=false->m++[(k,v)]=yn eq m k v
 | [],_=>rfl
 | p::r,h=>by
  simp only [xX,yn,sa] at h ⊢;simp [h.1,mputN_not h.2]

def KQ (P:Program) (kt:TypeId) (kv:K->AV) (eq:K->K->Bool):Prop:=(∀a b,xH P kt (kv a) (kv b)=some (eq a b))/\∀a,eq a a=true
theorem KQ.str {P:Program} {t:TypeId} {z:Nat} (h:Ty P t .string z):KQ P t AV.str (λa b=>a==b):=⟨λa b=>by simp only [xH,h.u,aEq1],λa=>by simp⟩
theorem KQ.int {P:Program} {t:TypeId} {i:IntKind} {z:Nat} (h:Ty P t (.int i) z):KQ P t (AV.int i) (λa b=>a==b):=⟨λa b=>by simp only [xH,h.u,aEq1,uv],λa=>by simp⟩
theorem KQ.struct {P:Program} {t:TypeId} {fs:Array Field} {ks:List Kd} {row:K->List AV} {eq:K->K->Bool} (f:P.underlying t=some (.struct fs)) (c:PK P t ks) (h:∀a b,vV ks (row a) (row b)=some (eq a b)) (e:∀a,eq a a=true):KQ P t (λx=>.agg (row x)) eq :=
 ⟨λa b=>by simp only [xH,f,c.k,h],e⟩

variable {P:Program} {kt et t:TypeId} {kv:K->AV} {vv:W->AV} {eq:K->K->Bool} {d:W}
theorem aFind_is (a:KQ P kt kv eq) (d:W) (k:K):∀(m:List (K×W)) (i:Nat),aFind P kt (kv k) (m.map (yd kv vv)) i=some (if xX eq m k then some (i+midx eq m k,vv (zo eq d m k)) else none)
 | [],i=>rfl
 | e::r,i=>by
  have l:=aFind_is a d k r (i+1);simp only [uy,aFind];have g:xH P kt (kv k) (yd kv vv e).1=some (eq k e.1):=a.1 _ _;rw [g];by_cases h:eq k e.1=true
  ·have b:xX eq (e::r) k=true:=by simp [xX,h]
   have f:midx eq (e::r) k=0:=by simp [midx,h]
   have c:zo eq d (e::r) k=e.2:=by simp [zo,h]
   rw [b,f,c,h];rfl
  ·simp only [Bool.not_eq_true] at h;have b:xX eq (e::r) k=xX eq r k:=by simp [xX,h]
   have f:midx eq (e::r) k=midx eq r k+1:=by simp [midx,h]
   have c:zo eq d (e::r) k=zo eq d r k:=by simp [zo,h]
   grind

variable {ops:Array Oper} {o:Oper} {env:List AV} {h:AH} {L:List Blk} {M:List Nat} {m:List (K×W)} {k:K} {j:Nat} {x y z:Operand}
theorem e_makeMap {n:Nat} (b:o.op=.makeMap t none) (a:L.length=n):zw P o env (h.ext L M)=.ok (.map (h.blks.length+n)) (h.ext (L++[.mapo [] 0]) M):=by
 simp only [zw,b,ext_new,<- a];simp [AH.ext]
theorem e_lookup (c:o.op=.lookup t x y false) (n:P.underlying t=some (.map kt et)) (a:KQ P kt kv eq) (s:qq P et=some (vv d)) (q:yh env x=some (.map (h.blks.length+j))) (b:L[j]?=some (.mapo (m.map (yd kv vv)) 0)) (f:yh env y=some (kv k)) :
  zw P o env (h.ext L M)=.ok (vv (zo eq d m k)) (h.ext L M):=by
 obtain ⟨l,g⟩:=zT q;obtain ⟨p,i⟩:=zT f;simp only [zw,c,l,g,p,i,n,u2,uv,aLookup,a.1,a.2,yL,b,aFind_is a d k m 0,s];cases hm:xX eq m k with
 | true=>simp [withOk,oo]
 | false =>
  have:zo eq d m k=d:=by
   clear b
   induction m with
   | nil=>rfl
   | cons e r ih=>simp only [xX,sa] at hm;simp only [zo,hm.1,up,uO];exact ih hm.2
  simp [withOk,oo,this]
theorem e_lookupOk (c:o.op=.lookup t x y true) (n:P.underlying t=some (.map kt et)) (a:KQ P kt kv eq) (s:qq P et=some (vv d)) (q:yh env x=some (.map (h.blks.length+j))) (b:L[j]?=some (.mapo (m.map (yd kv vv)) 0)) (f:yh env y=some (kv k)) :
  zw P o env (h.ext L M)=.ok (.tup [vv (zo eq d m k),.bool (xX eq m k)]) (h.ext L M):=by
 obtain ⟨l,g⟩:=zT q;obtain ⟨p,i⟩:=zT f;simp only [zw,c,l,g,p,i,n,u2,uv,aLookup,a.1,a.2,yL,b,aFind_is a d k m 0,s];cases hm:xX eq m k with
 | true=>simp [withOk,oo]
 | false =>
  have:zo eq d m k=d:=by
   clear b
   induction m with
   | nil=>rfl
   | cons e r ih=>simp only [xX,sa] at hm;simp only [zo,hm.1,up,uO];exact ih hm.2
  simp [withOk,oo,this]
theorem e_entry (c:o.op=.mapEntry t x y) (q:P.underlying t=some (.map kt et)) (a:KQ P kt kv eq) (v:qq P et=some (vv d)) (u:yh env x=some (.map (h.blks.length+j))) (b:L[j]?=some (.mapo (m.map (yd kv vv)) 0)) (g:yh env y=some (kv k))
  (p:L.set j (.mapo ((ment eq d m k).map (yd kv vv)) 0)=B):zw P o env (h.ext L M)=.ok (.tup [vv (zo eq d m k),.int .i64 (midx eq m k)]) (h.ext B M):=by
 obtain ⟨n,i⟩:=zT u;obtain ⟨s,l⟩:=zT g;subst p;simp only [zw,c,n,i,s,l,q,u2,uv,aEntry,a.1,a.2,yL,b,aFind_is a d k m 0,v,ment];cases hm:xX eq m k with
 | true =>
  have:L.set j (.mapo (m.map (yd kv vv)) 0)=L:=by
   apply uX
   grind
  simp [ovh,this]
 | false =>
  have f:zo eq d m k=d:=by
   clear b
   induction m with
   | nil=>rfl
   | cons e r ih=>simp only [xX,sa] at hm;simp only [zo,hm.1,up,uO];exact ih hm.2
  simp [ovh,f,wR,yd,midx_eq hm]
theorem e_entryStore {v:W} {i:Int} {n:IntKind} (u:o.op=.entryStore t x y z) (C:yh env x=some (.map (h.blks.length+j))) (E:L[j]?=some (.mapo ((ment eq d m k).map (yd kv vv)) 0)) (w:yh env y=some (.int n i)) (hi:i=midx eq m k) {a:AV} (s:yh env z=some a) (b:a.zcl=vv v)
  (F:L.set j (.mapo ((mput eq m k v).map (yd kv vv)) 0)=B):zw P o env (h.ext L M)=.ok aundef (h.ext B M):=by
 obtain ⟨q,l⟩:=zT C;obtain ⟨A,p⟩:=zT w;obtain ⟨r,D⟩:=zT s;subst F hi;have h0:(0:Int)<=(midx eq m k:Int):=by omega
 have key:∃e,(ment eq d m k)[midx eq m k]?=some e/\(ment eq d m k).set (midx eq m k) (e.1,v)=mput eq m k v:=by
  unfold ment;cases hm:xX eq m k with
  | true =>
   have g:=midx_lt hm;exact ⟨m[midx eq m k],by simp [g],by simpa using mput_has hm (ui g)⟩
  | false =>
   refine ⟨(k,d),by simp [midx_eq hm],?_⟩;simp only [up,uO,midx_eq hm];rw [<- mput_not hm];simp
 obtain ⟨e,f,c⟩:=key;simp only [zw,u,q,l,A,p,r,D,b,u2,uv,qQ,yL,E,h0,u9,sd,f,uR,oh,wR,<- c,List.map_set];rfl
theorem w9 {v:W} (f:o.op=.mapUpdate t x y z) (q:P.underlying t=some (.map kt et)) (b:KQ P kt kv eq) (w:yh env x=some (.map (h.blks.length+j))) (g:L[j]?=some (.mapo (m.map (yd kv vv)) 0)) (i:yh env y=some (kv k)) {a:AV} (A:yh env z=some a) (c:a.zcl=vv v)
  (r:L.set j (.mapo ((yn eq m k v).map (yd kv vv)) 0)=B):zw P o env (h.ext L M)=.ok aundef (h.ext B M):=by
 obtain ⟨p,l⟩:=zT w;obtain ⟨s,n⟩:=zT i;obtain ⟨u,e⟩:=zT A;subst r;simp only [zw,f,p,l,s,n,u,e,c,q,u2,uv,aMapPut,b.1,b.2,yL,g,aFind_is b v k m 0];cases hm:xX eq m k with
 | true=>simp [oh,wR,<- mputN_has hm,List.map_set,yd]
 | false=>simp [oh,wR,<- mputN_not hm,yd]
theorem ops_mlen {Q:List AV->AH->Prop} {rest:List Oper} {a:List AV} {c:Call} (g:aG ops o env=some true) (n:o.op=.call c) (s:c.callee=.builtin .len) (r:c.args=#[x]) (b:c.argTypes=#[t]) (f:P.underlying t=some (.map kt et))
  (p:yh env x=some (.map (h.blks.length+j))) (q:L[j]?=some (.mapo (m.map (yd kv vv)) 0)) (hd:xG o.dst env (.int .i64 m.length)=some a) (i:zH P ops Q rest a (h.ext L M)):zH P ops Q (o::rest) env (h.ext L M):=by
 obtain ⟨l,e⟩:=zT p;have key:zw P o env (h.ext L M)=.any λv h'=>h'=h.ext L M/\v=.int .i64 m.length:=by
  simp [zw,n,s,r,b,l,e,vf,f,yL,q]
 refine wK ?_;simp only [g,gwp,key,rwp]
 rintro v h' ⟨rfl,rfl⟩
 rw [yK hd];exact i

theorem mgetD_app {eq:K->K->Bool} {d:W} {k:K} (a:eq k k=true):∀{m:List (K×W)},zo eq d (m++[(k,d)]) k=zo eq d m k
 | []=>by simp [zo,a]
 | e::r=>by simp [zo,mgetD_app a]
theorem mgetD_ment {eq:K->K->Bool} {d:W} {k:K} (a:eq k k=true) {m:List (K×W)}:zo eq d (ment eq d m k) k=zo eq d m k:=by
 unfold ment;split
 ·rfl
 ·exact mgetD_app a
def MapE (h:AH) (j:Nat) (m1 m2:List (AV×AV)) (x:AH):Prop:=∃B T,x=h.ext B T/\(B[j]?=some (.mapo m1 0) \/ B[j]?=some (.mapo m2 0))
theorem e_lookupF (e:o.op=.lookup t x y false) (g:P.underlying t=some (.map kt et)) (a:KQ P kt kv eq) (l:qq P et=some (vv d)) (i:yh env x=some (.map (h.blks.length+j))) (f:yh env y=some (kv k)) :
  ∀c,MapE h j (m.map (yd kv vv)) ((ment eq d m k).map (yd kv vv)) c->zw P o env c=.ok (vv (zo eq d m k)) c:=by
 rintro _ ⟨B,T,rfl,b | b⟩
 ·exact e_lookup e g a l i b f
 ·rw [<- mgetD_ment (m:=m) (d:=d) (a.2 k)];exact e_lookup e g a l i b f
theorem FOk.skip {b:Nat} {Ns:List Nat} {F:Nat->AH->Prop} {h:AH} (c:Ns.all (λn=>b.testBit n)=true):FOk b Ns F h:=λn e a=>by
 simp_all
end
end Go.Vv
