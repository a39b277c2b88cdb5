/- More rules: guards, places in slices and texts, drawn orders, folded loops. -/
import Derived.Test.YtgeajmfobeecbaaGreatVvO
import Derived.Shelf.Strings.OnBuilder
import Derived.Shelf.Strings.SplitShaped
import Derived.Shelf.Small.Strs
set_option linter.all false
namespace Go.Vv
open Go
variable {b t q r:Bool} {k:IntKind} {l:List (TypeId×AV)} {f:Operand} {g:FuncId} {args:List AV}

theorem aG_gv {ops:Array Oper} {o:Oper} {env:List AV} {j d:Nat} {want b c:Bool} (hg:o.guard=some (j,want)) (hd:(ops[j]?).bind (·.dst)=some d) (he:env[d]?=some (gv b (.bool c))):aG ops o env=some (b&&(c==want)):=by
 simp only [aG,hg,hd,he];cases b <;> simp [gv,aundef]
theorem zI {env:List AV} {x:Operand} {v:AV} (a:yf env x=some (gv b v)) (c:b=true):yf env x=some v:=by subst c;rw [gv_true] at a;exact a
theorem gT (h:t=true):(t==true)=true:=by rw [h];rfl
theorem gF (h:t=false):(t==false)=true:=by rw [h];rfl
theorem and_l {a:Bool} (h:(a&&b)=true):a=true:=by simp_all
theorem pick_bb:(if t then AV.bool q else .bool r)=.bool (if t then q else r):=by grind
theorem pick_and (a:t=true->b=true):(if t then gv b (.bool q) else .bool false)=AV.bool (t&&q):=by cases t <;> simp [gv] ; simp [a rfl]
theorem qR (a:t=false->b=true):(if t then .bool true else gv b (.bool q))=AV.bool (t || q):=by cases t <;> simp [gv] ; simp [a rfl]
theorem pick_g1 (a:t=true->b=true):(if t then gv b (.bool q) else .bool r)=AV.bool (if t then q else r):=by cases t <;> simp [gv] ; simp [a rfl]
theorem pick_g2 (a:t=false->b=true):(if t then .bool r else gv b (.bool q))=AV.bool (if t then r else q):=by cases t <;> simp [gv] ; simp [a rfl]
theorem pick_g3 {c:Bool} (d:t=true->b=true) (a:t=false->c=true):(if t then gv b (.bool q) else gv c (.bool r))=AV.bool (if t then q else r):=by cases t <;> simp [gv] <;> simp [d,a]
theorem pick_ii {a b:Int}:(if t then AV.int k a else .int k b)=.int k (if t then a else b):=by grind
theorem pick_ig1 {x y:Int} (a:t=true->b=true):(if t then gv b (.int k x) else .int k y)=AV.int k (if t then x else y):=by cases t <;> simp [gv] ; simp [a rfl]
theorem pick_ig2 {x y:Int} (a:t=false->b=true):(if t then .int k y else gv b (.int k x))=AV.int k (if t then y else x):=by cases t <;> simp [gv] ; simp [a rfl]


section
variable {P:Program} {ops:Array Oper} {Q:List AV->AH->Prop} {o:Oper} {rest:List Oper} {env env':List AV} {h:AH}
variable {i:Nat} {Ns:List Nat} {F:Nat->AH->Prop}
theorem draw_nil (a:Q env h):zT P ops Ns F Q i [] env h:=a
theorem zx (e:Ns.contains i=false) {v:AV} (d:aG ops o env=some true) (c:zr P o env h=.ok v h) (hd:xV o.dst env v=some env') (a:zT P ops Ns F Q (i+1) rest env' h):zT P ops Ns F Q i (o::rest) env h :=
 ⟨v,h,.inl ⟨e,by simp only [AR,d,c,r5]⟩,.inr rfl,.inl rfl,by rw [yO hd];exact a⟩
theorem zP (j:Ns.contains i=false) {v:AV} {a:AH} (n:FOk ((Region.before ops).getD i 0) Ns F a) (m:anch ops Ns i=true) (e:aG ops o env=some true) (d:zr P o env h=.ok v a) (hd:xV o.dst env v=some env') (c:zT P ops Ns F Q (i+1) rest env' a):zT P ops Ns F Q i (o::rest) env h :=
 ⟨v,a,.inl ⟨j,by simp only [AR,e,d,r5]⟩,.inl m,.inr n,by rw [yO hd];exact c⟩
theorem draw_len (e:Ns.contains i=false) {n:Nat} {v:AV} (d:aG ops o env=some true) (c:zr P o env h=.len n v h) (hd:xV o.dst env v=some env') (a:zT P ops Ns F Q (i+1) rest env' h):zT P ops Ns F Q i (o::rest) env h :=
 ⟨v,h,.inl ⟨e,by simp only [AR,d,c,r5]⟩,.inr rfl,.inl rfl,by rw [yO hd];exact a⟩
theorem draw_call (j:Ns.contains i=false) {f:FuncId} {args:List AV} {v:AV} (e:aG ops o env=some true) (d:zr P o env h=.call f args) (hs:Spec P f args h λr c=>r=v/\c=h) (hd:xV o.dst env v=some env') (a:zT P ops Ns F Q (i+1) rest env' h) :
  zT P ops Ns F Q i (o::rest) env h:=⟨v,h,.inl ⟨j,by simp only [AR,e,d];exact hs⟩,.inr rfl,.inl rfl,by rw [yO hd];exact a⟩
theorem zK (j:Ns.contains i=true) {f:FuncId} {args:List AV} {v:AV} (e:aG ops o env=some true) (d:∀a,zr P o env a=.call f args) (hs:∀a,F i a->Spec P f args a λr hh=>r=v/\hh=a) (hd:xV o.dst env v=some env') (c:zT P ops Ns F Q (i+1) rest env' h) :
  zT P ops Ns F Q i (o::rest) env h:=⟨v,h,.inr (.inl ⟨j,e,rfl,.inl ⟨f,args,d,hs⟩⟩),.inr rfl,.inl rfl,by rw [yO hd];exact c⟩
theorem w8 (j:Ns.contains i=true) {v:AV} (e:aG ops o env=some true) (d:∀a,F i a->zr P o env a=.ok v a) (hd:xV o.dst env v=some env') (c:zT P ops Ns F Q (i+1) rest env' h) :
  zT P ops Ns F Q i (o::rest) env h:=⟨v,h,.inr (.inl ⟨j,e,rfl,.inr d⟩),.inr rfl,.inl rfl,by rw [yO hd];exact c⟩
theorem qj (d:Ns.contains i=false) {b:Bool} {v:AV} (c:aG ops o env=some b) (e:b=true->zr P o env h=.ok v h) (hd:xV o.dst env (gv b v)=some env') (a:zT P ops Ns F Q (i+1) rest env' h):zT P ops Ns F Q i (o::rest) env h:=by
 cases b with
 | true=>rw [gv_true] at hd;exact zx d c (e rfl) hd a
 | false=>exact ⟨aundef,h,.inl ⟨d,by simp [AR,c]⟩,.inr rfl,.inl rfl,by rw [gv_false] at hd;rw [yO hd];exact a⟩
theorem draw_glen (d:Ns.contains i=false) {b:Bool} {n:Nat} {v:AV} (c:aG ops o env=some b) (e:b=true->zr P o env h=.len n v h) (hd:xV o.dst env (gv b v)=some env') (a:zT P ops Ns F Q (i+1) rest env' h):zT P ops Ns F Q i (o::rest) env h:=by
 cases b with
 | true=>rw [gv_true] at hd;exact draw_len d c (e rfl) hd a
 | false=>exact ⟨aundef,h,.inl ⟨d,by simp [AR,c]⟩,.inr rfl,.inl rfl,by rw [gv_false] at hd;rw [yO hd];exact a⟩
theorem yU (d:Ns.contains i=false) {b:Bool} {f:FuncId} {args:List AV} {v:AV} (c:aG ops o env=some b) (j:b=true->zr P o env h=.call f args) (hs:b=true->Spec P f args h λr e=>r=v/\e=h)
  (hd:xV o.dst env (gv b v)=some env') (a:zT P ops Ns F Q (i+1) rest env' h):zT P ops Ns F Q i (o::rest) env h:=by
 cases b with
 | true=>rw [gv_true] at hd;exact draw_call d c (j rfl) (hs rfl) hd a
 | false=>exact ⟨aundef,h,.inl ⟨d,by simp [AR,c]⟩,.inr rfl,.inl rfl,by rw [gv_false] at hd;rw [yO hd];exact a⟩
variable {i0:Nat}
end

inductive Fx (P:Program):List (TypeId×AV)->List AV->Prop
 | nil:Fx P [] []
 | cons {t:TypeId} {v v':AV} {r:List (TypeId×AV)} {s:List AV}:tyfix P t v=v'->Fx P r s->Fx P ((t,v)::r) (v'::s)
theorem Fx.eq {P:Program} {s:List AV} (h:Fx P l s):fixL P l=s:=by
 induction h with
 | nil=>rfl
 | cons h _ ih=>simp only [fixL,h,ih]
theorem yc {P:Program} {o:Oper} {env:List AV} {h:AH} {c:Call} (d:o.op=.call c) (m:c.callee=.value f) (a:yf env f=some (.fn (.func g) [] []))
  (e:argo env c.args.toList c.argTypes.toList=some l) (j:Fx P l args):zr P o env h=.call g args :=
 s_call d m a e (by simp [j.eq])
theorem s_callC {P:Program} {o:Oper} {env:List AV} {h:AH} {c:Call} {first caps all:List AV} (e:o.op=.call c) (n:c.callee=.value f) (d:yf env f=some (.fn (.func g) first caps))
  (j:argo env c.args.toList c.argTypes.toList=some l) (m:Fx P l args) (a:first++args++caps=all):zr P o env h=.call g all :=
 s_call e n d j (by rw [m.eq,a])
theorem r_loopU {P:Program} {Q:Exit->List AV->AH->Prop} {env:List AV} {h:AH} {body:Code} {σ:Type} (U:σ->List (Nat×AV)) (a:σ->Prop) (d:σ->Nat) (e:σ) {E:σ->List AV} (m:∀s,x5 env (U s)=E s) (h0:leL env (E e)) (hi:a e)
  (hs:∀s,a s->wH P body (loopQ (λenv' j=>∃c,a c/\d c < d s/\wk h env' j (E c) h) Q) (E s) h):wH P (.loop body) Q env h :=
 r_loop E (λ_=>h) a d e (wk.le h0) hi hs
end Go.Vv
namespace Go.Vv
open Go
variable {j k off n:Nat} {cs cs' ds z:List AV} {t e:TypeId} {x:Operand} {d:TypeDesc} {v':AV} {fn:Func} {f:FuncId} {l l':List (Nat×AV)} {ks:List Kd}

def AH.ext (h:AH) (L:List Blk) (M:List Nat):AH:={ blks:=h.blks++L,toks:=h.toks++M }
theorem ext_nil (h:AH):h.ext [] []=h:=by simp [AH.ext]
theorem yI {h:AH} {L:List Blk} {M:List Nat}:(h.ext L M).blk (h.blks.length+j)=L[j]?:=by
 simp only [AH.blk,AH.ext]
 grind
theorem ext_new {h:AH} {L:List Blk} {M:List Nat} {b:Blk}:(h.ext L M).new b=h.ext (L++[b]) M:=by simp [AH.ext,AH.new,uz]
theorem vk {h:AH} {L:List Blk} {M:List Nat} {b:Blk}:(h.ext L M).put (h.blks.length+j) b=h.ext (L.set j b) M:=by
 simp only [AH.ext,AH.put]
 simp_all
theorem ext_cut {h:AH} {L:List Blk} {M:List Nat}:(h.ext L M).cut h.blks.length h.toks.length=h:=by
 simp [AH.cut,AH.ext]
def ldC (ag:Bool) (k off:Nat) (cs:List AV):Option AV:=if ag then (if off+k<=cs.length then some (.agg ((cs.drop off).take k)) else none) else cs[off]?
theorem yd {v:AV} (h:cs[off]?=some v):ldC false k off cs=some v:=h
theorem ldC_ag (h:Nat.ble (off+k) cs.length=true) (a:(cs.drop off).take k=cs'):ldC true k off cs=some (.agg cs'):=by
 simp only [ldC,uq,uF (sX h),a]

section
variable {P:Program} {o:Oper} {env:List AV} {h:AH} {L:List Blk} {M:List Nat}
theorem wy (b:o.op=.alloc t) (c:xW P t=some cs) (a:L.length=n):zr P o env (h.ext L M)=.ok (.ptr (h.blks.length+n) 0) (h.ext (L++[.cells cs]) M):=by
 rw [s_alloc b c,ext_new,<- a];simp [AH.ext]
theorem e_box {a a':AV} (c:o.op=.box t x) (i:yf env x=some a) (b:tyfix P t a=a') (g:a'.cells?=some cs) (m:L.length=n) :
  zr P o env (h.ext L M)=.ok (.ptr (h.blks.length+n) 0) (h.ext (L++[.cells cs]) M):=by
 rw [s_box c i b g,ext_new,<- m];simp [AH.ext]
theorem yG {v:AV} (b:o.op=.load t x) (i:Ty P t d k) (m:yf env x=some (.ptr (h.blks.length+j) off)) (c:L[j]?=some (.cells cs))
  (g:ldC (yg d) k off cs=some v) (a:tyfix P t v=v'):zr P o env (h.ext L M)=.ok v' (h.ext L M):=by
 refine s_load b i m ?_ a;simp only [aLoad,yI,c];exact g
theorem f_load {v:AV} (b:o.op=.load t x) (g:Ty P t d k) (i:yf env x=some (.fptr cs))
  (c:ldC (yg d) k 0 cs=some v) (a:tyfix P t v=v'):zr P o env h=.ok v' h:=by
 refine s_load b g i ?_ a;simp only [aLoad];simpa only [ldC,uT,sq] using c
theorem zQ {y:Operand} {vs:List AV} {b a:AV} (g:o.op=.store t x y) (q:Ty P t d k) (u:yf env x=some (.ptr (h.blks.length+j) off)) (p:yf env y=some b)
  (c:tyfix P t b=a) (s:a.cells?=some vs) (m:vs.length=k) (i:L[j]?=some (.cells cs)) (r:Nat.ble (off+k) cs.length=true) (hs:yD cs off vs=cs'):zr P o env (h.ext L M)=.ok aundef (h.ext (L.set j (.cells cs')) M):=by
 refine s_store g q u p c ?_;simp only [aStore,s,yI,i];rw [uF ⟨m,sX r⟩,vk,hs]
end
theorem wk_ext2 {h:AH} {L0 L1 L':List Blk} {M0 M1 M':List Nat} {env:List AV} (p:zG (h.blks.length+L0.length) (h.toks.length+M0.length) env=true) (s:L'.take L0.length=L1) (q:M'.take M0.length=M1)
  (r:∀(i:Nat) (k:Blk),L1[i]?=some k->L0[i]?=some k \/ k.low (h.blks.length+L0.length) (h.toks.length+M0.length)=true) :
  wk (h.ext L0 M0) env (h.ext L' M') env (h.ext L1 M1):=by
 have b:(h.ext L0 M0).blks.length=h.blks.length+L0.length:=by simp [AH.ext]
 have c:(h.ext L0 M0).toks.length=h.toks.length+M0.length:=by simp [AH.ext]
 have:=wk.cut (hd:=h.ext L0 M0) (env:=env) (h:=h.ext L' M') (by rw [b,c];exact p) (λi k hi a=>by
  rw [b] at hi;rw [b,c];simp only [AH.ext] at a ⊢;rcases t6 i h.blks.length with g | g
  ·rw [uo g] at a ⊢;exact .inl a
  ·rw [un g] at a ⊢;exact r (i - h.blks.length) k (by grind))
 have m:(h.ext L' M').cut (h.ext L0 M0).blks.length (h.ext L0 M0).toks.length=h.ext L1 M1:=by
  rw [b,c];simp only [AH.cut,AH.ext,tO,uS,s,q];rw [uQ (l:=h.blks) (by omega),uQ (l:=h.toks) (by omega)]
 rw [m] at this;exact this
theorem e_range {P:Program} {o:Oper} {env:List AV} {h:AH} {L:List Blk} {M:List Nat} {s:List UInt8} (a:o.op=.range t x) (g:Ty P t .string k) (i:yf env x=some (.str s)) (m:L.length=n) :
  zr P o env (h.ext L M)=.ok (.ptr (h.blks.length+n) 0) (h.ext (L++[.siter s 0]) M):=by
 obtain ⟨c,b⟩:=zR i;simp only [zr,a,c,uq,g.u,b,ext_new,<- m];simp [AH.ext]
theorem ops_next {P:Program} {b:Array Oper} {Q:List AV->AH->Prop} {o:Oper} {rest:List Oper} {env:List AV} {w:List AV} {u:List AV} {h:AH} {L:List Blk} {M:List Nat} {s:List UInt8} {a:Nat} (q:aG b o env=some true) (v:o.op=.next x true)
  (A:yf env x=some (.ptr (h.blks.length+j) 0)) (y:L[j]?=some (.siter s a)) (m:xV o.dst env (.tup [.bool true,.int .i64 a,.int .i32 (dec s a).1])=some w) (c:xV o.dst env (.tup [.bool false])=some u)
  (i:a < s.length->zJ P b Q rest w (h.ext (L.set j (.siter s (a+(dec s a).2))) M)) (g:s.length<=a->zJ P b Q rest u (h.ext L M)):zJ P b Q (o::rest) env (h.ext L M):=by
 obtain ⟨r,p⟩:=zR A;by_cases hp:a < s.length
 ·refine zc q ?_ m (i hp);simp only [zr,v,r,te,uq,p,aNext,yI,y,hp,vk]
 ·refine zc q ?_ c (g (by omega));simp only [zr,v,r,te,uq,p,aNext,yI,y,hp,uK]
section
variable {P:Program} {env:List AV} {h:AH} {rs:List ResultVar} {vs:List AV}
theorem qd:qa P env h []=some []:=rfl
theorem wS {t:Nat} {v:AV} (b:yf env (.tmp t)=some v) (k:qa P env h rs=some vs):qa P env h (.tmp t::rs)=some (v::vs):=by
 have a:env.getD t aundef=v:=by rw [uu,show env[t]?=some v from b];rfl
 simp only [qa,k,a]
theorem rl_cell {a t:Nat} {L:List Blk} {M:List Nat} {v:AV} (c:Ty P t d k) (g:yf env (.tmp a)=some (.ptr (h.blks.length+j) 0)) (m:L[j]?=some (.cells cs)) (p:ldC (yg d) k 0 cs=some v) (w:tyfix P t v=v')
  (r:qa P env (h.ext L M) rs=some vs):qa P env (h.ext L M) (.cell a t::rs)=some (v'::vs):=by
 have b:env.getD a aundef=.ptr (h.blks.length+j) 0:=by rw [uu,show env[a]?=some _ from g];rfl
 obtain ⟨i,s,q⟩:=c.i;simp only [qa,c.u,s,q,b,aLoad,yI,m,r];have e:(if yg d then if 0+k<=cs.length then some (AV.agg ((cs.drop 0).take k)) else none else cs[0]?)=some v:=p
 simp_all
theorem q_retL1 {K:AV->AH->Prop} {h0:AH} {v:AV} (c:fn.results=⟨rs⟩) (b:qa P env h rs=some [v]) (a:finK h0 K v h):bodyQ P fn h0 K .ret env h:=by
 simp only [bodyQ,aRes,c,b];exact a
theorem q_retL {K:AV->AH->Prop} {h0:AH} {v w:AV} {r:List AV} (c:fn.results=⟨rs⟩) (b:qa P env h rs=some (v::w::r)) (a:finK h0 K (.tup (v::w::r)) h):bodyQ P fn h0 K .ret env h:=by
 simp only [bodyQ,aRes,c,b];exact a
end
theorem fin_ext {h:AH} {L:List Blk} {M:List Nat} {K:AV->AH->Prop} {v:AV} (b:leV v v') (c:v'.low h.blks.length h.toks.length=true) (a:K v' h):finK h K v (h.ext L M):=by
 refine fin_cut b c (λi k hi a=>.inl ?_) (by rw [ext_cut];exact a);simp only [AH.ext] at a
 grind
theorem zb {P : Program} {c : Code} (hf : P.funcs[f]? = some fn) (hb : fn.body = some c) (hname : (fn.name == "runtime.NumGoroutine") = false) {args : List AV} {h : AH} {K : AV → AH → Prop} {env : List AV}
  (he:args++List.replicate (fn.ntmps - args.length) aundef=env) (hw:wH P c (bodyQ P fn h K) env (h.ext [] [])):Spec P f args h K:=by
 rw [ext_nil] at hw;exact spec_of_body hf hb hname (by simp_all)
theorem yR (hd:yg d=true) {k off:Nat} {cs cs':List AV} (h:Nat.ble (off+k) cs.length=true) (a:(cs.drop off).take k=cs'):ldC (yg d) k off cs=some (.agg cs'):=by
 rw [hd];exact ldC_ag h a
theorem mkTy {P:Program} (a:P.underlying t=some d) (hi:(P.info? t).map (λi=>i.size)=some k):Ty P t d k:=by
 refine ⟨a,?_⟩
 simp_all
theorem qG {P:Program} {u:TypeId} {f:Nat} (a:fieldOff P t f=some (off,u)) (hi:(P.info? u).map (λi=>i.size)=some k):Fo P t f off u k:=by
 refine ⟨a,?_⟩
 simp_all
theorem mkEl {P:Program} (a:P.underlying t=some (.slice e)) (hi:(P.info? e).map (λi=>(i.size,decide (i.bytes<=65536)&&decide (0 < k)&&(i.zero.map (·.cells.size))==some k))=some (k,true)):El P t e k:=by
 refine ⟨a,?_⟩;cases h:P.info? e with
 | none=>rw [h] at hi;cases hi
 | some i =>
  simp_all
theorem w64 {n:Int} (h:-9223372036854775808<=n/\n<=9223372036854775807):IntKind.i64.wrap n=n:=by rw [IntKind.wrap_i64];omega
theorem yF {n m:Int} (e:n=m) (h:-9223372036854775808<=n/\n<=9223372036854775807):AV.int .i64 (IntKind.i64.wrap n)=.int .i64 m:=by rw [w64 h,e]
theorem zV {env:List AV}:argo env [] []=some []:=rfl
theorem zu {env:List AV} {r:List Operand} {ts:List TypeId} {v:AV} {l:List (TypeId×AV)} (h:yf env x=some v) (k:argo env r ts=some l):argo env (x::r) (t::ts)=some ((t,v)::l):=by
 simp only [argo,h,k]
theorem zZ (h:n<=maxLen):n<=9223372036854775807:=h
theorem Spec.le {P:Program} {a5 bs:List AV} {h:AH} {K:AV->AH->Prop} (s:Spec P f bs h K) (k:leL a5 bs):Spec P f a5 h K :=
 ⟨s.1,λB w0 _ g w vs r a=>s.2 B w0 g w vs r (k _ _ a)⟩
abbrev plainK2:=xE
structure PK (P:Program) (t:TypeId) (ks:List Kd):Prop where
 g:P.eqGuardType P.depth t=false
 a:(P.underlying t).any yg=true
 k:xE P 6 t=some ks
theorem mkPK {P:Program} (a:P.eqGuardType P.depth t=false) (b:(P.underlying t).any yg=true) (c:plainK2 P 6 t=some ks):PK P t ks:=⟨a,b,c⟩
theorem bin_eq {P:Program} {b:Bool} (c:PK P t ks) (h:qr ks cs ds=some b):yx P .eql t (.agg cs) (.agg ds)=some (.bool b):=by
 simp only [yx,aEq,c.g,c.a,c.k,r6,r5,uq,h,u5]
theorem bin_ne {P:Program} {b:Bool} (c:PK P t ks) (h:qr ks cs ds=some b):yx P .neq t (.agg cs) (.agg ds)=some (.bool !b):=by
 simp only [yx,aEq,c.g,c.a,c.k,r6,r5,uq,h,u5]
structure PKA (P:Program) (t:TypeId) (ks:List Kd):Prop where
 g:P.eqGuardType P.depth t=false
 a:(P.underlying t).any yg=true
 k:(xE P 6 t).or (arrKs P t)=some ks
def parto (env:List AV):List (Nat×Operand)->Option (List (Nat×AV))
 | []=>some []
 | (i,x)::r=>match yf env x,parto env r with
  | some v,some vs=>some ((i,v)::vs)
  | _,_=>none
theorem zq {env:List AV}:parto env []=some []:=rfl
theorem zk {env:List AV} {i:Nat} {r:List (Nat×Operand)} {v:AV} (h:yf env x=some v) (k:parto env r=some l):parto env ((i,x)::r)=some ((i,v)::l):=by simp only [parto,h,k]
inductive Fp (P:Program) (d:TypeDesc):List (Nat×AV)->List (Nat×AV)->Prop
 | nil:Fp P d [] []
 | cons {i:Nat} {v v':AV} {r s:List (Nat×AV)}:tyfix P (partTy d i) v=v'->Fp P d r s->Fp P d ((i,v)::r) ((i,v')::s)
theorem parts_ok {P:Program} {d:TypeDesc} {env:List AV}:∀{parts:List (Nat×Operand)} {l l':List (Nat×AV)},parto env parts=some l->Fp P d l l' ->
  parts.all (λp=>yi p.2)=true/\parts.map (λp=>(p.1,tyfix P (partTy d p.1) (ev env p.2)))=l'
 | [],l,l',h,hf=>by simp only [parto,uk] at h;subst h;cases hf;exact ⟨rfl,rfl⟩
 | (i,x)::r,l,l',h,hf=>by
  simp only [parto] at h;split at h
  ·rename_i v vs b a;cases h;cases hf with
   | cons h1 h2 =>
    obtain ⟨q,g⟩:=parts_ok a h2;obtain ⟨m,c⟩:=zR b
    grind
  ·cases h
theorem yQ {P:Program} {o:Oper} {env:List AV} {h:AH} {parts:List (Nat×Operand)} {fs:Array Field} {pl:List (Nat×Nat)} (q:o.op=.build t ⟨parts⟩) (s:P.underlying t=some (.struct fs)) (c:xW P t=some z)
  (g:qQ P fs=some pl) (r:parto env parts=some l) (m:Fp P (.struct fs) l l') (v:vA (λi=>pl[i]?) z l'=some cs) (u:cs=cs'):zr P o env h=.ok (.agg cs') h:=by
 obtain ⟨w,b⟩:=parts_ok r m;have a:(⟨parts⟩:Array (Nat×Operand)).all (λp=>yi p.2)=true:=by grind
 simp only [zr,q,a,uq,s,c,g,xc,b,v,u5,oo,u]
theorem zw {P:Program} {o:Oper} {env:List AV} {h:AH} {parts:List (Nat×Operand)} {es:List (List AV)} (w:o.op=.buildSlice t n ⟨parts⟩) (c:El P t e k) (s:xW P e=some z)
  (m:Nat.ble (n * k) 65536=true) (a:z.length=k) (y:parto env parts=some l) (v:Fp P (.slice e) l l') (C:vA (λi=>some (i * k,k)) ((List.replicate n z).flatten) l'=some cs) (D:xp cs=some cs') (A:rows k n cs'=es) :
  zr P o env h=.ok (.osl none k es) h:=by
 obtain ⟨E,g⟩:=parts_ok y v;obtain ⟨j,B,q,_,r,_⟩:=c.i;have b:(⟨parts⟩:Array (Nat×Operand)).all (λp=>yi p.2)=true:=by grind
 simp only [zr,w,b,uq,c.u,s,B,q,xc,g,C,D,A,r,sX m,a,r5]
end Go.Vv
namespace Go.Vv
open Go
variable {i:Nat} {c:Operand} {body:Code} {N:List AV->AH->Prop}

abbrev zd:=List UInt8
def InK (k:IntKind) (n:Int):Prop:=k.min<=n/\n<=k.max
inductive Out (ρ σ:Type) where
 | ret (r:ρ)
 | brk (s:σ)
 | nxt (s:σ)
section
variable {α ρ σ:Type}
def zg (f:Nat->α->σ->Option (Out ρ σ)):List α->Nat->σ->Option (ρ ⊕ σ)
 | [],_,s=>some (.inr s)
 | x::t,i,s=>match f i x s with
  | none=>none
  | some (.ret r)=>some (.inl r)
  | some (.brk s')=>some (.inr s')
  | some (.nxt s')=>zg f t (i+1) s'
def vu (f:σ->Option (Out ρ σ)):Nat->σ->Option (ρ ⊕ σ)
 | 0,_=>none
 | n+1,s=>match f s with
  | none=>none
  | some (.ret r)=>some (.inl r)
  | some (.brk s')=>some (.inr s')
  | some (.nxt s')=>vu f n s'
theorem loopN_more {f:σ->Option (Out ρ σ)}:∀{n m:Nat} {s:σ} {o:ρ ⊕ σ},vu f n s=some o->n<=m->vu f m s=some o
 | 0,_,_,_,h,_=>by simp [vu] at h
 | n+1,0,_,_,_,hl=>by omega
 | n+1,m+1,s,o,h,hl=>by
  simp only [vu] at h ⊢;rcases hf:f s with _ | (r | a | a) <;> rw [hf] at h <;> simp only at h ⊢
  ·cases h
  ·exact h
  ·exact h
  ·exact loopN_more h (by omega)
open Classical in
noncomputable def yX (f:σ->Option (Out ρ σ)) (s:σ):Option (ρ ⊕ σ) :=
 if h:∃n o,vu f n s=some o then some (Classical.choose (tL h)) else none
theorem loopW_of {f:σ->Option (Out ρ σ)} {n:Nat} {s:σ} {o:ρ ⊕ σ} (h:vu f n s=some o):yX f s=some o:=by
 have a:∃n o,vu f n s=some o:=⟨n,o,h⟩
 unfold yX;rw [pu a];have b:=tL (tL a);have d:=loopN_more b (Nat.le_max_left _ n);have e:=loopN_more h (Nat.le_max_right (Classical.choose a) n)
 grind
theorem loopW_is {f:σ->Option (Out ρ σ)} {s:σ} {o:ρ ⊕ σ} (h:yX f s=some o):∃n,vu f n s=some o:=by
 unfold yX at h;split at h
 ·grind
 ·cases h
theorem xi (f:σ->Option (Out ρ σ)) (s:σ):yX f s=match f s with
  | none=>none
  | some (.ret r)=>some (.inl r)
  | some (.brk b)=>some (.inr b)
  | some (.nxt b)=>yX f b:=by
 rcases hf:f s with _ | (r | b | b) <;> simp only
 ·cases hx:yX f s with
  | none=>rfl
  | some o =>
   obtain ⟨n,a⟩:=loopW_is hx;cases n <;> simp [vu,hf] at a
 ·exact loopW_of (n:=1) (by simp only [vu,hf])
 ·exact loopW_of (n:=1) (by simp only [vu,hf])
 ·cases hx:yX f b with
  | some o =>
   obtain ⟨n,a⟩:=loopW_is hx;exact loopW_of (n:=n+1) (by simp only [vu,hf];exact a)
  | none =>
   cases hy:yX f s with
   | none=>rfl
   | some o =>
    obtain ⟨n,a⟩:=loopW_is hy;cases n with
    | zero=>simp [vu] at a
    | succ n =>
     simp only [vu,hf] at a;rw [loopW_of a] at hx;cases hx
def lp (o:Option (ρ ⊕ σ)) (rest:σ->Option ρ):Option ρ :=
 match o with
 | none=>none
 | some (.inl r)=>some r
 | some (.inr s)=>rest s
def yw (p:Prop) [Decidable p] (o:Option ρ):Option ρ:=if p then o else none
def xe (L:List α) (n:Int):Option α:=if 0<=n then L[n.toNat]? else none
def slc (L:List α) (lo hi:Int):Option (List α):=if 0<=lo/\lo<=hi/\hi<=L.length then some ((L.take hi.toNat).drop lo.toNat) else none

theorem zi {α ρ:Type} {o:Option α} {k:α->Option ρ} {r:ρ} {G:Prop} (a:o.bind k=some r) (b:∀v,o=some v->k v=some r->G):G:=by
 cases o with
 | none=>cases a
 | some v=>exact b v rfl a
theorem zN {α ρ:Type} {b:Bool} {d:α} {o:Option α} {k:α->Option ρ} {r:ρ} {G:Prop} (a:(if b=true then o else some d).bind k=some r) (e:∀v,(b=true->o=some v)->k v=some r->G):G:=by
 cases b with
 | false=>exact e d (λh=>by cases h) a
 | true =>
  cases o with
  | none=>cases a
  | some v=>exact e v (λ_=>rfl) a
theorem yj {p:Prop} [Decidable p] {o:Option ρ} {r:ρ} {G:Prop} (a:yw p o=some r) (b:p->o=some r->G):G:=by
 unfold yw at a
 simp_all
theorem idxF {L:List α} {n:Int} {y:α} (h:xe L n=some y):0<=n/\L[n.toNat]?=some y:=by
 unfold xe at h
 simp_all
theorem slcF {L M:List α} {lo hi:Int} (h:slc L lo hi=some M):(0<=lo/\lo<=hi/\hi<=L.length)/\M=(L.take hi.toNat).drop lo.toNat:=by
 unfold slc at h
 simp_all

def konL (f:Nat->α->σ->Option (Out ρ σ)) (L:List α) (i:Nat) (rest:σ->Option ρ):Out ρ σ->Option ρ
 | .ret r=>some r
 | .brk s=>rest s
 | .nxt s=>lp (zg f (L.drop (i+1)) (i+1) s) rest
def konN (f:σ->Option (Out ρ σ)) (n:Nat) (rest:σ->Option ρ):Out ρ σ->Option ρ
 | .ret r=>some r
 | .brk s=>rest s
 | .nxt s=>lp (vu f n s) rest
def konJ (rest:σ->Option ρ):ρ ⊕ σ->Option ρ
 | .inl r=>some r
 | .inr s=>rest s
theorem loopL_step {f:Nat->α->σ->Option (Out ρ σ)} {L:List α} {s:σ} {rest:σ->Option ρ} {d:ρ} (h:lp (zg f (L.drop i) i s) rest=some d) (b:i < L.length) :
  ∃x g,L[i]?=some x/\f i x s=some g/\konL f L i rest g=some d:=by
 have e:=(sV b).symm;rw [e] at h;refine ⟨L[i],?_⟩;simp only [zg] at h;split at h
 ·cases h
 ·rename_i r a;exact ⟨.ret r,ug b,a,h⟩
 ·rename_i r a;exact ⟨.brk r,ug b,a,h⟩
 ·rename_i r a;exact ⟨.nxt r,ug b,a,h⟩
theorem loopL_end {f:Nat->α->σ->Option (Out ρ σ)} {L:List α} {s:σ} {rest:σ->Option ρ} {a:ρ} (h:lp (zg f (L.drop i) i s) rest=some a) (b:¬ i < L.length):rest s=some a:=by
 rw [tq (by omega)] at h;exact h
theorem lpF {o:Option (ρ ⊕ σ)} {rest:σ->Option ρ} {b:ρ} (h:lp o rest=some b):∃a,o=some a/\konJ rest a=some b:=by
 cases o with
 | none=>cases h
 | some a=>cases a <;> exact ⟨_,rfl,h⟩
end
section
variable {P:Program} {Q:Exit->List AV->AH->Prop} {env:List AV} {h:AH} {α ρ σ:Type}
theorem zf {t e:Code} {b:Bool} {A B:Option ρ} {r:ρ} (g:yf env c=some (.bool b)) (j:(if b=true then A else B)=some r) (f:b=true->A=some r->wH P t Q env h) (d:b=false->B=some r->wH P e Q env h) :
  wH P (.cond c t e) Q env h:=by
 refine r_cond g (λa=>f a ?_) (λa=>d a ?_)
 ·simp_all
 ·simp_all
theorem zL {f:Nat->α->σ->Option (Out ρ σ)} {L:List α} {s:σ} {rest:σ->Option ρ} {a:ρ} {t e:Code} (l:yf env c=some (.bool (decide ((i:Int) < (L.length:Int))))) (j:lp (zg f (L.drop i) i s) rest=some a)
  (o:∀x g,i < L.length->L[i]?=some x->f i x s=some g->konL f L i rest g=some a->wH P t Q env h) (k:rest s=some a->wH P e Q env h):wH P (.cond c t e) Q env h:=by
 refine r_cond l (λd=>?_) (λd=>?_)
 ·have b:i < L.length:=by have:=u9 d;omega
  obtain ⟨x,g,n,m,p⟩:=loopL_step j b
  simp_all
 ·have b:¬ i < L.length:=by have:=of_decide_eq_false d;omega
  exact k (loopL_end j b)
theorem zB {f:Nat->α->σ->Option (Out ρ σ)} {L:List α} {j:σ} {rest:σ->Option ρ} {g:ρ} (U:Nat->σ->List (Nat×AV)) (H:σ->AH) (k:lp (zg f L 0 j) rest=some g) {E:Nat->σ->List AV}
  (o:∀i s,x5 env (U i s)=E i s) (h0:wk h env h (E 0 j) (H j))
  (hs:∀i s,i<=L.length->lp (zg f (L.drop i) i s) rest=some g->wH P body (loopQ (λa d=>∃b,i < L.length/\lp (zg f (L.drop (i+1)) (i+1) b) rest=some g/\wk (H s) a d (E (i+1) b) (H b)) Q) (E i s) (H s)) :
  wH P (.loop body) Q env h:=by
 refine r_loop (σ:=Nat×σ) (λp=>E p.1 p.2) (λp=>H p.2) (λp=>p.1<=L.length/\lp (zg f (L.drop p.1) p.1 p.2) rest=some g) (λp=>L.length - p.1) (0,j) h0 ⟨tK _,k⟩ ?_
 rintro ⟨i,s⟩ ⟨hi,k⟩
 have:=hs i s hi k;have e:(loopQ (λa d=>∃b,i < L.length/\lp (zg f (L.drop (i+1)) (i+1) b) rest=some g/\wk (H s) a d (E (i+1) b) (H b)) Q) =
  λx a d=>match x with | .normal=>∃b,i < L.length/\lp (zg f (L.drop (i+1)) (i+1) b) rest=some g/\wk (H s) a d (E (i+1) b) (H b) | x=>Q x a d:=rfl
 refine va ?_ _ _ _ this;intro x a d l;cases x with
 | normal =>
  obtain ⟨b,n,m,q⟩:=l;exact ⟨(i+1,b),⟨n,m⟩,by omega,q⟩
 | _=>exact l
theorem vt {f:σ->Option (Out ρ σ)} {k:σ} {rest:σ->Option ρ} {e:ρ} (U:σ->List (Nat×AV)) (H:σ->AH) (a:lp (yX f k) rest=some e) {E:σ->List AV}
  (v:∀s,x5 env (U s)=E s) (h0:wk h env h (E k) (H k))
  (hs:∀n s d,f s=some d->konN f n rest d=some e->wH P body (loopQ (λb q=>∃g,lp (vu f n g) rest=some e/\wk (H s) b q (E g) (H g)) Q) (E s) (H s)) :
  wH P (.loop body) Q env h:=by
 obtain ⟨u,o⟩:∃n,lp (vu f n k) rest=some e:=by
  obtain ⟨d,j,m⟩:=lpF a;obtain ⟨n,w⟩:=loopW_is j
  grind
 refine r_loop (σ:=Nat×σ) (λp=>E p.2) (λp=>H p.2) (λp=>lp (vu f p.1 p.2) rest=some e) (λp=>p.1) (u,k) h0 o ?_
 rintro ⟨n,s⟩ a
 cases n with
 | zero=>simp [vu,lp] at a
 | succ n =>
  obtain ⟨d,j,m⟩:∃d,f s=some d/\konN f n rest d=some e:=by
   simp only [vu] at a;split at a
   ·cases a
   ·rename_i r l;exact ⟨.ret r,l,a⟩
   ·rename_i r l;exact ⟨.brk r,l,a⟩
   ·rename_i r l;exact ⟨.nxt r,l,a⟩
  refine va ?_ _ _ _ (hs n s d j m);intro x b q t;cases x with
  | normal =>
   obtain ⟨g,j,m⟩:=t;exact ⟨(n,g),j,by omega,m⟩
  | _=>exact t
def joinQ (h0:AH) (N:List AV->AH->Prop) (Q:Exit->List AV->AH->Prop):Exit->List AV->AH->Prop:=λx env' h'=>match x with
 | .normal=>N env' h'
 | x=>Q x env' h'
theorem r_join {a b:Code} {J:Option (ρ ⊕ σ)} {rest:σ->Option ρ} {e:ρ} (U:σ->List (Nat×AV)) (H:σ->AH) (r:lp J rest=some e) {E:σ->List AV} (l:∀s,x5 env (U s)=E s)
  (k:∀f,J=some f->konJ rest f=some e->wH P a (joinQ h (λd g=>∃s,rest s=some e/\wk h d g (E s) (H s)) Q) env h)
  (q:∀s,rest s=some e->wH P b Q (E s) (H s)):wH P (.seq a b) Q env h:=by
 obtain ⟨f,o,m⟩:=lpF r;refine zW (va ?_ _ _ _ (k f o m));intro x d g j;cases x with
 | normal =>
  obtain ⟨s,p,n⟩:=j;exact ⟨_,_,n,q s p⟩
 | _=>exact j
theorem q_join {h0:AH} (a:N env h):joinQ h0 N Q .normal env h:=a
theorem q_join_ret {h0:AH} (a:Q .ret env h):joinQ h0 N Q .ret env h:=a
end
end Go.Vv
namespace Go.Vv
open Go
variable {q:Option Nat} {k id m j off:Nat} {i x y:Operand} {n:Int} {t e u e':TypeId} {a:AV} {b:Blk} {ρ:Type} {ops:Array Oper} {Q:List AV->AH->Prop} {rest l:List Oper} {env' cs cs':List AV} {B L' B':List Blk} {T T' Ns M' M1:List Nat} {F:Nat->AH->Prop} {f:FuncId} {g:Gh} {hd:AH} {w0 w:World} {K:AV->AH->Prop}

abbrev zC (s:zd):List AV:=[.str s]
def byteRow (b:UInt8):List AV:=[.int .u8 b.toNat]
abbrev intRow (k:IntKind) (n:Int):List AV:=[.int k n]
abbrev boolRow (b:Bool):List AV:=[.bool b]
def IsSl {α:Type} (a:AV) (z:Nat) (row:α->List AV) (L:List α):Prop:=a=.sl z (L.map row) \/ ∃q,a=.osl q z (L.map row)
section
variable {α:Type} {row:α->List AV} {L M:List α} {z:Nat}
theorem isl:IsSl (.sl z (L.map row)) z row L:=.inl rfl
theorem iosl:IsSl (.osl q z (L.map row)) z row L:=.inr ⟨_,rfl⟩
theorem vH {f:α->List AV} {L:List α}:aLen (.sl k (L.map f))=some L.length:=by simp [aLen]
theorem lenMapO {f:α->List AV} {L:List α}:aLen (.osl q k (L.map f))=some L.length:=by simp [aLen]
theorem zF {i:Nat} {x:α} (h:L[i]?=some x):xe L (i:Int)=some x:=by
 unfold xe;rw [uF (by omega),uM];exact h
end
theorem byte_of (h:0<=n/\n < 256):((UInt8.ofNat n.toNat).toNat:Int)=n:=by
 rw [UInt8.toNat_ofNat'];omega
theorem bin_boolE {P:Program} {a b:Bool} (c:Ty P t .bool k):yx P .eql t (.bool a) (.bool b)=some (.bool (a==b)):=by simp only [yx,aEq,c.u,u5]
theorem wn {P:Program} {a b:Bool} (c:Ty P t .bool k):yx P .neq t (.bool a) (.bool b)=some (.bool !(a==b)):=by simp only [yx,aEq,c.u,u5]
set_option maxHeartbeats 4000000 in
set_option maxHeartbeats 4000000 in
open Classical in
noncomputable def nilq {α:Type} (L:List α) (f:Bool->Option ρ):Option ρ:=if L=[]/\f true ≠ f false then none else f false
theorem nilqF {α:Type} {L:List α} {f:Bool->Option ρ} {r:ρ} (h:nilq L f=some r):f false=some r/\(L=[]->f true=some r):=by
 unfold nilq at h
 simp_all
theorem nilq_of {α:Type} {L:List α} {f:Bool->Option ρ} {r:ρ} (d:f false=some r) (c:L=[]->f true=some r):nilq L f=some r:=by
 unfold nilq
 simp_all
theorem vV {P:Program} {o:Oper} {env:List AV} {env':Bool->List AV} {h:AH} {z:Nat} {α:Type} {row:α->List AV} {L:List α} {f:Bool->Option ρ} {r:ρ} (H:aG ops o env=some true)
  (E:o.op=.binOp .eql t x y u) (A:El P t e k) (S:yf env x=some a) (U:IsSl a z row L) (R:yf env y=some .nilsl) (hd:∀b:Bool,xV o.dst env (.bool b)=some (env' b)) (N:nilq L f=some r)
  (I:∀b,(b=true->L=[])->f b=some r->zJ P ops Q rest (env' b) h):zJ P ops Q (o::rest) env h:=by
 obtain ⟨D,s⟩:=zR S;obtain ⟨G,C⟩:=zR R;obtain ⟨O,p⟩:=nilqF N;have key:∀b,(b=true->L.map row=[])->zJ P ops Q rest (env' b) h:=λb d=>by
  have c:b=true->L=[]:=λh=>by simp_all
  refine I b c ?_;cases b with
  | false=>exact O
  | true=>exact p (c rfl)
 refine vd ?_;simp only [H,gwp];rcases U with rfl | ⟨q,rfl⟩
 ·simp only [zr,E,D,G,te,uq,s,C,aNilq,A.u,rwp]
  rintro v J ⟨rfl,b,rfl,d⟩
  rw [yO (hd b)];exact key b d
 ·simp only [zr,E,D,G,te,uq,s,C,aNilq,A.u,rwp]
  rintro v J ⟨rfl,b,rfl,d⟩
  rw [yO (hd b)];exact key b d
section
variable {P:Program} {o:Oper} {env:List AV} {h:AH} {α:Type} {row:α->List AV} {L:List α}
theorem qX {k:IntKind} {z:Nat} {y:α} (p:o.op=.indexAddr t x i) (s:El P t e z) (v:yf env x=some a) (hi:yf env i=some (.int k n)) (r:IsSl a z row L) (d:xe L n=some y) :
  zr P o env h=.ok (.fptr (row y)) h:=by
 obtain ⟨h0,d⟩:=idxF d;refine s_indexAddr p s v hi ?_;have c:(L.map row)[n.toNat]?=some (row y):=by simp_all
 rcases r with rfl | ⟨q,rfl⟩ <;> simp only [vI,h0,r5,uq,c,u5]
theorem yh {k:IntKind} {z:Nat} {y:α} (c:o.op=.indexAddr t x i) (r:El P t e z) (v:yf env x=some a) (hi:yf env i=some (.int k n)) (d:IsSl a z row L) (p:xe L n=some y) (s:row y=cs) :
  zr P o env h=.ok (.fptr cs) h:=by rw [<- s];exact qX c r v hi d p
theorem s_gidxRow {k:IntKind} {z:Nat} (d:α) (c:o.op=.indexAddr t x i) (r:El P t e z) (s:yf env x=some a) (hi:yf env i=some (.int k n)) (p:IsSl a z row L) (v:0<=n/\n < L.length) :
  zr P o env h=.ok (.fptr (row (L.getD n.toNat d))) h:=by
 refine qX c r s hi p ?_;unfold xe
 simp_all
theorem wu {k:IntKind} {z:Nat} (d:α) (c:o.op=.indexAddr t x i) (r:El P t e z) (v:yf env x=some a) (hi:yf env i=some (.int k n)) (p:IsSl a z row L) (A:0<=n/\n < L.length)
  (s:row (L.getD n.toNat d)=cs):zr P o env h=.ok (.fptr cs) h:=by rw [<- s];exact s_gidxRow d c r v hi p A
theorem s_idxStr {s:zd} {k:IntKind} {z:Nat} {b:UInt8} (d:o.op=.index t x i) (p:Ty P t .string z) (r:yf env x=some (.str s)) (hi:yf env i=some (.int k n)) (c:xe s n=some b) :
  zr P o env h=.ok (.int .u8 b.toNat) h:=by
 obtain ⟨h0,c⟩:=idxF c;refine s_indexStr d p r hi ?_;simp only [aIndexStr,h0,uq,c,u5]
inductive Bd (env:List AV):Option Operand->Int->Int->Prop
 | none {d:Int}:Bd env none d d
 | some {x:Operand} {k:IntKind} {n d:Int}:yf env x=some (.int k n)->Bd env (some x) d n
theorem Bd.all {x:Option Operand} {d n:Int} (h:Bd env x d n):x.all yi=true:=by
 cases h with
 | none=>rfl
 | some h=>exact (zR h).1
theorem Bd.ab {x:Option Operand} {d:Nat} (h:Bd env x d n) (h0:0<=n):aBound d (x.map (ev env))=Option.some n.toNat:=by
 cases h with
 | none=>rfl
 | some h=>simp only [u5,(zR h).2,aBound,uF h0]
theorem wi {lo hi:Option Operand} {M:List α} {l hh:Int} {z:Nat} (H:o.op=.slice t x lo hi none) (r:El P t e z) (J:yf env x=some a) (O:a=.sl z (L.map row) \/ ∃q,a=.osl q z (L.map row)/\(hi.isSome=true \/ q.isSome=true)) (v:Bd env lo 0 l) (c:Bd env hi L.length hh)
  (C:slc L l hh=some M):zr P o env h=.ok (.sl z (M.map row)) h:=by
 obtain ⟨⟨h0,S,R⟩,rfl⟩:=slcF C;obtain ⟨I,D⟩:=zR J;obtain ⟨i,E,N,_⟩:=r.i;have A:=Bd.ab (d:=0) v h0;have s:=Bd.ab (d:=L.length) c (by omega);simp only [zr,H,I,v.all,c.all,Option.all_none,te,uq,r.u,D,E,N,Option.map_none];rcases O with rfl | ⟨q,rfl,p⟩
 ·simp only [tyfix,uq,aSlice,aSliceSl,A,uA,s,s9,ul,uK];rw [uF (by omega)];simp only [oo,List.map_drop,pg]
 ·simp only [tyfix,uq,aSlice,aSliceSl,A,uA,s];rw [uF (by omega)];have G:(q.isNone&&(hi.map (ev env)).isNone)=false:=by
   rcases p with p | p
   ·simp_all
   ·cases q <;> simp_all
  simp only [G,ul,uK,oo,List.map_drop,pg]
theorem a_app {M:List α} {d:AH} (p:L.length+M.length<=yN) (c:h.grow q L.length M.length=some (id,d)):aAppend h k (.osl q k (L.map row)) (M.map row)=some (.osl (some id) k ((L++M).map row),d):=by
 simp only [aAppend,uA];by_cases h0:M.length=0
 ·have:M=[]:=uO h0;subst this;rw [uF (show ([]:List α).length=0 from rfl)];cases q with
  | none =>
   simp only [AH.grow,uH,tH,uk,sn] at c
   simp_all
  | some id' =>
   simp only [AH.grow,uH,tH] at c;split at c
   ·rename_i r;simp only [uk,sn] at c;obtain ⟨rfl,rfl⟩:=c;have:h.toks.set id' L.length=h.toks:=by
     refine uW λj=>?_
     grind
    simp [this]
   ·cases c
 ·simp_all
variable {M:List α}
theorem e_appN {c:Call} {k':Nat} {b p:AV} (s:o.op=.call c) (H:c.callee=.builtin .append) (hs:c.args=#[x,y]) (G:c.argTypes=#[t,u]) (E:El P t e k)
  (d:El P u e' k') (J:yf env x=some a) (A:yf env y=some b) (v:tyfix P t a=.osl none k (L.map row)) (I:tyfix P u b=p) (N:qt k p=some (M.map row)) (C:L.length+M.length<=yN) (r:T.length=m) (D:T++[(L++M).length]=T') :
  zr P o env (h.ext B T)=.ok (.osl (some (h.toks.length+m)) k ((L++M).map row)) (h.ext B T'):=by
 refine s_append s H hs G E d J A v I N (a_app C ?_);subst D r;simp [AH.grow,AH.ext]
theorem yH {c:Call} {k':Nat} {b p:AV} (C:o.op=.call c) (N:c.callee=.builtin .append) (hs:c.args=#[x,y]) (r:c.argTypes=#[t,u]) (G:El P t e k)
  (d:El P u e' k') (H:yf env x=some a) (E:yf env y=some b) (J:tyfix P t a=.osl (some (h.toks.length+j)) k (L.map row)) (s:tyfix P u b=p) (I:qt k p=some (M.map row)) (D:L.length+M.length<=yN) (O:T[j]?=some L.length) (A:T.set j (L++M).length=T') :
  zr P o env (h.ext B T)=.ok (.osl (some (h.toks.length+j)) k ((L++M).map row)) (h.ext B T'):=by
 refine s_append C N hs r G d H E J s I (a_app D ?_);subst A;have v:(h.toks++T)[h.toks.length+j]?=some L.length:=by grind
 simp only [AH.grow,AH.ext,v,uq]
 simp_all
theorem xd:qt k (.sl k (M.map row))=some (M.map row):=by simp [qt]
theorem yq:qt k (.osl q k (M.map row))=some (M.map row):=by simp [qt]
end

theorem leL.app {a5 bs:List AV} {cs:List AV} (k:leL a5 bs):leL (a5++cs) (bs++cs):=λg vs hv=>by
 have hs:∀{a5:List AV} {vs:List Value},VL g (a5++cs) vs->∃us ws,vs=us++ws/\VL g a5 us/\VL g cs ws:=by
  intro a5
  induction a5 with
  | nil=>intro vs h;exact ⟨[],vs,rfl,by simp [VL],h⟩
  | cons a r ih =>
   intro vs h;simp only [tJ,VL] at h;obtain ⟨v,s,rfl,h1,h2⟩:=h;obtain ⟨us,ws,rfl,h3,h4⟩:=ih h2;exact ⟨v::us,ws,rfl,VL.cons h1 h3,h4⟩
 obtain ⟨us,ws,rfl,h1,h2⟩:=hs hv;exact VL.append (k _ _ h1) h2
theorem leL.pre {a5 bs:List AV}:∀{cs:List AV},leL a5 bs->leL (cs++a5) (cs++bs)
 | [],k=>k
 | _::_,k=>leL.eq (leL.pre k)
def keeps:List (Nat×Blk)->List Blk->Prop
 | [],_=>True
 | (j,b)::r,B=>B[j]?=some b/\keeps r B
theorem keeps1 {r:List (Nat×Blk)} (h:keeps ((j,b)::r) B):B[j]?=some b:=h.1
def lk:List (Nat×List (Nat×Blk))->Nat->List (Nat×Blk)
 | [],_=>[]
 | (m,l)::r,n=>if n=m then l else lk r n
def KeepB (h:AH) (l:List (Nat×Blk)) (x:AH):Prop:=∃B T,x=h.ext B T/\keeps l B
theorem yo {h:AH} {l:List (Nat×Blk)} (c:keeps l B):KeepB h l (h.ext B T):=⟨_,_,rfl,c⟩
def keepA:List (Nat×List (Nat×Blk))->List Blk->Prop
 | [],_=>True
 | (_,l)::r,B=>keeps l B/\keepA r B
theorem keepA_lk:∀{l:List (Nat×List (Nat×Blk))} {B:List Blk},keepA l B->∀n,keeps (lk l n) B
 | [],_,_,_=>trivial
 | (m,l)::r,B,h,n=>by
  simp only [lk];split
  ·exact h.1
  ·exact keepA_lk h.2 n
theorem FOk.all {b:Nat} {G:AH->Prop} {h:AH} (c:G h):FOk b Ns (λ_=>G) h:=λ_ _ _=>c
theorem FOk.nil {b:Nat} {h:AH}:FOk b [] F h:=λ_ h _=>by simp at h
theorem FOk.cons {b n:Nat} {h:AH} (c:b.testBit n=true \/ F n h) (d:FOk b Ns F h):FOk b (n::Ns) F h:=λm r p=>by
 rcases c with c | c
 ·by_cases e:m=n
  ·simp_all
  ·exact d m (by simp_all) p
 ·by_cases e:m=n
  ·simp_all
  ·exact d m (by simp_all) p
abbrev rsA (h:AH) (i j k n:Nat):AV:=.rsl (h.blks.length+i) (h.toks.length+j) k n
abbrev osA (h:AH) (j k:Nat) (es:List (List AV)):AV:=.osl (some (h.toks.length+j)) k es
abbrev rwA (h:AH) (j k:Nat) (es:List (List AV)):Blk:=.row (h.toks.length+j) k es
theorem yl {P:Program} {Q:Exit->List AV->AH->Prop} {env:List AV} {h:AH} (Ns:List Nat) (c:List (Nat×List (Nat×Blk))) (r:keepA c B) (d:P.follows .mixedOrders=true) (hd:drawOk ⟨l⟩ Ns=true) (p:zT P ⟨l⟩ Ns (λn=>KeepB h (lk c n)) (Q .normal) 0 l env (h.ext B T)) :
  wH P (.region id ⟨l⟩ true) Q env (h.ext B T):=.inl ⟨Ns,λn=>KeepB h (lk c n),⟨d,hd⟩,λn=>yo (keepA_lk r n),p⟩
theorem r_drawnF {P:Program} {Q:Exit->List AV->AH->Prop} {env:List AV} {h:AH} (Ns:List Nat) (F:Nat->AH->Prop) (p:∀n,F n h) (c:P.follows .mixedOrders=true) (hd:drawOk ⟨l⟩ Ns=true) (d:zT P ⟨l⟩ Ns F (Q .normal) 0 l env h) :
  wH P (.region id ⟨l⟩ true) Q env h:=.inl ⟨Ns,F,⟨c,hd⟩,p,d⟩
theorem xf {h:AH} {L:List Blk} {M:List Nat}:(h.ext L M).ext L' M'=h.ext (L++L') (M++M'):=by simp [AH.ext,uz]
theorem xU {P:Program} {o:Oper} {env:List AV} {h c:AH} {args:List AV} {v:AV} (A:aG ops o env=some true) (s:zr P o env h=.call f args) (hs:Spec P f args h λr hh=>r=v/\hh=c)
  (hd:xV o.dst env v=some env') (d:zJ P ops Q rest env' c):zJ P ops Q (o::rest) env h :=
 ops_call A s hs λr c ⟨p,C⟩=>by subst p;subst C;rw [yO hd];exact d
theorem wd {i:Nat} (D:Ns.contains i=false) {P:Program} {ops:Array Oper} {Q:List AV->AH->Prop} {o:Oper} {rest:List Oper} {env env':List AV} {h c:AH} {f:FuncId} {args:List AV} {v:AV} (A:FOk ((Region.before ops).getD i 0) Ns F c) (d:c.blks=h.blks) (p:aG ops o env=some true) (C:zr P o env h=.call f args) (hs:Spec P f args h λr hh=>r=v/\hh=c)
  (hd:xV o.dst env v=some env') (s:zT P ops Ns F Q (i+1) rest env' c):zT P ops Ns F Q i (o::rest) env h :=
 ⟨v,c,.inl ⟨D,by simp only [AR,p,C];exact hs⟩,.inr d,.inr A,by rw [yO hd];exact s⟩
theorem xD {i:Nat} (A:Ns.contains i=false) {P:Program} {ops:Array Oper} {Q:List AV->AH->Prop} {o:Oper} {rest:List Oper} {env env':List AV} {h c:AH} {v:AV} (C:FOk ((Region.before ops).getD i 0) Ns F c) (s:c.blks=h.blks) (r:aG ops o env=some true) (p:zr P o env h=.ok v c) (hd:xV o.dst env v=some env') (d:zT P ops Ns F Q (i+1) rest env' c) :
  zT P ops Ns F Q i (o::rest) env h:=⟨v,c,.inl ⟨A,by simp only [AR,r,p,r5]⟩,.inr s,.inr C,by rw [yO hd];exact d⟩
def OwnK (h:AH) (k n:Nat) (R:List (List AV)) (rr:AV) (hh:AH):Prop:=rr=.osl (some h.toks.length) k R/\hh=h.ext [] [n]
theorem vj {P:Program} {a5:List AV} {h:AH} {n:Nat} {R:List (List AV)} (s:Spec P f a5 (h.ext B T) (OwnK (h.ext B T) k n R)) (c:T.length=m) (d:T++[n]=T') :
  Spec P f a5 (h.ext B T) (λp hh=>p=.osl (some (h.toks.length+m)) k R/\hh=h.ext B T'):=by
 refine s.mono ?_
 rintro r v ⟨rfl,rfl⟩
 subst c d;simp [AH.ext,uz]
theorem blk_ext2 {h:AH} (c:B[j]?=some b):((h.ext B T).ext B' T').blk (h.blks.length+j)=some b:=by
 rw [xf,yI,uo (uc.1 c).1];exact c
theorem blk_old {h:AH} (c:h.blk id=some b):(h.ext B T).blk id=some b:=by
 have d:id < h.blks.length:=(uc.1 c).1;simp only [AH.blk,AH.ext] at c ⊢
 grind
theorem b_load {P:Program} {o:Oper} {env:List AV} {h:AH} {d:TypeDesc} {v v':AV} (p:o.op=.load t x) (s:Ty P t d k) (C:yf env x=some (.ptr id off)) (A:h.blk id=some (.cells cs))
  (r:ldC (yg d) k off cs=some v) (c:tyfix P t v=v'):zr P o env (h.ext B T)=.ok v' (h.ext B T):=by
 refine s_load p s C ?_ c;simp only [aLoad,blk_old A];exact r

theorem leV.agg {cs ds:List AV} (k:leL cs ds) (d:ds.all AV.one=true):leV (.agg cs) (.agg ds):=λg v c=>by
 simp only [V] at c ⊢;obtain ⟨vs,e,p⟩:=c;exact ⟨vs,e,VA.mk (k _ _ p.toVL) d⟩
theorem leV.tup {cs ds:List AV} (k:leL cs ds):leV (.tup cs) (.tup ds):=λg v c=>by
 simp only [V] at c ⊢;obtain ⟨vs,e,d⟩:=c;exact ⟨vs,e,k _ _ d⟩
theorem VL.setE {g:Gh}:∀{a5:List AV} {vs:List Value},VL g a5 vs->∀(i:Nat) (a:AV),(∀v,vs[i]?=some v->V g a v)->VL g (a5.set i a) vs
 | [],_,h,i,a,_=>by simpa using h
 | _::r,_,h,i,a,hv=>by
  simp only [VL] at h;obtain ⟨v',s,rfl,d,c⟩:=h;cases i with
  | zero=>simp only [uf,VL];exact ⟨v',s,rfl,hv v' rfl,c⟩
  | succ i=>simp only [ue,VL];exact ⟨v',s,rfl,d,VL.setE c i a (λv p=>hv v (by simp_all))⟩
theorem V.tok {n:Nat} {es:List (List AV)} {v:Value} (D:es.length=n) (d:V g (.osl none k es) v):V (g.addT ⟨n,none,false⟩) (.osl (some g.τ.length) k es) v:=by
 subst D;simp only [V] at d ⊢;obtain ⟨a,c,s,p,A,r,C⟩:=d;refine ⟨a,c,s,p,A,r.imp id λ⟨b,o,e,hh⟩=>⟨b,o,e,VE.mono (g.le_addT _) _ _ _ _ hh⟩,⟨es.length,none,false⟩,?_,rfl,uh _,λ_=>.inl C⟩;simp only [Gh.addT]
 simp_all
theorem wk_tok {α:Type} {row:α->List AV} {L:List α} {h:AH} {env:List AV} {d:Nat} (J:yf env (.tmp d)=some (.osl none k (L.map row))) (I:T.length=m)
  (D:xV (some d) env (.osl (some (h.toks.length+m)) k (L.map row))=some env') (H:T++[L.length]=T') :
  wk hd env (h.ext B T) env' (h.ext B T'):=λ_ _ _ _ O g vs _ G r E=>by
 subst I H;simp only [xV,uk] at D;subst D;have c:h.toks.length+T.length=g.τ.length:=by rw [r.tlen];simp [AH.ext]
 refine ⟨g.addT ⟨L.length,none,false⟩,G.trans (g.le_addT _),?_,?_⟩
 ·have:=r.addTok ⟨L.length,none,false⟩ (λ_ _ _ h=>by cases h) (λ_ _ h=>by cases h);have e:(h.ext B (T++[L.length]))={ (h.ext B T) with toks:=(h.ext B T).toks++[L.length] }:=by simp [AH.ext,uz]
  simp_all
 ·have A:=E;refine ⟨VL.setE (VL.mono (g.le_addT _) _ _ E) d _ λv s=>?_,λ_ h=>h⟩;obtain ⟨a,p,N⟩:=A.getR _ _ s;have C:env[d]?=some (.osl none k (L.map row)):=J;rw [C] at p;injection p with p;subst p;rw [c];exact N.tok (by simp)
theorem Rel.rowsC {B:Nat} {h:AH} (r:Rel B w0 g h w) {i:Nat} {cs cs':List AV} (v:h.blks[i]?=some (.cells cs)) :
  (∀(j:Nat) (x:Blk),g.σ[j]?=some none->(h.put i (.cells cs')).blks[j]?=some x->RowB g w x) /\
  ∀(a b t k k':Nat) (es es':List (List AV)),(h.put i (.cells cs')).blks[a]?=some (.row t k es)->(h.put i (.cells cs')).blks[b]?=some (.row t k' es')->a=b:=by
 have key:∀(a t k:Nat) (es:List (List AV)),(h.put i (.cells cs')).blks[a]?=some (.row t k es)->h.blks[a]?=some (.row t k es):=by
  intro a t k es d;simp only [AH.put] at d
  grind
 refine ⟨λj x p c=>?_,λa b t k k' es es' d s=>r.rinj _ _ _ _ _ _ _ (key _ _ _ _ d) (key _ _ _ _ s)⟩;simp only [AH.put] at c;by_cases hij:i=j
 ·subst hij;exact (r.row i _ p v).elim
 ·rw [tf hij] at c;exact r.row j x p c
theorem Rel.reblk {B:Nat} {h:AH} (r:Rel B w0 g h w) {i:Nat} {cs cs':List AV} (p:h.blks[i]?=some (.cells cs)) (E:∀c,BlkOk g w c (.cells cs)->BlkOk g w c (.cells cs')):Rel B w0 g (h.put i (.cells cs')) w:=by
 refine ⟨r.below,r.bsz,r.phi,by simp [AH.put,r.slen],λj c q s d=>?_,r.tlen,r.tok,r.sinj,r.tinj,r.sep,r.dfr,(r.rowsC p).1,(r.rowsC p).2,r.nb,r.ob,r.oa⟩;simp only [AH.put] at d;by_cases hij:i=j
 ·subst hij;rw [uL (uc.1 p).1] at d;injection d with d;subst d;obtain ⟨C,v,D,A⟩:=r.blk i c _ s p
  simp_all
 ·rw [tf hij] at d;exact r.blk j c q s d
theorem wk_tokB {α:Type} {row:α->List AV} {L:List α} {h:AH} {env:List AV} (S:B[j]?=some (.cells cs)) (he:yf cs (.tmp off)=some (.osl none k (L.map row))) (Z:T.length=m)
  (R:xV (some off) cs (.osl (some (h.toks.length+m)) k (L.map row))=some cs') (hB:B.set j (.cells cs')=B') (W:T++[L.length]=T') :
  wk hd env (h.ext B T) env (h.ext B' T'):=λ_ _ w _ g1 g vs _ V r hv=>by
 subst Z W hB;simp only [xV,uk] at R;subst R;have D:h.toks.length+T.length=g.τ.length:=by rw [r.tlen];simp [AH.ext]
 refine ⟨g.addT ⟨L.length,none,false⟩,V.trans (g.le_addT _),?_,VL.mono (g.le_addT _) _ _ hv,λ_ h=>h⟩;have d:=r.addTok ⟨L.length,none,false⟩ (λ_ _ _ h=>by cases h) (λ_ _ h=>by cases h);have H:({ (h.ext B T) with toks:=(h.ext B T).toks++[L.length] }:AH).blks[h.blks.length+j]?=some (.cells cs):=by
  simp only [AH.ext];rw [un (by omega),uS];exact S
 have e:(h.ext (B.set j (.cells (cs.set off (.osl (some (h.toks.length+T.length)) k (L.map row))))) (T++[L.length])) =
   ({ (h.ext B T) with toks:=(h.ext B T).toks++[L.length] }:AH).put (h.blks.length+j) (.cells (cs.set off (.osl (some (h.toks.length+T.length)) k (L.map row)))):=by
  simp only [AH.ext,AH.put,uz]
  simp_all
 rw [e]
 -- what the cells were ahead of the token
 have C:(h.ext B T).blks[h.blks.length+j]?=some (.cells cs):=by
  omega
 obtain ⟨c,U⟩:∃c:Nat,g.σ[h.blks.length+j]?=some (some c):=by
  have:h.blks.length+j < g.σ.length:=by rw [r.slen];simp only [AH.ext,um];have:=(uc.1 S).1;omega
  rcases U:g.σ[h.blks.length+j] with _ | c
  ·exact (r.row _ _ (by simp_all) C).elim
  ·simp_all
 obtain ⟨_,_,⟨us,t,Y,N⟩,_⟩:=r.blk _ c _ U C;have E:VA (g.addT ⟨L.length,none,false⟩) (cs.set off (.osl (some (h.toks.length+T.length)) k (L.map row))) us.toList:=by
  have O:=N.toVL;refine VA.mk (VL.setE (VL.mono (g.le_addT _) _ _ O) off _ λv I=>?_) ?_
  ·obtain ⟨a,p,hV⟩:=O.getR _ _ I;have J:cs[off]?=some (.osl none k (L.map row)):=he;rw [J] at p;injection p with p;subst p;rw [D];exact hV.tok (by simp)
  ·rw [ux];intro a p;rcases List.mem_or_eq_of_mem_set p with p | rfl
   ·have:=N.ones;rw [ux] at this;exact this a p
   ·rfl
 -- one block alone: the same cell
 refine ⟨d.below,d.bsz,d.phi,by simp [AH.put,d.slen],λi G q A s=>?_,d.tlen,d.tok,d.sinj,d.tinj,d.sep,d.dfr,(d.rowsC H).1,(d.rowsC H).2,d.nb,d.ob,d.oa⟩;simp only [AH.put] at s;by_cases hij:h.blks.length+j=i
 ·subst hij;rw [uL (uc.1 H).1] at s;injection s with s;subst s;obtain ⟨h6,X,_,h9⟩:=d.blk _ G _ A H;have:G=c:=by
   have:g.σ[h.blks.length+j]?=some (some G):=A
   simp_all
  subst this;exact ⟨h6,X,⟨us,t,Y,E⟩,λ_=>h9 (by simp)⟩
 ·rw [tf hij] at s;exact d.blk i G q A s
mutual
theorem AV.low_up {n d m p:Nat} (c:n<=d) (h:m<=p):∀a:AV,a.low n m=true->a.low d p=true
 | .bool _,_ | .int _ _,_ | .str _,_ | .nilp,_ | .nilm,_ | .nilf,_ | .nili,_ | .nilsl,_ | .fptr _,_ | .sl _ _,_ | .glob _,_ | .any,_ | .opq,_ | .bsl _ _,_ | .nsl _ _,_ | .gsl _ _,_ | .gptr _,_=>rfl
 | .osl none _ _,_=>rfl
 | .osl (some t) _ _,hl=>by simp only [AV.low,uj] at hl ⊢;omega
 | .ptr _ _,hl=>by simp only [AV.low,uj] at hl ⊢;omega
 | .msl _ _ _ _,hl=>by simp only [AV.low,uj] at hl ⊢;omega
 | .rsl _ _ _ _,hl=>by simp only [AV.low,uj] at hl ⊢;omega
 | .rsuf _ _ _ _ _,hl=>by simp only [AV.low,uj] at hl ⊢;omega
 | .rptr _ _ _ _ _,hl=>by simp only [AV.low,uj] at hl ⊢;omega
 | .map _,hl=>by simp only [AV.low,uj] at hl ⊢;omega
 | .yld _,hl=>by simp only [AV.low,uj] at hl ⊢;omega
 | .fn _ a b,hl=>by
  simp only [AV.low,ud] at hl ⊢;exact ⟨ym c h a hl.1,ym c h b hl.2⟩
 | .iface _ v,hl=>by simp only [AV.low] at hl ⊢;exact AV.low_up c h v hl
 | .agg cs,hl=>by simp only [AV.low] at hl ⊢;exact ym c h cs hl
 | .tup cs,hl=>by simp only [AV.low] at hl ⊢;exact ym c h cs hl
theorem ym {n d m p:Nat} (c:n<=d) (h:m<=p):∀l:List AV,zG n m l=true->zG d p l=true
 | [],_=>rfl
 | a::r,hl=>by
  simp only [zG,ud] at hl ⊢;exact ⟨AV.low_up c h a hl.1,ym c h r hl.2⟩
end
theorem wk_cutm {h:AH} {env:List AV} {L:List Blk} {M:List Nat} (m:Nat) (C:zG h.blks.length (h.toks.length+m) env=true) (p:M.take m=M1):wk h env (h.ext L M) env (h.ext [] M1):=λ_ _ _ _ A g vs c s r D=>by
 subst p;refine ⟨g.cut h.blks.length (h.toks.length+m),Gh.le_cut2 s (by rw [c.slen];exact uh _) (by rw [c.tlen];omega),?_,VL.cut _ _ C D,λ_ h=>h⟩;have e:(h.ext L M).cut h.blks.length (h.toks.length+m)=h.ext [] (M.take m):=by
  simp [AH.cut,AH.ext,tO];rw [uQ (by omega)]
 have:=r.cut h.blks.length (h.toks.length+m) (λi k hi d=>?_)
 ·simp_all
 ·have v:i < A.σ.length:=by rw [c.slen];exact hi
  simp only [AH.ext] at d;rw [uo hi] at d;have:=c.isLow d;rw [c.slen,c.tlen] at this;exact Blk.low_mono (by omega) _ this
theorem fin_own {h:AH} {n:Nat} {R:List (List AV)} (c:K (.osl (some h.toks.length) k R) (h.ext [] [n])):finK h K (.osl (some (h.toks.length+0)) k R) (h.ext B (n::T)) :=
 fin_wk (wk_cutm 1 (by simp [zG,AV.low]) rfl) c
theorem fin_own0 {α:Type} {row:α->List AV} {L:List α} {h:AH} (c:K (.osl (some h.toks.length) k (L.map row)) (h.ext [] [L.length])):finK h K (.osl none k (L.map row)) (h.ext B T) :=
 fin_wk ((wk_cutm (M1:=[]) 0 (by rfl) rfl).trans (wk_tok (d:=0) (m:=0) rfl rfl rfl rfl)) c
theorem wk_leB {h:AH} {env:List AV} (C:B[j]?=some (.cells cs)) (A:leL cs cs') (v:cs'.all AV.one=true) (D:B.set j (.cells cs')=B'):wk hd env (h.ext B T) env (h.ext B' T):=λ_ _ w _ G g vs _ E r H=>by
 subst D;have p:(h.ext B T).blks[h.blks.length+j]?=some (.cells cs):=by
  simp only [AH.ext];rw [un (by omega),uS];exact C
 have:=r.reblk p (cs':=cs') (λc ⟨us,t,s,d⟩=>⟨us,t,s,VA.mk (A _ _ d.toVL) v⟩);have e:(h.ext B T).put (h.blks.length+j) (.cells cs')=h.ext (B.set j (.cells cs')) T:=by
  simp only [AH.ext,AH.put]
  simp_all
 grind
theorem z8 {h:AH} {L0 L1:List Blk} {M0:List Nat} {env:List AV} (c:zG (h.blks.length+L0.length) (h.toks.length+M0.length) env=true) (p:L'.take L0.length=L1) (d:M'.take M0.length=M1)
  (s:L1.all (λb=>b.low (h.blks.length+L0.length) (h.toks.length+M0.length))=true):wk (h.ext L0 M0) env (h.ext L' M') env (h.ext L1 M1) :=
 wk_ext2 c p d λ_ k r=>.inr (by grind)
theorem r_condR {P:Program} {Q:Exit->List AV->AH->Prop} {env:List AV} {h:AH} {σ:Type} {f:Nat->Nat->σ->Option (Out ρ σ)} {m:Int} {i:Nat} {s:σ} {rest:σ->Option ρ} {v:ρ} {c:Operand} {t e:Code} (E:yf env c=some (.bool (decide ((i:Int) < m))))
  (A:lp (zg f ((List.range m.toNat).drop i) i s) rest=some v)
  (H:∀x p,i < (List.range m.toNat).length->(i:Int) < m->x=i->f i x s=some p->konL f (List.range m.toNat) i rest p=some v->wH P t Q env h) (D:rest s=some v->wH P e Q env h):wH P (.cond c t e) Q env h:=by
 refine r_cond E (λd=>?_) (λd=>?_)
 ·have C:=u9 d;have r:i < (List.range m.toNat).length:=by simp;omega
  obtain ⟨x,p,I,G,J⟩:=loopL_step A r
  simp_all
 ·have C:=of_decide_eq_false d;exact D (loopL_end A (by simp;omega))
theorem ops_nextF {P:Program} {o:Oper} {env G H:List AV} {h:AH} {L:List Blk} {M:List Nat} {s:List UInt8} {c:Nat} {A C:Option ρ} {r:ρ} (N:aG ops o env=some true) (I:o.op=.next x true)
  (O:yf env x=some (.ptr (h.blks.length+j) 0)) (J:L[j]?=some (.siter s c)) (p:xV o.dst env (.tup [.bool true,.int .i64 c,.int .i32 (dec s c).1])=some G) (d:xV o.dst env (.tup [.bool false])=some H)
  (R:(if c < s.length then A else C)=some r) (v:c < s.length->A=some r->zJ P ops Q rest G (h.ext (L.set j (.siter s (c+(dec s c).2))) M)) (D:C=some r->zJ P ops Q rest H (h.ext L M)):zJ P ops Q (o::rest) env (h.ext L M) :=
 ops_next N I O J p d (λE=>v E (by simp_all)) (λE=>D (by grind))
open Classical in
noncomputable def anyN (g:Nat->Option ρ):Option ρ:=if h:∃r N,∀n,N<=n->g n=some r then some (Classical.choose h) else none
theorem anyN_is {g:Nat->Option ρ} {r:ρ} (h:anyN g=some r):∃n,g n=some r:=by
 unfold anyN at h;split at h
 ·rename_i d;injection h with h;subst h;obtain ⟨N,c⟩:=tL d;exact ⟨N,c N (uh _)⟩
 ·cases h
theorem qU {g:Nat->Option ρ} {r:ρ} (N:Nat) (h:∀n,N<=n->g n=some r):anyN g=some r:=by
 have c:∃r N,∀n,N<=n->g n=some r:=⟨r,N,h⟩
 unfold anyN;rw [pu c];obtain ⟨M,d⟩:=tL c;have p:=d (max N M) (Nat.le_max_right _ _)
 grind
theorem Rel.beyond {B:Nat} {w':World} {h:AH} (r:Rel B w0 g h w) (d:RowKit.Below w.heap.size w w'):Rel B w0 g h w' :=
 ⟨r.below.trans (d.mono r.bsz),uE r.bsz d.size,λb j v e=>(d.cell (p:=⟨b,j,none⟩) (r.phi_lt e)).trans (r.phi b j v e),r.slen,
   λi c k A G=>by
     obtain ⟨H,C,J,I⟩:=r.blk i c k A G;exact ⟨H,tv C d.size,J.mono (Gh.le.refl g) (d.block c C),I⟩,r.tlen,
   λi t E=>by
     obtain ⟨H,C⟩:=r.tok i t E;exact ⟨H,λb l e s=>(C b l e s).mono d.size (d.block b (C b l e s).lt) λ_ _=>rfl⟩,r.sinj,r.tinj,r.sep,λc A=>⟨(r.dfr c A).1,(d.block c (r.dfr_lt A)).trans (r.dfr c A).2.1,(r.dfr c A).2.2⟩,
   λi k hi G=>(r.row i k hi G).mono (Gh.le.refl g) (λ_ _ h _=>h) (λi t b x E _ s=>⟨d.block b ((r.tok i t E).2 b x.1 x.2 s).lt,λ_=>rfl⟩),r.rinj,
   λb x D=>(r.nb b x D).mono λ_ s N=>⟨d.block b s,N,λh=>h⟩,λb D=>⟨tv (r.ob b D).1 d.size,(r.ob b D).2⟩,r.oa⟩
end Go.Vv
namespace Go.Vv
open Go Go.RowKit Go.Lib
variable {a:Array Bool} {d:Option Tmp} {ops:Array Oper}

theorem ready_mem {ops:Array Oper} {listed:Array Bool} {i:Nat}:i ∈ Region.ready .any ops listed ↔ i < ops.size/\listed.getD i true=false/\∀o,ops[i]?=some o->∀e ∈ o.after,Region.binds .any e=true->listed.getD e.on false=true:=by
 unfold Region.ready;rw [uV,List.mem_range];refine and_congr_right λhi=>?_;have ho:ops[i]?=some ops[i]:=uy hi;simp only [ud,tU,ho,u5,pm];refine and_congr_right λ_=>?_;rw [tM];constructor
 ·intro h o e1 e he hb;cases e1;have:=h e he;rw [hb] at this;simpa using this
 ·intro h e he;cases hb:Region.binds .any e with
  | false=>rfl
  | true=>simpa using h _ rfl e he hb
theorem set_getD {i j:Nat} {d:Bool} (h:i ≠ j):(a.setIfInBounds i true).getD j d=a.getD j d:=by
 simp [uX,h]
theorem set_getT {i j:Nat} (h:a.getD j false=true):(a.setIfInBounds i true).getD j false=true:=by
 by_cases e:i=j
 ·subst e;rw [uX] at h ⊢;rw [rR];simp only [uq];split
  ·rfl
  ·rename_i b;rw [rH (by omega)] at h;simp at h
 ·rw [set_getD e];exact h
theorem ready_set {listed:Array Bool} {i j:Nat} (h:i ∈ Region.ready .any ops listed) (b:j ≠ i):i ∈ Region.ready .any ops (listed.setIfInBounds j true):=by
 rw [ready_mem] at h ⊢;exact ⟨h.1,by rw [set_getD b];exact h.2.1,λo c e f g=>set_getT (h.2.2 o c e f g)⟩
theorem set_comm2 {i j:Nat}:(a.setIfInBounds i true).setIfInBounds j true=(a.setIfInBounds j true).setIfInBounds i true:=by
 apply ry;intro k;simp only [rR,Array.size_setIfInBounds];by_cases h1:i=k <;> by_cases h2:j=k <;> simp [h1,h2]
theorem setd_comm {env:List AV} {b:Option Tmp} {v v':AV} (h:b=none \/ d ≠ b):setd (setd env d v) b v'=setd (setd env b v') d v:=by
 cases d with
 | none=>rfl
 | some d =>
  cases b with
  | none=>rfl
  | some b =>
   simp only [setd];exact List.set_comm _ _ (λe=>by rcases h with h | h <;> simp_all)
def apart (ops:Array Oper) (o p:Oper):Bool :=
 (match o.dst with | some d=>!(p.looksAt ops).contains d&&p.dst != some d | none=>true) &&
 (match p.dst with | some d=>!(o.looksAt ops).contains d | none=>true)
def apartAll (ops:Array Oper) (i:Nat):Bool:=match ops[i]? with
 | none=>false
 | some o=>ops.toList.zipIdx.all λ(p,j)=>i==j || (p.after.any λe=>Region.binds .any e&&e.on==i) || (o.after.any λe=>Region.binds .any e&&e.on==j) || apart ops o p
theorem apart_of {listed:Array Bool} {i j:Nat} {o p:Oper} (h:apartAll ops i=true) (r:ops[i]?=some o) (q:ops[j]?=some p) (f:i ≠ j) (hi:i ∈ Region.ready .any ops listed) (g:j ∈ Region.ready .any ops listed):apart ops o p=true:=by
 unfold apartAll at h;rw [r] at h;simp only [ux,Prod.forall] at h;have s:(p,j) ∈ ops.toList.zipIdx:=by
  rw [sy];simpa using q
 have h:=h p j s;rw [ready_mem] at hi g;simp only [uY,tX,Array.any_eq_true'] at h;rcases h with ((h | ⟨e,n,h⟩) | ⟨e,n,h⟩) | h
 ·exact absurd h f
 ·exfalso;simp only [ud,tX] at h;have k:=g.2.2 p q e n h.1;have c:=hi.2.1;rw [h.2] at k;rw [uX] at k c;cases hh:listed[i]? with
  | none=>rw [hh] at k;simp at k
  | some b=>rw [hh] at k c;simp at k c;rw [k] at c;cases c
 ·exfalso;simp only [ud,tX] at h;have k:=hi.2.2 o r e n h.1;have c:=g.2.1;rw [h.2] at k;rw [uX] at k c;cases hh:listed[j]? with
  | none=>rw [hh] at k;simp at k
  | some b=>rw [hh] at k c;simp at k c;rw [k] at c;cases c
 ·exact h
def Sil (P:Program) (ops:Array Oper) (o:Oper) (env:List AV) (v:AV):Prop :=
 (aG ops o env=some true/\∀h,zr P o env h=.ok v h) \/ (aG ops o env=some false/\v=aundef) \/
 (aG ops o env=some true/\∃f args,(∀h,zr P o env h=.call f args)/\∀h,Spec P f args h λr hh=>r=v/\hh=h)
theorem looks_env {o:Oper} {env:List AV} {v:AV} (h:∀t,d=some t->t ∉ o.looksAt ops):(∀t ∈ o.looksAt ops,(setd env d v)[t]?=env[t]?)/\∀x ∈ o.op.operands,ev (setd env d v) x=ev env x:=by
 have b:∀t ∈ o.looksAt ops,(setd env d v)[t]?=env[t]?:=λt c=>qW λe=>h t e c;exact ⟨b,λx f=>ev_congr λt e=>b t (looks_op (by rw [<- e];exact f))⟩
theorem apart_l {o p:Oper} (h:apart ops o p=true):(∀t,o.dst=some t->t ∉ p.looksAt ops)/\(∀t,p.dst=some t->t ∉ o.looksAt ops)/\(p.dst=none \/ o.dst ≠ p.dst):=by
 unfold apart at h;rw [ud] at h;refine ⟨λt e=>?_,λt e=>?_,?_⟩
 ·have b:=h.1;rw [e] at b;simp only [ud,tU,rP,rC] at b;exact b.1
 ·have b:=h.2;rw [e] at b;simpa [rP] using b
 ·cases hp:p.dst with
  | none=>exact .inl rfl
  | some t =>
   right;intro e;have b:=h.1;rw [e,hp] at b;simp at b
theorem any_sil {P:Program} {ops:Array Oper} {Q:List AV->AH->Prop} {i:Nat} {o:Oper} {v:AV} (y:ops[i]?=some o) (t:apartAll ops i=true):∀(m:Nat) {listed:Array Bool} {env:List AV} {h:AH},i ∈ Region.ready .any ops listed->Sil P ops o env v ->
  wL P ops Q m (listed.setIfInBounds i true) (setd env o.dst v) h->wL P ops Q (m+1) listed env h
 | m,listed,env,h,hi,hs,c=>by
  refine ⟨λe=>(by rw [e] at hi;cases hi),λj C p u=>?_⟩;by_cases hne:j=i
  ·subst hne;rw [y] at u;cases u;rcases hs with ⟨g,n⟩ | ⟨g,rfl⟩ | ⟨g,f,args,n,A⟩
   ·rw [g,n];exact .inl c
   ·rw [g];exact c
   ·rw [g,n];exact .inl ((A h).mono λr hh e=>by rw [e.1,e.2];exact c)
  ·have s:=ready_set C (Ne.symm hne);obtain ⟨E,F,a3⟩:=apart_l (apart_of t y u (Ne.symm hne) hi C);cases m with
   | zero=>rw [c.1] at s;cases s
   | succ m =>
    have c:=c.2 j s p u;obtain ⟨D,z⟩:=looks_env (env:=env) (v:=v) E;rw [aG_congr D,astep_congr z] at c;have w:∀v' h',wL P ops Q m ((listed.setIfInBounds i true).setIfInBounds j true) (setd (setd env o.dst v) p.dst v') h'->wL P ops Q (m+1) (listed.setIfInBounds j true) (setd env p.dst v') h':=λv' h' hh=>by
     obtain ⟨x,B⟩:=looks_env (env:=env) (v:=v') F;refine any_sil (v:=v) y t m (ready_set hi hne) ?_ ?_
     ·rcases hs with ⟨g,n⟩ | ⟨g,n⟩ | ⟨g,f,args,n,A⟩
      ·exact .inl ⟨by rw [aG_congr x];exact g,λh=>by rw [astep_congr B];exact n h⟩
      ·exact .inr (.inl ⟨by rw [aG_congr x];exact g,n⟩)
      ·exact .inr (.inr ⟨by rw [aG_congr x];exact g,f,args,λh=>by rw [astep_congr B];exact n h,A⟩)
     ·rw [set_comm2,setd_comm a3] at hh;exact hh
    cases hb:aG ops p env with
    | none=>rw [hb] at c;exact c
    | some b =>
     rw [hb] at c;cases b with
     | true=>exact c.imp (rwp_mono w) λc=>match c with
      | .inl ⟨l,hl,hq⟩=>.inl ⟨l,by rw [<- bstep_congr z];exact hl,λq hi=>w _ _ (hq q hi)⟩
      | .inr ⟨k,ys,hn,hq⟩=>.inr ⟨k,ys,by rw [<- anew_congr z];exact hn,w _ _ hq⟩
     | false=>exact w _ _ c
def anyAt (P:Program) (ops:Array Oper) (Q:List AV->AH->Prop) (m:Nat) (listed:Array Bool) (env:List AV) (h:AH) (i:Nat):Prop:=∀o,ops[i]?=some o ->
 gwp (aG ops o env) (λK=>rwp P h (zr P o env h) K \/ bwp P o env h K) h λv h'=>wL P ops Q m (listed.setIfInBounds i true) (setd env o.dst v) h'
section
variable {P:Program} {l:List Oper} {Q:List AV->AH->Prop} {m i j:Nat} {listed:Array Bool} {env env':List AV} {h h':AH} {o:Oper} {v:AV}
theorem any_end (b:(Region.ready .any ⟨l⟩ listed==[])=true) (c:Q env h):wL P ⟨l⟩ Q m listed env h:=by
 have b:=eq_of_beq b;cases m with
 | zero=>exact ⟨b,c⟩
 | succ m=>exact ⟨λ_=>c,λi hi=>by rw [b] at hi;cases hi⟩
theorem any_s (g:(Region.ready .any ⟨l⟩ listed).contains i=true) (b:apartAll ⟨l⟩ i=true) (e:l[i]?=some o) (k:aG ⟨l⟩ o env=some true) (f:∀h,zr P o env h=.ok v h) (hd:xV o.dst env v=some env')
  (c:wL P ⟨l⟩ Q m (listed.setIfInBounds i true) env' h):wL P ⟨l⟩ Q (m+1) listed env h:=by
 refine any_sil (v:=v) (by simpa using e) b m (by simpa [rP] using g) (.inl ⟨k,f⟩) ?_;rw [yO hd];exact c
theorem any_at (f:l[i]?=some o) (k:aG ⟨l⟩ o env=some true) (g:zr P o env h=.ok v h') (hd:xV o.dst env v=some env') (e:wL P ⟨l⟩ Q m (listed.setIfInBounds i true) env' h'):anyAt P ⟨l⟩ Q m listed env h i:=by
 intro p c;have:o=p:=by
  have b:l[i]?=some p:=by simpa using c
  rw [f] at b;exact uJ b
 subst this;rw [k,g];exact .inl (by simp only [rwp];rw [yO hd];exact e)
theorem any_1 (b:(Region.ready .any ⟨l⟩ listed==[i])=true) (hi:anyAt P ⟨l⟩ Q m listed env h i):wL P ⟨l⟩ Q (m+1) listed env h:=by
 have b:=eq_of_beq b;refine ⟨λe=>(by rw [b] at e;cases e),λk c o f=>?_⟩;rw [b,up] at c;subst c;exact hi o f
theorem any_2 (c:(Region.ready .any ⟨l⟩ listed==[i,j])=true) (hi:anyAt P ⟨l⟩ Q m listed env h i) (g:anyAt P ⟨l⟩ Q m listed env h j):wL P ⟨l⟩ Q (m+1) listed env h:=by
 have c:=eq_of_beq c;refine ⟨λe=>(by rw [c] at e;cases e),λk b o f=>?_⟩;rw [c] at b;rcases ut.1 b with rfl | b
 ·exact hi o f
 ·rw [up] at b;subst b;exact g o f
end
theorem r_any {P:Program} {Q:Exit->List AV->AH->Prop} {env:List AV} {h:AH} {id:Nat} {l:List Oper} (n:Nat) (e:l.length=n) (b:P.follows .mixedOrders=true) (c:wL P ⟨l⟩ (Q .normal) n (Array.replicate n false) env h):wH P (.region id ⟨l⟩ true) Q env h:=by
 refine .inr ⟨b,?_⟩;subst e;exact c
end Go.Vv
namespace Go.Vv
open Go Go.RowKit Go.Proofs Go.Shelf

def strJoin (xs:List (List UInt8)) (sep:List UInt8):Option (List UInt8):=if xs.length<=140737488355328/\(Lib.join xs sep).length<=140737488355328 then some (Lib.join xs sep) else none

theorem spec_join {P:Program} {ρ:Ren} (L:Lays.n156 P ρ) (X:Builder.Extra P ρ) {xs:List (List UInt8)} {sep res:List UInt8} {h:AH} (n:strJoin xs sep=some res) :
  Spec P (ρ.f 156) [.sl 1 (xs.map λx=>[.str x]),.str sep] h (λD hh=>D=.str res/\hh=h):=by
 unfold strJoin at n;split at n
 case isFalse=>cases n
 rename_i J;obtain ⟨G,l⟩:=J;injection n with n;subst n;have K:(Body.n156 ρ).body=some ((Body.n156 ρ).body.get rfl):=rfl;refine ⟨λvs w=>by simp [callFunc,L.f156,Body.n156],λB w0 _ g w vs r C=>?_⟩;obtain ⟨us,rfl⟩:∃us:List Value,vs=us.toArray:=⟨vs.toList,by simp⟩
 simp only [VL,V] at C;obtain ⟨M,O,A,⟨a,c,rfl,k,H,t⟩,N,s2,rfl,⟨rfl,hs⟩,rfl⟩:=C;simp only [uA] at k H;simp at A;subst A;have m:∀e w',e=Ending.returned (.string ⟨(Lib.join xs sep).toArray⟩)->Below w.heap.size w w'->∃v r z g',e=.returned v/\(r=.str (Lib.join xs sep)/\z=h)/\g.le g'/\Rel B w0 g' z w'/\V g' r v:=by
  rintro e w' rfl E
  refine ⟨_,_,h,g,rfl,⟨rfl,rfl⟩,Gh.le.refl g,r.beyond E,?_⟩;simp only [V];have s:(140737488355328:Nat)<=maxLen:=by decide
  exact ⟨trivial,uE l s⟩
 rcases t with t | ⟨b,o,rfl,I⟩
 ·have:xs=[]:=by simpa using t
  subst this;refine (Any.strings_Join_none L X a c ⟨sep.toArray⟩ w).mono λe w' ⟨p,i⟩=>m e w' ?_ (i ▸ Below.refl _ _);rw [p];rfl
 ·have key:(xs.map λx=>(⟨x.toArray⟩:ByteArray)).map (·.data.toList)=xs:=by simp [sx]
  have d:∀(j:Nat) x,(xs.map λx=>(⟨x.toArray⟩:ByteArray))[j]?=some x->w.cell? ⟨b,o+j,none⟩=some (.string x):=by
   intro j x q;rw [s6] at q;rcases hx:xs[j]? with _ | y
   ·simp [hx] at q
   ·simp [hx] at q;subst q;obtain ⟨_,i⟩:=I.get j [.str y] (by rw [s6,hx];rfl);simp only [VC,V,Nat.mul_one] at i;obtain ⟨⟨v,F,_,rfl,_⟩,_⟩:=i;exact r.phi _ _ _ F
  by_cases hx:xs=[]
  ·subst hx;refine (Any.strings_Join_none L X _ c ⟨sep.toArray⟩ w).mono λe w' ⟨p,i⟩=>m e w' ?_ (i ▸ Below.refl _ _);rw [p];rfl
  ·have u:b < w.heap.size:=by
    obtain ⟨y,Q,rfl⟩:=List.exists_cons_of_ne_nil hx;have:=d 0 ⟨y.toArray⟩ (by simp);exact World.block_lt_of_cell? w ⟨b,o+0,none⟩ this
   have:=Any.strings_Join L X b o c (xs.map λx=>(⟨x.toArray⟩:ByteArray)) ⟨sep.toArray⟩ w d u (by simpa using G) (by simpa using k) (by rw [key];simpa using l);rw [key] at this;simp only [uA] at this ⊢;exact this.mono λe w' ⟨p,i⟩=>m e w' (by simpa using p) i

end Go.Vv
namespace Go.Vv
open Go Go.RowKit Go.Lib Go.Shelf
theorem spec_scompare {P:Program} {ρ:Ren} (L:Go.Proofs.Lays.n106 P ρ) {a b:List UInt8} {h:AH}:Spec P (ρ.f 106) [.str a,.str b] h λd hh=>d=.int .i64 (Lib.compareBytes a b)/\hh=h:=by
 refine ⟨λvs w=>Go.Proofs.enters_of L.f106 (by kernel_rfl) rfl vs w,λB w0 _ g w vs r c=>?_⟩;obtain ⟨us,rfl⟩:∃us:List Value,vs=us.toArray:=⟨vs.toList,by simp⟩
 simp only [VL,V] at c;obtain ⟨j,l,i,⟨rfl,_⟩,k,s2,rfl,⟨rfl,_⟩,rfl⟩:=c;subst i;refine (Go.Proofs.Any.strings_Compare L _ _ w).mono ?_
 rintro e w' ⟨rfl,rfl⟩
 exact ⟨_,_,h,g,rfl,⟨rfl,rfl⟩,Gh.le.refl g,r,by simp only [V]⟩
end Go.Vv
