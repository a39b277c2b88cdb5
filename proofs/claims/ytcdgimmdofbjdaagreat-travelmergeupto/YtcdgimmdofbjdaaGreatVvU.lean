/- More rules: guards, places in slices and texts, drawn orders, folded loops. -/
import Derived.Test.YtcdgimmdofbjdaaGreatVvO
import Derived.Shelf.Strings.OnBuilder
import Derived.Shelf.Strings.SplitShaped
import Derived.Shelf.Small.Strs
set_option linter.all false
open Option renaming some→aa
open Option renaming none→ac
namespace Go.Vv
open Go
variable{b t q r:Bool}{l:List (TypeId×AV)}{f:Operand}{g:FuncId}{args:List AV}

theorem zlt{ops:Array Oper}{o:Oper}{env:List AV}{j d:Nat}{want b c:Bool}(hg:o.guard=aa (j,want))(hd:(ops[j]?).bind (·.dst)=aa d)(he:env[d]?=aa (gv b (.bool c))):aG ops o env=aa (b&&(c==want)):=by
 simp only[aG,hg,hd,he];cases b<;>simp[gv,wb]
theorem zM{env:List AV}{x:Operand}{v:AV}(a:yy env x=aa (gv b v))(c:b=true):yy env x=aa v:=by subst c;rw[pn]at a;exact a
theorem zxk{a:Bool}(h:(a&&b)=true):a=true:=by simp_all
theorem zq1:(if t then AV.bool q else .bool r)=.bool (if t then q else r):=by grind
theorem zoA(a:t=true->b=true):(if t then gv b (.bool q)else .bool false)=AV.bool (t&&q):=by cases t<;>simp[gv] ; simp[a rfl]
theorem zqW(a:t=false->b=true):(if t then .bool true else gv b (.bool q))=AV.bool (t || q):=by cases t<;>simp[gv] ; simp[a rfl]
theorem zq0(a:t=true->b=true):(if t then gv b (.bool q)else .bool r)=AV.bool (if t then q else r):=by cases t<;>simp[gv] ; simp[a rfl]
theorem zqZ(a:t=false->b=true):(if t then .bool r else gv b (.bool q))=AV.bool (if t then r else q):=by cases t<;>simp[gv] ; simp[a rfl]
theorem zqY{c:Bool}(d:t=true->b=true)(a:t=false->c=true):(if t then gv b (.bool q)else gv c (.bool r))=AV.bool (if t then q else r):=by cases t<;>simp[gv]<;>simp[d,a]
theorem zqX{k:IntKind}{a b:Int}:(if t then AV.int k a else .int k b)=.int k (if t then a else b):=by grind
theorem zoz{k:IntKind}{x y:Int}(a:t=true->b=true):(if t then gv b (.int k x)else .int k y)=AV.int k (if t then x else y):=by cases t<;>simp[gv] ; simp[a rfl]
theorem zoy{k:IntKind}{x y:Int}(a:t=false->b=true):(if t then .int k y else gv b (.int k x))=AV.int k (if t then y else x):=by cases t<;>simp[gv] ; simp[a rfl]


section
variable{P:Program}{ops:Array Oper}{Q:List AV->AH->Prop}{o:Oper}{rest:List Oper}{env env':List AV}{h:AH}
variable{i:Nat}{Ns:List Nat}{F:Nat->AH->Prop}
theorem zgc(a:Q env h):zI P ops Ns F Q i [] env h:=a
theorem yq(e:Ns.contains i=false){v:AV}(d:aG ops o env=aa true)(c:zj P o env h=.ok v h)(hd:tX o.dst env v=aa env')(a:zI P ops Ns F Q (i+1) rest env' h):zI P ops Ns F Q i (o::rest) env h :=
 ⟨v,h,.inl ⟨e,by simp only[AR,d,c,j5]⟩,.inr rfl,.inl rfl,by rw[yU hd];exact a⟩
theorem uY(k:Ns.contains i=false){v:AV}{c:AH}(a:f0 ((Region.before ops).getD i 0) Ns F c)(m:zse ops Ns i=true)(j:aG ops o env=aa true)(e:zj P o env h=.ok v c)(hd:tX o.dst env v=aa env')(d:zI P ops Ns F Q (i+1) rest env' c):zI P ops Ns F Q i (o::rest) env h :=
 ⟨v,c,.inl ⟨k,by simp only[AR,j,e,j5]⟩,.inl m,.inr a,by rw[yU hd];exact d⟩
theorem qG(e:Ns.contains i=false){n:Nat}{v:AV}(d:aG ops o env=aa true)(c:zj P o env h=.len n v h)(hd:tX o.dst env v=aa env')(a:zI P ops Ns F Q (i+1) rest env' h):zI P ops Ns F Q i (o::rest) env h :=
 ⟨v,h,.inl ⟨e,by simp only[AR,d,c,j5]⟩,.inr rfl,.inl rfl,by rw[yU hd];exact a⟩
theorem wC(j:Ns.contains i=false){f:FuncId}{args:List AV}{v:AV}(e:aG ops o env=aa true)(d:zj P o env h=.call f args)(hs:Spec P f args h λr c=>r=v/\c=h)(hd:tX o.dst env v=aa env')(a:zI P ops Ns F Q (i+1) rest env' h) :
  zI P ops Ns F Q i (o::rest) env h:=⟨v,h,.inl ⟨j,by simp only[AR,e,d];exact hs⟩,.inr rfl,.inl rfl,by rw[yU hd];exact a⟩
theorem yV(j:Ns.contains i=true){f:FuncId}{args:List AV}{v:AV}(e:aG ops o env=aa true)(d:∀a,zj P o env a=.call f args)(hs:∀a,F i a->Spec P f args a λr hh=>r=v/\hh=a)(hd:tX o.dst env v=aa env')(c:zI P ops Ns F Q (i+1) rest env' h) :
  zI P ops Ns F Q i (o::rest) env h:=⟨v,h,.inr (.inl ⟨j,e,rfl,.inl ⟨f,args,d,hs⟩⟩),.inr rfl,.inl rfl,by rw[yU hd];exact c⟩
theorem yg(j:Ns.contains i=true){v:AV}(e:aG ops o env=aa true)(d:∀a,F i a->zj P o env a=.ok v a)(hd:tX o.dst env v=aa env')(c:zI P ops Ns F Q (i+1) rest env' h) :
  zI P ops Ns F Q i (o::rest) env h:=⟨v,h,.inr (.inl ⟨j,e,rfl,.inr d⟩),.inr rfl,.inl rfl,by rw[yU hd];exact c⟩
theorem vh(d:Ns.contains i=false){b:Bool}{v:AV}(c:aG ops o env=aa b)(e:b=true->zj P o env h=.ok v h)(hd:tX o.dst env (gv b v)=aa env')(a:zI P ops Ns F Q (i+1) rest env' h):zI P ops Ns F Q i (o::rest) env h:=by
 cases b with
 |true=>rw[pn]at hd;exact yq d c (e rfl) hd a
 |false=>exact⟨wb,h,.inl ⟨d,by simp[AR,c]⟩,.inr rfl,.inl rfl,by rw[p7]at hd;rw[yU hd];exact a⟩
theorem uK(d:Ns.contains i=false){b:Bool}{n:Nat}{v:AV}(c:aG ops o env=aa b)(e:b=true->zj P o env h=.len n v h)(hd:tX o.dst env (gv b v)=aa env')(a:zI P ops Ns F Q (i+1) rest env' h):zI P ops Ns F Q i (o::rest) env h:=by
 cases b with
 |true=>rw[pn]at hd;exact qG d c (e rfl) hd a
 |false=>exact⟨wb,h,.inl ⟨d,by simp[AR,c]⟩,.inr rfl,.inl rfl,by rw[p7]at hd;rw[yU hd];exact a⟩
theorem rp(d:Ns.contains i=false){b:Bool}{f:FuncId}{args:List AV}{v:AV}(c:aG ops o env=aa b)(j:b=true->zj P o env h=.call f args)(hs:b=true->Spec P f args h λr e=>r=v/\e=h)
  (hd:tX o.dst env (gv b v)=aa env') (a:zI P ops Ns F Q (i+1) rest env' h):zI P ops Ns F Q i (o::rest) env h:=by
 cases b with
 |true=>rw[pn]at hd;exact wC d c (j rfl) (hs rfl) hd a
 |false=>exact⟨wb,h,.inl ⟨d,by simp[AR,c]⟩,.inr rfl,.inl rfl,by rw[p7]at hd;rw[yU hd];exact a⟩
variable{i0:Nat}
end

inductive Fx(P:Program):List (TypeId×AV)->List AV->Prop
 |nil:Fx P [] []
 |cons {t:TypeId} {v v':AV} {r:List (TypeId×AV)} {s:List AV}:w5 P t v=v'->Fx P r s->Fx P ((t,v)::r) (v'::s)
theorem Fx.eq{P:Program}{s:List AV}(h:Fx P l s):zsn P l=s:=by
 induction h with
 |nil=>rfl
 |cons h _ ih=>simp only[zsn,h,ih]
theorem ye{P:Program}{o:Oper}{env:List AV}{h:AH}{c:Call}(d:o.op=.call c)(k:c.callee=.value f)(a:yy env f=aa (.fn (.func g) [] []))
  (e:oz env c.args.toList c.argTypes.toList=aa l) (j:Fx P l args):zj P o env h=.call g args :=
 zpT d k a e (by simp[j.eq])
theorem zcM{P:Program}{o:Oper}{env:List AV}{h:AH}{c:Call}{first a all:List AV}(j:o.op=.call c)(n:c.callee=.value f)(e:yy env f=aa (.fn (.func g) first a))
  (k:oz env c.args.toList c.argTypes.toList=aa l) (m:Fx P l args) (d:first++args++a=all):zj P o env h=.call g all :=
 zpT j n e k (by rw[m.eq,d])
theorem zvh{P:Program}{Q:Exit->List AV->AH->Prop}{env:List AV}{h:AH}{body:Code}{σ:Type}(U:σ->List (Nat×AV))(a:σ->Prop)(d:σ->Nat)(e:σ){E:σ->List AV}(k:∀s,bi env (U s)=E s)(h0:fc env (E e))(hi:a e)
  (hs:∀s,a s->vi P body (sn (λenv' j=>∃c,a c/\d c<d s/\wk h env' j (E c) h) Q) (E s) h):vi P (.loop body) Q env h :=
 zgR E (λ_=>h) a d e (wk.le h0) hi hs
end Go.Vv
namespace Go.Vv
open Go
variable{j off n:Nat}{cs cs' ds z:List AV}{v v':AV}{t e:TypeId}{x:Operand}{d:TypeDesc}{fn:Func}{f:FuncId}{l l':List (Nat×AV)}{ks:List Kd}

def AH.ext(h:AH)(L:List q6)(M:List Nat):AH:={ zh:=h.zh++L,zs:=h.zs++M }
theorem oL(h:AH):h.ext [] []=h:=by simp[AH.ext]
theorem zX{h:AH}{L:List q6}{M:List Nat}:(h.ext L M).g7 (h.zh.length+j)=L[j]?:=by
 simp only[AH.g7,AH.ext]
 grind
theorem zdr{h:AH}{L:List q6}{M:List Nat}{b:q6}:(h.ext L M).new b=h.ext (L++[b]) M:=by simp[AH.ext,AH.new,lf]
theorem vU{h:AH}{L:List q6}{M:List Nat}{b:q6}:(h.ext L M).put (h.zh.length+j) b=h.ext (L.set j b) M:=by
 simp only[AH.ext,AH.put]
 simp_all
theorem znl{h:AH}{L:List q6}{M:List Nat}:(h.ext L M).cut h.zh.length h.zs.length=h:=by
 simp[AH.cut,AH.ext]
def cj(ag:Bool)(k off:Nat)(cs:List AV):Option AV:=if ag then(if off+k<=cs.length then aa (.agg ((cs.drop off).take k))else ac)else cs[off]?
theorem zA{k:Nat}(h:cs[off]?=aa v):cj false k off cs=aa v:=h
theorem zj2{k:Nat}(h:Nat.ble (off+k) cs.length=true)(a:(cs.drop off).take k=cs'):cj true k off cs=aa (.agg cs'):=by
 simp only[cj,oS,nK (l4 h),a]

section
variable{P:Program}{o:Oper}{env:List AV}{h:AH}{L:List q6}{M:List Nat}
theorem mB(b:o.op=.alloc t)(c:yY P t=aa cs)(a:L.length=n):zj P o env (h.ext L M)=.ok (.ptr (h.zh.length+n) 0) (h.ext (L++[.cells cs]) M):=by
 rw[zqH b c,zdr,<- a];simp[AH.ext]
theorem zw9{a a':AV}(c:o.op=.box t x)(i:yy env x=aa a)(b:w5 P t a=a')(g:a'.cells?=aa cs)(k:L.length=n) :
  zj P o env (h.ext L M)=.ok (.ptr (h.zh.length+n) 0) (h.ext (L++[.cells cs]) M):=by
 rw[zu9 c i b g,zdr,<- k];simp[AH.ext]
theorem yT{k:Nat}(b:o.op=.load t x)(i:Ty P t d k)(m:yy env x=aa (.ptr (h.zh.length+j) off))(c:L[j]?=aa (.cells cs))
  (g:cj (yd d) k off cs=aa v) (a:w5 P t v=v'):zj P o env (h.ext L M)=.ok v' (h.ext L M):=by
 refine zgG b i m ?_ a;simp only[sJ,zX,c];exact g
theorem zkj{k:Nat}(b:o.op=.load t x)(g:Ty P t d k)(i:yy env x=aa (.fK cs))
  (c:cj (yd d) k 0 cs=aa v) (a:w5 P t v=v'):zj P o env h=.ok v' h:=by
 refine zgG b g i ?_ a;simp only[sJ];simpa only[cj,l8,kZ]using c
theorem tc{k:Nat}{y:Operand}{vs:List AV}{b a:AV}(g:o.op=.store t x y)(q:Ty P t d k)(u:yy env x=aa (.ptr (h.zh.length+j) off))(p:yy env y=aa b)
  (c:w5 P t b=a) (s:a.cells?=aa vs) (m:vs.length=k) (i:L[j]?=aa (.cells cs)) (r:Nat.ble (off+k) cs.length=true) (hs:yX cs off vs=cs'):zj P o env (h.ext L M)=.ok wb (h.ext (L.set j (.cells cs')) M):=by
 refine zie g q u p c ?_;simp only[mI,s,zX,i];rw[nK ⟨m,l4 r⟩,vU,hs]
end
theorem zqs{h:AH}{L0 L1 L':List q6}{M0 M1 M':List Nat}{env:List AV}(p:zB (h.zh.length+L0.length) (h.zs.length+M0.length) env=true)(s:L'.take L0.length=L1)(q:M'.take M0.length=M1)
  (r:∀(i:Nat)(k:q6),L1[i]?=aa k->L0[i]?=aa k \/ k.low (h.zh.length+L0.length) (h.zs.length+M0.length)=true) :
  wk (h.ext L0 M0) env (h.ext L' M') env (h.ext L1 M1):=by
 have b:(h.ext L0 M0).zh.length=h.zh.length+L0.length:=by simp[AH.ext]
 have c:(h.ext L0 M0).zs.length=h.zs.length+M0.length:=by simp[AH.ext]
 have:=wk.cut (hd:=h.ext L0 M0) (env:=env) (h:=h.ext L' M') (by rw[b,c];exact p) (λi k hi a=>by
  rw[b]at hi;rw[b,c];simp only[AH.ext]at a ⊢;rcases kR i h.zh.length with g|g
  ·rw[ol g]at a ⊢;exact .inl a
  ·rw[pa g]at a ⊢;exact r (i-h.zh.length) k (by grind))
 have m:(h.ext L' M').cut (h.ext L0 M0).zh.length (h.ext L0 M0).zs.length=h.ext L1 M1:=by
  rw[b,c];simp only[AH.cut,AH.ext,kx,m3,s,q];rw[lh (l:=h.zh) (by omega),lh (l:=h.zs) (by omega)]
 rw[m]at this;exact this
theorem zrX{P:Program}{o:Oper}{env:List AV}{h:AH}{L:List q6}{M:List Nat}{s:List UInt8}{k:Nat}(a:o.op=.range t x)(g:Ty P t .string k)(i:yy env x=aa (.str s))(m:L.length=n) :
  zj P o env (h.ext L M)=.ok (.ptr (h.zh.length+n) 0) (h.ext (L++[.ec s 0]) M):=by
 obtain⟨c,b⟩:=zF i;simp only[zj,a,c,oS,g.u,b,zdr,<- m];simp[AH.ext]
theorem zoF{P:Program}{b:Array Oper}{Q:List AV->AH->Prop}{o:Oper}{rest:List Oper}{env:List AV}{w:List AV}{r:List AV}{h:AH}{L:List q6}{M:List Nat}{s:List UInt8}{a:Nat}(p:aG b o env=aa true)(u:o.op=.next x true)
  (A:yy env x=aa (.ptr (h.zh.length+j) 0)) (y:L[j]?=aa (.ec s a)) (k:tX o.dst env (.fl [.bool true,.int .i64 a,.int .i32 (dec s a).1])=aa w) (c:tX o.dst env (.fl [.bool false])=aa r)
  (i:a<s.length->zx P b Q rest w (h.ext (L.set j (.ec s (a+(dec s a).2))) M)) (g:s.length<=a->zx P b Q rest r (h.ext L M)):zx P b Q (o::rest) env (h.ext L M):=by
 obtain⟨q,m⟩:=zF A;by_cases hp:a<s.length
 ·refine zt p ?_ k (i hp);simp only[zj,u,q,lB,oS,m,zpL,zX,y,hp,vU]
 ·refine zt p ?_ c (g (by omega));simp only[zj,u,q,lB,oS,m,zpL,zX,y,hp,mb]
section
variable{P:Program}{env:List AV}{h:AH}{rs:List ResultVar}{vs:List AV}
theorem zl5:sQ P env h []=aa []:=rfl
theorem zjB{t:Nat}(b:yy env (.tmp t)=aa v)(k:sQ P env h rs=aa vs):sQ P env h (.tmp t::rs)=aa (v::vs):=by
 have a:env.getD t wb=v:=by rw[lu,show env[t]?=aa v from b];rfl
 simp only[sQ,k,a]
theorem zl6{a t:Nat}{k:Nat}{L:List q6}{M:List Nat}(c:Ty P t d k)(g:yy env (.tmp a)=aa (.ptr (h.zh.length+j) 0))(m:L[j]?=aa (.cells cs))(p:cj (yd d) k 0 cs=aa v)(w:w5 P t v=v')
  (r:sQ P env (h.ext L M) rs=aa vs):sQ P env (h.ext L M) (.cell a t::rs)=aa (v'::vs):=by
 have b:env.getD a wb=.ptr (h.zh.length+j) 0:=by rw[lu,show env[a]?=aa _ from g];rfl
 obtain⟨i,s,q⟩:=c.i;simp only[sQ,c.u,s,q,b,sJ,zX,m,r];have e:(if yd d then if 0+k<=cs.length then aa (AV.agg ((cs.drop 0).take k))else ac else cs[0]?)=aa v:=p
 simp_all
theorem zil{K:AV->AH->Prop}{h0:AH}(c:fn.results=⟨rs⟩)(a:sQ P env h rs=aa [v])(b:nQ h0 K v h):pi P fn h0 K .ret env h:=by
 simp only[pi,zpK,c,a];exact b
end
theorem wm{h:AH}{L:List q6}{M:List Nat}{K:AV->AH->Prop}(b:g6 v v')(c:v'.low h.zh.length h.zs.length=true)(a:K v' h):nQ h K v (h.ext L M):=by
 refine zrP b c (λi k hi a=>.inl ?_) (by rw[znl];exact a);simp only[AH.ext]at a
 grind
theorem zw{P : Program}{c : Code}(hf : P.funcs[f]? = aa fn)(hb : fn.body = aa c)(hname : (fn.name == "runtime.NumGoroutine") = false){args : List AV}{h : AH}{K : AV→AH→Prop}{env : List AV}
  (he:args++List.replicate (fn.ntmps-args.length) wb=env) (hw:vi P c (pi P fn h K) env (h.ext [] [])):Spec P f args h K:=by
 rw[oL]at hw;exact zbM hf hb hname (by simp_all)
theorem z7(hd:yd d=true){k off:Nat}{cs cs':List AV}(h:Nat.ble (off+k) cs.length=true)(a:(cs.drop off).take k=cs'):cj (yd d) k off cs=aa (.agg cs'):=by
 rw[hd];exact zj2 h a
theorem qt{P:Program}{k:Nat}(a:P.underlying t=aa d)(hi:(P.info? t).map (λi=>i.size)=aa k):Ty P t d k:=by
 refine⟨a,?_⟩
 simp_all
theorem vk{P:Program}{u:TypeId}{f k:Nat}(a:rX P t f=aa (off,u))(hi:(P.info? u).map (λi=>i.size)=aa k):Fo P t f off u k:=by
 refine⟨a,?_⟩
 simp_all
theorem bh{P:Program}{k:Nat}(a:P.underlying t=aa (.slice e))(hi:(P.info? e).map (λi=>(i.size,decide (i.bytes<=65536)&&decide (0<k)&&(i.zero.map (·.cells.size))==aa k))=aa (k,true)):El P t e k:=by
 refine⟨a,?_⟩;cases h:P.info? e with
 |none=>rw[h]at hi;cases hi
 |some i =>
  simp_all
theorem w64{n:Int}(h:-9223372036854775808<=n/\n<=9223372036854775807):IntKind.i64.wrap n=n:=by rw[IntKind.wrap_i64];omega
theorem oE{n m:Int}(e:n=m)(h:-9223372036854775808<=n/\n<=9223372036854775807):AV.int .i64 (IntKind.i64.wrap n)=.int .i64 m:=by rw[w64 h,e]
theorem vK{env:List AV}:oz env [] []=aa []:=rfl
theorem xy{env:List AV}{r:List Operand}{ts:List TypeId}{l:List (TypeId×AV)}(h:yy env x=aa v)(k:oz env r ts=aa l):oz env (x::r) (t::ts)=aa ((t,v)::l):=by
 simp only[oz,h,k]
theorem zwL(h:n<=maxLen):n<=9223372036854775807:=h
theorem Spec.le{P:Program}{a5 bs:List AV}{h:AH}{K:AV->AH->Prop}(s:Spec P f bs h K)(k:fc a5 bs):Spec P f a5 h K :=
 ⟨s.1,λB w0 _ g w vs r a=>s.2 B w0 g w vs r (k _ _ a)⟩
abbrev zqU:=wP
structure PK(P:Program)(t:TypeId)(ks:List Kd):Prop where
 g:P.eqGuardType P.depth t=false
 a:(P.underlying t).any yd=true
 k:wP P 6 t=aa ks
theorem zwI{P:Program}(a:P.eqGuardType P.depth t=false)(b:(P.underlying t).any yd=true)(c:zqU P 6 t=aa ks):PK P t ks:=⟨a,b,c⟩
theorem ph{P:Program}{b:Bool}(c:PK P t ks)(h:sN ks cs ds=aa b):yL P .eql t (.agg cs) (.agg ds)=aa (.bool b):=by
 simp only[yL,c8,c.g,c.a,c.k,iO,j5,oS,h,lK]
theorem ow{P:Program}{b:Bool}(c:PK P t ks)(h:sN ks cs ds=aa b):yL P .neq t (.agg cs) (.agg ds)=aa (.bool !b):=by
 simp only[yL,c8,c.g,c.a,c.k,iO,j5,oS,h,lK]
structure PKA(P:Program)(t:TypeId)(ks:List Kd):Prop where
 g:P.eqGuardType P.depth t=false
 a:(P.underlying t).any yd=true
 k:(wP P 6 t).or (zpF P t)=aa ks
def mO(env:List AV):List (Nat×Operand)->Option (List (Nat×AV))
 |[]=>aa []
 |(i,x)::r=>match yy env x,mO env r with
  |some v,aa vs=>aa ((i,v)::vs)
  |_,_=>ac
theorem zaP{env:List AV}:mO env []=aa []:=rfl
theorem zeh{env:List AV}{i:Nat}{r:List (Nat×Operand)}(h:yy env x=aa v)(k:mO env r=aa l):mO env ((i,x)::r)=aa ((i,v)::l):=by simp only[mO,h,k]
inductive Fp(P:Program)(d:TypeDesc):List (Nat×AV)->List (Nat×AV)->Prop
 |nil:Fp P d [] []
 |cons {i:Nat} {v v':AV} {r s:List (Nat×AV)}:w5 P (zjL d i) v=v'->Fp P d r s->Fp P d ((i,v)::r) ((i,v')::s)
theorem zch{P:Program}{d:TypeDesc}{env:List AV}:∀{parts:List (Nat×Operand)} {l l':List (Nat×AV)},mO env parts=aa l->Fp P d l l' ->
  parts.all (λp=>yo p.2)=true/\parts.map (λp=>(p.1,w5 P (zjL d p.1) (ev env p.2)))=l'
 |[],l,l',h,hf=>by simp only[mO,p5]at h;subst h;cases hf;exact⟨rfl,rfl⟩
 |(i,x)::r,l,l',h,hf=>by
  simp only[mO]at h;split at h
  ·rename_i v vs b a;cases h;cases hf with
   |cons h1 h2 =>
    obtain⟨m,g⟩:=zch a h2;obtain⟨k,c⟩:=zF b
    grind
  ·cases h
theorem zl0{P:Program}{o:Oper}{env:List AV}{h:AH}{parts:List (Nat×Operand)}{fs:Array Field}{b:List (Nat×Nat)}(q:o.op=.build t ⟨parts⟩)(s:P.underlying t=aa (.struct fs))(g:yY P t=aa z)
  (k:zbm P fs=aa b) (r:mO env parts=aa l) (m:Fp P (.struct fs) l l') (w:qJ (λi=>b[i]?) z l'=aa cs) (u:cs=cs'):zj P o env h=.ok (.agg cs') h:=by
 obtain⟨y,c⟩:=zch r m;have a:(⟨parts⟩:Array (Nat×Operand)).all (λp=>yo p.2)=true:=by grind
 simp only[zj,q,a,oS,s,g,k,xS,c,w,lK,oo,u]
theorem zbe{P:Program}{o:Oper}{env:List AV}{h:AH}{k:Nat}{parts:List (Nat×Operand)}(q:o.op=.build t ⟨parts⟩)(s:P.underlying t=aa (.array n e))(g:yY P t=aa z)
  (y:Ty P e d k) (r:mO env parts=aa l) (m:Fp P (.array n e) l l') (A:qJ (λi=>aa (i*k,k)) z l'=aa cs) (w:cs=cs'):zj P o env h=.ok (.agg cs') h:=by
 obtain⟨B,b⟩:=zch r m;obtain⟨j,u,c⟩:=y.i;have a:(⟨parts⟩:Array (Nat×Operand)).all (λp=>yo p.2)=true:=by grind
 simp only[zj,q,a,oS,s,g,u,c,xS,b,A,lK,oo,w]
theorem xh{P:Program}{o:Oper}{env:List AV}{h:AH}{k:Nat}{parts:List (Nat×Operand)}{es:List (List AV)}(y:o.op=.buildSlice t n ⟨parts⟩)(c:El P t e k)(s:yY P e=aa z)
  (m:Nat.ble (n*k) 65536=true) (a:z.length=k) (A:mO env parts=aa l) (w:Fp P (.slice e) l l') (D:qJ (λi=>aa (i*k,k)) ((List.replicate n z).flatten) l'=aa cs) (E:xO cs=aa cs') (B:rows k n cs'=es) :
  zj P o env h=.ok (.gW ac k es) h:=by
 obtain⟨F,g⟩:=zch A w;obtain⟨j,C,q,_,r,_⟩:=c.i;have b:(⟨parts⟩:Array (Nat×Operand)).all (λp=>yo p.2)=true:=by grind
 simp only[zj,y,b,oS,c.u,s,C,q,xS,g,D,E,B,r,l4 m,a,j5]
end Go.Vv
namespace Go.Vv
open Go
variable{i:Nat}{c:Operand}{body:Code}{N:List AV->AH->Prop}

abbrev zp:=List UInt8
def dc(k:IntKind)(n:Int):Prop:=k.min<=n/\n<=k.max
inductive Out(ρ σ:Type) where
 |ret (r:ρ)
 |brk (s:σ)
 |gV (s:σ)
section
variable{α ρ σ:Type}
def zf(f:Nat->α->σ->Option (Out ρ σ)):List α->Nat->σ->Option (ρ ⊕ σ)
 |[],_,s=>aa (.inr s)
 |x::t,i,s=>match f i x s with
  |none=>ac
  |some (.ret r)=>aa (.inl r)
  |some (.brk s')=>aa (.inr s')
  |some (.gV s')=>zf f t (i+1) s'
def qi(f:σ->Option (Out ρ σ)):Nat->σ->Option (ρ ⊕ σ)
 |0,_=>ac
 |n+1,s=>match f s with
  |none=>ac
  |some (.ret r)=>aa (.inl r)
  |some (.brk s')=>aa (.inr s')
  |some (.gV s')=>qi f n s'
theorem zbq{f:σ->Option (Out ρ σ)}:∀{n m:Nat}{s:σ} {o:ρ ⊕ σ},qi f n s=aa o->n<=m->qi f m s=aa o
 |0,_,_,_,h,_=>by simp[qi]at h
 |n+1,0,_,_,_,hl=>by omega
 |n+1,m+1,s,o,h,hl=>by
  simp only[qi]at h ⊢;rcases hf:f s with _|(r|a|a)<;>rw[hf]at h<;>simp only at h ⊢
  ·cases h
  ·exact h
  ·exact h
  ·exact zbq h (by omega)
open Classical in
noncomputable def ya(f:σ->Option (Out ρ σ))(s:σ):Option (ρ ⊕ σ) :=
 if h:∃n o,qi f n s=aa o then aa (Classical.choose (kV h))else ac
theorem zcn{f:σ->Option (Out ρ σ)}{n:Nat}{s:σ}{o:ρ ⊕ σ}(h:qi f n s=aa o):ya f s=aa o:=by
 have a:∃n o,qi f n s=aa o:=⟨n,o,h⟩
 unfold ya;rw[gF a];have b:=kV (kV a);have d:=zbq b (Nat.le_max_left _ n);have e:=zbq h (Nat.le_max_right (Classical.choose a) n)
 grind
theorem zaU{f:σ->Option (Out ρ σ)}{s:σ}{o:ρ ⊕ σ}(h:ya f s=aa o):∃n,qi f n s=aa o:=by
 unfold ya at h;split at h
 ·grind
 ·cases h
theorem yK(f:σ->Option (Out ρ σ))(s:σ):ya f s=match f s with
  |none=>ac
  |some (.ret r)=>aa (.inl r)
  |some (.brk b)=>aa (.inr b)
  |some (.gV b)=>ya f b:=by
 rcases hf:f s with _|(r|b|b)<;>simp only
 ·cases hx:ya f s with
  |none=>rfl
  |some o =>
   obtain⟨n,a⟩:=zaU hx;cases n<;>simp[qi,hf]at a
 ·exact zcn (n:=1) (by simp only[qi,hf])
 ·exact zcn (n:=1) (by simp only[qi,hf])
 ·cases hx:ya f b with
  |some o =>
   obtain⟨n,a⟩:=zaU hx;exact zcn (n:=n+1) (by simp only[qi,hf];exact a)
  |none =>
   cases hy:ya f s with
   |none=>rfl
   |some o =>
    obtain⟨n,a⟩:=zaU hy;cases n with
    |zero=>simp[qi]at a
    |succ n =>
     simp only[qi,hf]at a;rw[zcn a]at hx;cases hx
def lp(o:Option (ρ ⊕ σ))(rest:σ->Option ρ):Option ρ :=
 match o with
 |none=>ac
 |some (.inl r)=>aa r
 |some (.inr s)=>rest s
def zN(p:Prop)[Decidable p](o:Option ρ):Option ρ:=if p then o else ac
def zR(L:List α)(n:Int):Option α:=if 0<=n then L[n.toNat]? else ac
def fP(L:List α)(lo hi:Int):Option (List α):=if 0<=lo/\lo<=hi/\hi<=L.length then aa ((L.take hi.toNat).drop lo.toNat)else ac

theorem zd{α ρ:Type}{o:Option α}{k:α->Option ρ}{r:ρ}{G:Prop}(a:o.bind k=aa r)(b:∀v,o=aa v->k v=aa r->G):G:=by
 cases o with
 |none=>cases a
 |some v=>exact b v rfl a
theorem qQ{α ρ:Type}{b:Bool}{d:α}{o:Option α}{k:α->Option ρ}{r:ρ}{G:Prop}(a:(if b=true then o else aa d).bind k=aa r)(e:∀v,(b=true->o=aa v)->k v=aa r->G):G:=by
 cases b with
 |false=>exact e d (λh=>by cases h) a
 |true =>
  cases o with
  |none=>cases a
  |some v=>exact e v (λ_=>rfl) a
theorem zJ{p:Prop}[Decidable p]{o:Option ρ}{r:ρ}{G:Prop}(a:zN p o=aa r)(b:p->o=aa r->G):G:=by
 unfold zN at a
 simp_all
theorem zsm{L:List α}{n:Int}{y:α}(h:zR L n=aa y):0<=n/\L[n.toNat]?=aa y:=by
 unfold zR at h
 simp_all
theorem zxq{L M:List α}{lo hi:Int}(h:fP L lo hi=aa M):(0<=lo/\lo<=hi/\hi<=L.length)/\M=(L.take hi.toNat).drop lo.toNat:=by
 unfold fP at h
 simp_all

def zuH(f:Nat->α->σ->Option (Out ρ σ))(L:List α)(i:Nat)(rest:σ->Option ρ):Out ρ σ->Option ρ
 |.ret r=>aa r
 |.brk s=>rest s
 |.gV s=>lp (zf f (L.drop (i+1)) (i+1) s) rest
def zuG(f:σ->Option (Out ρ σ))(n:Nat)(rest:σ->Option ρ):Out ρ σ->Option ρ
 |.ret r=>aa r
 |.brk s=>rest s
 |.gV s=>lp (qi f n s) rest
def zxM(rest:σ->Option ρ):ρ ⊕ σ->Option ρ
 |.inl r=>aa r
 |.inr s=>rest s
theorem zen{f:Nat->α->σ->Option (Out ρ σ)}{L:List α}{s:σ}{rest:σ->Option ρ}{d:ρ}(h:lp (zf f (L.drop i) i s) rest=aa d)(b:i<L.length) :
  ∃x g,L[i]?=aa x/\f i x s=aa g/\zuH f L i rest g=aa d:=by
 have e:=(j8 b).symm;rw[e]at h;refine⟨L[i],?_⟩;simp only[zf]at h;split at h
 ·cases h
 ·rename_i r a;exact⟨.ret r,rk b,a,h⟩
 ·rename_i r a;exact⟨.brk r,rk b,a,h⟩
 ·rename_i r a;exact⟨.gV r,rk b,a,h⟩
theorem zhc{f:Nat->α->σ->Option (Out ρ σ)}{L:List α}{s:σ}{rest:σ->Option ρ}{a:ρ}(h:lp (zf f (L.drop i) i s) rest=aa a)(b:¬i<L.length):rest s=aa a:=by
 rw[lW (by omega)]at h;exact h
theorem lpF{o:Option (ρ ⊕ σ)}{rest:σ->Option ρ}{b:ρ}(h:lp o rest=aa b):∃a,o=aa a/\zxM rest a=aa b:=by
 cases o with
 |none=>cases h
 |some a=>cases a<;>exact⟨_,rfl,h⟩
end
section
variable{P:Program}{Q:Exit->List AV->AH->Prop}{env:List AV}{h:AH}{α ρ σ:Type}
theorem si{t e:Code}{b:Bool}{A B:Option ρ}{r:ρ}(j:yy env c=aa (.bool b))(a:(if b=true then A else B)=aa r)(g:b=true->A=aa r->vi P t Q env h)(f:b=false->B=aa r->vi P e Q env h) :
  vi P (.cond c t e) Q env h:=by
 refine oY j (λd=>g d ?_) (λd=>f d ?_)
 ·simp_all
 ·simp_all
theorem zqS{f:Nat->α->σ->Option (Out ρ σ)}{L:List α}{s:σ}{rest:σ->Option ρ}{b:ρ}{t e:Code}(l:yy env c=aa (.bool (decide ((i:Int)<(L.length:Int)))))(a:lp (zf f (L.drop i) i s) rest=aa b)
  (o:∀x j,i<L.length->L[i]?=aa x->f i x s=aa j->zuH f L i rest j=aa b->vi P t Q env h) (k:rest s=aa b->vi P e Q env h):vi P (.cond c t e) Q env h:=by
 refine oY l (λg=>?_) (λg=>?_)
 ·have d:i<L.length:=by have:=lX g;omega
  obtain⟨x,j,n,m,p⟩:=zen a d
  simp_all
 ·have d:¬i<L.length:=by have:=of_decide_eq_false g;omega
  exact k (zhc a d)
theorem zot{f:Nat->α->σ->Option (Out ρ σ)}{L:List α}{k:σ}{rest:σ->Option ρ}{j:ρ}(U:Nat->σ->List (Nat×AV))(H:σ->AH)(a:lp (zf f L 0 k) rest=aa j){E:Nat->σ->List AV}
  (o:∀i s,bi env (U i s)=E i s) (h0:wk h env h (E 0 k) (H k))
  (hs:∀i s,i<=L.length->lp (zf f (L.drop i) i s) rest=aa j->vi P body (sn (λb g=>∃d,i<L.length/\lp (zf f (L.drop (i+1)) (i+1) d) rest=aa j/\wk (H s) b g (E (i+1) d) (H d)) Q) (E i s) (H s)) :
  vi P (.loop body) Q env h:=by
 refine zgR (σ:=Nat×σ) (λp=>E p.1 p.2) (λp=>H p.2) (λp=>p.1<=L.length/\lp (zf f (L.drop p.1) p.1 p.2) rest=aa j) (λp=>L.length-p.1) (0,k) h0 ⟨lV _,a⟩ ?_
 rintro⟨i,s⟩ ⟨hi,a⟩
 have:=hs i s hi a;have e:(sn (λb g=>∃d,i<L.length/\lp (zf f (L.drop (i+1)) (i+1) d) rest=aa j/\wk (H s) b g (E (i+1) d) (H d)) Q) =
  λx b g=>match x with|.normal=>∃d,i<L.length/\lp (zf f (L.drop (i+1)) (i+1) d) rest=aa j/\wk (H s) b g (E (i+1) d) (H d)|x=>Q x b g:=rfl
 refine vJ ?_ _ _ _ this;intro x b g l;cases x with
 |normal =>
  obtain⟨d,n,m,q⟩:=l;exact⟨(i+1,d),⟨n,m⟩,by omega,q⟩
 |_=>exact l
theorem zou{f:Nat->α->σ->Option (Out ρ σ)}{L:List α}{e:σ}{rest:σ->Option ρ}{g:ρ}(U:Nat->σ->List (Nat×AV))(H:σ->AH)(a:lp (zf f L 0 e) rest=aa g){E:Nat->σ->List AV}
  (n:∀i s,bi env (U i s)=E i s) (h0:wk h env h (E 0 e) (H e))
  (hs:∀i s,i<=L.length->lp (zf f (L.drop i) i s) rest=aa g->vi P body (sn (λb j=>∃d,i<L.length/\lp (zf f (L.drop (i+1)) (i+1) d) rest=aa g/\wk h b j (E (i+1) d) (H d)) Q) (E i s) (H s)) :
  vi P (.loop body) Q env h:=by
 refine zij (σ:=Nat×σ) (λp=>E p.1 p.2) (λp=>H p.2) (λp=>p.1<=L.length/\lp (zf f (L.drop p.1) p.1 p.2) rest=aa g) (λp=>L.length-p.1) (0,e) h0 ⟨lV _,a⟩ ?_
 rintro⟨i,s⟩ ⟨hi,a⟩
 refine vJ ?_ _ _ _ (hs i s hi a);intro x b j k;cases x with
 |normal =>
  obtain⟨d,m,l,o⟩:=k;exact⟨(i+1,d),⟨m,l⟩,by omega,.inr o⟩
 |_=>exact k
theorem xl{f:σ->Option (Out ρ σ)}{k:σ}{rest:σ->Option ρ}{e:ρ}(U:σ->List (Nat×AV))(H:σ->AH)(a:lp (ya f k) rest=aa e){E:σ->List AV}
  (v:∀s,bi env (U s)=E s) (h0:wk h env h (E k) (H k))
  (hs:∀n s d,f s=aa d->zuG f n rest d=aa e->vi P body (sn (λb q=>∃g,lp (qi f n g) rest=aa e/\wk (H s) b q (E g) (H g)) Q) (E s) (H s)) :
  vi P (.loop body) Q env h:=by
 obtain⟨u,o⟩:∃n,lp (qi f n k) rest=aa e:=by
  obtain⟨d,j,m⟩:=lpF a;obtain⟨n,w⟩:=zaU j
  grind
 refine zgR (σ:=Nat×σ) (λp=>E p.2) (λp=>H p.2) (λp=>lp (qi f p.1 p.2) rest=aa e) (λp=>p.1) (u,k) h0 o ?_
 rintro⟨n,s⟩ a
 cases n with
 |zero=>simp[qi,lp]at a
 |succ n =>
  obtain⟨d,j,m⟩:∃d,f s=aa d/\zuG f n rest d=aa e:=by
   simp only[qi]at a;split at a
   ·cases a
   ·rename_i r l;exact⟨.ret r,l,a⟩
   ·rename_i r l;exact⟨.brk r,l,a⟩
   ·rename_i r l;exact⟨.gV r,l,a⟩
  refine vJ ?_ _ _ _ (hs n s d j m);intro x b q t;cases x with
  |normal =>
   obtain⟨g,j,m⟩:=t;exact⟨(n,g),j,by omega,m⟩
  |_=>exact t
def zrC(h0:AH)(N:List AV->AH->Prop)(Q:Exit->List AV->AH->Prop):Exit->List AV->AH->Prop:=λx env' h'=>match x with
 |.normal=>N env' h'
 |x=>Q x env' h'
theorem zee{a b:Code}{J:Option (ρ ⊕ σ)}{rest:σ->Option ρ}{e:ρ}(U:σ->List (Nat×AV))(H:σ->AH)(r:lp J rest=aa e){E:σ->List AV}(l:∀s,bi env (U s)=E s)
  (k:∀f,J=aa f->zxM rest f=aa e->vi P a (zrC h (λd g=>∃s,rest s=aa e/\wk h d g (E s) (H s)) Q) env h)
  (q:∀s,rest s=aa e->vi P b Q (E s) (H s)):vi P (.seq a b) Q env h:=by
 obtain⟨f,o,m⟩:=lpF r;refine wr (vJ ?_ _ _ _ (k f o m));intro x d g j;cases x with
 |normal =>
  obtain⟨s,p,n⟩:=j;exact⟨_,_,n,q s p⟩
 |_=>exact j
theorem sj{h0:AH}(a:N env h):zrC h0 N Q .normal env h:=a
theorem zef{h0:AH}(a:Q .ret env h):zrC h0 N Q .ret env h:=a
end
end Go.Vv
namespace Go.Vv
open Go
variable{q:Option Nat}{i x y c:Operand}{ops:Array Oper}{j d id k' m off:Nat}{t e u e':TypeId}{a:AV}{b:Bool}{ρ:Type}{Q:List AV->AH->Prop}{rest l:List Oper}{env' cs cs':List AV}{n:Int}{B L' B':List q6}{T T' Ns M' M1:List Nat}{F:Nat->AH->Prop}{f:FuncId}{g:Gh}{hd:AH}{w0 w:World}{K:AV->AH->Prop}

abbrev yl(s:zp):List AV:=[.str s]
def znI(b:UInt8):List AV:=[.int .u8 b.toNat]
abbrev zeA(k:IntKind)(n:Int):List AV:=[.int k n]
def zqq{α:Type}(a:AV)(z:Nat)(row:α->List AV)(L:List α):Prop:=a=.sl z (L.map row) \/ ∃q,a=.gW q z (L.map row)
section
variable{α:Type}{row:α->List AV}{L M:List α}{z:Nat}
theorem oF:zqq (.sl z (L.map row)) z row L:=.inl rfl
theorem zza:zqq (.gW q z (L.map row)) z row L:=.inr ⟨_,rfl⟩
theorem vO{k:Nat}{f:α->List AV}{L:List α}:zpM (.sl k (L.map f))=aa L.length:=by simp[zpM]
theorem zrs{k:Nat}{f:α->List AV}{L:List α}:zpM (.gW q k (L.map f))=aa L.length:=by simp[zpM]
theorem zu{i:Nat}{x:α}(h:L[i]?=aa x):zR L (i:Int)=aa x:=by
 unfold zR;rw[nK (by omega),o5];exact h
end
theorem zpS{α:Type}{L:List α}{lo hi:Int}(h:0<=lo/\lo<=hi/\hi<=L.length):fP L lo hi=aa ((L.take hi.toNat).drop lo.toNat):=nK h
theorem ze4{o:Oper}{env:List AV}{k:Bool}(r:o.guard=aa (j,k))(hd:(ops[j]?).bind (·.dst)=aa d)(p:env[d]?=aa (.bool (!k))):aG ops o env=aa false:=by
 simp only[aG,r,hd,p];cases k<;>rfl
theorem zdH{P:Program}{k:Nat}{a:Bool}(p:Ty P t .bool k):yL P .eql t (.bool a) (.bool b)=aa (.bool (a==b)):=by simp only[yL,c8,p.u,lK]
theorem znO{P:Program}{k:Nat}{a:Bool}(p:Ty P t .bool k):yL P .neq t (.bool a) (.bool b)=aa (.bool !(a==b)):=by simp only[yL,c8,p.u,lK]
set_option maxHeartbeats 4000000 in
theorem zcx{P:Program}{k:Nat}{d:TypeDesc}{x y:AV}(p:Ty P t d k)(h:aP d x y=aa b):yL P .eql t x y=aa (.bool b):=by
 cases x<;>cases y<;>first|(cases d<;>simp[aP]at h;done)|(simp only[yL,c8,p.u,h,lK])
set_option maxHeartbeats 4000000 in
open Classical in
noncomputable def b5{α:Type}(L:List α)(f:Bool->Option ρ):Option ρ:=if L=[]/\f true≠f false then ac else f false
theorem zwH{α:Type}{L:List α}{f:Bool->Option ρ}{r:ρ}(h:b5 L f=aa r):f false=aa r/\(L=[]->f true=aa r):=by
 unfold b5 at h
 simp_all
theorem zrk{α:Type}{L:List α}{f:Bool->Option ρ}{r:ρ}(p:f false=aa r)(k:L=[]->f true=aa r):b5 L f=aa r:=by
 unfold b5
 simp_all
theorem tN{P:Program}{o:Oper}{env:List AV}{env':Bool->List AV}{h:AH}{k z:Nat}{α:Type}{row:α->List AV}{L:List α}{f:Bool->Option ρ}{r:ρ}(J:aG ops o env=aa true)
  (H:o.op=.binOp .eql t x y u) (D:El P t e k) (V:yy env x=aa a) (W:zqq a z row L) (U:yy env y=aa .fT) (hd:∀b:Bool,tX o.dst env (.bool b)=aa (env' b)) (R:b5 L f=aa r)
  (N:∀b,(b=true->L=[])->f b=aa r->zx P ops Q rest (env' b) h):zx P ops Q (o::rest) env h:=by
 obtain⟨G,C⟩:=zF V;obtain⟨I,E⟩:=zF U;obtain⟨S,A⟩:=zwH R;have key:∀b,(b=true->L.map row=[])->zx P ops Q rest (env' b) h:=λb s=>by
  have p:b=true->L=[]:=λh=>by simp_all
  refine N b p ?_;cases b with
  |false=>exact S
  |true=>exact A (p rfl)
 refine qk ?_;simp only[J,bn];rcases W with rfl|⟨q,rfl⟩
 ·simp only[zj,H,G,I,lB,oS,C,E,mU,D.u,bm]
  rintro v O ⟨rfl,b,rfl,s⟩
  rw[yU (hd b)];exact key b s
 ·simp only[zj,H,G,I,lB,oS,C,E,mU,D.u,bm]
  rintro v O ⟨rfl,b,rfl,s⟩
  rw[yU (hd b)];exact key b s
section
variable{P:Program}{o:Oper}{env:List AV}{h:AH}{α:Type}{row:α->List AV}{L:List α}
theorem zqG{a b:Operand}{x y:AV}(k:o.op=.pick c a b)(s:yy env c=aa (.bool false))(p:yy env a=aa x)(r:yy env b=aa y):zj P o env h=.ok y h:=zlZ k s p r (by simp)
theorem nj{k:IntKind}{z:Nat}{y:α}(s:o.op=.indexAddr t x i)(A:El P t e z)(C:yy env x=aa a)(hi:yy env i=aa (.int k n))(v:zqq a z row L)(r:zR L n=aa y) :
  zj P o env h=.ok (.fK (row y)) h:=by
 obtain⟨h0,r⟩:=zsm r;refine zap s A C hi ?_;have p:(L.map row)[n.toNat]?=aa (row y):=by simp_all
 rcases v with rfl|⟨q,rfl⟩<;>simp only[tA,h0,j5,oS,p,lK]
theorem yu{k:IntKind}{z:Nat}{y:α}(p:o.op=.indexAddr t x i)(v:El P t e z)(C:yy env x=aa a)(hi:yy env i=aa (.int k n))(r:zqq a z row L)(s:zR L n=aa y)(A:row y=cs) :
  zj P o env h=.ok (.fK cs) h:=by rw[<- A];exact nj p v C hi r s
theorem zcK{k:IntKind}{z:Nat}(d:α)(p:o.op=.indexAddr t x i)(s:El P t e z)(v:yy env x=aa a)(hi:yy env i=aa (.int k n))(r:zqq a z row L)(A:0<=n/\n<L.length) :
  zj P o env h=.ok (.fK (row (L.getD n.toNat d))) h:=by
 refine nj p s v hi r ?_;unfold zR
 simp_all
theorem qn{k:IntKind}{z:Nat}(d:α)(p:o.op=.indexAddr t x i)(s:El P t e z)(A:yy env x=aa a)(hi:yy env i=aa (.int k n))(r:zqq a z row L)(C:0<=n/\n<L.length)
  (v:row (L.getD n.toNat d)=cs):zj P o env h=.ok (.fK cs) h:=by rw[<- v];exact zcK d p s A hi r C
theorem zoh{s:zp}{k:IntKind}{z:Nat}{b:UInt8}(r:o.op=.index t x i)(v:Ty P t .string z)(A:yy env x=aa (.str s))(hi:yy env i=aa (.int k n))(p:zR s n=aa b) :
  zj P o env h=.ok (.int .u8 b.toNat) h:=by
 obtain⟨h0,p⟩:=zsm p;refine zkR r v A hi ?_;simp only[nY,h0,oS,p,lK]
inductive Bd(env:List AV):Option Operand->Int->Int->Prop
 |none {d:Int}:Bd env ac d d
 |some {x:Operand} {k:IntKind} {n d:Int}:yy env x=aa (.int k n)->Bd env (aa x) d n
theorem Bd.all{x:Option Operand}{d n:Int}(h:Bd env x d n):x.all yo=true:=by
 cases h with
 |none=>rfl
 |some h=>exact(zF h).1
theorem Bd.ab{x:Option Operand}(h:Bd env x d n)(h0:0<=n):oD d (x.map (ev env))=Option.some n.toNat:=by
 cases h with
 |none=>rfl
 |some h=>simp only[lK,(zF h).2,oD,nK h0]
theorem qU{lo hi:Option Operand}{M:List α}{l hh:Int}{z:Nat}(H:o.op=.slice t x lo hi ac)(r:El P t e z)(J:yy env x=aa a)(O:a=.sl z (L.map row) \/ ∃q,a=.gW q z (L.map row)/\(hi.isSome=true \/ q.isSome=true))(v:Bd env lo 0 l)(k:Bd env hi L.length hh)
  (C:fP L l hh=aa M):zj P o env h=.ok (.sl z (M.map row)) h:=by
 obtain⟨⟨h0,S,R⟩,rfl⟩:=zxq C;obtain⟨I,D⟩:=zF J;obtain⟨i,E,N,_⟩:=r.i;have A:=Bd.ab (d:=0) v h0;have s:=Bd.ab (d:=L.length) k (by omega);simp only[zj,H,I,v.all,k.all,Option.all_none,lB,oS,r.u,D,E,N,Option.map_none];rcases O with rfl|⟨q,rfl,p⟩
 ·simp only[w5,oS,zdP,nX,A,oa,s,j3,s5,mb];rw[nK (by omega)];simp only[oo,List.map_drop,gq]
 ·simp only[w5,oS,zdP,nX,A,oa,s];rw[nK (by omega)];have G:(q.isNone&&(hi.map (ev env)).isNone)=false:=by
   rcases p with p|p
   ·simp_all
   ·cases q<;>simp_all
  simp only[G,s5,mb,oo,List.map_drop,gq]
theorem zut{M:List α}{k:Nat}{r:AH}(s:L.length+M.length<=lim)(p:h.grow q L.length M.length=aa (id,r)):pq h k (.gW q k (L.map row)) (M.map row)=aa (.gW (aa id) k ((L++M).map row),r):=by
 simp only[pq,oa];by_cases h0:M.length=0
 ·have:M=[]:=lA h0;subst this;rw[nK (show([]:List α).length=0 from rfl)];cases q with
  |none =>
   simp only[AH.grow,lC,ja,p5,kG]at p
   simp_all
  |some id' =>
   simp only[AH.grow,lC,ja]at p;split at p
   ·rename_i v;simp only[p5,kG]at p;obtain⟨rfl,rfl⟩:=p;have:h.zs.set id' L.length=h.zs:=by
     refine lT λj=>?_
     grind
    simp[this]
   ·cases p
 ·simp_all
variable{M:List α}
theorem zud{c:Call}{k:Nat}{b r:AV}(v:o.op=.call c)(J:c.callee=.builtin .append)(hs:c.args=#[x,y])(H:c.argTypes=#[t,u])(G:El P t e k)
  (p:El P u e' k') (N:yy env x=aa a) (C:yy env y=aa b) (A:w5 P t a=.gW ac k (L.map row)) (I:w5 P u b=r) (O:oU k r=aa (M.map row)) (D:L.length+M.length<=lim) (s:T.length=m) (E:T++[(L++M).length]=T') :
  zj P o env (h.ext B T)=.ok (.gW (aa (h.zs.length+m)) k ((L++M).map row)) (h.ext B T'):=by
 refine zfm v J hs H G p N C A I O (zut D ?_);subst E s;simp[AH.grow,AH.ext]
theorem zuc{c:Call}{k:Nat}{b r:AV}(D:o.op=.call c)(O:c.callee=.builtin .append)(hs:c.args=#[x,y])(s:c.argTypes=#[t,u])(H:El P t e k)
  (p:El P u e' k') (I:yy env x=aa a) (G:yy env y=aa b) (N:w5 P t a=.gW (aa (h.zs.length+j)) k (L.map row)) (v:w5 P u b=r) (J:oU k r=aa (M.map row)) (E:L.length+M.length<=lim) (R:T[j]?=aa L.length) (C:T.set j (L++M).length=T') :
  zj P o env (h.ext B T)=.ok (.gW (aa (h.zs.length+j)) k ((L++M).map row)) (h.ext B T'):=by
 refine zfm D O hs s H p I G N v J (zut E ?_);subst C;have A:(h.zs++T)[h.zs.length+j]?=aa L.length:=by grind
 simp only[AH.grow,AH.ext,A,oS]
 simp_all
theorem zc2{k:Nat}:oU k (.sl k (M.map row))=aa (M.map row):=by simp[oU]
theorem zfD{k:Nat}:oU k (.gW q k (M.map row))=aa (M.map row):=by simp[oU]
theorem zoQ{s:zp}:oU 1 (.str s)=aa (s.map znI):=by rfl
end
theorem fc.pre{a5 bs:List AV}:∀{cs:List AV},fc a5 bs->fc (cs++a5) (cs++bs)
 |[],k=>k
 |_::_,k=>fc.eq (fc.pre k)
def ziI:List (Nat×q6)->List q6->Prop
 |[],_=>True
 |(j,b)::r,B=>B[j]?=aa b/\ziI r B
theorem wH{b:q6}{r:List (Nat×q6)}(h:ziI ((j,b)::r) B):B[j]?=aa b:=h.1
def lk:List (Nat×List (Nat×q6))->Nat->List (Nat×q6)
 |[],_=>[]
 |(m,l)::r,n=>if n=m then l else lk r n
def zlu(h:AH)(l:List (Nat×q6))(x:AH):Prop:=∃B T,x=h.ext B T/\ziI l B
theorem nG{h:AH}{l:List (Nat×q6)}(k:ziI l B):zlu h l (h.ext B T):=⟨_,_,rfl,k⟩
def zo2:List (Nat×List (Nat×q6))->List q6->Prop
 |[],_=>True
 |(_,l)::r,B=>ziI l B/\zo2 r B
theorem zj9:∀{l:List (Nat×List (Nat×q6))} {B:List q6},zo2 l B->∀n,ziI (lk l n) B
 |[],_,_,_=>trivial
 |(m,l)::r,B,h,n=>by
  simp only[lk];split
  ·exact h.1
  ·exact zj9 h.2 n
theorem f0.all{b:Nat}{G:AH->Prop}{h:AH}(k:G h):f0 b Ns (λ_=>G) h:=λ_ _ _=>k
theorem f0.nil{b:Nat}{h:AH}:f0 b [] F h:=λ_ h _=>by simp at h
theorem f0.cons{b n:Nat}{h:AH}(k:b.testBit n=true \/ F n h)(p:f0 b Ns F h):f0 b (n::Ns) F h:=λm s r=>by
 rcases k with k|k
 ·by_cases e:m=n
  ·simp_all
  ·exact p m (by simp_all) r
 ·by_cases e:m=n
  ·simp_all
  ·exact p m (by simp_all) r
abbrev zU(h:AH)(i j k n:Nat):AV:=.fo (h.zh.length+i) (h.zs.length+j) k n
abbrev cP(h:AH)(j k:Nat)(es:List (List AV)):AV:=.gW (aa (h.zs.length+j)) k es
abbrev yr(h:AH)(j k:Nat)(es:List (List AV)):q6:=.row (h.zs.length+j) k es
theorem zik{P:Program}{Q:Exit->List AV->AH->Prop}{env:List AV}{h:AH}(Ns:List Nat)(k:List (Nat×List (Nat×q6)))(s:zo2 k B)(p:P.follows .mixedOrders=true)(hd:pg ⟨l⟩ Ns=true)(r:zI P ⟨l⟩ Ns (λn=>zlu h (lk k n)) (Q .normal) 0 l env (h.ext B T)) :
  vi P (.region id ⟨l⟩ true) Q env (h.ext B T):=.inl ⟨Ns,λn=>zlu h (lk k n),⟨p,hd⟩,λn=>nG (zj9 s n),r⟩
theorem zfu{P:Program}{Q:Exit->List AV->AH->Prop}{env:List AV}{h:AH}(Ns:List Nat)(F:Nat->AH->Prop)(r:∀n,F n h)(k:P.follows .mixedOrders=true)(hd:pg ⟨l⟩ Ns=true)(p:zI P ⟨l⟩ Ns F (Q .normal) 0 l env h) :
  vi P (.region id ⟨l⟩ true) Q env h:=.inl ⟨Ns,F,⟨k,hd⟩,r,p⟩
theorem x5{h:AH}{L:List q6}{M:List Nat}:(h.ext L M).ext L' M'=h.ext (L++L') (M++M'):=by simp[AH.ext,lf]
theorem zaQ{P:Program}{o:Oper}{env:List AV}{h k:AH}{args:List AV}{v:AV}(C:aG ops o env=aa true)(A:zj P o env h=.call f args)(hs:Spec P f args h λr hh=>r=v/\hh=k)
  (hd:tX o.dst env v=aa env') (p:zx P ops Q rest env' k):zx P ops Q (o::rest) env h :=
 pU C A hs λr k ⟨s,D⟩=>by subst s;subst D;rw[yU hd];exact p
theorem wI{i:Nat}(E:Ns.contains i=false){P:Program}{ops:Array Oper}{Q:List AV->AH->Prop}{o:Oper}{rest:List Oper}{env env':List AV}{h k:AH}{f:FuncId}{args:List AV}{v:AV}(C:f0 ((Region.before ops).getD i 0) Ns F k)(p:k.zh=h.zh)(s:aG ops o env=aa true)(D:zj P o env h=.call f args)(hs:Spec P f args h λr hh=>r=v/\hh=k)
  (hd:tX o.dst env v=aa env') (A:zI P ops Ns F Q (i+1) rest env' k):zI P ops Ns F Q i (o::rest) env h :=
 ⟨v,k,.inl ⟨E,by simp only[AR,s,D];exact hs⟩,.inr p,.inr C,by rw[yU hd];exact A⟩
theorem zpl{i:Nat}(C:Ns.contains i=false){P:Program}{ops:Array Oper}{Q:List AV->AH->Prop}{o:Oper}{rest:List Oper}{env env':List AV}{h k:AH}{v:AV}(D:f0 ((Region.before ops).getD i 0) Ns F k)(A:k.zh=h.zh)(s:aG ops o env=aa true)(r:zj P o env h=.ok v k)(hd:tX o.dst env v=aa env')(p:zI P ops Ns F Q (i+1) rest env' k) :
  zI P ops Ns F Q i (o::rest) env h:=⟨v,k,.inl ⟨C,by simp only[AR,s,r,j5]⟩,.inr A,.inr D,by rw[yU hd];exact p⟩
def zsf(h:AH)(k n:Nat)(R:List (List AV))(rr:AV)(hh:AH):Prop:=rr=.gW (aa h.zs.length) k R/\hh=h.ext [] [n]
theorem zq3{P:Program}{a5:List AV}{h:AH}{k n:Nat}{R:List (List AV)}(s:Spec P f a5 (h.ext B T) (zsf (h.ext B T) k n R))(p:T.length=m)(v:T++[n]=T') :
  Spec P f a5 (h.ext B T) (λA hh=>A=.gW (aa (h.zs.length+m)) k R/\hh=h.ext B T'):=by
 refine s.mono ?_
 rintro r C ⟨rfl,rfl⟩
 subst p v;simp[AH.ext,lf]
theorem zrw{α:Type}{row:α->List AV}{L:List α}{k:Nat}{i:Int}{y:α}(v:∀x,(row x).length=k)(p:zR L i=aa y)(C:L.flatMap row=cs):cj true k (0+i.toNat*k) cs=aa (.agg (row y)):=by
 obtain⟨h0,p⟩:=zsm p;subst C;have key:∀(L:List α)(n:Nat),L[n]?=aa y->n*k+k<=(L.flatMap row).length/\((L.flatMap row).drop (n*k)).take k=row y:=by
  intro L
  induction L with
  |nil=>intro n h;simp at h
  |cons a r ih =>
   intro n h;cases n with
   |zero =>
    simp_all
   |succ n =>
    obtain⟨A,s⟩:=ih n (by simpa using h);simp only[jf,oA,v,ju];refine⟨by omega,?_⟩;rw[show n*k+k=(row a).length+n*k by grind,jD,lW (by omega),ll,m3];exact s
 obtain⟨A,s⟩:=key L i.toNat p;simp only[cj,oS,l8]
 simp_all
theorem zjy{P:Program}{o:Oper}{env:List AV}{h:AH}{n k:Nat}{d:TypeDesc}{q:IntKind}{m:Int}{α:Type}{L:List α}{y:α}(s:o.op=.indexAddr t x i)(r:Ty P t (.array n e) k)(A:Ty P e d k')(v:yy env x=aa (.ptr id off))(hi:yy env i=aa (.int q m))
  (C:L.length=n) (p:zR L m=aa y):zj P o env h=.ok (.ptr id (off+m.toNat*k')) h:=by
 obtain⟨h0,p⟩:=zsm p;have D:m.toNat<L.length:=(tu.1 p).1;exact zdY s r A v hi (nK ⟨h0,by omega⟩)
theorem zqe{env:List AV}{b:AV}(h:yy env x=aa a)(e:a=b):yy env x=aa b:=by rw[h,e]
theorem vI{h:AH}{b:q6}(k:B[j]?=aa b):((h.ext B T).ext B' T').g7 (h.zh.length+j)=aa b:=by
 rw[x5,zX,ol (tu.1 k).1];exact k
theorem zz{h:AH}{b:q6}(k:h.g7 id=aa b):(h.ext B T).g7 id=aa b:=by
 have p:id<h.zh.length:=(tu.1 k).1;simp only[AH.g7,AH.ext]at k ⊢
 grind
theorem xk{P:Program}{o:Oper}{env:List AV}{h:AH}{d:TypeDesc}{k:Nat}{v p:AV}(s:o.op=.load t x)(C:Ty P t d k)(E:yy env x=aa (.ptr id off))(D:h.g7 id=aa (.cells cs))
  (A:cj (yd d) k off cs=aa v) (r:w5 P t v=p):zj P o env (h.ext B T)=.ok p (h.ext B T):=by
 refine zgG s C E ?_ r;simp only[sJ,zz D];exact A

theorem g6.agg{cs ds:List AV}(k:fc cs ds)(r:ds.all AV.one=true):g6 (.agg cs) (.agg ds):=λg v p=>by
 simp only[V]at p ⊢;obtain⟨vs,e,s⟩:=p;exact⟨vs,e,VA.mk (k _ _ s.f8) r⟩
theorem g6.fl{cs ds:List AV}(k:fc cs ds):g6 (.fl cs) (.fl ds):=λg v p=>by
 simp only[V]at p ⊢;obtain⟨vs,e,r⟩:=p;exact⟨vs,e,k _ _ r⟩
theorem VL.dY{g:Gh}:∀{a5:List AV}{vs:List Value},VL g a5 vs->∀(i:Nat)(a:AV),(∀v,vs[i]?=aa v->V g a v)->VL g (a5.set i a) vs
 |[],_,h,i,a,_=>by simpa using h
 |_::r,_,h,i,a,hv=>by
  simp only[VL]at h;obtain⟨k,s,rfl,A,p⟩:=h;cases i with
  |zero=>simp only[kJ,VL];exact⟨k,s,rfl,hv k rfl,p⟩
  |succ i=>simp only[kj,VL];exact⟨k,s,rfl,A,VL.dY p i a (λv C=>hv v (by simp_all))⟩
theorem V.tok{k n:Nat}{es:List (List AV)}{v:Value}(E:es.length=n)(p:V g (.gW ac k es) v):V (g.fI ⟨n,ac,false⟩) (.gW (aa g.τ.length) k es) v:=by
 subst E;simp only[V]at p ⊢;obtain⟨a,c,s,r,C,A,D⟩:=p;refine⟨a,c,s,r,C,A.imp id λ⟨b,o,e,hh⟩=>⟨b,o,e,VE.mono (g.fu _) _ _ _ _ hh⟩,⟨es.length,ac,false⟩,?_,rfl,ob _,λ_=>.inl D⟩;simp only[Gh.fI]
 simp_all
theorem tZ{α:Type}{row:α->List AV}{L:List α}{h:AH}{env:List AV}{k:Nat}(N:yy env (.tmp d)=aa (.gW ac k (L.map row)))(J:T.length=m)
  (E:tX (aa d) env (.gW (aa (h.zs.length+m)) k (L.map row))=aa env') (I:T++[L.length]=T') :
  wk hd env (h.ext B T) env' (h.ext B T'):=λ_ _ _ _ R g vs _ H r G=>by
 subst J I;simp only[tX,p5]at E;subst E;have p:h.zs.length+T.length=g.τ.length:=by rw[r.fA];simp[AH.ext]
 refine⟨g.fI ⟨L.length,ac,false⟩,H.trans (g.fu _),?_,?_⟩
 ·have:=r.dG ⟨L.length,ac,false⟩ (λ_ _ _ h=>by cases h) (λ_ _ h=>by cases h);have e:(h.ext B (T++[L.length]))={ (h.ext B T)with zs:=(h.ext B T).zs++[L.length] }:=by simp[AH.ext,lf]
  simp_all
 ·have C:=G;refine⟨VL.dY (VL.mono (g.fu _) _ _ G) d _ λv A=>?_,λ_ h=>h⟩;obtain⟨a,s,O⟩:=C.zzC _ _ A;have D:env[d]?=aa (.gW ac k (L.map row)):=N;rw[D]at s;injection s with s;subst s;rw[p];exact O.tok (by simp)
theorem Rel.bH{B:Nat}{h:AH}(r:Rel B w0 g h w){i:Nat}{cs cs':List AV}(C:h.zh[i]?=aa (.cells cs)) :
  (∀(j:Nat)(x:q6),g.σ[j]?=aa ac->(h.put i (.cells cs')).zh[j]?=aa x->dP g w x) /\
  ∀(a b t k k':Nat)(es es':List (List AV)),(h.put i (.cells cs')).zh[a]?=aa (.row t k es)->(h.put i (.cells cs')).zh[b]?=aa (.row t k' es')->a=b:=by
 have key:∀(a t k:Nat)(es:List (List AV)),(h.put i (.cells cs')).zh[a]?=aa (.row t k es)->h.zh[a]?=aa (.row t k es):=by
  intro a t k es s;simp only[AH.put]at s
  grind
 refine⟨λj x v p=>?_,λa b t k k' es es' s A=>r.fX _ _ _ _ _ _ _ (key _ _ _ _ s) (key _ _ _ _ A)⟩;simp only[AH.put]at p;by_cases hij:i=j
 ·subst hij;exact(r.row i _ v C).elim
 ·rw[lR hij]at p;exact r.row j x v p
theorem Rel.zzH{B:Nat}{h:AH}(r:Rel B w0 g h w){i:Nat}{cs cs':List AV}(p:h.zh[i]?=aa (.cells cs))(E:∀c,eD g w c (.cells cs)->eD g w c (.cells cs')):Rel B w0 g (h.put i (.cells cs')) w:=by
 refine⟨r.below,r.dA,r.eK,by simp[AH.put,r.fi],λj c q s k=>?_,r.fA,r.tok,r.eF,r.fS,r.sep,r.eJ,(r.bH p).1,(r.bH p).2⟩;simp only[AH.put]at k;by_cases hij:i=j
 ·subst hij;rw[li (tu.1 p).1]at k;injection k with k;subst k;obtain⟨C,v,D,A⟩:=r.g7 i c _ s p
  simp_all
 ·rw[lR hij]at k;exact r.g7 j c q s k
theorem zlC{α:Type}{row:α->List AV}{L:List α}{h:AH}{env:List AV}{k:Nat}(U:B[j]?=aa (.cells cs))(he:yy cs (.tmp off)=aa (.gW ac k (L.map row)))(hm:T.length=m)
  (S:tX (aa off) cs (.gW (aa (h.zs.length+m)) k (L.map row))=aa cs') (hB:B.set j (.cells cs')=B') (X:T++[L.length]=T') :
  wk hd env (h.ext B T) env (h.ext B' T'):=λ_ _ w _ g1 g vs _ W r hv=>by
 subst hm X hB;simp only[tX,p5]at S;subst S;have E:h.zs.length+T.length=g.τ.length:=by rw[r.fA];simp[AH.ext]
 refine⟨g.fI ⟨L.length,ac,false⟩,W.trans (g.fu _),?_,VL.mono (g.fu _) _ _ hv,λ_ h=>h⟩;have p:=r.dG ⟨L.length,ac,false⟩ (λ_ _ _ h=>by cases h) (λ_ _ h=>by cases h);have I:({ (h.ext B T)with zs:=(h.ext B T).zs++[L.length] }:AH).zh[h.zh.length+j]?=aa (.cells cs):=by
  simp only[AH.ext];rw[pa (by omega),m3];exact U
 have e:(h.ext (B.set j (.cells (cs.set off (.gW (aa (h.zs.length+T.length)) k (L.map row))))) (T++[L.length])) =
   ({ (h.ext B T)with zs:=(h.ext B T).zs++[L.length] }:AH).put (h.zh.length+j) (.cells (cs.set off (.gW (aa (h.zs.length+T.length)) k (L.map row)))):=by
  simp only[AH.ext,AH.put,lf]
  simp_all
 rw[e]
 -- what the cells were ahead of the token
 have D:(h.ext B T).zh[h.zh.length+j]?=aa (.cells cs):=by
  omega
 obtain⟨c,V⟩:∃c:Nat,g.σ[h.zh.length+j]?=aa (aa c):=by
  have:h.zh.length+j<g.σ.length:=by rw[r.fi];simp only[AH.ext,oA];have:=(tu.1 U).1;omega
  rcases V:g.σ[h.zh.length+j]with _|c
  ·exact(r.row _ _ (by simp_all) D).elim
  ·simp_all
 obtain⟨_,_,⟨us,t,Z,O⟩,_⟩:=r.g7 _ c _ V D;have G:VA (g.fI ⟨L.length,ac,false⟩) (cs.set off (.gW (aa (h.zs.length+T.length)) k (L.map row))) us.toList:=by
  have R:=O.f8;refine VA.mk (VL.dY (VL.mono (g.fu _) _ _ R) off _ λv J=>?_) ?_
  ·obtain⟨a,s,hV⟩:=R.zzC _ _ J;have N:cs[off]?=aa (.gW ac k (L.map row)):=he;rw[N]at s;injection s with s;subst s;rw[E];exact hV.tok (by simp)
  ·rw[oB];intro a s;rcases jn s with s|rfl
   ·have:=O.dj;rw[oB]at this;exact this a s
   ·rfl
 -- one block alone: the same cell
 refine⟨p.below,p.dA,p.eK,by simp[AH.put,p.fi],λi H q C A=>?_,p.fA,p.tok,p.eF,p.fS,p.sep,p.eJ,(p.bH I).1,(p.bH I).2⟩;simp only[AH.put]at A;by_cases hij:h.zh.length+j=i
 ·subst hij;rw[li (tu.1 I).1]at A;injection A with A;subst A;obtain⟨h6,Y,_,h9⟩:=p.g7 _ H _ C I;have:H=c:=by
   have:g.σ[h.zh.length+j]?=aa (aa H):=C
   simp_all
  subst this;exact⟨h6,Y,⟨us,t,Z,G⟩,λ_=>h9 (by simp)⟩
 ·rw[lR hij]at A;exact p.g7 i H q C A
mutual
theorem AV.fY{n p m s:Nat}(k:n<=p)(h:m<=s):∀a:AV,a.low n m=true->a.low p s=true
 |.bool _,_|.int _ _,_|.str _,_|.er,_|.ef,_|.fC,_|.eX,_|.fT,_|.fK _,_|.sl _ _,_|.de _,_|.any,_|.ct,_=>rfl
 |.gW ac _ _,_=>rfl
 |.gW (aa t) _ _,hl=>by simp only[AV.low,so]at hl ⊢;omega
 |.ptr _ _,hl=>by simp only[AV.low,so]at hl ⊢;omega
 |.cu _ _ _ _,hl=>by simp only[AV.low,so]at hl ⊢;omega
 |.fo _ _ _ _,hl=>by simp only[AV.low,so]at hl ⊢;omega
 |.ep _ _ _ _ _,hl=>by simp only[AV.low,so]at hl ⊢;omega
 |.fW _ _ _ _ _,hl=>by simp only[AV.low,so]at hl ⊢;omega
 |.map _,hl=>by simp only[AV.low,so]at hl ⊢;omega
 |.ca _,hl=>by simp only[AV.low,so]at hl ⊢;omega
 |.fn _ a b,hl=>by
  simp only[AV.low,tx]at hl ⊢;exact⟨zT k h a hl.1,zT k h b hl.2⟩
 |.iface _ v,hl=>by simp only[AV.low]at hl ⊢;exact AV.fY k h v hl
 |.agg cs,hl=>by simp only[AV.low]at hl ⊢;exact zT k h cs hl
 |.fl cs,hl=>by simp only[AV.low]at hl ⊢;exact zT k h cs hl
theorem zT{n p m s:Nat}(k:n<=p)(h:m<=s):∀l:List AV,zB n m l=true->zB p s l=true
 |[],_=>rfl
 |a::r,hl=>by
  simp only[zB,tx]at hl ⊢;exact⟨AV.fY k h a hl.1,zT k h r hl.2⟩
end
theorem zlD{h:AH}{env:List AV}{L:List q6}{M:List Nat}(m:Nat)(E:zB h.zh.length (h.zs.length+m) env=true)(v:M.take m=M1):wk h env (h.ext L M) env (h.ext [] M1):=λ_ _ _ _ D g vs p A r G=>by
 subst v;refine⟨g.cut h.zh.length (h.zs.length+m),Gh.dm A (by rw[p.fi];exact ob _) (by rw[p.fA];omega),?_,VL.cut _ _ E G,λ_ h=>h⟩;have e:(h.ext L M).cut h.zh.length (h.zs.length+m)=h.ext [] (M.take m):=by
  simp[AH.cut,AH.ext,kx];rw[lh (by omega)]
 have:=r.cut h.zh.length (h.zs.length+m) (λi k hi s=>?_)
 ·simp_all
 ·have C:i<D.σ.length:=by rw[p.fi];exact hi
  simp only[AH.ext]at s;rw[ol hi]at s;have:=p.fJ s;rw[p.fi,p.fA]at this;exact q6.eG (by omega) _ this
theorem zrO{h:AH}{k n:Nat}{R:List (List AV)}(p:K (.gW (aa h.zs.length) k R) (h.ext [] [n])):nQ h K (.gW (aa (h.zs.length+0)) k R) (h.ext B (n::T)) :=
 wv (zlD 1 (by simp[zB,AV.low]) rfl) p
theorem zph{α:Type}{row:α->List AV}{L:List α}{h:AH}{k:Nat}(p:K (.gW (aa h.zs.length) k (L.map row)) (h.ext [] [L.length])):nQ h K (.gW ac k (L.map row)) (h.ext B T) :=
 wv ((zlD (M1:=[]) 0 (by rfl) rfl).trans (tZ (d:=0) (m:=0) rfl rfl rfl rfl)) p
theorem zd5{h:AH}{env:List AV}(C:B[j]?=aa (.cells cs))(A:fc cs cs')(v:cs'.all AV.one=true)(D:B.set j (.cells cs')=B'):wk hd env (h.ext B T) env (h.ext B' T):=λ_ _ w _ G g vs _ E r H=>by
 subst D;have p:(h.ext B T).zh[h.zh.length+j]?=aa (.cells cs):=by
  simp only[AH.ext];rw[pa (by omega),m3];exact C
 have:=r.zzH p (cs':=cs') (λc ⟨us,t,s,k⟩=>⟨us,t,s,VA.mk (A _ _ k.f8) v⟩);have e:(h.ext B T).put (h.zh.length+j) (.cells cs')=h.ext (B.set j (.cells cs')) T:=by
  simp only[AH.ext,AH.put]
  simp_all
 grind
theorem yH{h:AH}{L0 L1:List q6}{M0:List Nat}{env:List AV}(p:zB (h.zh.length+L0.length) (h.zs.length+M0.length) env=true)(s:L'.take L0.length=L1)(r:M'.take M0.length=M1)
  (A:L1.all (λb=>b.low (h.zh.length+L0.length) (h.zs.length+M0.length))=true):wk (h.ext L0 M0) env (h.ext L' M') env (h.ext L1 M1) :=
 zqs p s r λ_ k v=>.inr (by grind)
theorem zbj{P:Program}{Q:Exit->List AV->AH->Prop}{env:List AV}{h:AH}{σ:Type}{f:Nat->Nat->σ->Option (Out ρ σ)}{m:Int}{i:Nat}{s:σ}{rest:σ->Option ρ}{v:ρ}{t e:Code}(E:yy env c=aa (.bool (decide ((i:Int)<m))))
  (A:lp (zf f ((List.range m.toNat).drop i) i s) rest=aa v)
  (H:∀x p,i<(List.range m.toNat).length->(i:Int)<m->x=i->f i x s=aa p->zuH f (List.range m.toNat) i rest p=aa v->vi P t Q env h) (D:rest s=aa v->vi P e Q env h):vi P (.cond c t e) Q env h:=by
 refine oY E (λk=>?_) (λk=>?_)
 ·have C:=lX k;have r:i<(List.range m.toNat).length:=by simp;omega
  obtain⟨x,p,I,G,J⟩:=zen A r
  simp_all
 ·have C:=of_decide_eq_false k;exact D (zhc A (by simp;omega))
theorem zmr{P:Program}{o:Oper}{env H I:List AV}{h:AH}{L:List q6}{M:List Nat}{s:List UInt8}{k:Nat}{A C:Option ρ}{r:ρ}(O:aG ops o env=aa true)(J:o.op=.next x true)
  (R:yy env x=aa (.ptr (h.zh.length+j) 0)) (N:L[j]?=aa (.ec s k)) (v:tX o.dst env (.fl [.bool true,.int .i64 k,.int .i32 (dec s k).1])=aa H) (p:tX o.dst env (.fl [.bool false])=aa I)
  (S:(if k<s.length then A else C)=aa r) (D:k<s.length->A=aa r->zx P ops Q rest H (h.ext (L.set j (.ec s (k+(dec s k).2))) M)) (E:C=aa r->zx P ops Q rest I (h.ext L M)):zx P ops Q (o::rest) env (h.ext L M) :=
 zoF O J R N v p (λG=>D G (by simp_all)) (λG=>E (by grind))
open Classical in
noncomputable def br(g:Nat->Option ρ):Option ρ:=if h:∃r N,∀n,N<=n->g n=aa r then aa (Classical.choose h)else ac
theorem rE{g:Nat->Option ρ}{r:ρ}(h:br g=aa r):∃n,g n=aa r:=by
 unfold br at h;split at h
 ·rename_i p;injection h with h;subst h;obtain⟨N,k⟩:=kV p;exact⟨N,k N (ob _)⟩
 ·cases h
theorem tf{g:Nat->Option ρ}{r:ρ}(N:Nat)(h:∀n,N<=n->g n=aa r):br g=aa r:=by
 have k:∃r N,∀n,N<=n->g n=aa r:=⟨r,N,h⟩
 unfold br;rw[gF k];obtain⟨M,p⟩:=kV k;have s:=p (max N M) (Nat.le_max_right _ _)
 grind
theorem Rel.beyond{B:Nat}{w':World}{h:AH}(r:Rel B w0 g h w)(s:RowKit.Below w.heap.size w w'):Rel B w0 g h w' :=
 ⟨r.below.trans (s.mono r.dA),lg r.dA s.size,λb j v e=>(s.cell (p:=⟨b,j,ac⟩) (r.em e)).trans (r.eK b j v e),r.fi,
   λi c k A G=>by
     obtain⟨H,C,J,I⟩:=r.g7 i c k A G;exact⟨H,o4 C s.size,J.mono (Gh.le.refl g) (s.block c C),I⟩,r.fA,
   λi t E=>by
     obtain⟨H,C⟩:=r.tok i t E;exact⟨H,λb l e D=>(C b l e D).mono s.size (s.block b (C b l e D).lt) λ_ _=>rfl⟩,r.eF,r.fS,r.sep,λc A=>⟨(r.eJ c A).1,(s.block c (r.d8 A)).trans (r.eJ c A).2.1,(r.eJ c A).2.2⟩,
   λi k hi G=>(r.row i k hi G).mono (Gh.le.refl g) (λ_ _ h _=>h) (λi t b x E _ D=>⟨s.block b ((r.tok i t E).2 b x.1 x.2 D).lt,λ_=>rfl⟩),r.fX⟩
end Go.Vv
namespace Go.Vv
open Go Go.RowKit Go.Lib
variable{a:Array Bool}{d:Option Tmp}{ops:Array Oper}

theorem zgO{ops:Array Oper}{listed:Array Bool}{i:Nat}:i∈Region.ready .any ops listed↔i<ops.size/\listed.getD i true=false/\∀o,ops[i]?=aa o->∀e∈o.after,Region.binds .any e=true->listed.getD e.on false=true:=by
 unfold Region.ready;rw[lQ,List.mem_range];refine and_congr_right λhi=>?_;have ho:ops[i]?=aa ops[i]:=lE hi;simp only[tx,kb,ho,lK,jq];refine and_congr_right λ_=>?_;rw[kX];constructor
 ·intro h o e1 e he hb;cases e1;have:=h e he;rw[hb]at this;simpa using this
 ·intro h e he;cases hb:Region.binds .any e with
  |false=>rfl
  |true=>simpa using h _ rfl e he hb
theorem zjv{i j:Nat}{d:Bool}(h:i≠j):(a.setIfInBounds i true).getD j d=a.getD j d:=by
 simp[lP,h]
theorem zoe{i j:Nat}(h:a.getD j false=true):(a.setIfInBounds i true).getD j false=true:=by
 by_cases e:i=j
 ·subst e;rw[lP]at h ⊢;rw[i3];simp only[oS];split
  ·rfl
  ·rename_i b;rw[iN (by omega)]at h;simp at h
 ·rw[zjv e];exact h
theorem zgN{listed:Array Bool}{i j:Nat}(h:i∈Region.ready .any ops listed)(b:j≠i):i∈Region.ready .any ops (listed.setIfInBounds j true):=by
 rw[zgO]at h ⊢;exact⟨h.1,by rw[zjv b];exact h.2.1,λo c e f g=>zoe (h.2.2 o c e f g)⟩
theorem zlW{i j:Nat}:(a.setIfInBounds i true).setIfInBounds j true=(a.setIfInBounds j true).setIfInBounds i true:=by
 apply iF;intro k;simp only[i3,Array.size_setIfInBounds];by_cases h1:i=k<;>by_cases h2:j=k<;>simp[h1,h2]
theorem zlV{env:List AV}{b:Option Tmp}{v c:AV}(h:b=ac \/ d≠b):fw (fw env d v) b c=fw (fw env b c) d v:=by
 cases d with
 |none=>rfl
 |some d =>
  cases b with
  |none=>rfl
  |some b =>
   simp only[fw];exact List.set_comm _ _ (λe=>by rcases h with h|h<;>simp_all)
def apart(ops:Array Oper)(o p:Oper):Bool :=
 (match o.dst with|some d=>!(p.looksAt ops).contains d&&p.dst != aa d|none=>true) &&
 (match p.dst with|some d=>!(o.looksAt ops).contains d|none=>true)
def zcy(ops:Array Oper)(i:Nat):Bool:=match ops[i]? with
 |none=>false
 |some o=>ops.toList.zipIdx.all λ(p,j)=>i==j || (p.after.any λe=>Region.binds .any e&&e.on==i) || (o.after.any λe=>Region.binds .any e&&e.on==j) || apart ops o p
theorem zpH{listed:Array Bool}{i j:Nat}{o p:Oper}(h:zcy ops i=true)(q:ops[i]?=aa o)(n:ops[j]?=aa p)(c:i≠j)(hi:i∈Region.ready .any ops listed)(f:j∈Region.ready .any ops listed):apart ops o p=true:=by
 unfold zcy at h;rw[q]at h;simp only[oB,Prod.forall]at h;have r:(p,j)∈ops.toList.zipIdx:=by
  rw[jy];simpa using n
 have h:=h p j r;rw[zgO]at hi f;simp only[lN,jo,Array.any_eq_true']at h;rcases h with((h|⟨e,g,h⟩)|⟨e,g,h⟩)|h
 ·exact absurd h c
 ·exfalso;simp only[tx,jo]at h;have k:=f.2.2 p n e g h.1;have k2:=hi.2.1;rw[h.2]at k;rw[lP]at k k2;cases hh:listed[i]? with
  |none=>rw[hh]at k;simp at k
  |some b=>rw[hh]at k k2;simp at k k2;rw[k]at k2;cases k2
 ·exfalso;simp only[tx,jo]at h;have k:=hi.2.2 o q e g h.1;have k2:=f.2.1;rw[h.2]at k;rw[lP]at k k2;cases hh:listed[j]? with
  |none=>rw[hh]at k;simp at k
  |some b=>rw[hh]at k k2;simp at k k2;rw[k]at k2;cases k2
 ·exact h
def Sil(P:Program)(ops:Array Oper)(o:Oper)(env:List AV)(v:AV):Prop :=
 (aG ops o env=aa true/\∀h,zj P o env h=.ok v h) \/ (aG ops o env=aa false/\v=wb) \/
 (aG ops o env=aa true/\∃f args,(∀h,zj P o env h=.call f args)/\∀h,Spec P f args h λr hh=>r=v/\hh=h)
theorem zhe{o:Oper}{env:List AV}{v:AV}(h:∀t,d=aa t->t∉o.looksAt ops):(∀t∈o.looksAt ops,(fw env d v)[t]?=env[t]?)/\∀x∈o.op.operands,ev (fw env d v) x=ev env x:=by
 have b:∀t∈o.looksAt ops,(fw env d v)[t]?=env[t]?:=λt c=>rG λe=>h t e c;exact⟨b,λx f=>zf5 λt e=>b t (zfK (by rw[<- e];exact f))⟩
theorem zsd{o p:Oper}(h:apart ops o p=true):(∀t,o.dst=aa t->t∉p.looksAt ops)/\(∀t,p.dst=aa t->t∉o.looksAt ops)/\(p.dst=ac \/ o.dst≠p.dst):=by
 unfold apart at h;rw[tx]at h;refine⟨λt e=>?_,λt e=>?_,?_⟩
 ·have b:=h.1;rw[e]at b;simp only[tx,kb,iX,iI]at b;exact b.1
 ·have b:=h.2;rw[e]at b;simpa[iX]using b
 ·cases hp:p.dst with
  |none=>exact .inl rfl
  |some t =>
   right;intro e;have b:=h.1;rw[e,hp]at b;simp at b
theorem znU{P:Program}{ops:Array Oper}{Q:List AV->AH->Prop}{i:Nat}{o:Oper}{v:AV}(w:ops[i]?=aa o)(s:zcy ops i=true):∀(m:Nat){listed:Array Bool} {env:List AV} {h:AH},i∈Region.ready .any ops listed->Sil P ops o env v ->
  qR P ops Q m (listed.setIfInBounds i true) (fw env o.dst v) h->qR P ops Q (m+1) listed env h
 |m,listed,env,h,hi,hs,c=>by
  refine⟨λe=>(by rw[e]at hi;cases hi),λj B p u=>?_⟩;by_cases hne:j=i
  ·subst hne;rw[w]at u;cases u;rcases hs with⟨g,k⟩|⟨g,rfl⟩|⟨g,f,args,k,x⟩
   ·rw[g,k];exact .inl c
   ·rw[g];exact c
   ·rw[g,k];exact .inl ((x h).mono λr hh e=>by rw[e.1,e.2];exact c)
  ·have n:=zgN B (Ne.symm hne);obtain⟨F,G,a3⟩:=zsd (zpH s w u (Ne.symm hne) hi B);cases m with
   |zero=>rw[c.1]at n;cases n
   |succ m =>
    have c:=c.2 j n p u;obtain⟨C,A⟩:=zhe (env:=env) (v:=v) F;rw[za9 C,r8 A]at c;have y:∀t h',qR P ops Q m ((listed.setIfInBounds i true).setIfInBounds j true) (fw (fw env o.dst v) p.dst t) h'->qR P ops Q (m+1) (listed.setIfInBounds j true) (fw env p.dst t) h':=λt h' hh=>by
     obtain⟨c1,z⟩:=zhe (env:=env) (v:=t) G;refine znU (v:=v) w s m (zgN hi hne) ?_ ?_
     ·rcases hs with⟨g,k⟩|⟨g,k⟩|⟨g,f,args,k,x⟩
      ·exact .inl ⟨by rw[za9 c1];exact g,λh=>by rw[r8 z];exact k h⟩
      ·exact .inr (.inl ⟨by rw[za9 c1];exact g,k⟩)
      ·exact .inr (.inr ⟨by rw[za9 c1];exact g,f,args,λh=>by rw[r8 z];exact k h,x⟩)
     ·rw[zlW,zlV a3]at hh;exact hh
    cases hb:aG ops p env with
    |none=>rw[hb]at c;exact c
    |some b =>
     rw[hb]at c;cases b with
     |true=>exact c.imp (zfn y) λ⟨l,E,D⟩=>⟨l,by rw[<- zdG A];exact E,λq hi=>y _ _ (D q hi)⟩
     |false=>exact y _ _ c
def zpI(P:Program)(ops:Array Oper)(Q:List AV->AH->Prop)(m:Nat)(listed:Array Bool)(env:List AV)(h:AH)(i:Nat):Prop:=∀o,ops[i]?=aa o ->
 bn (aG ops o env) (λK=>bm P h (zj P o env h) K \/ bwp P o env h K) h λv h'=>qR P ops Q m (listed.setIfInBounds i true) (fw env o.dst v) h'
section
variable{P:Program}{l:List Oper}{Q:List AV->AH->Prop}{m i j:Nat}{listed:Array Bool}{env env':List AV}{h h':AH}{o:Oper}{v:AV}
theorem znV(b:(Region.ready .any ⟨l⟩ listed==[])=true)(c:Q env h):qR P ⟨l⟩ Q m listed env h:=by
 have b:=eq_of_beq b;cases m with
 |zero=>exact⟨b,c⟩
 |succ m=>exact⟨λ_=>c,λi hi=>by rw[b]at hi;cases hi⟩
theorem zhT(g:(Region.ready .any ⟨l⟩ listed).contains i=true)(b:zcy ⟨l⟩ i=true)(e:l[i]?=aa o)(k:aG ⟨l⟩ o env=aa true)(f:∀h,zj P o env h=.ok v h)(hd:tX o.dst env v=aa env')
  (c:qR P ⟨l⟩ Q m (listed.setIfInBounds i true) env' h):qR P ⟨l⟩ Q (m+1) listed env h:=by
 refine znU (v:=v) (by simpa using e) b m (by simpa[iX]using g) (.inl ⟨k,f⟩) ?_;rw[yU hd];exact c
theorem zb3(f:l[i]?=aa o)(k:aG ⟨l⟩ o env=aa true)(g:zj P o env h=.ok v h')(hd:tX o.dst env v=aa env')(e:qR P ⟨l⟩ Q m (listed.setIfInBounds i true) env' h'):zpI P ⟨l⟩ Q m listed env h i:=by
 intro p c;have:o=p:=by
  have b:l[i]?=aa p:=by simpa using c
  rw[f]at b;exact ky b
 subst this;rw[k,g];exact .inl (by simp only[bm];rw[yU hd];exact e)
theorem zlq(b:(Region.ready .any ⟨l⟩ listed==[i])=true)(hi:zpI P ⟨l⟩ Q m listed env h i):qR P ⟨l⟩ Q (m+1) listed env h:=by
 have b:=eq_of_beq b;refine⟨λe=>(by rw[b]at e;cases e),λk c o f=>?_⟩;rw[b,la]at c;subst c;exact hi o f
theorem zxj(c:(Region.ready .any ⟨l⟩ listed==[i,j])=true)(hi:zpI P ⟨l⟩ Q m listed env h i)(g:zpI P ⟨l⟩ Q m listed env h j):qR P ⟨l⟩ Q (m+1) listed env h:=by
 have c:=eq_of_beq c;refine⟨λe=>(by rw[c]at e;cases e),λk b o f=>?_⟩;rw[c]at b;rcases lx.1 b with rfl|b
 ·exact hi o f
 ·rw[la]at b;subst b;exact g o f
end
section
variable{P:Program}{l:List Oper}{Q:List AV->AH->Prop}{m i:Nat}{listed:Array Bool}{env env':List AV}{h:AH}{o:Oper}{v:AV}
end
theorem zvi{P:Program}{Q:Exit->List AV->AH->Prop}{env:List AV}{h:AH}{id:Nat}{l:List Oper}(n:Nat)(e:l.length=n)(b:P.follows .mixedOrders=true)(c:qR P ⟨l⟩ (Q .normal) n (Array.replicate n false) env h):vi P (.region id ⟨l⟩ true) Q env h:=by
 refine .inr ⟨b,?_⟩;subst e;exact c
end Go.Vv
namespace Go.Vv
open Go Go.RowKit Go.Proofs Go.Shelf
end Go.Vv
namespace Go.Vv
open Go Go.RowKit Go.Lib Go.Shelf
theorem zfk{P:Program}{ρ:Ren}(L:Go.Proofs.Lays.n106 P ρ){a b:List UInt8}{h:AH}:Spec P (ρ.f 106) [.str a,.str b] h λd hh=>d=.int .i64 (Lib.compareBytes a b)/\hh=h:=by
 refine⟨λvs w=>Go.Proofs.enters_of L.f106 (by kernel_rfl) rfl vs w,λB w0 _ g w vs r c=>?_⟩;obtain⟨us,rfl⟩:∃us:List Value,vs=us.toArray:=⟨vs.toList,by simp⟩
 simp only[VL,V]at c;obtain⟨j,l,i,⟨rfl,_⟩,k,s2,rfl,⟨rfl,_⟩,rfl⟩:=c;subst i;refine(Go.Proofs.Any.strings_Compare L _ _ w).mono ?_
 rintro e w' ⟨rfl,rfl⟩
 exact⟨_,_,h,g,rfl,⟨rfl,rfl⟩,Gh.le.refl g,r,by simp only[V]⟩
end Go.Vv
