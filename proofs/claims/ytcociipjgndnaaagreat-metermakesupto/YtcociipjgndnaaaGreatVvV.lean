/- The heap as what it was ahead, and what has been made since. -/
import Derived.Test.YtcociipjgndnaaaGreatVvU
namespace Go.Vv
open Go

def AH.ext (h:AH) (L:List Blk) (M:List Nat):AH:={ blks:=h.blks++L,toks:=h.toks++M }
theorem ext_nil (h:AH):h.ext [] []=h:=by simp [AH.ext]
theorem yA {h:AH} {L:List Blk} {M:List Nat} {j:Nat}:(h.ext L M).blk (h.blks.length+j)=L[j]?:=by
 simp only [AH.blk,AH.ext];rw [ui (by omega)];congr 1;omega
theorem ext_new {h:AH} {L:List Blk} {M:List Nat} {b:Blk}:(h.ext L M).new b=h.ext (L++[b]) M:=by simp [AH.ext,AH.new,uy]
theorem ext_put {h:AH} {L:List Blk} {M:List Nat} {b:Blk} {j:Nat}:(h.ext L M).put (h.blks.length+j) b=h.ext (L.set j b) M:=by
 simp only [AH.ext,AH.put];rw [uO _ _ (by omega)];congr 3;omega
theorem ext_cut {h:AH} {L:List Blk} {M:List Nat}:(h.ext L M).cut h.blks.length h.toks.length=h:=by
 simp [AH.cut,AH.ext]
def ldC (ag:Bool) (k off:Nat) (cs:List AV):Option AV:=if ag then (if off+k<=cs.length then some (.agg ((cs.drop off).take k)) else none) else cs[off]?
theorem yv {k off:Nat} {cs:List AV} {v:AV} (h:cs[off]?=some v):ldC false k off cs=some v:=h
theorem ldC_ag {k off:Nat} {cs cs':List AV} (h:Nat.ble (off+k) cs.length=true) (a:(cs.drop off).take k=cs'):ldC true k off cs=some (.agg cs'):=by
 simp only [ldC,ut,up (rG h),a]

section
variable {P:Program} {o:Oper} {env:List AV} {h:AH} {L:List Blk} {M:List Nat}
theorem e_alloc {t:TypeId} {cs:List AV} {n:Nat} (b:o.op=.alloc t) (c:xD P t=some cs) (a:L.length=n):zw P o env (h.ext L M)=.ok (.ptr (h.blks.length+n) 0) (h.ext (L++[.cells cs]) M):=by
 rw [s_alloc b c,ext_new,<- a];simp [AH.ext]
theorem e_box {t:TypeId} {x:Operand} {a a':AV} {cs:List AV} {n:Nat} (e:o.op=.box t x) (c:yF env x=some a) (d:tyfix P t a=a') (f:a'.cells?=some cs) (b:L.length=n) :
  zw P o env (h.ext L M)=.ok (.ptr (h.blks.length+n) 0) (h.ext (L++[.cells cs]) M):=by
 rw [s_box e c d f,ext_new,<- b];simp [AH.ext]
theorem xS {t:TypeId} {d:TypeDesc} {k j off:Nat} {x:Operand} {cs:List AV} {v v':AV} (f:o.op=.load t x) (b:Ty P t d k) (a:yF env x=some (.ptr (h.blks.length+j) off)) (g:L[j]?=some (.cells cs))
  (c:ldC (yh d) k off cs=some v) (e:tyfix P t v=v'):zw P o env (h.ext L M)=.ok v' (h.ext L M):=by
 refine s_load f b a ?_ e;simp only [aLoad,yA,g];exact c
theorem f_load {t:TypeId} {d:TypeDesc} {k:Nat} {x:Operand} {cs:List AV} {v v':AV} (f:o.op=.load t x) (b:Ty P t d k) (a:yF env x=some (.fptr cs))
  (c:ldC (yh d) k 0 cs=some v) (e:tyfix P t v=v'):zw P o env h=.ok v' h:=by
 refine s_load f b a ?_ e;simp only [aLoad];simpa only [ldC,uZ,sq] using c
theorem yg {t:TypeId} {d:TypeDesc} {k j off:Nat} {x y:Operand} {cs vs cs':List AV} {b a:AV} (m:o.op=.store t x y) (e:Ty P t d k) (l:yF env x=some (.ptr (h.blks.length+j) off)) (p:yF env y=some b)
  (g:tyfix P t b=a) (n:a.cells?=some vs) (f:vs.length=k) (i:L[j]?=some (.cells cs)) (c:Nat.ble (off+k) cs.length=true) (hs:yX cs off vs=cs'):zw P o env (h.ext L M)=.ok aundef (h.ext (L.set j (.cells cs')) M):=by
 refine s_store m e l p g ?_;simp only [aStore,n,yA,i];rw [up ⟨f,rG c⟩,ext_put,hs]
end
theorem wk_ext2 {h:AH} {L0 L1 L':List Blk} {M0 M1 M':List Nat} {env:List AV} (f:zB (h.blks.length+L0.length) (h.toks.length+M0.length) env=true) (e:L'.take L0.length=L1) (g:M'.take M0.length=M1)
  (m:∀(i:Nat) (k:Blk),L1[i]?=some k->L0[i]?=some k \/ k.low (h.blks.length+L0.length) (h.toks.length+M0.length)=true) :
  wk (h.ext L0 M0) env (h.ext L' M') env (h.ext L1 M1):=by
 have b:(h.ext L0 M0).blks.length=h.blks.length+L0.length:=by simp [AH.ext]
 have c:(h.ext L0 M0).toks.length=h.toks.length+M0.length:=by simp [AH.ext]
 have:=wk.cut (hd:=h.ext L0 M0) (env:=env) (h:=h.ext L' M') (by rw [b,c];exact f) (λi k hi a=>by
  rw [b] at hi;rw [b,c];simp only [AH.ext] at a ⊢;rcases tz i h.blks.length with d | d
  ·rw [uj d] at a ⊢;exact .inl a
  ·rw [ui d] at a ⊢;exact m (i - h.blks.length) k (by rw [<- e,uw,up (by omega)];exact a))
 have j:(h.ext L' M').cut (h.ext L0 M0).blks.length (h.ext L0 M0).toks.length=h.ext L1 M1:=by
  rw [b,c];simp only [AH.cut,AH.ext,sd,uq,e,g];rw [uM (l:=h.blks) (by omega),uM (l:=h.toks) (by omega)]
 rw [j] at this;exact this
theorem e_range {P:Program} {o:Oper} {env:List AV} {h:AH} {L:List Blk} {M:List Nat} {t:TypeId} {x:Operand} {s:List UInt8} {k n:Nat} (e:o.op=.range t x) (d:Ty P t .string k) (b:yF env x=some (.str s)) (a:L.length=n) :
  zw P o env (h.ext L M)=.ok (.ptr (h.blks.length+n) 0) (h.ext (L++[.siter s 0]) M):=by
 obtain ⟨f,c⟩:=zO b;simp only [zw,e,f,ut,d.u,c,ext_new,<- a];simp [AH.ext]
theorem ops_next {P:Program} {b:Array Oper} {Q:List AV->AH->Prop} {o:Oper} {rest:List Oper} {env:List AV} {g:List AV} {l:List AV} {h:AH} {L:List Blk} {M:List Nat} {x:Operand} {s:List UInt8} {j a:Nat} (n:aG b o env=some true) (m:o.op=.next x true)
  (q:yF env x=some (.ptr (h.blks.length+j) 0)) (i:L[j]?=some (.siter s a)) (c:vZ o.dst env (.tup [.bool true,.int .i64 a,.int .i32 (dec s a).1])=some g) (f:vZ o.dst env (.tup [.bool false])=some l)
  (d:a < s.length->zH P b Q rest g (h.ext (L.set j (.siter s (a+(dec s a).2))) M)) (e:s.length<=a->zH P b Q rest l (h.ext L M)):zH P b Q (o::rest) env (h.ext L M):=by
 obtain ⟨p,k⟩:=zO q;by_cases hp:a < s.length
 ·refine zc n ?_ c (d hp);simp only [zw,m,p,u5,ut,k,aNext,yA,i,hp,ext_put]
 ·refine zc n ?_ f (e (by omega));simp only [zw,m,p,u5,ut,k,aNext,yA,i,hp,uG]
section
variable {P:Program} {env:List AV} {h:AH} {rs:List ResultVar} {vs:List AV}
theorem rl_nil:aResL P env h []=some []:=rfl
theorem rl_tmp {t:Nat} {v:AV} (b:yF env (.tmp t)=some v) (k:aResL P env h rs=some vs):aResL P env h (.tmp t::rs)=some (v::vs):=by
 have a:env.getD t aundef=v:=by rw [ur,show env[t]?=some v from b];rfl
 simp only [aResL,k,a]
theorem rl_cell {a t:Nat} {d:TypeDesc} {k j:Nat} {L:List Blk} {M:List Nat} {cs:List AV} {v v':AV} (c:Ty P t d k) (n:yF env (.tmp a)=some (.ptr (h.blks.length+j) 0)) (l:L[j]?=some (.cells cs)) (f:ldC (yh d) k 0 cs=some v) (g:tyfix P t v=v')
  (r:aResL P env (h.ext L M) rs=some vs):aResL P env (h.ext L M) (.cell a t::rs)=some (v'::vs):=by
 have b:env.getD a aundef=.ptr (h.blks.length+j) 0:=by rw [ur,show env[a]?=some _ from n];rfl
 obtain ⟨i,p,m⟩:=c.i;simp only [aResL,c.u,p,m,b,aLoad,yA,l,r];have e:(if yh d then if 0+k<=cs.length then some (AV.agg ((cs.drop 0).take k)) else none else cs[0]?)=some v:=f;rw [e];simp only [g]
theorem q_retL1 {fn:Func} {K:AV->AH->Prop} {h0:AH} {v:AV} (c:fn.results=⟨rs⟩) (a:aResL P env h rs=some [v]) (b:finK h0 K v h):bodyQ P fn h0 K .ret env h:=by
 simp only [bodyQ,aRes,c,a];exact b
end
theorem wu {h:AH} {L:List Blk} {M:List Nat} {K:AV->AH->Prop} {v v':AV} (c:leV v v') (b:v'.low h.blks.length h.toks.length=true) (a:K v' h):finK h K v (h.ext L M):=by
 refine fin_cut c b (λi k hi a=>.inl ?_) (by rw [ext_cut];exact a);simp only [AH.ext] at a;rw [uj hi] at a;exact a
theorem zb {P : Program} {f : FuncId} {fn : Func} {c : Code} (hf : P.funcs[f]? = some fn) (hb : fn.body = some c) (hname : (fn.name == "runtime.NumGoroutine") = false) {args : List AV} {h : AH} {K : AV → AH → Prop} {env : List AV}
  (he:args++List.replicate (fn.ntmps - args.length) aundef=env) (hw:qb P c (bodyQ P fn h K) env (h.ext [] [])):Spec P f args h K:=by
 rw [ext_nil] at hw;exact spec_of_body hf hb hname (by rw [he];exact hw)
theorem yq {d:TypeDesc} (hd:yh d=true) {k off:Nat} {cs cs':List AV} (h:Nat.ble (off+k) cs.length=true) (a:(cs.drop off).take k=cs'):ldC (yh d) k off cs=some (.agg cs'):=by
 rw [hd];exact ldC_ag h a
theorem ql {P:Program} {t:TypeId} {d:TypeDesc} {k:Nat} (a:P.underlying t=some d) (hi:(P.info? t).map (λi=>i.size)=some k):Ty P t d k:=by
 refine ⟨a,?_⟩;cases h:P.info? t with
 | none=>rw [h] at hi;cases hi
 | some i=>rw [h] at hi;exact ⟨i,rfl,by simpa using hi⟩
theorem wP {P:Program} {t u:TypeId} {f off k:Nat} (a:fieldOff P t f=some (off,u)) (hi:(P.info? u).map (λi=>i.size)=some k):Fo P t f off u k:=by
 refine ⟨a,?_⟩;cases h:P.info? u with
 | none=>rw [h] at hi;cases hi
 | some i=>rw [h] at hi;exact ⟨i,rfl,by simpa using hi⟩
theorem mkEl {P:Program} {t e:TypeId} {k:Nat} (a:P.underlying t=some (.slice e)) (hi:(P.info? e).map (λi=>(i.size,decide (i.bytes<=65536)&&decide (0 < k)&&(i.zero.map (·.cells.size))==some k))=some (k,true)):El P t e k:=by
 refine ⟨a,?_⟩;cases h:P.info? e with
 | none=>rw [h] at hi;cases hi
 | some i =>
  rw [h] at hi;simp only [u7,un,tG,ud,um,sx] at hi;exact ⟨i,rfl,hi.1,hi.2.1.1,hi.2.1.2,hi.2.2⟩
theorem w64 {n:Int} (h:-9223372036854775808<=n/\n<=9223372036854775807):IntKind.i64.wrap n=n:=by rw [IntKind.wrap_i64];omega
theorem yL {n m:Int} (e:n=m) (h:-9223372036854775808<=n/\n<=9223372036854775807):AV.int .i64 (IntKind.i64.wrap n)=.int .i64 m:=by rw [w64 h,e]
theorem zJ {env:List AV}:argo env [] []=some []:=rfl
theorem zf {env:List AV} {x:Operand} {r:List Operand} {t:TypeId} {ts:List TypeId} {v:AV} {l:List (TypeId×AV)} (h:yF env x=some v) (k:argo env r ts=some l):argo env (x::r) (t::ts)=some ((t,v)::l):=by
 simp only [argo,h,k]
theorem zW {n:Nat} (h:n<=maxLen):n<=9223372036854775807:=h
theorem Spec.le {P:Program} {f:FuncId} {a bs:List AV} {h:AH} {K:AV->AH->Prop} (s:Spec P f bs h K) (k:leL a bs):Spec P f a h K :=
 ⟨s.1,λB w0 _ g w vs r b=>s.2 B w0 g w vs r (k _ _ b)⟩
abbrev plainK2:=wc
structure PK (P:Program) (t:TypeId) (ks:List Kd):Prop where
 g:P.eqGuardType P.depth t=false
 a:(P.underlying t).any yh=true
 k:wc P 6 t=some ks
theorem mkPK {P:Program} {t:TypeId} {a:List Kd} (d:P.eqGuardType P.depth t=false) (b:(P.underlying t).any yh=true) (c:plainK2 P 6 t=some a):PK P t a:=⟨d,b,c⟩
theorem bin_eq {P:Program} {t:TypeId} {d:List Kd} {cs ds:List AV} {b:Bool} (c:PK P t d) (h:aEqL d cs ds=some b):yH P .eql t (.agg cs) (.agg ds)=some (.bool b):=by
 simp only [yH,aEq,c.g,c.a,c.k,pF,pk,ut,h,u7]
theorem bin_ne {P:Program} {t:TypeId} {d:List Kd} {cs ds:List AV} {b:Bool} (c:PK P t d) (h:aEqL d cs ds=some b):yH P .neq t (.agg cs) (.agg ds)=some (.bool !b):=by
 simp only [yH,aEq,c.g,c.a,c.k,pF,pk,ut,h,u7]
structure PKA (P:Program) (t:TypeId) (ks:List Kd):Prop where
 g:P.eqGuardType P.depth t=false
 a:(P.underlying t).any yh=true
 k:(wc P 6 t).or (arrKs P t)=some ks
theorem bin_neA {P:Program} {t:TypeId} {d:List Kd} {cs ds:List AV} {b:Bool} (c:PKA P t d) (h:aEqL d cs ds=some b):yH P .neq t (.agg cs) (.agg ds)=some (.bool !b):=by
 simp only [yH,aEq,c.g,c.a,c.k,pk,ut,h,u7]
def parto (env:List AV):List (Nat×Operand)->Option (List (Nat×AV))
 | []=>some []
 | (i,x)::r=>match yF env x,parto env r with
  | some v,some vs=>some ((i,v)::vs)
  | _,_=>none
theorem zk {env:List AV}:parto env []=some []:=rfl
theorem zg {env:List AV} {i:Nat} {x:Operand} {r:List (Nat×Operand)} {v:AV} {l:List (Nat×AV)} (h:yF env x=some v) (k:parto env r=some l):parto env ((i,x)::r)=some ((i,v)::l):=by simp only [parto,h,k]
inductive Fp (P:Program) (d:TypeDesc):List (Nat×AV)->List (Nat×AV)->Prop
 | nil:Fp P d [] []
 | cons {i:Nat} {v v':AV} {r s:List (Nat×AV)}:tyfix P (partTy d i) v=v'->Fp P d r s->Fp P d ((i,v)::r) ((i,v')::s)
theorem parts_ok {P:Program} {d:TypeDesc} {env:List AV}:∀{parts:List (Nat×Operand)} {l a:List (Nat×AV)},parto env parts=some l->Fp P d l a ->
  parts.all (λp=>yy p.2)=true/\parts.map (λp=>(p.1,tyfix P (partTy d p.1) (ev env p.2)))=a
 | [],l,a,h,hf=>by simp only [parto,un] at h;subst h;cases hf;exact ⟨rfl,rfl⟩
 | (i,x)::r,l,a,h,hf=>by
  simp only [parto] at h;split at h
  ·rename_i v vs e b;cases h;cases hf with
   | cons h1 h2 =>
    obtain ⟨f,g⟩:=parts_ok b h2;obtain ⟨c,j⟩:=zO e;refine ⟨by simp only [tc,c,f,u5],?_⟩;simp only [uC,g,j,h1]
  ·cases h
theorem ya {P:Program} {o:Oper} {env:List AV} {h:AH} {t:TypeId} {parts:List (Nat×Operand)} {fs:Array Field} {z cs cs':List AV} {pl:List (Nat×Nat)} {l b:List (Nat×AV)} (k:o.op=.build t ⟨parts⟩) (m:P.underlying t=some (.struct fs)) (n:xD P t=some z)
  (j:va P fs=some pl) (d:parto env parts=some l) (e:Fp P (.struct fs) l b) (g:qd (λi=>pl[i]?) z b=some cs) (c:cs=cs'):zw P o env h=.ok (.agg cs') h:=by
 obtain ⟨q,f⟩:=parts_ok d e;have a:(⟨parts⟩:Array (Nat×Operand)).all (λp=>yy p.2)=true:=by simpa using q
 simp only [zw,k,a,ut,m,n,j,xB,f,g,u7,oo,c]
theorem s_buildArr {P:Program} {o:Oper} {env:List AV} {h:AH} {t e:TypeId} {n k:Nat} {d:TypeDesc} {parts:List (Nat×Operand)} {z cs cs':List AV} {l b:List (Nat×AV)} (v:o.op=.build t ⟨parts⟩) (w:P.underlying t=some (.array n e)) (x:xD P t=some z)
  (f:Ty P e d k) (g:parto env parts=some l) (m:Fp P (.array n e) l b) (r:qd (λi=>some (i * k,k)) z b=some cs) (c:cs=cs'):zw P o env h=.ok (.agg cs') h:=by
 obtain ⟨y,q⟩:=parts_ok g m;obtain ⟨j,u,s⟩:=f.i;have a:(⟨parts⟩:Array (Nat×Operand)).all (λp=>yy p.2)=true:=by simpa using y
 simp only [zw,v,a,ut,w,x,u,s,xB,q,r,u7,oo,c]
theorem zr {P:Program} {o:Oper} {env:List AV} {h:AH} {t e:TypeId} {n k:Nat} {parts:List (Nat×Operand)} {z cs cs':List AV} {es:List (List AV)} {l c:List (Nat×AV)} (w:o.op=.buildSlice t n ⟨parts⟩) (d:El P t e k) (B:xD P e=some z)
  (y:Nat.ble (n * k) 65536=true) (a:z.length=k) (g:parto env parts=some l) (m:Fp P (.slice e) l c) (r:qd (λi=>some (i * k,k)) ((List.replicate n z).flatten) c=some cs) (x:x5 cs=some cs') (A:rows k n cs'=es) :
  zw P o env h=.ok (.osl none k es) h:=by
 obtain ⟨C,q⟩:=parts_ok g m;obtain ⟨j,v,s,_,f,_⟩:=d.i;have b:(⟨parts⟩:Array (Nat×Operand)).all (λp=>yy p.2)=true:=by simpa using C
 simp only [zw,w,b,ut,d.u,B,v,s,xB,q,r,x,A,f,rG y,a,pk]
end Go.Vv
