/- The heap as what it was ahead, and what has been made since. -/
import Derived.Test.YtehifcdoglcidaaGreatVvU
namespace Go.Vv
open Go

def AH.ext (h:AH) (L:List Blk) (M:List Nat):AH:={ blks:=h.blks++L,toks:=h.toks++M }
theorem ext_nil (h:AH):h.ext [] []=h:=by simp [AH.ext]
theorem zZ {h:AH} {L:List Blk} {M:List Nat} {j:Nat}:(h.ext L M).blk (h.blks.length+j)=L[j]?:=by
 simp only [AH.blk,AH.ext];rw [List.getElem?_append_right (by omega)];congr 1;omega
theorem ext_new {h:AH} {L:List Blk} {M:List Nat} {b:Blk}:(h.ext L M).new b=h.ext (L++[b]) M:=by simp [AH.ext,AH.new,List.append_assoc]
theorem qg {h:AH} {L:List Blk} {M:List Nat} {b:Blk} {j:Nat}:(h.ext L M).put (h.blks.length+j) b=h.ext (L.set j b) M:=by
 simp only [AH.ext,AH.put];rw [List.set_append_right _ _ (by omega)];congr 3;omega
theorem ext_cut {h:AH} {L:List Blk} {M:List Nat}:(h.ext L M).cut h.blks.length h.toks.length=h:=by
 simp [AH.cut,AH.ext]
def ldC (ag:Bool) (k off:Nat) (cs:List AV):Option AV:=if ag then (if off+k<=cs.length then some (.agg ((cs.drop off).take k)) else none) else cs[off]?
theorem yh {k off:Nat} {cs:List AV} {v:AV} (h:cs[off]?=some v):ldC false k off cs=some v:=h
theorem ldC_ag {k off:Nat} {cs cs':List AV} (h:Nat.ble (off+k) cs.length=true) (a:(cs.drop off).take k=cs'):ldC true k off cs=some (.agg cs'):=by
 simp only [ldC,if_true,if_pos (Nat.le_of_ble_eq_true h),a]

section
variable {P:Program} {o:Oper} {env:List AV} {h:AH} {L:List Blk} {M:List Nat}
theorem e_alloc {t:TypeId} {cs:List AV} {n:Nat} (a:o.op=.alloc t) (b:xk P t=some cs) (c:L.length=n):zo P o env (h.ext L M)=.ok (.ptr (h.blks.length+n) 0) (h.ext (L++[.cells cs]) M):=by
 rw [s_alloc a b,ext_new,<- c];simp [AH.ext]
theorem e_box {t:TypeId} {x:Operand} {a a':AV} {cs:List AV} {n:Nat} (b:o.op=.box t x) (e:ye env x=some a) (f:tyfix P t a=a') (d:a'.cells?=some cs) (c:L.length=n) :
  zo P o env (h.ext L M)=.ok (.ptr (h.blks.length+n) 0) (h.ext (L++[.cells cs]) M):=by
 rw [s_box b e f d,ext_new,<- c];simp [AH.ext]
theorem xn {t:TypeId} {d:TypeDesc} {k j off:Nat} {x:Operand} {cs:List AV} {v a:AV} (b:o.op=.load t x) (e:Ty P t d k) (f:ye env x=some (.ptr (h.blks.length+j) off)) (i:L[j]?=some (.cells cs))
  (c:ldC (zS d) k off cs=some v) (g:tyfix P t v=a):zo P o env (h.ext L M)=.ok a (h.ext L M):=by
 refine s_load b e f ?_ g;simp only [aLoad,zZ,i];exact c
theorem f_load {t:TypeId} {d:TypeDesc} {k:Nat} {x:Operand} {cs:List AV} {v a:AV} (b:o.op=.load t x) (e:Ty P t d k) (f:ye env x=some (.fptr cs))
  (c:ldC (zS d) k 0 cs=some v) (g:tyfix P t v=a):zo P o env h=.ok a h:=by
 refine s_load b e f ?_ g;simp only [aLoad];simpa only [ldC,Nat.zero_add,List.drop_zero] using c
theorem yb {t:TypeId} {d:TypeDesc} {k j off:Nat} {x y:Operand} {cs vs cs':List AV} {b a:AV} (f:o.op=.store t x y) (g:Ty P t d k) (c:ye env x=some (.ptr (h.blks.length+j) off)) (n:ye env y=some b)
  (m:tyfix P t b=a) (p:a.cells?=some vs) (i:vs.length=k) (e:L[j]?=some (.cells cs)) (l:Nat.ble (off+k) cs.length=true) (hs:yy cs off vs=cs'):zo P o env (h.ext L M)=.ok aundef (h.ext (L.set j (.cells cs')) M):=by
 refine s_store f g c n m ?_;simp only [aStore,p,zZ,e];rw [if_pos ⟨i,Nat.le_of_ble_eq_true l⟩,qg,hs]
end
theorem wk_ext2 {h:AH} {L0 L1 L':List Blk} {M0 M1 M':List Nat} {env:List AV} (m:zw (h.blks.length+L0.length) (h.toks.length+M0.length) env=true) (e:L'.take L0.length=L1) (g:M'.take M0.length=M1)
  (j:∀(i:Nat) (k:Blk),L1[i]?=some k->L0[i]?=some k \/ k.low (h.blks.length+L0.length) (h.toks.length+M0.length)=true) :
  wk (h.ext L0 M0) env (h.ext L' M') env (h.ext L1 M1):=by
 have b:(h.ext L0 M0).blks.length=h.blks.length+L0.length:=by simp [AH.ext]
 have c:(h.ext L0 M0).toks.length=h.toks.length+M0.length:=by simp [AH.ext]
 have:=wk.cut (hd:=h.ext L0 M0) (env:=env) (h:=h.ext L' M') (by rw [b,c];exact m) (λi k hi a=>by
  rw [b] at hi;rw [b,c];simp only [AH.ext] at a ⊢;rcases Nat.lt_or_ge i h.blks.length with d | d
  ·rw [List.getElem?_append_left d] at a ⊢;exact .inl a
  ·rw [List.getElem?_append_right d] at a ⊢;exact j (i - h.blks.length) k (by rw [<- e,List.getElem?_take,if_pos (by omega)];exact a))
 have f:(h.ext L' M').cut (h.ext L0 M0).blks.length (h.ext L0 M0).toks.length=h.ext L1 M1:=by
  rw [b,c];simp only [AH.cut,AH.ext,List.take_append,Nat.add_sub_cancel_left,e,g];rw [List.take_of_length_le (l:=h.blks) (by omega),List.take_of_length_le (l:=h.toks) (by omega)]
 rw [f] at this;exact this
theorem e_range {P:Program} {o:Oper} {env:List AV} {h:AH} {L:List Blk} {M:List Nat} {t:TypeId} {x:Operand} {s:List UInt8} {k n:Nat} (a:o.op=.range t x) (d:Ty P t .string k) (e:ye env x=some (.str s)) (c:L.length=n) :
  zo P o env (h.ext L M)=.ok (.ptr (h.blks.length+n) 0) (h.ext (L++[.siter s 0]) M):=by
 obtain ⟨f,b⟩:=zD e;simp only [zo,a,f,if_true,d.u,b,ext_new,<- c];simp [AH.ext]
theorem ops_next {P:Program} {b:Array Oper} {Q:List AV->AH->Prop} {o:Oper} {rest:List Oper} {env:List AV} {k:List AV} {n:List AV} {h:AH} {L:List Blk} {M:List Nat} {x:Operand} {s:List UInt8} {j a:Nat} (l:aG b o env=some true) (i:o.op=.next x true)
  (q:ye env x=some (.ptr (h.blks.length+j) 0)) (g:L[j]?=some (.siter s a)) (d:vq o.dst env (.tup [.bool true,.int .i64 a,.int .i32 (dec s a).1])=some k) (f:vq o.dst env (.tup [.bool false])=some n)
  (c:a < s.length->zy P b Q rest k (h.ext (L.set j (.siter s (a+(dec s a).2))) M)) (e:s.length<=a->zy P b Q rest n (h.ext L M)):zy P b Q (o::rest) env (h.ext L M):=by
 obtain ⟨p,m⟩:=zD q;by_cases hp:a < s.length
 ·refine zc l ?_ d (c hp);simp only [zo,i,p,Bool.and_self,if_true,m,aNext,zZ,g,hp,qg]
 ·refine zc l ?_ f (e (by omega));simp only [zo,i,p,Bool.and_self,if_true,m,aNext,zZ,g,hp,if_false]
section
variable {P:Program} {env:List AV} {h:AH} {rs:List ResultVar} {vs:List AV}
theorem rl_nil:qq P env h []=some []:=rfl
theorem rl_tmp {t:Nat} {v:AV} (b:ye env (.tmp t)=some v) (k:qq P env h rs=some vs):qq P env h (.tmp t::rs)=some (v::vs):=by
 have a:env.getD t aundef=v:=by rw [List.getD_eq_getElem?_getD,show env[t]?=some v from b];rfl
 simp only [qq,k,a]
theorem rl_cell {a t:Nat} {d:TypeDesc} {k j:Nat} {L:List Blk} {M:List Nat} {cs:List AV} {v f:AV} (c:Ty P t d k) (n:ye env (.tmp a)=some (.ptr (h.blks.length+j) 0)) (l:L[j]?=some (.cells cs)) (g:ldC (zS d) k 0 cs=some v) (m:tyfix P t v=f)
  (r:qq P env (h.ext L M) rs=some vs):qq P env (h.ext L M) (.cell a t::rs)=some (f::vs):=by
 have b:env.getD a aundef=.ptr (h.blks.length+j) 0:=by rw [List.getD_eq_getElem?_getD,show env[a]?=some _ from n];rfl
 obtain ⟨i,q,p⟩:=c.i;simp only [qq,c.u,q,p,b,aLoad,zZ,l,r];have e:(if zS d then if 0+k<=cs.length then some (AV.agg ((cs.drop 0).take k)) else none else cs[0]?)=some v:=g;rw [e];simp only [m]
theorem q_retL1 {fn:Func} {K:AV->AH->Prop} {h0:AH} {v:AV} (a:fn.results=⟨rs⟩) (c:qq P env h rs=some [v]) (b:finK h0 K v h):bodyQ P fn h0 K .ret env h:=by
 simp only [bodyQ,aRes,a,c];exact b
end
theorem xQ {h:AH} {L:List Blk} {M:List Nat} {K:AV->AH->Prop} {v b:AV} (c:leV v b) (d:b.low h.blks.length h.toks.length=true) (a:K b h):finK h K v (h.ext L M):=by
 refine fin_cut c d (λi k hi a=>.inl ?_) (by rw [ext_cut];exact a);simp only [AH.ext] at a;rw [List.getElem?_append_left hi] at a;exact a
theorem za {P : Program} {f : FuncId} {fn : Func} {c : Code} (hf : P.funcs[f]? = some fn) (hb : fn.body = some c) (hname : (fn.name == "runtime.NumGoroutine") = false) {args : List AV} {h : AH} {K : AV → AH → Prop} {env : List AV}
  (he:args++List.replicate (fn.ntmps - args.length) aundef=env) (hw:vt P c (bodyQ P fn h K) env (h.ext [] [])):Spec P f args h K:=by
 rw [ext_nil] at hw;exact spec_of_body hf hb hname (by rw [he];exact hw)
theorem xP {d:TypeDesc} (hd:zS d=true) {k off:Nat} {cs cs':List AV} (h:Nat.ble (off+k) cs.length=true) (a:(cs.drop off).take k=cs'):ldC (zS d) k off cs=some (.agg cs'):=by
 rw [hd];exact ldC_ag h a
theorem vC {P:Program} {t:TypeId} {d:TypeDesc} {k:Nat} (a:P.underlying t=some d) (hi:(P.info? t).map (λi=>i.size)=some k):Ty P t d k:=by
 refine ⟨a,?_⟩;cases h:P.info? t with
 | none=>rw [h] at hi;cases hi
 | some i=>rw [h] at hi;exact ⟨i,rfl,by simpa using hi⟩
theorem wi {P:Program} {t u:TypeId} {f off k:Nat} (a:fieldOff P t f=some (off,u)) (hi:(P.info? u).map (λi=>i.size)=some k):Fo P t f off u k:=by
 refine ⟨a,?_⟩;cases h:P.info? u with
 | none=>rw [h] at hi;cases hi
 | some i=>rw [h] at hi;exact ⟨i,rfl,by simpa using hi⟩
theorem mkEl {P:Program} {t e:TypeId} {k:Nat} (a:P.underlying t=some (.slice e)) (hi:(P.info? e).map (λi=>(i.size,decide (i.bytes<=65536)&&decide (0 < k)&&(i.zero.map (·.cells.size))==some k))=some (k,true)):El P t e k:=by
 refine ⟨a,?_⟩;cases h:P.info? e with
 | none=>rw [h] at hi;cases hi
 | some i =>
  rw [h] at hi;simp only [Option.map_some,Option.some.injEq,Prod.mk.injEq,Bool.and_eq_true,decide_eq_true_eq,beq_iff_eq] at hi;exact ⟨i,rfl,hi.1,hi.2.1.1,hi.2.1.2,hi.2.2⟩
theorem w64 {n:Int} (h:-9223372036854775808<=n/\n<=9223372036854775807):IntKind.i64.wrap n=n:=by rw [IntKind.wrap_i64];omega
theorem y8 {n m:Int} (e:n=m) (h:-9223372036854775808<=n/\n<=9223372036854775807):AV.int .i64 (IntKind.i64.wrap n)=.int .i64 m:=by rw [w64 h,e]
theorem yD {env:List AV}:argo env [] []=some []:=rfl
theorem zC {env:List AV} {x:Operand} {r:List Operand} {t:TypeId} {ts:List TypeId} {v:AV} {l:List (TypeId×AV)} (h:ye env x=some v) (k:argo env r ts=some l):argo env (x::r) (t::ts)=some ((t,v)::l):=by
 simp only [argo,h,k]
theorem yl {n:Nat} (h:n<=maxLen):n<=9223372036854775807:=h
theorem Spec.le {P:Program} {f:FuncId} {a bs:List AV} {h:AH} {K:AV->AH->Prop} (s:Spec P f bs h K) (k:leL a bs):Spec P f a h K :=
 ⟨s.1,λB w0 _ g w vs r b=>s.2 B w0 g w vs r (k _ _ b)⟩
abbrev plainK2:=xB
structure PK (P:Program) (t:TypeId) (ks:List Kd):Prop where
 g:P.eqGuardType P.depth t=false
 a:(P.underlying t).any zS=true
 k:xB P 6 t=some ks
theorem mkPK {P:Program} {t:TypeId} {a:List Kd} (d:P.eqGuardType P.depth t=false) (c:(P.underlying t).any zS=true) (b:plainK2 P 6 t=some a):PK P t a:=⟨d,c,b⟩
theorem bin_eq {P:Program} {t:TypeId} {d:List Kd} {cs ds:List AV} {b:Bool} (c:PK P t d) (h:qm d cs ds=some b):yd P .eql t (.agg cs) (.agg ds)=some (.bool b):=by
 simp only [yd,aEq,c.g,c.a,c.k,Option.some_or,and_self,if_true,h,Option.map_some]
theorem bin_ne {P:Program} {t:TypeId} {d:List Kd} {cs ds:List AV} {b:Bool} (c:PK P t d) (h:qm d cs ds=some b):yd P .neq t (.agg cs) (.agg ds)=some (.bool !b):=by
 simp only [yd,aEq,c.g,c.a,c.k,Option.some_or,and_self,if_true,h,Option.map_some]
structure PKA (P:Program) (t:TypeId) (ks:List Kd):Prop where
 g:P.eqGuardType P.depth t=false
 a:(P.underlying t).any zS=true
 k:(xB P 6 t).or (arrKs P t)=some ks
theorem bin_neA {P:Program} {t:TypeId} {d:List Kd} {cs ds:List AV} {b:Bool} (c:PKA P t d) (h:qm d cs ds=some b):yd P .neq t (.agg cs) (.agg ds)=some (.bool !b):=by
 simp only [yd,aEq,c.g,c.a,c.k,and_self,if_true,h,Option.map_some]
def parto (env:List AV):List (Nat×Operand)->Option (List (Nat×AV))
 | []=>some []
 | (i,x)::r=>match ye env x,parto env r with
  | some v,some vs=>some ((i,v)::vs)
  | _,_=>none
theorem zj {env:List AV}:parto env []=some []:=rfl
theorem zf {env:List AV} {i:Nat} {x:Operand} {r:List (Nat×Operand)} {v:AV} {l:List (Nat×AV)} (h:ye env x=some v) (k:parto env r=some l):parto env ((i,x)::r)=some ((i,v)::l):=by simp only [parto,h,k]
inductive Fp (P:Program) (d:TypeDesc):List (Nat×AV)->List (Nat×AV)->Prop
 | nil:Fp P d [] []
 | cons {i:Nat} {v v':AV} {r s:List (Nat×AV)}:tyfix P (partTy d i) v=v'->Fp P d r s->Fp P d ((i,v)::r) ((i,v')::s)
theorem parts_ok {P:Program} {d:TypeDesc} {env:List AV}:∀{parts:List (Nat×Operand)} {l a:List (Nat×AV)},parto env parts=some l->Fp P d l a ->
  parts.all (λp=>z7 p.2)=true/\parts.map (λp=>(p.1,tyfix P (partTy d p.1) (ev env p.2)))=a
 | [],l,a,h,hf=>by simp only [parto,Option.some.injEq] at h;subst h;cases hf;exact ⟨rfl,rfl⟩
 | (i,x)::r,l,a,h,hf=>by
  simp only [parto] at h;split at h
  ·rename_i v vs e b;cases h;cases hf with
   | cons h1 h2 =>
    obtain ⟨c,f⟩:=parts_ok b h2;obtain ⟨g,j⟩:=zD e;refine ⟨by simp only [List.all_cons,g,c,Bool.and_self],?_⟩;simp only [List.map_cons,f,j,h1]
  ·cases h
theorem zU {P:Program} {o:Oper} {env:List AV} {h:AH} {t:TypeId} {parts:List (Nat×Operand)} {fs:Array Field} {z cs cs':List AV} {b:List (Nat×Nat)} {l c:List (Nat×AV)} (e:o.op=.build t ⟨parts⟩) (f:P.underlying t=some (.struct fs)) (g:xk P t=some z)
  (m:wH P fs=some b) (j:parto env parts=some l) (k:Fp P (.struct fs) l c) (q:vu (λi=>b[i]?) z c=some cs) (d:cs=cs'):zo P o env h=.ok (.agg cs') h:=by
 obtain ⟨r,n⟩:=parts_ok j k;have a:(⟨parts⟩:Array (Nat×Operand)).all (λp=>z7 p.2)=true:=by simpa using r
 simp only [zo,e,a,if_true,f,g,m,xd,n,q,Option.map_some,oo,d]
theorem s_buildArr {P:Program} {o:Oper} {env:List AV} {h:AH} {t e:TypeId} {n k:Nat} {d:TypeDesc} {parts:List (Nat×Operand)} {z cs cs':List AV} {l b:List (Nat×AV)} (g:o.op=.build t ⟨parts⟩) (m:P.underlying t=some (.array n e)) (q:xk P t=some z)
  (w:Ty P e d k) (r:parto env parts=some l) (u:Fp P (.array n e) l b) (x:vu (λi=>some (i * k,k)) z b=some cs) (c:cs=cs'):zo P o env h=.ok (.agg cs') h:=by
 obtain ⟨y,v⟩:=parts_ok r u;obtain ⟨j,f,s⟩:=w.i;have a:(⟨parts⟩:Array (Nat×Operand)).all (λp=>z7 p.2)=true:=by simpa using y
 simp only [zo,g,a,if_true,m,q,f,s,xd,v,x,Option.map_some,oo,c]
theorem zt {P:Program} {o:Oper} {env:List AV} {h:AH} {t e:TypeId} {n k:Nat} {parts:List (Nat×Operand)} {z cs cs':List AV} {es:List (List AV)} {l d:List (Nat×AV)} (m:o.op=.buildSlice t n ⟨parts⟩) (c:El P t e k) (q:xk P e=some z)
  (y:Nat.ble (n * k) 65536=true) (b:z.length=k) (r:parto env parts=some l) (w:Fp P (.slice e) l d) (B:vu (λi=>some (i * k,k)) ((List.replicate n z).flatten) d=some cs) (A:xD cs=some cs') (f:rows k n cs'=es) :
  zo P o env h=.ok (.osl none k es) h:=by
 obtain ⟨C,x⟩:=parts_ok r w;obtain ⟨j,g,s,_,v,_⟩:=c.i;have a:(⟨parts⟩:Array (Nat×Operand)).all (λp=>z7 p.2)=true:=by simpa using C
 simp only [zo,m,a,if_true,c.u,q,g,s,xd,x,B,A,f,v,Nat.le_of_ble_eq_true y,b,and_self]
end Go.Vv
