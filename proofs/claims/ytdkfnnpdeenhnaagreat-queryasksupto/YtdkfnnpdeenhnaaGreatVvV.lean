/- The heap as what it was ahead, and what has been made since. -/
import Derived.Test.YtdkfnnpdeenhnaaGreatVvU
namespace Go.Vv
open Go

def AH.ext (h:AH) (L:List Blk) (M:List Nat):AH:={ blks:=h.blks++L,toks:=h.toks++M }
theorem ext_nil (h:AH):h.ext [] []=h:=by simp [AH.ext]
theorem zQ {h:AH} {L:List Blk} {M:List Nat} {j:Nat}:(h.ext L M).blk (h.blks.length+j)=L[j]?:=by
 simp only [AH.blk,AH.ext];rw [List.getElem?_append_right (by omega)];congr 1;omega
theorem ext_new {h:AH} {L:List Blk} {M:List Nat} {b:Blk}:(h.ext L M).new b=h.ext (L++[b]) M:=by simp [AH.ext,AH.new,List.append_assoc]
theorem vz {h:AH} {L:List Blk} {M:List Nat} {b:Blk} {j:Nat}:(h.ext L M).put (h.blks.length+j) b=h.ext (L.set j b) M:=by
 simp only [AH.ext,AH.put];rw [List.set_append_right _ _ (by omega)];congr 3;omega
theorem ext_cut {h:AH} {L:List Blk} {M:List Nat}:(h.ext L M).cut h.blks.length h.toks.length=h:=by
 simp [AH.cut,AH.ext]
def ldC (ag:Bool) (k off:Nat) (cs:List AV):Option AV:=if ag then (if off+k<=cs.length then some (.agg ((cs.drop off).take k)) else none) else cs[off]?
theorem xk {k off:Nat} {cs:List AV} {v:AV} (h:cs[off]?=some v):ldC false k off cs=some v:=h
theorem ldC_ag {k off:Nat} {cs cs':List AV} (h:Nat.ble (off+k) cs.length=true) (a:(cs.drop off).take k=cs'):ldC true k off cs=some (.agg cs'):=by
 simp only [ldC,if_true,if_pos (Nat.le_of_ble_eq_true h),a]

section
variable {P:Program} {o:Oper} {env:List AV} {h:AH} {L:List Blk} {M:List Nat}
theorem e_alloc {t:TypeId} {cs:List AV} {n:Nat} (b:o.op=.alloc t) (a:xc P t=some cs) (c:L.length=n):zn P o env (h.ext L M)=.ok (.ptr (h.blks.length+n) 0) (h.ext (L++[.cells cs]) M):=by
 rw [s_alloc b a,ext_new,<- c];simp [AH.ext]
theorem e_box {t:TypeId} {x:Operand} {a a':AV} {cs:List AV} {n:Nat} (c:o.op=.box t x) (f:zU env x=some a) (b:tyfix P t a=a') (e:a'.cells?=some cs) (d:L.length=n) :
  zn P o env (h.ext L M)=.ok (.ptr (h.blks.length+n) 0) (h.ext (L++[.cells cs]) M):=by
 rw [s_box c f b e,ext_new,<- d];simp [AH.ext]
theorem x6 {t:TypeId} {d:TypeDesc} {k j off:Nat} {x:Operand} {cs:List AV} {v v':AV} (f:o.op=.load t x) (b:Ty P t d k) (g:zU env x=some (.ptr (h.blks.length+j) off)) (c:L[j]?=some (.cells cs))
  (a:ldC (zK d) k off cs=some v) (e:tyfix P t v=v'):zn P o env (h.ext L M)=.ok v' (h.ext L M):=by
 refine s_load f b g ?_ e;simp only [qG,zQ,c];exact a
theorem f_load {t:TypeId} {d:TypeDesc} {k:Nat} {x:Operand} {cs:List AV} {v v':AV} (e:o.op=.load t x) (b:Ty P t d k) (f:zU env x=some (.fptr cs))
  (a:ldC (zK d) k 0 cs=some v) (c:tyfix P t v=v'):zn P o env h=.ok v' h:=by
 refine s_load e b f ?_ c;simp only [qG];simpa only [ldC,Nat.zero_add,List.drop_zero] using a
theorem z7 {t:TypeId} {d:TypeDesc} {k j off:Nat} {x y:Operand} {cs vs cs':List AV} {b a:AV} (n:o.op=.store t x y) (l:Ty P t d k) (i:zU env x=some (.ptr (h.blks.length+j) off)) (g:zU env y=some b)
  (f:tyfix P t b=a) (p:a.cells?=some vs) (m:vs.length=k) (e:L[j]?=some (.cells cs)) (c:Nat.ble (off+k) cs.length=true) (hs:ye cs off vs=cs'):zn P o env (h.ext L M)=.ok aundef (h.ext (L.set j (.cells cs')) M):=by
 refine s_store n l i g f ?_;simp only [aStore,p,zQ,e];rw [if_pos ⟨m,Nat.le_of_ble_eq_true c⟩,vz,hs]
end
theorem wk_ext2 {h:AH} {L0 L1 L':List Blk} {M0 M1 M':List Nat} {env:List AV} (f:zJ (h.blks.length+L0.length) (h.toks.length+M0.length) env=true) (e:L'.take L0.length=L1) (m:M'.take M0.length=M1)
  (j:∀(i:Nat) (k:Blk),L1[i]?=some k->L0[i]?=some k \/ k.low (h.blks.length+L0.length) (h.toks.length+M0.length)=true) :
  wk (h.ext L0 M0) env (h.ext L' M') env (h.ext L1 M1):=by
 have b:(h.ext L0 M0).blks.length=h.blks.length+L0.length:=by simp [AH.ext]
 have d:(h.ext L0 M0).toks.length=h.toks.length+M0.length:=by simp [AH.ext]
 have:=wk.cut (hd:=h.ext L0 M0) (env:=env) (h:=h.ext L' M') (by rw [b,d];exact f) (λi k hi a=>by
  rw [b] at hi;rw [b,d];simp only [AH.ext] at a ⊢;rcases Nat.lt_or_ge i h.blks.length with c | c
  ·rw [List.getElem?_append_left c] at a ⊢;exact .inl a
  ·rw [List.getElem?_append_right c] at a ⊢;exact j (i - h.blks.length) k (by rw [<- e,List.getElem?_take,if_pos (by omega)];exact a))
 have g:(h.ext L' M').cut (h.ext L0 M0).blks.length (h.ext L0 M0).toks.length=h.ext L1 M1:=by
  rw [b,d];simp only [AH.cut,AH.ext,List.take_append,Nat.add_sub_cancel_left,e,m];rw [List.take_of_length_le (l:=h.blks) (by omega),List.take_of_length_le (l:=h.toks) (by omega)]
 rw [g] at this;exact this
theorem e_range {P:Program} {o:Oper} {env:List AV} {h:AH} {L:List Blk} {M:List Nat} {t:TypeId} {x:Operand} {s:List UInt8} {k n:Nat} (c:o.op=.range t x) (a:Ty P t .string k) (f:zU env x=some (.str s)) (d:L.length=n) :
  zn P o env (h.ext L M)=.ok (.ptr (h.blks.length+n) 0) (h.ext (L++[.siter s 0]) M):=by
 obtain ⟨b,e⟩:=zw f;simp only [zn,c,b,if_true,a.u,e,ext_new,<- d];simp [AH.ext]
theorem ops_next {P:Program} {b:Array Oper} {Q:List AV->AH->Prop} {o:Oper} {rest:List Oper} {env:List AV} {p:List AV} {i:List AV} {h:AH} {L:List Blk} {M:List Nat} {x:Operand} {s:List UInt8} {j a:Nat} (k:aG b o env=some true) (n:o.op=.next x true)
  (q:zU env x=some (.ptr (h.blks.length+j) 0)) (g:L[j]?=some (.siter s a)) (e:xw o.dst env (.tup [.bool true,.int .i64 a,.int .i32 (dec s a).1])=some p) (c:xw o.dst env (.tup [.bool false])=some i)
  (f:a < s.length->zp P b Q rest p (h.ext (L.set j (.siter s (a+(dec s a).2))) M)) (d:s.length<=a->zp P b Q rest i (h.ext L M)):zp P b Q (o::rest) env (h.ext L M):=by
 obtain ⟨m,l⟩:=zw q;by_cases hp:a < s.length
 ·refine zc k ?_ e (f hp);simp only [zn,n,m,Bool.and_self,if_true,l,aNext,zQ,g,hp,vz]
 ·refine zc k ?_ c (d (by omega));simp only [zn,n,m,Bool.and_self,if_true,l,aNext,zQ,g,hp,if_false]
section
variable {P:Program} {env:List AV} {h:AH} {rs:List ResultVar} {vs:List AV}
theorem ql:va P env h []=some []:=rfl
theorem vP {t:Nat} {v:AV} (b:zU env (.tmp t)=some v) (k:va P env h rs=some vs):va P env h (.tmp t::rs)=some (v::vs):=by
 have a:env.getD t aundef=v:=by rw [List.getD_eq_getElem?_getD,show env[t]?=some v from b];rfl
 simp only [va,k,a]
theorem wb {a t:Nat} {d:TypeDesc} {k j:Nat} {L:List Blk} {M:List Nat} {cs:List AV} {v v':AV} (c:Ty P t d k) (f:zU env (.tmp a)=some (.ptr (h.blks.length+j) 0)) (l:L[j]?=some (.cells cs)) (g:ldC (zK d) k 0 cs=some v) (m:tyfix P t v=v')
  (r:va P env (h.ext L M) rs=some vs):va P env (h.ext L M) (.cell a t::rs)=some (v'::vs):=by
 have b:env.getD a aundef=.ptr (h.blks.length+j) 0:=by rw [List.getD_eq_getElem?_getD,show env[a]?=some _ from f];rfl
 obtain ⟨i,p,n⟩:=c.i;simp only [va,c.u,p,n,b,qG,zQ,l,r];have e:(if zK d then if 0+k<=cs.length then some (AV.agg ((cs.drop 0).take k)) else none else cs[0]?)=some v:=g;rw [e];simp only [m]
theorem qq {fn:Func} {K:AV->AH->Prop} {h0:AH} {v w:AV} {r:List AV} (b:fn.results=⟨rs⟩) (a:va P env h rs=some (v::w::r)) (c:finK h0 K (.tup (v::w::r)) h):qY P fn h0 K .ret env h:=by
 simp only [qY,aRes,b,a];exact c
end
theorem fin_ext {h:AH} {L:List Blk} {M:List Nat} {K:AV->AH->Prop} {v v':AV} (b:leV v v') (c:v'.low h.blks.length h.toks.length=true) (a:K v' h):finK h K v (h.ext L M):=by
 refine fin_cut b c (λi k hi a=>.inl ?_) (by rw [ext_cut];exact a);simp only [AH.ext] at a;rw [List.getElem?_append_left hi] at a;exact a
theorem za {P : Program} {f : FuncId} {fn : Func} {c : Code} (hf : P.funcs[f]? = some fn) (hb : fn.body = some c) (hname : (fn.name == "runtime.NumGoroutine") = false) {args : List AV} {h : AH} {K : AV → AH → Prop} {env : List AV}
  (he:args++List.replicate (fn.ntmps - args.length) aundef=env) (hw:wP P c (qY P fn h K) env (h.ext [] [])):Spec P f args h K:=by
 rw [ext_nil] at hw;exact spec_of_body hf hb hname (by rw [he];exact hw)
theorem yq {d:TypeDesc} (hd:zK d=true) {k off:Nat} {cs cs':List AV} (h:Nat.ble (off+k) cs.length=true) (a:(cs.drop off).take k=cs'):ldC (zK d) k off cs=some (.agg cs'):=by
 rw [hd];exact ldC_ag h a
theorem mkTy {P:Program} {t:TypeId} {d:TypeDesc} {k:Nat} (a:P.underlying t=some d) (hi:(P.info? t).map (λi=>i.size)=some k):Ty P t d k:=by
 refine ⟨a,?_⟩;cases h:P.info? t with
 | none=>rw [h] at hi;cases hi
 | some i=>rw [h] at hi;exact ⟨i,rfl,by simpa using hi⟩
theorem vX {P:Program} {t u:TypeId} {f off k:Nat} (a:vH P t f=some (off,u)) (hi:(P.info? u).map (λi=>i.size)=some k):Fo P t f off u k:=by
 refine ⟨a,?_⟩;cases h:P.info? u with
 | none=>rw [h] at hi;cases hi
 | some i=>rw [h] at hi;exact ⟨i,rfl,by simpa using hi⟩
theorem mkEl {P:Program} {t e:TypeId} {k:Nat} (a:P.underlying t=some (.slice e)) (hi:(P.info? e).map (λi=>(i.size,decide (i.bytes<=65536)&&decide (0 < k)&&(i.zero.map (·.cells.size))==some k))=some (k,true)):El P t e k:=by
 refine ⟨a,?_⟩;cases h:P.info? e with
 | none=>rw [h] at hi;cases hi
 | some i =>
  rw [h] at hi;simp only [Option.map_some,Option.some.injEq,Prod.mk.injEq,Bool.and_eq_true,decide_eq_true_eq,beq_iff_eq] at hi;exact ⟨i,rfl,hi.1,hi.2.1.1,hi.2.1.2,hi.2.2⟩
theorem w64 {n:Int} (h:-9223372036854775808<=n/\n<=9223372036854775807):IntKind.i64.wrap n=n:=by rw [IntKind.wrap_i64];omega
theorem y8 {n m:Int} (e:n=m) (h:-9223372036854775808<=n/\n<=9223372036854775807):AV.int .i64 (IntKind.i64.wrap n)=.int .i64 m:=by rw [w64 h,e]
theorem yr {env:List AV}:argo env [] []=some []:=rfl
theorem yz {env:List AV} {x:Operand} {r:List Operand} {t:TypeId} {ts:List TypeId} {v:AV} {l:List (TypeId×AV)} (h:zU env x=some v) (k:argo env r ts=some l):argo env (x::r) (t::ts)=some ((t,v)::l):=by
 simp only [argo,h,k]
theorem ya {n:Nat} (h:n<=maxLen):n<=9223372036854775807:=h
theorem Spec.le {P:Program} {f:FuncId} {a b:List AV} {h:AH} {K:AV->AH->Prop} (s:Spec P f b h K) (k:leL a b):Spec P f a h K :=
 ⟨s.1,λB w0 _ g w vs r c=>s.2 B w0 g w vs r (k _ _ c)⟩
abbrev plainK2:=yN
structure PK (P:Program) (t:TypeId) (ks:List Kd):Prop where
 g:P.eqGuardType P.depth t=false
 a:(P.underlying t).any zK=true
 k:yN P 6 t=some ks
theorem mkPK {P:Program} {t:TypeId} {a:List Kd} (b:P.eqGuardType P.depth t=false) (c:(P.underlying t).any zK=true) (d:plainK2 P 6 t=some a):PK P t a:=⟨b,c,d⟩
theorem bin_eq {P:Program} {t:TypeId} {d:List Kd} {cs ds:List AV} {b:Bool} (c:PK P t d) (h:w7 d cs ds=some b):zR P .eql t (.agg cs) (.agg ds)=some (.bool b):=by
 simp only [zR,aEq,c.g,c.a,c.k,Option.some_or,and_self,if_true,h,Option.map_some]
theorem bin_ne {P:Program} {t:TypeId} {d:List Kd} {cs ds:List AV} {b:Bool} (c:PK P t d) (h:w7 d cs ds=some b):zR P .neq t (.agg cs) (.agg ds)=some (.bool !b):=by
 simp only [zR,aEq,c.g,c.a,c.k,Option.some_or,and_self,if_true,h,Option.map_some]
structure PKA (P:Program) (t:TypeId) (ks:List Kd):Prop where
 g:P.eqGuardType P.depth t=false
 a:(P.underlying t).any zK=true
 k:(yN P 6 t).or (arrKs P t)=some ks
def parto (env:List AV):List (Nat×Operand)->Option (List (Nat×AV))
 | []=>some []
 | (i,x)::r=>match zU env x,parto env r with
  | some v,some vs=>some ((i,v)::vs)
  | _,_=>none
theorem zk {env:List AV}:parto env []=some []:=rfl
theorem zf {env:List AV} {i:Nat} {x:Operand} {r:List (Nat×Operand)} {v:AV} {l:List (Nat×AV)} (h:zU env x=some v) (k:parto env r=some l):parto env ((i,x)::r)=some ((i,v)::l):=by simp only [parto,h,k]
inductive Fp (P:Program) (d:TypeDesc):List (Nat×AV)->List (Nat×AV)->Prop
 | nil:Fp P d [] []
 | cons {i:Nat} {v v':AV} {r s:List (Nat×AV)}:tyfix P (partTy d i) v=v'->Fp P d r s->Fp P d ((i,v)::r) ((i,v')::s)
theorem parts_ok {P:Program} {d:TypeDesc} {env:List AV}:∀{parts:List (Nat×Operand)} {l a:List (Nat×AV)},parto env parts=some l->Fp P d l a ->
  parts.all (λp=>zO p.2)=true/\parts.map (λp=>(p.1,tyfix P (partTy d p.1) (ev env p.2)))=a
 | [],l,a,h,hf=>by simp only [parto,Option.some.injEq] at h;subst h;cases hf;exact ⟨rfl,rfl⟩
 | (i,x)::r,l,a,h,hf=>by
  simp only [parto] at h;split at h
  ·rename_i v vs c b;cases h;cases hf with
   | cons h1 h2 =>
    obtain ⟨j,g⟩:=parts_ok b h2;obtain ⟨e,f⟩:=zw c;refine ⟨by simp only [List.all_cons,e,j,Bool.and_self],?_⟩;simp only [List.map_cons,g,f,h1]
  ·cases h
theorem zG {P:Program} {o:Oper} {env:List AV} {h:AH} {t:TypeId} {parts:List (Nat×Operand)} {fs:Array Field} {z cs cs':List AV} {c:List (Nat×Nat)} {l b:List (Nat×AV)} (q:o.op=.build t ⟨parts⟩) (r:P.underlying t=some (.struct fs)) (g:xc P t=some z)
  (e:wt P fs=some c) (m:parto env parts=some l) (f:Fp P (.struct fs) l b) (d:wi (λi=>c[i]?) z b=some cs) (k:cs=cs'):zn P o env h=.ok (.agg cs') h:=by
 obtain ⟨n,j⟩:=parts_ok m f;have a:(⟨parts⟩:Array (Nat×Operand)).all (λp=>zO p.2)=true:=by simpa using n
 simp only [zn,q,a,if_true,r,g,e,yu,j,d,Option.map_some,oo,k]
theorem zr {P:Program} {o:Oper} {env:List AV} {h:AH} {t e:TypeId} {n k:Nat} {parts:List (Nat×Operand)} {z cs cs':List AV} {es:List (List AV)} {l c:List (Nat×AV)} (A:o.op=.buildSlice t n ⟨parts⟩) (d:El P t e k) (s:xc P e=some z)
  (C:Nat.ble (n * k) 65536=true) (a:z.length=k) (x:parto env parts=some l) (m:Fp P (.slice e) l c) (f:wi (λi=>some (i * k,k)) ((List.replicate n z).flatten) c=some cs) (B:yA cs=some cs') (r:rows k n cs'=es) :
  zn P o env h=.ok (.osl none k es) h:=by
 obtain ⟨y,v⟩:=parts_ok x m;obtain ⟨j,g,w,_,q,_⟩:=d.i;have b:(⟨parts⟩:Array (Nat×Operand)).all (λp=>zO p.2)=true:=by simpa using y
 simp only [zn,A,b,if_true,d.u,s,g,w,yu,v,f,B,r,q,Nat.le_of_ble_eq_true C,a,and_self]
end Go.Vv
