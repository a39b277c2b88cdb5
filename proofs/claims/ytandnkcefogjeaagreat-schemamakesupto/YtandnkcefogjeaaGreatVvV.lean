/- The heap as what it was ahead, and what has been made since. -/
import Derived.Test.YtandnkcefogjeaaGreatVvU
namespace Go.Vv
open Go

def AH.ext (h:AH) (L:List Blk) (M:List Nat):AH:={ blks:=h.blks++L,toks:=h.toks++M }
theorem ext_nil (h:AH):h.ext [] []=h:=by simp [AH.ext]
theorem yb {h:AH} {L:List Blk} {M:List Nat} {j:Nat}:(h.ext L M).blk (h.blks.length+j)=L[j]?:=by
 simp only [AH.blk,AH.ext];rw [List.getElem?_append_right (by omega)];congr 1;omega
theorem ext_new {h:AH} {L:List Blk} {M:List Nat} {b:Blk}:(h.ext L M).new b=h.ext (L++[b]) M:=by simp [AH.ext,AH.new,List.append_assoc]
theorem qV {h:AH} {L:List Blk} {M:List Nat} {b:Blk} {j:Nat}:(h.ext L M).put (h.blks.length+j) b=h.ext (L.set j b) M:=by
 simp only [AH.ext,AH.put];rw [List.set_append_right _ _ (by omega)];congr 3;omega
theorem ext_cut {h:AH} {L:List Blk} {M:List Nat}:(h.ext L M).cut h.blks.length h.toks.length=h:=by
 simp [AH.cut,AH.ext]
def ldC (ag:Bool) (k off:Nat) (cs:List AV):Option AV:=if ag then (if off+k<=cs.length then some (.agg ((cs.drop off).take k)) else none) else cs[off]?
theorem zY {k off:Nat} {cs:List AV} {v:AV} (h:cs[off]?=some v):ldC false k off cs=some v:=h
theorem ldC_ag {k off:Nat} {cs cs':List AV} (h:Nat.ble (off+k) cs.length=true) (a:(cs.drop off).take k=cs'):ldC true k off cs=some (.agg cs'):=by
 simp only [ldC,if_true,if_pos (Nat.le_of_ble_eq_true h),a]

section
variable {P:Program} {o:Oper} {env:List AV} {h:AH} {L:List Blk} {M:List Nat}
theorem qW {t:TypeId} {cs:List AV} {n:Nat} (c:o.op=.alloc t) (b:xq P t=some cs) (a:L.length=n):zr P o env (h.ext L M)=.ok (.ptr (h.blks.length+n) 0) (h.ext (L++[.cells cs]) M):=by
 rw [s_alloc c b,ext_new,<- a];simp [AH.ext]
theorem e_box {t:TypeId} {x:Operand} {a a':AV} {cs:List AV} {n:Nat} (e:o.op=.box t x) (b:yz env x=some a) (c:tyfix P t a=a') (f:a'.cells?=some cs) (d:L.length=n) :
  zr P o env (h.ext L M)=.ok (.ptr (h.blks.length+n) 0) (h.ext (L++[.cells cs]) M):=by
 rw [s_box e b c f,ext_new,<- d];simp [AH.ext]
theorem xT {t:TypeId} {d:TypeDesc} {k j off:Nat} {x:Operand} {cs:List AV} {v a:AV} (i:o.op=.load t x) (g:Ty P t d k) (c:yz env x=some (.ptr (h.blks.length+j) off)) (e:L[j]?=some (.cells cs))
  (b:ldC (z7 d) k off cs=some v) (f:tyfix P t v=a):zr P o env (h.ext L M)=.ok a (h.ext L M):=by
 refine s_load i g c ?_ f;simp only [aLoad,yb,e];exact b
theorem f_load {t:TypeId} {d:TypeDesc} {k:Nat} {x:Operand} {cs:List AV} {v a:AV} (g:o.op=.load t x) (f:Ty P t d k) (c:yz env x=some (.fptr cs))
  (b:ldC (z7 d) k 0 cs=some v) (e:tyfix P t v=a):zr P o env h=.ok a h:=by
 refine s_load g f c ?_ e;simp only [aLoad];simpa only [ldC,Nat.zero_add,List.drop_zero] using b
theorem zT {t:TypeId} {d:TypeDesc} {k j off:Nat} {x y:Operand} {cs vs cs':List AV} {b a:AV} (l:o.op=.store t x y) (m:Ty P t d k) (e:yz env x=some (.ptr (h.blks.length+j) off)) (n:yz env y=some b)
  (i:tyfix P t b=a) (p:a.cells?=some vs) (c:vs.length=k) (f:L[j]?=some (.cells cs)) (g:Nat.ble (off+k) cs.length=true) (hs:yG cs off vs=cs'):zr P o env (h.ext L M)=.ok aundef (h.ext (L.set j (.cells cs')) M):=by
 refine s_store l m e n i ?_;simp only [aStore,p,yb,f];rw [if_pos ⟨c,Nat.le_of_ble_eq_true g⟩,qV,hs]
end
theorem wk_ext2 {h:AH} {L0 L1 L':List Blk} {M0 M1 M':List Nat} {env:List AV} (m:zB (h.blks.length+L0.length) (h.toks.length+M0.length) env=true) (e:L'.take L0.length=L1) (f:M'.take M0.length=M1)
  (g:∀(i:Nat) (k:Blk),L1[i]?=some k->L0[i]?=some k \/ k.low (h.blks.length+L0.length) (h.toks.length+M0.length)=true) :
  wk (h.ext L0 M0) env (h.ext L' M') env (h.ext L1 M1):=by
 have b:(h.ext L0 M0).blks.length=h.blks.length+L0.length:=by simp [AH.ext]
 have c:(h.ext L0 M0).toks.length=h.toks.length+M0.length:=by simp [AH.ext]
 have:=wk.cut (hd:=h.ext L0 M0) (env:=env) (h:=h.ext L' M') (by rw [b,c];exact m) (λi k hi a=>by
  rw [b] at hi;rw [b,c];simp only [AH.ext] at a ⊢;rcases Nat.lt_or_ge i h.blks.length with d | d
  ·rw [List.getElem?_append_left d] at a ⊢;exact .inl a
  ·rw [List.getElem?_append_right d] at a ⊢;exact g (i - h.blks.length) k (by rw [<- e,List.getElem?_take,if_pos (by omega)];exact a))
 have j:(h.ext L' M').cut (h.ext L0 M0).blks.length (h.ext L0 M0).toks.length=h.ext L1 M1:=by
  rw [b,c];simp only [AH.cut,AH.ext,List.take_append,Nat.add_sub_cancel_left,e,f];rw [List.take_of_length_le (l:=h.blks) (by omega),List.take_of_length_le (l:=h.toks) (by omega)]
 rw [j] at this;exact this
theorem e_range {P:Program} {o:Oper} {env:List AV} {h:AH} {L:List Blk} {M:List Nat} {t:TypeId} {x:Operand} {s:List UInt8} {k n:Nat} (f:o.op=.range t x) (e:Ty P t .string k) (a:yz env x=some (.str s)) (d:L.length=n) :
  zr P o env (h.ext L M)=.ok (.ptr (h.blks.length+n) 0) (h.ext (L++[.siter s 0]) M):=by
 obtain ⟨b,c⟩:=zO a;simp only [zr,f,b,if_true,e.u,c,ext_new,<- d];simp [AH.ext]
theorem ops_next {P:Program} {b:Array Oper} {Q:List AV->AH->Prop} {o:Oper} {rest:List Oper} {env:List AV} {g:List AV} {n:List AV} {h:AH} {L:List Blk} {M:List Nat} {x:Operand} {s:List UInt8} {j a:Nat} (m:aG b o env=some true) (l:o.op=.next x true)
  (q:yz env x=some (.ptr (h.blks.length+j) 0)) (k:L[j]?=some (.siter s a)) (c:dso o.dst env (.tup [.bool true,.int .i64 a,.int .i32 (dec s a).1])=some g) (d:dso o.dst env (.tup [.bool false])=some n)
  (e:a < s.length->zH P b Q rest g (h.ext (L.set j (.siter s (a+(dec s a).2))) M)) (f:s.length<=a->zH P b Q rest n (h.ext L M)):zH P b Q (o::rest) env (h.ext L M):=by
 obtain ⟨i,p⟩:=zO q;by_cases hp:a < s.length
 ·refine zd m ?_ c (e hp);simp only [zr,l,i,Bool.and_self,if_true,p,aNext,yb,k,hp,qV]
 ·refine zd m ?_ d (f (by omega));simp only [zr,l,i,Bool.and_self,if_true,p,aNext,yb,k,hp,if_false]
section
variable {P:Program} {env:List AV} {h:AH} {rs:List ResultVar} {vs:List AV}
theorem rl_tmp {t:Nat} {v:AV} (b:yz env (.tmp t)=some v) (k:aResL P env h rs=some vs):aResL P env h (.tmp t::rs)=some (v::vs):=by
 have a:env.getD t aundef=v:=by rw [List.getD_eq_getElem?_getD,show env[t]?=some v from b];rfl
 simp only [aResL,k,a]
theorem rl_cell {a t:Nat} {d:TypeDesc} {k j:Nat} {L:List Blk} {M:List Nat} {cs:List AV} {v c:AV} (f:Ty P t d k) (q:yz env (.tmp a)=some (.ptr (h.blks.length+j) 0)) (m:L[j]?=some (.cells cs)) (g:ldC (z7 d) k 0 cs=some v) (n:tyfix P t v=c)
  (r:aResL P env (h.ext L M) rs=some vs):aResL P env (h.ext L M) (.cell a t::rs)=some (c::vs):=by
 have b:env.getD a aundef=.ptr (h.blks.length+j) 0:=by rw [List.getD_eq_getElem?_getD,show env[a]?=some _ from q];rfl
 obtain ⟨i,l,p⟩:=f.i;simp only [aResL,f.u,l,p,b,aLoad,yb,m,r];have e:(if z7 d then if 0+k<=cs.length then some (AV.agg ((cs.drop 0).take k)) else none else cs[0]?)=some v:=g;rw [e];simp only [n]
end
theorem wJ {h:AH} {L:List Blk} {M:List Nat} {K:AV->AH->Prop} {v b:AV} (c:leV v b) (d:b.low h.blks.length h.toks.length=true) (a:K b h):finK h K v (h.ext L M):=by
 refine fin_cut c d (λi k hi a=>.inl ?_) (by rw [ext_cut];exact a);simp only [AH.ext] at a;rw [List.getElem?_append_left hi] at a;exact a
theorem za {P : Program} {f : FuncId} {fn : Func} {c : Code} (hf : P.funcs[f]? = some fn) (hb : fn.body = some c) (hname : (fn.name == "runtime.NumGoroutine") = false) {args : List AV} {h : AH} {K : AV → AH → Prop} {env : List AV}
  (he:args++List.replicate (fn.ntmps - args.length) aundef=env) (hw:vQ P c (bodyQ P fn h K) env (h.ext [] [])):Spec P f args h K:=by
 rw [ext_nil] at hw;exact spec_of_body hf hb hname (by rw [he];exact hw)
theorem xH {d:TypeDesc} (hd:z7 d=true) {k off:Nat} {cs cs':List AV} (h:Nat.ble (off+k) cs.length=true) (a:(cs.drop off).take k=cs'):ldC (z7 d) k off cs=some (.agg cs'):=by
 rw [hd];exact ldC_ag h a
theorem qQ {P:Program} {t:TypeId} {d:TypeDesc} {k:Nat} (a:P.underlying t=some d) (hi:(P.info? t).map (λi=>i.size)=some k):Ty P t d k:=by
 refine ⟨a,?_⟩;cases h:P.info? t with
 | none=>rw [h] at hi;cases hi
 | some i=>rw [h] at hi;exact ⟨i,rfl,by simpa using hi⟩
theorem xY {P:Program} {t u:TypeId} {f off k:Nat} (a:fieldOff P t f=some (off,u)) (hi:(P.info? u).map (λi=>i.size)=some k):Fo P t f off u k:=by
 refine ⟨a,?_⟩;cases h:P.info? u with
 | none=>rw [h] at hi;cases hi
 | some i=>rw [h] at hi;exact ⟨i,rfl,by simpa using hi⟩
theorem mkEl {P:Program} {t e:TypeId} {k:Nat} (a:P.underlying t=some (.slice e)) (hi:(P.info? e).map (λi=>(i.size,decide (i.bytes<=65536)&&decide (0 < k)&&(i.zero.map (·.cells.size))==some k))=some (k,true)):El P t e k:=by
 refine ⟨a,?_⟩;cases h:P.info? e with
 | none=>rw [h] at hi;cases hi
 | some i =>
  rw [h] at hi;simp only [Option.map_some,Option.some.injEq,Prod.mk.injEq,Bool.and_eq_true,decide_eq_true_eq,beq_iff_eq] at hi;exact ⟨i,rfl,hi.1,hi.2.1.1,hi.2.1.2,hi.2.2⟩
theorem w64 {n:Int} (h:-9223372036854775808<=n/\n<=9223372036854775807):IntKind.i64.wrap n=n:=by rw [IntKind.wrap_i64];omega
theorem yL {n m:Int} (e:n=m) (h:-9223372036854775808<=n/\n<=9223372036854775807):AV.int .i64 (IntKind.i64.wrap n)=.int .i64 m:=by rw [w64 h,e]
theorem w8e {n m:Int} (e:n=m) (h:0<=n/\n<=255):AV.int .u8 (IntKind.u8.wrap n)=.int .u8 m:=by
 subst e;congr 1;rw [IntKind.wrap_u8];omega
theorem xF {env:List AV}:argo env [] []=some []:=rfl
theorem ye {env:List AV} {x:Operand} {r:List Operand} {t:TypeId} {ts:List TypeId} {v:AV} {l:List (TypeId×AV)} (h:yz env x=some v) (k:argo env r ts=some l):argo env (x::r) (t::ts)=some ((t,v)::l):=by
 simp only [argo,h,k]
theorem zU {n:Nat} (h:n<=maxLen):n<=9223372036854775807:=h
theorem Spec.le {P:Program} {f:FuncId} {a bs:List AV} {h:AH} {K:AV->AH->Prop} (s:Spec P f bs h K) (k:leL a bs):Spec P f a h K :=
 ⟨s.1,λB w0 _ g w vs r b=>s.2 B w0 g w vs r (k _ _ b)⟩
abbrev plainK2:=wq
structure PK (P:Program) (t:TypeId) (ks:List Kd):Prop where
 g:P.eqGuardType P.depth t=false
 a:(P.underlying t).any z7=true
 k:wq P 6 t=some ks
theorem mkPK {P:Program} {t:TypeId} {a:List Kd} (b:P.eqGuardType P.depth t=false) (c:(P.underlying t).any z7=true) (d:plainK2 P 6 t=some a):PK P t a:=⟨b,c,d⟩
theorem bin_eq {P:Program} {t:TypeId} {d:List Kd} {cs ds:List AV} {b:Bool} (c:PK P t d) (h:aEqL d cs ds=some b):yB P .eql t (.agg cs) (.agg ds)=some (.bool b):=by
 simp only [yB,aEq,c.g,c.a,c.k,and_self,if_true,h,Option.map_some]
theorem bin_ne {P:Program} {t:TypeId} {d:List Kd} {cs ds:List AV} {b:Bool} (c:PK P t d) (h:aEqL d cs ds=some b):yB P .neq t (.agg cs) (.agg ds)=some (.bool !b):=by
 simp only [yB,aEq,c.g,c.a,c.k,and_self,if_true,h,Option.map_some]
def parto (env:List AV):List (Nat×Operand)->Option (List (Nat×AV))
 | []=>some []
 | (i,x)::r=>match yz env x,parto env r with
  | some v,some vs=>some ((i,v)::vs)
  | _,_=>none
theorem zg {env:List AV}:parto env []=some []:=rfl
theorem ze {env:List AV} {i:Nat} {x:Operand} {r:List (Nat×Operand)} {v:AV} {l:List (Nat×AV)} (h:yz env x=some v) (k:parto env r=some l):parto env ((i,x)::r)=some ((i,v)::l):=by simp only [parto,h,k]
inductive Fp (P:Program) (d:TypeDesc):List (Nat×AV)->List (Nat×AV)->Prop
 | nil:Fp P d [] []
 | cons {i:Nat} {v v':AV} {r s:List (Nat×AV)}:tyfix P (partTy d i) v=v'->Fp P d r s->Fp P d ((i,v)::r) ((i,v')::s)
theorem parts_ok {P:Program} {d:TypeDesc} {env:List AV}:∀{parts:List (Nat×Operand)} {l a:List (Nat×AV)},parto env parts=some l->Fp P d l a ->
  parts.all (λp=>yg p.2)=true/\parts.map (λp=>(p.1,tyfix P (partTy d p.1) (ev env p.2)))=a
 | [],l,a,h,hf=>by simp only [parto,Option.some.injEq] at h;subst h;cases hf;exact ⟨rfl,rfl⟩
 | (i,x)::r,l,a,h,hf=>by
  simp only [parto] at h;split at h
  ·rename_i v vs f b;cases h;cases hf with
   | cons h1 h2 =>
    obtain ⟨g,e⟩:=parts_ok b h2;obtain ⟨c,j⟩:=zO f;refine ⟨by simp only [List.all_cons,c,g,Bool.and_self],?_⟩;simp only [List.map_cons,e,j,h1]
  ·cases h
theorem zQ {P:Program} {o:Oper} {env:List AV} {h:AH} {t:TypeId} {parts:List (Nat×Operand)} {fs:Array Field} {z cs cs':List AV} {c:List (Nat×Nat)} {l b:List (Nat×AV)} (k:o.op=.build t ⟨parts⟩) (d:P.underlying t=some (.struct fs)) (j:xq P t=some z)
  (r:xX P fs=some c) (e:parto env parts=some l) (g:Fp P (.struct fs) l b) (m:vS (λi=>c[i]?) z b=some cs) (n:cs=cs'):zr P o env h=.ok (.agg cs') h:=by
 obtain ⟨f,q⟩:=parts_ok e g;have a:(⟨parts⟩:Array (Nat×Operand)).all (λp=>yg p.2)=true:=by simpa using f
 simp only [zr,k,a,if_true,d,j,r,xg,q,m,Option.map_some,oo,n]
theorem s_buildArr {P:Program} {o:Oper} {env:List AV} {h:AH} {t e:TypeId} {n k:Nat} {d:TypeDesc} {parts:List (Nat×Operand)} {z cs cs':List AV} {l b:List (Nat×AV)} (v:o.op=.build t ⟨parts⟩) (f:P.underlying t=some (.array n e)) (u:xq P t=some z)
  (s:Ty P e d k) (g:parto env parts=some l) (r:Fp P (.array n e) l b) (w:vS (λi=>some (i * k,k)) z b=some cs) (x:cs=cs'):zr P o env h=.ok (.agg cs') h:=by
 obtain ⟨q,y⟩:=parts_ok g r;obtain ⟨j,m,c⟩:=s.i;have a:(⟨parts⟩:Array (Nat×Operand)).all (λp=>yg p.2)=true:=by simpa using q
 simp only [zr,v,a,if_true,f,u,m,c,xg,y,w,Option.map_some,oo,x]
theorem zp {P:Program} {o:Oper} {env:List AV} {h:AH} {t e:TypeId} {n k:Nat} {parts:List (Nat×Operand)} {z cs cs':List AV} {es:List (List AV)} {l d:List (Nat×AV)} (w:o.op=.buildSlice t n ⟨parts⟩) (c:El P t e k) (v:xq P e=some z)
  (q:Nat.ble (n * k) 65536=true) (a:z.length=k) (g:parto env parts=some l) (s:Fp P (.slice e) l d) (y:vS (λi=>some (i * k,k)) ((List.replicate n z).flatten) d=some cs) (C:xI cs=some cs') (A:rows k n cs'=es) :
  zr P o env h=.ok (.osl none k es) h:=by
 obtain ⟨r,B⟩:=parts_ok g s;obtain ⟨j,m,f,_,x,_⟩:=c.i;have b:(⟨parts⟩:Array (Nat×Operand)).all (λp=>yg p.2)=true:=by simpa using r
 simp only [zr,w,b,if_true,c.u,v,m,f,xg,B,y,C,A,x,Nat.le_of_ble_eq_true q,a,and_self]
end Go.Vv
