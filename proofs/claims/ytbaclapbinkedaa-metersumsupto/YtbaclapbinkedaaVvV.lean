/- The heap as what it was ahead, and what has been made since. -/
import Derived.Test.YtbaclapbinkedaaVvU
namespace Go.Vv
open Go

def AH.ext (h:AH) (L:List Blk) (M:List Nat):AH:={ blks:=h.blks++L,toks:=h.toks++M }
theorem ext_nil (h:AH):h.ext [] []=h:=by simp [AH.ext]
theorem wF {h:AH} {L:List Blk} {M:List Nat} {j:Nat}:(h.ext L M).blk (h.blks.length+j)=L[j]?:=by
 simp only [AH.blk,AH.ext]
 rw [List.getElem?_append_right (by omega)]
 congr 1;omega
theorem ext_new {h:AH} {L:List Blk} {M:List Nat} {b:Blk}:(h.ext L M).new b=h.ext (L++[b]) M:=by simp [AH.ext,AH.new,List.append_assoc]
theorem ext_put {h:AH} {L:List Blk} {M:List Nat} {b:Blk} {j:Nat}:(h.ext L M).put (h.blks.length+j) b=h.ext (L.set j b) M:=by
 simp only [AH.ext,AH.put]
 rw [List.set_append_right _ _ (by omega)]
 congr 3;omega
theorem ext_cut {h:AH} {L:List Blk} {M:List Nat}:(h.ext L M).cut h.blks.length h.toks.length=h:=by
 simp [AH.cut,AH.ext]
def ldC (ag:Bool) (k off:Nat) (cs:List AV):Option AV:=if ag then (if off+k≤cs.length then some (.agg ((cs.drop off).take k)) else none) else cs[off]?
theorem zt {k off:Nat} {cs:List AV} {v:AV} (h:cs[off]?=some v):ldC false k off cs=some v:=h
theorem ldC_ag {k off:Nat} {cs cs':List AV} (h:Nat.ble (off+k) cs.length=true) (hn:(cs.drop off).take k=cs'):ldC true k off cs=some (.agg cs'):=by
 simp only [ldC,if_true,if_pos (Nat.le_of_ble_eq_true h),hn]

section
variable {P:Program} {o:Oper} {env:List AV} {h:AH} {L:List Blk} {M:List Nat}
theorem xn {t:TypeId} {cs:List AV} {n:Nat} (ho:o.op=.alloc t) (hz:wy P t=some cs) (hn:L.length=n):zN P o env (h.ext L M)=.ok (.ptr (h.blks.length+n) 0) (h.ext (L++[.cells cs]) M):=by
 rw [s_alloc ho hz,ext_new,← hn];simp [AH.ext]
theorem xP {t:TypeId} {x:Operand} {a a':AV} {cs:List AV} {n:Nat} (ho:o.op=.box t x) (hx:yZ env x=some a) (hf:tyfix P t a=a') (hc:a'.cells?=some cs) (hn:L.length=n) :
  zN P o env (h.ext L M)=.ok (.ptr (h.blks.length+n) 0) (h.ext (L++[.cells cs]) M):=by
 rw [s_box ho hx hf hc,ext_new,← hn];simp [AH.ext]
theorem zy {t:TypeId} {d:TypeDesc} {k j off:Nat} {x:Operand} {cs:List AV} {v v':AV} (ho:o.op=.load t x) (ht:Ty P t d k) (hx:yZ env x=some (.ptr (h.blks.length+j) off)) (hj:L[j]?=some (.cells cs))
  (hv:ldC (yI d) k off cs=some v) (hf:tyfix P t v=v'):zN P o env (h.ext L M)=.ok v' (h.ext L M):=by
 refine s_load ho ht hx ?_ hf
 simp only [aLoad,wF,hj]
 exact hv
theorem yf {t:TypeId} {d:TypeDesc} {k:Nat} {x:Operand} {cs:List AV} {v v':AV} (ho:o.op=.load t x) (ht:Ty P t d k) (hx:yZ env x=some (.fptr cs))
  (hv:ldC (yI d) k 0 cs=some v) (hf:tyfix P t v=v'):zN P o env h=.ok v' h:=by
 refine s_load ho ht hx ?_ hf
 simp only [aLoad]
 simpa only [ldC,Nat.zero_add,List.drop_zero] using hv
theorem yk {t:TypeId} {d:TypeDesc} {k j off:Nat} {x y:Operand} {cs vs cs':List AV} {b b':AV} (ho:o.op=.store t x y) (ht:Ty P t d k) (hx:yZ env x=some (.ptr (h.blks.length+j) off)) (hy:yZ env y=some b)
  (hf:tyfix P t b=b') (hc:b'.cells?=some vs) (hl:vs.length=k) (hj:L[j]?=some (.cells cs)) (hb:Nat.ble (off+k) cs.length=true) (hs:xJ cs off vs=cs'):zN P o env (h.ext L M)=.ok za (h.ext (L.set j (.cells cs')) M):=by
 refine s_store ho ht hx hy hf ?_
 simp only [aStore,hc,wF,hj]
 rw [if_pos ⟨hl,Nat.le_of_ble_eq_true hb⟩,ext_put,hs]
end
theorem wk_ext2 {h:AH} {L0 L1 L':List Blk} {M0 M1 M':List Nat} {env:List AV} (hl:z9 (h.blks.length+L0.length) (h.toks.length+M0.length) env=true) (hL:L'.take L0.length=L1) (hM:M'.take M0.length=M1)
  (hb:∀ (i:Nat) (k:Blk),L1[i]?=some k→L0[i]?=some k ∨ k.low (h.blks.length+L0.length) (h.toks.length+M0.length)=true) :
  wk (h.ext L0 M0) env (h.ext L' M') env (h.ext L1 M1):=by
 have e1:(h.ext L0 M0).blks.length=h.blks.length+L0.length:=by simp [AH.ext]
 have e2:(h.ext L0 M0).toks.length=h.toks.length+M0.length:=by simp [AH.ext]
 have:=wk.cut (hd:=h.ext L0 M0) (env:=env) (h:=h.ext L' M') (by rw [e1,e2];exact hl) (fun i k hi hk=>by
  rw [e1] at hi
  rw [e1,e2]
  simp only [AH.ext] at hk ⊢
  rcases Nat.lt_or_ge i h.blks.length with h1 | h1
  ·rw [List.getElem?_append_left h1] at hk ⊢;exact .inl hk
  ·rw [List.getElem?_append_right h1] at hk ⊢
   exact hb (i - h.blks.length) k (by rw [← hL,List.getElem?_take,if_pos (by omega)];exact hk))
 have e3:(h.ext L' M').cut (h.ext L0 M0).blks.length (h.ext L0 M0).toks.length=h.ext L1 M1:=by
  rw [e1,e2]
  simp only [AH.cut,AH.ext,List.take_append,Nat.add_sub_cancel_left,hL,hM]
  rw [List.take_of_length_le (l:=h.blks) (by omega),List.take_of_length_le (l:=h.toks) (by omega)]
 rw [e3] at this
 exact this
theorem e_range {P:Program} {o:Oper} {env:List AV} {h:AH} {L:List Blk} {M:List Nat} {t:TypeId} {x:Operand} {s:List UInt8} {k n:Nat} (ho:o.op=.range t x) (ht:Ty P t .string k) (hx:yZ env x=some (.str s)) (hn:L.length=n) :
  zN P o env (h.ext L M)=.ok (.ptr (h.blks.length+n) 0) (h.ext (L++[.siter s 0]) M):=by
 obtain ⟨h1,h2⟩:=yu hx
 simp only [zN,ho,h1,if_true,ht.u,h2,ext_new,← hn]
 simp [AH.ext]
theorem ops_next {P:Program} {ops:Array Oper} {Q:List AV→AH→Prop} {o:Oper} {rest:List Oper} {env:List AV} {e1:List AV} {e2:List AV} {h:AH} {L:List Blk} {M:List Nat} {x:Operand} {s:List UInt8} {j pos:Nat} (hg:aG ops o env=some true) (ho:o.op=.next x true)
  (hx:yZ env x=some (.ptr (h.blks.length+j) 0)) (hj:L[j]?=some (.siter s pos)) (hd1:vl o.dst env (.tup [.bool true,.int .i64 pos,.int .i32 (dec s pos).1])=some e1) (hd2:vl o.dst env (.tup [.bool false])=some e2)
  (hk1:pos < s.length→ym P ops Q rest e1 (h.ext (L.set j (.siter s (pos+(dec s pos).2))) M)) (hk2:s.length≤pos→ym P ops Q rest e2 (h.ext L M)):ym P ops Q (o::rest) env (h.ext L M):=by
 obtain ⟨h1,h2⟩:=yu hx
 by_cases hp:pos < s.length
 ·refine zc hg ?_ hd1 (hk1 hp)
  simp only [zN,ho,h1,Bool.and_self,if_true,h2,aNext,wF,hj,hp,ext_put]
 ·refine zc hg ?_ hd2 (hk2 (by omega))
  simp only [zN,ho,h1,Bool.and_self,if_true,h2,aNext,wF,hj,hp,if_false]
section
variable {P:Program} {env:List AV} {h:AH} {rs:List ResultVar} {vs:List AV}
theorem zB:qY P env h []=some []:=rfl
theorem zE {t:Nat} {v:AV} (hv:yZ env (.tmp t)=some v) (k:qY P env h rs=some vs):qY P env h (.tmp t::rs)=some (v::vs):=by
 have hv':env.getD t za=v:=by rw [List.getD_eq_getElem?_getD,show env[t]?=some v from hv];rfl
 simp only [qY,k,hv']
theorem rl_cell {a t:Nat} {d:TypeDesc} {k j:Nat} {L:List Blk} {M:List Nat} {cs:List AV} {v v':AV} (ht:Ty P t d k) (hp:yZ env (.tmp a)=some (.ptr (h.blks.length+j) 0)) (hj:L[j]?=some (.cells cs)) (hv:ldC (yI d) k 0 cs=some v) (hf:tyfix P t v=v')
  (r:qY P env (h.ext L M) rs=some vs):qY P env (h.ext L M) (.cell a t::rs)=some (v'::vs):=by
 have hp':env.getD a za=.ptr (h.blks.length+j) 0:=by rw [List.getD_eq_getElem?_getD,show env[a]?=some _ from hp];rfl
 obtain ⟨i,h1,h2⟩:=ht.i
 simp only [qY,ht.u,h1,h2,hp',aLoad,wF,hj,r]
 have e:(if yI d then if 0+k≤cs.length then some (AV.agg ((cs.drop 0).take k)) else none else cs[0]?)=some v:=hv
 rw [e]
 simp only [hf]
theorem zA {fn:Func} {K:AV→AH→Prop} {h0:AH} {v:AV} (hr:fn.results=⟨rs⟩) (hl:qY P env h rs=some [v]) (hk:finK h0 K v h):bodyQ P fn h0 K .ret env h:=by
 simp only [bodyQ,aRes,hr,hl];exact hk
theorem q_retL {fn:Func} {K:AV→AH→Prop} {h0:AH} {v w:AV} {r:List AV} (hr:fn.results=⟨rs⟩) (hl:qY P env h rs=some (v::w::r)) (hk:finK h0 K (.tup (v::w::r)) h):bodyQ P fn h0 K .ret env h:=by
 simp only [bodyQ,aRes,hr,hl];exact hk
theorem xf {fn:Func} {K:AV→AH→Prop} {h0:AH} (hr:fn.results=⟨rs⟩) (hl:qY P env h rs=some []) (hk:finK h0 K (.tup []) h):bodyQ P fn h0 K .ret env h:=by
 simp only [bodyQ,aRes,hr,hl];exact hk
end
theorem zD {h:AH} {L:List Blk} {M:List Nat} {K:AV→AH→Prop} {v v':AV} (hv:leV v v') (hl:v'.low h.blks.length h.toks.length=true) (hk:K v' h):finK h K v (h.ext L M):=by
 refine fin_cut hv hl (fun i k hi hk=>.inl ?_) (by rw [ext_cut];exact hk)
 simp only [AH.ext] at hk
 rw [List.getElem?_append_left hi] at hk
 exact hk
theorem zw {P : Program} {f : FuncId} {fn : Func} {c : Code} (hf : P.funcs[f]? = some fn) (hb : fn.body = some c) (hname : (fn.name == "runtime.NumGoroutine") = false) {args : List AV} {h : AH} {K : AV → AH → Prop} {env : List AV}
  (he:args++List.replicate (fn.ntmps - args.length) za=env) (hw:qU P c (bodyQ P fn h K) env (h.ext [] [])):Spec P f args h K:=by
 rw [ext_nil] at hw
 exact spec_of_body hf hb hname (by rw [he];exact hw)
theorem zF {d:TypeDesc} (hd:yI d=true) {k off:Nat} {cs cs':List AV} (h:Nat.ble (off+k) cs.length=true) (hn:(cs.drop off).take k=cs'):ldC (yI d) k off cs=some (.agg cs'):=by
 rw [hd];exact ldC_ag h hn
theorem mkTy {P:Program} {t:TypeId} {d:TypeDesc} {k:Nat} (hu:P.underlying t=some d) (hi:(P.info? t).map (fun i=>i.size)=some k):Ty P t d k:=by
 refine ⟨hu,?_⟩
 cases h:P.info? t with
 | none=>rw [h] at hi;cases hi
 | some i=>rw [h] at hi;exact ⟨i,rfl,by simpa using hi⟩
theorem qV {P:Program} {t u:TypeId} {f off k:Nat} (ho:fieldOff P t f=some (off,u)) (hi:(P.info? u).map (fun i=>i.size)=some k):Fo P t f off u k:=by
 refine ⟨ho,?_⟩
 cases h:P.info? u with
 | none=>rw [h] at hi;cases hi
 | some i=>rw [h] at hi;exact ⟨i,rfl,by simpa using hi⟩
theorem mkEl {P:Program} {t e:TypeId} {k:Nat} (hu:P.underlying t=some (.slice e)) (hi:(P.info? e).map (fun i=>(i.size,decide (i.bytes≤65536)&&decide (0 < k)&&(i.zero.map (·.cells.size))==some k))=some (k,true)):El P t e k:=by
 refine ⟨hu,?_⟩
 cases h:P.info? e with
 | none=>rw [h] at hi;cases hi
 | some i =>
  rw [h] at hi
  simp only [Option.map_some,Option.some.injEq,Prod.mk.injEq,Bool.and_eq_true,decide_eq_true_eq,beq_iff_eq] at hi
  exact ⟨i,rfl,hi.1,hi.2.1.1,hi.2.1.2,hi.2.2⟩
theorem w64 {n:Int} (h:-9223372036854775808≤n∧n≤9223372036854775807):IntKind.i64.wrap n=n:=by rw [IntKind.wrap_i64];omega
theorem qp {n m:Int} (e:n=m) (h:-9223372036854775808≤n∧n≤9223372036854775807):AV.int .i64 (IntKind.i64.wrap n)=.int .i64 m:=by rw [w64 h,e]
theorem zu {env:List AV}:argo env [] []=some []:=rfl
theorem zg {env:List AV} {x:Operand} {r:List Operand} {t:TypeId} {ts:List TypeId} {v:AV} {l:List (TypeId×AV)} (h:yZ env x=some v) (k:argo env r ts=some l):argo env (x::r) (t::ts)=some ((t,v)::l):=by
 simp only [argo,h,k]
theorem xG {n:Nat} (h:n≤maxLen):n≤9223372036854775807:=h
theorem Spec.le {P:Program} {f:FuncId} {as bs:List AV} {h:AH} {K:AV→AH→Prop} (s:Spec P f bs h K) (k:leL as bs):Spec P f as h K :=
 ⟨s.1,fun B w0 _ g w vs r hv=>s.2 B w0 g w vs r (k _ _ hv)⟩
abbrev plainK2:=wp
structure PK (P:Program) (t:TypeId) (ks:List Kd):Prop where
 g:P.eqGuardType P.depth t=false
 a:(P.underlying t).any yI=true
 k:wp P 6 t=some ks
theorem mkPK {P:Program} {t:TypeId} {ks:List Kd} (h1:P.eqGuardType P.depth t=false) (h2:(P.underlying t).any yI=true) (h3:plainK2 P 6 t=some ks):PK P t ks:=⟨h1,h2,h3⟩
theorem bin_eq {P:Program} {t:TypeId} {ks:List Kd} {cs ds:List AV} {b:Bool} (hk:PK P t ks) (h:qW ks cs ds=some b):aBin P .eql t (.agg cs) (.agg ds)=some (.bool b):=by
 simp only [aBin,aEq,hk.g,hk.a,hk.k,Option.some_or,and_self,if_true,h,Option.map_some]
theorem bin_ne {P:Program} {t:TypeId} {ks:List Kd} {cs ds:List AV} {b:Bool} (hk:PK P t ks) (h:qW ks cs ds=some b):aBin P .neq t (.agg cs) (.agg ds)=some (.bool !b):=by
 simp only [aBin,aEq,hk.g,hk.a,hk.k,Option.some_or,and_self,if_true,h,Option.map_some]
structure PKA (P:Program) (t:TypeId) (ks:List Kd):Prop where
 g:P.eqGuardType P.depth t=false
 a:(P.underlying t).any yI=true
 k:(wp P 6 t).or (arrKs P t)=some ks
def parto (env:List AV):List (Nat×Operand)→Option (List (Nat×AV))
 | []=>some []
 | (i,x)::r=>match yZ env x,parto env r with
  | some v,some vs=>some ((i,v)::vs)
  | _,_=>none
theorem yb {env:List AV}:parto env []=some []:=rfl
theorem zZ {env:List AV} {i:Nat} {x:Operand} {r:List (Nat×Operand)} {v:AV} {l:List (Nat×AV)} (h:yZ env x=some v) (k:parto env r=some l):parto env ((i,x)::r)=some ((i,v)::l):=by simp only [parto,h,k]
inductive Fp (P:Program) (d:TypeDesc):List (Nat×AV)→List (Nat×AV)→Prop
 | nil:Fp P d [] []
 | cons {i:Nat} {v v':AV} {r s:List (Nat×AV)}:tyfix P (partTy d i) v=v'→Fp P d r s→Fp P d ((i,v)::r) ((i,v')::s)
theorem parts_ok {P:Program} {d:TypeDesc} {env:List AV}:∀ {parts:List (Nat×Operand)} {l l':List (Nat×AV)},parto env parts=some l→Fp P d l l' →
  parts.all (fun p=>yF p.2)=true∧parts.map (fun p=>(p.1,tyfix P (partTy d p.1) (ev env p.2)))=l'
 | [],l,l',h,hf=>by simp only [parto,Option.some.injEq] at h;subst h;cases hf;exact ⟨rfl,rfl⟩
 | (i,x)::r,l,l',h,hf=>by
  simp only [parto] at h
  split at h
  ·rename_i v vs hv hvs
   cases h
   cases hf with
   | cons h1 h2 =>
    obtain ⟨h3,h4⟩:=parts_ok hvs h2
    obtain ⟨h5,h6⟩:=yu hv
    refine ⟨by simp only [List.all_cons,h5,h3,Bool.and_self],?_⟩
    simp only [List.map_cons,h4,h6,h1]
  ·cases h
theorem vw {P:Program} {o:Oper} {env:List AV} {h:AH} {t:TypeId} {parts:List (Nat×Operand)} {fs:Array Field} {z cs cs':List AV} {pl:List (Nat×Nat)} {l l':List (Nat×AV)} (ho:o.op=.build t ⟨parts⟩) (hu:P.underlying t=some (.struct fs)) (hz:wy P t=some z)
  (hp:qj P fs=some pl) (hl:parto env parts=some l) (hf:Fp P (.struct fs) l l') (ha:qx (fun i=>pl[i]?) z l'=some cs) (hn:cs=cs'):zN P o env h=.ok (.agg cs') h:=by
 obtain ⟨h1,h2⟩:=parts_ok hl hf
 have h1':(⟨parts⟩:Array (Nat×Operand)).all (fun p=>yF p.2)=true:=by simpa using h1
 simp only [zN,ho,h1',if_true,hu,hz,hp,xQ,h2,ha,Option.map_some,oo,hn]
theorem yn {P:Program} {o:Oper} {env:List AV} {h:AH} {t e:TypeId} {n k:Nat} {parts:List (Nat×Operand)} {z cs cs':List AV} {es:List (List AV)} {l l':List (Nat×AV)} (ho:o.op=.buildSlice t n ⟨parts⟩) (hu:El P t e k) (hz:wy P e=some z)
  (hk:Nat.ble (n * k) 65536=true) (hzl:z.length=k) (hl:parto env parts=some l) (hf:Fp P (.slice e) l l') (ha:qx (fun i=>some (i * k,k)) ((List.replicate n z).flatten) l'=some cs) (hc:wr cs=some cs') (hr:rows k n cs'=es) :
  zN P o env h=.ok (.osl none k es) h:=by
 obtain ⟨h1,h2⟩:=parts_ok hl hf
 obtain ⟨j,h3,h4,_,h5,_⟩:=hu.i
 have h1':(⟨parts⟩:Array (Nat×Operand)).all (fun p=>yF p.2)=true:=by simpa using h1
 simp only [zN,ho,h1',if_true,hu.u,hz,h3,h4,xQ,h2,ha,hc,hr,h5,Nat.le_of_ble_eq_true hk,hzl,and_self]
end Go.Vv
