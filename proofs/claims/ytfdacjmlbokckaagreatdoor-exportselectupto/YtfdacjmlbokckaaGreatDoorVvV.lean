/- The heap as what it was ahead, and what has been made since. -/
import Derived.Test.YtfdacjmlbokckaaGreatDoorVvP
import Derived.Shelf.Strings.OnBuilder
import Derived.Shelf.Strings.SplitShaped
import Derived.Shelf.Small.Strs
set_option linter.all false
namespace Go.Vv
open Go

def AH.ext (h:AH) (L:List Blk) (M:List Nat):AH:={ blks:=h.blks++L,toks:=h.toks++M }
theorem ext_nil (h:AH):h.ext [] []=h:=by simp [AH.ext]
theorem xI {h:AH} {L:List Blk} {M:List Nat} {j:Nat}:(h.ext L M).blk (h.blks.length+j)=L[j]?:=by
 simp only [AH.blk,AH.ext]
 grind
theorem ext_new {h:AH} {L:List Blk} {M:List Nat} {b:Blk}:(h.ext L M).new b=h.ext (L++[b]) M:=by simp [AH.ext,AH.new,List.append_assoc]
theorem ext_put {h:AH} {L:List Blk} {M:List Nat} {b:Blk} {j:Nat}:(h.ext L M).put (h.blks.length+j) b=h.ext (L.set j b) M:=by
 simp only [AH.ext,AH.put]
 simp_all
theorem ext_cut {h:AH} {L:List Blk} {M:List Nat}:(h.ext L M).cut h.blks.length h.toks.length=h:=by
 simp [AH.cut,AH.ext]
def ldC (ag:Bool) (k off:Nat) (cs:List AV):Option AV:=if ag then (if off+k≤cs.length then some (.agg ((cs.drop off).take k)) else none) else cs[off]?
theorem zt {k off:Nat} {cs:List AV} {v:AV} (h:cs[off]?=some v):ldC false k off cs=some v:=h
theorem ldC_ag {k off:Nat} {cs cs':List AV} (h:Nat.ble (off+k) cs.length=true) (hn:(cs.drop off).take k=cs'):ldC true k off cs=some (.agg cs'):=by
 simp only [ldC,if_true,if_pos (Nat.le_of_ble_eq_true h),hn]

section
variable {P:Program} {o:Oper} {env:List AV} {h:AH} {L:List Blk} {M:List Nat}
theorem y9 {t:TypeId} {cs:List AV} {n:Nat} (ho:o.op=.alloc t) (hz:xO P t=some cs) (hn:L.length=n):zK P o env (h.ext L M)=.ok (.ptr (h.blks.length+n) 0) (h.ext (L++[.cells cs]) M):=by
 rw [s_alloc ho hz,ext_new,← hn];simp [AH.ext]
theorem xb {t:TypeId} {x:Operand} {a a':AV} {cs:List AV} {n:Nat} (ho:o.op=.box t x) (hx:yC env x=some a) (hf:tyfix P t a=a') (hc:a'.cells?=some cs) (hn:L.length=n) :
  zK P o env (h.ext L M)=.ok (.ptr (h.blks.length+n) 0) (h.ext (L++[.cells cs]) M):=by
 rw [s_box ho hx hf hc,ext_new,← hn];simp [AH.ext]
theorem zu {t:TypeId} {d:TypeDesc} {k j off:Nat} {x:Operand} {cs:List AV} {v v':AV} (ho:o.op=.load t x) (ht:Ty P t d k) (hx:yC env x=some (.ptr (h.blks.length+j) off)) (hj:L[j]?=some (.cells cs))
  (hv:ldC (yq d) k off cs=some v) (hf:tyfix P t v=v'):zK P o env (h.ext L M)=.ok v' (h.ext L M):=by
 refine s_load ho ht hx ?_ hf
 simp only [aLoad,xI,hj]
 exact hv
theorem yl {t:TypeId} {d:TypeDesc} {k:Nat} {x:Operand} {cs:List AV} {v v':AV} (ho:o.op=.load t x) (ht:Ty P t d k) (hx:yC env x=some (.fptr cs))
  (hv:ldC (yq d) k 0 cs=some v) (hf:tyfix P t v=v'):zK P o env h=.ok v' h:=by
 refine s_load ho ht hx ?_ hf
 simp only [aLoad]
 simpa only [ldC,Nat.zero_add,List.drop_zero] using hv
theorem yx {t:TypeId} {d:TypeDesc} {k j off:Nat} {x y:Operand} {cs vs cs':List AV} {b b':AV} (ho:o.op=.store t x y) (ht:Ty P t d k) (hx:yC env x=some (.ptr (h.blks.length+j) off)) (hy:yC env y=some b)
  (hf:tyfix P t b=b') (hc:b'.cells?=some vs) (hl:vs.length=k) (hj:L[j]?=some (.cells cs)) (hb:Nat.ble (off+k) cs.length=true) (hs:xw cs off vs=cs'):zK P o env (h.ext L M)=.ok za (h.ext (L.set j (.cells cs')) M):=by
 refine s_store ho ht hx hy hf ?_
 simp only [aStore,hc,xI,hj]
 rw [if_pos ⟨hl,Nat.le_of_ble_eq_true hb⟩,ext_put,hs]
end
theorem wk_ext2 {h:AH} {L0 L1 L':List Blk} {M0 M1 M':List Nat} {env:List AV} (hl:yf (h.blks.length+L0.length) (h.toks.length+M0.length) env=true) (hL:L'.take L0.length=L1) (hM:M'.take M0.length=M1)
  (hb:∀ (i:Nat) (k:Blk),L1[i]?=some k→L0[i]?=some k ∨ k.low (h.blks.length+L0.length) (h.toks.length+M0.length)=true) :
  wk (h.ext L0 M0) env (h.ext L' M') env (h.ext L1 M1):=by
 have e1:(h.ext L0 M0).blks.length=h.blks.length+L0.length:=by simp [AH.ext]
 have e2:(h.ext L0 M0).toks.length=h.toks.length+M0.length:=by simp [AH.ext]
 have:=wk.cut (hd:=h.ext L0 M0) (env:=env) (h:=h.ext L' M') (by rw [e1,e2];exact hl) (fun i k hi hk=>by
  rw [e1] at hi
  rw [e1,e2]
  simp only [AH.ext] at hk ⊢
  rcases Nat.lt_or_ge i h.blks.length with h1 | h1
  ·rw [List.getElem?_append_left h1] at hk ⊢;exact .inl hk
  ·rw [List.getElem?_append_right h1] at hk ⊢
   exact hb (i - h.blks.length) k (by grind))
 have e3:(h.ext L' M').cut (h.ext L0 M0).blks.length (h.ext L0 M0).toks.length=h.ext L1 M1:=by
  rw [e1,e2]
  simp only [AH.cut,AH.ext,List.take_append,Nat.add_sub_cancel_left,hL,hM]
  rw [List.take_of_length_le (l:=h.blks) (by omega),List.take_of_length_le (l:=h.toks) (by omega)]
 rw [e3] at this
 exact this
theorem e_range {P:Program} {o:Oper} {env:List AV} {h:AH} {L:List Blk} {M:List Nat} {t:TypeId} {x:Operand} {s:List UInt8} {k n:Nat} (ho:o.op=.range t x) (ht:Ty P t .string k) (hx:yC env x=some (.str s)) (hn:L.length=n) :
  zK P o env (h.ext L M)=.ok (.ptr (h.blks.length+n) 0) (h.ext (L++[.siter s 0]) M):=by
 obtain ⟨h1,h2⟩:=yk hx
 simp only [zK,ho,h1,if_true,ht.u,h2,ext_new,← hn]
 simp [AH.ext]
theorem ops_next {P:Program} {ops:Array Oper} {Q:List AV→AH→Prop} {o:Oper} {rest:List Oper} {env:List AV} {e1:List AV} {e2:List AV} {h:AH} {L:List Blk} {M:List Nat} {x:Operand} {s:List UInt8} {j pos:Nat} (hg:aG ops o env=some true) (ho:o.op=.next x true)
  (hx:yC env x=some (.ptr (h.blks.length+j) 0)) (hj:L[j]?=some (.siter s pos)) (hd1:wF o.dst env (.tup [.bool true,.int .i64 pos,.int .i32 (dec s pos).1])=some e1) (hd2:wF o.dst env (.tup [.bool false])=some e2)
  (hk1:pos < s.length→yn P ops Q rest e1 (h.ext (L.set j (.siter s (pos+(dec s pos).2))) M)) (hk2:s.length≤pos→yn P ops Q rest e2 (h.ext L M)):yn P ops Q (o::rest) env (h.ext L M):=by
 obtain ⟨h1,h2⟩:=yk hx
 by_cases hp:pos < s.length
 ·refine zc hg ?_ hd1 (hk1 hp)
  simp only [zK,ho,h1,Bool.and_self,if_true,h2,aNext,xI,hj,hp,ext_put]
 ·refine zc hg ?_ hd2 (hk2 (by omega))
  simp only [zK,ho,h1,Bool.and_self,if_true,h2,aNext,xI,hj,hp,if_false]
section
variable {P:Program} {env:List AV} {h:AH} {rs:List ResultVar} {vs:List AV}
theorem zD:qb P env h []=some []:=rfl
theorem zF {t:Nat} {v:AV} (hv:yC env (.tmp t)=some v) (k:qb P env h rs=some vs):qb P env h (.tmp t::rs)=some (v::vs):=by
 have hv':env.getD t za=v:=by rw [List.getD_eq_getElem?_getD,show env[t]?=some v from hv];rfl
 simp only [qb,k,hv']
theorem rl_cell {a t:Nat} {d:TypeDesc} {k j:Nat} {L:List Blk} {M:List Nat} {cs:List AV} {v v':AV} (ht:Ty P t d k) (hp:yC env (.tmp a)=some (.ptr (h.blks.length+j) 0)) (hj:L[j]?=some (.cells cs)) (hv:ldC (yq d) k 0 cs=some v) (hf:tyfix P t v=v')
  (r:qb P env (h.ext L M) rs=some vs):qb P env (h.ext L M) (.cell a t::rs)=some (v'::vs):=by
 have hp':env.getD a za=.ptr (h.blks.length+j) 0:=by rw [List.getD_eq_getElem?_getD,show env[a]?=some _ from hp];rfl
 obtain ⟨i,h1,h2⟩:=ht.i
 simp only [qb,ht.u,h1,h2,hp',aLoad,xI,hj,r]
 have e:(if yq d then if 0+k≤cs.length then some (AV.agg ((cs.drop 0).take k)) else none else cs[0]?)=some v:=hv
 simp_all
theorem zz {fn:Func} {K:AV→AH→Prop} {h0:AH} {v:AV} (hr:fn.results=⟨rs⟩) (hl:qb P env h rs=some [v]) (hk:finK h0 K v h):bodyQ P fn h0 K .ret env h:=by
 simp only [bodyQ,aRes,hr,hl];exact hk
theorem q_retL {fn:Func} {K:AV→AH→Prop} {h0:AH} {v w:AV} {r:List AV} (hr:fn.results=⟨rs⟩) (hl:qb P env h rs=some (v::w::r)) (hk:finK h0 K (.tup (v::w::r)) h):bodyQ P fn h0 K .ret env h:=by
 simp only [bodyQ,aRes,hr,hl];exact hk
theorem q_retL0 {fn:Func} {K:AV→AH→Prop} {h0:AH} (hr:fn.results=⟨rs⟩) (hl:qb P env h rs=some []) (hk:finK h0 K (.tup []) h):bodyQ P fn h0 K .ret env h:=by
 simp only [bodyQ,aRes,hr,hl];exact hk
end
theorem zA {h:AH} {L:List Blk} {M:List Nat} {K:AV→AH→Prop} {v v':AV} (hv:leV v v') (hl:v'.low h.blks.length h.toks.length=true) (hk:K v' h):finK h K v (h.ext L M):=by
 refine fin_cut hv hl (fun i k hi hk=>.inl ?_) (by rw [ext_cut];exact hk)
 simp only [AH.ext] at hk
 grind
theorem zr {P : Program} {f : FuncId} {fn : Func} {c : Code} (hf : P.funcs[f]? = some fn) (hb : fn.body = some c) (hname : (fn.name == "runtime.NumGoroutine") = false) {args : List AV} {h : AH} {K : AV → AH → Prop} {env : List AV}
  (he:args++List.replicate (fn.ntmps - args.length) za=env) (hw:qQ P c (bodyQ P fn h K) env (h.ext [] [])):Spec P f args h K:=by
 rw [ext_nil] at hw
 exact spec_of_body hf hb hname (by simp_all)
theorem zI {d:TypeDesc} (hd:yq d=true) {k off:Nat} {cs cs':List AV} (h:Nat.ble (off+k) cs.length=true) (hn:(cs.drop off).take k=cs'):ldC (yq d) k off cs=some (.agg cs'):=by
 rw [hd];exact ldC_ag h hn
theorem mkTy {P:Program} {t:TypeId} {d:TypeDesc} {k:Nat} (hu:P.underlying t=some d) (hi:(P.info? t).map (fun i=>i.size)=some k):Ty P t d k:=by
 refine ⟨hu,?_⟩
 simp_all
theorem mkFo {P:Program} {t u:TypeId} {f off k:Nat} (ho:qJ P t f=some (off,u)) (hi:(P.info? u).map (fun i=>i.size)=some k):Fo P t f off u k:=by
 refine ⟨ho,?_⟩
 simp_all
theorem mkEl {P:Program} {t e:TypeId} {k:Nat} (hu:P.underlying t=some (.slice e)) (hi:(P.info? e).map (fun i=>(i.size,decide (i.bytes≤65536)&&decide (0 < k)&&(i.zero.map (·.cells.size))==some k))=some (k,true)):El P t e k:=by
 refine ⟨hu,?_⟩
 cases h:P.info? e with
 | none=>rw [h] at hi;cases hi
 | some i =>
  simp_all
theorem w64 {n:Int} (h:-9223372036854775808≤n∧n≤9223372036854775807):IntKind.i64.wrap n=n:=by rw [IntKind.wrap_i64];omega
theorem vN {n m:Int} (e:n=m) (h:-9223372036854775808≤n∧n≤9223372036854775807):AV.int .i64 (IntKind.i64.wrap n)=.int .i64 m:=by rw [w64 h,e]
theorem zw {env:List AV}:argo env [] []=some []:=rfl
theorem zo {env:List AV} {x:Operand} {r:List Operand} {t:TypeId} {ts:List TypeId} {v:AV} {l:List (TypeId×AV)} (h:yC env x=some v) (k:argo env r ts=some l):argo env (x::r) (t::ts)=some ((t,v)::l):=by
 simp only [argo,h,k]
theorem xK {n:Nat} (h:n≤maxLen):n≤9223372036854775807:=h
theorem Spec.le {P:Program} {f:FuncId} {a5 bs:List AV} {h:AH} {K:AV→AH→Prop} (s:Spec P f bs h K) (k:leL a5 bs):Spec P f a5 h K :=
 ⟨s.1,fun B w0 _ g w vs r hv=>s.2 B w0 g w vs r (k _ _ hv)⟩
abbrev plainK2:=xy
structure PK (P:Program) (t:TypeId) (ks:List Kd):Prop where
 g:P.eqGuardType P.depth t=false
 a:(P.underlying t).any yq=true
 k:xy P 6 t=some ks
theorem mkPK {P:Program} {t:TypeId} {ks:List Kd} (h1:P.eqGuardType P.depth t=false) (h2:(P.underlying t).any yq=true) (h3:plainK2 P 6 t=some ks):PK P t ks:=⟨h1,h2,h3⟩
theorem bin_eq {P:Program} {t:TypeId} {ks:List Kd} {cs ds:List AV} {b:Bool} (hk:PK P t ks) (h:qa ks cs ds=some b):aBin P .eql t (.agg cs) (.agg ds)=some (.bool b):=by
 simp only [aBin,aEq,hk.g,hk.a,hk.k,Option.some_or,and_self,if_true,h,Option.map_some]
theorem bin_ne {P:Program} {t:TypeId} {ks:List Kd} {cs ds:List AV} {b:Bool} (hk:PK P t ks) (h:qa ks cs ds=some b):aBin P .neq t (.agg cs) (.agg ds)=some (.bool !b):=by
 simp only [aBin,aEq,hk.g,hk.a,hk.k,Option.some_or,and_self,if_true,h,Option.map_some]
structure PKA (P:Program) (t:TypeId) (ks:List Kd):Prop where
 g:P.eqGuardType P.depth t=false
 a:(P.underlying t).any yq=true
 k:(xy P 6 t).or (arrKs P t)=some ks
def parto (env:List AV):List (Nat×Operand)→Option (List (Nat×AV))
 | []=>some []
 | (i,x)::r=>match yC env x,parto env r with
  | some v,some vs=>some ((i,v)::vs)
  | _,_=>none
theorem zV {env:List AV}:parto env []=some []:=rfl
theorem zH {env:List AV} {i:Nat} {x:Operand} {r:List (Nat×Operand)} {v:AV} {l:List (Nat×AV)} (h:yC env x=some v) (k:parto env r=some l):parto env ((i,x)::r)=some ((i,v)::l):=by simp only [parto,h,k]
inductive Fp (P:Program) (d:TypeDesc):List (Nat×AV)→List (Nat×AV)→Prop
 | nil:Fp P d [] []
 | cons {i:Nat} {v v':AV} {r s:List (Nat×AV)}:tyfix P (partTy d i) v=v'→Fp P d r s→Fp P d ((i,v)::r) ((i,v')::s)
theorem parts_ok {P:Program} {d:TypeDesc} {env:List AV}:∀ {parts:List (Nat×Operand)} {l l':List (Nat×AV)},parto env parts=some l→Fp P d l l' →
  parts.all (fun p=>yo p.2)=true∧parts.map (fun p=>(p.1,tyfix P (partTy d p.1) (ev env p.2)))=l'
 | [],l,l',h,hf=>by simp only [parto,Option.some.injEq] at h;subst h;cases hf;exact ⟨rfl,rfl⟩
 | (i,x)::r,l,l',h,hf=>by
  simp only [parto] at h
  split at h
  ·rename_i v vs hv hvs
   cases h
   cases hf with
   | cons h1 h2 =>
    obtain ⟨h3,h4⟩:=parts_ok hvs h2
    obtain ⟨h5,h6⟩:=yk hv
    grind
  ·cases h
theorem xS {P:Program} {o:Oper} {env:List AV} {h:AH} {t:TypeId} {parts:List (Nat×Operand)} {fs:Array Field} {z cs cs':List AV} {pl:List (Nat×Nat)} {l l':List (Nat×AV)} (ho:o.op=.build t ⟨parts⟩) (hu:P.underlying t=some (.struct fs)) (hz:xO P t=some z)
  (hp:vU P fs=some pl) (hl:parto env parts=some l) (hf:Fp P (.struct fs) l l') (ha:vg (fun i=>pl[i]?) z l'=some cs) (hn:cs=cs'):zK P o env h=.ok (.agg cs') h:=by
 obtain ⟨h1,h2⟩:=parts_ok hl hf
 have h1':(⟨parts⟩:Array (Nat×Operand)).all (fun p=>yo p.2)=true:=by grind
 simp only [zK,ho,h1',if_true,hu,hz,hp,y8,h2,ha,Option.map_some,oo,hn]
theorem s_buildArr {P:Program} {o:Oper} {env:List AV} {h:AH} {t e:TypeId} {n k:Nat} {d:TypeDesc} {parts:List (Nat×Operand)} {z cs cs':List AV} {l l':List (Nat×AV)} (ho:o.op=.build t ⟨parts⟩) (hu:P.underlying t=some (.array n e)) (hz:xO P t=some z)
  (he:Ty P e d k) (hl:parto env parts=some l) (hf:Fp P (.array n e) l l') (ha:vg (fun i=>some (i * k,k)) z l'=some cs) (hn:cs=cs'):zK P o env h=.ok (.agg cs') h:=by
 obtain ⟨h1,h2⟩:=parts_ok hl hf
 obtain ⟨j,h3,h4⟩:=he.i
 have h1':(⟨parts⟩:Array (Nat×Operand)).all (fun p=>yo p.2)=true:=by grind
 simp only [zK,ho,h1',if_true,hu,hz,h3,h4,y8,h2,ha,Option.map_some,oo,hn]
theorem ye {P:Program} {o:Oper} {env:List AV} {h:AH} {t e:TypeId} {n k:Nat} {parts:List (Nat×Operand)} {z cs cs':List AV} {es:List (List AV)} {l l':List (Nat×AV)} (ho:o.op=.buildSlice t n ⟨parts⟩) (hu:El P t e k) (hz:xO P e=some z)
  (hk:Nat.ble (n * k) 65536=true) (hzl:z.length=k) (hl:parto env parts=some l) (hf:Fp P (.slice e) l l') (ha:vg (fun i=>some (i * k,k)) ((List.replicate n z).flatten) l'=some cs) (hc:xJ cs=some cs') (hr:rows k n cs'=es) :
  zK P o env h=.ok (.osl none k es) h:=by
 obtain ⟨h1,h2⟩:=parts_ok hl hf
 obtain ⟨j,h3,h4,_,h5,_⟩:=hu.i
 have h1':(⟨parts⟩:Array (Nat×Operand)).all (fun p=>yo p.2)=true:=by grind
 simp only [zK,ho,h1',if_true,hu.u,hz,h3,h4,y8,h2,ha,hc,hr,h5,Nat.le_of_ble_eq_true hk,hzl,and_self]
end Go.Vv
namespace Go.Vv
open Go

abbrev zM:=List UInt8
def InK (k:IntKind) (n:Int):Prop:=k.min≤n∧n≤k.max
inductive Out (ρ σ:Type) where
 | ret (r:ρ)
 | brk (s:σ)
 | nxt (s:σ)
section
variable {α ρ σ:Type}
def z8 (f:Nat→α→σ→Option (Out ρ σ)):List α→Nat→σ→Option (ρ ⊕ σ)
 | [],_,s=>some (.inr s)
 | x::t,i,s=>match f i x s with
  | none=>none
  | some (.ret r)=>some (.inl r)
  | some (.brk s')=>some (.inr s')
  | some (.nxt s')=>z8 f t (i+1) s'
def vr (f:σ→Option (Out ρ σ)):Nat→σ→Option (ρ ⊕ σ)
 | 0,_=>none
 | n+1,s=>match f s with
  | none=>none
  | some (.ret r)=>some (.inl r)
  | some (.brk s')=>some (.inr s')
  | some (.nxt s')=>vr f n s'
theorem loopN_more {f:σ→Option (Out ρ σ)}:∀ {n m:Nat} {s:σ} {o:ρ ⊕ σ},vr f n s=some o→n≤m→vr f m s=some o
 | 0,_,_,_,h,_=>by simp [vr] at h
 | n+1,0,_,_,_,hl=>by omega
 | n+1,m+1,s,o,h,hl=>by
  simp only [vr] at h ⊢
  rcases hf:f s with _ | (r | s' | s') <;> rw [hf] at h <;> simp only at h ⊢
  ·cases h
  ·exact h
  ·exact h
  ·exact loopN_more h (by omega)
open Classical in
noncomputable def qY (f:σ→Option (Out ρ σ)) (s:σ):Option (ρ ⊕ σ) :=
 if h:∃ n o,vr f n s=some o then some (Classical.choose (Classical.choose_spec h)) else none
theorem loopW_of {f:σ→Option (Out ρ σ)} {n:Nat} {s:σ} {o:ρ ⊕ σ} (h:vr f n s=some o):qY f s=some o:=by
 have hx:∃ n o,vr f n s=some o:=⟨n,o,h⟩
 unfold qY
 rw [dif_pos hx]
 have h1:=Classical.choose_spec (Classical.choose_spec hx)
 have h2:=loopN_more h1 (Nat.le_max_left _ n)
 have h3:=loopN_more h (Nat.le_max_right (Classical.choose hx) n)
 grind
theorem loopW_is {f:σ→Option (Out ρ σ)} {s:σ} {o:ρ ⊕ σ} (h:qY f s=some o):∃ n,vr f n s=some o:=by
 unfold qY at h
 split at h
 ·grind
 ·cases h
theorem loopW_eq (f:σ→Option (Out ρ σ)) (s:σ):qY f s=match f s with
  | none=>none
  | some (.ret r)=>some (.inl r)
  | some (.brk s')=>some (.inr s')
  | some (.nxt s')=>qY f s':=by
 rcases hf:f s with _ | (r | s' | s') <;> simp only
 ·cases hx:qY f s with
  | none=>rfl
  | some o =>
   obtain ⟨n,hn⟩:=loopW_is hx
   cases n <;> simp [vr,hf] at hn
 ·exact loopW_of (n:=1) (by simp only [vr,hf])
 ·exact loopW_of (n:=1) (by simp only [vr,hf])
 ·cases hx:qY f s' with
  | some o =>
   obtain ⟨n,hn⟩:=loopW_is hx
   exact loopW_of (n:=n+1) (by simp only [vr,hf];exact hn)
  | none =>
   cases hy:qY f s with
   | none=>rfl
   | some o =>
    obtain ⟨n,hn⟩:=loopW_is hy
    cases n with
    | zero=>simp [vr] at hn
    | succ n =>
     simp only [vr,hf] at hn
     rw [loopW_of hn] at hx;cases hx
def lp (o:Option (ρ ⊕ σ)) (rest:σ→Option ρ):Option ρ :=
 match o with
 | none=>none
 | some (.inl r)=>some r
 | some (.inr s)=>rest s
def vP (p:Prop) [Decidable p] (o:Option ρ):Option ρ:=if p then o else none
def idx (L:List α) (n:Int):Option α:=if 0≤n then L[n.toNat]? else none
def slc (L:List α) (lo hi:Int):Option (List α):=if 0≤lo∧lo≤hi∧hi≤L.length then some ((L.take hi.toNat).drop lo.toNat) else none

theorem zU {α ρ:Type} {o:Option α} {k:α→Option ρ} {r:ρ} {G:Prop} (hF:o.bind k=some r) (hk:∀ v,o=some v→k v=some r→G):G:=by
 cases o with
 | none=>cases hF
 | some v=>exact hk v rfl hF
theorem yZ {α ρ:Type} {b:Bool} {d:α} {o:Option α} {k:α→Option ρ} {r:ρ} {G:Prop} (hF:(if b=true then o else some d).bind k=some r) (hk:∀ v,(b=true→o=some v)→k v=some r→G):G:=by
 cases b with
 | false=>exact hk d (fun h=>by cases h) hF
 | true =>
  cases o with
  | none=>cases hF
  | some v=>exact hk v (fun _=>rfl) hF
theorem wt {p:Prop} [Decidable p] {o:Option ρ} {r:ρ} {G:Prop} (hF:vP p o=some r) (hk:p→o=some r→G):G:=by
 unfold vP at hF
 simp_all
theorem idxF {L:List α} {n:Int} {y:α} (h:idx L n=some y):0≤n∧L[n.toNat]?=some y:=by
 unfold idx at h
 simp_all
theorem slcF {L M:List α} {lo hi:Int} (h:slc L lo hi=some M):(0≤lo∧lo≤hi∧hi≤L.length)∧M=(L.take hi.toNat).drop lo.toNat:=by
 unfold slc at h
 simp_all

def konL (f:Nat→α→σ→Option (Out ρ σ)) (L:List α) (i:Nat) (rest:σ→Option ρ):Out ρ σ→Option ρ
 | .ret r=>some r
 | .brk s=>rest s
 | .nxt s=>lp (z8 f (L.drop (i+1)) (i+1) s) rest
def konN (f:σ→Option (Out ρ σ)) (n:Nat) (rest:σ→Option ρ):Out ρ σ→Option ρ
 | .ret r=>some r
 | .brk s=>rest s
 | .nxt s=>lp (vr f n s) rest
def konJ (rest:σ→Option ρ):ρ ⊕ σ→Option ρ
 | .inl r=>some r
 | .inr s=>rest s
theorem loopL_step {f:Nat→α→σ→Option (Out ρ σ)} {L:List α} {i:Nat} {s:σ} {rest:σ→Option ρ} {o0:ρ} (h:lp (z8 f (L.drop i) i s) rest=some o0) (hl:i < L.length) :
  ∃ x o1,L[i]?=some x∧f i x s=some o1∧konL f L i rest o1=some o0:=by
 have e:=(List.getElem_cons_drop hl).symm
 rw [e] at h
 refine ⟨L[i],?_⟩
 simp only [z8] at h
 split at h
 ·cases h
 ·rename_i r he;exact ⟨.ret r,List.getElem?_eq_getElem hl,he,h⟩
 ·rename_i r he;exact ⟨.brk r,List.getElem?_eq_getElem hl,he,h⟩
 ·rename_i r he;exact ⟨.nxt r,List.getElem?_eq_getElem hl,he,h⟩
theorem loopL_end {f:Nat→α→σ→Option (Out ρ σ)} {L:List α} {i:Nat} {s:σ} {rest:σ→Option ρ} {o0:ρ} (h:lp (z8 f (L.drop i) i s) rest=some o0) (hl:¬ i < L.length):rest s=some o0:=by
 rw [List.drop_of_length_le (by omega)] at h
 exact h
theorem lpF {o:Option (ρ ⊕ σ)} {rest:σ→Option ρ} {o0:ρ} (h:lp o rest=some o0):∃ o1,o=some o1∧konJ rest o1=some o0:=by
 cases o with
 | none=>cases h
 | some o1=>cases o1 <;> exact ⟨_,rfl,h⟩
end
section
variable {P:Program} {Q:Exit→List AV→AH→Prop} {env:List AV} {h:AH} {α ρ σ:Type}
theorem zR {c:Operand} {t e:Code} {b:Bool} {A B:Option ρ} {r:ρ} (hc:yC env c=some (.bool b)) (hF:(if b=true then A else B)=some r) (ht:b=true→A=some r→qQ P t Q env h) (he:b=false→B=some r→qQ P e Q env h) :
  qQ P (.cond c t e) Q env h:=by
 refine r_cond hc (fun hb=>ht hb ?_) (fun hb=>he hb ?_)
 ·simp_all
 ·simp_all
theorem yI {f:Nat→α→σ→Option (Out ρ σ)} {L:List α} {i:Nat} {s:σ} {rest:σ→Option ρ} {o0:ρ} {c:Operand} {t e:Code} (hc:yC env c=some (.bool (decide ((i:Int) < (L.length:Int))))) (hF:lp (z8 f (L.drop i) i s) rest=some o0)
  (ht:∀ x o1,i < L.length→L[i]?=some x→f i x s=some o1→konL f L i rest o1=some o0→qQ P t Q env h) (he:rest s=some o0→qQ P e Q env h):qQ P (.cond c t e) Q env h:=by
 refine r_cond hc (fun hb=>?_) (fun hb=>?_)
 ·have hl:i < L.length:=by have:=of_decide_eq_true hb;omega
  obtain ⟨x,o1,h1,h2,h3⟩:=loopL_step hF hl
  simp_all
 ·have hl:¬ i < L.length:=by have:=of_decide_eq_false hb;omega
  exact he (loopL_end hF hl)
theorem yu {body:Code} {f:Nat→α→σ→Option (Out ρ σ)} {L:List α} {s0:σ} {rest:σ→Option ρ} {o0:ρ} (U:Nat→σ→List (Nat×AV)) (H:σ→AH) (hF:lp (z8 f L 0 s0) rest=some o0) {E:Nat→σ→List AV}
  (_hE:∀ i s,upd env (U i s)=E i s) (h0:wk h env h (E 0 s0) (H s0))
  (hs:∀ i s,i≤L.length→lp (z8 f (L.drop i) i s) rest=some o0→qQ P body (loopQ (fun env' h'=>∃ s',i < L.length∧lp (z8 f (L.drop (i+1)) (i+1) s') rest=some o0∧wk (H s) env' h' (E (i+1) s') (H s')) Q) (E i s) (H s)) :
  qQ P (.loop body) Q env h:=by
 refine r_loop (σ:=Nat×σ) (fun p=>E p.1 p.2) (fun p=>H p.2) (fun p=>p.1≤L.length∧lp (z8 f (L.drop p.1) p.1 p.2) rest=some o0) (fun p=>L.length - p.1) (0,s0) h0 ⟨Nat.zero_le _,hF⟩ ?_
 rintro ⟨i,s⟩ ⟨hi,hF⟩
 have:=hs i s hi hF
 have e:(loopQ (fun env' h'=>∃ s',i < L.length∧lp (z8 f (L.drop (i+1)) (i+1) s') rest=some o0∧wk (H s) env' h' (E (i+1) s') (H s')) Q) =
  fun x env' h'=>match x with | .normal=>∃ s',i < L.length∧lp (z8 f (L.drop (i+1)) (i+1) s') rest=some o0∧wk (H s) env' h' (E (i+1) s') (H s') | x=>Q x env' h':=rfl
 refine vz ?_ _ _ _ this
 intro x env' h' hq
 cases x with
 | normal =>
  obtain ⟨s',h1,h2,h3⟩:=hq
  exact ⟨(i+1,s'),⟨h1,h2⟩,by omega,h3⟩
 | _=>exact hq
theorem r_loopWF {body:Code} {f:σ→Option (Out ρ σ)} {s0:σ} {rest:σ→Option ρ} {o0:ρ} (U:σ→List (Nat×AV)) (H:σ→AH) (hF:lp (qY f s0) rest=some o0) {E:σ→List AV}
  (_hE:∀ s,upd env (U s)=E s) (h0:wk h env h (E s0) (H s0))
  (hs:∀ n s o1,f s=some o1→konN f n rest o1=some o0→qQ P body (loopQ (fun env' h'=>∃ s',lp (vr f n s') rest=some o0∧wk (H s) env' h' (E s') (H s')) Q) (E s) (H s)) :
  qQ P (.loop body) Q env h:=by
 obtain ⟨n0,hn0⟩:∃ n,lp (vr f n s0) rest=some o0:=by
  obtain ⟨o1,h1,h2⟩:=lpF hF
  obtain ⟨n,hn⟩:=loopW_is h1
  grind
 refine r_loop (σ:=Nat×σ) (fun p=>E p.2) (fun p=>H p.2) (fun p=>lp (vr f p.1 p.2) rest=some o0) (fun p=>p.1) (n0,s0) h0 hn0 ?_
 rintro ⟨n,s⟩ hF
 cases n with
 | zero=>simp [vr,lp] at hF
 | succ n =>
  obtain ⟨o1,h1,h2⟩:∃ o1,f s=some o1∧konN f n rest o1=some o0:=by
   simp only [vr] at hF
   split at hF
   ·cases hF
   ·rename_i r he;exact ⟨.ret r,he,hF⟩
   ·rename_i r he;exact ⟨.brk r,he,hF⟩
   ·rename_i r he;exact ⟨.nxt r,he,hF⟩
  refine vz ?_ _ _ _ (hs n s o1 h1 h2)
  intro x env' h' hq
  cases x with
  | normal =>
   obtain ⟨s',h1,h2⟩:=hq
   exact ⟨(n,s'),h1,by omega,h2⟩
  | _=>exact hq
def joinQ (h0:AH) (N:List AV→AH→Prop) (Q:Exit→List AV→AH→Prop):Exit→List AV→AH→Prop:=fun x env' h'=>match x with
 | .normal=>N env' h'
 | x=>Q x env' h'
theorem r_join {a b:Code} {J:Option (ρ ⊕ σ)} {rest:σ→Option ρ} {o0:ρ} (U:σ→List (Nat×AV)) (H:σ→AH) (hF:lp J rest=some o0) {E:σ→List AV} (_hE:∀ s,upd env (U s)=E s)
  (ha:∀ o1,J=some o1→konJ rest o1=some o0→qQ P a (joinQ h (fun env' h'=>∃ s,rest s=some o0∧wk h env' h' (E s) (H s)) Q) env h)
  (hb:∀ s,rest s=some o0→qQ P b Q (E s) (H s)):qQ P (.seq a b) Q env h:=by
 obtain ⟨o1,h1,h2⟩:=lpF hF
 refine zk (vz ?_ _ _ _ (ha o1 h1 h2))
 intro x env' h' hq
 cases x with
 | normal =>
  obtain ⟨s,h3,h4⟩:=hq
  exact ⟨_,_,h4,hb s h3⟩
 | _=>exact hq
theorem q_join {h0:AH} {N:List AV→AH→Prop} (hk:N env h):joinQ h0 N Q .normal env h:=hk
theorem q_join_ret {h0:AH} {N:List AV→AH→Prop} (hk:Q .ret env h):joinQ h0 N Q .ret env h:=hk
end
end Go.Vv
namespace Go.Vv
open Go

abbrev zP (s:zM):List AV:=[.str s]
abbrev intRow (k:IntKind) (n:Int):List AV:=[.int k n]
def IsSl {α:Type} (a:AV) (z:Nat) (row:α→List AV) (L:List α):Prop:=a=.sl z (L.map row) ∨ ∃ q,a=.osl q z (L.map row)
section
variable {α:Type} {row:α→List AV} {L M:List α} {z:Nat}
theorem qZ:IsSl (.sl z (L.map row)) z row L:=.inl rfl
theorem yh {k:Nat} {f:α→List AV} {L:List α}:aLen (.sl k (L.map f))=some L.length:=by simp [aLen]
theorem lenMapO {q:Option Nat} {k:Nat} {f:α→List AV} {L:List α}:aLen (.osl q k (L.map f))=some L.length:=by simp [aLen]
theorem xc {i:Nat} {x:α} (h:L[i]?=some x):idx L (i:Int)=some x:=by
 unfold idx;rw [if_pos (by omega),Int.toNat_natCast];exact h
end
theorem bin_boolE {P:Program} {t:TypeId} {k:Nat} {a b:Bool} (ht:Ty P t .bool k):aBin P .eql t (.bool a) (.bool b)=some (.bool (a==b)):=by simp only [aBin,aEq,ht.u,Option.map_some]
theorem bin_boolN {P:Program} {t:TypeId} {k:Nat} {a b:Bool} (ht:Ty P t .bool k):aBin P .neq t (.bool a) (.bool b)=some (.bool !(a==b)):=by simp only [aBin,aEq,ht.u,Option.map_some]
set_option maxHeartbeats 4000000 in
set_option maxHeartbeats 4000000 in
open Classical in
noncomputable def nilq {α ρ:Type} (L:List α) (f:Bool→Option ρ):Option ρ:=if L=[]∧f true ≠ f false then none else f false
theorem nilqF {α ρ:Type} {L:List α} {f:Bool→Option ρ} {r:ρ} (h:nilq L f=some r):f false=some r∧(L=[]→f true=some r):=by
 unfold nilq at h
 simp_all
theorem nilq_of {α ρ:Type} {L:List α} {f:Bool→Option ρ} {r:ρ} (h1:f false=some r) (h2:L=[]→f true=some r):nilq L f=some r:=by
 unfold nilq
 simp_all
theorem ops_nilqE {P:Program} {ops:Array Oper} {Q:List AV→AH→Prop} {o:Oper} {rest:List Oper} {env:List AV} {env':Bool→List AV} {h:AH} {t e u:TypeId} {k z:Nat} {x y:Operand} {a:AV} {α ρ:Type} {row:α→List AV} {L:List α} {f:Bool→Option ρ} {r:ρ} (hg:aG ops o env=some true)
  (ho:o.op=.binOp .eql t x y u) (ht:El P t e k) (hx:yC env x=some a) (ha:IsSl a z row L) (hy:yC env y=some .nilsl) (hd:∀ b:Bool,wF o.dst env (.bool b)=some (env' b)) (hF:nilq L f=some r)
  (hk:∀ b,(b=true→L=[])→f b=some r→yn P ops Q rest (env' b) h):yn P ops Q (o::rest) env h:=by
 obtain ⟨h1,h2⟩:=yk hx
 obtain ⟨h3,h4⟩:=yk hy
 obtain ⟨hf,ht'⟩:=nilqF hF
 have key:∀ b,(b=true→L.map row=[])→yn P ops Q rest (env' b) h:=fun b hb=>by
  have hb':b=true→L=[]:=fun h=>by simp_all
  refine hk b hb' ?_
  cases b with
  | false=>exact hf
  | true=>exact ht' (hb' rfl)
 refine wZ ?_
 simp only [hg,gwp]
 rcases ha with rfl | ⟨q,rfl⟩
 ·simp only [zK,ho,h1,h3,Bool.and_self,if_true,h2,h4,aNilq,ht.u,rwp]
  rintro v h' ⟨rfl,b,rfl,hb⟩
  rw [xF (hd b)];exact key b hb
 ·simp only [zK,ho,h1,h3,Bool.and_self,if_true,h2,h4,aNilq,ht.u,rwp]
  rintro v h' ⟨rfl,b,rfl,hb⟩
  rw [xF (hd b)];exact key b hb
section
variable {P:Program} {o:Oper} {env:List AV} {h:AH} {α:Type} {row:α→List AV} {L:List α}
theorem yr {t e:TypeId} {x i:Operand} {a:AV} {k:IntKind} {n:Int} {z:Nat} {y:α} (ho:o.op=.indexAddr t x i) (ht:El P t e z) (hx:yC env x=some a) (hi:yC env i=some (.int k n)) (ha:IsSl a z row L) (hy:idx L n=some y) :
  zK P o env h=.ok (.fptr (row y)) h:=by
 obtain ⟨h0,hy⟩:=idxF hy
 refine s_indexAddr ho ht hx hi ?_
 have hi2:(L.map row)[n.toNat]?=some (row y):=by simp_all
 rcases ha with rfl | ⟨q,rfl⟩ <;> simp only [aIndexAddr,h0,and_self,if_true,hi2,Option.map_some]
theorem vI {t e:TypeId} {x i:Operand} {a:AV} {k:IntKind} {n:Int} {z:Nat} {y:α} {cs:List AV} (ho:o.op=.indexAddr t x i) (ht:El P t e z) (hx:yC env x=some a) (hi:yC env i=some (.int k n)) (ha:IsSl a z row L) (hy:idx L n=some y) (hc:row y=cs) :
  zK P o env h=.ok (.fptr cs) h:=by rw [← hc];exact yr ho ht hx hi ha hy
theorem xB {t e:TypeId} {x i:Operand} {a:AV} {k:IntKind} {n:Int} {z:Nat} (d:α) (ho:o.op=.indexAddr t x i) (ht:El P t e z) (hx:yC env x=some a) (hi:yC env i=some (.int k n)) (ha:IsSl a z row L) (hn:0≤n∧n < L.length) :
  zK P o env h=.ok (.fptr (row (L.getD n.toNat d))) h:=by
 refine yr ho ht hx hi ha ?_
 unfold idx
 simp_all
theorem s_gidxRowE {t e:TypeId} {x i:Operand} {a:AV} {k:IntKind} {n:Int} {z:Nat} {cs:List AV} (d:α) (ho:o.op=.indexAddr t x i) (ht:El P t e z) (hx:yC env x=some a) (hi:yC env i=some (.int k n)) (ha:IsSl a z row L) (hn:0≤n∧n < L.length)
  (hc:row (L.getD n.toNat d)=cs):zK P o env h=.ok (.fptr cs) h:=by rw [← hc];exact xB d ho ht hx hi ha hn
theorem s_idxStr {t:TypeId} {x i:Operand} {s:zM} {k:IntKind} {n:Int} {z:Nat} {b:UInt8} (ho:o.op=.index t x i) (ht:Ty P t .string z) (hx:yC env x=some (.str s)) (hi:yC env i=some (.int k n)) (hy:idx s n=some b) :
  zK P o env h=.ok (.int .u8 b.toNat) h:=by
 obtain ⟨h0,hy⟩:=idxF hy
 refine s_indexStr ho ht hx hi ?_
 simp only [aIndexStr,h0,if_true,hy,Option.map_some]
inductive Bd (env:List AV):Option Operand→Int→Int→Prop
 | none {d:Int}:Bd env none d d
 | some {x:Operand} {k:IntKind} {n d:Int}:yC env x=some (.int k n)→Bd env (some x) d n
theorem Bd.all {x:Option Operand} {d n:Int} (h:Bd env x d n):x.all yo=true:=by
 cases h with
 | none=>rfl
 | some h=>exact (yk h).1
theorem Bd.ab {x:Option Operand} {d:Nat} {n:Int} (h:Bd env x d n) (h0:0≤n):aBound d (x.map (ev env))=Option.some n.toNat:=by
 cases h with
 | none=>rfl
 | some h=>simp only [Option.map_some,(yk h).2,aBound,if_pos h0]
theorem s_slcSl {t e:TypeId} {x:Operand} {lo hi:Option Operand} {a:AV} {M:List α} {l hh:Int} {z:Nat} (ho:o.op=.slice t x lo hi none) (ht:El P t e z) (hx:yC env x=some a) (ha:a=.sl z (L.map row) ∨ ∃ q,a=.osl q z (L.map row)∧(hi.isSome=true ∨ q.isSome=true)) (hl:Bd env lo 0 l) (hh':Bd env hi L.length hh)
  (hM:slc L l hh=some M):zK P o env h=.ok (.sl z (M.map row)) h:=by
 obtain ⟨⟨h0,h1,h2⟩,rfl⟩:=slcF hM
 obtain ⟨h3,h4⟩:=yk hx
 obtain ⟨i,h5,h6,_⟩:=ht.i
 have e1:=Bd.ab (d:=0) hl h0
 have e2:=Bd.ab (d:=L.length) hh' (by omega)
 simp only [zK,ho,h3,hl.all,hh'.all,Option.all_none,Bool.and_self,if_true,ht.u,h4,h5,h6,Option.map_none]
 rcases ha with rfl | ⟨q,rfl,hq⟩
 ·simp only [tyfix,if_true,aSlice,aSliceSl,e1,List.length_map,e2,Bool.false_and,Bool.false_eq_true,if_false]
  rw [if_pos (by omega)];simp only [oo,List.map_drop,List.map_take]
 ·simp only [tyfix,if_true,aSlice,aSliceSl,e1,List.length_map,e2]
  rw [if_pos (by omega)]
  have hf:(q.isNone&&(hi.map (ev env)).isNone)=false:=by
   rcases hq with hq | hq
   ·simp_all
   ·cases q <;> simp_all
  simp only [hf,Bool.false_eq_true,if_false,oo,List.map_drop,List.map_take]
theorem a_app {M:List α} {k:Nat} {q:Option Nat} {id:Nat} {h':AH} (hl:L.length+M.length≤vQ) (hg:h.grow q L.length M.length=some (id,h')):aAppend h k (.osl q k (L.map row)) (M.map row)=some (.osl (some id) k ((L++M).map row),h'):=by
 simp only [aAppend,List.length_map]
 by_cases h0:M.length=0
 ·have:M=[]:=List.eq_nil_of_length_eq_zero h0
  subst this
  rw [if_pos (show ([]:List α).length=0 from rfl)]
  cases q with
  | none =>
   simp only [AH.grow,List.length_nil,Nat.add_zero,Option.some.injEq,Prod.mk.injEq] at hg
   simp_all
  | some id' =>
   simp only [AH.grow,List.length_nil,Nat.add_zero] at hg
   split at hg
   ·rename_i ht
    simp only [Option.some.injEq,Prod.mk.injEq] at hg
    obtain ⟨rfl,rfl⟩:=hg
    have:h.toks.set id' L.length=h.toks:=by
     refine List.ext_getElem? fun j=>?_
     grind
    simp [this]
   ·cases hg
 ·simp_all
variable {M:List α}
theorem e_appN {c:Call} {x y:Operand} {t u e e':TypeId} {k k' m:Nat} {a b b':AV} {B:List Blk} {T T':List Nat} (ho:o.op=.call c) (hc:c.callee=.builtin .append) (hs:c.args=#[x,y]) (ht:c.argTypes=#[t,u]) (hu:El P t e k)
  (hu':El P u e' k') (hx:yC env x=some a) (hy:yC env y=some b) (ha:tyfix P t a=.osl none k (L.map row)) (hb:tyfix P u b=b') (hn:q7 k b'=some (M.map row)) (hl:L.length+M.length≤vQ) (hm:T.length=m) (hT:T++[(L++M).length]=T') :
  zK P o env (h.ext B T)=.ok (.osl (some (h.toks.length+m)) k ((L++M).map row)) (h.ext B T'):=by
 refine s_append ho hc hs ht hu hu' hx hy ha hb hn (a_app hl ?_)
 subst hT hm
 simp [AH.grow,AH.ext]
theorem e_appT {c:Call} {x y:Operand} {t u e e':TypeId} {k k' j:Nat} {a b b':AV} {B:List Blk} {T T':List Nat} (ho:o.op=.call c) (hc:c.callee=.builtin .append) (hs:c.args=#[x,y]) (ht:c.argTypes=#[t,u]) (hu:El P t e k)
  (hu':El P u e' k') (hx:yC env x=some a) (hy:yC env y=some b) (ha:tyfix P t a=.osl (some (h.toks.length+j)) k (L.map row)) (hb:tyfix P u b=b') (hn:q7 k b'=some (M.map row)) (hl:L.length+M.length≤vQ) (hm:T[j]?=some L.length) (hT:T.set j (L++M).length=T') :
  zK P o env (h.ext B T)=.ok (.osl (some (h.toks.length+j)) k ((L++M).map row)) (h.ext B T'):=by
 refine s_append ho hc hs ht hu hu' hx hy ha hb hn (a_app hl ?_)
 subst hT
 have hg:(h.toks++T)[h.toks.length+j]?=some L.length:=by grind
 simp only [AH.grow,AH.ext,hg,if_true]
 simp_all
theorem news_sl {k:Nat}:q7 k (.sl k (M.map row))=some (M.map row):=by simp [q7]
theorem qB {k:Nat} {q:Option Nat}:q7 k (.osl q k (M.map row))=some (M.map row):=by simp [q7]
end

theorem leL.app {a5 bs:List AV} {cs:List AV} (k:leL a5 bs):leL (a5++cs) (bs++cs):=fun g vs hv=>by
 have hs:∀ {a5:List AV} {vs:List Value},VL g (a5++cs) vs→∃ us ws,vs=us++ws∧VL g a5 us∧VL g cs ws:=by
  intro a5
  induction a5 with
  | nil=>intro vs h;exact ⟨[],vs,rfl,by simp [VL],h⟩
  | cons a r ih =>
   intro vs h
   simp only [List.cons_append,VL] at h
   obtain ⟨v,s,rfl,h1,h2⟩:=h
   obtain ⟨us,ws,rfl,h3,h4⟩:=ih h2
   exact ⟨v::us,ws,rfl,VL.cons h1 h3,h4⟩
 obtain ⟨us,ws,rfl,h1,h2⟩:=hs hv
 exact VL.append (k _ _ h1) h2
theorem leL.pre {a5 bs:List AV}:∀ {cs:List AV},leL a5 bs→leL (cs++a5) (cs++bs)
 | [],k=>k
 | _::_,k=>leL.eq (leL.pre k)
def keeps:List (Nat×Blk)→List Blk→Prop
 | [],_=>True
 | (j,b)::r,B=>B[j]?=some b∧keeps r B
theorem keeps1 {j:Nat} {b:Blk} {r:List (Nat×Blk)} {B:List Blk} (h:keeps ((j,b)::r) B):B[j]?=some b:=h.1
def lk:List (Nat×List (Nat×Blk))→Nat→List (Nat×Blk)
 | [],_=>[]
 | (m,l)::r,n=>if n=m then l else lk r n
def KeepB (h:AH) (l:List (Nat×Blk)) (x:AH):Prop:=∃ B T,x=h.ext B T∧keeps l B
theorem xW {h:AH} {l:List (Nat×Blk)} {B:List Blk} {T:List Nat} (hk:keeps l B):KeepB h l (h.ext B T):=⟨_,_,rfl,hk⟩
def keepA:List (Nat×List (Nat×Blk))→List Blk→Prop
 | [],_=>True
 | (_,l)::r,B=>keeps l B∧keepA r B
theorem keepA_lk:∀ {l:List (Nat×List (Nat×Blk))} {B:List Blk},keepA l B→∀ n,keeps (lk l n) B
 | [],_,_,_=>trivial
 | (m,l)::r,B,h,n=>by
  simp only [lk]
  split
  ·exact h.1
  ·exact keepA_lk h.2 n
theorem FOk.all {b:Nat} {Ns:List Nat} {G:AH→Prop} {h:AH} (hg:G h):FOk b Ns (fun _=>G) h:=fun _ _ _=>hg
theorem FOk.nil {b:Nat} {F:Nat→AH→Prop} {h:AH}:FOk b [] F h:=fun _ h _=>by simp at h
theorem FOk.cons {b n:Nat} {Ns:List Nat} {F:Nat→AH→Prop} {h:AH} (h1:b.testBit n=true ∨ F n h) (h2:FOk b Ns F h):FOk b (n::Ns) F h:=fun m hm hb=>by
 rcases h1 with h1 | h1
 ·by_cases e:m=n
  ·simp_all
  ·exact h2 m (by simp_all) hb
 ·by_cases e:m=n
  ·simp_all
  ·exact h2 m (by simp_all) hb
theorem yD {P:Program} {Q:Exit→List AV→AH→Prop} {env:List AV} {h:AH} {B:List Blk} {T:List Nat} {id:Nat} {l:List Oper} (Ns:List Nat) (kf:List (Nat×List (Nat×Blk))) (hB:keepA kf B) (hm:P.follows .mixedOrders=true) (hd:drawOk ⟨l⟩ Ns=true) (hk:yy P ⟨l⟩ Ns (fun n=>KeepB h (lk kf n)) (Q .normal) 0 l env (h.ext B T)) :
  qQ P (.region id ⟨l⟩ true) Q env (h.ext B T):=.inl ⟨Ns,fun n=>KeepB h (lk kf n),⟨hm,hd⟩,fun n=>xW (keepA_lk hB n),hk⟩
theorem r_drawnF {P:Program} {Q:Exit→List AV→AH→Prop} {env:List AV} {h:AH} {id:Nat} {l:List Oper} (Ns:List Nat) (F:Nat→AH→Prop) (hF:∀ n,F n h) (hm:P.follows .mixedOrders=true) (hd:drawOk ⟨l⟩ Ns=true) (hk:yy P ⟨l⟩ Ns F (Q .normal) 0 l env h) :
  qQ P (.region id ⟨l⟩ true) Q env h:=.inl ⟨Ns,F,⟨hm,hd⟩,hF,hk⟩
theorem wI {h:AH} {L L':List Blk} {M M':List Nat}:(h.ext L M).ext L' M'=h.ext (L++L') (M++M'):=by simp [AH.ext,List.append_assoc]
theorem ops_callH {P:Program} {ops:Array Oper} {Q:List AV→AH→Prop} {o:Oper} {rest:List Oper} {env env':List AV} {h h':AH} {f:FuncId} {args:List AV} {v:AV} (hg:aG ops o env=some true) (ha:zK P o env h=.call f args) (hs:Spec P f args h fun r hh=>r=v∧hh=h')
  (hd:wF o.dst env v=some env') (hk:yn P ops Q rest env' h'):yn P ops Q (o::rest) env h :=
 ops_call hg ha hs fun r h' ⟨e1,e2⟩=>by subst e1;subst e2;rw [xF hd];exact hk
theorem draw_callH {Ns:List Nat} {F:Nat→AH→Prop} {i:Nat} (hN:Ns.contains i=false) {P:Program} {ops:Array Oper} {Q:List AV→AH→Prop} {o:Oper} {rest:List Oper} {env env':List AV} {h h':AH} {f:FuncId} {args:List AV} {v:AV} (hF:FOk ((Region.before ops).getD i 0) Ns F h') (hb:h'.blks=h.blks) (hg:aG ops o env=some true) (ha:zK P o env h=.call f args) (hs:Spec P f args h fun r hh=>r=v∧hh=h')
  (hd:wF o.dst env v=some env') (hk:yy P ops Ns F Q (i+1) rest env' h'):yy P ops Ns F Q i (o::rest) env h :=
 ⟨v,h',.inl ⟨hN,by simp only [AR,hg,ha];exact hs⟩,.inr hb,.inr hF,by rw [xF hd];exact hk⟩
theorem draw_okH {Ns:List Nat} {F:Nat→AH→Prop} {i:Nat} (hN:Ns.contains i=false) {P:Program} {ops:Array Oper} {Q:List AV→AH→Prop} {o:Oper} {rest:List Oper} {env env':List AV} {h h':AH} {v:AV} (hF:FOk ((Region.before ops).getD i 0) Ns F h') (hb:h'.blks=h.blks) (hg:aG ops o env=some true) (ha:zK P o env h=.ok v h') (hd:wF o.dst env v=some env') (hk:yy P ops Ns F Q (i+1) rest env' h') :
  yy P ops Ns F Q i (o::rest) env h:=⟨v,h',.inl ⟨hN,by simp only [AR,hg,ha,and_self]⟩,.inr hb,.inr hF,by rw [xF hd];exact hk⟩
def OwnK (h:AH) (k n:Nat) (R:List (List AV)) (rr:AV) (hh:AH):Prop:=rr=.osl (some h.toks.length) k R∧hh=h.ext [] [n]
theorem own_ext {P:Program} {f:FuncId} {a5:List AV} {h:AH} {B:List Blk} {T T':List Nat} {k n m:Nat} {R:List (List AV)} (s:Spec P f a5 (h.ext B T) (OwnK (h.ext B T) k n R)) (hm:T.length=m) (hT:T++[n]=T') :
  Spec P f a5 (h.ext B T) (fun rr hh=>rr=.osl (some (h.toks.length+m)) k R∧hh=h.ext B T'):=by
 refine s.mono ?_
 rintro r h' ⟨rfl,rfl⟩
 subst hm hT
 simp [AH.ext,List.append_assoc]
theorem evo_eq {env:List AV} {x:Operand} {a b:AV} (h:yC env x=some a) (e:a=b):yC env x=some b:=by rw [h,e]
theorem blk_ext2 {h:AH} {B B':List Blk} {T T':List Nat} {j:Nat} {b:Blk} (hj:B[j]?=some b):((h.ext B T).ext B' T').blk (h.blks.length+j)=some b:=by
 rw [wI,xI,List.getElem?_append_left (List.getElem?_eq_some_iff.1 hj).1];exact hj
theorem blk_old {h:AH} {B:List Blk} {T:List Nat} {id:Nat} {b:Blk} (hb:h.blk id=some b):(h.ext B T).blk id=some b:=by
 have hl:id < h.blks.length:=(List.getElem?_eq_some_iff.1 hb).1
 simp only [AH.blk,AH.ext] at hb ⊢
 grind
theorem b_load {P:Program} {o:Oper} {env:List AV} {h:AH} {B:List Blk} {T:List Nat} {t:TypeId} {d:TypeDesc} {k id off:Nat} {x:Operand} {cs:List AV} {v v':AV} (ho:o.op=.load t x) (ht:Ty P t d k) (hx:yC env x=some (.ptr id off)) (hb:h.blk id=some (.cells cs))
  (hv:ldC (yq d) k off cs=some v) (hf:tyfix P t v=v'):zK P o env (h.ext B T)=.ok v' (h.ext B T):=by
 refine s_load ho ht hx ?_ hf
 simp only [aLoad,blk_old hb]
 exact hv

theorem leV.agg {cs ds:List AV} (k:leL cs ds) (ho:ds.all AV.one=true):leV (.agg cs) (.agg ds):=fun g v hv=>by
 simp only [V] at hv ⊢
 obtain ⟨vs,e,h1⟩:=hv
 exact ⟨vs,e,VA.mk (k _ _ h1.toVL) ho⟩
theorem leV.tup {cs ds:List AV} (k:leL cs ds):leV (.tup cs) (.tup ds):=fun g v hv=>by
 simp only [V] at hv ⊢
 obtain ⟨vs,e,h1⟩:=hv
 exact ⟨vs,e,k _ _ h1⟩
theorem VL.setE {g:Gh}:∀ {a5:List AV} {vs:List Value},VL g a5 vs→∀ (i:Nat) (a:AV),(∀ v,vs[i]?=some v→V g a v)→VL g (a5.set i a) vs
 | [],_,h,i,a,_=>by simpa using h
 | _::r,_,h,i,a,hv=>by
  simp only [VL] at h
  obtain ⟨v',s,rfl,h1,h2⟩:=h
  cases i with
  | zero=>simp only [List.set_cons_zero,VL];exact ⟨v',s,rfl,hv v' rfl,h2⟩
  | succ i=>simp only [List.set_cons_succ,VL];exact ⟨v',s,rfl,h1,VL.setE h2 i a (fun v hvi=>hv v (by simp_all))⟩
theorem V.tok {g:Gh} {k n:Nat} {es:List (List AV)} {v:Value} (hn:es.length=n) (hV:V g (.osl none k es) v):V (g.addT ⟨n,none,false⟩) (.osl (some g.τ.length) k es) v:=by
 subst hn
 simp only [V] at hV ⊢
 obtain ⟨a,c,h1,h2,h3,h4,h5⟩:=hV
 refine ⟨a,c,h1,h2,h3,h4.imp id fun ⟨b,o,e,hh⟩=>⟨b,o,e,VE.mono (g.le_addT _) _ _ _ _ hh⟩,⟨es.length,none,false⟩,?_,rfl,Nat.le_refl _,fun _=>.inl h5⟩
 simp only [Gh.addT]
 simp_all
theorem wk_tok {α:Type} {row:α→List AV} {L:List α} {hd h:AH} {env env':List AV} {B:List Blk} {T T':List Nat} {d k m:Nat} (he:yC env (.tmp d)=some (.osl none k (L.map row))) (hm:T.length=m)
  (hE:wF (some d) env (.osl (some (h.toks.length+m)) k (L.map row))=some env') (hT:T++[L.length]=T') :
  wk hd env (h.ext B T) env' (h.ext B T'):=fun _ _ _ _ g1 g vs _ hg r hv=>by
 subst hm hT
 simp only [wF,Option.some.injEq] at hE
 subst hE
 have hlen:h.toks.length+T.length=g.τ.length:=by rw [r.tlen];simp [AH.ext]
 refine ⟨g.addT ⟨L.length,none,false⟩,hg.trans (g.le_addT _),?_,?_⟩
 ·have:=r.addTok ⟨L.length,none,false⟩ (fun _ _ _ h=>by cases h) (fun _ _ h=>by cases h)
  have e:(h.ext B (T++[L.length]))={ (h.ext B T) with toks:=(h.ext B T).toks++[L.length] }:=by simp [AH.ext,List.append_assoc]
  simp_all
 ·have hv':=hv
  refine ⟨VL.setE (VL.mono (g.le_addT _) _ _ hv) d _ fun v hvi=>?_,fun _ h=>h⟩
  obtain ⟨a,ha,hV⟩:=hv'.getR _ _ hvi
  have he':env[d]?=some (.osl none k (L.map row)):=he
  rw [he'] at ha
  injection ha with ha
  subst ha
  rw [hlen];exact hV.tok (by simp)
theorem Rel.rowsC {B:Nat} {w0 w:World} {g:Gh} {h:AH} (r:Rel B w0 g h w) {i:Nat} {cs cs':List AV} (hk:h.blks[i]?=some (.cells cs)) :
  (∀ (j:Nat) (x:Blk),g.σ[j]?=some none→(h.put i (.cells cs')).blks[j]?=some x→RowB g w x) ∧
  ∀ (a b t k k':Nat) (es es':List (List AV)),(h.put i (.cells cs')).blks[a]?=some (.row t k es)→(h.put i (.cells cs')).blks[b]?=some (.row t k' es')→a=b:=by
 have key:∀ (a t k:Nat) (es:List (List AV)),(h.put i (.cells cs')).blks[a]?=some (.row t k es)→h.blks[a]?=some (.row t k es):=by
  intro a t k es ha
  simp only [AH.put] at ha
  grind
 refine ⟨fun j x hj hx=>?_,fun a b t k k' es es' ha hb=>r.rinj _ _ _ _ _ _ _ (key _ _ _ _ ha) (key _ _ _ _ hb)⟩
 simp only [AH.put] at hx
 by_cases hij:i=j
 ·subst hij;exact (r.row i _ hj hk).elim
 ·rw [List.getElem?_set_ne hij] at hx;exact r.row j x hj hx
theorem wk_tokB {α:Type} {row:α→List AV} {L:List α} {hd h:AH} {env:List AV} {B B':List Blk} {T T':List Nat} {j off k m:Nat} {cs cs':List AV} (hj:B[j]?=some (.cells cs)) (he:yC cs (.tmp off)=some (.osl none k (L.map row))) (hm:T.length=m)
  (hE:wF (some off) cs (.osl (some (h.toks.length+m)) k (L.map row))=some cs') (hB:B.set j (.cells cs')=B') (hT:T++[L.length]=T') :
  wk hd env (h.ext B T) env (h.ext B' T'):=fun _ _ w _ g1 g vs _ hg r hv=>by
 subst hm hT hB
 simp only [wF,Option.some.injEq] at hE
 subst hE
 have hlen:h.toks.length+T.length=g.τ.length:=by rw [r.tlen];simp [AH.ext]
 refine ⟨g.addT ⟨L.length,none,false⟩,hg.trans (g.le_addT _),?_,VL.mono (g.le_addT _) _ _ hv,fun _ h=>h⟩
 have r1:=r.addTok ⟨L.length,none,false⟩ (fun _ _ _ h=>by cases h) (fun _ _ h=>by cases h)
 have hk:({ (h.ext B T) with toks:=(h.ext B T).toks++[L.length] }:AH).blks[h.blks.length+j]?=some (.cells cs):=by
  simp only [AH.ext];rw [List.getElem?_append_right (by omega),Nat.add_sub_cancel_left];exact hj
 have e:(h.ext (B.set j (.cells (cs.set off (.osl (some (h.toks.length+T.length)) k (L.map row))))) (T++[L.length])) =
   ({ (h.ext B T) with toks:=(h.ext B T).toks++[L.length] }:AH).put (h.blks.length+j) (.cells (cs.set off (.osl (some (h.toks.length+T.length)) k (L.map row)))):=by
  simp only [AH.ext,AH.put,List.append_assoc]
  simp_all
 rw [e]
 -- what the cells were ahead of the token
 have hk0:(h.ext B T).blks[h.blks.length+j]?=some (.cells cs):=by
  omega
 obtain ⟨c,hc⟩:∃ c:Nat,g.σ[h.blks.length+j]?=some (some c):=by
  have:h.blks.length+j < g.σ.length:=by rw [r.slen];simp only [AH.ext,List.length_append];have:=(List.getElem?_eq_some_iff.1 hj).1;omega
  rcases hc:g.σ[h.blks.length+j] with _ | c
  ·exact (r.row _ _ (by simp_all) hk0).elim
  ·simp_all
 obtain ⟨_,_,⟨us,t,h3,h4⟩,_⟩:=r.blk _ c _ hc hk0
 have hset:VA (g.addT ⟨L.length,none,false⟩) (cs.set off (.osl (some (h.toks.length+T.length)) k (L.map row))) us.toList:=by
  have h5:=h4.toVL
  refine VA.mk (VL.setE (VL.mono (g.le_addT _) _ _ h5) off _ fun v hvi=>?_) ?_
  ·obtain ⟨a,ha,hV⟩:=h5.getR _ _ hvi
   have he':cs[off]?=some (.osl none k (L.map row)):=he
   rw [he'] at ha
   injection ha with ha
   subst ha
   rw [hlen];exact hV.tok (by simp)
  ·rw [List.all_eq_true]
   intro a ha
   rcases List.mem_or_eq_of_mem_set ha with ha | rfl
   ·have:=h4.ones;rw [List.all_eq_true] at this;exact this a ha
   ·rfl
 -- one block alone: the same cell
 refine ⟨r1.below,r1.bsz,r1.phi,by simp [AH.put,r1.slen],fun i c' q hc' hq=>?_,r1.tlen,r1.tok,r1.sinj,r1.tinj,r1.sep,r1.dfr,(r1.rowsC hk).1,(r1.rowsC hk).2,r1.nb,r1.ob,r1.oa⟩
 simp only [AH.put] at hq
 by_cases hij:h.blks.length+j=i
 ·subst hij
  rw [List.getElem?_set_self (List.getElem?_eq_some_iff.1 hk).1] at hq
  injection hq with hq;subst hq
  obtain ⟨h6,h7,_,h9⟩:=r1.blk _ c' _ hc' hk
  have:c'=c:=by
   have:g.σ[h.blks.length+j]?=some (some c'):=hc'
   simp_all
  subst this
  exact ⟨h6,h7,⟨us,t,h3,hset⟩,fun _=>h9 (by simp)⟩
 ·rw [List.getElem?_set_ne hij] at hq
  exact r1.blk i c' q hc' hq
mutual
theorem AV.low_up {n n' m m':Nat} (hn:n≤n') (h:m≤m'):∀ a:AV,a.low n m=true→a.low n' m'=true
 | .bool _,_ | .int _ _,_ | .str _,_ | .nilp,_ | .nilm,_ | .nilf,_ | .nili,_ | .nilsl,_ | .fptr _,_ | .sl _ _,_ | .glob _,_ | .any,_ | .opq,_ | .bsl _ _,_ | .nsl _ _,_ | .gsl _ _,_ | .gptr _,_=>rfl
 | .osl none _ _,_=>rfl
 | .osl (some t) _ _,hl=>by simp only [AV.low,decide_eq_true_eq] at hl ⊢;omega
 | .ptr _ _,hl=>by simp only [AV.low,decide_eq_true_eq] at hl ⊢;omega
 | .msl _ _ _ _,hl=>by simp only [AV.low,decide_eq_true_eq] at hl ⊢;omega
 | .rsl _ _ _ _,hl=>by simp only [AV.low,decide_eq_true_eq] at hl ⊢;omega
 | .rsuf _ _ _ _ _,hl=>by simp only [AV.low,decide_eq_true_eq] at hl ⊢;omega
 | .rptr _ _ _ _ _,hl=>by simp only [AV.low,decide_eq_true_eq] at hl ⊢;omega
 | .map _,hl=>by simp only [AV.low,decide_eq_true_eq] at hl ⊢;omega
 | .yld _,hl=>by simp only [AV.low,decide_eq_true_eq] at hl ⊢;omega
 | .fn _ a b,hl=>by
  simp only [AV.low,Bool.and_eq_true] at hl ⊢
  exact ⟨yJ hn h a hl.1,yJ hn h b hl.2⟩
 | .iface _ v,hl=>by simp only [AV.low] at hl ⊢;exact AV.low_up hn h v hl
 | .agg cs,hl=>by simp only [AV.low] at hl ⊢;exact yJ hn h cs hl
 | .tup cs,hl=>by simp only [AV.low] at hl ⊢;exact yJ hn h cs hl
theorem yJ {n n' m m':Nat} (hn:n≤n') (h:m≤m'):∀ l:List AV,yf n m l=true→yf n' m' l=true
 | [],_=>rfl
 | a::r,hl=>by
  simp only [yf,Bool.and_eq_true] at hl ⊢
  exact ⟨AV.low_up hn h a hl.1,yJ hn h r hl.2⟩
end
theorem wk_cutm {h:AH} {env:List AV} {L:List Blk} {M M1:List Nat} (m:Nat) (hl:yf h.blks.length (h.toks.length+m) env=true) (hM:M.take m=M1):wk h env (h.ext L M) env (h.ext [] M1):=fun _ _ _ _ g1 g vs r1 hg r hv=>by
 subst hM
 refine ⟨g.cut h.blks.length (h.toks.length+m),Gh.le_cut2 hg (by rw [r1.slen];exact Nat.le_refl _) (by rw [r1.tlen];omega),?_,VL.cut _ _ hl hv,fun _ h=>h⟩
 have e:(h.ext L M).cut h.blks.length (h.toks.length+m)=h.ext [] (M.take m):=by
  simp [AH.cut,AH.ext,List.take_append]
  rw [List.take_of_length_le (by omega)]
 have:=r.cut h.blks.length (h.toks.length+m) (fun i k hi hk=>?_)
 ·simp_all
 ·have hi':i < g1.σ.length:=by rw [r1.slen];exact hi
  simp only [AH.ext] at hk
  rw [List.getElem?_append_left hi] at hk
  have:=r1.isLow hk
  rw [r1.slen,r1.tlen] at this
  exact Blk.low_mono (by omega) _ this
theorem fin_own {h:AH} {B:List Blk} {T:List Nat} {K:AV→AH→Prop} {k n:Nat} {R:List (List AV)} (hk:K (.osl (some h.toks.length) k R) (h.ext [] [n])):finK h K (.osl (some (h.toks.length+0)) k R) (h.ext B (n::T)) :=
 fin_wk (wk_cutm 1 (by simp [yf,AV.low]) rfl) hk
theorem fin_own0 {α:Type} {row:α→List AV} {L:List α} {h:AH} {B:List Blk} {T:List Nat} {K:AV→AH→Prop} {k:Nat} (hk:K (.osl (some h.toks.length) k (L.map row)) (h.ext [] [L.length])):finK h K (.osl none k (L.map row)) (h.ext B T) :=
 fin_wk ((wk_cutm (M1:=[]) 0 (by rfl) rfl).trans (wk_tok (d:=0) (m:=0) rfl rfl rfl rfl)) hk
theorem xP {h:AH} {L0 L1 L':List Blk} {M0 M1 M':List Nat} {env:List AV} (hl:yf (h.blks.length+L0.length) (h.toks.length+M0.length) env=true) (hL:L'.take L0.length=L1) (hM:M'.take M0.length=M1)
  (hb:L1.all (fun b=>b.low (h.blks.length+L0.length) (h.toks.length+M0.length))=true):wk (h.ext L0 M0) env (h.ext L' M') env (h.ext L1 M1) :=
 wk_ext2 hl hL hM fun _ k hk=>.inr (by grind)
theorem ops_nextF {P:Program} {ops:Array Oper} {Q:List AV→AH→Prop} {o:Oper} {rest:List Oper} {env e1 e2:List AV} {h:AH} {L:List Blk} {M:List Nat} {x:Operand} {s:List UInt8} {j pos:Nat} {ρ:Type} {A C:Option ρ} {r:ρ} (hg:aG ops o env=some true) (ho:o.op=.next x true)
  (hx:yC env x=some (.ptr (h.blks.length+j) 0)) (hj:L[j]?=some (.siter s pos)) (hd1:wF o.dst env (.tup [.bool true,.int .i64 pos,.int .i32 (dec s pos).1])=some e1) (hd2:wF o.dst env (.tup [.bool false])=some e2)
  (hF:(if pos < s.length then A else C)=some r) (hk1:pos < s.length→A=some r→yn P ops Q rest e1 (h.ext (L.set j (.siter s (pos+(dec s pos).2))) M)) (hk2:C=some r→yn P ops Q rest e2 (h.ext L M)):yn P ops Q (o::rest) env (h.ext L M) :=
 ops_next hg ho hx hj hd1 hd2 (fun hp=>hk1 hp (by simp_all)) (fun hp=>hk2 (by grind))
open Classical in
noncomputable def anyN {ρ:Type} (g:Nat→Option ρ):Option ρ:=if h:∃ r N,∀ n,N≤n→g n=some r then some (Classical.choose h) else none
theorem anyN_is {ρ:Type} {g:Nat→Option ρ} {r:ρ} (h:anyN g=some r):∃ n,g n=some r:=by
 unfold anyN at h
 split at h
 ·rename_i hx
  injection h with h;subst h
  obtain ⟨N,hN⟩:=Classical.choose_spec hx
  exact ⟨N,hN N (Nat.le_refl _)⟩
 ·cases h
theorem anyN_of {ρ:Type} {g:Nat→Option ρ} {r:ρ} (N:Nat) (h:∀ n,N≤n→g n=some r):anyN g=some r:=by
 have hx:∃ r N,∀ n,N≤n→g n=some r:=⟨r,N,h⟩
 unfold anyN
 rw [dif_pos hx]
 obtain ⟨M,hM⟩:=Classical.choose_spec hx
 have h1:=hM (max N M) (Nat.le_max_right _ _)
 grind
theorem Rel.beyond {B:Nat} {w0 w w':World} {g:Gh} {h:AH} (r:Rel B w0 g h w) (hb:RowKit.Below w.heap.size w w'):Rel B w0 g h w' :=
 ⟨r.below.trans (hb.mono r.bsz),Nat.le_trans r.bsz hb.size,fun b j v e=>(hb.cell (p:=⟨b,j,none⟩) (r.phi_lt e)).trans (r.phi b j v e),r.slen,
   fun i c k hc hk=>by
     obtain ⟨h1,h2,h3,h4⟩:=r.blk i c k hc hk
     exact ⟨h1,Nat.lt_of_lt_of_le h2 hb.size,h3.mono (Gh.le.refl g) (hb.block c h2),h4⟩,r.tlen,
   fun i t ht=>by
     obtain ⟨h1,h2⟩:=r.tok i t ht
     exact ⟨h1,fun b l e hl=>(h2 b l e hl).mono hb.size (hb.block b (h2 b l e hl).lt) fun _ _=>rfl⟩,r.sinj,r.tinj,r.sep,fun c hc=>⟨(r.dfr c hc).1,(hb.block c (r.dfr_lt hc)).trans (r.dfr c hc).2.1,(r.dfr c hc).2.2⟩,
   fun i k hi hk=>(r.row i k hi hk).mono (Gh.le.refl g) (fun _ _ h _=>h) (fun i t b x ht _ hl=>⟨hb.block b ((r.tok i t ht).2 b x.1 x.2 hl).lt,fun _=>rfl⟩),r.rinj,
   fun b x hx=>(r.nb b x hx).mono fun _ hl ha=>⟨hb.block b hl,ha,fun h=>h⟩,fun b hx=>⟨Nat.lt_of_lt_of_le (r.ob b hx).1 hb.size,(r.ob b hx).2⟩,r.oa⟩
end Go.Vv
namespace Go.Vv
open Go Go.RowKit Go.Lib
def apart (ops:Array Oper) (o p:Oper):Bool :=
 (match o.dst with | some d=>!(p.looksAt ops).contains d&&p.dst != some d | none=>true) &&
 (match p.dst with | some d=>!(o.looksAt ops).contains d | none=>true)
section
variable {P:Program} {l:List Oper} {Q:List AV→AH→Prop} {m i j:Nat} {listed:Array Bool} {env env':List AV} {h h':AH} {o:Oper} {v:AV}
end
end Go.Vv
namespace Go.Vv
open Go Go.RowKit Go.Proofs Go.Shelf

def strJoin (xs:List (List UInt8)) (sep:List UInt8):Option (List UInt8):=if xs.length≤140737488355328∧(Lib.join xs sep).length≤140737488355328 then some (Lib.join xs sep) else none

theorem spec_join {P:Program} {ρ:Ren} (L:Lays.n156 P ρ) (X:Builder.Extra P ρ) {xs:List (List UInt8)} {sep res:List UInt8} {h:AH} (hF:strJoin xs sep=some res) :
  Spec P (ρ.f 156) [.sl 1 (xs.map fun x=>[.str x]),.str sep] h (fun rr hh=>rr=.str res∧hh=h):=by
 unfold strJoin at hF
 split at hF
 case isFalse=>cases hF
 rename_i hc
 obtain ⟨hN,hlen⟩:=hc
 injection hF with hF
 subst hF
 have hb:(Body.n156 ρ).body=some ((Body.n156 ρ).body.get rfl):=rfl
 refine ⟨fun vs w=>by simp [callFunc,L.f156,Body.n156],fun B w0 _ g w vs r hv=>?_⟩
 obtain ⟨us,rfl⟩:∃ us:List Value,vs=us.toArray:=⟨vs.toList,by simp⟩
 simp only [VL,V] at hv
 obtain ⟨v1,s1,e1,⟨a,c,rfl,hcap,hm,hp⟩,v2,s2,rfl,⟨rfl,hs⟩,rfl⟩:=hv
 simp only [List.length_map] at hcap hm
 simp at e1
 subst e1
 have fin:∀ e w',e=Ending.returned (.string ⟨(Lib.join xs sep).toArray⟩)→Below w.heap.size w w'→∃ v r h' g',e=.returned v∧(r=.str (Lib.join xs sep)∧h'=h)∧g.le g'∧Rel B w0 g' h' w'∧V g' r v:=by
  rintro e w' rfl hw
  refine ⟨_,_,h,g,rfl,⟨rfl,rfl⟩,Gh.le.refl g,r.beyond hw,?_⟩
  simp only [V]
  have hm2:(140737488355328:Nat)≤maxLen:=by decide
  exact ⟨trivial,Nat.le_trans hlen hm2⟩
 rcases hp with hp | ⟨b,o,rfl,he⟩
 ·have:xs=[]:=by simpa using hp
  subst this
  refine (Any.strings_Join_none L X a c ⟨sep.toArray⟩ w).mono fun e w' ⟨h1,h2⟩=>fin e w' ?_ (h2 ▸ Below.refl _ _)
  rw [h1];rfl
 ·have key:(xs.map fun x=>(⟨x.toArray⟩:ByteArray)).map (·.data.toList)=xs:=by simp [Function.comp_def]
  have hcells:∀ (j:Nat) x,(xs.map fun x=>(⟨x.toArray⟩:ByteArray))[j]?=some x→w.cell? ⟨b,o+j,none⟩=some (.string x):=by
   intro j x hj
   rw [List.getElem?_map] at hj
   rcases hx:xs[j]? with _ | y
   ·simp [hx] at hj
   ·simp [hx] at hj
    subst hj
    obtain ⟨_,h2⟩:=he.get j [.str y] (by rw [List.getElem?_map,hx];rfl)
    simp only [VC,V,Nat.mul_one] at h2
    obtain ⟨⟨v,h3,_,rfl,_⟩,_⟩:=h2
    exact r.phi _ _ _ h3
  by_cases hx:xs=[]
  ·subst hx
   refine (Any.strings_Join_none L X _ c ⟨sep.toArray⟩ w).mono fun e w' ⟨h1,h2⟩=>fin e w' ?_ (h2 ▸ Below.refl _ _)
   rw [h1];rfl
  ·have hbk:b < w.heap.size:=by
    obtain ⟨y,ys,rfl⟩:=List.exists_cons_of_ne_nil hx
    have:=hcells 0 ⟨y.toArray⟩ (by simp)
    exact World.block_lt_of_cell? w ⟨b,o+0,none⟩ this
   have:=Any.strings_Join L X b o c (xs.map fun x=>(⟨x.toArray⟩:ByteArray)) ⟨sep.toArray⟩ w hcells hbk (by simpa using hN) (by simpa using hcap) (by rw [key];simpa using hlen)
   rw [key] at this
   simp only [List.length_map] at this ⊢
   exact this.mono fun e w' ⟨h1,h2⟩=>fin e w' (by simpa using h1) h2

end Go.Vv
namespace Go.Vv
open Go Go.RowKit Go.Lib Go.Shelf
theorem spec_scompare {P:Program} {ρ:Ren} (L:Go.Proofs.Lays.n106 P ρ) {a b:List UInt8} {h:AH}:Spec P (ρ.f 106) [.str a,.str b] h fun rr hh=>rr=.int .i64 (Lib.compareBytes a b)∧hh=h:=by
 refine ⟨fun vs w=>Go.Proofs.enters_of L.f106 (by kernel_rfl) rfl vs w,fun B w0 _ g w vs r hv=>?_⟩
 obtain ⟨us,rfl⟩:∃ us:List Value,vs=us.toArray:=⟨vs.toList,by simp⟩
 simp only [VL,V] at hv
 obtain ⟨v1,s1,e1,⟨rfl,_⟩,v2,s2,rfl,⟨rfl,_⟩,rfl⟩:=hv
 subst e1
 refine (Go.Proofs.Any.strings_Compare L _ _ w).mono ?_
 rintro e w' ⟨rfl,rfl⟩
 exact ⟨_,_,h,g,rfl,⟨rfl,rfl⟩,Gh.le.refl g,r,by simp only [V]⟩
end Go.Vv
namespace Go.Vv
open Go
section
variable {K W:Type}
def x7 (eq:K→K→Bool) (d:W):List (K×W)→K→W
 | [],_=>d
 | e::r,k=>if eq k e.1 then e.2 else x7 eq d r k
def mhas (eq:K→K→Bool):List (K×W)→K→Bool
 | [],_=>false
 | e::r,k=>eq k e.1 || mhas eq r k
def midx (eq:K→K→Bool):List (K×W)→K→Nat
 | [],_=>0
 | e::r,k=>if eq k e.1 then 0 else midx eq r k+1
def mput (eq:K→K→Bool):List (K×W)→K→W→List (K×W)
 | [],k,v=>[(k,v)]
 | e::r,k,v=>if eq k e.1 then (e.1,v)::r else e::mput eq r k v
def ment (eq:K→K→Bool) (d:W) (m:List (K×W)) (k:K):List (K×W):=if mhas eq m k then m else m++[(k,d)]
def mrow (kv:K→AV) (vv:W→AV) (e:K×W):AV×AV:=(kv e.1,vv e.2)

theorem midx_lt {eq:K→K→Bool} {k:K}:∀ {m:List (K×W)},mhas eq m k=true→midx eq m k < m.length
 | [],h=>by simp [mhas] at h
 | e::r,h=>by
  simp only [mhas,midx,List.length_cons] at h ⊢
  by_cases hk:eq k e.1=true
  ·simp [hk]
  ·simp only [hk,Bool.false_or,if_false,Bool.false_eq_true] at h ⊢
   have:=midx_lt h;omega
theorem midx_eq {eq:K→K→Bool} {k:K}:∀ {m:List (K×W)},mhas eq m k=false→midx eq m k=m.length
 | [],h=>rfl
 | e::r,h=>by
  simp only [mhas,midx,List.length_cons,Bool.or_eq_false_iff] at h ⊢
  simp [h.1,midx_eq h.2]
theorem mput_has {eq:K→K→Bool} {k:K} {v:W}:∀ {m:List (K×W)} {e:K×W},mhas eq m k=true→m[midx eq m k]?=some e→m.set (midx eq m k) (e.1,v)=mput eq m k v
 | [],_,h,_=>by simp_all
 | p::r,e,h,he=>by
  simp only [mhas,midx,mput] at h he ⊢
  by_cases hk:eq k p.1=true
  ·simp_all
  ·simp only [hk,Bool.false_or,if_false,Bool.false_eq_true,List.getElem?_cons_succ] at h he ⊢
   rw [List.set_cons_succ,mput_has h he]
theorem mput_not {eq:K→K→Bool} {k:K} {v:W}:∀ {m:List (K×W)},mhas eq m k=false→m++[(k,v)]=mput eq m k v
 | [],_=>rfl
 | p::r,h=>by
  simp only [mhas,mput,Bool.or_eq_false_iff] at h ⊢
  simp [h.1,mput_not h.2]
def KQ (P:Program) (kt:TypeId) (kv:K→AV) (eq:K→K→Bool):Prop:=(∀ a b,xM P kt (kv a) (kv b)=some (eq a b))∧∀ a,eq a a=true
theorem KQ.str {P:Program} {t:TypeId} {z:Nat} (h:Ty P t .string z):KQ P t AV.str (fun a b=>a==b):=⟨fun a b=>by simp only [xM,h.u,aEq1],fun a=>by simp⟩
theorem KQ.int {P:Program} {t:TypeId} {i:IntKind} {z:Nat} (h:Ty P t (.int i) z):KQ P t (AV.int i) (fun a b=>a==b):=⟨fun a b=>by simp only [xM,h.u,aEq1,if_true],fun a=>by simp⟩
theorem KQ.struct {P:Program} {t:TypeId} {fs:Array Field} {ks:List Kd} {row:K→List AV} {eq:K→K→Bool} (hu:P.underlying t=some (.struct fs)) (hk:PK P t ks) (h:∀ a b,qa ks (row a) (row b)=some (eq a b)) (hr:∀ a,eq a a=true):KQ P t (fun x=>.agg (row x)) eq :=
 ⟨fun a b=>by simp only [xM,hu,hk.k,h],hr⟩

variable {P:Program} {kt et t:TypeId} {kv:K→AV} {vv:W→AV} {eq:K→K→Bool} {d:W}
theorem aFind_is (hq:KQ P kt kv eq) (d:W) (k:K):∀ (m:List (K×W)) (i:Nat),aFind P kt (kv k) (m.map (mrow kv vv)) i=some (if mhas eq m k then some (i+midx eq m k,vv (x7 eq d m k)) else none)
 | [],i=>rfl
 | e::r,i=>by
  have ih:=aFind_is hq d k r (i+1)
  simp only [List.map_cons,aFind]
  have e0:xM P kt (kv k) (mrow kv vv e).1=some (eq k e.1):=hq.1 _ _
  rw [e0]
  by_cases h:eq k e.1=true
  ·have e1:mhas eq (e::r) k=true:=by simp [mhas,h]
   have e2:midx eq (e::r) k=0:=by simp [midx,h]
   have e3:x7 eq d (e::r) k=e.2:=by simp [x7,h]
   rw [e1,e2,e3,h];rfl
  ·simp only [Bool.not_eq_true] at h
   have e1:mhas eq (e::r) k=mhas eq r k:=by simp [mhas,h]
   have e2:midx eq (e::r) k=midx eq r k+1:=by simp [midx,h]
   have e3:x7 eq d (e::r) k=x7 eq d r k:=by simp [x7,h]
   grind

variable {ops:Array Oper} {o:Oper} {env:List AV} {h:AH} {L:List Blk} {M:List Nat} {m:List (K×W)} {k:K} {j:Nat} {x y z:Operand}
theorem e_makeMap {n:Nat} (ho:o.op=.makeMap t none) (hn:L.length=n):zK P o env (h.ext L M)=.ok (.map (h.blks.length+n)) (h.ext (L++[.mapo [] 0]) M):=by
 simp only [zK,ho,ext_new,← hn];simp [AH.ext]
theorem e_lookup (ho:o.op=.lookup t x y false) (ht:P.underlying t=some (.map kt et)) (hq:KQ P kt kv eq) (hz:aZeroM P et=some (vv d)) (hx:yC env x=some (.map (h.blks.length+j))) (hj:L[j]?=some (.mapo (m.map (mrow kv vv)) 0)) (hy:yC env y=some (kv k)) :
  zK P o env (h.ext L M)=.ok (vv (x7 eq d m k)) (h.ext L M):=by
 obtain ⟨h1,h2⟩:=yk hx
 obtain ⟨h3,h4⟩:=yk hy
 simp only [zK,ho,h1,h2,h3,h4,ht,Bool.and_self,if_true,aLookup,hq.1,hq.2,xI,hj,aFind_is hq d k m 0,hz]
 cases hm:mhas eq m k with
 | true=>simp [withOk,oo]
 | false =>
  have:x7 eq d m k=d:=by
   clear hj
   induction m with
   | nil=>rfl
   | cons e r ih=>simp only [mhas,Bool.or_eq_false_iff] at hm;simp only [x7,hm.1,Bool.false_eq_true,if_false];exact ih hm.2
  simp [withOk,oo,this]
theorem e_entry {B:List Blk} (ho:o.op=.mapEntry t x y) (ht:P.underlying t=some (.map kt et)) (hq:KQ P kt kv eq) (hz:aZeroM P et=some (vv d)) (hx:yC env x=some (.map (h.blks.length+j))) (hj:L[j]?=some (.mapo (m.map (mrow kv vv)) 0)) (hy:yC env y=some (kv k))
  (hB:L.set j (.mapo ((ment eq d m k).map (mrow kv vv)) 0)=B):zK P o env (h.ext L M)=.ok (.tup [vv (x7 eq d m k),.int .i64 (midx eq m k)]) (h.ext B M):=by
 obtain ⟨h1,h2⟩:=yk hx
 obtain ⟨h3,h4⟩:=yk hy
 subst hB
 simp only [zK,ho,h1,h2,h3,h4,ht,Bool.and_self,if_true,aEntry,hq.1,hq.2,xI,hj,aFind_is hq d k m 0,hz,ment]
 cases hm:mhas eq m k with
 | true =>
  have:L.set j (.mapo (m.map (mrow kv vv)) 0)=L:=by
   apply List.ext_getElem?
   grind
  simp [ovh,this]
 | false =>
  have e1:x7 eq d m k=d:=by
   clear hj
   induction m with
   | nil=>rfl
   | cons e r ih=>simp only [mhas,Bool.or_eq_false_iff] at hm;simp only [x7,hm.1,Bool.false_eq_true,if_false];exact ih hm.2
  simp [ovh,e1,ext_put,mrow,midx_eq hm]
theorem e_entryStore {B:List Blk} {v:W} {i:Int} {kd:IntKind} (ho:o.op=.entryStore t x y z) (hx:yC env x=some (.map (h.blks.length+j))) (hj:L[j]?=some (.mapo ((ment eq d m k).map (mrow kv vv)) 0)) (hy:yC env y=some (.int kd i)) (hi:i=midx eq m k) {a:AV} (hz:yC env z=some a) (hzc:a.zcl=vv v)
  (hB:L.set j (.mapo ((mput eq m k v).map (mrow kv vv)) 0)=B):zK P o env (h.ext L M)=.ok za (h.ext B M):=by
 obtain ⟨h1,h2⟩:=yk hx
 obtain ⟨h3,h4⟩:=yk hy
 obtain ⟨h5,h6⟩:=yk hz
 subst hB hi
 have h0:(0:Int)≤(midx eq m k:Int):=by omega
 have key:∃ e,(ment eq d m k)[midx eq m k]?=some e∧(ment eq d m k).set (midx eq m k) (e.1,v)=mput eq m k v:=by
  unfold ment
  cases hm:mhas eq m k with
  | true =>
   have hl:=midx_lt hm
   exact ⟨m[midx eq m k],by simp [hl],by simpa using mput_has hm (List.getElem?_eq_getElem hl)⟩
  | false =>
   refine ⟨(k,d),by simp [midx_eq hm],?_⟩
   simp only [Bool.false_eq_true,if_false,midx_eq hm]
   rw [← mput_not hm];simp
 obtain ⟨e,he1,he2⟩:=key
 simp only [zK,ho,h1,h2,h3,h4,h5,h6,hzc,Bool.and_self,if_true,qO,xI,hj,h0,Int.toNat_natCast,List.getElem?_map,he1,Option.map_some,oh,ext_put,← he2,List.map_set]
 rfl
theorem ops_mlen {Q:List AV→AH→Prop} {rest:List Oper} {env':List AV} {c:Call} (hg:aG ops o env=some true) (ho:o.op=.call c) (hc:c.callee=.builtin .len) (ha:c.args=#[x]) (hty:c.argTypes=#[t]) (ht:P.underlying t=some (.map kt et))
  (hx:yC env x=some (.map (h.blks.length+j))) (hj:L[j]?=some (.mapo (m.map (mrow kv vv)) 0)) (hd:wF o.dst env (.int .i64 m.length)=some env') (hk:yn P ops Q rest env' (h.ext L M)):yn P ops Q (o::rest) env (h.ext L M):=by
 obtain ⟨h1,h2⟩:=yk hx
 have key:zK P o env (h.ext L M)=.any fun v h'=>h'=h.ext L M∧v=.int .i64 m.length:=by
  simp [zK,ho,hc,ha,hty,h1,h2,qP,ht,xI,hj]
 refine wZ ?_
 simp only [hg,gwp,key,rwp]
 rintro v h' ⟨rfl,rfl⟩
 rw [xF hd];exact hk

theorem mgetD_app {eq:K→K→Bool} {d:W} {k:K} (hr:eq k k=true):∀ {m:List (K×W)},x7 eq d (m++[(k,d)]) k=x7 eq d m k
 | []=>by simp [x7,hr]
 | e::r=>by simp [x7,mgetD_app hr]
theorem mgetD_ment {eq:K→K→Bool} {d:W} {k:K} (hr:eq k k=true) {m:List (K×W)}:x7 eq d (ment eq d m k) k=x7 eq d m k:=by
 unfold ment
 split
 ·rfl
 ·exact mgetD_app hr
def MapE (h:AH) (j:Nat) (m1 m2:List (AV×AV)) (x:AH):Prop:=∃ B T,x=h.ext B T∧(B[j]?=some (.mapo m1 0) ∨ B[j]?=some (.mapo m2 0))
theorem e_lookupF (ho:o.op=.lookup t x y false) (ht:P.underlying t=some (.map kt et)) (hq:KQ P kt kv eq) (hz:aZeroM P et=some (vv d)) (hx:yC env x=some (.map (h.blks.length+j))) (hy:yC env y=some (kv k)) :
  ∀ h2,MapE h j (m.map (mrow kv vv)) ((ment eq d m k).map (mrow kv vv)) h2→zK P o env h2=.ok (vv (x7 eq d m k)) h2:=by
 rintro _ ⟨B,T,rfl,hj | hj⟩
 ·exact e_lookup ho ht hq hz hx hj hy
 ·rw [← mgetD_ment (m:=m) (d:=d) (hq.2 k)]
  exact e_lookup ho ht hq hz hx hj hy
theorem FOk.skip {b:Nat} {Ns:List Nat} {F:Nat→AH→Prop} {h:AH} (hb:Ns.all (fun n=>b.testBit n)=true):FOk b Ns F h:=fun n hn hf=>by
 simp_all
end
end Go.Vv
namespace Go.Vv
open Go Go.RowKit
section
variable {α ρ σ:Type}
open Classical in
end
section
variable {P:Program} {env:List AV} {h:AH} {Q:Exit→List AV→AH→Prop}
theorem ops_entryM {K W:Type} {kv:K→AV} {vv:W→AV} {ops:Array Oper} {Q:List AV→AH→Prop} {o:Oper} {rest:List Oper} {env env':List AV} {h:AH} {L:List Blk} {M:List Nat} {x:Operand} {m:List (K×W)} {id j i:Nat} {y:K×W} {seen:List Nat}
  (hg:aG ops o env=some true) (ho:o.op=.entry x) (hx:yC env x=some (.ptr (h.blks.length+j) 0)) (hj:L[j]?=some (.miter id m.length (seen++[i]))) (hb:(h.ext L M).blk id=some (.mapo (m.map (mrow kv vv)) 0)) (hy:m[i]?=some y)
  (hd:wF o.dst env (.tup [kv y.1,vv y.2])=some env') (hk:yn P ops Q rest env' (h.ext L M)):yn P ops Q (o::rest) env (h.ext L M):=by
 obtain ⟨h1,h2⟩:=yk hx
 have key:q6 P o env (h.ext L M)=some [(.tup [kv y.1,vv y.2],h.ext L M)]:=by
  simp [q6,ho,h1,h2,xI,hj,hb,hy,mrow]
 refine awpOps_consB hg ⟨_,key,fun p hp=>?_⟩
 simp only [List.mem_singleton] at hp
 subst hp
 show yn P ops Q rest (setd env o.dst (.tup [kv y.1,vv y.2])) _
 rw [xF hd];exact hk
end
end Go.Vv
