/- Each kind of operation, as a rule. -/
import Derived.Test.YtbaclapbinkedaaVvR
namespace Go.Vv
open Go

class Ty (P:Program) (t:TypeId) (d:outParam TypeDesc) (k:outParam Nat):Prop where
 u:P.underlying t=some d
 i:∃ i,P.info? t=some i∧i.size=k
class Fo (P:Program) (t:TypeId) (f:Nat) (off:outParam Nat) (u:outParam TypeId) (k:outParam Nat):Prop where
 o:fieldOff P t f=some (off,u)
 i:∃ i,P.info? u=some i∧i.size=k
class El (P:Program) (t:TypeId) (e:outParam TypeId) (k:outParam Nat):Prop where
 u:P.underlying t=some (.slice e)
 i:∃ i,P.info? e=some i∧i.size=k∧i.bytes≤65536∧0 < k∧(i.zero.map (·.cells.size))=some k

def tyo:AV→Option AV
 | .nilsl=>none
 | .bool b=>some (.bool b)
 | .int k n=>some (.int k n)
 | .str s=>some (.str s)
 | .ptr i o=>some (.ptr i o)
 | .fptr c=>some (.fptr c)
 | .sl k e=>some (.sl k e)
 | .osl q k e=>some (.osl q k e)
 | .msl a b c d=>some (.msl a b c d)
 | .rsl a b c d=>some (.rsl a b c d)
 | .rptr a b c d e=>some (.rptr a b c d e)
 | .rsuf a b c d e=>some (.rsuf a b c d e)
 | .map i=>some (.map i)
 | .fn f a b=>some (.fn f a b)
 | .iface t v=>some (.iface t v)
 | .agg c=>some (.agg c)
 | .tup v=>some (.tup v)
 | .glob g=>some (.glob g)
 | .yld i=>some (.yld i)
 | .bsl k e=>some (.bsl k e)
 | .nsl k e=>some (.nsl k e)
 | .gsl k n=>some (.gsl k n)
 | .gptr m=>some (.gptr m)
 | .any=>some .any
 | .opq=>some .opq
 | .nilp=>some .nilp
 | .nilm=>some .nilm
 | .nilf=>some .nilf
 | .nili=>some .nili
theorem zb {P:Program} {t:TypeId} {v v':AV} (h:tyo v=some v'):tyfix P t v=v':=by
 cases v <;> simp only [tyo] at h <;> first | (cases h;rfl) | cases h
theorem xk {P:Program} {t e:TypeId} {k:Nat} (h:El P t e k):tyfix P t .nilsl=.osl none k []:=by
 obtain ⟨i,h1,h2,_⟩:=h.i
 simp only [tyfix,h.u,Program.cellsOf,h1]
 congr 1
section
variable {P:Program} {o:Oper} {env:List AV} {h:AH}

theorem ze {x:Operand} {v v':AV} (ho:o.op=.move x) (hx:yZ env x=some v) (ht:tyfix P o.type v=v'):zN P o env h=.ok v' h:=by
 obtain ⟨h1,h2⟩:=yu hx
 simp only [zN,ho,h1,if_true,h2,ht]
theorem zi {x:Operand} {v v':AV} (ho:o.op=.assign x) (hx:yZ env x=some v) (ht:tyfix P o.type v=v'):zN P o env h=.ok v' h:=by
 obtain ⟨h1,h2⟩:=yu hx
 simp only [zN,ho,h1,if_true,h2,ht]
theorem zM {c a b:Operand} {t:Bool} {x y v:AV} (ho:o.op=.pick c a b) (hc:yZ env c=some (.bool t)) (ha:yZ env a=some x) (hb:yZ env b=some y) (hv:(if t then x else y)=v):zN P o env h=.ok v h:=by
 obtain ⟨h1,h2⟩:=yu hc
 obtain ⟨h3,h4⟩:=yu ha
 obtain ⟨h5,h6⟩:=yu hb
 simp only [zN,ho,h1,h3,h5,Bool.and_self,if_true,h2,h4,h6,hv]
theorem zr {op:BinOp} {t u:TypeId} {x y:Operand} {a b v:AV} (ho:o.op=.binOp op t x y u) (hx:yZ env x=some a) (hy:yZ env y=some b) (hv:aBin P op t a b=some v):zN P o env h=.ok v h:=by
 obtain ⟨h1,h2⟩:=yu hx
 obtain ⟨h3,h4⟩:=yu hy
 simp only [zN,ho,h1,h3,Bool.and_self,if_true,h2,h4,aNilq_none hv,hv,oo]
theorem qm {op:UnOp} {t:TypeId} {x:Operand} {a v:AV} (ho:o.op=.unOp op t x) (hx:yZ env x=some a) (hv:aUn op a=some v):zN P o env h=.ok v h:=by
 obtain ⟨h1,h2⟩:=yu hx
 simp only [zN,ho,h1,if_true,h2,hv,oo]
theorem y6 {s t:TypeId} {x:Operand} {a v:AV} {d d':TypeDesc} {k k':Nat} (ho:o.op=.convert s t x) (hs:Ty P s d k) (ht:Ty P t d' k') (hx:yZ env x=some a) (hv:aConvert d' a=some v):zN P o env h=.ok v h:=by
 obtain ⟨h1,h2⟩:=yu hx
 simp only [zN,ho,h1,if_true,h2,hs.u,ht.u,hv,oo]
theorem s_load {t:TypeId} {d:TypeDesc} {k:Nat} {x:Operand} {a v v':AV} (ho:o.op=.load t x) (ht:Ty P t d k) (hx:yZ env x=some a) (hv:aLoad h (yI d) k a=some v) (hf:tyfix P t v=v'):zN P o env h=.ok v' h:=by
 obtain ⟨h1,h2⟩:=yu hx
 obtain ⟨i,h3,h4⟩:=ht.i
 simp only [zN,ho,ht.u,h3,h4,h2,hv,Option.map_some,hf,oo]
theorem s_store {t:TypeId} {d:TypeDesc} {k:Nat} {x y:Operand} {a b b':AV} {h':AH} (ho:o.op=.store t x y) (ht:Ty P t d k) (hx:yZ env x=some a) (hy:yZ env y=some b) (hf:tyfix P t b=b') (hv:aStore h k a b'=some h') :
  zN P o env h=.ok za h':=by
 obtain ⟨h1,h2⟩:=yu hx
 obtain ⟨h3,h4⟩:=yu hy
 obtain ⟨i,h5,h6⟩:=ht.i
 simp only [zN,ho,h3,if_true,h5,h6,h2,h4,hf,hv,oh]
theorem s_alloc {t:TypeId} {cs:List AV} (ho:o.op=.alloc t) (hz:wy P t=some cs):zN P o env h=.ok (.ptr h.blks.length 0) (h.new (.cells cs)):=by
 simp only [zN,ho,hz]
theorem s_box {t:TypeId} {x:Operand} {a a':AV} {cs:List AV} (ho:o.op=.box t x) (hx:yZ env x=some a) (hf:tyfix P t a=a') (hc:a'.cells?=some cs):zN P o env h=.ok (.ptr h.blks.length 0) (h.new (.cells cs)):=by
 obtain ⟨h1,h2⟩:=yu hx
 simp only [zN,ho,h1,if_true,h2,hf,hc]
theorem zk {t u:TypeId} {x:Operand} {f off k:Nat} {a v:AV} (ho:o.op=.fieldAddr t x f) (hf:Fo P t f off u (k+1)) (hx:yZ env x=some a) (hv:aFieldAddr off a=some v):zN P o env h=.ok v h:=by
 obtain ⟨h1,h2⟩:=yu hx
 obtain ⟨i,h3,h4⟩:=hf.i
 simp only [zN,ho,hf.o,h3,h4,h1,h2,hv,oo]
 simp
theorem s_indexAddr {t e:TypeId} {k:Nat} {x i:Operand} {a b v:AV} (ho:o.op=.indexAddr t x i) (ht:El P t e k) (hx:yZ env x=some a) (hi:yZ env i=some b) (hv:aIndexAddr k a b=some v):zN P o env h=.ok v h:=by
 obtain ⟨h1,h2⟩:=yu hx
 obtain ⟨h3,h4⟩:=yu hi
 obtain ⟨j,h5,h6,_⟩:=ht.i
 simp only [zN,ho,h1,h3,Bool.and_self,if_true,h2,h4,ht.u,h5,h6,hv,oo]
theorem s_indexStr {t:TypeId} {k:Nat} {x i:Operand} {a b v:AV} (ho:o.op=.index t x i) (ht:Ty P t .string k) (hx:yZ env x=some a) (hi:yZ env i=some b) (hv:aIndexStr a b=some v):zN P o env h=.ok v h:=by
 obtain ⟨h1,h2⟩:=yu hx
 obtain ⟨h3,h4⟩:=yu hi
 simp only [zN,ho,h1,h3,Bool.and_self,if_true,h2,h4,ht.u,hv,oo]
theorem vb {t:Operand} {i:Nat} {vs:List AV} {v v':AV} (ho:o.op=.extract t i) (hx:yZ env t=some (.tup vs)) (hv:vs[i]?=some v) (hf:tyfix P o.type v=v'):zN P o env h=.ok v' h:=by
 obtain ⟨h1,h2⟩:=yu hx
 simp only [zN,ho,h1,if_true,h2,hv,Option.map_some,hf,oo]
theorem s_makeFunc {f:Fn} {a b:Array Operand} {as bs:List AV} (ho:o.op=.makeFunc f a b) (ha:a.toList.mapM (yZ env)=some as) (hb:b.toList.mapM (yZ env)=some bs):zN P o env h=.ok (.fn f as bs) h:=by
 have key:∀ (l:List Operand) (as:List AV),l.mapM (yZ env)=some as→l.all yF=true∧l.map (ev env)=as:=by
  intro l
  induction l with
  | nil=>intro as h;simp at h;subst h;exact ⟨rfl,rfl⟩
  | cons x r ih =>
   intro as h
   simp only [List.mapM_cons,Option.bind_eq_bind,Option.bind_eq_some_iff,Option.pure_def,Option.some.injEq] at h
   obtain ⟨v,hv,vs,hvs,rfl⟩:=h
   obtain ⟨h1,h2⟩:=yu hv
   obtain ⟨h3,h4⟩:=ih vs hvs
   simp [h1,h2,h3,h4]
 obtain ⟨h1,h2⟩:=key _ _ ha
 obtain ⟨h3,h4⟩:=key _ _ hb
 have h1':a.all yF=true:=by simpa using h1
 have h3':b.all yF=true:=by simpa using h3
 simp only [zN,ho,h1',h3',Bool.and_self,if_true,h2,h4]
def argo (env:List AV):List Operand→List TypeId→Option (List (TypeId×AV))
 | [],[]=>some []
 | x::r,t::ts=>match yZ env x,argo env r ts with
  | some v,some vs=>some ((t,v)::vs)
  | _,_=>none
 | _,_=>none
def fixL (P:Program):List (TypeId×AV)→List AV
 | []=>[]
 | (t,v)::r=>tyfix P t v::fixL P r
theorem argo_ok:∀ {xs:List Operand} {ts:List TypeId} {l:List (TypeId×AV)},argo env xs ts=some l→xs.all yF=true∧xs.length=ts.length∧(xs.zip ts).map (fun p=>tyfix P p.2 (ev env p.1))=fixL P l
 | [],[],l,h=>by simp only [argo,Option.some.injEq] at h;subst h;exact ⟨rfl,rfl,rfl⟩
 | x::r,t::ts,l,h=>by
  simp only [argo] at h
  split at h
  ·rename_i v vs hv hvs
   cases h
   obtain ⟨h1,h2⟩:=yu hv
   obtain ⟨h3,h4,h5⟩:=argo_ok hvs
   refine ⟨by simp only [List.all_cons,h1,h3,Bool.and_self],by simp [h4],?_⟩
   simp only [List.zip_cons_cons,List.map_cons,h5,h2,fixL]
  ·cases h
 | [],_::_,_,h=>by simp [argo] at h
 | _::_,[],_,h=>by simp [argo] at h
theorem s_call {c:Call} {f:Operand} {g:FuncId} {l:List (TypeId×AV)} {first caps args:List AV} (ho:o.op=.call c) (hc:c.callee=.value f) (hf:yZ env f=some (.fn (.func g) first caps)) (hl:argo env c.args.toList c.argTypes.toList=some l)
  (ha:first++fixL P l++caps=args):zN P o env h=.call g args:=by
 obtain ⟨h1,h2⟩:=yu hf
 obtain ⟨h3,h4,h5⟩:=argo_ok (P:=P) hl
 have h3':c.args.all yF=true:=by simpa using h3
 have h4':(c.args.size==c.argTypes.size)=true:=by simpa using h4
 simp only [zN,ho,h3',h4',Bool.and_self,if_true,hc,h1,h2,h5,ha]
 simp
theorem wJ {c:Call} {x:Operand} {t:TypeId} {k:Nat} {s:List UInt8} (ho:o.op=.call c) (hc:c.callee=.builtin .len) (hs:c.args=#[x]) (ht:c.argTypes=#[t]) (hu:Ty P t .string k) (hx:yZ env x=some (.str s)) :
  zN P o env h=.len s.length (.int .i64 s.length) h:=by
 obtain ⟨h1,h2⟩:=yu hx
 simp [zN,ho,hs,ht,hc,h1,qh,hu.u,h2]
theorem zX {c:Call} {x:Operand} {t e:TypeId} {k n:Nat} {a:AV} (ho:o.op=.call c) (hc:c.callee=.builtin .len) (hs:c.args=#[x]) (ht:c.argTypes=#[t]) (hu:El P t e k) (hx:yZ env x=some a) (hn:aLen a=some n) :
  zN P o env h=.len n (.int .i64 n) h:=by
 obtain ⟨h1,h2⟩:=yu hx
 simp [zN,ho,hs,ht,hc,h1,qh,hu.u,h2,hn]
theorem s_append {c:Call} {x y:Operand} {t u e e':TypeId} {k k':Nat} {a b a' b' v:AV} {ys:List (List AV)} {h':AH} (ho:o.op=.call c) (hc:c.callee=.builtin .append) (hs:c.args=#[x,y]) (ht:c.argTypes=#[t,u]) (hu:El P t e k)
  (hu':El P u e' k') (hx:yZ env x=some a) (hy:yZ env y=some b) (ha:tyfix P t a=a') (hb:tyfix P u b=b') (hn:qw k b'=some ys) (hv:aAppend h k a' ys=some (v,h')):zN P o env h=.ok v h':=by
 obtain ⟨h1,h2⟩:=yu hx
 obtain ⟨h3,h4⟩:=yu hy
 obtain ⟨i,h5,h6,h7,h8,h9⟩:=hu.i
 subst h6
 simp [zN,ho,hs,ht,hc,h1,h3,qh,hu.u,hu'.u,h2,h4,h5,h7,h8,h9,ha,hb,hn,hv,ovh]
theorem s_appendStr {c:Call} {x y:Operand} {t u e:TypeId} {k k':Nat} {a b a' b' v:AV} {ys:List (List AV)} {h':AH} (ho:o.op=.call c) (hc:c.callee=.builtin .append) (hs:c.args=#[x,y]) (ht:c.argTypes=#[t,u]) (hu:El P t e k)
  (hu':Ty P u .string k') (hx:yZ env x=some a) (hy:yZ env y=some b) (ha:tyfix P t a=a') (hb:tyfix P u b=b') (hn:qw k b'=some ys) (hv:aAppend h k a' ys=some (v,h')):zN P o env h=.ok v h':=by
 obtain ⟨h1,h2⟩:=yu hx
 obtain ⟨h3,h4⟩:=yu hy
 obtain ⟨i,h5,h6,h7,h8,h9⟩:=hu.i
 subst h6
 simp [zN,ho,hs,ht,hc,h1,h3,qh,hu.u,hu'.u,h2,h4,h5,h7,h8,h9,ha,hb,hn,hv,ovh]
theorem argo_ev:∀ {xs:List Operand} {ts:List TypeId} {l:List (TypeId×AV)},argo env xs ts=some l→xs.all yF=true∧xs.length=ts.length∧xs.map (ev env)=l.map Prod.snd
 | [],[],l,h=>by simp only [argo,Option.some.injEq] at h;subst h;exact ⟨rfl,rfl,rfl⟩
 | x::r,t::ts,l,h=>by
  simp only [argo] at h
  split at h
  ·rename_i v vs hv hvs
   cases h
   obtain ⟨h1,h2⟩:=yu hv
   obtain ⟨h3,h4,h5⟩:=argo_ev hvs
   exact ⟨by simp only [List.all_cons,h1,h3,Bool.and_self],by simp [h4],by simp only [List.map_cons,h5,h2]⟩
  ·cases h
 | [],_::_,_,h=>by simp [argo] at h
 | _::_,[],_,h=>by simp [argo] at h
theorem s_mm {c:Call} {x v:AV} {r:List AV} {l:List (TypeId×AV)} (mx:Bool) (ho:o.op=.call c) (hc:c.callee=.builtin (if mx then .max else .min)) (ha:argo env c.args.toList c.argTypes.toList=some l) (hr:l.map Prod.snd=x::r) (hv:aMM mx x r=some v):zN P o env h=.ok v h:=by
 obtain ⟨h1,h3,h2⟩:=argo_ev ha
 have h1':c.args.all yF=true:=by simpa using h1
 have h3':(c.args.size==c.argTypes.size)=true:=by simpa using h3
 cases mx
 ·simp only [Bool.false_eq_true,if_false] at hc
  simp only [zN,ho,h1',h3',Bool.and_self,if_true,hc,qh,h2,hr,hv,oo]
 ·simp only [if_true] at hc
  simp only [zN,ho,h1',h3',Bool.and_self,if_true,hc,qh,h2,hr,hv,oo]
end
end Go.Vv
