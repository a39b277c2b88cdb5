/- Each kind of operation, as a rule. -/
import Derived.Test.YtehifcdoglcidaaGreatVvR
namespace Go.Vv
open Go

class Ty (P:Program) (t:TypeId) (d:outParam TypeDesc) (k:outParam Nat):Prop where
 u:P.underlying t=some d
 i:∃i,P.info? t=some i/\i.size=k
class Fo (P:Program) (t:TypeId) (f:Nat) (off:outParam Nat) (u:outParam TypeId) (k:outParam Nat):Prop where
 o:fieldOff P t f=some (off,u)
 i:∃i,P.info? u=some i/\i.size=k
class El (P:Program) (t:TypeId) (e:outParam TypeId) (k:outParam Nat):Prop where
 u:P.underlying t=some (.slice e)
 i:∃i,P.info? e=some i/\i.size=k/\i.bytes<=65536/\0 < k/\(i.zero.map (·.cells.size))=some k

def tyo:AV->Option AV
 | .nilsl=>none
 | .bool b=>some (.bool b)
 | .int k n=>some (.int k n)
 | .str s=>some (.str s)
 | .ptr i o=>some (.ptr i o)
 | .fptr c=>some (.fptr c)
 | .sl k e=>some (.sl k e)
 | .osl q k e=>some (.osl q k e)
 | .msl a b c d=>some (.msl a b c d)
 | .rsl a b c d=>some (.rsl a b c d)
 | .rptr a b c d e=>some (.rptr a b c d e)
 | .rsuf a b c d e=>some (.rsuf a b c d e)
 | .map i=>some (.map i)
 | .fn f a b=>some (.fn f a b)
 | .iface t v=>some (.iface t v)
 | .agg c=>some (.agg c)
 | .tup v=>some (.tup v)
 | .glob g=>some (.glob g)
 | .yld i=>some (.yld i)
 | .any=>some .any
 | .opq=>some .opq
 | .nilp=>some .nilp
 | .nilm=>some .nilm
 | .nilf=>some .nilf
 | .nili=>some .nili
theorem zb {P:Program} {t:TypeId} {v a:AV} (h:tyo v=some a):tyfix P t v=a:=by
 cases v <;> simp only [tyo] at h <;> first | (cases h;rfl) | cases h
theorem ty_nil {P:Program} {t e:TypeId} {k:Nat} (h:El P t e k):tyfix P t .nilsl=.osl none k []:=by
 obtain ⟨i,a,b,_⟩:=h.i;simp only [tyfix,h.u,Program.cellsOf,a];congr 1
section
variable {P:Program} {o:Oper} {env:List AV} {h:AH}

theorem s_move {x:Operand} {v v':AV} (ho:o.op=.move x) (hx:ye env x=some v) (ht:tyfix P o.type v=v'):zo P o env h=.ok v' h:=by
 obtain ⟨h1,h2⟩:=zD hx;simp only [zo,ho,h1,if_true,h2,ht]
theorem s_assign {x:Operand} {v a:AV} (b:o.op=.assign x) (e:ye env x=some v) (d:tyfix P o.type v=a):zo P o env h=.ok a h:=by
 obtain ⟨f,c⟩:=zD e;simp only [zo,b,f,if_true,c,d]
theorem s_pick {c a b:Operand} {t:Bool} {x y v:AV} (e:o.op=.pick c a b) (i:ye env c=some (.bool t)) (m:ye env a=some x) (g:ye env b=some y) (j:(if t then x else y)=v):zo P o env h=.ok v h:=by
 obtain ⟨n,f⟩:=zD i;obtain ⟨d,k⟩:=zD m;obtain ⟨l,p⟩:=zD g;simp only [zo,e,n,d,l,Bool.and_self,if_true,f,k,p,j]
theorem s_bin {op:BinOp} {t u:TypeId} {x y:Operand} {a b v:AV} (f:o.op=.binOp op t x y u) (i:ye env x=some a) (d:ye env y=some b) (c:yd P op t a b=some v):zo P o env h=.ok v h:=by
 obtain ⟨k,g⟩:=zD i;obtain ⟨e,j⟩:=zD d;simp only [zo,f,k,e,Bool.and_self,if_true,g,j,aNilq_none c,c,oo]
theorem s_un {op:UnOp} {t:TypeId} {x:Operand} {a v:AV} (b:o.op=.unOp op t x) (e:ye env x=some a) (d:aUn op a=some v):zo P o env h=.ok v h:=by
 obtain ⟨f,c⟩:=zD e;simp only [zo,b,f,if_true,c,d,oo]
theorem yK {s t:TypeId} {x:Operand} {a v:AV} {d b:TypeDesc} {k k':Nat} (c:o.op=.convert s t x) (hs:Ty P s d k) (f:Ty P t b k') (i:ye env x=some a) (g:aConvert b a=some v):zo P o env h=.ok v h:=by
 obtain ⟨j,e⟩:=zD i;simp only [zo,c,j,if_true,e,hs.u,f.u,g,oo]
theorem s_load {t:TypeId} {d:TypeDesc} {k:Nat} {x:Operand} {a v b:AV} (f:o.op=.load t x) (c:Ty P t d k) (l:ye env x=some a) (j:aLoad h (zS d) k a=some v) (m:tyfix P t v=b):zo P o env h=.ok b h:=by
 obtain ⟨p,g⟩:=zD l;obtain ⟨i,e,n⟩:=c.i;simp only [zo,f,c.u,e,n,g,j,Option.map_some,m,oo]
theorem s_store {t:TypeId} {d:TypeDesc} {k:Nat} {x y:Operand} {a b e:AV} {c:AH} (l:o.op=.store t x y) (m:Ty P t d k) (g:ye env x=some a) (r:ye env y=some b) (q:tyfix P t b=e) (f:aStore h k a e=some c) :
  zo P o env h=.ok aundef c:=by
 obtain ⟨v,s⟩:=zD g;obtain ⟨j,n⟩:=zD r;obtain ⟨i,p,u⟩:=m.i;simp only [zo,l,j,if_true,p,u,s,n,q,f,oh]
theorem s_alloc {t:TypeId} {cs:List AV} (a:o.op=.alloc t) (b:xk P t=some cs):zo P o env h=.ok (.ptr h.blks.length 0) (h.new (.cells cs)):=by
 simp only [zo,a,b]
theorem s_box {t:TypeId} {x:Operand} {a a':AV} {cs:List AV} (b:o.op=.box t x) (e:ye env x=some a) (f:tyfix P t a=a') (d:a'.cells?=some cs):zo P o env h=.ok (.ptr h.blks.length 0) (h.new (.cells cs)):=by
 obtain ⟨g,c⟩:=zD e;simp only [zo,b,g,if_true,c,f,d]
theorem s_nilCheck {x:Operand} {a v:AV} (c:o.op=.nilCheck x) (e:ye env x=some a) (b:(match a with | .ptr id p=>some (AV.ptr id p) | .fptr cs=>some (.fptr cs) | .fn (.func f) p q=>some (.fn (.func f) p q) | _=>none)=some v) :
  zo P o env h=.ok v h:=by
 obtain ⟨g,d⟩:=zD e;simp only [zo,c,g,if_true,d];split at b <;> first | (cases b;rfl) | cases b
theorem s_fieldAddr {t u:TypeId} {x:Operand} {f off k:Nat} {a v:AV} (d:o.op=.fieldAddr t x f) (b:Fo P t f off u (k+1)) (j:ye env x=some a) (g:vE off a=some v):zo P o env h=.ok v h:=by
 obtain ⟨m,e⟩:=zD j;obtain ⟨i,c,l⟩:=b.i;simp only [zo,d,b.o,c,l,m,e,g,oo];simp
theorem s_field {t u:TypeId} {x:Operand} {f off k k':Nat} {d:TypeDesc} {a v b:AV} (l:o.op=.field t x f) (c:Fo P t f off u k) (hd:Ty P u d k') (g:ye env x=some a) (e:aPart (zS d) off k a=some v) (m:tyfix P u v=b) :
  zo P o env h=.ok b h:=by
 obtain ⟨q,p⟩:=zD g;obtain ⟨i,j,n⟩:=c.i;simp only [zo,l,c.o,hd.u,j,n,q,if_true,p,e,Option.map_some,m,oo]
theorem s_indexAddr {t e:TypeId} {k:Nat} {x i:Operand} {a b v:AV} (l:o.op=.indexAddr t x i) (c:El P t e k) (f:ye env x=some a) (hi:ye env i=some b) (d:vD k a b=some v):zo P o env h=.ok v h:=by
 obtain ⟨r,p⟩:=zD f;obtain ⟨g,m⟩:=zD hi;obtain ⟨j,n,q,_⟩:=c.i;simp only [zo,l,r,g,Bool.and_self,if_true,p,m,c.u,n,q,d,oo]
theorem zR {t e:TypeId} {n k k':Nat} {d:TypeDesc} {x i:Operand} {a b v:AV} (l:o.op=.indexAddr t x i) (m:Ty P t (.array n e) k) (s:Ty P e d k') (f:ye env x=some a) (hi:ye env i=some b)
  (c:aIndexArr n k' a b=some v):zo P o env h=.ok v h:=by
 obtain ⟨y,r⟩:=zD f;obtain ⟨g,p⟩:=zD hi;obtain ⟨j,q,w⟩:=s.i;simp only [zo,l,y,g,Bool.and_self,if_true,r,p,m.u,q,w,c,oo]
theorem s_indexStr {t:TypeId} {k:Nat} {x i:Operand} {a b v:AV} (d:o.op=.index t x i) (g:Ty P t .string k) (j:ye env x=some a) (hi:ye env i=some b) (f:aIndexStr a b=some v):zo P o env h=.ok v h:=by
 obtain ⟨m,e⟩:=zD j;obtain ⟨c,l⟩:=zD hi;simp only [zo,d,m,c,Bool.and_self,if_true,e,l,g.u,f,oo]
theorem xZ {t e:TypeId} {n k k':Nat} {d:TypeDesc} {x i:Operand} {a b v c:AV} (p:o.op=.index t x i) (q:Ty P t (.array n e) k) (f:Ty P e d k') (l:ye env x=some a) (hi:ye env i=some b)
  (g:aIndexAgg (zS d) n k' a b=some v) (w:tyfix P e v=c):zo P o env h=.ok c h:=by
 obtain ⟨A,y⟩:=zD l;obtain ⟨m,r⟩:=zD hi;obtain ⟨j,s,z⟩:=f.i;simp only [zo,p,A,m,Bool.and_self,if_true,y,r,q.u,f.u,s,z,g,Option.map_some,w,oo]
theorem s_extract {t:Operand} {i:Nat} {vs:List AV} {v a:AV} (b:o.op=.extract t i) (e:ye env t=some (.tup vs)) (d:vs[i]?=some v) (f:tyfix P o.type v=a):zo P o env h=.ok a h:=by
 obtain ⟨g,c⟩:=zD e;simp only [zo,b,g,if_true,c,d,Option.map_some,f,oo]
theorem wg {f:Fn} {a b:Array Operand} {c bs:List AV} (p:o.op=.makeFunc f a b) (s:a.toList.mapM (ye env)=some c) (q:b.toList.mapM (ye env)=some bs):zo P o env h=.ok (.fn f c bs) h:=by
 have key:∀(l:List Operand) (c:List AV),l.mapM (ye env)=some c->l.all z7=true/\l.map (ev env)=c:=by
  intro l
  induction l with
  | nil=>intro c h;simp at h;subst h;exact ⟨rfl,rfl⟩
  | cons x r ih =>
   intro c h;simp only [List.mapM_cons,Option.bind_eq_bind,Option.bind_eq_some_iff,Option.pure_def,Option.some.injEq] at h;obtain ⟨v,n,vs,g,rfl⟩:=h;obtain ⟨m,i⟩:=zD n;obtain ⟨d,e⟩:=ih vs g;simp [m,i,d,e]
 obtain ⟨m,i⟩:=key _ _ s;obtain ⟨d,e⟩:=key _ _ q;have j:a.all z7=true:=by simpa using m
 have k:b.all z7=true:=by simpa using d
 simp only [zo,p,j,k,Bool.and_self,if_true,i,e]
def argo (env:List AV):List Operand->List TypeId->Option (List (TypeId×AV))
 | [],[]=>some []
 | x::r,t::ts=>match ye env x,argo env r ts with
  | some v,some vs=>some ((t,v)::vs)
  | _,_=>none
 | _,_=>none
def fixL (P:Program):List (TypeId×AV)->List AV
 | []=>[]
 | (t,v)::r=>tyfix P t v::fixL P r
theorem argo_ok:∀{xs:List Operand} {ts:List TypeId} {l:List (TypeId×AV)},argo env xs ts=some l->xs.all z7=true/\xs.length=ts.length/\(xs.zip ts).map (λp=>tyfix P p.2 (ev env p.1))=fixL P l
 | [],[],l,h=>by simp only [argo,Option.some.injEq] at h;subst h;exact ⟨rfl,rfl,rfl⟩
 | x::r,t::ts,l,h=>by
  simp only [argo] at h;split at h
  ·rename_i v vs d a;cases h;obtain ⟨e,c⟩:=zD d;obtain ⟨b,f,g⟩:=argo_ok a;refine ⟨by simp only [List.all_cons,e,b,Bool.and_self],by simp [f],?_⟩;simp only [List.zip_cons_cons,List.map_cons,g,c,fixL]
  ·cases h
 | [],_::_,_,h=>by simp [argo] at h
 | _::_,[],_,h=>by simp [argo] at h
theorem s_call {c:Call} {f:Operand} {g:FuncId} {l:List (TypeId×AV)} {first caps args:List AV} (e:o.op=.call c) (p:c.callee=.value f) (m:ye env f=some (.fn (.func g) first caps)) (i:argo env c.args.toList c.argTypes.toList=some l)
  (q:first++fixL P l++caps=args):zo P o env h=.call g args:=by
 obtain ⟨r,n⟩:=zD m;obtain ⟨d,j,k⟩:=argo_ok (P:=P) i;have b:c.args.all z7=true:=by simpa using d
 have a:(c.args.size==c.argTypes.size)=true:=by simpa using j
 simp only [zo,e,b,a,Bool.and_self,if_true,p,r,n,k,q];simp
theorem s_lenStr {c:Call} {x:Operand} {t:TypeId} {k:Nat} {s:List UInt8} (a:o.op=.call c) (e:c.callee=.builtin .len) (hs:c.args=#[x]) (f:c.argTypes=#[t]) (d:Ty P t .string k) (g:ye env x=some (.str s)) :
  zo P o env h=.len s.length (.int .i64 s.length) h:=by
 obtain ⟨i,b⟩:=zD g;simp [zo,a,hs,f,e,i,wY,d.u,b]
theorem ve {c:Call} {x:Operand} {t e:TypeId} {k n:Nat} {a:AV} (b:o.op=.call c) (i:c.callee=.builtin .len) (hs:c.args=#[x]) (j:c.argTypes=#[t]) (f:El P t e k) (l:ye env x=some a) (g:aLen a=some n) :
  zo P o env h=.len n (.int .i64 n) h:=by
 obtain ⟨m,d⟩:=zD l;simp [zo,b,hs,j,i,m,wY,f.u,d,g]
theorem s_append {c:Call} {x y:Operand} {t u e K:TypeId} {k k':Nat} {a b a' l v:AV} {g:List (List AV)} {j:AH} (r:o.op=.call c) (G:c.callee=.builtin .append) (hs:c.args=#[x,y]) (w:c.argTypes=#[t,u]) (f:El P t e k)
  (d:El P u K k') (p:ye env x=some a) (D:ye env y=some b) (I:tyfix P t a=a') (C:tyfix P u b=l) (m:aNews k l=some g) (n:qR h k a' g=some (v,j)):zo P o env h=.ok v j:=by
 obtain ⟨J,F⟩:=zD p;obtain ⟨q,z⟩:=zD D;obtain ⟨i,A,H,E,s,B⟩:=f.i;subst H;simp [zo,r,hs,w,G,J,q,wY,f.u,d.u,F,z,A,E,s,B,I,C,m,n,ovh]
theorem s_appendStr {c:Call} {x y:Operand} {t u e:TypeId} {k k':Nat} {a b a' l v:AV} {g:List (List AV)} {j:AH} (r:o.op=.call c) (G:c.callee=.builtin .append) (hs:c.args=#[x,y]) (w:c.argTypes=#[t,u]) (f:El P t e k)
  (d:Ty P u .string k') (p:ye env x=some a) (D:ye env y=some b) (I:tyfix P t a=a') (C:tyfix P u b=l) (m:aNews k l=some g) (n:qR h k a' g=some (v,j)):zo P o env h=.ok v j:=by
 obtain ⟨J,F⟩:=zD p;obtain ⟨q,z⟩:=zD D;obtain ⟨i,A,H,E,s,B⟩:=f.i;subst H;simp [zo,r,hs,w,G,J,q,wY,f.u,d.u,F,z,A,E,s,B,I,C,m,n,ovh]
theorem argo_ev:∀{xs:List Operand} {ts:List TypeId} {l:List (TypeId×AV)},argo env xs ts=some l->xs.all z7=true/\xs.length=ts.length/\xs.map (ev env)=l.map Prod.snd
 | [],[],l,h=>by simp only [argo,Option.some.injEq] at h;subst h;exact ⟨rfl,rfl,rfl⟩
 | x::r,t::ts,l,h=>by
  simp only [argo] at h;split at h
  ·rename_i v vs d a;cases h;obtain ⟨e,c⟩:=zD d;obtain ⟨b,f,g⟩:=argo_ev a;exact ⟨by simp only [List.all_cons,e,b,Bool.and_self],by simp [f],by simp only [List.map_cons,g,c]⟩
  ·cases h
 | [],_::_,_,h=>by simp [argo] at h
 | _::_,[],_,h=>by simp [argo] at h
theorem s_mm {c:Call} {x v:AV} {r:List AV} {l:List (TypeId×AV)} (mx:Bool) (e:o.op=.call c) (d:c.callee=.builtin (if mx then .max else .min)) (m:argo env c.args.toList c.argTypes.toList=some l) (g:l.map Prod.snd=x::r) (i:aMM mx x r=some v):zo P o env h=.ok v h:=by
 obtain ⟨k,j,f⟩:=argo_ev m;have a:c.args.all z7=true:=by simpa using k
 have b:(c.args.size==c.argTypes.size)=true:=by simpa using j
 cases mx
 ·simp only [Bool.false_eq_true,if_false] at d;simp only [zo,e,a,b,Bool.and_self,if_true,d,wY,f,g,i,oo]
 ·simp only [if_true] at d;simp only [zo,e,a,b,Bool.and_self,if_true,d,wY,f,g,i,oo]
end
end Go.Vv
