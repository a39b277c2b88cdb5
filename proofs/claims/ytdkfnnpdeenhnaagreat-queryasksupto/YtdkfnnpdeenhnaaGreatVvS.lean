/- Each kind of operation, as a rule. -/
import Derived.Test.YtdkfnnpdeenhnaaGreatVvR
namespace Go.Vv
open Go

class Ty (P:Program) (t:TypeId) (d:outParam TypeDesc) (k:outParam Nat):Prop where
 u:P.underlying t=some d
 i:∃i,P.info? t=some i/\i.size=k
class Fo (P:Program) (t:TypeId) (f:Nat) (off:outParam Nat) (u:outParam TypeId) (k:outParam Nat):Prop where
 o:vH P t f=some (off,u)
 i:∃i,P.info? u=some i/\i.size=k
class El (P:Program) (t:TypeId) (e:outParam TypeId) (k:outParam Nat):Prop where
 u:P.underlying t=some (.slice e)
 i:∃i,P.info? e=some i/\i.size=k/\i.bytes<=65536/\0 < k/\(i.zero.map (·.cells.size))=some k

def tyo:AV->Option AV
 | .nilsl=>none
 | .bool b=>some (.bool b)
 | .int k n=>some (.int k n)
 | .str s=>some (.str s)
 | .ptr i o=>some (.ptr i o)
 | .fptr c=>some (.fptr c)
 | .sl k e=>some (.sl k e)
 | .osl q k e=>some (.osl q k e)
 | .msl a b c d=>some (.msl a b c d)
 | .rsl a b c d=>some (.rsl a b c d)
 | .rptr a b c d e=>some (.rptr a b c d e)
 | .rsuf a b c d e=>some (.rsuf a b c d e)
 | .map i=>some (.map i)
 | .fn f a b=>some (.fn f a b)
 | .iface t v=>some (.iface t v)
 | .agg c=>some (.agg c)
 | .tup v=>some (.tup v)
 | .glob g=>some (.glob g)
 | .yld i=>some (.yld i)
 | .any=>some .any
 | .opq=>some .opq
 | .nilp=>some .nilp
 | .nilm=>some .nilm
 | .nilf=>some .nilf
 | .nili=>some .nili
theorem zb {P:Program} {t:TypeId} {v v':AV} (h:tyo v=some v'):tyfix P t v=v':=by
 cases v <;> simp only [tyo] at h <;> first | (cases h;rfl) | cases h
theorem ty_nil {P:Program} {t e:TypeId} {k:Nat} (h:El P t e k):tyfix P t .nilsl=.osl none k []:=by
 obtain ⟨i,a,b,_⟩:=h.i;simp only [tyfix,h.u,Program.cellsOf,a];congr 1
section
variable {P:Program} {o:Oper} {env:List AV} {h:AH}

theorem zV {x:Operand} {v v':AV} (ho:o.op=.move x) (hx:zU env x=some v) (ht:tyfix P o.type v=v'):zn P o env h=.ok v' h:=by
 obtain ⟨h1,h2⟩:=zw hx;simp only [zn,ho,h1,if_true,h2,ht]
theorem zS {x:Operand} {v v':AV} (c:o.op=.assign x) (e:zU env x=some v) (a:tyfix P o.type v=v'):zn P o env h=.ok v' h:=by
 obtain ⟨b,d⟩:=zw e;simp only [zn,c,b,if_true,d,a]
theorem s_pick {c a b:Operand} {t:Bool} {x y v:AV} (i:o.op=.pick c a b) (n:zU env c=some (.bool t)) (l:zU env a=some x) (j:zU env b=some y) (d:(if t then x else y)=v):zn P o env h=.ok v h:=by
 obtain ⟨f,m⟩:=zw n;obtain ⟨e,p⟩:=zw l;obtain ⟨g,k⟩:=zw j;simp only [zn,i,f,e,g,Bool.and_self,if_true,m,p,k,d]
theorem wT {op:BinOp} {t u:TypeId} {x y:Operand} {a b v:AV} (f:o.op=.binOp op t x y u) (k:zU env x=some a) (g:zU env y=some b) (c:zR P op t a b=some v):zn P o env h=.ok v h:=by
 obtain ⟨e,i⟩:=zw k;obtain ⟨d,j⟩:=zw g;simp only [zn,f,e,d,Bool.and_self,if_true,i,j,aNilq_none c,c,oo]
theorem s_un {op:UnOp} {t:TypeId} {x:Operand} {a v:AV} (d:o.op=.unOp op t x) (f:zU env x=some a) (b:aUn op a=some v):zn P o env h=.ok v h:=by
 obtain ⟨c,e⟩:=zw f;simp only [zn,d,c,if_true,e,b,oo]
theorem s_load {t:TypeId} {d:TypeDesc} {k:Nat} {x:Operand} {a v v':AV} (g:o.op=.load t x) (b:Ty P t d k) (m:zU env x=some a) (c:qG h (zK d) k a=some v) (e:tyfix P t v=v'):zn P o env h=.ok v' h:=by
 obtain ⟨n,j⟩:=zw m;obtain ⟨i,f,l⟩:=b.i;simp only [zn,g,b.u,f,l,j,c,Option.map_some,e,oo]
theorem s_store {t:TypeId} {d:TypeDesc} {k:Nat} {x y:Operand} {a b c:AV} {e:AH} (u:o.op=.store t x y) (s:Ty P t d k) (r:zU env x=some a) (m:zU env y=some b) (j:tyfix P t b=c) (g:aStore h k a c=some e) :
  zn P o env h=.ok aundef e:=by
 obtain ⟨v,p⟩:=zw r;obtain ⟨f,q⟩:=zw m;obtain ⟨i,l,n⟩:=s.i;simp only [zn,u,f,if_true,l,n,p,q,j,g,oh]
theorem s_alloc {t:TypeId} {cs:List AV} (b:o.op=.alloc t) (a:xc P t=some cs):zn P o env h=.ok (.ptr h.blks.length 0) (h.new (.cells cs)):=by
 simp only [zn,b,a]
theorem s_box {t:TypeId} {x:Operand} {a a':AV} {cs:List AV} (d:o.op=.box t x) (g:zU env x=some a) (b:tyfix P t a=a') (f:a'.cells?=some cs):zn P o env h=.ok (.ptr h.blks.length 0) (h.new (.cells cs)):=by
 obtain ⟨c,e⟩:=zw g;simp only [zn,d,c,if_true,e,b,f]
theorem s_nilCheck {x:Operand} {a v:AV} (d:o.op=.nilCheck x) (g:zU env x=some a) (b:(match a with | .ptr id p=>some (AV.ptr id p) | .fptr cs=>some (.fptr cs) | .fn (.func f) p q=>some (.fn (.func f) p q) | _=>none)=some v) :
  zn P o env h=.ok v h:=by
 obtain ⟨c,e⟩:=zw g;simp only [zn,d,c,if_true,e];split at b <;> first | (cases b;rfl) | cases b
theorem s_fieldAddr {t u:TypeId} {x:Operand} {f off k:Nat} {a v:AV} (g:o.op=.fieldAddr t x f) (b:Fo P t f off u (k+1)) (m:zU env x=some a) (c:wB off a=some v):zn P o env h=.ok v h:=by
 obtain ⟨e,j⟩:=zw m;obtain ⟨i,d,l⟩:=b.i;simp only [zn,g,b.o,d,l,e,j,c,oo];simp
theorem s_field {t u:TypeId} {x:Operand} {f off k c:Nat} {d:TypeDesc} {a v v':AV} (q:o.op=.field t x f) (b:Fo P t f off u k) (hd:Ty P u d c) (m:zU env x=some a) (g:aPart (zK d) off k a=some v) (n:tyfix P u v=v') :
  zn P o env h=.ok v' h:=by
 obtain ⟨p,j⟩:=zw m;obtain ⟨i,e,l⟩:=b.i;simp only [zn,q,b.o,hd.u,e,l,p,if_true,j,g,Option.map_some,n,oo]
theorem s_indexAddr {t e:TypeId} {k:Nat} {x i:Operand} {a b v:AV} (r:o.op=.indexAddr t x i) (c:El P t e k) (p:zU env x=some a) (hi:zU env i=some b) (f:wA k a b=some v):zn P o env h=.ok v h:=by
 obtain ⟨q,m⟩:=zw p;obtain ⟨d,n⟩:=zw hi;obtain ⟨j,g,l,_⟩:=c.i;simp only [zn,r,q,d,Bool.and_self,if_true,m,n,c.u,g,l,f,oo]
theorem s_indexStr {t:TypeId} {k:Nat} {x i:Operand} {a b v:AV} (g:o.op=.index t x i) (c:Ty P t .string k) (m:zU env x=some a) (hi:zU env i=some b) (d:aIndexStr a b=some v):zn P o env h=.ok v h:=by
 obtain ⟨f,j⟩:=zw m;obtain ⟨e,l⟩:=zw hi;simp only [zn,g,f,e,Bool.and_self,if_true,j,l,c.u,d,oo]
theorem yQ {t:Operand} {i:Nat} {vs:List AV} {v v':AV} (d:o.op=.extract t i) (f:zU env t=some (.tup vs)) (a:vs[i]?=some v) (b:tyfix P o.type v=v'):zn P o env h=.ok v' h:=by
 obtain ⟨c,e⟩:=zw f;simp only [zn,d,c,if_true,e,a,Option.map_some,b,oo]
theorem xV {f:Fn} {a b:Array Operand} {c n:List AV} (t:o.op=.makeFunc f a b) (q:a.toList.mapM (zU env)=some c) (p:b.toList.mapM (zU env)=some n):zn P o env h=.ok (.fn f c n) h:=by
 have key:∀(l:List Operand) (c:List AV),l.mapM (zU env)=some c->l.all zO=true/\l.map (ev env)=c:=by
  intro l
  induction l with
  | nil=>intro c h;simp at h;subst h;exact ⟨rfl,rfl⟩
  | cons x r ih =>
   intro c h;simp only [List.mapM_cons,Option.bind_eq_bind,Option.bind_eq_some_iff,Option.pure_def,Option.some.injEq] at h;obtain ⟨v,s,vs,j,rfl⟩:=h;obtain ⟨k,g⟩:=zw s;obtain ⟨e,i⟩:=ih vs j;simp [k,g,e,i]
 obtain ⟨k,g⟩:=key _ _ q;obtain ⟨e,i⟩:=key _ _ p;have d:a.all zO=true:=by simpa using k
 have m:b.all zO=true:=by simpa using e
 simp only [zn,t,d,m,Bool.and_self,if_true,g,i]
def argo (env:List AV):List Operand->List TypeId->Option (List (TypeId×AV))
 | [],[]=>some []
 | x::r,t::ts=>match zU env x,argo env r ts with
  | some v,some vs=>some ((t,v)::vs)
  | _,_=>none
 | _,_=>none
def fixL (P:Program):List (TypeId×AV)->List AV
 | []=>[]
 | (t,v)::r=>tyfix P t v::fixL P r
theorem argo_ok:∀{xs:List Operand} {ts:List TypeId} {l:List (TypeId×AV)},argo env xs ts=some l->xs.all zO=true/\xs.length=ts.length/\(xs.zip ts).map (λp=>tyfix P p.2 (ev env p.1))=fixL P l
 | [],[],l,h=>by simp only [argo,Option.some.injEq] at h;subst h;exact ⟨rfl,rfl,rfl⟩
 | x::r,t::ts,l,h=>by
  simp only [argo] at h;split at h
  ·rename_i v vs b a;cases h;obtain ⟨c,e⟩:=zw b;obtain ⟨g,f,d⟩:=argo_ok a;refine ⟨by simp only [List.all_cons,c,g,Bool.and_self],by simp [f],?_⟩;simp only [List.zip_cons_cons,List.map_cons,d,e,fixL]
  ·cases h
 | [],_::_,_,h=>by simp [argo] at h
 | _::_,[],_,h=>by simp [argo] at h
theorem s_call {c:Call} {f:Operand} {g:FuncId} {l:List (TypeId×AV)} {first a args:List AV} (r:o.op=.call c) (s:c.callee=.value f) (j:zU env f=some (.fn (.func g) first a)) (p:argo env c.args.toList c.argTypes.toList=some l)
  (e:first++fixL P l++a=args):zn P o env h=.call g args:=by
 obtain ⟨q,m⟩:=zw j;obtain ⟨i,n,k⟩:=argo_ok (P:=P) p;have d:c.args.all zO=true:=by simpa using i
 have b:(c.args.size==c.argTypes.size)=true:=by simpa using n
 simp only [zn,r,d,b,Bool.and_self,if_true,s,q,m,k,e];simp
theorem s_lenStr {c:Call} {x:Operand} {t:TypeId} {k:Nat} {s:List UInt8} (d:o.op=.call c) (g:c.callee=.builtin .len) (hs:c.args=#[x]) (a:c.argTypes=#[t]) (e:Ty P t .string k) (i:zU env x=some (.str s)) :
  zn P o env h=.len s.length (.int .i64 s.length) h:=by
 obtain ⟨b,f⟩:=zw i;simp [zn,d,hs,a,g,b,vO,e.u,f]
theorem qK {c:Call} {x:Operand} {t e:TypeId} {k n:Nat} {a:AV} (f:o.op=.call c) (j:c.callee=.builtin .len) (hs:c.args=#[x]) (b:c.argTypes=#[t]) (g:El P t e k) (l:zU env x=some a) (m:aLen a=some n) :
  zn P o env h=.len n (.int .i64 n) h:=by
 obtain ⟨d,i⟩:=zw l;simp [zn,f,hs,b,j,d,vO,g.u,i,m]
theorem s_append {c:Call} {x y:Operand} {t u e m:TypeId} {k q:Nat} {a b a' f v:AV} {l:List (List AV)} {g:AH} (J:o.op=.call c) (K:c.callee=.builtin .append) (hs:c.args=#[x,y]) (H:c.argTypes=#[t,u]) (j:El P t e k)
  (d:El P u m q) (F:zU env x=some a) (B:zU env y=some b) (p:tyfix P t a=a') (n:tyfix P u b=f) (G:aNews k f=some l) (w:vY h k a' l=some (v,g)):zn P o env h=.ok v g:=by
 obtain ⟨I,D⟩:=zw F;obtain ⟨s,E⟩:=zw B;obtain ⟨i,z,C,r,A,L⟩:=j.i;subst C;simp [zn,J,hs,H,K,I,s,vO,j.u,d.u,D,E,z,r,A,L,p,n,G,w,ovh]
end
end Go.Vv
