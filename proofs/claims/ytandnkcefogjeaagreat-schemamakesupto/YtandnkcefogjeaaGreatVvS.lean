/- Each kind of operation, as a rule. -/
import Derived.Test.YtandnkcefogjeaaGreatVvR
namespace Go.Vv
open Go

class Ty (P:Program) (t:TypeId) (d:outParam TypeDesc) (k:outParam Nat):Prop where
 u:P.underlying t=some d
 i:∃i,P.info? t=some i/\i.size=k
class Fo (P:Program) (t:TypeId) (f:Nat) (off:outParam Nat) (u:outParam TypeId) (k:outParam Nat):Prop where
 o:fieldOff P t f=some (off,u)
 i:∃i,P.info? u=some i/\i.size=k
class El (P:Program) (t:TypeId) (e:outParam TypeId) (k:outParam Nat):Prop where
 u:P.underlying t=some (.slice e)
 i:∃i,P.info? e=some i/\i.size=k/\i.bytes<=65536/\0 < k/\(i.zero.map (·.cells.size))=some k

def tyo:AV->Option AV
 | .nilsl=>none
 | .bool b=>some (.bool b)
 | .int k n=>some (.int k n)
 | .str s=>some (.str s)
 | .ptr i o=>some (.ptr i o)
 | .fptr c=>some (.fptr c)
 | .sl k e=>some (.sl k e)
 | .osl q k e=>some (.osl q k e)
 | .msl a b c d=>some (.msl a b c d)
 | .rsl a b c d=>some (.rsl a b c d)
 | .rptr a b c d e=>some (.rptr a b c d e)
 | .rsuf a b c d e=>some (.rsuf a b c d e)
 | .map i=>some (.map i)
 | .fn f a b=>some (.fn f a b)
 | .iface t v=>some (.iface t v)
 | .agg c=>some (.agg c)
 | .tup v=>some (.tup v)
 | .glob g=>some (.glob g)
 | .yld i=>some (.yld i)
 | .any=>some .any
 | .opq=>some .opq
 | .nilp=>some .nilp
 | .nilm=>some .nilm
 | .nilf=>some .nilf
 | .nili=>some .nili
theorem zb {P:Program} {t:TypeId} {v a:AV} (h:tyo v=some a):tyfix P t v=a:=by
 cases v <;> simp only [tyo] at h <;> first | (cases h;rfl) | cases h
theorem ty_nil {P:Program} {t e:TypeId} {k:Nat} (h:El P t e k):tyfix P t .nilsl=.osl none k []:=by
 obtain ⟨i,a,b,_⟩:=h.i;simp only [tyfix,h.u,Program.cellsOf,a];congr 1
section
variable {P:Program} {o:Oper} {env:List AV} {h:AH}

theorem s_move {x:Operand} {v v':AV} (ho:o.op=.move x) (hx:yz env x=some v) (ht:tyfix P o.type v=v'):zr P o env h=.ok v' h:=by
 obtain ⟨h1,h2⟩:=zO hx;simp only [zr,ho,h1,if_true,h2,ht]
theorem s_assign {x:Operand} {v a:AV} (f:o.op=.assign x) (b:yz env x=some v) (e:tyfix P o.type v=a):zr P o env h=.ok a h:=by
 obtain ⟨c,d⟩:=zO b;simp only [zr,f,c,if_true,d,e]
theorem s_pick {c a b:Operand} {t:Bool} {x y v:AV} (n:o.op=.pick c a b) (p:yz env c=some (.bool t)) (g:yz env a=some x) (k:yz env b=some y) (e:(if t then x else y)=v):zr P o env h=.ok v h:=by
 obtain ⟨i,j⟩:=zO p;obtain ⟨m,f⟩:=zO g;obtain ⟨d,l⟩:=zO k;simp only [zr,n,i,m,d,Bool.and_self,if_true,j,f,l,e]
theorem vH {op:BinOp} {t u:TypeId} {x y:Operand} {a b v:AV} (k:o.op=.binOp op t x y u) (e:yz env x=some a) (d:yz env y=some b) (c:yB P op t a b=some v):zr P o env h=.ok v h:=by
 obtain ⟨f,i⟩:=zO e;obtain ⟨j,g⟩:=zO d;simp only [zr,k,f,j,Bool.and_self,if_true,i,g,aNilq_none c,c,oo]
theorem s_un {op:UnOp} {t:TypeId} {x:Operand} {a v:AV} (f:o.op=.unOp op t x) (c:yz env x=some a) (b:aUn op a=some v):zr P o env h=.ok v h:=by
 obtain ⟨d,e⟩:=zO c;simp only [zr,f,d,if_true,e,b,oo]
theorem s_convert {s t:TypeId} {x:Operand} {a v:AV} {d b:TypeDesc} {k k':Nat} (j:o.op=.convert s t x) (hs:Ty P s d k) (i:Ty P t b k') (e:yz env x=some a) (c:aConvert b a=some v):zr P o env h=.ok v h:=by
 obtain ⟨f,g⟩:=zO e;simp only [zr,j,f,if_true,g,hs.u,i.u,c,oo]
theorem s_load {t:TypeId} {d:TypeDesc} {k:Nat} {x:Operand} {a v b:AV} (n:o.op=.load t x) (c:Ty P t d k) (g:yz env x=some a) (e:aLoad h (z7 d) k a=some v) (l:tyfix P t v=b):zr P o env h=.ok b h:=by
 obtain ⟨p,j⟩:=zO g;obtain ⟨i,m,f⟩:=c.i;simp only [zr,n,c.u,m,f,j,e,Option.map_some,l,oo]
theorem s_store {t:TypeId} {d:TypeDesc} {k:Nat} {x y:Operand} {a b e:AV} {c:AH} (p:o.op=.store t x y) (r:Ty P t d k) (m:yz env x=some a) (s:yz env y=some b) (n:tyfix P t b=e) (g:aStore h k a e=some c) :
  zr P o env h=.ok aundef c:=by
 obtain ⟨v,u⟩:=zO m;obtain ⟨j,f⟩:=zO s;obtain ⟨i,q,l⟩:=r.i;simp only [zr,p,j,if_true,q,l,u,f,n,g,oh]
theorem s_alloc {t:TypeId} {cs:List AV} (a:o.op=.alloc t) (b:xq P t=some cs):zr P o env h=.ok (.ptr h.blks.length 0) (h.new (.cells cs)):=by
 simp only [zr,a,b]
theorem s_box {t:TypeId} {x:Operand} {a a':AV} {cs:List AV} (f:o.op=.box t x) (b:yz env x=some a) (e:tyfix P t a=a') (g:a'.cells?=some cs):zr P o env h=.ok (.ptr h.blks.length 0) (h.new (.cells cs)):=by
 obtain ⟨c,d⟩:=zO b;simp only [zr,f,c,if_true,d,e,g]
theorem s_nilCheck {x:Operand} {a v:AV} (g:o.op=.nilCheck x) (c:yz env x=some a) (b:(match a with | .ptr id p=>some (AV.ptr id p) | .fptr cs=>some (.fptr cs) | .fn (.func f) p q=>some (.fn (.func f) p q) | _=>none)=some v) :
  zr P o env h=.ok v h:=by
 obtain ⟨d,e⟩:=zO c;simp only [zr,g,d,if_true,e];split at b <;> first | (cases b;rfl) | cases b
theorem s_fieldAddr {t u:TypeId} {x:Operand} {f off k:Nat} {a v:AV} (m:o.op=.fieldAddr t x f) (b:Fo P t f off u (k+1)) (c:yz env x=some a) (d:qi off a=some v):zr P o env h=.ok v h:=by
 obtain ⟨e,g⟩:=zO c;obtain ⟨i,l,j⟩:=b.i;simp only [zr,m,b.o,l,j,e,g,d,oo];simp
theorem s_field {t u:TypeId} {x:Operand} {f off k k':Nat} {d:TypeDesc} {a v c:AV} (n:o.op=.field t x f) (b:Fo P t f off u k) (hd:Ty P u d k') (l:yz env x=some a) (e:aPart (z7 d) off k a=some v) (p:tyfix P u v=c) :
  zr P o env h=.ok c h:=by
 obtain ⟨m,q⟩:=zO l;obtain ⟨i,j,g⟩:=b.i;simp only [zr,n,b.o,hd.u,j,g,m,if_true,q,e,Option.map_some,p,oo]
theorem s_indexAddr {t e:TypeId} {k:Nat} {x i:Operand} {a b v:AV} (p:o.op=.indexAddr t x i) (c:El P t e k) (m:yz env x=some a) (hi:yz env i=some b) (f:qh k a b=some v):zr P o env h=.ok v h:=by
 obtain ⟨n,r⟩:=zO m;obtain ⟨g,d⟩:=zO hi;obtain ⟨j,q,l,_⟩:=c.i;simp only [zr,p,n,g,Bool.and_self,if_true,r,d,c.u,q,l,f,oo]
theorem s_indexArrAddr {t e:TypeId} {n k k':Nat} {d:TypeDesc} {x i:Operand} {a b v:AV} (r:o.op=.indexAddr t x i) (w:Ty P t (.array n e) k) (q:Ty P e d k') (m:yz env x=some a) (hi:yz env i=some b)
  (f:aIndexArr n k' a b=some v):zr P o env h=.ok v h:=by
 obtain ⟨p,y⟩:=zO m;obtain ⟨g,c⟩:=zO hi;obtain ⟨j,s,l⟩:=q.i;simp only [zr,r,p,g,Bool.and_self,if_true,y,c,w.u,s,l,f,oo]
theorem s_indexStr {t:TypeId} {k:Nat} {x i:Operand} {a b v:AV} (m:o.op=.index t x i) (j:Ty P t .string k) (e:yz env x=some a) (hi:yz env i=some b) (c:aIndexStr a b=some v):zr P o env h=.ok v h:=by
 obtain ⟨f,g⟩:=zO e;obtain ⟨l,d⟩:=zO hi;simp only [zr,m,f,l,Bool.and_self,if_true,g,d,j.u,c,oo]
theorem s_extract {t:Operand} {i:Nat} {vs:List AV} {v a:AV} (g:o.op=.extract t i) (c:yz env t=some (.tup vs)) (b:vs[i]?=some v) (f:tyfix P o.type v=a):zr P o env h=.ok a h:=by
 obtain ⟨d,e⟩:=zO c;simp only [zr,g,d,if_true,e,b,Option.map_some,f,oo]
theorem wi {f:Fn} {a b:Array Operand} {c bs:List AV} (q:o.op=.makeFunc f a b) (s:a.toList.mapM (yz env)=some c) (p:b.toList.mapM (yz env)=some bs):zr P o env h=.ok (.fn f c bs) h:=by
 have key:∀(l:List Operand) (c:List AV),l.mapM (yz env)=some c->l.all yg=true/\l.map (ev env)=c:=by
  intro l
  induction l with
  | nil=>intro c h;simp at h;subst h;exact ⟨rfl,rfl⟩
  | cons x r ih =>
   intro c h;simp only [List.mapM_cons,Option.bind_eq_bind,Option.bind_eq_some_iff,Option.pure_def,Option.some.injEq] at h;obtain ⟨v,n,vs,j,rfl⟩:=h;obtain ⟨g,m⟩:=zO n;obtain ⟨e,d⟩:=ih vs j;simp [g,m,e,d]
 obtain ⟨g,m⟩:=key _ _ s;obtain ⟨e,d⟩:=key _ _ p;have i:a.all yg=true:=by simpa using g
 have k:b.all yg=true:=by simpa using e
 simp only [zr,q,i,k,Bool.and_self,if_true,m,d]
def argo (env:List AV):List Operand->List TypeId->Option (List (TypeId×AV))
 | [],[]=>some []
 | x::r,t::ts=>match yz env x,argo env r ts with
  | some v,some vs=>some ((t,v)::vs)
  | _,_=>none
 | _,_=>none
def fixL (P:Program):List (TypeId×AV)->List AV
 | []=>[]
 | (t,v)::r=>tyfix P t v::fixL P r
theorem argo_ok:∀{xs:List Operand} {ts:List TypeId} {l:List (TypeId×AV)},argo env xs ts=some l->xs.all yg=true/\xs.length=ts.length/\(xs.zip ts).map (λp=>tyfix P p.2 (ev env p.1))=fixL P l
 | [],[],l,h=>by simp only [argo,Option.some.injEq] at h;subst h;exact ⟨rfl,rfl,rfl⟩
 | x::r,t::ts,l,h=>by
  simp only [argo] at h;split at h
  ·rename_i v vs d a;cases h;obtain ⟨e,f⟩:=zO d;obtain ⟨g,c,b⟩:=argo_ok a;refine ⟨by simp only [List.all_cons,e,g,Bool.and_self],by simp [c],?_⟩;simp only [List.zip_cons_cons,List.map_cons,b,f,fixL]
  ·cases h
 | [],_::_,_,h=>by simp [argo] at h
 | _::_,[],_,h=>by simp [argo] at h
theorem s_call {c:Call} {f:Operand} {g:FuncId} {l:List (TypeId×AV)} {first caps args:List AV} (m:o.op=.call c) (r:c.callee=.value f) (k:yz env f=some (.fn (.func g) first caps)) (e:argo env c.args.toList c.argTypes.toList=some l)
  (p:first++fixL P l++caps=args):zr P o env h=.call g args:=by
 obtain ⟨j,q⟩:=zO k;obtain ⟨i,d,n⟩:=argo_ok (P:=P) e;have b:c.args.all yg=true:=by simpa using i
 have a:(c.args.size==c.argTypes.size)=true:=by simpa using d
 simp only [zr,m,b,a,Bool.and_self,if_true,r,j,q,n,p];simp
theorem s_lenStr {c:Call} {x:Operand} {t:TypeId} {k:Nat} {s:List UInt8} (i:o.op=.call c) (f:c.callee=.builtin .len) (hs:c.args=#[x]) (g:c.argTypes=#[t]) (b:Ty P t .string k) (a:yz env x=some (.str s)) :
  zr P o env h=.len s.length (.int .i64 s.length) h:=by
 obtain ⟨d,e⟩:=zO a;simp [zr,i,hs,g,f,d,aBuiltin,b.u,e]
theorem wp {c:Call} {x:Operand} {t e:TypeId} {k n:Nat} {a:AV} (l:o.op=.call c) (m:c.callee=.builtin .len) (hs:c.args=#[x]) (j:c.argTypes=#[t]) (d:El P t e k) (b:yz env x=some a) (i:aLen a=some n) :
  zr P o env h=.len n (.int .i64 n) h:=by
 obtain ⟨f,g⟩:=zO b;simp [zr,l,hs,j,m,f,aBuiltin,d.u,g,i]
theorem s_append {c:Call} {x y:Operand} {t u e C:TypeId} {k k':Nat} {a b a' l v:AV} {j:List (List AV)} {f:AH} (A:o.op=.call c) (K:c.callee=.builtin .append) (hs:c.args=#[x,y]) (G:c.argTypes=#[t,u]) (g:El P t e k)
  (d:El P u C k') (r:yz env x=some a) (I:yz env y=some b) (E:tyfix P t a=a') (w:tyfix P u b=l) (F:aNews k l=some j) (m:aAppend h k a' j=some (v,f)):zr P o env h=.ok v f:=by
 obtain ⟨s,J⟩:=zO r;obtain ⟨p,n⟩:=zO I;obtain ⟨i,D,q,z,B,H⟩:=g.i;subst q;simp [zr,A,hs,G,K,s,p,aBuiltin,g.u,d.u,J,n,D,z,B,H,E,w,F,m,ovh]
end
end Go.Vv
