/- Each kind of operation, as a rule. -/
import Derived.Test.YtcociipjgndnaaaGreatVvR
namespace Go.Vv
open Go

class Ty (P:Program) (t:TypeId) (d:outParam TypeDesc) (k:outParam Nat):Prop where
 u:P.underlying t=some d
 i:∃i,P.info? t=some i/\i.size=k
class Fo (P:Program) (t:TypeId) (f:Nat) (off:outParam Nat) (u:outParam TypeId) (k:outParam Nat):Prop where
 o:fieldOff P t f=some (off,u)
 i:∃i,P.info? u=some i/\i.size=k
class El (P:Program) (t:TypeId) (e:outParam TypeId) (k:outParam Nat):Prop where
 u:P.underlying t=some (.slice e)
 i:∃i,P.info? e=some i/\i.size=k/\i.bytes<=65536/\0 < k/\(i.zero.map (·.cells.size))=some k

def tyo:AV->Option AV
 | .nilsl=>none
 | .bool b=>some (.bool b)
 | .int k n=>some (.int k n)
 | .str s=>some (.str s)
 | .ptr i o=>some (.ptr i o)
 | .fptr c=>some (.fptr c)
 | .sl k e=>some (.sl k e)
 | .osl q k e=>some (.osl q k e)
 | .msl a b c d=>some (.msl a b c d)
 | .rsl a b c d=>some (.rsl a b c d)
 | .rptr a b c d e=>some (.rptr a b c d e)
 | .rsuf a b c d e=>some (.rsuf a b c d e)
 | .map i=>some (.map i)
 | .fn f a b=>some (.fn f a b)
 | .iface t v=>some (.iface t v)
 | .agg c=>some (.agg c)
 | .tup v=>some (.tup v)
 | .glob g=>some (.glob g)
 | .yld i=>some (.yld i)
 | .bsl k e=>some (.bsl k e)
 | .nsl k e=>some (.nsl k e)
 | .gsl k n=>some (.gsl k n)
 | .gptr m=>some (.gptr m)
 | .any=>some .any
 | .opq=>some .opq
 | .nilp=>some .nilp
 | .nilm=>some .nilm
 | .nilf=>some .nilf
 | .nili=>some .nili
theorem za {P:Program} {t:TypeId} {v v':AV} (h:tyo v=some v'):tyfix P t v=v':=by
 cases v <;> simp only [tyo] at h <;> first | (cases h;rfl) | cases h
theorem ty_nil {P:Program} {t e:TypeId} {k:Nat} (h:El P t e k):tyfix P t .nilsl=.osl none k []:=by
 obtain ⟨i,a,b,_⟩:=h.i;simp only [tyfix,h.u,Program.cellsOf,a];congr 1
section
variable {P:Program} {o:Oper} {env:List AV} {h:AH}

theorem s_move {x:Operand} {v v':AV} (ho:o.op=.move x) (hx:yF env x=some v) (ht:tyfix P o.type v=v'):zw P o env h=.ok v' h:=by
 obtain ⟨h1,h2⟩:=zO hx;simp only [zw,ho,h1,ut,h2,ht]
theorem s_assign {x:Operand} {v v':AV} (d:o.op=.assign x) (a:yF env x=some v) (c:tyfix P o.type v=v'):zw P o env h=.ok v' h:=by
 obtain ⟨e,b⟩:=zO a;simp only [zw,d,e,ut,b,c]
theorem s_pick {c a b:Operand} {t:Bool} {x y v:AV} (j:o.op=.pick c a b) (l:yF env c=some (.bool t)) (f:yF env a=some x) (m:yF env b=some y) (g:(if t then x else y)=v):zw P o env h=.ok v h:=by
 obtain ⟨p,d⟩:=zO l;obtain ⟨i,k⟩:=zO f;obtain ⟨e,n⟩:=zO m;simp only [zw,j,p,i,e,u5,ut,d,k,n,g]
theorem vD {op:BinOp} {t u:TypeId} {x y:Operand} {a b v:AV} (g:o.op=.binOp op t x y u) (d:yF env x=some a) (j:yF env y=some b) (c:yH P op t a b=some v):zw P o env h=.ok v h:=by
 obtain ⟨k,e⟩:=zO d;obtain ⟨f,i⟩:=zO j;simp only [zw,g,k,f,u5,ut,e,i,aNilq_none c,c,oo]
theorem s_un {op:UnOp} {t:TypeId} {x:Operand} {a v:AV} (e:o.op=.unOp op t x) (b:yF env x=some a) (d:aUn op a=some v):zw P o env h=.ok v h:=by
 obtain ⟨f,c⟩:=zO b;simp only [zw,e,f,ut,c,d,oo]
theorem zM {s t:TypeId} {x:Operand} {a v:AV} {d b:TypeDesc} {k k':Nat} (i:o.op=.convert s t x) (hs:Ty P s d k) (f:Ty P t b k') (c:yF env x=some a) (g:aConvert b a=some v):zw P o env h=.ok v h:=by
 obtain ⟨j,e⟩:=zO c;simp only [zw,i,j,ut,e,hs.u,f.u,g,oo]
theorem s_load {t:TypeId} {d:TypeDesc} {k:Nat} {x:Operand} {a v v':AV} (l:o.op=.load t x) (b:Ty P t d k) (c:yF env x=some a) (f:aLoad h (yh d) k a=some v) (g:tyfix P t v=v'):zw P o env h=.ok v' h:=by
 obtain ⟨n,e⟩:=zO c;obtain ⟨i,j,m⟩:=b.i;simp only [zw,l,b.u,j,m,e,f,u7,g,oo]
theorem s_store {t:TypeId} {d:TypeDesc} {k:Nat} {x y:Operand} {a b c:AV} {e:AH} (s:o.op=.store t x y) (j:Ty P t d k) (n:yF env x=some a) (u:yF env y=some b) (m:tyfix P t b=c) (l:aStore h k a c=some e) :
  zw P o env h=.ok aundef e:=by
 obtain ⟨v,p⟩:=zO n;obtain ⟨r,q⟩:=zO u;obtain ⟨i,f,g⟩:=j.i;simp only [zw,s,r,ut,f,g,p,q,m,l,oh]
theorem s_alloc {t:TypeId} {cs:List AV} (a:o.op=.alloc t) (b:xD P t=some cs):zw P o env h=.ok (.ptr h.blks.length 0) (h.new (.cells cs)):=by
 simp only [zw,a,b]
theorem s_box {t:TypeId} {x:Operand} {a a':AV} {cs:List AV} (e:o.op=.box t x) (b:yF env x=some a) (d:tyfix P t a=a') (f:a'.cells?=some cs):zw P o env h=.ok (.ptr h.blks.length 0) (h.new (.cells cs)):=by
 obtain ⟨g,c⟩:=zO b;simp only [zw,e,g,ut,c,d,f]
theorem s_nilCheck {x:Operand} {a v:AV} (e:o.op=.nilCheck x) (c:yF env x=some a) (b:(match a with | .ptr id p=>some (AV.ptr id p) | .fptr cs=>some (.fptr cs) | .fn (.func f) p q=>some (.fn (.func f) p q) | _=>none)=some v) :
  zw P o env h=.ok v h:=by
 obtain ⟨g,d⟩:=zO c;simp only [zw,e,g,ut,d];split at b <;> first | (cases b;rfl) | cases b
theorem s_fieldAddr {t u:TypeId} {x:Operand} {f off k:Nat} {a v:AV} (j:o.op=.fieldAddr t x f) (b:Fo P t f off u (k+1)) (c:yF env x=some a) (e:qz off a=some v):zw P o env h=.ok v h:=by
 obtain ⟨m,d⟩:=zO c;obtain ⟨i,g,l⟩:=b.i;simp only [zw,j,b.o,g,l,m,d,e,oo];simp
theorem s_field {t u:TypeId} {x:Operand} {f off k k':Nat} {d:TypeDesc} {a v v':AV} (n:o.op=.field t x f) (b:Fo P t f off u k) (hd:Ty P u d k') (g:yF env x=some a) (e:aPart (yh d) off k a=some v) (c:tyfix P u v=v') :
  zw P o env h=.ok v' h:=by
 obtain ⟨p,j⟩:=zO g;obtain ⟨i,m,l⟩:=b.i;simp only [zw,n,b.o,hd.u,m,l,p,ut,j,e,u7,c,oo]
theorem s_indexAddr {t e:TypeId} {k:Nat} {x i:Operand} {a b v:AV} (q:o.op=.indexAddr t x i) (c:El P t e k) (l:yF env x=some a) (hi:yF env i=some b) (g:qy k a b=some v):zw P o env h=.ok v h:=by
 obtain ⟨r,m⟩:=zO l;obtain ⟨p,n⟩:=zO hi;obtain ⟨j,d,f,_⟩:=c.i;simp only [zw,q,r,p,u5,ut,m,n,c.u,d,f,g,oo]
theorem yd {t e:TypeId} {n k k':Nat} {d:TypeDesc} {x i:Operand} {a b v:AV} (w:o.op=.indexAddr t x i) (l:Ty P t (.array n e) k) (g:Ty P e d k') (p:yF env x=some a) (hi:yF env i=some b)
  (m:aIndexArr n k' a b=some v):zw P o env h=.ok v h:=by
 obtain ⟨y,q⟩:=zO p;obtain ⟨s,r⟩:=zO hi;obtain ⟨j,c,f⟩:=g.i;simp only [zw,w,y,s,u5,ut,q,r,l.u,c,f,m,oo]
theorem s_indexStr {t:TypeId} {k:Nat} {x i:Operand} {a b v:AV} (j:o.op=.index t x i) (e:Ty P t .string k) (c:yF env x=some a) (hi:yF env i=some b) (f:aIndexStr a b=some v):zw P o env h=.ok v h:=by
 obtain ⟨m,d⟩:=zO c;obtain ⟨g,l⟩:=zO hi;simp only [zw,j,m,g,u5,ut,d,l,e.u,f,oo]
theorem wJ {t e:TypeId} {n k k':Nat} {d:TypeDesc} {x i:Operand} {a b v v':AV} (y:o.op=.index t x i) (l:Ty P t (.array n e) k) (c:Ty P e d k') (q:yF env x=some a) (hi:yF env i=some b)
  (m:aIndexAgg (yh d) n k' a b=some v) (p:tyfix P e v=v'):zw P o env h=.ok v' h:=by
 obtain ⟨z,r⟩:=zO q;obtain ⟨w,s⟩:=zO hi;obtain ⟨j,f,g⟩:=c.i;simp only [zw,y,z,w,u5,ut,r,s,l.u,c.u,f,g,m,u7,p,oo]
theorem s_extract {t:Operand} {i:Nat} {vs:List AV} {v v':AV} (e:o.op=.extract t i) (a:yF env t=some (.tup vs)) (c:vs[i]?=some v) (d:tyfix P o.type v=v'):zw P o env h=.ok v' h:=by
 obtain ⟨f,b⟩:=zO a;simp only [zw,e,f,ut,b,c,u7,d,oo]
theorem wI {f:Fn} {a b:Array Operand} {c bs:List AV} (s:o.op=.makeFunc f a b) (q:a.toList.mapM (yF env)=some c) (n:b.toList.mapM (yF env)=some bs):zw P o env h=.ok (.fn f c bs) h:=by
 have key:∀(l:List Operand) (c:List AV),l.mapM (yF env)=some c->l.all yy=true/\l.map (ev env)=c:=by
  intro l
  induction l with
  | nil=>intro c h;simp at h;subst h;exact ⟨rfl,rfl⟩
  | cons x r ih =>
   intro c h;simp only [ry,ru,tx,rX,un] at h;obtain ⟨v,p,vs,k,rfl⟩:=h;obtain ⟨m,e⟩:=zO p;obtain ⟨j,g⟩:=ih vs k;simp [m,e,j,g]
 obtain ⟨m,e⟩:=key _ _ q;obtain ⟨j,g⟩:=key _ _ n;have d:a.all yy=true:=by simpa using m
 have i:b.all yy=true:=by simpa using j
 simp only [zw,s,d,i,u5,ut,e,g]
def argo (env:List AV):List Operand->List TypeId->Option (List (TypeId×AV))
 | [],[]=>some []
 | x::r,t::ts=>match yF env x,argo env r ts with
  | some v,some vs=>some ((t,v)::vs)
  | _,_=>none
 | _,_=>none
def fixL (P:Program):List (TypeId×AV)->List AV
 | []=>[]
 | (t,v)::r=>tyfix P t v::fixL P r
theorem argo_ok:∀{xs:List Operand} {ts:List TypeId} {l:List (TypeId×AV)},argo env xs ts=some l->xs.all yy=true/\xs.length=ts.length/\(xs.zip ts).map (λp=>tyfix P p.2 (ev env p.1))=fixL P l
 | [],[],l,h=>by simp only [argo,un] at h;subst h;exact ⟨rfl,rfl,rfl⟩
 | x::r,t::ts,l,h=>by
  simp only [argo] at h;split at h
  ·rename_i v vs d a;cases h;obtain ⟨g,b⟩:=zO d;obtain ⟨e,f,c⟩:=argo_ok a;refine ⟨by simp only [tc,g,e,u5],by simp [f],?_⟩;simp only [r6,uC,c,b,fixL]
  ·cases h
 | [],_::_,_,h=>by simp [argo] at h
 | _::_,[],_,h=>by simp [argo] at h
theorem s_call {c:Call} {f:Operand} {g:FuncId} {l:List (TypeId×AV)} {first caps args:List AV} (p:o.op=.call c) (q:c.callee=.value f) (i:yF env f=some (.fn (.func g) first caps)) (e:argo env c.args.toList c.argTypes.toList=some l)
  (k:first++fixL P l++caps=args):zw P o env h=.call g args:=by
 obtain ⟨r,j⟩:=zO i;obtain ⟨n,m,d⟩:=argo_ok (P:=P) e;have b:c.args.all yy=true:=by simpa using n
 have a:(c.args.size==c.argTypes.size)=true:=by simpa using m
 simp only [zw,p,b,a,u5,ut,q,r,j,d,k];simp
theorem s_lenStr {c:Call} {x:Operand} {t:TypeId} {k:Nat} {s:List UInt8} (e:o.op=.call c) (g:c.callee=.builtin .len) (hs:c.args=#[x]) (d:c.argTypes=#[t]) (f:Ty P t .string k) (a:yF env x=some (.str s)) :
  zw P o env h=.len s.length (.int .i64 s.length) h:=by
 obtain ⟨i,b⟩:=zO a;simp [zw,e,hs,d,g,i,vP,f.u,b]
theorem wC {c:Call} {x:Operand} {t e:TypeId} {k n:Nat} {a:AV} (i:o.op=.call c) (l:c.callee=.builtin .len) (hs:c.args=#[x]) (g:c.argTypes=#[t]) (j:El P t e k) (d:yF env x=some a) (b:aLen a=some n) :
  zw P o env h=.len n (.int .i64 n) h:=by
 obtain ⟨m,f⟩:=zO d;simp [zw,i,hs,g,l,m,vP,j.u,f,b]
theorem s_append {c:Call} {x y:Operand} {t u e z:TypeId} {k k':Nat} {a b a' f v:AV} {j:List (List AV)} {g:AH} (H:o.op=.call c) (I:c.callee=.builtin .append) (hs:c.args=#[x,y]) (s:c.argTypes=#[t,u]) (l:El P t e k)
  (d:El P u z k') (A:yF env x=some a) (J:yF env y=some b) (D:tyfix P t a=a') (n:tyfix P u b=f) (r:qq k f=some j) (w:aAppend h k a' j=some (v,g)):zw P o env h=.ok v g:=by
 obtain ⟨K,B⟩:=zO A;obtain ⟨G,E⟩:=zO J;obtain ⟨i,m,p,F,q,C⟩:=l.i;subst p;simp [zw,H,hs,s,I,K,G,vP,l.u,d.u,B,E,m,F,q,C,D,n,r,w,ovh]
theorem s_appendStr {c:Call} {x y:Operand} {t u e:TypeId} {k k':Nat} {a b a' f v:AV} {j:List (List AV)} {g:AH} (G:o.op=.call c) (H:c.callee=.builtin .append) (hs:c.args=#[x,y]) (s:c.argTypes=#[t,u]) (l:El P t e k)
  (d:Ty P u .string k') (z:yF env x=some a) (I:yF env y=some b) (C:tyfix P t a=a') (n:tyfix P u b=f) (r:qq k f=some j) (w:aAppend h k a' j=some (v,g)):zw P o env h=.ok v g:=by
 obtain ⟨J,A⟩:=zO z;obtain ⟨F,D⟩:=zO I;obtain ⟨i,m,p,E,q,B⟩:=l.i;subst p;simp [zw,G,hs,s,H,J,F,vP,l.u,d.u,A,D,m,E,q,B,C,n,r,w,ovh]
theorem argo_ev:∀{xs:List Operand} {ts:List TypeId} {l:List (TypeId×AV)},argo env xs ts=some l->xs.all yy=true/\xs.length=ts.length/\xs.map (ev env)=l.map Prod.snd
 | [],[],l,h=>by simp only [argo,un] at h;subst h;exact ⟨rfl,rfl,rfl⟩
 | x::r,t::ts,l,h=>by
  simp only [argo] at h;split at h
  ·rename_i v vs d a;cases h;obtain ⟨g,b⟩:=zO d;obtain ⟨e,f,c⟩:=argo_ev a;exact ⟨by simp only [tc,g,e,u5],by simp [f],by simp only [uC,c,b]⟩
  ·cases h
 | [],_::_,_,h=>by simp [argo] at h
 | _::_,[],_,h=>by simp [argo] at h
theorem s_mm {c:Call} {x v:AV} {r:List AV} {l:List (TypeId×AV)} (mx:Bool) (g:o.op=.call c) (d:c.callee=.builtin (if mx then .max else .min)) (j:argo env c.args.toList c.argTypes.toList=some l) (i:l.map Prod.snd=x::r) (f:aMM mx x r=some v):zw P o env h=.ok v h:=by
 obtain ⟨m,k,e⟩:=argo_ev j;have b:c.args.all yy=true:=by simpa using m
 have a:(c.args.size==c.argTypes.size)=true:=by simpa using k
 cases mx
 ·simp only [ul,uG] at d;simp only [zw,g,b,a,u5,ut,d,vP,e,i,f,oo]
 ·simp only [ut] at d;simp only [zw,g,b,a,u5,ut,d,vP,e,i,f,oo]
end
end Go.Vv
