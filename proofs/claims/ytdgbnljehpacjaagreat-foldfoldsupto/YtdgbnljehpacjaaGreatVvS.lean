/- Each kind of operation, as a rule. -/
import Derived.Test.YtdgbnljehpacjaaGreatVvN
set_option linter.all false
namespace Go.Vv
open Go
variable {t e u:TypeId} {v v' a b:AV} {k k' off:Nat} {x y i:Operand} {c:Call} {d:TypeDesc} {cs:List AV}

class Ty (P:Program) (t:TypeId) (d:outParam TypeDesc) (k:outParam Nat):Prop where
 u:P.underlying t=some d
 i:∃i,P.info? t=some i/\i.size=k
class Fo (P:Program) (t:TypeId) (f:Nat) (off:outParam Nat) (u:outParam TypeId) (k:outParam Nat):Prop where
 o:fieldOff P t f=some (off,u)
 i:∃i,P.info? u=some i/\i.size=k
class El (P:Program) (t:TypeId) (e:outParam TypeId) (k:outParam Nat):Prop where
 u:P.underlying t=some (.slice e)
 i:∃i,P.info? e=some i/\i.size=k/\i.bytes<=65536/\0 < k/\(i.zero.map (·.cells.size))=some k

def tyo:AV->Option AV
 | .nilsl=>none
 | .bool b=>some (.bool b)
 | .int k n=>some (.int k n)
 | .str s=>some (.str s)
 | .ptr i o=>some (.ptr i o)
 | .fptr c=>some (.fptr c)
 | .sl k e=>some (.sl k e)
 | .osl q k e=>some (.osl q k e)
 | .msl a b c d=>some (.msl a b c d)
 | .rsl a b c d=>some (.rsl a b c d)
 | .rptr a b c d e=>some (.rptr a b c d e)
 | .rsuf a b c d e=>some (.rsuf a b c d e)
 | .map i=>some (.map i)
 | .fn f a b=>some (.fn f a b)
 | .iface t v=>some (.iface t v)
 | .agg c=>some (.agg c)
 | .tup v=>some (.tup v)
 | .glob g=>some (.glob g)
 | .yld i=>some (.yld i)
 | .bsl k e=>some (.bsl k e)
 | .nsl k e=>some (.nsl k e)
 | .gsl k n=>some (.gsl k n)
 | .gptr m=>some (.gptr m)
 | .any=>some .any
 | .opq=>some .opq
 | .nilp=>some .nilp
 | .nilm=>some .nilm
 | .nilf=>some .nilf
 | .nili=>some .nili
theorem za {P:Program} (h:tyo v=some v'):tyfix P t v=v':=by
 cases v <;> simp only [tyo] at h <;> first | (cases h;rfl) | cases h
theorem ty_nil {P:Program} (h:El P t e k):tyfix P t .nilsl=.osl none k []:=by
 obtain ⟨i,f,g,_⟩:=h.i;simp only [tyfix,h.u,Program.cellsOf,f];congr 1
section
variable {P:Program} {o:Oper} {env:List AV} {h:AH}

theorem zH {x:Operand} {v v':AV} (ho:o.op=.move x) (hx:yx env x=some v) (ht:tyfix P o.type v=v'):zt P o env h=.ok v' h:=by
 obtain ⟨h1,h2⟩:=zM hx;simp only [zt,ho,h1,ur,h2,ht]
theorem yj (f:o.op=.assign x) (m:yx env x=some v) (l:tyfix P o.type v=v'):zt P o env h=.ok v' h:=by
 obtain ⟨j,g⟩:=zM m;simp only [zt,f,j,ur,g,l]
theorem s_pick {c a b:Operand} {t:Bool} {x y:AV} (g:o.op=.pick c a b) (w:yx env c=some (.bool t)) (l:yx env a=some x) (s:yx env b=some y) (j:(if t then x else y)=v):zt P o env h=.ok v h:=by
 obtain ⟨p,m⟩:=zM w;obtain ⟨r,n⟩:=zM l;obtain ⟨q,f⟩:=zM s;simp only [zt,g,p,r,q,tf,ur,m,n,f,j]
theorem xK {op:BinOp} (g:o.op=.binOp op t x y u) (q:yx env x=some a) (j:yx env y=some b) (f:yM P op t a b=some v):zt P o env h=.ok v h:=by
 obtain ⟨n,l⟩:=zM q;obtain ⟨p,m⟩:=zM j;simp only [zt,g,n,p,tf,ur,l,m,aNilq_none f,f,oo,rM]
theorem s_un {op:UnOp} (f:o.op=.unOp op t x) (m:yx env x=some a) (g:aUn op a=some v):zt P o env h=.ok v h:=by
 obtain ⟨l,j⟩:=zM m;simp only [zt,f,l,ur,j,g,oo]
theorem s_convert {s:TypeId} {f:TypeDesc} (g:o.op=.convert s t x) (hs:Ty P s d k) (n:Ty P t f k') (p:yx env x=some a) (j:aConvert f a=some v):zt P o env h=.ok v h:=by
 obtain ⟨m,l⟩:=zM p;simp only [zt,g,m,ur,l,hs.u,n.u,j,oo]
theorem s_load (j:o.op=.load t x) (f:Ty P t d k) (q:yx env x=some a) (l:qZ h (yp d) k a=some v) (g:tyfix P t v=v'):zt P o env h=.ok v' h:=by
 obtain ⟨r,m⟩:=zM q;obtain ⟨i,p,n⟩:=f.i;simp only [zt,j,f.u,p,n,m,l,uY,g,oo]
theorem s_store {g:AV} {f:AH} (m:o.op=.store t x y) (w:Ty P t d k) (A:yx env x=some a) (p:yx env y=some b) (j:tyfix P t b=g) (n:aStore h k a g=some f) :
  zt P o env h=.ok aundef f:=by
 obtain ⟨B,q⟩:=zM A;obtain ⟨z,r⟩:=zM p;obtain ⟨i,s,l⟩:=w.i;simp only [zt,m,z,ur,s,l,q,r,j,n,oh]
theorem s_alloc (f:o.op=.alloc t) (g:xl P t=some cs):zt P o env h=.ok (.ptr h.blks.length 0) (h.new (.cells cs)):=by
 simp only [zt,f,g]
theorem s_box {a':AV} (g:o.op=.box t x) (n:yx env x=some a) (f:tyfix P t a=a') (m:a'.cells?=some cs):zt P o env h=.ok (.ptr h.blks.length 0) (h.new (.cells cs)):=by
 obtain ⟨l,j⟩:=zM n;simp only [zt,g,l,ur,j,f,m]
theorem s_nilCheck (j:o.op=.nilCheck x) (n:yx env x=some a) (g:(match a with | .ptr id p=>some (AV.ptr id p) | .fptr cs=>some (.fptr cs) | .fn (.func f) p q=>some (.fn (.func f) p q) | _=>none)=some v) :
  zt P o env h=.ok v h:=by
 obtain ⟨m,l⟩:=zM n;simp only [zt,j,m,ur,l];split at g <;> first | (cases g;rfl) | cases g
theorem s_fieldAddr {f:Nat} (j:o.op=.fieldAddr t x f) (g:Fo P t f off u (k+1)) (r:yx env x=some a) (l:qg off a=some v):zt P o env h=.ok v h:=by
 obtain ⟨p,m⟩:=zM r;obtain ⟨i,q,n⟩:=g.i;simp only [zt,j,g.o,q,n,p,m,l,oo];simp
theorem s_field {f:Nat} (j:o.op=.field t x f) (g:Fo P t f off u k) (hd:Ty P u d k') (s:yx env x=some a) (l:aPart (yp d) off k a=some v) (q:tyfix P u v=v') :
  zt P o env h=.ok v' h:=by
 obtain ⟨p,m⟩:=zM s;obtain ⟨i,r,n⟩:=g.i;simp only [zt,j,g.o,hd.u,r,n,p,ur,m,l,uY,q,oo]
theorem s_indexAddr (l:o.op=.indexAddr t x i) (f:El P t e k) (w:yx env x=some a) (hi:yx env i=some b) (m:qf k a b=some v):zt P o env h=.ok v h:=by
 obtain ⟨q,n⟩:=zM w;obtain ⟨s,p⟩:=zM hi;obtain ⟨j,r,g,_⟩:=f.i;simp only [zt,l,q,s,tf,ur,n,p,f.u,r,g,m,oo]
theorem s_indexArrAddr {n:Nat} (g:o.op=.indexAddr t x i) (w:Ty P t (.array n e) k) (l:Ty P e d k') (A:yx env x=some a) (hi:yx env i=some b)
  (m:aIndexArr n k' a b=some v):zt P o env h=.ok v h:=by
 obtain ⟨r,p⟩:=zM A;obtain ⟨z,q⟩:=zM hi;obtain ⟨j,s,f⟩:=l.i;simp only [zt,g,r,z,tf,ur,p,q,w.u,s,f,m,oo]
theorem s_indexStr (f:o.op=.index t x i) (n:Ty P t .string k) (q:yx env x=some a) (hi:yx env i=some b) (g:aIndexStr a b=some v):zt P o env h=.ok v h:=by
 obtain ⟨m,j⟩:=zM q;obtain ⟨p,l⟩:=zM hi;simp only [zt,f,m,p,tf,ur,j,l,n.u,g,oo]
theorem w8 {t:Operand} {i:Nat} {vs:List AV} (g:o.op=.extract t i) (n:yx env t=some (.tup vs)) (j:vs[i]?=some v) (f:tyfix P o.type v=v'):zt P o env h=.ok v' h:=by
 obtain ⟨m,l⟩:=zM n;simp only [zt,g,m,ur,l,j,uY,f,oo]
theorem s_makeFunc {f:Fn} {a b:Array Operand} {a5 bs:List AV} (s:o.op=.makeFunc f a b) (w:a.toList.mapM (yx env)=some a5) (n:b.toList.mapM (yx env)=some bs):zt P o env h=.ok (.fn f a5 bs) h:=by
 have key:∀(l:List Operand) (a5:List AV),l.mapM (yx env)=some a5->l.all yr=true/\l.map (ev env)=a5:=by
  intro l
  induction l with
  | nil=>intro a5 h;simp at h;subst h;exact ⟨rfl,rfl⟩
  | cons x r ih =>
   intro a5 h;simp only [rm,sY,tD,rD,ui] at h;obtain ⟨v,z,vs,A,rfl⟩:=h;obtain ⟨q,m⟩:=zM z
   simp_all
 obtain ⟨q,m⟩:=key _ _ w;obtain ⟨B,p⟩:=key _ _ n;have g:a.all yr=true:=by simp_all
 have j:b.all yr=true:=by simp_all
 simp only [zt,s,g,j,tf,ur,m,p]
def argo (env:List AV):List Operand->List TypeId->Option (List (TypeId×AV))
 | [],[]=>some []
 | x::r,t::ts=>match yx env x,argo env r ts with
  | some v,some vs=>some ((t,v)::vs)
  | _,_=>none
 | _,_=>none
def fixL (P:Program):List (TypeId×AV)->List AV
 | []=>[]
 | (t,v)::r=>tyfix P t v::fixL P r
theorem argo_ok:∀{xs:List Operand} {ts:List TypeId} {l:List (TypeId×AV)},argo env xs ts=some l->xs.all yr=true/\xs.length=ts.length/\(xs.zip ts).map (λp=>tyfix P p.2 (ev env p.1))=fixL P l
 | [],[],l,h=>by simp only [argo,ui] at h;subst h;exact ⟨rfl,rfl,rfl⟩
 | x::r,t::ts,l,h=>by
  simp only [argo] at h;split at h
  ·rename_i v vs g f;cases h;obtain ⟨q,j⟩:=zM g;obtain ⟨s,m,n⟩:=argo_ok f;refine ⟨by simp_all,by simp [m],?_⟩;simp only [List.zip_cons_cons,uz,n,j,fixL]
  ·cases h
 | [],_::_,_,h=>by simp [argo] at h
 | _::_,[],_,h=>by simp [argo] at h
theorem s_call {f:Operand} {g:FuncId} {l:List (TypeId×AV)} {first j args:List AV} (q:o.op=.call c) (B:c.callee=.value f) (p:yx env f=some (.fn (.func g) first j)) (r:argo env c.args.toList c.argTypes.toList=some l)
  (s:first++fixL P l++j=args):zt P o env h=.call g args:=by
 obtain ⟨z,w⟩:=zM p;obtain ⟨D,C,A⟩:=argo_ok (P:=P) r;have n:c.args.all yr=true:=by grind
 have m:(c.args.size==c.argTypes.size)=true:=by simp_all
 simp only [zt,q,n,m,tf,ur,B,z,w,A,s];simp
theorem s_lenStr {s:List UInt8} (f:o.op=.call c) (n:c.callee=.builtin .len) (hs:c.args=#[x]) (m:c.argTypes=#[t]) (l:Ty P t .string k) (p:yx env x=some (.str s)) :
  zt P o env h=.len s.length (.int .i64 s.length) h:=by
 obtain ⟨j,g⟩:=zM p;simp [zt,f,hs,m,n,j,aBuiltin,l.u,g]
theorem xU {n:Nat} (f:o.op=.call c) (p:c.callee=.builtin .len) (hs:c.args=#[x]) (m:c.argTypes=#[t]) (l:El P t e k) (q:yx env x=some a) (r:aLen a=some n) :
  zt P o env h=.len n (.int .i64 n) h:=by
 obtain ⟨j,g⟩:=zM q;simp [zt,f,hs,m,p,j,aBuiltin,l.u,g,r]
theorem s_append {A:TypeId} {a' g:AV} {m:List (List AV)} {j:AH} (B:o.op=.call c) (L:c.callee=.builtin .append) (hs:c.args=#[x,y]) (p:c.argTypes=#[t,u]) (l:El P t e k)
  (f:El P u A k') (F:yx env x=some a) (D:yx env y=some b) (K:tyfix P t a=a') (q:tyfix P u b=g) (G:aNews k g=some m) (J:aAppend h k a' m=some (v,j)):zt P o env h=.ok v j:=by
 obtain ⟨s,n⟩:=zM F;obtain ⟨E,r⟩:=zM D;obtain ⟨i,z,H,w,C,I⟩:=l.i;subst H;simp [zt,B,hs,p,L,s,E,aBuiltin,l.u,f.u,n,r,z,w,C,I,K,q,G,J,ovh]
end
end Go.Vv
namespace Go.Vv
open Go
variable {id:Nat} {b body:Code} {N:List AV->AH->Prop} {K:AV->AH->Prop}

def seqQ (P:Program) (h0:AH) (b:Code) (Q:Exit->List AV->AH->Prop):Exit->List AV->AH->Prop:=λx env' h'=>match x with
 | .normal=>∃env2 h2,wk h0 env' h' env2 h2/\vK P b Q env2 h2
 | x=>Q x env' h'
def blockQ (id:Nat) (Q:Exit->List AV->AH->Prop):Exit->List AV->AH->Prop:=λx env h=>match x with
 | .exit id'=>if id'=id then Q .normal env h else Q (.exit id') env h
 | x=>Q x env h
def loopQ (N:List AV->AH->Prop) (Q:Exit->List AV->AH->Prop):Exit->List AV->AH->Prop:=λx env' h'=>match x with
 | .normal=>N env' h'
 | x=>Q x env' h'

def wg (env:List AV):List (Nat×AV)->List AV
 | []=>env
 | (i,v)::r=>wg (env.set i v) r
def zo:Nat->Nat->List (Nat×AV)->List (Nat×AV)
 | _,0,m=>m
 | i,n+1,m=>(i,.any)::zo (i+1) n m

section
variable {P:Program} {Q:Exit->List AV->AH->Prop} {env:List AV} {h:AH}
theorem r_skip (a:Q .normal env h):vK P .skip Q env h:=a
theorem r_label (a:Q .normal env h):vK P (.label id) Q env h:=a
theorem r_ret (a:Q .ret env h):vK P .ret Q env h:=a
theorem r_exit (a:Q (.exit id) env h):vK P (.exit id) Q env h:=a
theorem zI {l:List Oper} (a:zK P ⟨l⟩ (Q .normal) l env h):vK P (.region id ⟨l⟩ false) Q env h:=a
theorem yv {a:Code} (c:vK P a (seqQ P h b Q) env h):vK P (.seq a b) Q env h:=c
theorem r_block {a:Code} (c:vK P a (blockQ id Q) env h):vK P (.block id a) Q env h:=c
theorem r_cond {c:Operand} {t e:Code} {b:Bool} (d:yx env c=some (.bool b)) (i:b=true->vK P t Q env h) (f:b=false->vK P e Q env h):vK P (.cond c t e) Q env h:=by
 obtain ⟨a,g⟩:=zM d;refine ⟨a,?_⟩
 simp_all
theorem yo {h0:AH} (a:vK P b Q env h):seqQ P h0 b Q .normal env h:=⟨env,h,wk.refl _ _ _,a⟩
theorem q_seqw {h0:AH} {a:List AV} {c:AH} (d:wk h0 env h a c) (e:vK P b Q a c):seqQ P h0 b Q .normal env h:=⟨a,c,d,e⟩
theorem q_seq_exit {h0:AH} (a:Q (.exit id) env h):seqQ P h0 b Q (.exit id) env h:=a
theorem wB {h0:AH} (a:Q .ret env h):seqQ P h0 b Q .ret env h:=a
theorem q_block (a:Q .normal env h):blockQ id Q .normal env h:=a
theorem q_block_ret (a:Q .ret env h):blockQ id Q .ret env h:=a
theorem q_block_hit (a:Q .normal env h):blockQ id Q (.exit id) env h:=by simp only [blockQ,ur];exact a
theorem qF {j:Nat} (a:j ≠ id) (c:Q (.exit j) env h):blockQ id Q (.exit j) env h:=by simp only [blockQ,uC a];exact c
theorem q_loop (a:N env h):loopQ N Q .normal env h:=a
theorem q_loop_exit (a:Q (.exit id) env h):loopQ N Q (.exit id) env h:=a
theorem q_loop_ret (a:Q .ret env h):loopQ N Q .ret env h:=a
theorem r_loop2 {σ:Type} (E:σ->List AV) (H:σ->AH) (d:σ->Prop) (i:σ->Nat) (j:σ) (h0:wk h env h (E j) (H j)) (hi:d j)
  (hs:∀s,d s->vK P body (loopQ (λa g=>∃c,d c/\i c < i s/\(wk (H s) a g (E c) (H c) \/ wk h a g (E c) (H c))) Q) (E s) (H s)):vK P (.loop body) Q env h:=by
 refine ⟨λn env h=>∃s,i s=n/\d s/\env=E s/\h=H s,⟨_,_,_,h0,j,rfl,hi,rfl,rfl⟩,?_⟩
 rintro n _ _ ⟨s,l,hi,rfl,rfl⟩
 subst l;have:=hs s hi;have e:(loopQ (λa g=>∃c,d c/\i c < i s/\(wk (H s) a g (E c) (H c) \/ wk h a g (E c) (H c))) Q) =
   (loopQ (λa g=>∃m f k,m < i s/\(wk (H s) a g f k \/ wk h a g f k)/\(∃c,i c=m/\d c/\f=E c/\k=H c)) Q):=by
  grind
 rw [e] at this;exact this
theorem fin_cut {h0:AH} {v v':AV} (c:leV v v') (d:v'.low h0.blks.length h0.toks.length=true)
  (e:∀(i:Nat) (k:Blk),i < h0.blks.length->h.blks[i]?=some k->h0.blks[i]?=some k \/ k.low h0.blks.length h0.toks.length=true) (a:K v' (h.cut h0.blks.length h0.toks.length)):finK h0 K v h :=
 ⟨v',_,(wk.le (leL.cons c leL.nil)).trans (wk.cut (by simp [zD,d]) e),a⟩
theorem wm {h0 a:AH} {v v':AV} (c:wk h0 [v] h [v'] a) (d:K v' a):finK h0 K v h:=⟨v',a,c,d⟩
theorem q_end {fn:Func} {h0:AH} (a:bodyQ P fn h0 K .ret env h):bodyQ P fn h0 K .normal env h:=a
end
theorem leV.of_eq {a b:AV} (h:a=b):leV a b:=h ▸ leV.refl a
theorem rwp_mono {P:Program} {h:AH} {r:Res} {K':AV->AH->Prop} (d:∀v a,K v a->K' v a) (c:rwp P h r K):rwp P h r K':=by
 cases r with
 | ok v a=>exact d _ _ c
 | len n v a=>exact λg=>d _ _ (c g)
 | call f args=>exact Spec.mono c d
 | round id args=>exact SpecY.mono c d
 | any S=>exact λv a e=>d _ _ (c v a e)
 | fail=>exact c
theorem awpOps_mono {P:Program} {a:Array Oper} {Q Q':List AV->AH->Prop} (c:∀e h,Q e h->Q' e h):∀(rest:List Oper) (env:List AV) (h:AH),zK P a Q rest env h->zK P a Q' rest env h
 | [],_,_,hk=>c _ _ hk
 | o::rest,_,_,⟨env,h,hs,hk⟩=>by
  refine ⟨env,h,hs,?_⟩;cases hb:aG a o env with
  | none=>rw [hb] at hk;exact hk
  | some b =>
   rw [hb] at hk;cases b with
   | true=>exact hk.imp (rwp_mono λv d=>awpOps_mono c rest _ _) (bwp_mono λv d=>awpOps_mono c rest _ _)
   | false=>exact awpOps_mono c rest _ _ hk
theorem awpDraw_mono {P:Program} {a:Array Oper} {Ns:List Nat} {F:Nat->AH->Prop} {Q Q':List AV->AH->Prop} (c:∀e h,Q e h->Q' e h):∀(rest:List Oper) (i:Nat) (env:List AV) (h:AH),zV P a Ns F Q i rest env h->zV P a Ns F Q' i rest env h
 | [],_,_,_,hk=>c _ _ hk
 | _::rest,i,_,_,⟨v,h',h1,h2,h4,h3⟩=>⟨v,h',h1,h2,h4,awpDraw_mono c rest (i+1) _ _ h3⟩
theorem awpAny_mono {P:Program} {d:Array Oper} {Q Q':List AV->AH->Prop} (f:∀e h,Q e h->Q' e h):∀(m:Nat) (a:Array Bool) (env:List AV) (h:AH),ve P d Q m a env h->ve P d Q' m a env h
 | 0,_,_,_,c=>⟨c.1,f _ _ c.2⟩
 | m+1,a,env,h,c=>by
  refine ⟨λe=>f _ _ (c.1 e),λi hi o j=>?_⟩;have c:=c.2 i hi o j;cases hb:aG d o env with
  | none=>rw [hb] at c;exact c
  | some b =>
   rw [hb] at c;cases b with
   | true=>exact c.imp (rwp_mono λv g=>awpAny_mono f m _ _ _) (bwp_mono λv g=>awpAny_mono f m _ _ _)
   | false=>exact awpAny_mono f m _ _ _ c
theorem wZ {P:Program}:∀{Q Q':Exit->List AV->AH->Prop} (_:∀x e h,Q x e h->Q' x e h) (c:Code) (env:List AV) (h:AH),vK P c Q env h->vK P c Q' env h
 | _,_,hq,.skip,_,_,hk=>hq _ _ _ hk
 | _,_,hq,.label _,_,_,hk=>hq _ _ _ hk
 | _,_,hq,.exit _,_,_,hk=>hq _ _ _ hk
 | _,_,hq,.ret,_,_,hk=>hq _ _ _ hk
 | _,_,hq,.region _ _ true,_,_,.inl ⟨Ns,F,j,k,d⟩=>.inl ⟨Ns,F,j,k,awpDraw_mono (hq .normal) _ _ _ _ d⟩
 | _,_,hq,.region _ _ true,_,_,.inr ⟨j,d⟩=>.inr ⟨j,awpAny_mono (hq .normal) _ _ _ _ d⟩
 | _,_,hq,.region _ _ false,_,_,hk=>awpOps_mono (hq .normal) _ _ _ hk
 | _,_,hq,.seq a b,_,_,hk=>wZ (λx i m j=>by
   cases x with
   | normal=>obtain ⟨w,d,k,l⟩:=j;exact ⟨w,d,k,wZ hq b _ _ l⟩
   | _=>exact hq _ _ _ j) a _ _ hk
 | _,_,hq,.cond c t e,env,_,⟨j,d⟩=>by
  refine ⟨j,?_⟩;cases hc:ev env c with
  | bool b =>
   rw [hc] at d;cases b with
   | true=>exact wZ hq t _ _ d
   | false=>exact wZ hq e _ _ d
  | _=>rw [hc] at d;exact d
 | _,_,hq,.block id body,_,_,hk=>wZ (λx i m j=>by
   cases x with
   | exit id' =>
    grind
   | _=>exact hq _ _ _ j) body _ _ hk
 | _,_,hq,.loop body,_,_,⟨I,j,d⟩=>⟨I,j,λn env h y=>wZ (λx i m k=>by
   cases x with
   | normal=>exact k
   | _=>exact hq _ _ _ k) body _ _ (d n env h y)⟩
 | _,_,hq,.rangeFunc f ps assign body,env,h,⟨j,d,k,env2,h5,hwk,l⟩=>by
  refine ⟨j,d,k,env2,h5,hwk,?_⟩;split at l
  ·rename_i g first p B
   refine l.mono λr m ⟨z,s,i,u,A,v,q,k2,o⟩=>⟨z,s,i,u,A,v,q,k2,?_⟩
   split at o
   ·simp_all
   ·simp_all
   ·simp_all
   ·exact o
  ·exact l
 | _,_,_,.scope _,_,_,hk=>hk.elim
 | _,_,_,.goto _,_,_,hk=>hk.elim
 | _,_,_,.refuse _,_,_,hk=>hk.elim
theorem r_loop {P:Program} {Q:Exit->List AV->AH->Prop} {env:List AV} {h:AH} {σ:Type} (E:σ->List AV) (H:σ->AH) (a:σ->Prop) (f:σ->Nat) (e:σ) (h0:wk h env h (E e) (H e)) (hi:a e)
  (hs:∀s,a s->vK P body (loopQ (λc g=>∃d,a d/\f d < f s/\wk (H s) c g (E d) (H d)) Q) (E s) (H s)):vK P (.loop body) Q env h :=
 r_loop2 E H a f e h0 hi λs hi=>wZ (λx c g i=>by
  cases x with
  | normal=>obtain ⟨d,k,j,l⟩:=i;exact ⟨d,k,j,.inl l⟩
  | _=>exact i) _ _ _ (hs s hi)
end Go.Vv
namespace Go.Vv
open Go
variable {b t q r:Bool} {k:IntKind} {l:List (TypeId×AV)} {f:Operand} {g:FuncId} {args:List AV}

theorem aG_gv {ops:Array Oper} {o:Oper} {env:List AV} {j d:Nat} {want b c:Bool} (hg:o.guard=some (j,want)) (hd:(ops[j]?).bind (·.dst)=some d) (he:env[d]?=some (gv b (.bool c))):aG ops o env=some (b&&(c==want)):=by
 simp only [aG,hg,hd,he];cases b <;> simp [gv,aundef]
theorem yd {env:List AV} {x:Operand} {v:AV} (a:yx env x=some (gv b v)) (c:b=true):yx env x=some v:=by subst c;rw [gv_true] at a;exact a
theorem gT (h:t=true):(t==true)=true:=by rw [h];rfl
theorem gF (h:t=false):(t==false)=true:=by rw [h];rfl
theorem and_l {a:Bool} (h:(a&&b)=true):a=true:=by simp_all
theorem pick_bb:(if t then AV.bool q else .bool r)=.bool (if t then q else r):=by grind
theorem pick_and (a:t=true->b=true):(if t then gv b (.bool q) else .bool false)=AV.bool (t&&q):=by cases t <;> simp [gv] ; simp [a rfl]
theorem pick_or (a:t=false->b=true):(if t then .bool true else gv b (.bool q))=AV.bool (t || q):=by cases t <;> simp [gv] ; simp [a rfl]
theorem pick_g1 (a:t=true->b=true):(if t then gv b (.bool q) else .bool r)=AV.bool (if t then q else r):=by cases t <;> simp [gv] ; simp [a rfl]
theorem pick_g2 (a:t=false->b=true):(if t then .bool r else gv b (.bool q))=AV.bool (if t then r else q):=by cases t <;> simp [gv] ; simp [a rfl]
theorem pick_g3 {c:Bool} (d:t=true->b=true) (a:t=false->c=true):(if t then gv b (.bool q) else gv c (.bool r))=AV.bool (if t then q else r):=by cases t <;> simp [gv] <;> simp [d,a]
theorem pick_ii {a b:Int}:(if t then AV.int k a else .int k b)=.int k (if t then a else b):=by grind
theorem pick_ig1 {x y:Int} (a:t=true->b=true):(if t then gv b (.int k x) else .int k y)=AV.int k (if t then x else y):=by cases t <;> simp [gv] ; simp [a rfl]
theorem pick_ig2 {x y:Int} (a:t=false->b=true):(if t then .int k y else gv b (.int k x))=AV.int k (if t then y else x):=by cases t <;> simp [gv] ; simp [a rfl]


section
variable {P:Program} {ops:Array Oper} {Q:List AV->AH->Prop} {o:Oper} {rest:List Oper} {env env':List AV} {h:AH}
variable {i:Nat} {Ns:List Nat} {F:Nat->AH->Prop}
theorem draw_nil (a:Q env h):zV P ops Ns F Q i [] env h:=a
theorem zq (e:Ns.contains i=false) {v:AV} (d:aG ops o env=some true) (c:zt P o env h=.ok v h) (hd:ww o.dst env v=some env') (a:zV P ops Ns F Q (i+1) rest env' h):zV P ops Ns F Q i (o::rest) env h :=
 ⟨v,h,.inl ⟨e,by simp only [AR,d,c,rX]⟩,.inr rfl,.inl rfl,by rw [xI hd];exact a⟩
theorem zz (j:Ns.contains i=false) {v:AV} {a:AH} (n:FOk ((Region.before ops).getD i 0) Ns F a) (m:anch ops Ns i=true) (e:aG ops o env=some true) (d:zt P o env h=.ok v a) (hd:ww o.dst env v=some env') (c:zV P ops Ns F Q (i+1) rest env' a):zV P ops Ns F Q i (o::rest) env h :=
 ⟨v,a,.inl ⟨j,by simp only [AR,e,d,rX]⟩,.inl m,.inr n,by rw [xI hd];exact c⟩
theorem draw_len (e:Ns.contains i=false) {n:Nat} {v:AV} (d:aG ops o env=some true) (c:zt P o env h=.len n v h) (hd:ww o.dst env v=some env') (a:zV P ops Ns F Q (i+1) rest env' h):zV P ops Ns F Q i (o::rest) env h :=
 ⟨v,h,.inl ⟨e,by simp only [AR,d,c,rX]⟩,.inr rfl,.inl rfl,by rw [xI hd];exact a⟩
theorem wq (j:Ns.contains i=false) {f:FuncId} {args:List AV} {v:AV} (e:aG ops o env=some true) (d:zt P o env h=.call f args) (hs:Spec P f args h λr c=>r=v/\c=h) (hd:ww o.dst env v=some env') (a:zV P ops Ns F Q (i+1) rest env' h) :
  zV P ops Ns F Q i (o::rest) env h:=⟨v,h,.inl ⟨j,by simp only [AR,e,d];exact hs⟩,.inr rfl,.inl rfl,by rw [xI hd];exact a⟩
theorem zJ (j:Ns.contains i=true) {f:FuncId} {args:List AV} {v:AV} (e:aG ops o env=some true) (d:∀a,zt P o env a=.call f args) (hs:∀a,F i a->Spec P f args a λr hh=>r=v/\hh=a) (hd:ww o.dst env v=some env') (c:zV P ops Ns F Q (i+1) rest env' h) :
  zV P ops Ns F Q i (o::rest) env h:=⟨v,h,.inr (.inl ⟨j,e,rfl,.inl ⟨f,args,d,hs⟩⟩),.inr rfl,.inl rfl,by rw [xI hd];exact c⟩
theorem xr (j:Ns.contains i=true) {v:AV} (e:aG ops o env=some true) (d:∀a,F i a->zt P o env a=.ok v a) (hd:ww o.dst env v=some env') (c:zV P ops Ns F Q (i+1) rest env' h) :
  zV P ops Ns F Q i (o::rest) env h:=⟨v,h,.inr (.inl ⟨j,e,rfl,.inr d⟩),.inr rfl,.inl rfl,by rw [xI hd];exact c⟩
theorem qQ (d:Ns.contains i=false) {b:Bool} {v:AV} (c:aG ops o env=some b) (e:b=true->zt P o env h=.ok v h) (hd:ww o.dst env (gv b v)=some env') (a:zV P ops Ns F Q (i+1) rest env' h):zV P ops Ns F Q i (o::rest) env h:=by
 cases b with
 | true=>rw [gv_true] at hd;exact zq d c (e rfl) hd a
 | false=>exact ⟨aundef,h,.inl ⟨d,by simp [AR,c]⟩,.inr rfl,.inl rfl,by rw [gv_false] at hd;rw [xI hd];exact a⟩
theorem draw_glen (d:Ns.contains i=false) {b:Bool} {n:Nat} {v:AV} (c:aG ops o env=some b) (e:b=true->zt P o env h=.len n v h) (hd:ww o.dst env (gv b v)=some env') (a:zV P ops Ns F Q (i+1) rest env' h):zV P ops Ns F Q i (o::rest) env h:=by
 cases b with
 | true=>rw [gv_true] at hd;exact draw_len d c (e rfl) hd a
 | false=>exact ⟨aundef,h,.inl ⟨d,by simp [AR,c]⟩,.inr rfl,.inl rfl,by rw [gv_false] at hd;rw [xI hd];exact a⟩
theorem xi (d:Ns.contains i=false) {b:Bool} {f:FuncId} {args:List AV} {v:AV} (c:aG ops o env=some b) (j:b=true->zt P o env h=.call f args) (hs:b=true->Spec P f args h λr e=>r=v/\e=h)
  (hd:ww o.dst env (gv b v)=some env') (a:zV P ops Ns F Q (i+1) rest env' h):zV P ops Ns F Q i (o::rest) env h:=by
 cases b with
 | true=>rw [gv_true] at hd;exact wq d c (j rfl) (hs rfl) hd a
 | false=>exact ⟨aundef,h,.inl ⟨d,by simp [AR,c]⟩,.inr rfl,.inl rfl,by rw [gv_false] at hd;rw [xI hd];exact a⟩
variable {i0:Nat}
end

inductive Fx (P:Program):List (TypeId×AV)->List AV->Prop
 | nil:Fx P [] []
 | cons {t:TypeId} {v v':AV} {r:List (TypeId×AV)} {s:List AV}:tyfix P t v=v'->Fx P r s->Fx P ((t,v)::r) (v'::s)
theorem Fx.eq {P:Program} {s:List AV} (h:Fx P l s):fixL P l=s:=by
 induction h with
 | nil=>rfl
 | cons h _ ih=>simp only [fixL,h,ih]
theorem z7 {P:Program} {o:Oper} {env:List AV} {h:AH} {c:Call} (d:o.op=.call c) (m:c.callee=.value f) (a:yx env f=some (.fn (.func g) [] []))
  (e:argo env c.args.toList c.argTypes.toList=some l) (j:Fx P l args):zt P o env h=.call g args :=
 s_call d m a e (by simp [j.eq])
theorem s_callC {P:Program} {o:Oper} {env:List AV} {h:AH} {c:Call} {first a all:List AV} (j:o.op=.call c) (p:c.callee=.value f) (e:yx env f=some (.fn (.func g) first a))
  (m:argo env c.args.toList c.argTypes.toList=some l) (n:Fx P l args) (d:first++args++a=all):zt P o env h=.call g all :=
 s_call j p e m (by rw [n.eq,d])
theorem r_loopU {P:Program} {Q:Exit->List AV->AH->Prop} {env:List AV} {h:AH} {body:Code} {σ:Type} (U:σ->List (Nat×AV)) (a:σ->Prop) (d:σ->Nat) (e:σ) {E:σ->List AV} (m:∀s,wg env (U s)=E s) (h0:leL env (E e)) (hi:a e)
  (hs:∀s,a s->vK P body (loopQ (λenv' j=>∃c,a c/\d c < d s/\wk h env' j (E c) h) Q) (E s) h):vK P (.loop body) Q env h :=
 r_loop E (λ_=>h) a d e (wk.le h0) hi hs
end Go.Vv
namespace Go.Vv
open Go
variable {j k off n:Nat} {cs cs' ds z:List AV} {v v':AV} {t e:TypeId} {x:Operand} {d:TypeDesc} {fn:Func} {f:FuncId} {l l':List (Nat×AV)} {ks:List Kd}

def AH.ext (h:AH) (L:List Blk) (M:List Nat):AH:={ blks:=h.blks++L,toks:=h.toks++M }
theorem ext_nil (h:AH):h.ext [] []=h:=by simp [AH.ext]
theorem yb {h:AH} {L:List Blk} {M:List Nat}:(h.ext L M).blk (h.blks.length+j)=L[j]?:=by
 simp only [AH.blk,AH.ext]
 grind
theorem ext_new {h:AH} {L:List Blk} {M:List Nat} {b:Blk}:(h.ext L M).new b=h.ext (L++[b]) M:=by simp [AH.ext,AH.new,uB]
theorem ext_put {h:AH} {L:List Blk} {M:List Nat} {b:Blk}:(h.ext L M).put (h.blks.length+j) b=h.ext (L.set j b) M:=by
 simp only [AH.ext,AH.put]
 simp_all
theorem ext_cut {h:AH} {L:List Blk} {M:List Nat}:(h.ext L M).cut h.blks.length h.toks.length=h:=by
 simp [AH.cut,AH.ext]
def ldC (ag:Bool) (k off:Nat) (cs:List AV):Option AV:=if ag then (if off+k<=cs.length then some (.agg ((cs.drop off).take k)) else none) else cs[off]?
theorem yq (h:cs[off]?=some v):ldC false k off cs=some v:=h
theorem ldC_ag (h:Nat.ble (off+k) cs.length=true) (a:(cs.drop off).take k=cs'):ldC true k off cs=some (.agg cs'):=by
 simp only [ldC,ur,uv (tx h),a]

section
variable {P:Program} {o:Oper} {env:List AV} {h:AH} {L:List Blk} {M:List Nat}
theorem vi (b:o.op=.alloc t) (c:xl P t=some cs) (a:L.length=n):zt P o env (h.ext L M)=.ok (.ptr (h.blks.length+n) 0) (h.ext (L++[.cells cs]) M):=by
 rw [s_alloc b c,ext_new,<- a];simp [AH.ext]
theorem e_box {a a':AV} (c:o.op=.box t x) (i:yx env x=some a) (b:tyfix P t a=a') (g:a'.cells?=some cs) (m:L.length=n) :
  zt P o env (h.ext L M)=.ok (.ptr (h.blks.length+n) 0) (h.ext (L++[.cells cs]) M):=by
 rw [s_box c i b g,ext_new,<- m];simp [AH.ext]
theorem wv (b:o.op=.load t x) (i:Ty P t d k) (m:yx env x=some (.ptr (h.blks.length+j) off)) (c:L[j]?=some (.cells cs))
  (g:ldC (yp d) k off cs=some v) (a:tyfix P t v=v'):zt P o env (h.ext L M)=.ok v' (h.ext L M):=by
 refine s_load b i m ?_ a;simp only [qZ,yb,c];exact g
theorem f_load (b:o.op=.load t x) (g:Ty P t d k) (i:yx env x=some (.fptr cs))
  (c:ldC (yp d) k 0 cs=some v) (a:tyfix P t v=v'):zt P o env h=.ok v' h:=by
 refine s_load b g i ?_ a;simp only [qZ];simpa only [ldC,tA,sf] using c
theorem zY {y:Operand} {vs:List AV} {b a:AV} (g:o.op=.store t x y) (q:Ty P t d k) (u:yx env x=some (.ptr (h.blks.length+j) off)) (p:yx env y=some b)
  (c:tyfix P t b=a) (s:a.cells?=some vs) (m:vs.length=k) (i:L[j]?=some (.cells cs)) (r:Nat.ble (off+k) cs.length=true) (hs:yX cs off vs=cs'):zt P o env (h.ext L M)=.ok aundef (h.ext (L.set j (.cells cs')) M):=by
 refine s_store g q u p c ?_;simp only [aStore,s,yb,i];rw [uv ⟨m,tx r⟩,ext_put,hs]
end
theorem wk_ext2 {h:AH} {L0 L1 L':List Blk} {M0 M1 M':List Nat} {env:List AV} (p:zD (h.blks.length+L0.length) (h.toks.length+M0.length) env=true) (s:L'.take L0.length=L1) (q:M'.take M0.length=M1)
  (r:∀(i:Nat) (k:Blk),L1[i]?=some k->L0[i]?=some k \/ k.low (h.blks.length+L0.length) (h.toks.length+M0.length)=true) :
  wk (h.ext L0 M0) env (h.ext L' M') env (h.ext L1 M1):=by
 have b:(h.ext L0 M0).blks.length=h.blks.length+L0.length:=by simp [AH.ext]
 have c:(h.ext L0 M0).toks.length=h.toks.length+M0.length:=by simp [AH.ext]
 have:=wk.cut (hd:=h.ext L0 M0) (env:=env) (h:=h.ext L' M') (by rw [b,c];exact p) (λi k hi a=>by
  rw [b] at hi;rw [b,c];simp only [AH.ext] at a ⊢;rcases sB i h.blks.length with g | g
  ·rw [un g] at a ⊢;exact .inl a
  ·rw [um g] at a ⊢;exact r (i - h.blks.length) k (by grind))
 have m:(h.ext L' M').cut (h.ext L0 M0).blks.length (h.ext L0 M0).toks.length=h.ext L1 M1:=by
  rw [b,c];simp only [AH.cut,AH.ext,tX,uy,s,q];rw [uM (l:=h.blks) (by omega),uM (l:=h.toks) (by omega)]
 rw [m] at this;exact this
theorem e_range {P:Program} {o:Oper} {env:List AV} {h:AH} {L:List Blk} {M:List Nat} {s:List UInt8} (a:o.op=.range t x) (g:Ty P t .string k) (i:yx env x=some (.str s)) (m:L.length=n) :
  zt P o env (h.ext L M)=.ok (.ptr (h.blks.length+n) 0) (h.ext (L++[.siter s 0]) M):=by
 obtain ⟨c,b⟩:=zM i;simp only [zt,a,c,ur,g.u,b,ext_new,<- m];simp [AH.ext]
theorem ops_next {P:Program} {b:Array Oper} {Q:List AV->AH->Prop} {o:Oper} {rest:List Oper} {env:List AV} {y:List AV} {u:List AV} {h:AH} {L:List Blk} {M:List Nat} {s:List UInt8} {a:Nat} (q:aG b o env=some true) (w:o.op=.next x true)
  (B:yx env x=some (.ptr (h.blks.length+j) 0)) (A:L[j]?=some (.siter s a)) (m:ww o.dst env (.tup [.bool true,.int .i64 a,.int .i32 (dec s a).1])=some y) (c:ww o.dst env (.tup [.bool false])=some u)
  (i:a < s.length->zK P b Q rest y (h.ext (L.set j (.siter s (a+(dec s a).2))) M)) (g:s.length<=a->zK P b Q rest u (h.ext L M)):zK P b Q (o::rest) env (h.ext L M):=by
 obtain ⟨r,p⟩:=zM B;by_cases hp:a < s.length
 ·refine zc q ?_ m (i hp);simp only [zt,w,r,tf,ur,p,aNext,yb,A,hp,ext_put]
 ·refine zc q ?_ c (g (by omega));simp only [zt,w,r,tf,ur,p,aNext,yb,A,hp,uH]
section
variable {P:Program} {env:List AV} {h:AH} {rs:List ResultVar} {vs:List AV}
theorem rl_nil:qU P env h []=some []:=rfl
theorem qD {t:Nat} (b:yx env (.tmp t)=some v) (k:qU P env h rs=some vs):qU P env h (.tmp t::rs)=some (v::vs):=by
 have a:env.getD t aundef=v:=by rw [uA,show env[t]?=some v from b];rfl
 simp only [qU,k,a]
theorem rl_cell {a t:Nat} {L:List Blk} {M:List Nat} (c:Ty P t d k) (g:yx env (.tmp a)=some (.ptr (h.blks.length+j) 0)) (m:L[j]?=some (.cells cs)) (p:ldC (yp d) k 0 cs=some v) (w:tyfix P t v=v')
  (r:qU P env (h.ext L M) rs=some vs):qU P env (h.ext L M) (.cell a t::rs)=some (v'::vs):=by
 have b:env.getD a aundef=.ptr (h.blks.length+j) 0:=by rw [uA,show env[a]?=some _ from g];rfl
 obtain ⟨i,s,q⟩:=c.i;simp only [qU,c.u,s,q,b,qZ,yb,m,r];have e:(if yp d then if 0+k<=cs.length then some (AV.agg ((cs.drop 0).take k)) else none else cs[0]?)=some v:=p
 simp_all
theorem q_retL1 {K:AV->AH->Prop} {h0:AH} (c:fn.results=⟨rs⟩) (a:qU P env h rs=some [v]) (b:finK h0 K v h):bodyQ P fn h0 K .ret env h:=by
 simp only [bodyQ,aRes,c,a];exact b
theorem q_retL {K:AV->AH->Prop} {h0:AH} {w:AV} {r:List AV} (c:fn.results=⟨rs⟩) (b:qU P env h rs=some (v::w::r)) (a:finK h0 K (.tup (v::w::r)) h):bodyQ P fn h0 K .ret env h:=by
 simp only [bodyQ,aRes,c,b];exact a
end
theorem xO {h:AH} {L:List Blk} {M:List Nat} {K:AV->AH->Prop} (b:leV v v') (c:v'.low h.blks.length h.toks.length=true) (a:K v' h):finK h K v (h.ext L M):=by
 refine fin_cut b c (λi k hi a=>.inl ?_) (by rw [ext_cut];exact a);simp only [AH.ext] at a
 grind
theorem zb {P : Program} {c : Code} (hf : P.funcs[f]? = some fn) (hb : fn.body = some c) (hname : (fn.name == "runtime.NumGoroutine") = false) {args : List AV} {h : AH} {K : AV → AH → Prop} {env : List AV}
  (he:args++List.replicate (fn.ntmps - args.length) aundef=env) (hw:vK P c (bodyQ P fn h K) env (h.ext [] [])):Spec P f args h K:=by
 rw [ext_nil] at hw;exact spec_of_body hf hb hname (by simp_all)
theorem yO (hd:yp d=true) {k off:Nat} {cs cs':List AV} (h:Nat.ble (off+k) cs.length=true) (a:(cs.drop off).take k=cs'):ldC (yp d) k off cs=some (.agg cs'):=by
 rw [hd];exact ldC_ag h a
theorem qG {P:Program} (a:P.underlying t=some d) (hi:(P.info? t).map (λi=>i.size)=some k):Ty P t d k:=by
 refine ⟨a,?_⟩
 simp_all
theorem qv {P:Program} {u:TypeId} {f:Nat} (a:fieldOff P t f=some (off,u)) (hi:(P.info? u).map (λi=>i.size)=some k):Fo P t f off u k:=by
 refine ⟨a,?_⟩
 simp_all
theorem mkEl {P:Program} (a:P.underlying t=some (.slice e)) (hi:(P.info? e).map (λi=>(i.size,decide (i.bytes<=65536)&&decide (0 < k)&&(i.zero.map (·.cells.size))==some k))=some (k,true)):El P t e k:=by
 refine ⟨a,?_⟩;cases h:P.info? e with
 | none=>rw [h] at hi;cases hi
 | some i =>
  simp_all
theorem w64 {n:Int} (h:-9223372036854775808<=n/\n<=9223372036854775807):IntKind.i64.wrap n=n:=by rw [IntKind.wrap_i64];omega
theorem xc {n m:Int} (e:n=m) (h:-9223372036854775808<=n/\n<=9223372036854775807):AV.int .i64 (IntKind.i64.wrap n)=.int .i64 m:=by rw [w64 h,e]
theorem zA {env:List AV}:argo env [] []=some []:=rfl
theorem zk {env:List AV} {r:List Operand} {ts:List TypeId} {l:List (TypeId×AV)} (h:yx env x=some v) (k:argo env r ts=some l):argo env (x::r) (t::ts)=some ((t,v)::l):=by
 simp only [argo,h,k]
theorem yh (h:n<=maxLen):n<=9223372036854775807:=h
theorem Spec.le {P:Program} {a5 bs:List AV} {h:AH} {K:AV->AH->Prop} (s:Spec P f bs h K) (k:leL a5 bs):Spec P f a5 h K :=
 ⟨s.1,λB w0 _ g w vs r a=>s.2 B w0 g w vs r (k _ _ a)⟩
abbrev plainK2:=x5
structure PK (P:Program) (t:TypeId) (ks:List Kd):Prop where
 g:P.eqGuardType P.depth t=false
 a:(P.underlying t).any yp=true
 k:x5 P 6 t=some ks
theorem mkPK {P:Program} (a:P.eqGuardType P.depth t=false) (b:(P.underlying t).any yp=true) (c:plainK2 P 6 t=some ks):PK P t ks:=⟨a,b,c⟩
theorem bin_eq {P:Program} {b:Bool} (c:PK P t ks) (h:qW ks cs ds=some b):yM P .eql t (.agg cs) (.agg ds)=some (.bool b):=by
 simp only [yM,aEq,c.g,c.a,c.k,rM,rX,ur,h,uY]
theorem bin_ne {P:Program} {b:Bool} (c:PK P t ks) (h:qW ks cs ds=some b):yM P .neq t (.agg cs) (.agg ds)=some (.bool !b):=by
 simp only [yM,aEq,c.g,c.a,c.k,rM,rX,ur,h,uY]
structure PKA (P:Program) (t:TypeId) (ks:List Kd):Prop where
 g:P.eqGuardType P.depth t=false
 a:(P.underlying t).any yp=true
 k:(x5 P 6 t).or (arrKs P t)=some ks
def parto (env:List AV):List (Nat×Operand)->Option (List (Nat×AV))
 | []=>some []
 | (i,x)::r=>match yx env x,parto env r with
  | some v,some vs=>some ((i,v)::vs)
  | _,_=>none
theorem zg {env:List AV}:parto env []=some []:=rfl
theorem zf {env:List AV} {i:Nat} {r:List (Nat×Operand)} (h:yx env x=some v) (k:parto env r=some l):parto env ((i,x)::r)=some ((i,v)::l):=by simp only [parto,h,k]
inductive Fp (P:Program) (d:TypeDesc):List (Nat×AV)->List (Nat×AV)->Prop
 | nil:Fp P d [] []
 | cons {i:Nat} {v v':AV} {r s:List (Nat×AV)}:tyfix P (partTy d i) v=v'->Fp P d r s->Fp P d ((i,v)::r) ((i,v')::s)
theorem parts_ok {P:Program} {d:TypeDesc} {env:List AV}:∀{parts:List (Nat×Operand)} {l l':List (Nat×AV)},parto env parts=some l->Fp P d l l' ->
  parts.all (λp=>yr p.2)=true/\parts.map (λp=>(p.1,tyfix P (partTy d p.1) (ev env p.2)))=l'
 | [],l,l',h,hf=>by simp only [parto,ui] at h;subst h;cases hf;exact ⟨rfl,rfl⟩
 | (i,x)::r,l,l',h,hf=>by
  simp only [parto] at h;split at h
  ·rename_i v vs b a;cases h;cases hf with
   | cons h1 h2 =>
    obtain ⟨q,g⟩:=parts_ok a h2;obtain ⟨m,c⟩:=zM b
    grind
  ·cases h
theorem yi {P:Program} {o:Oper} {env:List AV} {h:AH} {parts:List (Nat×Operand)} {fs:Array Field} {pl:List (Nat×Nat)} (q:o.op=.build t ⟨parts⟩) (s:P.underlying t=some (.struct fs)) (c:xl P t=some z)
  (g:vD P fs=some pl) (r:parto env parts=some l) (m:Fp P (.struct fs) l l') (w:vN (λi=>pl[i]?) z l'=some cs) (u:cs=cs'):zt P o env h=.ok (.agg cs') h:=by
 obtain ⟨y,b⟩:=parts_ok r m;have a:(⟨parts⟩:Array (Nat×Operand)).all (λp=>yr p.2)=true:=by grind
 simp only [zt,q,a,ur,s,c,g,xw,b,w,uY,oo,u]
theorem s_buildArr {P:Program} {o:Oper} {env:List AV} {h:AH} {parts:List (Nat×Operand)} (q:o.op=.build t ⟨parts⟩) (s:P.underlying t=some (.array n e)) (g:xl P t=some z)
  (y:Ty P e d k) (r:parto env parts=some l) (m:Fp P (.array n e) l l') (A:vN (λi=>some (i * k,k)) z l'=some cs) (w:cs=cs'):zt P o env h=.ok (.agg cs') h:=by
 obtain ⟨B,b⟩:=parts_ok r m;obtain ⟨j,u,c⟩:=y.i;have a:(⟨parts⟩:Array (Nat×Operand)).all (λp=>yr p.2)=true:=by grind
 simp only [zt,q,a,ur,s,g,u,c,xw,b,A,uY,oo,w]
theorem zr {P:Program} {o:Oper} {env:List AV} {h:AH} {parts:List (Nat×Operand)} {es:List (List AV)} (y:o.op=.buildSlice t n ⟨parts⟩) (c:El P t e k) (s:xl P e=some z)
  (m:Nat.ble (n * k) 65536=true) (a:z.length=k) (A:parto env parts=some l) (w:Fp P (.slice e) l l') (D:vN (λi=>some (i * k,k)) ((List.replicate n z).flatten) l'=some cs) (E:xy cs=some cs') (B:rows k n cs'=es) :
  zt P o env h=.ok (.osl none k es) h:=by
 obtain ⟨F,g⟩:=parts_ok A w;obtain ⟨j,C,q,_,r,_⟩:=c.i;have b:(⟨parts⟩:Array (Nat×Operand)).all (λp=>yr p.2)=true:=by grind
 simp only [zt,y,b,ur,c.u,s,C,q,xw,g,D,E,B,r,tx m,a,rX]
end Go.Vv
namespace Go.Vv
open Go
variable {i:Nat} {c:Operand} {body:Code} {N:List AV->AH->Prop}

abbrev zu:=List UInt8
def InK (k:IntKind) (n:Int):Prop:=k.min<=n/\n<=k.max
inductive Out (ρ σ:Type) where
 | ret (r:ρ)
 | brk (s:σ)
 | nxt (s:σ)
section
variable {α ρ σ:Type}
def zp (f:Nat->α->σ->Option (Out ρ σ)):List α->Nat->σ->Option (ρ ⊕ σ)
 | [],_,s=>some (.inr s)
 | x::t,i,s=>match f i x s with
  | none=>none
  | some (.ret r)=>some (.inl r)
  | some (.brk s')=>some (.inr s')
  | some (.nxt s')=>zp f t (i+1) s'
def wI (f:σ->Option (Out ρ σ)):Nat->σ->Option (ρ ⊕ σ)
 | 0,_=>none
 | n+1,s=>match f s with
  | none=>none
  | some (.ret r)=>some (.inl r)
  | some (.brk s')=>some (.inr s')
  | some (.nxt s')=>wI f n s'
theorem loopN_more {f:σ->Option (Out ρ σ)}:∀{n m:Nat} {s:σ} {o:ρ ⊕ σ},wI f n s=some o->n<=m->wI f m s=some o
 | 0,_,_,_,h,_=>by simp [wI] at h
 | n+1,0,_,_,_,hl=>by omega
 | n+1,m+1,s,o,h,hl=>by
  simp only [wI] at h ⊢;rcases hf:f s with _ | (r | a | a) <;> rw [hf] at h <;> simp only at h ⊢
  ·cases h
  ·exact h
  ·exact h
  ·exact loopN_more h (by omega)
open Classical in
noncomputable def zZ (f:σ->Option (Out ρ σ)) (s:σ):Option (ρ ⊕ σ) :=
 if h:∃n o,wI f n s=some o then some (Classical.choose (sd h)) else none
theorem loopW_of {f:σ->Option (Out ρ σ)} {n:Nat} {s:σ} {o:ρ ⊕ σ} (h:wI f n s=some o):zZ f s=some o:=by
 have a:∃n o,wI f n s=some o:=⟨n,o,h⟩
 unfold zZ;rw [pU a];have b:=sd (sd a);have d:=loopN_more b (Nat.le_max_left _ n);have e:=loopN_more h (Nat.le_max_right (Classical.choose a) n)
 grind
theorem loopW_is {f:σ->Option (Out ρ σ)} {s:σ} {o:ρ ⊕ σ} (h:zZ f s=some o):∃n,wI f n s=some o:=by
 unfold zZ at h;split at h
 ·grind
 ·cases h
theorem yI (f:σ->Option (Out ρ σ)) (s:σ):zZ f s=match f s with
  | none=>none
  | some (.ret r)=>some (.inl r)
  | some (.brk b)=>some (.inr b)
  | some (.nxt b)=>zZ f b:=by
 rcases hf:f s with _ | (r | b | b) <;> simp only
 ·cases hx:zZ f s with
  | none=>rfl
  | some o =>
   obtain ⟨n,a⟩:=loopW_is hx;cases n <;> simp [wI,hf] at a
 ·exact loopW_of (n:=1) (by simp only [wI,hf])
 ·exact loopW_of (n:=1) (by simp only [wI,hf])
 ·cases hx:zZ f b with
  | some o =>
   obtain ⟨n,a⟩:=loopW_is hx;exact loopW_of (n:=n+1) (by simp only [wI,hf];exact a)
  | none =>
   cases hy:zZ f s with
   | none=>rfl
   | some o =>
    obtain ⟨n,a⟩:=loopW_is hy;cases n with
    | zero=>simp [wI] at a
    | succ n =>
     simp only [wI,hf] at a;rw [loopW_of a] at hx;cases hx
def lp (o:Option (ρ ⊕ σ)) (rest:σ->Option ρ):Option ρ :=
 match o with
 | none=>none
 | some (.inl r)=>some r
 | some (.inr s)=>rest s
def yl (p:Prop) [Decidable p] (o:Option ρ):Option ρ:=if p then o else none
def zQ (L:List α) (n:Int):Option α:=if 0<=n then L[n.toNat]? else none
def slc (L:List α) (lo hi:Int):Option (List α):=if 0<=lo/\lo<=hi/\hi<=L.length then some ((L.take hi.toNat).drop lo.toNat) else none

theorem zd {α ρ:Type} {o:Option α} {k:α->Option ρ} {r:ρ} {G:Prop} (a:o.bind k=some r) (b:∀v,o=some v->k v=some r->G):G:=by
 cases o with
 | none=>cases a
 | some v=>exact b v rfl a
theorem ya {α ρ:Type} {b:Bool} {d:α} {o:Option α} {k:α->Option ρ} {r:ρ} {G:Prop} (a:(if b=true then o else some d).bind k=some r) (e:∀v,(b=true->o=some v)->k v=some r->G):G:=by
 cases b with
 | false=>exact e d (λh=>by cases h) a
 | true =>
  cases o with
  | none=>cases a
  | some v=>exact e v (λ_=>rfl) a
theorem yf {p:Prop} [Decidable p] {o:Option ρ} {r:ρ} {G:Prop} (a:yl p o=some r) (b:p->o=some r->G):G:=by
 unfold yl at a
 simp_all
theorem idxF {L:List α} {n:Int} {y:α} (h:zQ L n=some y):0<=n/\L[n.toNat]?=some y:=by
 unfold zQ at h
 simp_all
theorem slcF {L M:List α} {lo hi:Int} (h:slc L lo hi=some M):(0<=lo/\lo<=hi/\hi<=L.length)/\M=(L.take hi.toNat).drop lo.toNat:=by
 unfold slc at h
 simp_all

def konL (f:Nat->α->σ->Option (Out ρ σ)) (L:List α) (i:Nat) (rest:σ->Option ρ):Out ρ σ->Option ρ
 | .ret r=>some r
 | .brk s=>rest s
 | .nxt s=>lp (zp f (L.drop (i+1)) (i+1) s) rest
def konN (f:σ->Option (Out ρ σ)) (n:Nat) (rest:σ->Option ρ):Out ρ σ->Option ρ
 | .ret r=>some r
 | .brk s=>rest s
 | .nxt s=>lp (wI f n s) rest
def konJ (rest:σ->Option ρ):ρ ⊕ σ->Option ρ
 | .inl r=>some r
 | .inr s=>rest s
theorem loopL_step {f:Nat->α->σ->Option (Out ρ σ)} {L:List α} {s:σ} {rest:σ->Option ρ} {d:ρ} (h:lp (zp f (L.drop i) i s) rest=some d) (b:i < L.length) :
  ∃x g,L[i]?=some x/\f i x s=some g/\konL f L i rest g=some d:=by
 have e:=(s8 b).symm;rw [e] at h;refine ⟨L[i],?_⟩;simp only [zp] at h;split at h
 ·cases h
 ·rename_i r a;exact ⟨.ret r,ue b,a,h⟩
 ·rename_i r a;exact ⟨.brk r,ue b,a,h⟩
 ·rename_i r a;exact ⟨.nxt r,ue b,a,h⟩
theorem loopL_end {f:Nat->α->σ->Option (Out ρ σ)} {L:List α} {s:σ} {rest:σ->Option ρ} {a:ρ} (h:lp (zp f (L.drop i) i s) rest=some a) (b:¬ i < L.length):rest s=some a:=by
 rw [tp (by omega)] at h;exact h
theorem lpF {o:Option (ρ ⊕ σ)} {rest:σ->Option ρ} {b:ρ} (h:lp o rest=some b):∃a,o=some a/\konJ rest a=some b:=by
 cases o with
 | none=>cases h
 | some a=>cases a <;> exact ⟨_,rfl,h⟩
end
section
variable {P:Program} {Q:Exit->List AV->AH->Prop} {env:List AV} {h:AH} {α ρ σ:Type}
theorem ze {t e:Code} {b:Bool} {A B:Option ρ} {r:ρ} (g:yx env c=some (.bool b)) (j:(if b=true then A else B)=some r) (f:b=true->A=some r->vK P t Q env h) (d:b=false->B=some r->vK P e Q env h) :
  vK P (.cond c t e) Q env h:=by
 refine r_cond g (λa=>f a ?_) (λa=>d a ?_)
 ·simp_all
 ·simp_all
theorem zF {f:Nat->α->σ->Option (Out ρ σ)} {L:List α} {s:σ} {rest:σ->Option ρ} {a:ρ} {t e:Code} (l:yx env c=some (.bool (decide ((i:Int) < (L.length:Int))))) (j:lp (zp f (L.drop i) i s) rest=some a)
  (o:∀x g,i < L.length->L[i]?=some x->f i x s=some g->konL f L i rest g=some a->vK P t Q env h) (k:rest s=some a->vK P e Q env h):vK P (.cond c t e) Q env h:=by
 refine r_cond l (λd=>?_) (λd=>?_)
 ·have b:i < L.length:=by have:=tq d;omega
  obtain ⟨x,g,n,m,p⟩:=loopL_step j b
  simp_all
 ·have b:¬ i < L.length:=by have:=of_decide_eq_false d;omega
  exact k (loopL_end j b)
theorem zy {f:Nat->α->σ->Option (Out ρ σ)} {L:List α} {j:σ} {rest:σ->Option ρ} {g:ρ} (U:Nat->σ->List (Nat×AV)) (H:σ->AH) (k:lp (zp f L 0 j) rest=some g) {E:Nat->σ->List AV}
  (o:∀i s,wg env (U i s)=E i s) (h0:wk h env h (E 0 j) (H j))
  (hs:∀i s,i<=L.length->lp (zp f (L.drop i) i s) rest=some g->vK P body (loopQ (λa d=>∃b,i < L.length/\lp (zp f (L.drop (i+1)) (i+1) b) rest=some g/\wk (H s) a d (E (i+1) b) (H b)) Q) (E i s) (H s)) :
  vK P (.loop body) Q env h:=by
 refine r_loop (σ:=Nat×σ) (λp=>E p.1 p.2) (λp=>H p.2) (λp=>p.1<=L.length/\lp (zp f (L.drop p.1) p.1 p.2) rest=some g) (λp=>L.length - p.1) (0,j) h0 ⟨tz _,k⟩ ?_
 rintro ⟨i,s⟩ ⟨hi,k⟩
 have:=hs i s hi k;have e:(loopQ (λa d=>∃b,i < L.length/\lp (zp f (L.drop (i+1)) (i+1) b) rest=some g/\wk (H s) a d (E (i+1) b) (H b)) Q) =
  λx a d=>match x with | .normal=>∃b,i < L.length/\lp (zp f (L.drop (i+1)) (i+1) b) rest=some g/\wk (H s) a d (E (i+1) b) (H b) | x=>Q x a d:=rfl
 refine wZ ?_ _ _ _ this;intro x a d l;cases x with
 | normal =>
  obtain ⟨b,n,m,q⟩:=l;exact ⟨(i+1,b),⟨n,m⟩,by omega,q⟩
 | _=>exact l
theorem r_loopLE {f:Nat->α->σ->Option (Out ρ σ)} {L:List α} {d:σ} {rest:σ->Option ρ} {e:ρ} (U:Nat->σ->List (Nat×AV)) (H:σ->AH) (g:lp (zp f L 0 d) rest=some e) {E:Nat->σ->List AV}
  (n:∀i s,wg env (U i s)=E i s) (h0:wk h env h (E 0 d) (H d))
  (hs:∀i s,i<=L.length->lp (zp f (L.drop i) i s) rest=some e->vK P body (loopQ (λa j=>∃b,i < L.length/\lp (zp f (L.drop (i+1)) (i+1) b) rest=some e/\wk h a j (E (i+1) b) (H b)) Q) (E i s) (H s)) :
  vK P (.loop body) Q env h:=by
 refine r_loop2 (σ:=Nat×σ) (λp=>E p.1 p.2) (λp=>H p.2) (λp=>p.1<=L.length/\lp (zp f (L.drop p.1) p.1 p.2) rest=some e) (λp=>L.length - p.1) (0,d) h0 ⟨tz _,g⟩ ?_
 rintro ⟨i,s⟩ ⟨hi,g⟩
 refine wZ ?_ _ _ _ (hs i s hi g);intro x a j k;cases x with
 | normal =>
  obtain ⟨b,m,l,o⟩:=k;exact ⟨(i+1,b),⟨m,l⟩,by omega,.inr o⟩
 | _=>exact k
theorem xe {f:σ->Option (Out ρ σ)} {k:σ} {rest:σ->Option ρ} {e:ρ} (U:σ->List (Nat×AV)) (H:σ->AH) (a:lp (zZ f k) rest=some e) {E:σ->List AV}
  (v:∀s,wg env (U s)=E s) (h0:wk h env h (E k) (H k))
  (hs:∀n s d,f s=some d->konN f n rest d=some e->vK P body (loopQ (λb q=>∃g,lp (wI f n g) rest=some e/\wk (H s) b q (E g) (H g)) Q) (E s) (H s)) :
  vK P (.loop body) Q env h:=by
 obtain ⟨u,o⟩:∃n,lp (wI f n k) rest=some e:=by
  obtain ⟨d,j,m⟩:=lpF a;obtain ⟨n,w⟩:=loopW_is j
  grind
 refine r_loop (σ:=Nat×σ) (λp=>E p.2) (λp=>H p.2) (λp=>lp (wI f p.1 p.2) rest=some e) (λp=>p.1) (u,k) h0 o ?_
 rintro ⟨n,s⟩ a
 cases n with
 | zero=>simp [wI,lp] at a
 | succ n =>
  obtain ⟨d,j,m⟩:∃d,f s=some d/\konN f n rest d=some e:=by
   simp only [wI] at a;split at a
   ·cases a
   ·rename_i r l;exact ⟨.ret r,l,a⟩
   ·rename_i r l;exact ⟨.brk r,l,a⟩
   ·rename_i r l;exact ⟨.nxt r,l,a⟩
  refine wZ ?_ _ _ _ (hs n s d j m);intro x b q t;cases x with
  | normal =>
   obtain ⟨g,j,m⟩:=t;exact ⟨(n,g),j,by omega,m⟩
  | _=>exact t
def joinQ (h0:AH) (N:List AV->AH->Prop) (Q:Exit->List AV->AH->Prop):Exit->List AV->AH->Prop:=λx env' h'=>match x with
 | .normal=>N env' h'
 | x=>Q x env' h'
theorem r_join {a b:Code} {J:Option (ρ ⊕ σ)} {rest:σ->Option ρ} {e:ρ} (U:σ->List (Nat×AV)) (H:σ->AH) (r:lp J rest=some e) {E:σ->List AV} (l:∀s,wg env (U s)=E s)
  (k:∀f,J=some f->konJ rest f=some e->vK P a (joinQ h (λd g=>∃s,rest s=some e/\wk h d g (E s) (H s)) Q) env h)
  (q:∀s,rest s=some e->vK P b Q (E s) (H s)):vK P (.seq a b) Q env h:=by
 obtain ⟨f,o,m⟩:=lpF r;refine yv (wZ ?_ _ _ _ (k f o m));intro x d g j;cases x with
 | normal =>
  obtain ⟨s,p,n⟩:=j;exact ⟨_,_,n,q s p⟩
 | _=>exact j
theorem q_join {h0:AH} (a:N env h):joinQ h0 N Q .normal env h:=a
theorem q_join_ret {h0:AH} (a:Q .ret env h):joinQ h0 N Q .ret env h:=a
end
end Go.Vv
