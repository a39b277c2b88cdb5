/- Rules for maps: lists of keys and values. -/
import Derived.Test.YtgaelgcadcmfnaaGreatDoorVvU
import Derived.ProofKit
import Derived.OpenShut
import Derived.JoinedCond
import Derived.HandedShaped
set_option linter.all false
namespace Go.Vv
open Go
variable {B:List Blk}
section
variable {K W:Type}
def xL (eq:K->K->Bool) (d:W):List (K×W)->K->W
 | [],_=>d
 | e::r,k=>if eq k e.1 then e.2 else xL eq d r k
def mhas (eq:K->K->Bool):List (K×W)->K->Bool
 | [],_=>false
 | e::r,k=>eq k e.1 || mhas eq r k
def midx (eq:K->K->Bool):List (K×W)->K->Nat
 | [],_=>0
 | e::r,k=>if eq k e.1 then 0 else midx eq r k+1
def mput (eq:K->K->Bool):List (K×W)->K->W->List (K×W)
 | [],k,v=>[(k,v)]
 | e::r,k,v=>if eq k e.1 then (e.1,v)::r else e::mput eq r k v
def ment (eq:K->K->Bool) (d:W) (m:List (K×W)) (k:K):List (K×W):=if mhas eq m k then m else m++[(k,d)]
def mrow (kv:K->AV) (vv:W->AV) (e:K×W):AV×AV:=(kv e.1,vv e.2)

theorem midx_lt {eq:K->K->Bool} {k:K}:∀{m:List (K×W)},mhas eq m k=true->midx eq m k < m.length
 | [],h=>by simp [mhas] at h
 | e::r,h=>by
  simp only [mhas,midx,ue] at h ⊢;by_cases hk:eq k e.1=true
  ·simp [hk]
  ·simp only [hk,tK,uL,up] at h ⊢;have:=midx_lt h;omega
theorem midx_eq {eq:K->K->Bool} {k:K}:∀{m:List (K×W)},mhas eq m k=false->midx eq m k=m.length
 | [],h=>rfl
 | e::r,h=>by
  simp only [mhas,midx,ue,tP] at h ⊢;simp [h.1,midx_eq h.2]
theorem mput_has {eq:K->K->Bool} {k:K} {v:W}:∀{m:List (K×W)} {e:K×W},mhas eq m k=true->m[midx eq m k]?=some e->m.set (midx eq m k) (e.1,v)=mput eq m k v
 | [],_,h,_=>by simp_all
 | p::r,e,h,he=>by
  simp only [mhas,midx,mput] at h he ⊢;by_cases hk:eq k p.1=true
  ·simp_all
  ·simp only [hk,tK,uL,up,List.getElem?_cons_succ] at h he ⊢;rw [ul,mput_has h he]
theorem mput_not {eq:K->K->Bool} {k:K} {v:W}:∀{m:List (K×W)},mhas eq m k=false->m++[(k,v)]=mput eq m k v
 | [],_=>rfl
 | p::r,h=>by
  simp only [mhas,mput,tP] at h ⊢;simp [h.1,mput_not h.2]
def KQ (P:Program) (kt:TypeId) (kv:K->AV) (eq:K->K->Bool):Prop:=(∀a b,xD P kt (kv a) (kv b)=some (eq a b))/\∀a,eq a a=true
theorem KQ.str {P:Program} {t:TypeId} {z:Nat} (h:Ty P t .string z):KQ P t AV.str (λa b=>a==b):=⟨λa b=>by simp only [xD,h.u,aEq1],λa=>by simp⟩
theorem KQ.int {P:Program} {t:TypeId} {i:IntKind} {z:Nat} (h:Ty P t (.int i) z):KQ P t (AV.int i) (λa b=>a==b):=⟨λa b=>by simp only [xD,h.u,aEq1,uq],λa=>by simp⟩
theorem KQ.struct {P:Program} {t:TypeId} {fs:Array Field} {c:List Kd} {row:K->List AV} {eq:K->K->Bool} (g:P.underlying t=some (.struct fs)) (e:PK P t c) (h:∀a b,vQ c (row a) (row b)=some (eq a b)) (f:∀a,eq a a=true):KQ P t (λx=>.agg (row x)) eq :=
 ⟨λa b=>by simp only [xD,g,e.k,h],f⟩

variable {P:Program} {kt et t:TypeId} {kv:K->AV} {vv:W->AV} {eq:K->K->Bool} {d:W}
theorem aFind_is (a:KQ P kt kv eq) (d:W) (k:K):∀(m:List (K×W)) (i:Nat),aFind P kt (kv k) (m.map (mrow kv vv)) i=some (if mhas eq m k then some (i+midx eq m k,vv (xL eq d m k)) else none)
 | [],i=>rfl
 | e::r,i=>by
  have l:=aFind_is a d k r (i+1);simp only [uu,aFind];have g:xD P kt (kv k) (mrow kv vv e).1=some (eq k e.1):=a.1 _ _;rw [g];by_cases h:eq k e.1=true
  ·have b:mhas eq (e::r) k=true:=by simp [mhas,h]
   have f:midx eq (e::r) k=0:=by simp [midx,h]
   have c:xL eq d (e::r) k=e.2:=by simp [xL,h]
   rw [b,f,c,h];rfl
  ·simp only [Bool.not_eq_true] at h;have b:mhas eq (e::r) k=mhas eq r k:=by simp [mhas,h]
   have f:midx eq (e::r) k=midx eq r k+1:=by simp [midx,h]
   have c:xL eq d (e::r) k=xL eq d r k:=by simp [xL,h]
   grind

variable {ops:Array Oper} {o:Oper} {env:List AV} {h:AH} {L:List Blk} {M:List Nat} {m:List (K×W)} {k:K} {j:Nat} {x y z:Operand}
theorem e_makeMap {n:Nat} (b:o.op=.makeMap t none) (a:L.length=n):zn P o env (h.ext L M)=.ok (.map (h.blks.length+n)) (h.ext (L++[.mapo [] 0]) M):=by
 simp only [zn,b,ext_new,<- a];simp [AH.ext]
theorem e_lookup (c:o.op=.lookup t x y false) (n:P.underlying t=some (.map kt et)) (a:KQ P kt kv eq) (q:aZeroM P et=some (vv d)) (hx:yg env x=some (.map (h.blks.length+j))) (b:L[j]?=some (.mapo (m.map (mrow kv vv)) 0)) (f:yg env y=some (kv k)) :
  zn P o env (h.ext L M)=.ok (vv (xL eq d m k)) (h.ext L M):=by
 obtain ⟨l,g⟩:=zC hx;obtain ⟨p,i⟩:=zC f;simp only [zn,c,l,g,p,i,n,uV,uq,aLookup,a.1,a.2,yJ,b,aFind_is a d k m 0,q];cases hm:mhas eq m k with
 | true=>simp [withOk,oo]
 | false =>
  have:xL eq d m k=d:=by
   clear b
   induction m with
   | nil=>rfl
   | cons e r ih=>simp only [mhas,tP] at hm;simp only [xL,hm.1,up,uL];exact ih hm.2
  simp [withOk,oo,this]
theorem e_entry (c:o.op=.mapEntry t x y) (q:P.underlying t=some (.map kt et)) (a:KQ P kt kv eq) (u:aZeroM P et=some (vv d)) (hx:yg env x=some (.map (h.blks.length+j))) (b:L[j]?=some (.mapo (m.map (mrow kv vv)) 0)) (g:yg env y=some (kv k))
  (p:L.set j (.mapo ((ment eq d m k).map (mrow kv vv)) 0)=B):zn P o env (h.ext L M)=.ok (.tup [vv (xL eq d m k),.int .i64 (midx eq m k)]) (h.ext B M):=by
 obtain ⟨n,i⟩:=zC hx;obtain ⟨s,l⟩:=zC g;subst p;simp only [zn,c,n,i,s,l,q,uV,uq,aEntry,a.1,a.2,yJ,b,aFind_is a d k m 0,u,ment];cases hm:mhas eq m k with
 | true =>
  have:L.set j (.mapo (m.map (mrow kv vv)) 0)=L:=by
   apply uZ
   grind
  simp [ovh,this]
 | false =>
  have f:xL eq d m k=d:=by
   clear b
   induction m with
   | nil=>rfl
   | cons e r ih=>simp only [mhas,tP] at hm;simp only [xL,hm.1,up,uL];exact ih hm.2
  simp [ovh,f,qw,mrow,midx_eq hm]
theorem e_entryStore {v:W} {i:Int} {n:IntKind} (u:o.op=.entryStore t x y z) (hx:yg env x=some (.map (h.blks.length+j))) (D:L[j]?=some (.mapo ((ment eq d m k).map (mrow kv vv)) 0)) (w:yg env y=some (.int n i)) (hi:i=midx eq m k) {a:AV} (s:yg env z=some a) (b:a.zcl=vv v)
  (E:L.set j (.mapo ((mput eq m k v).map (mrow kv vv)) 0)=B):zn P o env (h.ext L M)=.ok aundef (h.ext B M):=by
 obtain ⟨q,l⟩:=zC hx;obtain ⟨A,p⟩:=zC w;obtain ⟨r,C⟩:=zC s;subst E hi;have h0:(0:Int)<=(midx eq m k:Int):=by omega
 have key:∃e,(ment eq d m k)[midx eq m k]?=some e/\(ment eq d m k).set (midx eq m k) (e.1,v)=mput eq m k v:=by
  unfold ment;cases hm:mhas eq m k with
  | true =>
   have g:=midx_lt hm;exact ⟨m[midx eq m k],by simp [g],by simpa using mput_has hm (ui g)⟩
  | false =>
   refine ⟨(k,d),by simp [midx_eq hm],?_⟩;simp only [up,uL,midx_eq hm];rw [<- mput_not hm];simp
 obtain ⟨e,f,c⟩:=key;simp only [zn,u,q,l,A,p,r,C,b,uV,uq,qQ,yJ,D,h0,uP,tX,f,uU,oh,qw,<- c,List.map_set];rfl
theorem ops_mlen {Q:List AV->AH->Prop} {rest:List Oper} {a:List AV} {c:Call} (g:aG ops o env=some true) (n:o.op=.call c) (r:c.callee=.builtin .len) (q:c.args=#[x]) (b:c.argTypes=#[t]) (f:P.underlying t=some (.map kt et))
  (hx:yg env x=some (.map (h.blks.length+j))) (p:L[j]?=some (.mapo (m.map (mrow kv vv)) 0)) (hd:qx o.dst env (.int .i64 m.length)=some a) (i:zA P ops Q rest a (h.ext L M)):zA P ops Q (o::rest) env (h.ext L M):=by
 obtain ⟨l,e⟩:=zC hx;have key:zn P o env (h.ext L M)=.any λv h'=>h'=h.ext L M/\v=.int .i64 m.length:=by
  simp [zn,n,r,q,b,l,e,qR,f,yJ,p]
 refine wJ ?_;simp only [g,gwp,key,rwp]
 rintro v h' ⟨rfl,rfl⟩
 rw [yL hd];exact i

theorem mgetD_app {eq:K->K->Bool} {d:W} {k:K} (a:eq k k=true):∀{m:List (K×W)},xL eq d (m++[(k,d)]) k=xL eq d m k
 | []=>by simp [xL,a]
 | e::r=>by simp [xL,mgetD_app a]
theorem mgetD_ment {eq:K->K->Bool} {d:W} {k:K} (a:eq k k=true) {m:List (K×W)}:xL eq d (ment eq d m k) k=xL eq d m k:=by
 unfold ment;split
 ·rfl
 ·exact mgetD_app a
def MapE (h:AH) (j:Nat) (m1 m2:List (AV×AV)) (x:AH):Prop:=∃B T,x=h.ext B T/\(B[j]?=some (.mapo m1 0) \/ B[j]?=some (.mapo m2 0))
theorem e_lookupF (e:o.op=.lookup t x y false) (g:P.underlying t=some (.map kt et)) (a:KQ P kt kv eq) (i:aZeroM P et=some (vv d)) (hx:yg env x=some (.map (h.blks.length+j))) (f:yg env y=some (kv k)) :
  ∀c,MapE h j (m.map (mrow kv vv)) ((ment eq d m k).map (mrow kv vv)) c->zn P o env c=.ok (vv (xL eq d m k)) c:=by
 rintro _ ⟨B,T,rfl,b | b⟩
 ·exact e_lookup e g a i hx b f
 ·rw [<- mgetD_ment (m:=m) (d:=d) (a.2 k)];exact e_lookup e g a i hx b f
theorem FOk.skip {b:Nat} {Ns:List Nat} {F:Nat->AH->Prop} {h:AH} (c:Ns.all (λn=>b.testBit n)=true):FOk b Ns F h:=λn e a=>by
 simp_all
end
end Go.Vv
namespace Go.Vv
open Go Go.RowKit
variable {ops:Array Oper} {o:Oper} {rest:List Oper} {env':List AV} {x:Operand}
section
variable {α ρ σ:Type}
open Classical in
end
section
variable {P:Program} {env:List AV} {h:AH} {Q:Exit->List AV->AH->Prop}
theorem ops_entryM {K W:Type} {kv:K->AV} {vv:W->AV} {Q:List AV->AH->Prop} {env:List AV} {h:AH} {L:List Blk} {M:List Nat} {m:List (K×W)} {id j i:Nat} {y:K×W} {a:List Nat}
  (e:aG ops o env=some true) (k:o.op=.entry x) (hx:yg env x=some (.ptr (h.blks.length+j) 0)) (n:L[j]?=some (.miter id m.length (a++[i]))) (d:(h.ext L M).blk id=some (.mapo (m.map (mrow kv vv)) 0)) (l:m[i]?=some y)
  (hd:qx o.dst env (.tup [kv y.1,vv y.2])=some env') (f:zA P ops Q rest env' (h.ext L M)):zA P ops Q (o::rest) env (h.ext L M):=by
 obtain ⟨g,c⟩:=zC hx;have key:wm P o env (h.ext L M)=some [(.tup [kv y.1,vv y.2],h.ext L M)]:=by
  simp [wm,k,g,c,yJ,n,d,l,mrow]
 refine awpOps_consB e ⟨_,key,λp b=>?_⟩;simp only [uA] at b;subst b;show zA P ops Q rest (setd env o.dst (.tup [kv y.1,vv y.2])) _;rw [yL hd];exact f
theorem bytesX_map:∀L:List UInt8,bytesX (L.map wQ)=some L
 | []=>rfl
 | b::r=>by
  have a:b.toNat < 256:=b.toBitVec.isLt;simp only [uu,wQ,bytesX];rw [uv ⟨by omega,by omega⟩,bytesX_map r];simp
def slOrOsl (k:Nat) (es:List (List AV)) (a:AV):Prop:=a=.sl k es \/ ∃q,a=.osl q k es
theorem convB {env:List AV} {h:AH} {s t e:TypeId} {a:AV} {L:List UInt8} (f:o.op=.convert s t x) (hs:P.underlying s=some (.slice e)) (c:P.underlying e=some (.int .u8)) (j:P.underlying t=some .string)
  (hx:yg env x=some a) (b:slOrOsl 1 (L.map wQ) (tyfix P s a)) (d:L.length<=maxLen):wm P o env h=some [(.str L,h)]:=by
 obtain ⟨i,g⟩:=zC hx;simp only [wm,f,i,g,uq,convX,hs,j];rcases b with b | ⟨q,b⟩
 ·rw [b];simp only [c,bytesX_map,uv d]
 ·rw [b];simp only [c,bytesX_map,uv d]
theorem ops_b {Q:List AV->AH->Prop} {env:List AV} {h h':AH} {v:AV} (d:aG ops o env=some true) (c:wm P o env h=some [(v,h')]) (hd:qx o.dst env v=some env') (b:zA P ops Q rest env' h'):zA P ops Q (o::rest) env h:=by
 refine awpOps_consB d ⟨_,c,λp a=>?_⟩;simp only [uA] at a;subst a;show zA P ops Q rest (setd env o.dst v) h';rw [yL hd];exact b
end
end Go.Vv
namespace Go.Vv
open Go Go.RowKit Go.ChangeShapes Go.WideShapes Go.ChangeAt
variable {t:TypeId} {α:Type} {n total off:Nat} {v:Value}

def g0 (W:World):Gh:={ Φ:=λb j=>if b < W.heap.size then W.cell? ⟨b,j,none⟩ else none,σ:=[],τ:=[],δ:=[],O:=λb=>b < W.heap.size }
def h0:AH:={ blks:=[],toks:=[] }
theorem rel0 (W:World):Rel W.heap.size W (g0 W) h0 W:=by
 refine ⟨Below.refl _ _,ug _,λb j v h=>?_,rfl,λi c k d _=>by simp [g0] at d,rfl,λi t a=>by simp [g0] at a,λi j c hi=>by simp [g0] at hi,λi j t t' b x y hi=>by simp [g0] at hi,λi c j t b x hi=>by simp [g0] at hi,λc d=>by simp [g0] at d,λi k hi=>by simp [g0] at hi,λi j t k k' es es' hi=>by simp [h0] at hi,λb x h=>by simp [g0] at h,λb h=>⟨h,λs=>by simp [g0]⟩,λb _=>⟨λi=>by simp [g0],by simp [g0],λi t y a=>by simp [g0] at a⟩⟩;simp only [g0] at h
 simp_all

section
variable {H:Type} {enc:TypeId×Value->H} {P:Program} {W:World}
mutual
def wb:DataW H->Nat
 | .lit (.string bytes)=>bytes.length+1
 | .lit _=>1
 | .nil=>1
 | .ptr d=>wb d+1
 | .slice elems spare=>wa elems+wa spare+1
 | .agg parts=>wa parts+1
 | .iface _ d=>wb d+1
 | .map entries=>vBulkEs entries+1
 | .held _=>1
def wa:List (DataW H)->Nat
 | []=>0
 | d::r=>wb d+wa r
def vBulkEs:List (Lit×DataW H)->Nat
 | []=>0
 | x::r=>vBulkEs r+vBulkE x
def vBulkE:Lit×DataW H->Nat
 | (.string bytes,d)=>bytes.length+wb d+1
 | (_,d)=>wb d+1
end
theorem sum_bulk {α:Type} {bk:α->Nat}:∀{l:List α} {ds:List (DataW H)},l.length=ds.length->(∀(i:Nat) (a:α) (d:DataW H),l[i]?=some a->ds[i]?=some d->bk a<=wb d)->(l.map bk).sum<=wa ds
 | [],_,_,_=>by simp
 | a::r,[],hl,_=>by simp at hl
 | a::r,d::ds,hl,h=>by
  have e:=h 0 a d rfl rfl;have c:=sum_bulk (bk:=bk) (l:=r) (ds:=ds) (by simp_all) (λi x y hx b=>h (i+1) x y (by simp_all) (by simp_all));simp only [uu,tc,wa];omega
def RdN (enc:TypeId×Value->H) (P:Program) (W:World) (n:Nat) (t:TypeId) {α:Type} (row:α->List AV) (wf:α->Prop) (bk:α->Nat):Prop :=
 ∀cs x,DataW.trod enc P W 0 (λ_=>true) true n t cs=some x->∃y,VL (g0 W) (row y) cs/\wf y/\bk y<=wb x.1
theorem RdN.zero {row:α->List AV} {wf:α->Prop} {bk:α->Nat}:RdN enc P W 0 t row wf bk:=λcs x h=>by simp [DataW.trod] at h
theorem RdN.map {e:Type} {row:α->List AV} {wf:α->Prop} {b:e->List AV} {d:e->Prop} {bk:α->Nat} {c:e->Nat} (f:α->e) (h:RdN enc P W n t row wf bk) (l:∀a,b (f a)=row a) (k:∀a,wf a->d (f a)) (i:∀a,c (f a)=bk a):RdN enc P W n t b d c:=λcs x hx=>by
 obtain ⟨y,j,g,m⟩:=h cs x hx
 grind
theorem rd_int {k:IntKind} (b:P.underlying t=some (.int k)):RdN enc P W n t (intRow k) (InK k) (λ_=>1):=by
 cases n with
 | zero=>exact RdN.zero
 | succ n =>
  intro cs x h;rw [DataW.trod_step] at h;unfold DataW.trodStep at h;rw [b] at h;split at h <;> simp_all;obtain ⟨⟨rfl,a⟩,rfl⟩:=h;exact ⟨_,VL.cons (by rfl) (by simp [VL]),by simpa [Lit.wf,InK] using a,by simp [wb]⟩
theorem rd_str (a:P.underlying t=some .string):RdN enc P W n t zg (λs=>s.length<=maxLen) (λs=>s.length+1):=by
 cases n with
 | zero=>exact RdN.zero
 | succ n =>
  intro cs x h;rw [DataW.trod_step] at h;unfold DataW.trodStep at h;rw [a] at h;split at h <;> simp_all;rename_i s;have hs:s.data.toList.length=s.size:=rfl;obtain ⟨h,rfl⟩:=h;refine ⟨s.data.toList,VL.cons ?_ (by simp [VL]),by omega,by simp [wb]⟩;simp only [V]
  simp_all
theorem mapM_get {α e:Type} {f:α->Option e}:∀{l:List α} {xs:List e},l.mapM f=some xs->∀a ∈ l,∃x,f a=some x
 | [],_,_,a,c=>by cases c
 | b::r,xs,h,a,c=>by
  simp only [s5,sL,si,rp,uj] at h;obtain ⟨v,g,vs,d,rfl⟩:=h;rcases ut.1 c with rfl | c
  ·simp_all
  ·exact mapM_get d a c
theorem mapM_len {α c:Type} {f:α->Option c}:∀{l:List α} {xs:List c},l.mapM f=some xs->xs.length=l.length
 | [],_,h=>by simp_all
 | b::r,xs,h=>by
  simp only [s5,sL,si,rp,uj] at h;obtain ⟨v,d,vs,a,rfl⟩:=h;simp [mapM_len a]
theorem mapM_at {α d:Type} {f:α->Option d}:∀{l:List α} {xs:List d},l.mapM f=some xs->∀(i:Nat) (a:α),l[i]?=some a->∃x,f a=some x/\xs[i]?=some x
 | [],_,_,i,a,ha=>by simp at ha
 | b::r,xs,h,i,a,ha=>by
  simp only [s5,sL,si,rp,uj] at h;obtain ⟨v,e,vs,c,rfl⟩:=h;cases i with
  | zero=>simp at ha;subst ha;exact ⟨v,e,rfl⟩
  | succ i=>simpa using mapM_at c i a (by simp_all)
theorem ones_of_pure {a5:List AV} (h:a5.all AV.pure=true):a5.all AV.one=true:=by
 rw [ur] at h ⊢;exact λa b=>AV.one_of_pure (h a b)
theorem rd_slice {e:TypeId} {k:Nat} {row:α->List AV} {wf:α->Prop} {bk:α->Nat} (U:P.underlying t=some (.slice e)) (Z:P.cellsOf e=k) (hk:0 < k) (S:∀y,(row y).length=k) (I:∀y,(row y).all AV.pure=true) (T:∀m,m < n->RdN enc P W m e row wf bk) :
  RdN enc P W n t (λL=>[AV.sl k (L.map row)]) (λL:List α=>L.length<=maxLen/\∀y ∈ L,wf y) (λL=>(L.map bk).sum+1):=by
 cases n with
 | zero=>exact RdN.zero
 | succ n =>
  intro cs x h;rw [DataW.trod_step] at h;unfold DataW.trodStep at h;rw [U] at h;split at h
  all_goals first | (exfalso;simp_all;done) | skip
  ·-- nil
   cases h;exact ⟨[],VL.cons (by simp only [V];exact ⟨none,0,rfl,by simp,by simp,.inl rfl⟩) (by simp [VL]),⟨by simp,λy s=>by cases s⟩,by simp [wb]⟩
  ·rename_i _ _ O a len cap A;injection A with A;injection A with A;subst A;simp only [Z] at h;split at h
   ·rename_i N;obtain ⟨_,X,r⟩:=N;rcases hel:(List.range len).mapM λi=>(W.cells? 0 (a.add (i * k)) k).bind (DataW.trod enc P W 0 (λ_=>true) true n e) with _ | b
    ·simp_all
    ·-- the elements,one by one
     have D:b.length=len:=by rw [mapM_len hel];simp
     have E:wa (b.map (·.1))+1<=wb x.1:=by
      rw [hel] at h;simp only [ua,tQ] at h;obtain ⟨rest,_,rfl⟩:=h;simp only [wb];omega
     have key:∀i,i < len->∃y us,W.cells? 0 (a.add (i * k)) k=some us/\VL (g0 W) (row y) us/\wf y/\∀z,b[i]?=some z->bk y<=wb z.1:=by
      intro i hi;obtain ⟨z,G,R⟩:=mapM_at hel i i (rR hi);rcases hcs:W.cells? 0 (a.add (i * k)) k with _ | us
      ·simp_all
      ·rw [hcs] at G;obtain ⟨y,l,F,h3⟩:=T n (sN n) us z G
       grind
     rcases ru len with h0 | q
     ·subst h0;exact ⟨[],VL.cons (by simp only [V];exact ⟨some a,cap,rfl,by simp,r,.inl rfl⟩) (by simp [VL]),⟨by simp,λy s=>by cases s⟩,by simp;omega⟩
     ·have B:Nonempty α:=⟨(key 0 q).choose⟩
      have w:∀i,∃y,i < len->∃us,W.cells? 0 (a.add (i * k)) k=some us/\VL (g0 W) (row y) us/\wf y/\∀z,b[i]?=some z->bk y<=wb z.1:=by
       intro i;by_cases hi:i < len
       ·simp_all
       ·exact ⟨Classical.choice B,λh=>absurd h hi⟩
      obtain ⟨f,J⟩:=Classical.axiomOfChoice w
      -- no place within a cell
      have c:a.spot=none:=by
       obtain ⟨us,l,_⟩:=J 0 q;unfold World.cells? at l;rw [uv (tO _)] at l;obtain ⟨v,p⟩:=mapM_get l 0 (by simp_all);simp only [Nat.zero_mul] at p;have Y:(a.add 0).add 0=a:=by rfl
       rw [Y] at p;unfold World.cell? at p;split at p
       ·simp_all
       ·cases p
      have M:a=⟨a.block,a.off,none⟩:=by cases a;simp at c;simp [c]
      refine ⟨(List.range len).map f,VL.cons ?_ (by simp [VL]),⟨by simp;omega,λy s=>?_⟩,?_⟩
      ·simp only [V];refine ⟨some a,cap,by simp,by grind,r,.inr ⟨a.block,a.off,congrArg some M,VE.mk λi O o=>?_⟩⟩;simp only [sG,tX] at o;have hi:i < len:=by
        grind
       rw [rR hi] at o;simp only [uU,Function.comp,uj] at o;subst o;obtain ⟨us,l,F,_,_⟩:=J i hi;refine ⟨S _,VC.ofVA (VA.mk F (ones_of_pure (I _))) (I _) λj u K=>?_⟩;unfold World.cells? at l;rw [uv (tO _)] at l;have C:j < k:=by
        have:=(uc.1 K).1;rw [mapM_len l] at this;simpa using this
       obtain ⟨v,p,g⟩:=mapM_at l j j (rR C);rw [K] at g;injection g with g;subst g;have Q:(a.add (i * k)).add j=⟨a.block,a.off+i * k+j,none⟩:=by
        rw [M,xl,xl]
       rw [Q] at p;simp only [g0];rw [uv (World.block_lt_of_cell? W _ p)];exact p
      ·grind
      ·refine uB (Nat.add_le_add_right (sum_bulk (bk:=bk) (ds:=b.map (·.1)) (by simp [D]) λi y d s hd=>?_) 1) E
       grind
   ·cases h

def RdF (enc:TypeId×Value->H) (P:Program) (W:World) (n:Nat) (total off:Nat) (fs:List Field) {α:Type} (row:α->List AV) (wf:α->Prop) (bk:α->Nat):Prop :=
 ∀(cs:List Value) xs,cs.length=total->(fs.mapM λf=>DataW.trod enc P W 0 (λ_=>true) true n f.type ((cs.drop f.offset).take (P.cellsOf f.type)))=some xs->∃y,VL (g0 W) (row y) (cs.drop off)/\wf y/\bk y<=wa (xs.map (·.1))
theorem rf_nil (h:total<=off):RdF enc P W n total off [] (λ_:Unit=>[]) (λ_=>True) (λ_=>0):=λcs xs a _=>⟨(),by rw [tr (by omega)];simp [VL],trivial,tO _⟩
theorem xH {k a:Nat} {f:Field} {fs:List Field} {i:Type} {row:α->List AV} {wf:α->Prop} {b:i->List AV} {d:i->Prop} {bk:α->Nat} {c:i->Nat} (q:f.offset=off) (B:P.cellsOf f.type=k) (g:off+k=a) (h:RdN enc P W n f.type row wf bk) (r:RdF enc P W n total a fs b d c) :
  RdF enc P W n total off (f::fs) (λp:α×i=>row p.1++b p.2) (λp=>wf p.1/\d p.2) (λp=>bk p.1+c p.2):=by
 intro cs xs s hx;simp only [s5,sL,si,rp,uj] at hx;obtain ⟨v,x,vs,j,rfl⟩:=hx;obtain ⟨y,l,m,A⟩:=h _ _ x;obtain ⟨z,u,o,w⟩:=r _ _ s j;refine ⟨(y,z),?_,⟨m,o⟩,by simp only [uu,wa];omega⟩;have e:cs.drop off=(cs.drop off).take k++cs.drop a:=by
  rw [<- g,<- tG,t7]
 rw [e];rw [q,B] at l;exact VL.append l u
theorem rd_struct {fs:Array Field} {l:List Field} {row:α->List AV} {wf:α->Prop} {bk:α->Nat} (g:P.underlying t=some (.struct fs)) (c:fs.toList=l) (i:P.cellsOf t=total) (h:∀m,m < n->RdF enc P W m total 0 l row wf bk):RdN enc P W n t row wf (λy=>bk y+1):=by
 cases n with
 | zero=>exact RdN.zero
 | succ n =>
  intro cs x hx;rw [DataW.trod_step] at hx;unfold DataW.trodStep at hx;rw [g] at hx;split at hx
  all_goals first | (exfalso;simp_all;done) | skip
  rename_i cs _ _ e b;injection b with b;injection b with b;subst b;split at hx
  ·rename_i a;rw [c] at hx;rcases hm:(l.mapM λf=>DataW.trod enc P W 0 (λ_=>true) true n f.type ((cs.drop f.offset).take (P.cellsOf f.type))) with _ | xs
   ·simp_all
   ·obtain ⟨y,j,d,k⟩:=h n (sN n) cs xs (by rw [a,i]) hm;rw [hm] at hx;simp only [uU,uj] at hx;subst hx;exact ⟨y,by simp_all,d,by simp only [wb];omega⟩
  ·cases hx
theorem rd_arg {row:α->List AV} {wf:α->Prop} {bk:α->Nat} {d:DataW H} {p:List MemPlace} (a:∀n,RdN enc P W n t row wf bk) (h:DataW.Trod enc P W 0 (λ_=>true) true t v d p):∃y,VL (g0 W) (row y) v.cells.toList/\wf y/\bk y<=wb d:=by
 obtain ⟨n,b⟩:=h;exact a n _ _ b
theorem V.of_one {a:AV} {g:Gh} (b:∀cs,v ≠ .agg cs) (h:VL g [a] v.cells.toList):V g a v:=by
 simp only [VL] at h;obtain ⟨u,s,e,c,rfl⟩:=h;have:v.cells=#[v]:=by cases v <;> first | rfl | exact absurd rfl (b _)
 simp_all
theorem post_of_below {f:Func} {s:ChangeSpec} {apart l c i:Bool} {W':World} {args:Array Value} {ds gs:List (DataW H)} {a q pv:List MemPlace}
  (w:DataW.Whole enc P f.params.toList s.vars apart W args.toList ds gs a) (y:Below W.heap.size W W')
  (h:∀(b:Nat) (k:Nat->Bool) (hd:Bool),DataW.TrodAll enc P W' b k hd f.resultTypes.toList (v.resultList f.resultTypes.size) (s.fn H (ds++gs)).results [])
  (d:∀k:Nat->Bool,(∀p ∈ a,k p.block=true)->DataW.TrodAll enc P W' 0 k true f.params.toList args.toList (s.fn H (ds++gs)).args q)
  (e:∀k:Nat->Bool,(∀p ∈ a,k p.block=true)->DataW.TrodVars enc P W' k s.vars (s.fn H (ds++gs)).vars pv)
  (A:a=q++pv)
  (x:∀(j:Nat) (t:TypeId) (r:Value),f.resultTypes[j]?=some t->(v.resultList f.resultTypes.size)[j]?=some r->Value.okWide P W' .any 0 t r) :
  s.post enc P f apart l c i W args v W':=by
 have u:∀p ∈ a,p.block < W.heap.size:=λp o=>by simpa using w.lt p o
 have g:∀p ∈ a,(λb=>decide (b < W.heap.size)) p.block=true:=λp o=>by simp_all
 refine ⟨ds,gs,a,[],q,pv,w,h _ _ _,d _ g,e _ g,World.keptBut_mono (λp o=>⟨o,?_⟩) (y.frame (· ∈ a)),λ_=>?_⟩
 ·simp_all
 ·obtain ⟨_,_,_,_,_,z,B⟩:=w;refine ⟨x,_,_,([]++q)++pv,⟨[]++q,pv,trodAll_append (d _ (λ_ _=>rfl)) (h _ _ _),e _ (λ_ _=>rfl),rfl,?_,?_⟩,?_⟩
  ·intro b off o;have m:MemPlace.cell b off ∈ a:=by simp_all
   rw [y.frozen (p:=⟨b,off,none⟩) (u _ m)];exact z b off m
  ·simp_all
  ·simp_all
end
end Go.Vv
namespace Go.Vv
open Go Go.ChangeShapes Go.WideShapes
end Go.Vv
namespace Go.Vv
open Go
section
variable {α ρ σ:Type}
@[simp] theorem lp_none {rest:σ->Option ρ}:lp (none:Option (ρ ⊕ σ)) rest=none:=rfl
@[simp] theorem lp_inl {rest:σ->Option ρ} {r:ρ}:lp (some (.inl r)) rest=some r:=rfl
@[simp] theorem vI {rest:σ->Option ρ} {s:σ}:lp (some (.inr s)) rest=rest s:=rfl
theorem zx {p:Prop} [Decidable p] {o:Option ρ} (h:p):ym p o=o:=uv h
theorem loopL_all {f:Nat->α->Unit->Option (Out ρ Unit)} (p:α->Bool) (r:ρ):∀(L:List α) (i:Nat),(∀i x,x ∈ L->f i x ()=if p x=true then some (.nxt ()) else some (.ret r))->zq f L i ()=if L.all p=true then some (.inr ()) else some (.inl r)
 | [],_,_=>rfl
 | x::t,i,h=>by
  have b:=loopL_all p r t (i+1) (λi y a=>h i y (tu _ a));simp only [zq,h i x (tB ..)]
  grind
theorem loopL_fold {f:Nat->α->σ->Option (Out ρ σ)} (g:σ->α->σ):∀(L:List α) (i:Nat) (s:σ),(∀i x s,x ∈ L->f i x s=some (.nxt (g s x)))->zq f L i s=some (.inr (L.foldl g s))
 | [],_,_,_=>rfl
 | x::t,i,s,h=>by
  simp only [zq,h i x s (tB ..),tV];exact loopL_fold g t (i+1) (g s x) (λi y s a=>h i y s (tu _ a))
theorem loopL_first {f:Nat->α->Unit->Option (Out ρ Unit)} (p:α->Bool) (r:Nat->α->ρ):∀(L:List α) (i:Nat),(∀i x,x ∈ L->f i x ()=if p x=true then some (.ret (r i x)) else some (.nxt ())) ->
  zq f L i ()=match L.findIdx? p with
   | none=>some (.inr ())
   | some j=>match L[j]? with | some x=>some (.inl (r (i+j) x)) | none=>none
 | [],_,_=>rfl
 | x::t,i,h=>by
  have b:=loopL_first p r t (i+1) (λi y a=>h i y (tu _ a));simp only [zq,h i x (tB ..),List.findIdx?_cons]
  grind
def qf (q:α->Bool) (p:List α):Int:=match p.findIdx? q with | some j=>(j:Int) | none=>-1
theorem first_loop {f:α->Option Bool} {q:α->Bool} (p:List α) (d:∀x ∈ p,f x=some (q x)):lp (zq (λ(a:Nat) (b:α) (_:Unit)=>(((f b).bind λc=>(if c=true then some (.ret (a:Int)) else some (.nxt ()))):Option (Out _ Unit))) p 0 ()) (λ(_:Unit)=>some (-1:Int))=some (qf q p):=by
 rw [loopL_first q (λi _=>(i:Int)) _ _ (λi x hx=>by simp_all)];unfold qf;cases h:p.findIdx? q with
 | none=>simp
 | some j =>
  obtain ⟨e,_⟩:=sE.1 h
  simp_all
theorem firstI_any (q:α->Bool) (p:List α):decide (qf q p >= 0)=p.any q:=by
 unfold qf
 grind
theorem idx_at {M:List α} {i:Nat} (h:i < M.length):wh M (i:Int)=some M[i]:=by
 unfold wh;rw [uv (by omega),uP,ui h]
theorem slc_at {L:List α} {lo hi:Int} (h:0<=lo/\lo<=hi/\hi<=L.length):slc L lo hi=some ((L.take hi.toNat).drop lo.toNat):=uv h
theorem xV {n:Int} (h:-9223372036854775808<=n/\n<=9223372036854775807):IntKind.wrap .i64 n=n:=by rw [IntKind.wrap_i64];omega
end
end Go.Vv
namespace Go.Vv
open Go Go.RowKit
variable {f:FuncId} {n t id j:Nat} {ρ:Type} {E args xs:List AV} {ps:List Tmp} {assign body:Code} {b:Blk}
section
variable {P:Program} {o:Oper} {env:List AV} {h:AH} {L:List Blk} {M:List Nat} {nb nt:Nat}
theorem n_alloc (c:h.blks.length=nb) {t:TypeId} {cs:List AV} {n:Nat} (a:o.op=.alloc t) (e:yR P t=some cs) (d:L.length=n):zn P o env (h.ext L M)=.ok (.ptr (nb+n) 0) (h.ext (L++[.cells cs]) M):=by
 subst c;exact e_alloc a e d
theorem n_box (e:h.blks.length=nb) {t:TypeId} {x:Operand} {a a':AV} {cs:List AV} {n:Nat} (d:o.op=.box t x) (hx:yg env x=some a) (c:tyfix P t a=a') (g:a'.cells?=some cs) (i:L.length=n) :
  zn P o env (h.ext L M)=.ok (.ptr (nb+n) 0) (h.ext (L++[.cells cs]) M):=by
 subst e;exact e_box d hx c g i
theorem n_load (m:h.blks.length=nb) {t:TypeId} {d:TypeDesc} {k j off:Nat} {x:Operand} {cs:List AV} {v a:AV} (e:o.op=.load t x) (l:Ty P t d k) (hx:yg env x=some (.ptr (nb+j) off)) (g:L[j]?=some (.cells cs))
  (i:ldC (zU d) k off cs=some v) (c:tyfix P t v=a):zn P o env (h.ext L M)=.ok a (h.ext L M):=by
 subst m;exact wn e l hx g i c
theorem n_store (p:h.blks.length=nb) {t:TypeId} {d:TypeDesc} {k j off:Nat} {x y:Operand} {cs vs cs':List AV} {b b':AV} (g:o.op=.store t x y) (a:Ty P t d k) (hx:yg env x=some (.ptr (nb+j) off)) (l:yg env y=some b)
  (e:tyfix P t b=b') (q:b'.cells?=some vs) (i:vs.length=k) (m:L[j]?=some (.cells cs)) (c:Nat.ble (off+k) cs.length=true) (hs:yp cs off vs=cs'):zn P o env (h.ext L M)=.ok aundef (h.ext (L.set j (.cells cs')) M):=by
 subst p;exact yo g a hx l e q i m c hs
end
section
variable {P:Program} {o:Oper} {env:List AV} {h:AH} {α:Type} {row:α->List AV} {L M:List α} {nb nt:Nat}
theorem n_appT (v:h.toks.length=nt) {c:Call} {x y:Operand} {t u e m:TypeId} {k k' j:Nat} {a b b':AV} {B:List Blk} {T T':List Nat} (p:o.op=.call c) (F:c.callee=.builtin .append) (hs:c.args=#[x,y]) (g:c.argTypes=#[t,u]) (s:El P t e k)
  (d:El P u m k') (hx:yg env x=some a) (r:yg env y=some b) (D:tyfix P t a=.osl (some (nt+j)) k (L.map row)) (i:tyfix P u b=b') (w:qU k b'=some (M.map row)) (q:L.length+M.length<=yS) (z:T[j]?=some L.length) (l:T.set j (L++M).length=T') :
  zn P o env (h.ext B T)=.ok (.osl (some (nt+j)) k ((L++M).map row)) (h.ext B T'):=by
 subst v;exact xw p F hs g s d hx r D i w q z l
theorem n_own (d:h.toks.length=nt) {f:FuncId} {a5:List AV} {B:List Blk} {T T':List Nat} {k n m:Nat} {R:List (List AV)} (s:Spec P f a5 (h.ext B T) (OwnK (h.ext B T) k n R)) (a:T.length=m) (c:T++[n]=T') :
  Spec P f a5 (h.ext B T) (λe hh=>e=.osl (some (nt+m)) k R/\hh=h.ext B T'):=by
 subst d;exact qY s a c
end

def AH.closed (h:AH) (n t:Nat):Prop:=∀b ∈ h.blks,b.low n t=true
theorem Blk.low_up {n e m g:Nat} (a:n<=e) (h:m<=g):∀b:Blk,b.low n m=true->b.low e g=true
 | .cells cs,hl=>ya a h cs hl
 | .bld _ x,hl=>AV.low_up a h x hl
 | .mapo es c,hl=>by
  simp only [Blk.low,ur,ud] at hl ⊢;exact λp d=>⟨AV.low_up a h _ (hl p d).1,AV.low_up a h _ (hl p d).2⟩
 | .loop _ _ env _ _ _,hl=>ya a h env hl
 | .row _ _ _,hl=>by simp only [Blk.low,uh] at hl ⊢;omega
 | .miter _ _ _,hl=>by simp only [Blk.low,uh] at hl ⊢;omega
 | .siter _ _,_ | .miter0,_ | .other,_ | .dead,_=>rfl
theorem closed_of_rel {B:Nat} {w0 w:World} {g:Gh} {h:AH} (r:Rel B w0 g h w):h.closed h.blks.length h.toks.length:=λb a=>by
 obtain ⟨i,hi⟩:=tg.1 a;have:=r.isLow hi
 rwa [r.slen,r.tlen] at this
theorem zO {P : Program} {fn : Func} {c : Code} (hf : P.funcs[f]? = some fn) (hb : fn.body = some c) (hname : (fn.name == "runtime.NumGoroutine") = false) {args : List AV} {h : AH} {K : AV → AH → Prop} {env : List AV}
  (he:args++List.replicate (fn.ntmps - args.length) aundef=env) (hw:zy h.blks.length h.toks.length args=true->h.closed h.blks.length h.toks.length->wS P c (bodyQ P fn h K) env (h.ext [] [])):Spec P f args h K:=by
 refine ⟨λvs w=>?_,λB w0 _ g w vs r hv=>?_⟩
 ·have hn : ¬ fn.name = "runtime.NumGoroutine" := by simpa using hname
  simp [callFunc,hf,hb,hn]
 ·have hl:=hv.isLow;rw [r.slen,r.tlen] at hl;exact (za hf hb hname he (hw hl (closed_of_rel r))).2 B w0 g w vs r hv
theorem ext_len {h:AH} {L:List Blk} {M:List Nat} (a:h.blks.length=n):(h.ext L M).blks.length=n+L.length:=by simp [AH.ext,a]
theorem ext_tlen {h:AH} {L:List Blk} {M:List Nat} (a:h.toks.length=n):(h.ext L M).toks.length=n+M.length:=by simp [AH.ext,a]
theorem closed_ext {h:AH} {L:List Blk} {M:List Nat} {c t':Nat} (e:h.closed n t) (g:n<=c) (d:t<=t') (i:L.all (λb=>b.low c t')=true):(h.ext L M).closed c t':=λb a=>by
 simp only [AH.ext,uC] at a;rcases a with a | a
 ·exact Blk.low_up g d b (e b a)
 ·simp_all
theorem wk_ext3s {h h':AH} (u:h.blks.length=n) (r:h.toks.length=t) (g:h'.blks.length=n) (e:h'.toks.length=t) (w:h'.closed n t) {L0 L1 L':List Blk} {M0 M1 M':List Nat} {env:List AV}
  (s:zy (n+L0.length) (t+M0.length) env=true) (p:L'.take L0.length=L1) (q:M'.take M0.length=M1) (m:L1.all (λb=>b.low (n+L0.length) (t+M0.length))=true):wk (h.ext L0 M0) env (h'.ext L' M') env (h'.ext L1 M1):=by
 have c:(h.ext L0 M0).blks.length=n+L0.length:=ext_len u;have d:(h.ext L0 M0).toks.length=t+M0.length:=ext_tlen r;have v:(h'.ext L' M').cut (h.ext L0 M0).blks.length (h.ext L0 M0).toks.length=h'.ext L1 M1:=by
  rw [c,d,<- g,<- e];simp only [AH.cut,AH.ext,tI,uO,p,q];rw [uJ (l:=h'.blks) (by omega),uJ (l:=h'.toks) (by omega)]
 have:=wk.cut (hd:=h.ext L0 M0) (env:=env) (h:=h'.ext L' M') (by rw [c,d];exact s) (λi k hi a=>by
  right;rw [c] at hi;rw [c,d];simp only [AH.ext] at a;rcases sr i h'.blks.length with h1 | h1
  ·rw [uo h1] at a;exact Blk.low_up (by omega) (by omega) k (w k (uD a))
  ·rw [un h1] at a;rw [ur] at m;refine m k (uD (i:=i - h'.blks.length) ?_);rw [<- p,uw,uv (by omega)];exact a)
 rw [v] at this;omega
theorem fin_exts {h h':AH} (p:h.blks.length=n) (l:h.toks.length=t) (d:h'.blks.length=n) (c:h'.toks.length=t) (m:h'.closed n t) {L:List Blk} {M:List Nat} {K:AV->AH->Prop} {v a:AV} (g:leV v a)
  (i:a.low n t=true) (e:K a h'):finK h K v (h'.ext L M):=by
 have:=wk_ext3s (L0:=[]) (L1:=[]) (L':=L) (M0:=[]) (M1:=[]) (M':=M) (env:=[a]) p l d c m (by simp [zy,i]) rfl rfl rfl;rw [ext_nil,ext_nil] at this;exact ⟨a,h',(wk.le (leL.cons g leL.nil)).trans this,e⟩

def lst:Option Nat->LoopState
 | none=>.ready
 | some _=>.done
def lpe:Option Nat->Option Code
 | none=>none
 | some 0=>some .ret
 | some (i+1)=>some (.exit i)
def fam {β:Type} (h:β->AH) (A:β->List Blk) (T:β->List Nat) (lp:LoopState->Option Code->Blk) (s:β×Option Nat):AH:=(h s.1).ext (A s.1++[lp (lst s.2) (lpe s.2)]) (T s.1)
def stp {β X:Type} (f:β->X->Option ρ) (s:β×Option Nat) (x:X):Option ρ:=match s.2 with
 | none=>f s.1 x
 | some _=>none
def rng {β:Type} (q:Option (β×Option Nat)) (N:β->Option ρ) (J:Nat->β->Option ρ):Option ρ:=match q with
 | none=>none
 | some (b,none)=>N b
 | some (b,some j)=>J j b
def jumpQ (Q:Exit->List AV->AH->Prop):Nat->List AV->AH->Prop
 | 0=>Q .ret
 | i+1=>Q (.exit i)

theorem r_range {P:Program} {Q:Exit->List AV->AH->Prop} {env:List AV} {hd H:AH} {c:Operand} {ps:Array Tmp} {β:Type} {nb k:Nat} {first caps:List AV} (h:β->AH) (A:β->List Blk) (T:β->List Nat) (b0:β) {LA:List Blk} {LT:List Nat} {r:ρ} {q:Option (β×Option Nat)} {N:β->Option ρ} {J:Nat->β->Option ρ}
  (m:rng q N J=some r) (K:wk hd env hd E (H.ext LA LT)) (x:∀b,(h b).blks.length=nb) (R:H=h b0) (I:LA=A b0) (G:LT=T b0) (O:∀b,(A b).length=k) (u:zV c=true) (D:yg E c=some (.fn (.func f) first caps)) (a:(q9 assign&&q9 body)=true)
  (hs:∀lp:LoopState->Option Code->Blk,lp=(λg d=>.loop g d E ps assign body)->∀y,q=some y->Spec P f (first++[.yld (nb+k)]++caps) (fam h A T lp (b0,none)) λ_ hh=>hh=fam h A T lp y)
  (F:∀b H1,H1=(h b).ext (A b++[.dead]) (T b)->N b=some r->Q .normal E H1) (S:∀j b H1,H1=(h b).ext (A b++[.dead]) (T b)->J j b=some r->jumpQ Q j E H1):wS P (.rangeFunc c ps assign body) Q env hd:=by
 subst R I G;obtain ⟨_,z⟩:=zC D;simp only [ud] at a;refine ⟨u,a.1,a.2,E,_,K,?_⟩;rw [z];have w:((h b0).ext (A b0) (T b0)).blks.length=nb+k:=by simp [AH.ext,x,O]
 rcases q with _ | ⟨b,p⟩
 ·cases m
 ·have v:=hs _ rfl (b,p) rfl;rw [w,ext_new];refine v.mono λ_ hh e=>?_;subst e;have s:(fam h A T (λg d=>.loop g d E ps assign body) (b,p)).blk (nb+k)=some (.loop (lst p) (lpe p) E ps assign body):=by
   simp only [fam,AH.blk,AH.ext,<- x b]
   simp_all
  have l:(fam h A T (λg d=>.loop g d E ps assign body) (b,p)).put (nb+k) .dead=(h b).ext (A b++[.dead]) (T b):=by
   simp only [fam,<- x b,qw]
   simp_all
  refine ⟨_,_,_,_,_,_,s,by cases p <;> simp [lst],?_⟩;rw [l];cases p with
  | none=>exact F b _ rfl m
  | some j =>
   have:=S j b _ rfl m;cases j with
   | zero=>exact this
   | succ i=>exact this

def roundQ (hs:AH) (id:Nat) (lp:LoopState->Option Code->Blk) (K:AV->AH->Prop):Exit->List AV->AH->Prop
 | .normal,_,h=>∃h3,wk hs [] h [] h3/\h3.blk id=some (lp .busy none)/\K (.bool true) (h3.put id (lp .ready none))
 | .ret,_,h=>∃h3,wk hs [] h [] h3/\h3.blk id=some (lp .busy none)/\K (.bool false) (h3.put id (lp .done (some .ret)))
 | .exit i,_,h=>∃h3,wk hs [] h [] h3/\h3.blk id=some (lp .busy none)/\K (.bool false) (h3.put id (lp .done (some (.exit i))))
 | _,_,_=>False
def assignQ (P:Program) (hs:AH) (id:Nat) (lp:LoopState->Option Code->Blk) (body:Code) (K:AV->AH->Prop):Exit->List AV->AH->Prop
 | .normal,env,h=>h.blk id=some (lp .ready none)/\wS P body (roundQ hs id lp K) env (h.put id (lp .busy none))
 | _,_,_=>False

def setL (env:List AV):List Tmp->List AV->List AV
 | p::ps,a::a5=>setL (env.set p a) ps a5
 | _,_=>env
theorem setL_fold {g:Gh}:∀{ps:List Tmp} {a5:List AV} {vs:List Value} {env:List AV} {tmps:Array Value},VL g env tmps.toList->VL g a5 vs->a5.length=ps.length->VL g (setL env ps a5) ((ps.zip vs).foldl (λt (p,v)=>t.setIfInBounds p v) tmps).toList
 | [],[],vs,env,tmps,h,_,_=>by simpa [setL] using h
 | [],_::_,_,_,_,_,_,hl=>by simp at hl
 | _::_,[],_,_,_,_,_,hl=>by simp at hl
 | p::ps,a::a5,vs,env,tmps,h,k,hl=>by
  simp only [VL] at k;obtain ⟨v,s,rfl,h1,c⟩:=k;simp only [setL,rV,tV];refine setL_fold ?_ c (by simp_all);rw [sZ];exact h.set _ _ _ h1

theorem specY_of {P:Program} {h:AH} {K:AV->AH->Prop} {env u:List AV} {lp:LoopState->Option Code->Blk} (hlp:lp=λst pe=>.loop st pe env ⟨ps⟩ assign body) (hb:h.blk id=some (lp .ready none)) (hl:args.length=ps.length)
  (D:(q9 assign&&q9 body)=true) (he:setL env ps args=u) (hw:wS P assign (assignQ P h id lp body K) u h):SpecY P id args h K:=by
 subst hlp he;simp only [ud] at D;intro B w0 _ g w vs c r hv hc;have e:h.blks[id]?=some (.loop .ready none env ⟨ps⟩ assign body):=hb;obtain ⟨hB,hlt,⟨fn,tmps,d,hh,hve⟩,_⟩:=r.blk id c _ hc e;have hsz:vs.size=ps.length:=by rw [<- hl,hv.length];rfl
 refine ⟨_,_,_,_,run_yield hh (by omega),λn=>?_⟩;refine roundIn_of_wpIn (F:=Fence.wide) trivial ?_;have hte:VL g (setL env ps args) (((⟨ps⟩:Array Tmp).zip vs).foldl (λt (p,v)=>t.setIfInBounds p v) tmps).toList:=by
  rw [<- rt,Array.toList_zip];exact setL_fold hve hv hl
 refine wR (B:=B) (w0:=w0) (gb:=g) (g0:=g) (ro:=some c) assign (.inr D.1) hw ⟨g,Gh.le.refl g,r,hte,Marks.nil _ _,Gh.le.refl g⟩ λx env' h' a' w' W hs=>?_;obtain ⟨g1,J,r1,Z,hm1,I⟩:=hs;cases x with
 | normal =>
  obtain ⟨hb1,W⟩:=W;have q:h'.blks[id]?=some (.loop .ready none env ⟨ps⟩ assign body):=hb1;have U:=J.sig _ _ hc;obtain ⟨_,_,⟨Q,l,d1,G,H⟩,_⟩:=r1.blk id c _ U q;refine ⟨_,run_beginRound G rfl,?_⟩;have r2:Rel B w0 g1 (h'.put id (.loop .busy none env ⟨ps⟩ assign body)) (w'.putObj c (.loop { state:=.busy,pending:=none,fn:=Q,tmps:=l,params:=⟨ps⟩,assign,body,defers:=d1 })) :=
   r1.putObj U q (by simp) rfl rfl rfl World.putObj_size (λb e=>World.putObj_heap_other e) ⟨Q,l,d1,World.putObj_heap_same (uH.1 G).1,H⟩
  refine wR (B:=B) (w0:=w0) (gb:=g) (g0:=g) (ro:=some c) body (.inr D.2) W ⟨g1,J,r2,Z,hm1,I⟩ λx env3 h3 a3 w3 m X=>?_;obtain ⟨g3,hg3,r3,he3,_,_⟩:=X;have z:∀(a:Option Code),(∃O,wk h [] h3 [] O/\O.blk id=some (.loop .busy none env ⟨ps⟩ assign body)/\K (.bool a.isNone) (O.put id (.loop (if a.isNone then .ready else .done) a env ⟨ps⟩ assign body))) ->
    ∃v w4,(Instr.endRound c a).run P w3=.ok v w4/\∃v' r h5 g5,Ending.returned v=.returned v'/\K r h5/\g.le g5/\Rel B w0 g5 h5 w4/\V g5 r v':=by
   rintro a ⟨O,Y,hb4,hK⟩
   obtain ⟨g4,k1,k2,_,_⟩:=Y B w0 w3 w g g3 [] r hg3 r3 (by simp [VL]);have s:O.blks[id]?=some (.loop .busy none env ⟨ps⟩ assign body):=hb4;have N:=k1.sig _ _ hc;obtain ⟨_,_,⟨fn4,y,d4,R,S⟩,_⟩:=k2.blk id c _ N s;refine ⟨_,_,run_endRound a R,_,_,_,g4,rfl,hK,k1,?_,by simp only [V]⟩;exact k2.putObj N s (by simp) rfl rfl rfl World.putObj_size (λb e=>World.putObj_heap_other e) ⟨fn4,y,d4,World.putObj_heap_same (uH.1 R).1,S⟩
  cases x with
  | normal=>exact z none m
  | ret=>exact z (some .ret) m
  | exit i=>exact z (some (.exit i)) m
  | _=>exact m.elim
 | _=>exact W.elim

section
variable {P:Program} {h:AH} {A A' L B:List Blk} {T T' M C:List Nat} {nb nt:Nat} {o:Oper} {env:List AV}
theorem deep_blk (c:h.blks.length=nb) {j:Nat} {b:Blk} (a:A[j]?=some b):(((h.ext A T).ext L M).ext B C).blk (nb+j)=some b:=by
 simp only [yZ,uy];subst c;rw [yJ,uo (uc.1 a).1];exact a
theorem deep_blk2 (a:h.blks.length=nb) {j:Nat} {b:Blk} (c:A[j]?=some b):((h.ext A T).ext L M).blk (nb+j)=some b:=by
 have:=deep_blk (h:=h) (A:=A) (T:=T) (L:=L) (M:=M) (B:=[]) (C:=[]) a c
 rwa [ext_nil] at this
theorem deep_put (c:h.blks.length=nb) {j:Nat} {b:Blk} (a:j < A.length) (d:A.set j b=A'):(((h.ext A T).ext L M).ext B C).put (nb+j) b=((h.ext A' T).ext L M).ext B C:=by
 simp only [yZ,uy];subst c d;rw [qw,List.set_append_left _ _ a]
theorem deep_put2 (c:h.blks.length=nb) {j:Nat} {b:Blk} (a:j < A.length) (d:A.set j b=A'):((h.ext A T).ext L M).put (nb+j) b=(h.ext A' T).ext L M:=by
 have:=deep_put (h:=h) (A:=A) (T:=T) (L:=L) (M:=M) (B:=[]) (C:=[]) c a d
 rwa [ext_nil,ext_nil] at this
theorem qN (a:h.blks.length=nb) {k:Nat} (c:A.length=k):((h.ext A T).ext L M).blks.length=nb+k+L.length:=by simp [AH.ext,a,c,se]
theorem deep_tlen (a:h.toks.length=nt) {k:Nat} (c:T.length=k):((h.ext A T).ext L M).toks.length=nt+k+M.length:=by simp [AH.ext,a,c,se]
theorem d_load (m:h.blks.length=nb) {t:TypeId} {d:TypeDesc} {k j off:Nat} {x:Operand} {cs:List AV} {v a:AV} (e:o.op=.load t x) (l:Ty P t d k) (hx:yg env x=some (.ptr (nb+j) off)) (g:A[j]?=some (.cells cs))
  (i:ldC (zU d) k off cs=some v) (c:tyfix P t v=a):zn P o env (((h.ext A T).ext L M).ext B C)=.ok a (((h.ext A T).ext L M).ext B C):=by
 refine s_load e l hx ?_ c;simp only [qV,deep_blk m g];exact i
theorem d_store (c:h.blks.length=nb) {t:TypeId} {d:TypeDesc} {k j off:Nat} {x y:Operand} {cs vs cs':List AV} {b b':AV} (m:o.op=.store t x y) (e:Ty P t d k) (hx:yg env x=some (.ptr (nb+j) off)) (q:yg env y=some b)
  (l:tyfix P t b=b') (r:b'.cells?=some vs) (p:vs.length=k) (a:A[j]?=some (.cells cs)) (g:Nat.ble (off+k) cs.length=true) (hs:yp cs off vs=cs') (i:A.set j (.cells cs')=A') :
  zn P o env (((h.ext A T).ext L M).ext B C)=.ok aundef (((h.ext A' T).ext L M).ext B C):=by
 refine s_store m e hx q l ?_;simp only [aStore,r,deep_blk c a];rw [uv ⟨p,sR g⟩,hs,deep_put c (uc.1 a).1 i]
theorem d_appT {α:Type} {row:α->List AV} {X Y:List α} (w:h.toks.length=nt) {c:Call} {x y:Operand} {t u e p:TypeId} {k k' j:Nat} {a b b':AV} (q:o.op=.call c) (G:c.callee=.builtin .append) (hs:c.args=#[x,y]) (g:c.argTypes=#[t,u]) (v:El P t e k)
  (d:El P u p k') (hx:yg env x=some a) (s:yg env y=some b) (F:tyfix P t a=.osl (some (nt+j)) k (X.map row)) (i:tyfix P u b=b') (z:qU k b'=some (Y.map row)) (r:X.length+Y.length<=yS) (D:T[j]?=some X.length) (m:T.set j (X++Y).length=T') :
  zn P o env (((h.ext A T).ext L M).ext B C)=.ok (.osl (some (nt+j)) k ((X++Y).map row)) (((h.ext A T').ext L M).ext B C):=by
 subst w m;have l:=(uc.1 D).1;have:=xw (P:=P) (h:=h) (B:=A++L++B) (T:=T++M++C) (T':=(T.set j (X++Y).length)++M++C) q G hs g v d hx s F i z r (by grind)
  (by simp_all)
 simp only [yZ];omega
theorem deep_cut {h0:AH} (v:h.closed nb nt) (d:h0.blks.length=nb) (c:h0.toks.length=nt) (r:h.blks.length=nb) (e:h.toks.length=nt) {A0:List Blk} {T0:List Nat} (m:A'.length=A0.length) (s:T'.length=T0.length)
  (l:A'.all (λb=>b.low (nb+A0.length) (nt+T0.length))=true):wk ((h0.ext A0 T0).ext L M) [] (((h.ext A' T').ext L M).ext B C) [] ((h.ext A' T').ext L M):=by
 have q:((h0.ext A0 T0).ext L M).blks.length=nb+A0.length+L.length:=qN d rfl;have p:((h0.ext A0 T0).ext L M).toks.length=nt+T0.length+M.length:=deep_tlen c rfl;have u:(((h.ext A' T').ext L M).ext B C).cut ((h0.ext A0 T0).ext L M).blks.length ((h0.ext A0 T0).ext L M).toks.length=(h.ext A' T').ext L M:=by
  have:=@ext_cut ((h.ext A' T').ext L M) B C;rw [qN r rfl,deep_tlen e rfl,m,s] at this;rw [q,p];exact this
 have:=wk.cut (hd:=(h0.ext A0 T0).ext L M) (env:=[]) (h:=((h.ext A' T').ext L M).ext B C) rfl (λi k hi a=>by
  rw [q] at hi ⊢;rw [p];rw [ur] at l;simp only [yZ,AH.ext,uy] at a ⊢;rcases sr i h.blks.length with h1 | h1
  ·rw [uo h1] at a;exact .inr (Blk.low_up (by omega) (by omega) k (v k (uD a)))
  ·rw [un h1] at a;rcases sr (i - h.blks.length) A'.length with g | g
   ·rw [uo g] at a;exact .inr (Blk.low_up (by omega) (by omega) k (l k (uD a)))
   ·rw [un g] at a;rw [un (by omega),un (by omega)];rw [uo (by omega)] at a;rw [<- m,d,<- r];exact .inl a)
 rw [u] at this;exact this
end
theorem SpecY.deep {P:Program} {r:AV} {H H':AH} (c:∀A B,SpecY P id xs (H.ext A B) (λa hh=>a=r/\hh=H'.ext A B)) {A L B:List Blk} {T M C:List Nat}:SpecY P id xs (((H.ext A T).ext L M).ext B C) (λa hh=>a=r/\hh=((H'.ext A T).ext L M).ext B C):=by
 simp only [yZ];exact c _ _
theorem Spec.deep {P:Program} {r:AV} {H H':AH} (c:∀A B,Spec P f xs (H.ext A B) (λa hh=>a=r/\hh=H'.ext A B)) {A L B:List Blk} {T M C:List Nat}:Spec P f xs (((H.ext A T).ext L M).ext B C) (λa hh=>a=r/\hh=((H'.ext A T).ext L M).ext B C):=by
 simp only [yZ];exact c _ _

theorem y_body {P:Program} {β X:Type} {h:β->AH} {nb k:Nat} {A:β->List Blk} {T:β->List Nat} {lp:LoopState->Option Code->Blk} {env:List AV} (i:lp=λu m=>.loop u m env ⟨ps⟩ assign body) {f:β->X->Option (Bool×(β×Option Nat))} {xs:X->List AV}
  (w:∀b,(h b).blks.length=nb) (r:∀b,(A b).length=k) (e:(q9 assign&&q9 body)=true) (d:∀x,(xs x).length=ps.length) {a:X->List AV} (v:∀x,setL env ps (xs x)=a x)
  (q:∀b x o L M H1,H1=((((h b).ext (A b++[lp .ready none]) (T b)).ext L M).ext [] [])->f b x=some o->wS P assign (assignQ P (((h b).ext (A b++[lp .ready none]) (T b)).ext L M) (nb+k) lp body (λg hh=>g=.bool o.1/\hh=(fam h A T lp o.2).ext L M)) (a x) H1) :
  ∀(s:β×Option Nat) (x:X) (b:Bool) (c:β×Option Nat) (L:List Blk) (M:List Nat),stp f s x=some (b,c)->SpecY P (nb+k) (xs x) ((fam h A T lp s).ext L M) (λg hh=>g=.bool b/\hh=(fam h A T lp c).ext L M):=by
 rintro ⟨b0,p⟩ x b c L M l
 cases p with
 | some _=>cases l
 | none =>
  have:=q b0 x (b,c) L M _ rfl l;rw [ext_nil] at this;refine specY_of i ?_ (d x) e (v x) this;exact deep_blk2 (w b0) (by rw [un (by simp_all),r];simp [lst,lpe])
theorem q_assign {P:Program} {hs:AH} {nb k:Nat} {lp:LoopState->Option Code->Blk} {K:AV->AH->Prop} {env:List AV} {h:AH} {A L B:List Blk} {T M C:List Nat} (c:h.blks.length=nb) (a:A.length=k)
  (d:wS P body (roundQ hs (nb+k) lp K) env (((h.ext (A++[lp .busy none]) T).ext L M).ext B C)):assignQ P hs (nb+k) lp body K .normal env (((h.ext (A++[lp .ready none]) T).ext L M).ext B C):=by
 refine ⟨deep_blk c (by rw [un (by omega),a];simp),?_⟩;rw [deep_put c (by rw [uf,a];exact sN _) (by rw [sS _ _ (by omega),a,pC])];exact d
section
variable {β:Type} {h:β->AH} {h0 h1:AH} {nb nt k:Nat} {lp:LoopState->Option Code->Blk} {env:List AV} {A:β->List Blk} {T:β->List Nat} {A0 A' L B:List Blk} {T0 T' M C:List Nat} {b':β} {o:Bool×(β×Option Nat)}
theorem q_roundA {E:Exit} {r:Bool} {p:Option Nat} (hE:∀u,(∃a,wk ((h0.ext (A0++[lp .ready none]) T0).ext L M) [] u [] a/\a.blk (nb+k)=some (lp .busy none)/\(AV.bool r=.bool o.1/\a.put (nb+k) (lp (lst p) (lpe p))=(fam h A T lp o.2).ext L M))->roundQ ((h0.ext (A0++[lp .ready none]) T0).ext L M) (nb+k) lp (λi hh=>i=.bool o.1/\hh=(fam h A T lp o.2).ext L M) E env u)
  (y:h1.closed nb nt) (m:h0.blks.length=nb) (d:h0.toks.length=nt) (q:h1.blks.length=nb) (g:h1.toks.length=nt) (c:A0.length=k) (e:A'.length=k) (w:T'.length=T0.length) (s:o=(r,(b',p))) (hh:h b'=h1) (x:A b'=A') (l:T b'=T')
  (v:(A'++[lp .busy none]).all (λb=>b.low (nb+(k+1)) (nt+T0.length))=true) :
  roundQ ((h0.ext (A0++[lp .ready none]) T0).ext L M) (nb+k) lp (λi hh=>i=.bool o.1/\hh=(fam h A T lp o.2).ext L M) E env (((h1.ext (A'++[lp .busy none]) T').ext L M).ext B C):=by
 refine hE _ ⟨(h1.ext (A'++[lp .busy none]) T').ext L M,deep_cut y m d q g (by simp [e,c]) w (by rw [uf,c];exact v),deep_blk2 q (by rw [un (by omega),e];simp),?_,?_⟩
 ·rw [s]
 ·rw [deep_put2 q (by rw [uf,e];exact sN _) (by rw [sS _ _ (by omega),e,pC]),s];simp only [fam,x,l,hh];rfl
theorem q_roundN (v:h1.closed nb nt) (g:h0.blks.length=nb) (a:h0.toks.length=nt) (u:h1.blks.length=nb) (c:h1.toks.length=nt) (d:A0.length=k) (l:A'.length=k) (m:T'.length=T0.length) (i:o=(true,(b',none))) (hh:h b'=h1) (s:A b'=A') (e:T b'=T')
  (q:(A'++[lp .busy none]).all (λb=>b.low (nb+(k+1)) (nt+T0.length))=true) :
  roundQ ((h0.ext (A0++[lp .ready none]) T0).ext L M) (nb+k) lp (λw hh=>w=.bool o.1/\hh=(fam h A T lp o.2).ext L M) .normal env (((h1.ext (A'++[lp .busy none]) T').ext L M).ext B C) :=
 q_roundA (r:=true) (p:=none) (λ_ h=>h) v g a u c d l m i hh s e q
theorem q_roundR (v:h1.closed nb nt) (g:h0.blks.length=nb) (a:h0.toks.length=nt) (u:h1.blks.length=nb) (c:h1.toks.length=nt) (d:A0.length=k) (l:A'.length=k) (m:T'.length=T0.length) (i:o=(false,(b',some 0))) (hh:h b'=h1) (s:A b'=A') (e:T b'=T')
  (q:(A'++[lp .busy none]).all (λb=>b.low (nb+(k+1)) (nt+T0.length))=true) :
  roundQ ((h0.ext (A0++[lp .ready none]) T0).ext L M) (nb+k) lp (λw hh=>w=.bool o.1/\hh=(fam h A T lp o.2).ext L M) .ret env (((h1.ext (A'++[lp .busy none]) T').ext L M).ext B C) :=
 q_roundA (r:=false) (p:=some 0) (λ_ h=>h) v g a u c d l m i hh s e q
end
theorem s_yield {P:Program} {o:Oper} {env:List AV} {h:AH} {c:Call} {f:Operand} {l:List (TypeId×AV)} (d:o.op=.call c) (r:c.callee=.value f) (a:yg env f=some (.yld id))
  (g:argo env c.args.toList c.argTypes.toList=some l) (i:Fx P l args):zn P o env h=.round id args:=by
 obtain ⟨h1,m⟩:=zC a;obtain ⟨u,s,q⟩:=argo_ok (P:=P) g;have e:c.args.all zV=true:=by grind
 have p:(c.args.size==c.argTypes.size)=true:=by simp_all
 simp only [zn,d,e,p,uV,uq,r,h1,Bool.true_eq_false,uL,m,q,i.eq]
theorem ops_round {P:Program} {c:Array Oper} {Q:List AV->AH->Prop} {o:Oper} {rest:List Oper} {env a:List AV} {h h':AH} {v:AV} (g:aG c o env=some true) (e:zn P o env h=.round id args) (hs:SpecY P id args h λr hh=>r=v/\hh=h')
  (hd:qx o.dst env v=some a) (d:zA P c Q rest a h'):zA P c Q (o::rest) env h:=by
 refine wJ ?_;simp only [g,gwp,e,rwp];refine hs.mono ?_
 rintro r hh ⟨rfl,rfl⟩
 rw [yL hd];exact d
theorem draw_round {Ns:List Nat} {F:Nat->AH->Prop} {i:Nat} (m:Ns.contains i=false) {P:Program} {a:Array Oper} {Q:List AV->AH->Prop} {o:Oper} {rest:List Oper} {env c:List AV} {h h':AH} {id:Nat} {args:List AV} {v:AV} (g:FOk ((Region.before a).getD i 0) Ns F h') (p:anch a Ns i=true) (d:aG a o env=some true) (l:zn P o env h=.round id args)
  (hs:SpecY P id args h λr hh=>r=v/\hh=h') (hd:qx o.dst env v=some c) (e:zD P a Ns F Q (i+1) rest c h'):zD P a Ns F Q i (o::rest) env h :=
 ⟨v,h',.inl ⟨m,by simp only [AR,d,l];exact hs⟩,.inl p,.inr g,by rw [yL hd];exact e⟩
theorem SpecY.le {P:Program} {a5 bs:List AV} {h:AH} {K:AV->AH->Prop} (s:SpecY P id bs h K) (k:leL a5 bs):SpecY P id a5 h K :=
 λB w0 _ g w vs c r a d=>s B w0 g w vs c r (k _ _ a) d
def CloK (h:AH) (g:FuncId) (bs:List Blk) (rr:AV) (hh:AH):Prop:=rr=.fn (.func g) [] ((List.range bs.length).map λi=>.ptr (h.blks.length+i) 0)/\hh=h.ext bs []
theorem clo_ext {P:Program} {h:AH} {nb:Nat} (e:h.blks.length=nb) {f g:FuncId} {a5 caps:List AV} {B B' bs:List Blk} {T:List Nat} (s:Spec P f a5 (h.ext B T) (CloK (h.ext B T) g bs)) (l:B.length=n) (c:B++bs=B') (d:(List.range bs.length).map (λi=>AV.ptr (nb+(n+i)) 0)=caps) :
  Spec P f a5 (h.ext B T) (λa hh=>a=.fn (.func g) [] caps/\hh=h.ext B' T):=by
 refine s.mono ?_
 rintro a hh ⟨rfl,rfl⟩
 subst c d l e;refine ⟨?_,by rw [yZ,tv]⟩;simp [AH.ext,se]
theorem wk_cutb {h:AH} {env:List AV} {L L1:List Blk} {M:List Nat} (m:Nat) (s:zy (h.blks.length+m) h.toks.length env=true) (q:L.take m=L1) (d:L1.all (λb=>b.low (h.blks.length+m) h.toks.length)=true):wk h env (h.ext L M) env (h.ext L1 []):=λ_ _ _ _ g1 g vs c p r u=>by
 subst q;refine ⟨g.cut (h.blks.length+m) h.toks.length,Gh.le_cut2 p (by rw [c.slen];omega) (by rw [c.tlen];exact ug _),?_,VL.cut _ _ s u,λ_ h=>h⟩;have e:(h.ext L M).cut (h.blks.length+m) h.toks.length=h.ext (L.take m) []:=by
  simp only [AH.cut,AH.ext,tI,uO];rw [uJ (l:=h.blks) (by omega)];simp
 rw [<- e];refine r.cut _ _ λi k hi a=>?_;simp only [AH.ext] at a;rcases sr i h.blks.length with h1 | h1
 ·rw [uo h1] at a;have:=closed_of_rel c k (uD a);exact Blk.low_up (by omega) (ug _) k this
 ·rw [un h1] at a;rw [ur] at d;refine d k (uD (i:=i - h.blks.length) ?_)
  grind
theorem fin_clo {h:AH} {K:AV->AH->Prop} {v:AV} {bs L':List Blk} {M':List Nat} (c:v.low (h.blks.length+bs.length) h.toks.length=true) (e:L'.take bs.length=bs) (d:bs.all (λb=>b.low (h.blks.length+bs.length) h.toks.length)=true) (a:K v (h.ext bs [])):finK h K v (h.ext L' M') :=
 ⟨v,_,wk_cutb bs.length (by simp [zy,c]) e d,a⟩
theorem blk_lt {h:AH} {nb i:Nat} (a:h.blk i=some b) (c:h.blks.length=nb):i < nb:=by
 subst c;exact (uc.1 a).1
theorem n_blk {h:AH} {L:List Blk} {M:List Nat} {nb:Nat} (a:h.blks.length=nb) (c:L[j]?=some b):(h.ext L M).blk (nb+j)=some b:=by
 subst a;rw [yJ];exact c
theorem n_blk2 {h:AH} {B B':List Blk} {T T':List Nat} {nb:Nat} (a:h.blks.length=nb) (c:B[j]?=some b):((h.ext B T).ext B' T').blk (nb+j)=some b:=by
 subst a;exact blk_ext2 c
theorem jmp1 {c:Nat} {X:Option ρ} {r:ρ} {G:Nat->Prop} (h:(if j=c then X else none)=some r) (k:X=some r->G c):G j:=by
 simp_all
theorem jmp_ret {Q:Exit->List AV->AH->Prop} {h:AH} (k:Q .ret E h):jumpQ Q 0 E h:=k
end Go.Vv
