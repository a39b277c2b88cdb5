/- Rules for maps: lists of keys and values. -/
import Derived.Test.YtgeajmfobeecbaaGreatVvU
import Derived.ProofKit
import Derived.OpenShut
import Derived.JoinedCond
import Derived.HandedShaped
set_option linter.all false
namespace Go.Vv
open Go
variable {B:List Blk}
section
variable {K W:Type}
def ze (eq:K->K->Bool) (d:W):List (K×W)->K->W
 | [],_=>d
 | e::r,k=>if eq k e.1 then e.2 else ze eq d r k
def ww (eq:K->K->Bool):List (K×W)->K->Bool
 | [],_=>false
 | e::r,k=>eq k e.1 || ww eq r k
def midx (eq:K->K->Bool):List (K×W)->K->Nat
 | [],_=>0
 | e::r,k=>if eq k e.1 then 0 else midx eq r k+1
def mput (eq:K->K->Bool):List (K×W)->K->W->List (K×W)
 | [],k,v=>[(k,v)]
 | e::r,k,v=>if eq k e.1 then (e.1,v)::r else e::mput eq r k v
def yC (eq:K->K->Bool):List (K×W)->K->W->List (K×W)
 | [],k,v=>[(k,v)]
 | e::r,k,v=>if eq k e.1 then (k,v)::r else e::yC eq r k v
def ment (eq:K->K->Bool) (d:W) (m:List (K×W)) (k:K):List (K×W):=if ww eq m k then m else m++[(k,d)]
def xY (kv:K->AV) (vv:W->AV) (e:K×W):AV×AV:=(kv e.1,vv e.2)

theorem midx_lt {eq:K->K->Bool} {k:K}:∀{m:List (K×W)},ww eq m k=true->midx eq m k < m.length
 | [],h=>by simp [ww] at h
 | e::r,h=>by
  simp only [ww,midx,ui] at h ⊢;by_cases hk:eq k e.1=true
  ·simp [hk]
  ·simp only [hk,tN,uK,ul] at h ⊢;have:=midx_lt h;omega
theorem midx_eq {eq:K->K->Bool} {k:K}:∀{m:List (K×W)},ww eq m k=false->midx eq m k=m.length
 | [],h=>rfl
 | e::r,h=>by
  simp only [ww,midx,ui,sr] at h ⊢;simp [h.1,midx_eq h.2]
theorem mput_has {eq:K->K->Bool} {k:K} {v:W}:∀{m:List (K×W)} {e:K×W},ww eq m k=true->m[midx eq m k]?=some e->m.set (midx eq m k) (e.1,v)=mput eq m k v
 | [],_,h,_=>by simp_all
 | p::r,e,h,he=>by
  simp only [ww,midx,mput] at h he ⊢;by_cases hk:eq k p.1=true
  ·simp_all
  ·simp only [hk,tN,uK,ul,pn] at h he ⊢;rw [ue,mput_has h he]
theorem mputN_has {eq:K->K->Bool} {k:K} {v:W}:∀{m:List (K×W)},ww eq m k=true->m.set (midx eq m k) (k,v)=yC eq m k v
 | [],h=>by simp [ww] at h
 | p::r,h=>by
  simp only [ww,midx,yC] at h ⊢;by_cases hk:eq k p.1=true
  ·simp_all
  ·simp only [hk,tN,uK,ul] at h ⊢;rw [ue,mputN_has h]
theorem mput_not {eq:K->K->Bool} {k:K} {v:W}:∀{m:List (K×W)},ww eq m k=false->m++[(k,v)]=mput eq m k v
 | [],_=>rfl
 | p::r,h=>by
  simp only [ww,mput,sr] at h ⊢;simp [h.1,mput_not h.2]
theorem mputN_not {eq:K->K->Bool} {k:K} {v:W}:∀{m:List (K×W)},ww eq m k=false->m++[(k,v)]=yC eq m k v
 | [],_=>rfl
 | p::r,h=>by
  simp only [ww,yC,sr] at h ⊢;simp [h.1,mputN_not h.2]

def KQ (P:Program) (kt:TypeId) (kv:K->AV) (eq:K->K->Bool):Prop:=(∀a b,xR P kt (kv a) (kv b)=some (eq a b))/\∀a,eq a a=true
theorem KQ.str {P:Program} {t:TypeId} {z:Nat} (h:Ty P t .string z):KQ P t AV.str (λa b=>a==b):=⟨λa b=>by simp only [xR,h.u,aEq1],λa=>by simp⟩
theorem KQ.int {P:Program} {t:TypeId} {i:IntKind} {z:Nat} (h:Ty P t (.int i) z):KQ P t (AV.int i) (λa b=>a==b):=⟨λa b=>by simp only [xR,h.u,aEq1,uq],λa=>by simp⟩
theorem KQ.struct {P:Program} {t:TypeId} {fs:Array Field} {c:List Kd} {row:K->List AV} {eq:K->K->Bool} (g:P.underlying t=some (.struct fs)) (e:PK P t c) (h:∀a b,qr c (row a) (row b)=some (eq a b)) (f:∀a,eq a a=true):KQ P t (λx=>.agg (row x)) eq :=
 ⟨λa b=>by simp only [xR,g,e.k,h],f⟩

variable {P:Program} {kt et t:TypeId} {kv:K->AV} {vv:W->AV} {eq:K->K->Bool} {d:W}
theorem aFind_is (a:KQ P kt kv eq) (d:W) (k:K):∀(m:List (K×W)) (i:Nat),aFind P kt (kv k) (m.map (xY kv vv)) i=some (if ww eq m k then some (i+midx eq m k,vv (ze eq d m k)) else none)
 | [],i=>rfl
 | e::r,i=>by
  have l:=aFind_is a d k r (i+1);simp only [uD,aFind];have g:xR P kt (kv k) (xY kv vv e).1=some (eq k e.1):=a.1 _ _;rw [g];by_cases h:eq k e.1=true
  ·have b:ww eq (e::r) k=true:=by simp [ww,h]
   have f:midx eq (e::r) k=0:=by simp [midx,h]
   have c:ze eq d (e::r) k=e.2:=by simp [ze,h]
   rw [b,f,c,h];rfl
  ·simp only [pk] at h;have b:ww eq (e::r) k=ww eq r k:=by simp [ww,h]
   have f:midx eq (e::r) k=midx eq r k+1:=by simp [midx,h]
   have c:ze eq d (e::r) k=ze eq d r k:=by simp [ze,h]
   grind

variable {ops:Array Oper} {o:Oper} {env:List AV} {h:AH} {L:List Blk} {M:List Nat} {m:List (K×W)} {k:K} {j:Nat} {x y z:Operand}
theorem e_makeMap {n:Nat} (b:o.op=.makeMap t none) (a:L.length=n):zr P o env (h.ext L M)=.ok (.map (h.blks.length+n)) (h.ext (L++[.mapo [] 0]) M):=by
 simp only [zr,b,ext_new,<- a];simp [AH.ext]
theorem e_lookup (c:o.op=.lookup t x y false) (n:P.underlying t=some (.map kt et)) (a:KQ P kt kv eq) (s:aZeroM P et=some (vv d)) (q:yf env x=some (.map (h.blks.length+j))) (b:L[j]?=some (.mapo (m.map (xY kv vv)) 0)) (f:yf env y=some (kv k)) :
  zr P o env (h.ext L M)=.ok (vv (ze eq d m k)) (h.ext L M):=by
 obtain ⟨l,g⟩:=zR q;obtain ⟨p,i⟩:=zR f;simp only [zr,c,l,g,p,i,n,te,uq,aLookup,a.1,a.2,yI,b,aFind_is a d k m 0,s];cases hm:ww eq m k with
 | true=>simp [withOk,oo]
 | false =>
  have:ze eq d m k=d:=by
   clear b
   induction m with
   | nil=>rfl
   | cons e r ih=>simp only [ww,sr] at hm;simp only [ze,hm.1,ul,uK];exact ih hm.2
  simp [withOk,oo,this]
theorem e_lookupOk (c:o.op=.lookup t x y true) (n:P.underlying t=some (.map kt et)) (a:KQ P kt kv eq) (s:aZeroM P et=some (vv d)) (q:yf env x=some (.map (h.blks.length+j))) (b:L[j]?=some (.mapo (m.map (xY kv vv)) 0)) (f:yf env y=some (kv k)) :
  zr P o env (h.ext L M)=.ok (.tup [vv (ze eq d m k),.bool (ww eq m k)]) (h.ext L M):=by
 obtain ⟨l,g⟩:=zR q;obtain ⟨p,i⟩:=zR f;simp only [zr,c,l,g,p,i,n,te,uq,aLookup,a.1,a.2,yI,b,aFind_is a d k m 0,s];cases hm:ww eq m k with
 | true=>simp [withOk,oo]
 | false =>
  have:ze eq d m k=d:=by
   clear b
   induction m with
   | nil=>rfl
   | cons e r ih=>simp only [ww,sr] at hm;simp only [ze,hm.1,ul,uK];exact ih hm.2
  simp [withOk,oo,this]
theorem e_entry (c:o.op=.mapEntry t x y) (q:P.underlying t=some (.map kt et)) (a:KQ P kt kv eq) (v:aZeroM P et=some (vv d)) (u:yf env x=some (.map (h.blks.length+j))) (b:L[j]?=some (.mapo (m.map (xY kv vv)) 0)) (g:yf env y=some (kv k))
  (p:L.set j (.mapo ((ment eq d m k).map (xY kv vv)) 0)=B):zr P o env (h.ext L M)=.ok (.tup [vv (ze eq d m k),.int .i64 (midx eq m k)]) (h.ext B M):=by
 obtain ⟨n,i⟩:=zR u;obtain ⟨s,l⟩:=zR g;subst p;simp only [zr,c,n,i,s,l,q,te,uq,aEntry,a.1,a.2,yI,b,aFind_is a d k m 0,v,ment];cases hm:ww eq m k with
 | true =>
  have:L.set j (.mapo (m.map (xY kv vv)) 0)=L:=by
   apply uW
   grind
  simp [ovh,this]
 | false =>
  have f:ze eq d m k=d:=by
   clear b
   induction m with
   | nil=>rfl
   | cons e r ih=>simp only [ww,sr] at hm;simp only [ze,hm.1,ul,uK];exact ih hm.2
  simp [ovh,f,vk,xY,midx_eq hm]
theorem e_entryStore {v:W} {i:Int} {n:IntKind} (u:o.op=.entryStore t x y z) (C:yf env x=some (.map (h.blks.length+j))) (E:L[j]?=some (.mapo ((ment eq d m k).map (xY kv vv)) 0)) (w:yf env y=some (.int n i)) (hi:i=midx eq m k) {a:AV} (s:yf env z=some a) (b:a.zcl=vv v)
  (F:L.set j (.mapo ((mput eq m k v).map (xY kv vv)) 0)=B):zr P o env (h.ext L M)=.ok aundef (h.ext B M):=by
 obtain ⟨q,l⟩:=zR C;obtain ⟨A,p⟩:=zR w;obtain ⟨r,D⟩:=zR s;subst F hi;have h0:(0:Int)<=(midx eq m k:Int):=by omega
 have key:∃e,(ment eq d m k)[midx eq m k]?=some e/\(ment eq d m k).set (midx eq m k) (e.1,v)=mput eq m k v:=by
  unfold ment;cases hm:ww eq m k with
  | true =>
   have g:=midx_lt hm;exact ⟨m[midx eq m k],by simp [g],by simpa using mput_has hm (ug g)⟩
  | false =>
   refine ⟨(k,d),by simp [midx_eq hm],?_⟩;simp only [ul,uK,midx_eq hm];rw [<- mput_not hm];simp
 obtain ⟨e,f,c⟩:=key;simp only [zr,u,q,l,A,p,r,D,b,te,uq,aEntryStore,yI,E,h0,uM,s6,f,u5,oh,vk,<- c,List.map_set];rfl
theorem e_mapPut {v:W} (f:o.op=.mapUpdate t x y z) (q:P.underlying t=some (.map kt et)) (b:KQ P kt kv eq) (w:yf env x=some (.map (h.blks.length+j))) (g:L[j]?=some (.mapo (m.map (xY kv vv)) 0)) (i:yf env y=some (kv k)) {a:AV} (A:yf env z=some a) (c:a.zcl=vv v)
  (r:L.set j (.mapo ((yC eq m k v).map (xY kv vv)) 0)=B):zr P o env (h.ext L M)=.ok aundef (h.ext B M):=by
 obtain ⟨p,l⟩:=zR w;obtain ⟨s,n⟩:=zR i;obtain ⟨u,e⟩:=zR A;subst r;simp only [zr,f,p,l,s,n,u,e,c,q,te,uq,aMapPut,b.1,b.2,yI,g,aFind_is b v k m 0];cases hm:ww eq m k with
 | true=>simp [oh,vk,<- mputN_has hm,List.map_set,xY]
 | false=>simp [oh,vk,<- mputN_not hm,xY]
theorem ops_mlen {Q:List AV->AH->Prop} {rest:List Oper} {a:List AV} {c:Call} (i:aG ops o env=some true) (p:o.op=.call c) (u:c.callee=.builtin .len) (s:c.args=#[x]) (b:c.argTypes=#[t]) (g:P.underlying t=some (.map kt et))
  (q:yf env x=some (.map (h.blks.length+j))) (r:L[j]?=some (.mapo (m.map (xY kv vv)) 0)) (hd:xV o.dst env (.int .i64 m.length)=some a) (l:zJ P ops Q rest a (h.ext L M)):zJ P ops Q (o::rest) env (h.ext L M):=by
 obtain ⟨n,f⟩:=zR q;have key:zr P o env (h.ext L M)=.any λv e=>e=h.ext L M/\v=.int .i64 m.length:=by
  simp [zr,p,u,s,b,n,f,aBuiltin,g,yI,r]
 refine vd ?_;simp only [i,gwp,key,rwp]
 rintro v e ⟨rfl,rfl⟩
 rw [yO hd];exact l

theorem mgetD_app {eq:K->K->Bool} {d:W} {k:K} (a:eq k k=true):∀{m:List (K×W)},ze eq d (m++[(k,d)]) k=ze eq d m k
 | []=>by simp [ze,a]
 | e::r=>by simp [ze,mgetD_app a]
theorem mgetD_ment {eq:K->K->Bool} {d:W} {k:K} (a:eq k k=true) {m:List (K×W)}:ze eq d (ment eq d m k) k=ze eq d m k:=by
 unfold ment;split
 ·rfl
 ·exact mgetD_app a
def MapE (h:AH) (j:Nat) (m1 m2:List (AV×AV)) (x:AH):Prop:=∃B T,x=h.ext B T/\(B[j]?=some (.mapo m1 0) \/ B[j]?=some (.mapo m2 0))
theorem e_lookupF (e:o.op=.lookup t x y false) (g:P.underlying t=some (.map kt et)) (a:KQ P kt kv eq) (l:aZeroM P et=some (vv d)) (i:yf env x=some (.map (h.blks.length+j))) (f:yf env y=some (kv k)) :
  ∀c,MapE h j (m.map (xY kv vv)) ((ment eq d m k).map (xY kv vv)) c->zr P o env c=.ok (vv (ze eq d m k)) c:=by
 rintro _ ⟨B,T,rfl,b | b⟩
 ·exact e_lookup e g a l i b f
 ·rw [<- mgetD_ment (m:=m) (d:=d) (a.2 k)];exact e_lookup e g a l i b f
theorem FOk.skip {b:Nat} {Ns:List Nat} {F:Nat->AH->Prop} {h:AH} (c:Ns.all (λn=>b.testBit n)=true):FOk b Ns F h:=λn e a=>by
 simp_all
end
end Go.Vv
namespace Go.Vv
open Go Go.RowKit
variable {seen M:List Nat} {i id:Nat} {K W:Type} {kv:K->AV} {vv:W->AV} {ops:Array Oper} {o:Oper} {rest:List Oper} {env':List AV} {L:List Blk} {t:TypeId} {x:Operand} {m:List (K×W)}
section
variable {α ρ σ:Type}
open Classical in
noncomputable def allP (m:List α) (f:List α->Option ρ):Option ρ:=if h:∃r,∀p:List α,p.Perm m->f p=some r then some (Classical.choose h) else none
theorem allP_is {m:List α} {f:List α->Option ρ} {r:ρ} (h:allP m f=some r):∀p:List α,p.Perm m->f p=some r:=by
 unfold allP at h;split at h
 ·grind
 ·cases h
theorem allP_of {m:List α} {f:List α->Option ρ} {r:ρ} (h:∀p:List α,p.Perm m->f p=some r):allP m f=some r:=by
 have a:∃r,∀p:List α,p.Perm m->f p=some r:=⟨r,h⟩
 unfold allP;rw [pu a];have:=tL a m (pE _);rw [h m (pE _)] at this
 grind
def leftM (m:List α) (seen:List Nat):List α:=(m.zipIdx.filter λp=>!seen.contains p.2).map (·.1)
theorem leftM_nil (m:List α):leftM m []=m:=by
 unfold leftM;have:(m.zipIdx.filter λp=>!([]:List Nat).contains p.2)=m.zipIdx:=tm.2 λp _=>by simp
 rw [this,List.zipIdx_map_fst]
theorem leftZ_perm {seen:List Nat}:∀(m:List α) (n i:Nat) {x:α},m[i]?=some x->n+i ∉ seen ->
  (((m.zipIdx n).filter λp=>!seen.contains p.2).map (·.1)).Perm (x::((m.zipIdx n).filter λp=>!(seen++[n+i]).contains p.2).map (·.1))
 | [],_,_,_,h,_=>by simp at h
 | a::t,n,0,x,h,hs=>by
  simp only [List.getElem?_cons_zero,uk] at h;subst h;have d:((t.zipIdx (n+1)).filter λp=>!seen.contains p.2)=(t.zipIdx (n+1)).filter λp=>!(seen++[n]).contains p.2:=by
   refine rI λp c=>?_
   grind
  simp_all
 | a::t,n,i+1,x,h,hs=>by
  simp only [pn] at h;have b:=leftZ_perm t (n+1) i h (by rwa [show n+1+i=n+(i+1) by omega]);rw [show n+1+i=n+(i+1) by omega] at b;simp only [rN];by_cases hn:n ∈ seen
  ·simp_all
  ·rw [po (by simp_all),po (by simp [hn])];simp only [uD];exact (List.Perm.cons a b).trans (List.Perm.swap x a _)
theorem leftM_perm {m:List α} {x:α} (hi:m[i]?=some x) (hs:i ∉ seen):(leftM m seen).Perm (x::leftM m (seen++[i])):=by
 have:=leftZ_perm (seen:=seen) m 0 i hi (by simp_all);simpa [leftM] using this
def konM (f:Nat->α->σ->Option (Out ρ σ)) (m:List α) (seen:List Nat) (rest:σ->Option ρ) (o0:ρ):Out ρ σ->Prop
 | .ret r=>some r=some o0
 | .brk s=>rest s=some o0
 | .nxt s=>∀p:List α,p.Perm (leftM m seen)->lp (zg f p seen.length s) rest=some o0
def LeftOk (f:Nat->α->σ->Option (Out ρ σ)) (m:List α) (seen:List Nat) (rest:σ->Option ρ) (o0:ρ) (s:σ):Prop:=∀p:List α,p.Perm (leftM m seen)->lp (zg f p seen.length s) rest=some o0
theorem leftOk_step {f:Nat->α->σ->Option (Out ρ σ)} {m:List α} {rest:σ->Option ρ} {c:ρ} {s:σ} (h:LeftOk f m seen rest c s) {i:Nat} {x:α} (hi:m[i]?=some x) (hs:i ∉ seen) :
  ∃a,f seen.length x s=some a/\konM f m (seen++[i]) rest c a:=by
 have key:∀p:List α,p.Perm (leftM m (seen++[i]))->lp (zg f (x::p) seen.length s) rest=some c:=λp b=>h _ ((List.Perm.cons x b).trans (leftM_perm hi hs).symm);have k0:=key _ (pE _);simp only [zg] at k0;cases hf:f seen.length x s with
 | none=>rw [hf] at k0;cases k0
 | some a =>
  refine ⟨a,rfl,?_⟩;cases a with
  | ret r=>rw [hf] at k0;exact k0
  | brk s'=>rw [hf] at k0;exact k0
  | nxt s' =>
   intro p b;have:=key p b;simp only [zg,hf] at this
   simp_all
theorem leftOk_end {f:Nat->α->σ->Option (Out ρ σ)} {m:List α} {rest:σ->Option ρ} {a:ρ} {s:σ} (h:LeftOk f m seen rest a s) (b:leftM m seen=[]):rest s=some a:=by
 have:=h [] (by rw [b]);exact this
end
section
variable {P:Program} {env:List AV} {h:AH} {Q:Exit->List AV->AH->Prop}
theorem r_loopMF {α ρ σ:Type} {body:Code} {f:Nat->α->σ->Option (Out ρ σ)} {m:List α} {b:σ} {rest:σ->Option ρ} {c:ρ} (U:σ->List (Nat×AV)) (H:List Nat->σ->AH) (l:allP m (λp=>lp (zg f p 0 b) rest)=some c) {E:σ->List AV}
  (r:∀s,x5 env (U s)=E s) (h0:wk h env h (E b) (H [] b))
  (hs:∀seen s,LeftOk f m seen rest c s->wH P body (loopQ (λenv' d=>∃i a,(i < m.length/\i ∉ seen)/\LeftOk f m (seen++[i]) rest c a/\wk (H seen s) env' d (E a) (H (seen++[i]) a)) Q) (E s) (H seen s)) :
  wH P (.loop body) Q env h:=by
 refine r_loop (σ:=List Nat×σ) (λp=>E p.2) (λp=>H p.1 p.2) (λp=>LeftOk f m p.1 rest c p.2) (λp=>(leftM m p.1).length) ([],b) h0 (λp n=>allP_is l p (by rwa [leftM_nil] at n)) ?_
 rintro ⟨seen,s⟩ q
 refine va ?_ _ _ _ (hs seen s q);intro x env' d e;cases x with
 | normal =>
  obtain ⟨i,a,⟨k,g⟩,u,j⟩:=e;refine ⟨(seen++[i],a),u,?_,j⟩;have:=(leftM_perm (ug k) g).length_eq
  simp_all
 | _=>exact e
theorem ops_rangeM {Q:List AV->AH->Prop} {env:List AV} {h:AH} {L':List Blk} {g l:TypeId} {n:Nat} (e:aG ops o env=some true) (q:o.op=.range t x) (c:P.underlying t=some (.map g l))
  (r:yf env x=some (.map id)) (d:(h.ext L M).blk id=some (.mapo (m.map (xY kv vv)) 0)) (s:L.length=n) (hd:xV o.dst env (.ptr (h.blks.length+n) 0)=some env') (k:L++[.miter id m.length []]=L') (f:zJ P ops Q rest env' (h.ext L' M)):zJ P ops Q (o::rest) env (h.ext L M):=by
 obtain ⟨j,b⟩:=zR r;subst s k;have key:xO P o env (h.ext L M)=some [(.ptr (h.blks.length+L.length) 0,h.ext (L++[.miter id m.length []]) M)]:=by
  simp only [xO,q,j,b,c,d,uq];simp [AH.new,AH.ext]
 refine awpOps_consB e ⟨_,key,λp a=>?_⟩;simp only [up] at a;subst a;show zJ P ops Q rest (setd env o.dst (.ptr (h.blks.length+L.length) 0)) _;rw [yO hd];exact f
theorem ops_nextMF {ρ σ:Type} {Q:List AV->AH->Prop} {env w:List AV} {h:AH} {j:Nat}
  {f:Nat->K×W->σ->Option (Out ρ σ)} {s:σ} {a:σ->Option ρ} {u:ρ} (D:aG ops o env=some true) (H:o.op=.next x false)
  (N:yf env x=some (.ptr (h.blks.length+j) 0)) (R:L[j]?=some (.miter id m.length seen)) (C:(h.ext L M).blk id=some (.mapo (m.map (xY kv vv)) 0)) (k:xV o.dst env (.tup [.bool false])=some w)
  (z:LeftOk f m seen a u s)
  (n:∀i y e,m[i]?=some y->(i < m.length/\i ∉ seen)->f seen.length y s=some e->konM f m (seen++[i]) a u e->∃v,xV o.dst env (.tup [.bool true,kv y.1,vv y.2])=some v/\zJ P ops Q rest v (h.ext (L.set j (.miter id m.length (seen++[i]))) M))
  (l:a s=some u->zJ P ops Q rest w (h.ext L M)):zJ P ops Q (o::rest) env (h.ext L M):=by
 obtain ⟨F,B⟩:=zR N;have key:xO P o env (h.ext L M)=some (nextAlts (h.ext L M) (h.blks.length+j) id m.length seen (m.map (xY kv vv))):=by
  simp [xO,H,F,B,yI,R,C]
 refine awpOps_consB D ⟨_,key,λp b=>?_⟩;unfold nextAlts at b;have d:(m.map (xY kv vv)).zipIdx=m.zipIdx.map λq=>(xY kv vv q.1,q.2):=by
  rw [List.zipIdx_map];rfl
 rw [d,List.filter_map] at b;split at b
 ·rename_i g;simp only [up] at b;subst b;have I:leftM m seen=[]:=by
   unfold leftM;rw [rV] at g ⊢;exact g
  show zJ P ops Q rest (setd env o.dst (.tup [.bool false])) (h.ext L M);rw [yO k];exact l (leftOk_end z I)
 ·rename_i q r g;rw [<- g,rh,tI] at b;obtain ⟨⟨y,i⟩,A,rfl⟩:=b;rw [uV] at A;have hi:=sy.1 A.1;have c:i ∉ seen:=by simp_all
  obtain ⟨e,J,E⟩:=leftOk_step z hi c;obtain ⟨v,G,O⟩:=n i y e hi ⟨(uc.1 hi).1,c⟩ J E;show zJ P ops Q rest (setd env o.dst (.tup [.bool true,kv y.1,vv y.2])) ((h.ext L M).put (h.blks.length+j) (.miter id m.length (seen++[i])));rw [yO G,vk];exact O
theorem ops_entryM {Q:List AV->AH->Prop} {env:List AV} {h:AH} {j:Nat} {y:K×W}
  (l:aG ops o env=some true) (c:o.op=.entry x) (n:yf env x=some (.ptr (h.blks.length+j) 0)) (d:L[j]?=some (.miter id m.length (seen++[i]))) (k:(h.ext L M).blk id=some (.mapo (m.map (xY kv vv)) 0)) (e:m[i]?=some y)
  (hd:xV o.dst env (.tup [kv y.1,vv y.2])=some env') (b:zJ P ops Q rest env' (h.ext L M)):zJ P ops Q (o::rest) env (h.ext L M):=by
 obtain ⟨g,f⟩:=zR n;have key:xO P o env (h.ext L M)=some [(.tup [kv y.1,vv y.2],h.ext L M)]:=by
  simp [xO,c,g,f,yI,d,k,e,xY]
 refine awpOps_consB l ⟨_,key,λp a=>?_⟩;simp only [up] at a;subst a;show zJ P ops Q rest (setd env o.dst (.tup [kv y.1,vv y.2])) _;rw [yO hd];exact b
theorem bytesX_map:∀L:List UInt8,bytesX (L.map byteRow)=some L
 | []=>rfl
 | b::r=>by
  have a:b.toNat < 256:=b.toBitVec.isLt;simp only [uD,byteRow,bytesX];rw [uF ⟨by omega,by omega⟩,bytesX_map r];simp
def slOrOsl (k:Nat) (es:List (List AV)) (a:AV):Prop:=a=.sl k es \/ ∃q,a=.osl q k es
theorem convB {env:List AV} {h:AH} {s e:TypeId} {a:AV} {L:List UInt8} (f:o.op=.convert s t x) (hs:P.underlying s=some (.slice e)) (c:P.underlying e=some (.int .u8)) (k:P.underlying t=some .string)
  (l:yf env x=some a) (b:slOrOsl 1 (L.map byteRow) (tyfix P s a)) (d:L.length<=maxLen):xO P o env h=some [(.str L,h)]:=by
 obtain ⟨j,g⟩:=zR l;simp only [xO,f,j,g,uq,convX,hs,k];rcases b with b | ⟨q,b⟩
 ·rw [b];simp only [c,bytesX_map,uF d]
 ·rw [b];simp only [c,bytesX_map,uF d]
theorem ops_b {Q:List AV->AH->Prop} {env:List AV} {h a:AH} {v:AV} (e:aG ops o env=some true) (d:xO P o env h=some [(v,a)]) (hd:xV o.dst env v=some env') (c:zJ P ops Q rest env' a):zJ P ops Q (o::rest) env h:=by
 refine awpOps_consB e ⟨_,d,λp b=>?_⟩;simp only [up] at b;subst b;show zJ P ops Q rest (setd env o.dst v) a;rw [yO hd];exact c
theorem draw_b {Ns:List Nat} {F:Nat->AH->Prop} {Q:List AV->AH->Prop} {env:List AV} {h:AH} {v:AV} (e:Ns.contains i=false) (a:bdraw o.op=true) (c:aG ops o env=some true) (d:xO P o env h=some [(v,h)]) (hd:xV o.dst env v=some env') (b:zT P ops Ns F Q (i+1) rest env' h):zT P ops Ns F Q i (o::rest) env h :=
 ⟨v,h,.inr (.inr ⟨e,a,c,d⟩),.inr rfl,.inl rfl,by rw [yO hd];exact b⟩
end
end Go.Vv
namespace Go.Vv
open Go Go.RowKit Go.ChangeShapes Go.WideShapes Go.ChangeAt
variable {t:TypeId} {α:Type} {n total off:Nat}

def g0 (W:World):Gh:={ Φ:=λb j=>if b < W.heap.size then W.cell? ⟨b,j,none⟩ else none,σ:=[],τ:=[],δ:=[],O:=λb=>b < W.heap.size }
def h0:AH:={ blks:=[],toks:=[] }
theorem rel0 (W:World):Rel W.heap.size W (g0 W) h0 W:=by
 refine ⟨Below.refl _ _,uh _,λb j v h=>?_,rfl,λi c k d _=>by simp [g0] at d,rfl,λi t a=>by simp [g0] at a,λi j c hi=>by simp [g0] at hi,λi j t t' b x y hi=>by simp [g0] at hi,λi c j t b x hi=>by simp [g0] at hi,λc d=>by simp [g0] at d,λi k hi=>by simp [g0] at hi,λi j t k k' es es' hi=>by simp [h0] at hi,λb x h=>by simp [g0] at h,λb h=>⟨h,λs=>by simp [g0]⟩,λb _=>⟨λi=>by simp [g0],by simp [g0],λi t y a=>by simp [g0] at a⟩⟩;simp only [g0] at h
 simp_all

section
variable {H:Type} {enc:TypeId×Value->H} {P:Program} {W:World}
mutual
def wq:DataW H->Nat
 | .lit (.string bytes)=>bytes.length+1
 | .lit _=>1
 | .nil=>1
 | .ptr d=>wq d+1
 | .slice elems spare=>wA elems+wA spare+1
 | .agg parts=>wA parts+1
 | .iface _ d=>wq d+1
 | .map entries=>vBulkEs entries+1
 | .held _=>1
def wA:List (DataW H)->Nat
 | []=>0
 | d::r=>wq d+wA r
def vBulkEs:List (Lit×DataW H)->Nat
 | []=>0
 | x::r=>vBulkEs r+vBulkE x
def vBulkE:Lit×DataW H->Nat
 | (.string bytes,d)=>bytes.length+wq d+1
 | (_,d)=>wq d+1
end
theorem sum_bulk {α:Type} {bk:α->Nat}:∀{l:List α} {ds:List (DataW H)},l.length=ds.length->(∀(i:Nat) (a:α) (d:DataW H),l[i]?=some a->ds[i]?=some d->bk a<=wq d)->(l.map bk).sum<=wA ds
 | [],_,_,_=>by simp
 | a::r,[],hl,_=>by simp at hl
 | a::r,d::ds,hl,h=>by
  have e:=h 0 a d rfl rfl;have c:=sum_bulk (bk:=bk) (l:=r) (ds:=ds) (by simp_all) (λi x y f b=>h (i+1) x y (by simp_all) (by simp_all));simp only [uD,rO,wA];omega
def RdN (enc:TypeId×Value->H) (P:Program) (W:World) (n:Nat) (t:TypeId) {α:Type} (row:α->List AV) (wf:α->Prop) (bk:α->Nat):Prop :=
 ∀cs x,DataW.trod enc P W 0 (λ_=>true) true n t cs=some x->∃y,VL (g0 W) (row y) cs/\wf y/\bk y<=wq x.1
theorem RdN.zero {row:α->List AV} {wf:α->Prop} {bk:α->Nat}:RdN enc P W 0 t row wf bk:=λcs x h=>by simp [DataW.trod] at h
theorem RdN.map {e:Type} {row:α->List AV} {wf:α->Prop} {b:e->List AV} {d:e->Prop} {bk:α->Nat} {c:e->Nat} (f:α->e) (h:RdN enc P W n t row wf bk) (m:∀a,b (f a)=row a) (l:∀a,wf a->d (f a)) (j:∀a,c (f a)=bk a):RdN enc P W n t b d c:=λcs x g=>by
 obtain ⟨y,k,i,o⟩:=h cs x g
 grind
theorem rd_int {k:IntKind} (b:P.underlying t=some (.int k)):RdN enc P W n t (intRow k) (InK k) (λ_=>1):=by
 cases n with
 | zero=>exact RdN.zero
 | succ n =>
  intro cs x h;rw [DataW.trod_step] at h;unfold DataW.trodStep at h;rw [b] at h;split at h <;> simp_all;obtain ⟨⟨rfl,a⟩,rfl⟩:=h;exact ⟨_,VL.cons (by rfl) (by simp [VL]),by simpa [Lit.wf,InK] using a,by simp [wq]⟩
theorem rd_bool (a:P.underlying t=some .bool):RdN enc P W n t boolRow (λ_=>True) (λ_=>1):=by
 cases n with
 | zero=>exact RdN.zero
 | succ n =>
  intro cs x h;rw [DataW.trod_step] at h;unfold DataW.trodStep at h;rw [a] at h;split at h
  all_goals first | (exfalso;simp_all;done) | skip
  rename_i b _;cases h;exact ⟨b,VL.cons (by simp only [V]) (by simp [VL]),trivial,by simp [wq]⟩
theorem rd_str (a:P.underlying t=some .string):RdN enc P W n t zC (λs=>s.length<=maxLen) (λs=>s.length+1):=by
 cases n with
 | zero=>exact RdN.zero
 | succ n =>
  intro cs x h;rw [DataW.trod_step] at h;unfold DataW.trodStep at h;rw [a] at h;split at h <;> simp_all;rename_i s;have hs:s.data.toList.length=s.size:=rfl;obtain ⟨h,rfl⟩:=h;refine ⟨s.data.toList,VL.cons ?_ (by simp [VL]),by omega,by simp [wq]⟩;simp only [V]
  simp_all
theorem mapM_get {α e:Type} {f:α->Option e}:∀{l:List α} {xs:List e},l.mapM f=some xs->∀a ∈ l,∃x,f a=some x
 | [],_,_,a,c=>by cases c
 | b::r,xs,h,a,c=>by
  simp only [rd,sO,su,rt,uk] at h;obtain ⟨v,g,vs,d,rfl⟩:=h;rcases ut.1 c with rfl | c
  ·simp_all
  ·exact mapM_get d a c
theorem mapM_len {α c:Type} {f:α->Option c}:∀{l:List α} {xs:List c},l.mapM f=some xs->xs.length=l.length
 | [],_,h=>by simp_all
 | b::r,xs,h=>by
  simp only [rd,sO,su,rt,uk] at h;obtain ⟨v,d,vs,a,rfl⟩:=h;simp [mapM_len a]
theorem mapM_at {α d:Type} {f:α->Option d}:∀{l:List α} {xs:List d},l.mapM f=some xs->∀(i:Nat) (a:α),l[i]?=some a->∃x,f a=some x/\xs[i]?=some x
 | [],_,_,i,a,ha=>by simp at ha
 | b::r,xs,h,i,a,ha=>by
  simp only [rd,sO,su,rt,uk] at h;obtain ⟨v,e,vs,c,rfl⟩:=h;cases i with
  | zero=>simp at ha;subst ha;exact ⟨v,e,rfl⟩
  | succ i=>simpa using mapM_at c i a (by simp_all)
theorem ones_of_pure {a5:List AV} (h:a5.all AV.pure=true):a5.all AV.one=true:=by
 rw [ux] at h ⊢;exact λa b=>AV.one_of_pure (h a b)
theorem rd_slice {e:TypeId} {k:Nat} {row:α->List AV} {wf:α->Prop} {bk:α->Nat} (U:P.underlying t=some (.slice e)) (Z:P.cellsOf e=k) (hk:0 < k) (S:∀y,(row y).length=k) (I:∀y,(row y).all AV.pure=true) (T:∀m,m < n->RdN enc P W m e row wf bk) :
  RdN enc P W n t (λL=>[AV.sl k (L.map row)]) (λL:List α=>L.length<=maxLen/\∀y ∈ L,wf y) (λL=>(L.map bk).sum+1):=by
 cases n with
 | zero=>exact RdN.zero
 | succ n =>
  intro cs x h;rw [DataW.trod_step] at h;unfold DataW.trodStep at h;rw [U] at h;split at h
  all_goals first | (exfalso;simp_all;done) | skip
  ·-- nil
   cases h;exact ⟨[],VL.cons (by simp only [V];exact ⟨none,0,rfl,by simp,by simp,.inl rfl⟩) (by simp [VL]),⟨by simp,λy s=>by cases s⟩,by simp [wq]⟩
  ·rename_i _ _ O a len cap A;injection A with A;injection A with A;subst A;simp only [Z] at h;split at h
   ·rename_i N;obtain ⟨_,X,r⟩:=N;rcases hel:(List.range len).mapM λi=>(W.cells? 0 (a.add (i * k)) k).bind (DataW.trod enc P W 0 (λ_=>true) true n e) with _ | b
    ·simp_all
    ·-- the elements,one by one
     have D:b.length=len:=by rw [mapM_len hel];simp
     have E:wA (b.map (·.1))+1<=wq x.1:=by
      rw [hel] at h;simp only [ua,tQ] at h;obtain ⟨rest,_,rfl⟩:=h;simp only [wq];omega
     have key:∀i,i < len->∃y us,W.cells? 0 (a.add (i * k)) k=some us/\VL (g0 W) (row y) us/\wf y/\∀z,b[i]?=some z->bk y<=wq z.1:=by
      intro i hi;obtain ⟨z,G,R⟩:=mapM_at hel i i (rW hi);rcases hcs:W.cells? 0 (a.add (i * k)) k with _ | us
      ·simp_all
      ·rw [hcs] at G;obtain ⟨y,l,F,h3⟩:=T n (sR n) us z G
       grind
     rcases sU len with h0 | q
     ·subst h0;exact ⟨[],VL.cons (by simp only [V];exact ⟨some a,cap,rfl,by simp,r,.inl rfl⟩) (by simp [VL]),⟨by simp,λy s=>by cases s⟩,by simp;omega⟩
     ·have B:Nonempty α:=⟨(key 0 q).choose⟩
      have w:∀i,∃y,i < len->∃us,W.cells? 0 (a.add (i * k)) k=some us/\VL (g0 W) (row y) us/\wf y/\∀z,b[i]?=some z->bk y<=wq z.1:=by
       intro i;by_cases hi:i < len
       ·simp_all
       ·exact ⟨Classical.choice B,λh=>absurd h hi⟩
      obtain ⟨f,J⟩:=Classical.axiomOfChoice w
      -- no place within a cell
      have c:a.spot=none:=by
       obtain ⟨us,l,_⟩:=J 0 q;unfold World.cells? at l;rw [uF (tK _)] at l;obtain ⟨v,p⟩:=mapM_get l 0 (by simp_all);simp only [Nat.zero_mul] at p;have Y:(a.add 0).add 0=a:=by rfl
       rw [Y] at p;unfold World.cell? at p;split at p
       ·simp_all
       ·cases p
      have M:a=⟨a.block,a.off,none⟩:=by cases a;simp at c;simp [c]
      refine ⟨(List.range len).map f,VL.cons ?_ (by simp [VL]),⟨by simp;omega,λy s=>?_⟩,?_⟩
      ·simp only [V];refine ⟨some a,cap,by simp,by grind,r,.inr ⟨a.block,a.off,congrArg some M,VE.mk λi O o=>?_⟩⟩;simp only [rh,s6] at o;have hi:i < len:=by
        grind
       rw [rW hi] at o;simp only [u5,Function.comp,uk] at o;subst o;obtain ⟨us,l,F,_,_⟩:=J i hi;refine ⟨S _,VC.ofVA (VA.mk F (ones_of_pure (I _))) (I _) λj u K=>?_⟩;unfold World.cells? at l;rw [uF (tK _)] at l;have C:j < k:=by
        have:=(uc.1 K).1;rw [mapM_len l] at this;simpa using this
       obtain ⟨v,p,g⟩:=mapM_at l j j (rW C);rw [K] at g;injection g with g;subst g;have Q:(a.add (i * k)).add j=⟨a.block,a.off+i * k+j,none⟩:=by
        rw [M,xF,xF]
       rw [Q] at p;simp only [g0];rw [uF (World.block_lt_of_cell? W _ p)];exact p
      ·grind
      ·refine uE (Nat.add_le_add_right (sum_bulk (bk:=bk) (ds:=b.map (·.1)) (by simp [D]) λi y d s hd=>?_) 1) E
       grind
   ·cases h

def RdF (enc:TypeId×Value->H) (P:Program) (W:World) (n:Nat) (total off:Nat) (fs:List Field) {α:Type} (row:α->List AV) (wf:α->Prop) (bk:α->Nat):Prop :=
 ∀(cs:List Value) xs,cs.length=total->(fs.mapM λf=>DataW.trod enc P W 0 (λ_=>true) true n f.type ((cs.drop f.offset).take (P.cellsOf f.type)))=some xs->∃y,VL (g0 W) (row y) (cs.drop off)/\wf y/\bk y<=wA (xs.map (·.1))
theorem rf_nil (h:total<=off):RdF enc P W n total off [] (λ_:Unit=>[]) (λ_=>True) (λ_=>0):=λcs xs a _=>⟨(),by rw [tq (by omega)];simp [VL],trivial,tK _⟩
theorem y5 {k a:Nat} {f:Field} {fs:List Field} {i:Type} {row:α->List AV} {wf:α->Prop} {b:i->List AV} {d:i->Prop} {bk:α->Nat} {c:i->Nat} (s:f.offset=off) (C:P.cellsOf f.type=k) (g:off+k=a) (h:RdN enc P W n f.type row wf bk) (r:RdF enc P W n total a fs b d c) :
  RdF enc P W n total off (f::fs) (λp:α×i=>row p.1++b p.2) (λp=>wf p.1/\d p.2) (λp=>bk p.1+c p.2):=by
 intro cs xs u m;simp only [rd,sO,su,rt,uk] at m;obtain ⟨v,A,vs,j,rfl⟩:=m;obtain ⟨y,l,o,B⟩:=h _ _ A;obtain ⟨z,w,q,x⟩:=r _ _ u j;refine ⟨(y,z),?_,⟨o,q⟩,by simp only [uD,wA];omega⟩;have e:cs.drop off=(cs.drop off).take k++cs.drop a:=by
  rw [<- g,<- tD,sf]
 rw [e];rw [s,C] at l;exact VL.append l w
theorem rd_struct {fs:Array Field} {l:List Field} {row:α->List AV} {wf:α->Prop} {bk:α->Nat} (i:P.underlying t=some (.struct fs)) (d:fs.toList=l) (j:P.cellsOf t=total) (h:∀m,m < n->RdF enc P W m total 0 l row wf bk):RdN enc P W n t row wf (λy=>bk y+1):=by
 cases n with
 | zero=>exact RdN.zero
 | succ n =>
  intro cs x a;rw [DataW.trod_step] at a;unfold DataW.trodStep at a;rw [i] at a;split at a
  all_goals first | (exfalso;simp_all;done) | skip
  rename_i cs _ _ g c;injection c with c;injection c with c;subst c;split at a
  ·rename_i b;rw [d] at a;rcases hm:(l.mapM λf=>DataW.trod enc P W 0 (λ_=>true) true n f.type ((cs.drop f.offset).take (P.cellsOf f.type))) with _ | xs
   ·simp_all
   ·obtain ⟨y,k,e,o⟩:=h n (sR n) cs xs (by rw [b,j]) hm;rw [hm] at a;simp only [u5,uk] at a;subst a;exact ⟨y,by simp_all,e,by simp only [wq];omega⟩
  ·cases a
theorem rd_arg {row:α->List AV} {wf:α->Prop} {bk:α->Nat} {v:Value} {d:DataW H} {p:List MemPlace} (a:∀n,RdN enc P W n t row wf bk) (h:DataW.Trod enc P W 0 (λ_=>true) true t v d p):∃y,VL (g0 W) (row y) v.cells.toList/\wf y/\bk y<=wq d:=by
 obtain ⟨n,b⟩:=h;exact a n _ _ b
theorem V.of_one {a:AV} {v:Value} {g:Gh} (b:∀cs,v ≠ .agg cs) (h:VL g [a] v.cells.toList):V g a v:=by
 simp only [VL] at h;obtain ⟨u,s,e,c,rfl⟩:=h;have:v.cells=#[v]:=by cases v <;> first | rfl | exact absurd rfl (b _)
 simp_all
theorem post_of_below {f:Func} {s:ChangeSpec} {apart l c i:Bool} {W':World} {args:Array Value} {v:Value} {ds gs:List (DataW H)} {a q pv:List MemPlace}
  (w:DataW.Whole enc P f.params.toList s.vars apart W args.toList ds gs a) (y:Below W.heap.size W W')
  (h:∀(b:Nat) (k:Nat->Bool) (hd:Bool),DataW.TrodAll enc P W' b k hd f.resultTypes.toList (v.resultList f.resultTypes.size) (s.fn H (ds++gs)).results [])
  (d:∀k:Nat->Bool,(∀p ∈ a,k p.block=true)->DataW.TrodAll enc P W' 0 k true f.params.toList args.toList (s.fn H (ds++gs)).args q)
  (e:∀k:Nat->Bool,(∀p ∈ a,k p.block=true)->DataW.TrodVars enc P W' k s.vars (s.fn H (ds++gs)).vars pv)
  (A:a=q++pv)
  (x:∀(j:Nat) (t:TypeId) (r:Value),f.resultTypes[j]?=some t->(v.resultList f.resultTypes.size)[j]?=some r->Value.okWide P W' .any 0 t r) :
  s.post enc P f apart l c i W args v W':=by
 have u:∀p ∈ a,p.block < W.heap.size:=λp o=>by simpa using w.lt p o
 have g:∀p ∈ a,(λb=>decide (b < W.heap.size)) p.block=true:=λp o=>by simp_all
 refine ⟨ds,gs,a,[],q,pv,w,h _ _ _,d _ g,e _ g,World.keptBut_mono (λp o=>⟨o,?_⟩) (y.frame (· ∈ a)),λ_=>?_⟩
 ·simp_all
 ·obtain ⟨_,_,_,_,_,z,B⟩:=w;refine ⟨x,_,_,([]++q)++pv,⟨[]++q,pv,trodAll_append (d _ (λ_ _=>rfl)) (h _ _ _),e _ (λ_ _=>rfl),rfl,?_,?_⟩,?_⟩
  ·intro b off o;have m:MemPlace.cell b off ∈ a:=by simp_all
   rw [y.frozen (p:=⟨b,off,none⟩) (u _ m)];exact z b off m
  ·simp_all
  ·simp_all
end
end Go.Vv
namespace Go.Vv
open Go Go.ChangeShapes Go.WideShapes
theorem returns_cond_shaped {H:Type} {enc:TypeId×Value->H} {a:Assume} {C:Checked} {os:Os} {f:FuncId} {fn:Func} {s:OpenSpec} {k:(H:Type)->List (DataW H)->Bool} (J:s.cond=some k) {F:Stop.Interp} {g:List PathCond} {apart m d l:Bool}
  (B:ownKnob C.prog.godebug=none) (n:os.Started) (p:C.prog.inits.idxOf? f=none) (G:C.prog.funcs[f]?=some fn)
  (o:∃(w:World) (b:Tape) (i:Input),w.os=os/\(w.forCall b i).Shaped C.prog/\i.vars=[]/\Input.okWide C.prog (w.forCall b i) .any w.heap.size f i /\
   s.pre6 enc C.prog fn g apart (w.forCall b i).memory i.args/\a.holds C.prog (lone (Frame.enter C.prog f i.args .normal) [] (w.forCall b i)))
  (h:∀(W:World) (q:Nat) (args:Array Value) (ds gs:List (DataW H)) (c:List MemPlace),
   (∀(j:Nat) t v,fn.params[j]?=some t->args[j]?=some v->Value.okWide C.prog W .any q t v) ->
   DataW.Whole enc C.prog fn.params.toList s.vars apart W args.toList ds gs c->k H (ds++gs)=true->W.ShapedOpen C.prog ->
   Calls C.prog f args W λe W'=>∃v,e=.returned v/\(s.at F).post enc C.prog fn apart m d l W args v W') :
  ReturnsInHanded a C os f .any (s.pre6 enc C.prog fn g apart) ((s.at F).post enc C.prog fn apart m d l):=by
 refine returnsInHanded_of_calls B n p o ?_;intro w b i _ E _ D x y;obtain ⟨_,_,_,I,u,_,_,_,_,r⟩:=D;have e:I=fn:=uJ (u.symm.trans G);subst e;obtain ⟨ds,gs,c,L,N,A⟩:=(OpenSpec.pre_some J g apart _ _).1 x.1;have z:=DataW.Whole.of_heap (w':=w.forCall b i) (by rfl) L;refine (h (w.forCall b i) w.heap.size i.args ds gs c r z A E).mono λe W' ⟨v,M,K⟩=>?_;subst M;exact ChangeSpec.post_blind K
end Go.Vv
namespace Go.Vv
open Go
section
variable {α ρ σ:Type}
@[simp] theorem lp_none {rest:σ->Option ρ}:lp (none:Option (ρ ⊕ σ)) rest=none:=rfl
@[simp] theorem lp_inl {rest:σ->Option ρ} {r:ρ}:lp (some (.inl r)) rest=some r:=rfl
@[simp] theorem yp {rest:σ->Option ρ} {s:σ}:lp (some (.inr s)) rest=rest s:=rfl
theorem zn {p:Prop} [Decidable p] {o:Option ρ} (h:p):yw p o=o:=uF h
theorem loopL_all {f:Nat->α->Unit->Option (Out ρ Unit)} (p:α->Bool) (r:ρ):∀(L:List α) (i:Nat),(∀i x,x ∈ L->f i x ()=if p x=true then some (.nxt ()) else some (.ret r))->zg f L i ()=if L.all p=true then some (.inr ()) else some (.inl r)
 | [],_,_=>rfl
 | x::t,i,h=>by
  have b:=loopL_all p r t (i+1) (λi y a=>h i y (tr _ a));simp only [zg,h i x (tA ..)]
  grind
theorem loopL_fold {f:Nat->α->σ->Option (Out ρ σ)} (g:σ->α->σ):∀(L:List α) (i:Nat) (s:σ),(∀i x s,x ∈ L->f i x s=some (.nxt (g s x)))->zg f L i s=some (.inr (L.foldl g s))
 | [],_,_,_=>rfl
 | x::t,i,s,h=>by
  simp only [zg,h i x s (tA ..),sI];exact loopL_fold g t (i+1) (g s x) (λi y s a=>h i y s (tr _ a))
theorem loopL_first {f:Nat->α->Unit->Option (Out ρ Unit)} (p:α->Bool) (r:Nat->α->ρ):∀(L:List α) (i:Nat),(∀i x,x ∈ L->f i x ()=if p x=true then some (.ret (r i x)) else some (.nxt ())) ->
  zg f L i ()=match L.findIdx? p with
   | none=>some (.inr ())
   | some j=>match L[j]? with | some x=>some (.inl (r (i+j) x)) | none=>none
 | [],_,_=>rfl
 | x::t,i,h=>by
  have b:=loopL_first p r t (i+1) (λi y a=>h i y (tr _ a));simp only [zg,h i x (tA ..),List.findIdx?_cons]
  grind
def qJ (q:α->Bool) (p:List α):Int:=match p.findIdx? q with | some j=>(j:Int) | none=>-1
theorem first_loop {f:α->Option Bool} {q:α->Bool} (p:List α) (d:∀x ∈ p,f x=some (q x)):lp (zg (λ(a:Nat) (b:α) (_:Unit)=>(((f b).bind λc=>(if c=true then some (.ret (a:Int)) else some (.nxt ()))):Option (Out _ Unit))) p 0 ()) (λ(_:Unit)=>some (-1:Int))=some (qJ q p):=by
 rw [loopL_first q (λi _=>(i:Int)) _ _ (λi x g=>by simp_all)];unfold qJ;cases h:p.findIdx? q with
 | none=>simp
 | some j =>
  obtain ⟨e,_⟩:=sF.1 h
  simp_all
theorem firstI_any (q:α->Bool) (p:List α):decide (qJ q p >= 0)=p.any q:=by
 unfold qJ
 grind
theorem xw {M:List α} {i:Nat} (h:i < M.length):xe M (i:Int)=some M[i]:=by
 unfold xe;rw [uF (by omega),uM,ug h]
theorem vC {L:List α} {lo hi:Int} (h:0<=lo/\lo<=hi/\hi<=L.length):slc L lo hi=some ((L.take hi.toNat).drop lo.toNat):=uF h
theorem qn {n:Int} (h:-9223372036854775808<=n/\n<=9223372036854775807):IntKind.wrap .i64 n=n:=by rw [IntKind.wrap_i64];omega
end
end Go.Vv
namespace Go.Vv
open Go Go.RowKit
variable {f:FuncId} {n t id j:Nat} {ρ:Type} {E args xs:List AV} {ps:List Tmp} {assign body:Code} {b:Blk}
section
variable {P:Program} {o:Oper} {env:List AV} {h:AH} {L:List Blk} {M:List Nat} {nb nt:Nat}
theorem n_alloc (c:h.blks.length=nb) {t:TypeId} {cs:List AV} {n:Nat} (a:o.op=.alloc t) (e:xW P t=some cs) (d:L.length=n):zr P o env (h.ext L M)=.ok (.ptr (nb+n) 0) (h.ext (L++[.cells cs]) M):=by
 subst c;exact wy a e d
theorem n_box (e:h.blks.length=nb) {t:TypeId} {x:Operand} {a a':AV} {cs:List AV} {n:Nat} (d:o.op=.box t x) (i:yf env x=some a) (c:tyfix P t a=a') (g:a'.cells?=some cs) (l:L.length=n) :
  zr P o env (h.ext L M)=.ok (.ptr (nb+n) 0) (h.ext (L++[.cells cs]) M):=by
 subst e;exact e_box d i c g l
theorem n_load (l:h.blks.length=nb) {t:TypeId} {d:TypeDesc} {k j off:Nat} {x:Operand} {cs:List AV} {v v':AV} (c:o.op=.load t x) (i:Ty P t d k) (m:yf env x=some (.ptr (nb+j) off)) (e:L[j]?=some (.cells cs))
  (g:ldC (yg d) k off cs=some v) (a:tyfix P t v=v'):zr P o env (h.ext L M)=.ok v' (h.ext L M):=by
 subst l;exact yG c i m e g a
theorem n_store (q:h.blks.length=nb) {t:TypeId} {d:TypeDesc} {k j off:Nat} {x y:Operand} {cs vs cs':List AV} {b b':AV} (g:o.op=.store t x y) (a:Ty P t d k) (m:yf env x=some (.ptr (nb+j) off)) (l:yf env y=some b)
  (e:tyfix P t b=b') (r:b'.cells?=some vs) (i:vs.length=k) (p:L[j]?=some (.cells cs)) (c:Nat.ble (off+k) cs.length=true) (hs:yD cs off vs=cs'):zr P o env (h.ext L M)=.ok aundef (h.ext (L.set j (.cells cs')) M):=by
 subst q;exact zQ g a m l e r i p c hs
end
section
variable {P:Program} {o:Oper} {env:List AV} {h:AH} {α:Type} {row:α->List AV} {L M:List α} {nb nt:Nat}
theorem n_appT (w:h.toks.length=nt) {c:Call} {x y:Operand} {t u e m:TypeId} {k k' j:Nat} {a b b':AV} {B:List Blk} {T T':List Nat} (p:o.op=.call c) (G:c.callee=.builtin .append) (hs:c.args=#[x,y]) (g:c.argTypes=#[t,u]) (s:El P t e k)
  (d:El P u m k') (v:yf env x=some a) (r:yf env y=some b) (F:tyfix P t a=.osl (some (nt+j)) k (L.map row)) (i:tyfix P u b=b') (z:qt k b'=some (M.map row)) (q:L.length+M.length<=yN) (D:T[j]?=some L.length) (l:T.set j (L++M).length=T') :
  zr P o env (h.ext B T)=.ok (.osl (some (nt+j)) k ((L++M).map row)) (h.ext B T'):=by
 subst w;exact yH p G hs g s d v r F i z q D l
theorem n_own (d:h.toks.length=nt) {f:FuncId} {a5:List AV} {B:List Blk} {T T':List Nat} {k n m:Nat} {R:List (List AV)} (s:Spec P f a5 (h.ext B T) (OwnK (h.ext B T) k n R)) (a:T.length=m) (c:T++[n]=T') :
  Spec P f a5 (h.ext B T) (λe hh=>e=.osl (some (nt+m)) k R/\hh=h.ext B T'):=by
 subst d;exact vj s a c
end

def AH.closed (h:AH) (n t:Nat):Prop:=∀b ∈ h.blks,b.low n t=true
theorem Blk.low_up {n e m g:Nat} (a:n<=e) (h:m<=g):∀b:Blk,b.low n m=true->b.low e g=true
 | .cells cs,hl=>ym a h cs hl
 | .mapo es c,hl=>by
  simp only [Blk.low,ux,ud] at hl ⊢;exact λp d=>⟨AV.low_up a h _ (hl p d).1,AV.low_up a h _ (hl p d).2⟩
 | .loop _ _ env _ _ _,hl=>ym a h env hl
 | .row _ _ _,hl=>by simp only [Blk.low,uj] at hl ⊢;omega
 | .miter _ _ _,hl=>by simp only [Blk.low,uj] at hl ⊢;omega
 | .siter _ _,_ | .miter0,_ | .other,_ | .dead,_=>rfl
theorem closed_of_rel {B:Nat} {w0 w:World} {g:Gh} {h:AH} (r:Rel B w0 g h w):h.closed h.blks.length h.toks.length:=λb a=>by
 obtain ⟨i,hi⟩:=tb.1 a;have:=r.isLow hi
 rwa [r.slen,r.tlen] at this
theorem zY {P : Program} {fn : Func} {c : Code} (hf : P.funcs[f]? = some fn) (hb : fn.body = some c) (hname : (fn.name == "runtime.NumGoroutine") = false) {args : List AV} {h : AH} {K : AV → AH → Prop} {env : List AV}
  (he:args++List.replicate (fn.ntmps - args.length) aundef=env) (hw:zG h.blks.length h.toks.length args=true->h.closed h.blks.length h.toks.length->wH P c (bodyQ P fn h K) env (h.ext [] [])):Spec P f args h K:=by
 refine ⟨λvs w=>?_,λB w0 _ g w vs r hv=>?_⟩
 ·have hn : ¬ fn.name = "runtime.NumGoroutine" := by simpa using hname
  simp [callFunc,hf,hb,hn]
 ·have hl:=hv.isLow;rw [r.slen,r.tlen] at hl;exact (zb hf hb hname he (hw hl (closed_of_rel r))).2 B w0 g w vs r hv
theorem ext_len {h:AH} {L:List Blk} {M:List Nat} (a:h.blks.length=n):(h.ext L M).blks.length=n+L.length:=by simp [AH.ext,a]
theorem ext_tlen {h:AH} {L:List Blk} {M:List Nat} (a:h.toks.length=n):(h.ext L M).toks.length=n+M.length:=by simp [AH.ext,a]
theorem closed_ext {h:AH} {L:List Blk} {M:List Nat} {c t':Nat} (e:h.closed n t) (g:n<=c) (d:t<=t') (i:L.all (λb=>b.low c t')=true):(h.ext L M).closed c t':=λb a=>by
 simp only [AH.ext,uv] at a;rcases a with a | a
 ·exact Blk.low_up g d b (e b a)
 ·simp_all
theorem wk_ext3s {h a:AH} (v:h.blks.length=n) (s:h.toks.length=t) (m:a.blks.length=n) (g:a.toks.length=t) (x:a.closed n t) {L0 L1 L':List Blk} {M0 M1 M':List Nat} {env:List AV}
  (u:zG (n+L0.length) (t+M0.length) env=true) (q:L'.take L0.length=L1) (r:M'.take M0.length=M1) (p:L1.all (λb=>b.low (n+L0.length) (t+M0.length))=true):wk (h.ext L0 M0) env (a.ext L' M') env (a.ext L1 M1):=by
 have d:(h.ext L0 M0).blks.length=n+L0.length:=ext_len v;have e:(h.ext L0 M0).toks.length=t+M0.length:=ext_tlen s;have w:(a.ext L' M').cut (h.ext L0 M0).blks.length (h.ext L0 M0).toks.length=a.ext L1 M1:=by
  rw [d,e,<- m,<- g];simp only [AH.cut,AH.ext,tO,uS,q,r];rw [uQ (l:=a.blks) (by omega),uQ (l:=a.toks) (by omega)]
 have:=wk.cut (hd:=h.ext L0 M0) (env:=env) (h:=a.ext L' M') (by rw [d,e];exact u) (λi k hi c=>by
  right;rw [d] at hi;rw [d,e];simp only [AH.ext] at c;rcases t6 i a.blks.length with h1 | h1
  ·rw [uo h1] at c;exact Blk.low_up (by omega) (by omega) k (x k (uB c))
  ·rw [un h1] at c;rw [ux] at p;refine p k (uB (i:=i - a.blks.length) ?_);rw [<- q,ur,uF (by omega)];exact c)
 rw [w] at this;omega
theorem fin_exts {h a:AH} (p:h.blks.length=n) (l:h.toks.length=t) (d:a.blks.length=n) (c:a.toks.length=t) (m:a.closed n t) {L:List Blk} {M:List Nat} {K:AV->AH->Prop} {v v':AV} (g:leV v v')
  (i:v'.low n t=true) (e:K v' a):finK h K v (a.ext L M):=by
 have:=wk_ext3s (L0:=[]) (L1:=[]) (L':=L) (M0:=[]) (M1:=[]) (M':=M) (env:=[v']) p l d c m (by simp [zG,i]) rfl rfl rfl;rw [ext_nil,ext_nil] at this;exact ⟨v',a,(wk.le (leL.cons g leL.nil)).trans this,e⟩

def lst:Option Nat->LoopState
 | none=>.ready
 | some _=>.done
def lpe:Option Nat->Option Code
 | none=>none
 | some 0=>some .ret
 | some (i+1)=>some (.exit i)
def fam {β:Type} (h:β->AH) (A:β->List Blk) (T:β->List Nat) (lp:LoopState->Option Code->Blk) (s:β×Option Nat):AH:=(h s.1).ext (A s.1++[lp (lst s.2) (lpe s.2)]) (T s.1)
def stp {β X:Type} (f:β->X->Option ρ) (s:β×Option Nat) (x:X):Option ρ:=match s.2 with
 | none=>f s.1 x
 | some _=>none
def rng {β:Type} (q:Option (β×Option Nat)) (N:β->Option ρ) (J:Nat->β->Option ρ):Option ρ:=match q with
 | none=>none
 | some (b,none)=>N b
 | some (b,some j)=>J j b
def jumpQ (Q:Exit->List AV->AH->Prop):Nat->List AV->AH->Prop
 | 0=>Q .ret
 | i+1=>Q (.exit i)

theorem r_range {P:Program} {Q:Exit->List AV->AH->Prop} {env:List AV} {hd H:AH} {c:Operand} {ps:Array Tmp} {β:Type} {nb k:Nat} {first caps:List AV} (h:β->AH) (A:β->List Blk) (T:β->List Nat) (b0:β) {LA:List Blk} {LT:List Nat} {r:ρ} {q:Option (β×Option Nat)} {N:β->Option ρ} {J:Nat->β->Option ρ}
  (m:rng q N J=some r) (K:wk hd env hd E (H.ext LA LT)) (x:∀b,(h b).blks.length=nb) (R:H=h b0) (I:LA=A b0) (G:LT=T b0) (O:∀b,(A b).length=k) (u:yi c=true) (D:yf E c=some (.fn (.func f) first caps)) (a:(noRF assign&&noRF body)=true)
  (hs:∀lp:LoopState->Option Code->Blk,lp=(λg d=>.loop g d E ps assign body)->∀y,q=some y->Spec P f (first++[.yld (nb+k)]++caps) (fam h A T lp (b0,none)) λ_ hh=>hh=fam h A T lp y)
  (F:∀b H1,H1=(h b).ext (A b++[.dead]) (T b)->N b=some r->Q .normal E H1) (S:∀j b H1,H1=(h b).ext (A b++[.dead]) (T b)->J j b=some r->jumpQ Q j E H1):wH P (.rangeFunc c ps assign body) Q env hd:=by
 subst R I G;obtain ⟨_,z⟩:=zR D;simp only [ud] at a;refine ⟨u,a.1,a.2,E,_,K,?_⟩;rw [z];have w:((h b0).ext (A b0) (T b0)).blks.length=nb+k:=by simp [AH.ext,x,O]
 rcases q with _ | ⟨b,p⟩
 ·cases m
 ·have v:=hs _ rfl (b,p) rfl;rw [w,ext_new];refine v.mono λ_ hh e=>?_;subst e;have s:(fam h A T (λg d=>.loop g d E ps assign body) (b,p)).blk (nb+k)=some (.loop (lst p) (lpe p) E ps assign body):=by
   simp only [fam,AH.blk,AH.ext,<- x b]
   simp_all
  have l:(fam h A T (λg d=>.loop g d E ps assign body) (b,p)).put (nb+k) .dead=(h b).ext (A b++[.dead]) (T b):=by
   simp only [fam,<- x b,vk]
   simp_all
  refine ⟨_,_,_,_,_,_,s,by cases p <;> simp [lst],?_⟩;rw [l];cases p with
  | none=>exact F b _ rfl m
  | some j =>
   have:=S j b _ rfl m;cases j with
   | zero=>exact this
   | succ i=>exact this

def roundQ (hs:AH) (id:Nat) (lp:LoopState->Option Code->Blk) (K:AV->AH->Prop):Exit->List AV->AH->Prop
 | .normal,_,h=>∃h3,wk hs [] h [] h3/\h3.blk id=some (lp .busy none)/\K (.bool true) (h3.put id (lp .ready none))
 | .ret,_,h=>∃h3,wk hs [] h [] h3/\h3.blk id=some (lp .busy none)/\K (.bool false) (h3.put id (lp .done (some .ret)))
 | .exit i,_,h=>∃h3,wk hs [] h [] h3/\h3.blk id=some (lp .busy none)/\K (.bool false) (h3.put id (lp .done (some (.exit i))))
 | _,_,_=>False
def assignQ (P:Program) (hs:AH) (id:Nat) (lp:LoopState->Option Code->Blk) (body:Code) (K:AV->AH->Prop):Exit->List AV->AH->Prop
 | .normal,env,h=>h.blk id=some (lp .ready none)/\wH P body (roundQ hs id lp K) env (h.put id (lp .busy none))
 | _,_,_=>False

def setL (env:List AV):List Tmp->List AV->List AV
 | p::ps,a::a5=>setL (env.set p a) ps a5
 | _,_=>env
theorem setL_fold {g:Gh}:∀{ps:List Tmp} {a5:List AV} {vs:List Value} {env:List AV} {tmps:Array Value},VL g env tmps.toList->VL g a5 vs->a5.length=ps.length->VL g (setL env ps a5) ((ps.zip vs).foldl (λt (p,v)=>t.setIfInBounds p v) tmps).toList
 | [],[],vs,env,tmps,h,_,_=>by simpa [setL] using h
 | [],_::_,_,_,_,_,_,hl=>by simp at hl
 | _::_,[],_,_,_,_,_,hl=>by simp at hl
 | p::ps,a::a5,vs,env,tmps,h,k,hl=>by
  simp only [VL] at k;obtain ⟨v,s,rfl,h1,c⟩:=k;simp only [setL,rZ,sI];refine setL_fold ?_ c (by simp_all);rw [s8];exact h.set _ _ _ h1

theorem specY_of {P:Program} {h:AH} {K:AV->AH->Prop} {env u:List AV} {lp:LoopState->Option Code->Blk} (hlp:lp=λst pe=>.loop st pe env ⟨ps⟩ assign body) (hb:h.blk id=some (lp .ready none)) (hl:args.length=ps.length)
  (D:(noRF assign&&noRF body)=true) (he:setL env ps args=u) (hw:wH P assign (assignQ P h id lp body K) u h):SpecY P id args h K:=by
 subst hlp he;simp only [ud] at D;intro B w0 _ g w vs c r hv hc;have e:h.blks[id]?=some (.loop .ready none env ⟨ps⟩ assign body):=hb;obtain ⟨hB,hlt,⟨fn,tmps,d,hh,hve⟩,_⟩:=r.blk id c _ hc e;have hsz:vs.size=ps.length:=by rw [<- hl,hv.length];rfl
 refine ⟨_,_,_,_,run_yield hh (by omega),λn=>?_⟩;refine roundIn_of_wpIn (F:=Fence.wide) trivial ?_;have hte:VL g (setL env ps args) (((⟨ps⟩:Array Tmp).zip vs).foldl (λt (p,v)=>t.setIfInBounds p v) tmps).toList:=by
  rw [<- ru,Array.toList_zip];exact setL_fold hve hv hl
 refine wo (B:=B) (w0:=w0) (gb:=g) (g0:=g) (ro:=some c) assign (.inr D.1) hw ⟨g,Gh.le.refl g,r,hte,Marks.nil _ _,Gh.le.refl g⟩ λx env' h' a' w' W hs=>?_;obtain ⟨g1,J,r1,Z,hm1,I⟩:=hs;cases x with
 | normal =>
  obtain ⟨hb1,W⟩:=W;have q:h'.blks[id]?=some (.loop .ready none env ⟨ps⟩ assign body):=hb1;have U:=J.sig _ _ hc;obtain ⟨_,_,⟨Q,l,d1,G,H⟩,_⟩:=r1.blk id c _ U q;refine ⟨_,run_beginRound G rfl,?_⟩;have r2:Rel B w0 g1 (h'.put id (.loop .busy none env ⟨ps⟩ assign body)) (w'.putObj c (.loop { state:=.busy,pending:=none,fn:=Q,tmps:=l,params:=⟨ps⟩,assign,body,defers:=d1 })) :=
   r1.putObj U q (by simp) rfl rfl rfl World.putObj_size (λb e=>World.putObj_heap_other e) ⟨Q,l,d1,World.putObj_heap_same (uG.1 G).1,H⟩
  refine wo (B:=B) (w0:=w0) (gb:=g) (g0:=g) (ro:=some c) body (.inr D.2) W ⟨g1,J,r2,Z,hm1,I⟩ λx env3 h3 a3 w3 m X=>?_;obtain ⟨g3,hg3,r3,he3,_,_⟩:=X;have z:∀(a:Option Code),(∃O,wk h [] h3 [] O/\O.blk id=some (.loop .busy none env ⟨ps⟩ assign body)/\K (.bool a.isNone) (O.put id (.loop (if a.isNone then .ready else .done) a env ⟨ps⟩ assign body))) ->
    ∃v w4,(Instr.endRound c a).run P w3=.ok v w4/\∃v' r h5 g5,Ending.returned v=.returned v'/\K r h5/\g.le g5/\Rel B w0 g5 h5 w4/\V g5 r v':=by
   rintro a ⟨O,Y,hb4,hK⟩
   obtain ⟨g4,k1,k2,_,_⟩:=Y B w0 w3 w g g3 [] r hg3 r3 (by simp [VL]);have s:O.blks[id]?=some (.loop .busy none env ⟨ps⟩ assign body):=hb4;have N:=k1.sig _ _ hc;obtain ⟨_,_,⟨fn4,y,d4,R,S⟩,_⟩:=k2.blk id c _ N s;refine ⟨_,_,run_endRound a R,_,_,_,g4,rfl,hK,k1,?_,by simp only [V]⟩;exact k2.putObj N s (by simp) rfl rfl rfl World.putObj_size (λb e=>World.putObj_heap_other e) ⟨fn4,y,d4,World.putObj_heap_same (uG.1 R).1,S⟩
  cases x with
  | normal=>exact z none m
  | ret=>exact z (some .ret) m
  | exit i=>exact z (some (.exit i)) m
  | _=>exact m.elim
 | _=>exact W.elim

section
variable {P:Program} {h:AH} {A A' L B:List Blk} {T T' M C:List Nat} {nb nt:Nat} {o:Oper} {env:List AV}
theorem deep_blk (c:h.blks.length=nb) {j:Nat} {b:Blk} (a:A[j]?=some b):(((h.ext A T).ext L M).ext B C).blk (nb+j)=some b:=by
 simp only [xf,uz];subst c;rw [yI,uo (uc.1 a).1];exact a
theorem deep_blk2 (a:h.blks.length=nb) {j:Nat} {b:Blk} (c:A[j]?=some b):((h.ext A T).ext L M).blk (nb+j)=some b:=by
 have:=deep_blk (h:=h) (A:=A) (T:=T) (L:=L) (M:=M) (B:=[]) (C:=[]) a c
 rwa [ext_nil] at this
theorem deep_put (c:h.blks.length=nb) {j:Nat} {b:Blk} (a:j < A.length) (d:A.set j b=A'):(((h.ext A T).ext L M).ext B C).put (nb+j) b=((h.ext A' T).ext L M).ext B C:=by
 simp only [xf,uz];subst c d;rw [vk,List.set_append_left _ _ a]
theorem deep_put2 (c:h.blks.length=nb) {j:Nat} {b:Blk} (a:j < A.length) (d:A.set j b=A'):((h.ext A T).ext L M).put (nb+j) b=(h.ext A' T).ext L M:=by
 have:=deep_put (h:=h) (A:=A) (T:=T) (L:=L) (M:=M) (B:=[]) (C:=[]) c a d
 rwa [ext_nil,ext_nil] at this
theorem deep_len (a:h.blks.length=nb) {k:Nat} (c:A.length=k):((h.ext A T).ext L M).blks.length=nb+k+L.length:=by simp [AH.ext,a,c,sj]
theorem deep_tlen (a:h.toks.length=nt) {k:Nat} (c:T.length=k):((h.ext A T).ext L M).toks.length=nt+k+M.length:=by simp [AH.ext,a,c,sj]
theorem d_load (l:h.blks.length=nb) {t:TypeId} {d:TypeDesc} {k j off:Nat} {x:Operand} {cs:List AV} {v v':AV} (c:o.op=.load t x) (i:Ty P t d k) (m:yf env x=some (.ptr (nb+j) off)) (e:A[j]?=some (.cells cs))
  (g:ldC (yg d) k off cs=some v) (a:tyfix P t v=v'):zr P o env (((h.ext A T).ext L M).ext B C)=.ok v' (((h.ext A T).ext L M).ext B C):=by
 refine s_load c i m ?_ a;simp only [aLoad,deep_blk l e];exact g
theorem d_store (c:h.blks.length=nb) {t:TypeId} {d:TypeDesc} {k j off:Nat} {x y:Operand} {cs vs cs':List AV} {b b':AV} (m:o.op=.store t x y) (e:Ty P t d k) (r:yf env x=some (.ptr (nb+j) off)) (q:yf env y=some b)
  (l:tyfix P t b=b') (s:b'.cells?=some vs) (p:vs.length=k) (a:A[j]?=some (.cells cs)) (g:Nat.ble (off+k) cs.length=true) (hs:yD cs off vs=cs') (i:A.set j (.cells cs')=A') :
  zr P o env (((h.ext A T).ext L M).ext B C)=.ok aundef (((h.ext A' T).ext L M).ext B C):=by
 refine s_store m e r q l ?_;simp only [aStore,s,deep_blk c a];rw [uF ⟨p,sX g⟩,hs,deep_put c (uc.1 a).1 i]
theorem d_appT {α:Type} {row:α->List AV} {X Y:List α} (z:h.toks.length=nt) {c:Call} {x y:Operand} {t u e p:TypeId} {k k' j:Nat} {a b b':AV} (q:o.op=.call c) (H:c.callee=.builtin .append) (hs:c.args=#[x,y]) (g:c.argTypes=#[t,u]) (v:El P t e k)
  (d:El P u p k') (w:yf env x=some a) (s:yf env y=some b) (G:tyfix P t a=.osl (some (nt+j)) k (X.map row)) (i:tyfix P u b=b') (D:qt k b'=some (Y.map row)) (r:X.length+Y.length<=yN) (F:T[j]?=some X.length) (m:T.set j (X++Y).length=T') :
  zr P o env (((h.ext A T).ext L M).ext B C)=.ok (.osl (some (nt+j)) k ((X++Y).map row)) (((h.ext A T').ext L M).ext B C):=by
 subst z m;have l:=(uc.1 F).1;have:=yH (P:=P) (h:=h) (B:=A++L++B) (T:=T++M++C) (T':=(T.set j (X++Y).length)++M++C) q H hs g v d w s G i D r (by grind)
  (by simp_all)
 simp only [xf];omega
theorem deep_cut {h0:AH} (v:h.closed nb nt) (d:h0.blks.length=nb) (c:h0.toks.length=nt) (r:h.blks.length=nb) (e:h.toks.length=nt) {A0:List Blk} {T0:List Nat} (m:A'.length=A0.length) (s:T'.length=T0.length)
  (l:A'.all (λb=>b.low (nb+A0.length) (nt+T0.length))=true):wk ((h0.ext A0 T0).ext L M) [] (((h.ext A' T').ext L M).ext B C) [] ((h.ext A' T').ext L M):=by
 have q:((h0.ext A0 T0).ext L M).blks.length=nb+A0.length+L.length:=deep_len d rfl;have p:((h0.ext A0 T0).ext L M).toks.length=nt+T0.length+M.length:=deep_tlen c rfl;have u:(((h.ext A' T').ext L M).ext B C).cut ((h0.ext A0 T0).ext L M).blks.length ((h0.ext A0 T0).ext L M).toks.length=(h.ext A' T').ext L M:=by
  have:=@ext_cut ((h.ext A' T').ext L M) B C;rw [deep_len r rfl,deep_tlen e rfl,m,s] at this;rw [q,p];exact this
 have:=wk.cut (hd:=(h0.ext A0 T0).ext L M) (env:=[]) (h:=((h.ext A' T').ext L M).ext B C) rfl (λi k hi a=>by
  rw [q] at hi ⊢;rw [p];rw [ux] at l;simp only [xf,AH.ext,uz] at a ⊢;rcases t6 i h.blks.length with h1 | h1
  ·rw [uo h1] at a;exact .inr (Blk.low_up (by omega) (by omega) k (v k (uB a)))
  ·rw [un h1] at a;rcases t6 (i - h.blks.length) A'.length with g | g
   ·rw [uo g] at a;exact .inr (Blk.low_up (by omega) (by omega) k (l k (uB a)))
   ·rw [un g] at a;rw [un (by omega),un (by omega)];rw [uo (by omega)] at a;rw [<- m,d,<- r];exact .inl a)
 rw [u] at this;exact this
end
theorem SpecY.deep {P:Program} {r:AV} {H H':AH} (c:∀A B,SpecY P id xs (H.ext A B) (λa hh=>a=r/\hh=H'.ext A B)) {A L B:List Blk} {T M C:List Nat}:SpecY P id xs (((H.ext A T).ext L M).ext B C) (λa hh=>a=r/\hh=((H'.ext A T).ext L M).ext B C):=by
 simp only [xf];exact c _ _
theorem Spec.deep {P:Program} {r:AV} {H H':AH} (c:∀A B,Spec P f xs (H.ext A B) (λa hh=>a=r/\hh=H'.ext A B)) {A L B:List Blk} {T M C:List Nat}:Spec P f xs (((H.ext A T).ext L M).ext B C) (λa hh=>a=r/\hh=((H'.ext A T).ext L M).ext B C):=by
 simp only [xf];exact c _ _

theorem y_body {P:Program} {β X:Type} {h:β->AH} {nb k:Nat} {A:β->List Blk} {T:β->List Nat} {lp:LoopState->Option Code->Blk} {env:List AV} (i:lp=λu m=>.loop u m env ⟨ps⟩ assign body) {f:β->X->Option (Bool×(β×Option Nat))} {xs:X->List AV}
  (w:∀b,(h b).blks.length=nb) (r:∀b,(A b).length=k) (e:(noRF assign&&noRF body)=true) (d:∀x,(xs x).length=ps.length) {a:X->List AV} (v:∀x,setL env ps (xs x)=a x)
  (q:∀b x o L M H1,H1=((((h b).ext (A b++[lp .ready none]) (T b)).ext L M).ext [] [])->f b x=some o->wH P assign (assignQ P (((h b).ext (A b++[lp .ready none]) (T b)).ext L M) (nb+k) lp body (λg hh=>g=.bool o.1/\hh=(fam h A T lp o.2).ext L M)) (a x) H1) :
  ∀(s:β×Option Nat) (x:X) (b:Bool) (c:β×Option Nat) (L:List Blk) (M:List Nat),stp f s x=some (b,c)->SpecY P (nb+k) (xs x) ((fam h A T lp s).ext L M) (λg hh=>g=.bool b/\hh=(fam h A T lp c).ext L M):=by
 rintro ⟨b0,p⟩ x b c L M l
 cases p with
 | some _=>cases l
 | none =>
  have:=q b0 x (b,c) L M _ rfl l;rw [ext_nil] at this;refine specY_of i ?_ (d x) e (v x) this;exact deep_blk2 (w b0) (by rw [un (by simp_all),r];simp [lst,lpe])
theorem q_assign {P:Program} {hs:AH} {nb k:Nat} {lp:LoopState->Option Code->Blk} {K:AV->AH->Prop} {env:List AV} {h:AH} {A L B:List Blk} {T M C:List Nat} (c:h.blks.length=nb) (a:A.length=k)
  (d:wH P body (roundQ hs (nb+k) lp K) env (((h.ext (A++[lp .busy none]) T).ext L M).ext B C)):assignQ P hs (nb+k) lp body K .normal env (((h.ext (A++[lp .ready none]) T).ext L M).ext B C):=by
 refine ⟨deep_blk c (by rw [un (by omega),a];simp),?_⟩;rw [deep_put c (by rw [um,a];exact sR _) (by rw [rM _ _ (by omega),a,pI])];exact d
section
variable {β:Type} {h:β->AH} {h0 h1:AH} {nb nt k:Nat} {lp:LoopState->Option Code->Blk} {env:List AV} {A:β->List Blk} {T:β->List Nat} {A0 A' L B:List Blk} {T0 T' M C:List Nat} {b':β} {o:Bool×(β×Option Nat)}
theorem q_roundA {E:Exit} {r:Bool} {p:Option Nat} (y:∀u,(∃a,wk ((h0.ext (A0++[lp .ready none]) T0).ext L M) [] u [] a/\a.blk (nb+k)=some (lp .busy none)/\(AV.bool r=.bool o.1/\a.put (nb+k) (lp (lst p) (lpe p))=(fam h A T lp o.2).ext L M))->roundQ ((h0.ext (A0++[lp .ready none]) T0).ext L M) (nb+k) lp (λi hh=>i=.bool o.1/\hh=(fam h A T lp o.2).ext L M) E env u)
  (z:h1.closed nb nt) (m:h0.blks.length=nb) (d:h0.toks.length=nt) (q:h1.blks.length=nb) (g:h1.toks.length=nt) (c:A0.length=k) (e:A'.length=k) (w:T'.length=T0.length) (s:o=(r,(b',p))) (hh:h b'=h1) (x:A b'=A') (l:T b'=T')
  (v:(A'++[lp .busy none]).all (λb=>b.low (nb+(k+1)) (nt+T0.length))=true) :
  roundQ ((h0.ext (A0++[lp .ready none]) T0).ext L M) (nb+k) lp (λi hh=>i=.bool o.1/\hh=(fam h A T lp o.2).ext L M) E env (((h1.ext (A'++[lp .busy none]) T').ext L M).ext B C):=by
 refine y _ ⟨(h1.ext (A'++[lp .busy none]) T').ext L M,deep_cut z m d q g (by simp [e,c]) w (by rw [um,c];exact v),deep_blk2 q (by rw [un (by omega),e];simp),?_,?_⟩
 ·rw [s]
 ·rw [deep_put2 q (by rw [um,e];exact sR _) (by rw [rM _ _ (by omega),e,pI]),s];simp only [fam,x,l,hh];rfl
theorem q_roundN (v:h1.closed nb nt) (g:h0.blks.length=nb) (a:h0.toks.length=nt) (u:h1.blks.length=nb) (c:h1.toks.length=nt) (d:A0.length=k) (l:A'.length=k) (m:T'.length=T0.length) (i:o=(true,(b',none))) (hh:h b'=h1) (s:A b'=A') (e:T b'=T')
  (q:(A'++[lp .busy none]).all (λb=>b.low (nb+(k+1)) (nt+T0.length))=true) :
  roundQ ((h0.ext (A0++[lp .ready none]) T0).ext L M) (nb+k) lp (λw hh=>w=.bool o.1/\hh=(fam h A T lp o.2).ext L M) .normal env (((h1.ext (A'++[lp .busy none]) T').ext L M).ext B C) :=
 q_roundA (r:=true) (p:=none) (λ_ h=>h) v g a u c d l m i hh s e q
theorem q_roundR (v:h1.closed nb nt) (g:h0.blks.length=nb) (a:h0.toks.length=nt) (u:h1.blks.length=nb) (c:h1.toks.length=nt) (d:A0.length=k) (l:A'.length=k) (m:T'.length=T0.length) (i:o=(false,(b',some 0))) (hh:h b'=h1) (s:A b'=A') (e:T b'=T')
  (q:(A'++[lp .busy none]).all (λb=>b.low (nb+(k+1)) (nt+T0.length))=true) :
  roundQ ((h0.ext (A0++[lp .ready none]) T0).ext L M) (nb+k) lp (λw hh=>w=.bool o.1/\hh=(fam h A T lp o.2).ext L M) .ret env (((h1.ext (A'++[lp .busy none]) T').ext L M).ext B C) :=
 q_roundA (r:=false) (p:=some 0) (λ_ h=>h) v g a u c d l m i hh s e q
end
theorem s_yield {P:Program} {o:Oper} {env:List AV} {h:AH} {c:Call} {f:Operand} {l:List (TypeId×AV)} (d:o.op=.call c) (r:c.callee=.value f) (a:yf env f=some (.yld id))
  (g:argo env c.args.toList c.argTypes.toList=some l) (i:Fx P l args):zr P o env h=.round id args:=by
 obtain ⟨h1,m⟩:=zR a;obtain ⟨u,s,q⟩:=argo_ok (P:=P) g;have e:c.args.all yi=true:=by grind
 have p:(c.args.size==c.argTypes.size)=true:=by simp_all
 simp only [zr,d,e,p,te,uq,r,h1,Bool.true_eq_false,uK,m,q,i.eq]
theorem ops_round {P:Program} {c:Array Oper} {Q:List AV->AH->Prop} {o:Oper} {rest:List Oper} {env a:List AV} {h d:AH} {v:AV} (i:aG c o env=some true) (g:zr P o env h=.round id args) (hs:SpecY P id args h λr hh=>r=v/\hh=d)
  (hd:xV o.dst env v=some a) (e:zJ P c Q rest a d):zJ P c Q (o::rest) env h:=by
 refine vd ?_;simp only [i,gwp,g,rwp];refine hs.mono ?_
 rintro r hh ⟨rfl,rfl⟩
 rw [yO hd];exact e
theorem draw_round {Ns:List Nat} {F:Nat->AH->Prop} {i:Nat} (p:Ns.contains i=false) {P:Program} {a:Array Oper} {Q:List AV->AH->Prop} {o:Oper} {rest:List Oper} {env c:List AV} {h d:AH} {id:Nat} {args:List AV} {v:AV} (l:FOk ((Region.before a).getD i 0) Ns F d) (q:anch a Ns i=true) (e:aG a o env=some true) (m:zr P o env h=.round id args)
  (hs:SpecY P id args h λr hh=>r=v/\hh=d) (hd:xV o.dst env v=some c) (g:zT P a Ns F Q (i+1) rest c d):zT P a Ns F Q i (o::rest) env h :=
 ⟨v,d,.inl ⟨p,by simp only [AR,e,m];exact hs⟩,.inl q,.inr l,by rw [yO hd];exact g⟩
theorem SpecY.le {P:Program} {a5 bs:List AV} {h:AH} {K:AV->AH->Prop} (s:SpecY P id bs h K) (k:leL a5 bs):SpecY P id a5 h K :=
 λB w0 _ g w vs c r a d=>s B w0 g w vs c r (k _ _ a) d
def CloK (h:AH) (g:FuncId) (bs:List Blk) (rr:AV) (hh:AH):Prop:=rr=.fn (.func g) [] ((List.range bs.length).map λi=>.ptr (h.blks.length+i) 0)/\hh=h.ext bs []
theorem clo_ext {P:Program} {h:AH} {nb:Nat} (e:h.blks.length=nb) {f g:FuncId} {a5 caps:List AV} {B B' bs:List Blk} {T:List Nat} (s:Spec P f a5 (h.ext B T) (CloK (h.ext B T) g bs)) (l:B.length=n) (c:B++bs=B') (d:(List.range bs.length).map (λi=>AV.ptr (nb+(n+i)) 0)=caps) :
  Spec P f a5 (h.ext B T) (λa hh=>a=.fn (.func g) [] caps/\hh=h.ext B' T):=by
 refine s.mono ?_
 rintro a hh ⟨rfl,rfl⟩
 subst c d l e;refine ⟨?_,by rw [xf,tu]⟩;simp [AH.ext,sj]
theorem wk_cutb {h:AH} {env:List AV} {L L1:List Blk} {M:List Nat} (m:Nat) (s:zG (h.blks.length+m) h.toks.length env=true) (q:L.take m=L1) (d:L1.all (λb=>b.low (h.blks.length+m) h.toks.length)=true):wk h env (h.ext L M) env (h.ext L1 []):=λ_ _ _ _ v g vs c p r u=>by
 subst q;refine ⟨g.cut (h.blks.length+m) h.toks.length,Gh.le_cut2 p (by rw [c.slen];omega) (by rw [c.tlen];exact uh _),?_,VL.cut _ _ s u,λ_ h=>h⟩;have e:(h.ext L M).cut (h.blks.length+m) h.toks.length=h.ext (L.take m) []:=by
  simp only [AH.cut,AH.ext,tO,uS];rw [uQ (l:=h.blks) (by omega)];simp
 rw [<- e];refine r.cut _ _ λi k hi a=>?_;simp only [AH.ext] at a;rcases t6 i h.blks.length with h1 | h1
 ·rw [uo h1] at a;have:=closed_of_rel c k (uB a);exact Blk.low_up (by omega) (uh _) k this
 ·rw [un h1] at a;rw [ux] at d;refine d k (uB (i:=i - h.blks.length) ?_)
  grind
theorem fin_clo {h:AH} {K:AV->AH->Prop} {v:AV} {bs L':List Blk} {M':List Nat} (c:v.low (h.blks.length+bs.length) h.toks.length=true) (e:L'.take bs.length=bs) (d:bs.all (λb=>b.low (h.blks.length+bs.length) h.toks.length)=true) (a:K v (h.ext bs [])):finK h K v (h.ext L' M') :=
 ⟨v,_,wk_cutb bs.length (by simp [zG,c]) e d,a⟩
theorem blk_lt {h:AH} {nb i:Nat} (a:h.blk i=some b) (c:h.blks.length=nb):i < nb:=by
 subst c;exact (uc.1 a).1
theorem n_blk {h:AH} {L:List Blk} {M:List Nat} {nb:Nat} (a:h.blks.length=nb) (c:L[j]?=some b):(h.ext L M).blk (nb+j)=some b:=by
 subst a;rw [yI];exact c
theorem n_blk2 {h:AH} {B B':List Blk} {T T':List Nat} {nb:Nat} (a:h.blks.length=nb) (c:B[j]?=some b):((h.ext B T).ext B' T').blk (nb+j)=some b:=by
 subst a;exact blk_ext2 c
theorem jmp1 {c:Nat} {X:Option ρ} {r:ρ} {G:Nat->Prop} (h:(if j=c then X else none)=some r) (k:X=some r->G c):G j:=by
 simp_all
theorem jmp_ret {Q:Exit->List AV->AH->Prop} {h:AH} (k:Q .ret E h):jumpQ Q 0 E h:=k
end Go.Vv
