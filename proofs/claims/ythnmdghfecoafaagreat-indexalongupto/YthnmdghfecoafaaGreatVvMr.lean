/- Rules for maps: lists of keys and values. -/
import Derived.Test.YthnmdghfecoafaaGreatVvT
import Derived.Test.YthnmdghfecoafaaGreatVvRw
import Derived.ProofKit
import Derived.OpenShut
import Derived.JoinedCond
import Derived.HandedShaped
set_option linter.all false
namespace Go.Vv
open Go
variable {B:List Blk}
section
variable {K W:Type}
def zz (eq:K->K->Bool) (d:W):List (K×W)->K->W
 | [],_=>d
 | e::r,k=>if eq k e.1 then e.2 else zz eq d r k
def wq (eq:K->K->Bool):List (K×W)->K->Bool
 | [],_=>false
 | e::r,k=>eq k e.1 || wq eq r k
def midx (eq:K->K->Bool):List (K×W)->K->Nat
 | [],_=>0
 | e::r,k=>if eq k e.1 then 0 else midx eq r k+1
def mput (eq:K->K->Bool):List (K×W)->K->W->List (K×W)
 | [],k,v=>[(k,v)]
 | e::r,k,v=>if eq k e.1 then (e.1,v)::r else e::mput eq r k v
def xS (eq:K->K->Bool):List (K×W)->K->W->List (K×W)
 | [],k,v=>[(k,v)]
 | e::r,k,v=>if eq k e.1 then (k,v)::r else e::xS eq r k v
def ment (eq:K->K->Bool) (d:W) (m:List (K×W)) (k:K):List (K×W):=if wq eq m k then m else m++[(k,d)]
def wp (kv:K->AV) (vv:W->AV) (e:K×W):AV×AV:=(kv e.1,vv e.2)

theorem midx_lt {eq:K->K->Bool} {k:K}:∀{m:List (K×W)},wq eq m k=true->midx eq m k < m.length
 | [],h=>by simp [wq] at h
 | e::r,h=>by
  simp only [wq,midx,ul] at h ⊢;by_cases hk:eq k e.1=true
  ·simp [hk]
  ·simp only [hk,tv,uJ,um] at h ⊢;have:=midx_lt h;omega
theorem midx_eq {eq:K->K->Bool} {k:K}:∀{m:List (K×W)},wq eq m k=false->midx eq m k=m.length
 | [],h=>rfl
 | e::r,h=>by
  simp only [wq,midx,ul,tE] at h ⊢;simp [h.1,midx_eq h.2]
theorem mput_has {eq:K->K->Bool} {k:K} {v:W}:∀{m:List (K×W)} {e:K×W},wq eq m k=true->m[midx eq m k]?=some e->m.set (midx eq m k) (e.1,v)=mput eq m k v
 | [],_,h,_=>by simp_all
 | p::r,e,h,he=>by
  simp only [wq,midx,mput] at h he ⊢;by_cases hk:eq k p.1=true
  ·simp_all
  ·simp only [hk,tv,uJ,um,sI] at h he ⊢;rw [ug,mput_has h he]
theorem mputN_has {eq:K->K->Bool} {k:K} {v:W}:∀{m:List (K×W)},wq eq m k=true->m.set (midx eq m k) (k,v)=xS eq m k v
 | [],h=>by simp [wq] at h
 | p::r,h=>by
  simp only [wq,midx,xS] at h ⊢;by_cases hk:eq k p.1=true
  ·simp_all
  ·simp only [hk,tv,uJ,um] at h ⊢;rw [ug,mputN_has h]
theorem mput_not {eq:K->K->Bool} {k:K} {v:W}:∀{m:List (K×W)},wq eq m k=false->m++[(k,v)]=mput eq m k v
 | [],_=>rfl
 | p::r,h=>by
  simp only [wq,mput,tE] at h ⊢;simp [h.1,mput_not h.2]
theorem mputN_not {eq:K->K->Bool} {k:K} {v:W}:∀{m:List (K×W)},wq eq m k=false->m++[(k,v)]=xS eq m k v
 | [],_=>rfl
 | p::r,h=>by
  simp only [wq,xS,tE] at h ⊢;simp [h.1,mputN_not h.2]

def KQ (P:Program) (kt:TypeId) (kv:K->AV) (eq:K->K->Bool):Prop:=(∀a b,xq P kt (kv a) (kv b)=some (eq a b))/\∀a,eq a a=true
theorem KQ.str {P:Program} {t:TypeId} {z:Nat} (h:Ty P t .string z):KQ P t AV.str (λa b=>a==b):=⟨λa b=>by simp only [xq,h.u,aEq1],λa=>by simp⟩
theorem KQ.int {P:Program} {t:TypeId} {i:IntKind} {z:Nat} (h:Ty P t (.int i) z):KQ P t (AV.int i) (λa b=>a==b):=⟨λa b=>by simp only [xq,h.u,aEq1,ur],λa=>by simp⟩
theorem KQ.struct {P:Program} {t:TypeId} {fs:Array Field} {c:List Kd} {row:K->List AV} {eq:K->K->Bool} (g:P.underlying t=some (.struct fs)) (e:PK P t c) (h:∀a b,qT c (row a) (row b)=some (eq a b)) (f:∀a,eq a a=true):KQ P t (λx=>.agg (row x)) eq :=
 ⟨λa b=>by simp only [xq,g,e.k,h],f⟩

variable {P:Program} {kt et t:TypeId} {kv:K->AV} {vv:W->AV} {eq:K->K->Bool} {d:W}
theorem aFind_is (a:KQ P kt kv eq) (d:W) (k:K):∀(m:List (K×W)) (i:Nat),qV P kt (kv k) (m.map (wp kv vv)) i=some (if wq eq m k then some (i+midx eq m k,vv (zz eq d m k)) else none)
 | [],i=>rfl
 | e::r,i=>by
  have l:=aFind_is a d k r (i+1);simp only [uw,qV];have g:xq P kt (kv k) (wp kv vv e).1=some (eq k e.1):=a.1 _ _;rw [g];by_cases h:eq k e.1=true
  ·have b:wq eq (e::r) k=true:=by simp [wq,h]
   have f:midx eq (e::r) k=0:=by simp [midx,h]
   have c:zz eq d (e::r) k=e.2:=by simp [zz,h]
   rw [b,f,c,h];rfl
  ·simp only [pr] at h;have b:wq eq (e::r) k=wq eq r k:=by simp [wq,h]
   have f:midx eq (e::r) k=midx eq r k+1:=by simp [midx,h]
   have c:zz eq d (e::r) k=zz eq d r k:=by simp [zz,h]
   grind

variable {ops:Array Oper} {o:Oper} {env:List AV} {h:AH} {L:List Blk} {M:List Nat} {m:List (K×W)} {k:K} {j:Nat} {x y z:Operand}
theorem e_makeMap {n:Nat} (b:o.op=.makeMap t none) (a:L.length=n):zB P o env (h.ext L M)=.ok (.map (h.blks.length+n)) (h.ext (L++[.mapo [] 0]) M):=by
 simp only [zB,b,ext_new,<- a];simp [AH.ext]
theorem e_lookup (c:o.op=.lookup t x y false) (n:P.underlying t=some (.map kt et)) (a:KQ P kt kv eq) (s:vS P et=some (vv d)) (q:yk env x=some (.map (h.blks.length+j))) (b:L[j]?=some (.mapo (m.map (wp kv vv)) 0)) (f:yk env y=some (kv k)) :
  zB P o env (h.ext L M)=.ok (vv (zz eq d m k)) (h.ext L M):=by
 obtain ⟨l,g⟩:=zS q;obtain ⟨p,i⟩:=zS f;simp only [zB,c,l,g,p,i,n,uW,ur,aLookup,a.1,a.2,yC,b,aFind_is a d k m 0,s];cases hm:wq eq m k with
 | true=>simp [va,oo]
 | false =>
  have:zz eq d m k=d:=by
   clear b
   induction m with
   | nil=>rfl
   | cons e r ih=>simp only [wq,tE] at hm;simp only [zz,hm.1,um,uJ];exact ih hm.2
  simp [va,oo,this]
theorem e_entry (c:o.op=.mapEntry t x y) (q:P.underlying t=some (.map kt et)) (a:KQ P kt kv eq) (v:vS P et=some (vv d)) (u:yk env x=some (.map (h.blks.length+j))) (b:L[j]?=some (.mapo (m.map (wp kv vv)) 0)) (g:yk env y=some (kv k))
  (p:L.set j (.mapo ((ment eq d m k).map (wp kv vv)) 0)=B):zB P o env (h.ext L M)=.ok (.tup [vv (zz eq d m k),.int .i64 (midx eq m k)]) (h.ext B M):=by
 obtain ⟨n,i⟩:=zS u;obtain ⟨s,l⟩:=zS g;subst p;simp only [zB,c,n,i,s,l,q,uW,ur,aEntry,a.1,a.2,yC,b,aFind_is a d k m 0,v,ment];cases hm:wq eq m k with
 | true =>
  have:L.set j (.mapo (m.map (wp kv vv)) 0)=L:=by
   apply uT
   grind
  simp [ovh,this]
 | false =>
  have f:zz eq d m k=d:=by
   clear b
   induction m with
   | nil=>rfl
   | cons e r ih=>simp only [wq,tE] at hm;simp only [zz,hm.1,um,uJ];exact ih hm.2
  simp [ovh,f,wi,wp,midx_eq hm]
theorem e_entryStore {v:W} {i:Int} {n:IntKind} (u:o.op=.entryStore t x y z) (C:yk env x=some (.map (h.blks.length+j))) (E:L[j]?=some (.mapo ((ment eq d m k).map (wp kv vv)) 0)) (w:yk env y=some (.int n i)) (hi:i=midx eq m k) {a:AV} (s:yk env z=some a) (b:a.zcl=vv v)
  (F:L.set j (.mapo ((mput eq m k v).map (wp kv vv)) 0)=B):zB P o env (h.ext L M)=.ok aundef (h.ext B M):=by
 obtain ⟨q,l⟩:=zS C;obtain ⟨A,p⟩:=zS w;obtain ⟨r,D⟩:=zS s;subst F hi;have h0:(0:Int)<=(midx eq m k:Int):=by omega
 have key:∃e,(ment eq d m k)[midx eq m k]?=some e/\(ment eq d m k).set (midx eq m k) (e.1,v)=mput eq m k v:=by
  unfold ment;cases hm:wq eq m k with
  | true =>
   have g:=midx_lt hm;exact ⟨m[midx eq m k],by simp [g],by simpa using mput_has hm (ui g)⟩
  | false =>
   refine ⟨(k,d),by simp [midx_eq hm],?_⟩;simp only [um,uJ,midx_eq hm];rw [<- mput_not hm];simp
 obtain ⟨e,f,c⟩:=key;simp only [zB,u,q,l,A,p,r,D,b,uW,ur,aEntryStore,yC,E,h0,uU,tO,f,uB,oh,wi,<- c,pQ];rfl
theorem e_mapPut {v:W} (f:o.op=.mapUpdate t x y z) (q:P.underlying t=some (.map kt et)) (b:KQ P kt kv eq) (w:yk env x=some (.map (h.blks.length+j))) (g:L[j]?=some (.mapo (m.map (wp kv vv)) 0)) (i:yk env y=some (kv k)) {a:AV} (A:yk env z=some a) (c:a.zcl=vv v)
  (r:L.set j (.mapo ((xS eq m k v).map (wp kv vv)) 0)=B):zB P o env (h.ext L M)=.ok aundef (h.ext B M):=by
 obtain ⟨p,l⟩:=zS w;obtain ⟨s,n⟩:=zS i;obtain ⟨u,e⟩:=zS A;subst r;simp only [zB,f,p,l,s,n,u,e,c,q,uW,ur,aMapPut,b.1,b.2,yC,g,aFind_is b v k m 0];cases hm:wq eq m k with
 | true=>simp [oh,wi,<- mputN_has hm,pQ,wp]
 | false=>simp [oh,wi,<- mputN_not hm,wp]
theorem ops_mlen {Q:List AV->AH->Prop} {rest:List Oper} {a:List AV} {c:Call} (g:aG ops o env=some true) (n:o.op=.call c) (s:c.callee=.builtin .len) (r:c.args=#[x]) (b:c.argTypes=#[t]) (f:P.underlying t=some (.map kt et))
  (p:yk env x=some (.map (h.blks.length+j))) (q:L[j]?=some (.mapo (m.map (wp kv vv)) 0)) (hd:xO o.dst env (.int .i64 m.length)=some a) (i:zJ P ops Q rest a (h.ext L M)):zJ P ops Q (o::rest) env (h.ext L M):=by
 obtain ⟨l,e⟩:=zS p;have key:zB P o env (h.ext L M)=.any λv h'=>h'=h.ext L M/\v=.int .i64 m.length:=by
  simp [zB,n,s,r,b,l,e,qd,f,yC,q]
 refine vA ?_;simp only [g,gwp,key,rwp]
 rintro v h' ⟨rfl,rfl⟩
 rw [yQ hd];exact i

theorem mgetD_app {eq:K->K->Bool} {d:W} {k:K} (a:eq k k=true):∀{m:List (K×W)},zz eq d (m++[(k,d)]) k=zz eq d m k
 | []=>by simp [zz,a]
 | e::r=>by simp [zz,mgetD_app a]
theorem mgetD_ment {eq:K->K->Bool} {d:W} {k:K} (a:eq k k=true) {m:List (K×W)}:zz eq d (ment eq d m k) k=zz eq d m k:=by
 unfold ment;split
 ·rfl
 ·exact mgetD_app a
def MapE (h:AH) (j:Nat) (m1 m2:List (AV×AV)) (x:AH):Prop:=∃B T,x=h.ext B T/\(B[j]?=some (.mapo m1 0) \/ B[j]?=some (.mapo m2 0))
theorem e_lookupF (e:o.op=.lookup t x y false) (g:P.underlying t=some (.map kt et)) (a:KQ P kt kv eq) (l:vS P et=some (vv d)) (i:yk env x=some (.map (h.blks.length+j))) (f:yk env y=some (kv k)) :
  ∀c,MapE h j (m.map (wp kv vv)) ((ment eq d m k).map (wp kv vv)) c->zB P o env c=.ok (vv (zz eq d m k)) c:=by
 rintro _ ⟨B,T,rfl,b | b⟩
 ·exact e_lookup e g a l i b f
 ·rw [<- mgetD_ment (m:=m) (d:=d) (a.2 k)];exact e_lookup e g a l i b f
theorem FOk.skip {b:Nat} {Ns:List Nat} {F:Nat->AH->Prop} {h:AH} (c:Ns.all (λn=>b.testBit n)=true):FOk b Ns F h:=λn e a=>by
 simp_all
end
end Go.Vv
namespace Go.Vv
open Go Go.RowKit
variable {seen M:List Nat} {i id:Nat} {K W:Type} {kv:K->AV} {vv:W->AV} {ops:Array Oper} {o:Oper} {rest:List Oper} {env':List AV} {L:List Blk} {t:TypeId} {x:Operand} {m:List (K×W)}
section
variable {α ρ σ:Type}
open Classical in
noncomputable def allP (m:List α) (f:List α->Option ρ):Option ρ:=if h:∃r,∀p:List α,p.Perm m->f p=some r then some (Classical.choose h) else none
theorem allP_is {m:List α} {f:List α->Option ρ} {r:ρ} (h:allP m f=some r):∀p:List α,p.Perm m->f p=some r:=by
 unfold allP at h;split at h
 ·grind
 ·cases h
theorem allP_of {m:List α} {f:List α->Option ρ} {r:ρ} (h:∀p:List α,p.Perm m->f p=some r):allP m f=some r:=by
 have a:∃r,∀p:List α,p.Perm m->f p=some r:=⟨r,h⟩
 unfold allP;rw [pE a];have:=tL a m (s5 _);rw [h m (s5 _)] at this
 grind
def leftM (m:List α) (seen:List Nat):List α:=(m.zipIdx.filter λp=>!seen.contains p.2).map (·.1)
theorem leftM_nil (m:List α):leftM m []=m:=by
 unfold leftM;have:(m.zipIdx.filter λp=>!([]:List Nat).contains p.2)=m.zipIdx:=tZ.2 λp _=>by simp
 rw [this,List.zipIdx_map_fst]
theorem leftZ_perm {seen:List Nat}:∀(m:List α) (n i:Nat) {x:α},m[i]?=some x->n+i ∉ seen ->
  (((m.zipIdx n).filter λp=>!seen.contains p.2).map (·.1)).Perm (x::((m.zipIdx n).filter λp=>!(seen++[n+i]).contains p.2).map (·.1))
 | [],_,_,_,h,_=>by simp at h
 | a::t,n,0,x,h,hs=>by
  simp only [sH,uf] at h;subst h;have d:((t.zipIdx (n+1)).filter λp=>!seen.contains p.2)=(t.zipIdx (n+1)).filter λp=>!(seen++[n]).contains p.2:=by
   refine pk λp c=>?_
   grind
  simp_all
 | a::t,n,i+1,x,h,hs=>by
  simp only [sI] at h;have b:=leftZ_perm t (n+1) i h (by rwa [show n+1+i=n+(i+1) by omega]);rw [show n+1+i=n+(i+1) by omega] at b;simp only [sG];by_cases hn:n ∈ seen
  ·simp_all
  ·rw [pt (by simp_all),pt (by simp [hn])];simp only [uw];exact (List.Perm.cons a b).trans (List.Perm.swap x a _)
theorem leftM_perm {m:List α} {x:α} (hi:m[i]?=some x) (hs:i ∉ seen):(leftM m seen).Perm (x::leftM m (seen++[i])):=by
 have:=leftZ_perm (seen:=seen) m 0 i hi (by simp_all);simpa [leftM] using this
def konM (f:Nat->α->σ->Option (Out ρ σ)) (m:List α) (seen:List Nat) (rest:σ->Option ρ) (o0:ρ):Out ρ σ->Prop
 | .ret r=>some r=some o0
 | .brk s=>rest s=some o0
 | .nxt s=>∀p:List α,p.Perm (leftM m seen)->lp (zx f p seen.length s) rest=some o0
def LeftOk (f:Nat->α->σ->Option (Out ρ σ)) (m:List α) (seen:List Nat) (rest:σ->Option ρ) (o0:ρ) (s:σ):Prop:=∀p:List α,p.Perm (leftM m seen)->lp (zx f p seen.length s) rest=some o0
theorem leftOk_step {f:Nat->α->σ->Option (Out ρ σ)} {m:List α} {rest:σ->Option ρ} {c:ρ} {s:σ} (h:LeftOk f m seen rest c s) {i:Nat} {x:α} (hi:m[i]?=some x) (hs:i ∉ seen) :
  ∃a,f seen.length x s=some a/\konM f m (seen++[i]) rest c a:=by
 have key:∀p:List α,p.Perm (leftM m (seen++[i]))->lp (zx f (x::p) seen.length s) rest=some c:=λp b=>h _ ((List.Perm.cons x b).trans (leftM_perm hi hs).symm);have k0:=key _ (s5 _);simp only [zx] at k0;cases hf:f seen.length x s with
 | none=>rw [hf] at k0;cases k0
 | some a =>
  refine ⟨a,rfl,?_⟩;cases a with
  | ret r=>rw [hf] at k0;exact k0
  | brk s'=>rw [hf] at k0;exact k0
  | nxt s' =>
   intro p b;have:=key p b;simp only [zx,hf] at this
   simp_all
theorem leftOk_end {f:Nat->α->σ->Option (Out ρ σ)} {m:List α} {rest:σ->Option ρ} {a:ρ} {s:σ} (h:LeftOk f m seen rest a s) (b:leftM m seen=[]):rest s=some a:=by
 have:=h [] (by rw [b]);exact this
end
section
variable {P:Program} {env:List AV} {h:AH} {Q:Exit->List AV->AH->Prop}
theorem r_loopMF {α ρ σ:Type} {body:Code} {f:Nat->α->σ->Option (Out ρ σ)} {m:List α} {b:σ} {rest:σ->Option ρ} {c:ρ} (U:σ->List (Nat×AV)) (H:List Nat->σ->AH) (k:allP m (λp=>lp (zx f p 0 b) rest)=some c) {E:σ->List AV}
  (q:∀s,vi env (U s)=E s) (h0:wk h env h (E b) (H [] b))
  (hs:∀seen s,LeftOk f m seen rest c s->vB P body (loopQ (λenv' h'=>∃i a,(i < m.length/\i ∉ seen)/\LeftOk f m (seen++[i]) rest c a/\wk (H seen s) env' h' (E a) (H (seen++[i]) a)) Q) (E s) (H seen s)) :
  vB P (.loop body) Q env h:=by
 refine r_loop (σ:=List Nat×σ) (λp=>E p.2) (λp=>H p.1 p.2) (λp=>LeftOk f m p.1 rest c p.2) (λp=>(leftM m p.1).length) ([],b) h0 (λp l=>allP_is k p (by rwa [leftM_nil] at l)) ?_
 rintro ⟨seen,s⟩ n
 refine w9 ?_ _ _ _ (hs seen s n);intro x env' h' d;cases x with
 | normal =>
  obtain ⟨i,a,⟨j,e⟩,r,g⟩:=d;refine ⟨(seen++[i],a),r,?_,g⟩;have:=(leftM_perm (ui j) e).length_eq
  simp_all
 | _=>exact d
theorem ops_rangeM {Q:List AV->AH->Prop} {env:List AV} {h:AH} {L':List Blk} {g l:TypeId} {n:Nat} (e:aG ops o env=some true) (q:o.op=.range t x) (c:P.underlying t=some (.map g l))
  (r:yk env x=some (.map id)) (d:(h.ext L M).blk id=some (.mapo (m.map (wp kv vv)) 0)) (s:L.length=n) (hd:xO o.dst env (.ptr (h.blks.length+n) 0)=some env') (k:L++[.miter id m.length []]=L') (f:zJ P ops Q rest env' (h.ext L' M)):zJ P ops Q (o::rest) env (h.ext L M):=by
 obtain ⟨j,b⟩:=zS r;subst s k;have key:xT P o env (h.ext L M)=some [(.ptr (h.blks.length+L.length) 0,h.ext (L++[.miter id m.length []]) M)]:=by
  simp only [xT,q,j,b,c,d,ur];simp [AH.new,AH.ext]
 refine awpOps_consB e ⟨_,key,λp a=>?_⟩;simp only [up] at a;subst a;show zJ P ops Q rest (setd env o.dst (.ptr (h.blks.length+L.length) 0)) _;rw [yQ hd];exact f
theorem ops_nextMF {ρ σ:Type} {Q:List AV->AH->Prop} {env w:List AV} {h:AH} {j:Nat}
  {f:Nat->K×W->σ->Option (Out ρ σ)} {s:σ} {a:σ->Option ρ} {u:ρ} (D:aG ops o env=some true) (H:o.op=.next x false)
  (N:yk env x=some (.ptr (h.blks.length+j) 0)) (R:L[j]?=some (.miter id m.length seen)) (C:(h.ext L M).blk id=some (.mapo (m.map (wp kv vv)) 0)) (k:xO o.dst env (.tup [.bool false])=some w)
  (z:LeftOk f m seen a u s)
  (n:∀i y e,m[i]?=some y->(i < m.length/\i ∉ seen)->f seen.length y s=some e->konM f m (seen++[i]) a u e->∃v,xO o.dst env (.tup [.bool true,kv y.1,vv y.2])=some v/\zJ P ops Q rest v (h.ext (L.set j (.miter id m.length (seen++[i]))) M))
  (l:a s=some u->zJ P ops Q rest w (h.ext L M)):zJ P ops Q (o::rest) env (h.ext L M):=by
 obtain ⟨F,B⟩:=zS N;have key:xT P o env (h.ext L M)=some (nextAlts (h.ext L M) (h.blks.length+j) id m.length seen (m.map (wp kv vv))):=by
  simp [xT,H,F,B,yC,R,C]
 refine awpOps_consB D ⟨_,key,λp b=>?_⟩;unfold nextAlts at b;have d:(m.map (wp kv vv)).zipIdx=m.zipIdx.map λq=>(wp kv vv q.1,q.2):=by
  rw [List.zipIdx_map];rfl
 rw [d,List.filter_map] at b;split at b
 ·rename_i g;simp only [up] at b;subst b;have I:leftM m seen=[]:=by
   unfold leftM;rw [rh] at g ⊢;exact g
  show zJ P ops Q rest (setd env o.dst (.tup [.bool false])) (h.ext L M);rw [yQ k];exact l (leftOk_end z I)
 ·rename_i q r g;rw [<- g,s8,u6] at b;obtain ⟨⟨y,i⟩,A,rfl⟩:=b;rw [u7] at A;have hi:=tH.1 A.1;have c:i ∉ seen:=by simp_all
  obtain ⟨e,J,E⟩:=leftOk_step z hi c;obtain ⟨v,G,O⟩:=n i y e hi ⟨(ua.1 hi).1,c⟩ J E;show zJ P ops Q rest (setd env o.dst (.tup [.bool true,kv y.1,vv y.2])) ((h.ext L M).put (h.blks.length+j) (.miter id m.length (seen++[i])));rw [yQ G,wi];exact O
theorem ops_entryM {Q:List AV->AH->Prop} {env:List AV} {h:AH} {j:Nat} {y:K×W}
  (l:aG ops o env=some true) (c:o.op=.entry x) (n:yk env x=some (.ptr (h.blks.length+j) 0)) (d:L[j]?=some (.miter id m.length (seen++[i]))) (k:(h.ext L M).blk id=some (.mapo (m.map (wp kv vv)) 0)) (e:m[i]?=some y)
  (hd:xO o.dst env (.tup [kv y.1,vv y.2])=some env') (b:zJ P ops Q rest env' (h.ext L M)):zJ P ops Q (o::rest) env (h.ext L M):=by
 obtain ⟨g,f⟩:=zS n;have key:xT P o env (h.ext L M)=some [(.tup [kv y.1,vv y.2],h.ext L M)]:=by
  simp [xT,c,g,f,yC,d,k,e,wp]
 refine awpOps_consB l ⟨_,key,λp a=>?_⟩;simp only [up] at a;subst a;show zJ P ops Q rest (setd env o.dst (.tup [kv y.1,vv y.2])) _;rw [yQ hd];exact b
theorem bytesX_map:∀L:List UInt8,bytesX (L.map vN)=some L
 | []=>rfl
 | b::r=>by
  have a:b.toNat < 256:=b.toBitVec.isLt;simp only [uw,vN,bytesX];rw [uG ⟨by omega,by omega⟩,bytesX_map r];simp
def slOrOsl (k:Nat) (es:List (List AV)) (a:AV):Prop:=a=.sl k es \/ ∃q,a=.osl q k es
theorem convB {env:List AV} {h:AH} {s e:TypeId} {a:AV} {L:List UInt8} (f:o.op=.convert s t x) (hs:P.underlying s=some (.slice e)) (c:P.underlying e=some (.int .u8)) (k:P.underlying t=some .string)
  (l:yk env x=some a) (b:slOrOsl 1 (L.map vN) (tyfix P s a)) (d:L.length<=maxLen):xT P o env h=some [(.str L,h)]:=by
 obtain ⟨j,g⟩:=zS l;simp only [xT,f,j,g,ur,convX,hs,k];rcases b with b | ⟨q,b⟩
 ·rw [b];simp only [c,bytesX_map,uG d]
 ·rw [b];simp only [c,bytesX_map,uG d]
theorem ops_b {Q:List AV->AH->Prop} {env:List AV} {h h':AH} {v:AV} (d:aG ops o env=some true) (c:xT P o env h=some [(v,h')]) (hd:xO o.dst env v=some env') (b:zJ P ops Q rest env' h'):zJ P ops Q (o::rest) env h:=by
 refine awpOps_consB d ⟨_,c,λp a=>?_⟩;simp only [up] at a;subst a;show zJ P ops Q rest (setd env o.dst v) h';rw [yQ hd];exact b
theorem draw_b {Ns:List Nat} {F:Nat->AH->Prop} {Q:List AV->AH->Prop} {env:List AV} {h:AH} {v:AV} (e:Ns.contains i=false) (a:bdraw o.op=true) (c:aG ops o env=some true) (d:xT P o env h=some [(v,h)]) (hd:xO o.dst env v=some env') (b:zW P ops Ns F Q (i+1) rest env' h):zW P ops Ns F Q i (o::rest) env h :=
 ⟨v,h,.inr (.inr (.inl ⟨e,a,c,.inl d⟩)),.inr rfl,.inl rfl,by rw [yQ hd];exact b⟩
end
end Go.Vv
namespace Go.Vv
open Go Go.RowKit
variable {n i jp id:Nat} {v:AV} {Ns seen:List Nat} {F:Nat->AH->Prop} {B L':List Blk} {ts:List TypeId} {e2:List AV} {u:Option Nat}
section
variable {K W:Type}
def x7 (eq:K->K->Bool):List (Option (K×W))->K->W->List (Option (K×W))
 | [],k,v=>[some (k,v)]
 | none::r,k,v=>none::x7 eq r k v
 | some e::r,k,v=>if eq k e.1 then some (k,v)::r else some e::x7 eq r k v
def qP (eq:K->K->Bool):List (Option (K×W))->K->List (Option (K×W))
 | [],_=>[]
 | none::r,k=>none::qP eq r k
 | some e::r,k=>if eq k e.1 then none::r else some e::qP eq r k
def prow (kv:K->AV) (vv:W->AV) (m:List (Option (K×W))):List (Option (AV×AV)):=m.map (Option.map (wp kv vv))
theorem live_map {α a:Type} {f:α->a}:∀m:List (Option α),zG (m.map (Option.map f))=(zG m).map f
 | []=>rfl
 | none::r=>by simp only [uw,rP,xg];exact live_map r
 | some x::r=>by simp only [uw,uB,yT,uw];rw [live_map r]
theorem live_prow {kv:K->AV} {vv:W->AV} (m:List (Option (K×W))):zG (prow kv vv m)=(zG m).map (wp kv vv):=live_map m
theorem tset_map {α a:Type} {f:α->a}:∀(m:List (Option α)) (j:Nat) (x:Option α),vT (m.map (Option.map f)) j (x.map f)=(vT m j x).map (Option.map f)
 | [],_,_=>rfl
 | none::r,j,x=>by simp only [uw,rP,vT,tset_map r j x]
 | some _::r,0,x=>rfl
 | some y::r,j+1,x=>by simp only [uw,uB,vT,tset_map r j x]
theorem tput_has {eq:K->K->Bool} {k:K} {v:W}:∀{m:List (Option (K×W))},wq eq (zG m) k=true->vT m (midx eq (zG m) k) (some (k,v))=x7 eq m k v
 | [],h=>by cases h
 | none::r,h=>by
  rw [xg] at h ⊢;simp only [vT,x7,tput_has h]
 | some e::r,h=>by
  rw [yT] at h ⊢;simp only [wq,midx,x7] at h ⊢;by_cases hk:eq k e.1=true
  ·simp only [hk,ur,vT]
  ·simp only [hk,tv,uJ,um] at h ⊢;simp only [vT,tput_has h]
theorem tput_not {eq:K->K->Bool} {k:K} {v:W}:∀{m:List (Option (K×W))},wq eq (zG m) k=false->m++[some (k,v)]=x7 eq m k v
 | [],_=>rfl
 | none::r,h=>by
  rw [xg] at h;simp only [tj,x7,tput_not h]
 | some e::r,h=>by
  rw [yT] at h;simp only [wq,tE] at h;simp only [tj,x7,h.1,um,uJ,tput_not h.2]
theorem tdel_has {eq:K->K->Bool} {k:K}:∀{m:List (Option (K×W))},wq eq (zG m) k=true->vT m (midx eq (zG m) k) none=qP eq m k
 | [],h=>by cases h
 | none::r,h=>by
  rw [xg] at h ⊢;simp only [vT,qP,tdel_has h]
 | some e::r,h=>by
  rw [yT] at h ⊢;simp only [wq,midx,qP] at h ⊢;by_cases hk:eq k e.1=true
  ·simp only [hk,ur,vT]
  ·simp only [hk,tv,uJ,um] at h ⊢;simp only [vT,tdel_has h]
theorem tdel_not {eq:K->K->Bool} {k:K}:∀{m:List (Option (K×W))},wq eq (zG m) k=false->qP eq m k=m
 | [],_=>rfl
 | none::r,h=>by
  rw [xg] at h;simp only [qP,tdel_not h]
 | some e::r,h=>by
  rw [yT] at h;simp only [wq,tE] at h;simp only [qP,h.1,um,uJ,tdel_not h.2]
theorem mgetD_not {eq:K->K->Bool} {d:W} {k:K}:∀{m:List (K×W)},wq eq m k=false->zz eq d m k=d
 | [],_=>rfl
 | e::r,h=>by
  simp only [wq,tE] at h;simp only [zz,h.1,um,uJ,mgetD_not h.2]

variable {P:Program} {kt et t:TypeId} {kv:K->AV} {vv:W->AV} {eq:K->K->Bool} {d:W}
variable {ops:Array Oper} {o:Oper} {env:List AV} {h:AH} {L:List Blk} {M:List Nat} {ms:List (List (Option (K×W)))} {m:List (Option (K×W))} {k:K} {j q:Nat} {x y z:Operand} {Q:List AV->AH->Prop} {rest:List Oper} {env':List AV}
def zy (kv:K->AV) (vv:W->AV) (ms:List (List (Option (K×W)))):Blk:=.pool (ms.map (prow kv vv))
theorem pget_ext (a:L[j]?=some (zy kv vv ms)) (b:ms[q]?=some m):pget (h.ext L M) (.imap (h.blks.length+j) q)=some (h.blks.length+j,q,prow kv vv m):=by
 simp only [pget,yC,a,zy,tO,b,uB]
theorem pput_ext (a:L[j]?=some (zy kv vv ms)):pput (h.ext L M) (h.blks.length+j) q (prow kv vv m)=h.ext (L.set j (zy kv vv (ms.set q m))) M:=by
 simp only [pput,yC,a,zy,wi,pQ]
theorem wt {h':AH} (e:aG ops o env=some true) (c:xD P o env h n=some [(v,h')]) (hd:xO o.dst env v=some env') (b:zJ P ops Q rest env' h'):zJ P ops Q (o::rest) env h:=by
 refine awpOps_consP n e ⟨_,c,λp a=>?_⟩;simp only [up] at a;subst a;show zJ P ops Q rest (setd env o.dst v) h';rw [yQ hd];exact b
theorem qL (g:Ns.contains i=false) (e:aG ops o env=some true) (c:isEff o.op=true) (a:bdraw o.op=true) (f:xD P o env h n=some [(v,h)])
  (hd:xO o.dst env v=some env') (b:zW P ops Ns F Q (i+1) rest env' h):zW P ops Ns F Q i (o::rest) env h :=
 ⟨v,h,.inr (.inr (.inl ⟨g,a,e,.inr ⟨c,n,f⟩⟩)),.inr rfl,.inl rfl,by rw [yQ hd];exact b⟩
theorem vK {h':AH} (g:Ns.contains i=false) (p:FOk ((Region.before ops).getD i 0) Ns F h') (l:anch ops Ns i=true) (e:aG ops o env=some true) (c:isEff o.op=true) (a:bdraw o.op=true) (f:xD P o env h n=some [(v,h')])
  (hd:xO o.dst env v=some env') (b:zW P ops Ns F Q (i+1) rest env' h'):zW P ops Ns F Q i (o::rest) env h :=
 ⟨v,h',.inr (.inr (.inl ⟨g,a,e,.inr ⟨c,n,f⟩⟩)),.inl l,.inr p,by rw [yQ hd];exact b⟩
theorem p_make (e:o.op=.makeMap t none) (a:L[j]?=some (zy kv vv ms)) (c:ms.length=q) (b:L.set j (zy kv vv (ms++[[]]))=B) :
  xD P o env (h.ext L M) (h.blks.length+j)=some [(.imap (h.blks.length+j) q,h.ext B M)]:=by
 subst c b;simp only [xD,e,yC,a,zy,wi,ut,si,uw,tR];rfl
theorem xl (c:o.op=.lookup t x y false) (r:P.underlying t=some (.map kt et)) (a:KQ P kt kv eq) (A:vS P et=some (vv d)) (w:yk env x=some (.imap (h.blks.length+j) q)) (e:L[j]?=some (zy kv vv ms)) (b:ms[q]?=some m) (f:yk env y=some (kv k)) :
  xD P o env (h.ext L M) 0=some [(vv (zz eq d (zG m) k),h.ext L M)]:=by
 obtain ⟨p,g⟩:=zS w;obtain ⟨s,l⟩:=zS f;simp only [xD,c,p,g,s,l,r,uW,ur,a.1,a.2,pget_ext e b,live_prow,aFind_is a d k (zG m) 0,A];cases hh:wq eq (zG m) k with
 | true=>simp [va]
 | false=>simp [va,mgetD_not hh]
theorem pPut_ext {v:W} {a:AV} (b:KQ P kt kv eq) (c:L[j]?=some (zy kv vv ms)) (f:ms[q]?=some m) (e:a.zcl=vv v) :
  pPut P (h.ext L M) kt (.imap (h.blks.length+j) q) (kv k) a=some (h.ext (L.set j (zy kv vv (ms.set q (x7 eq m k v)))) M):=by
 simp only [pPut,b.1,b.2,ur,pget_ext c f,live_prow,aFind_is b v k (zG m) 0,e];cases hh:wq eq (zG m) k with
 | true =>
  simp only [ur,u5];have:vT (prow kv vv m) (midx eq (zG m) k) (some (kv k,vv v))=prow kv vv (x7 eq m k v):=by
   rw [<- tput_has hh];exact tset_map m _ (some (k,v))
  rw [this,pput_ext c]
 | false =>
  simp only [um,uJ];have:prow kv vv m++[some (kv k,vv v)]=prow kv vv (x7 eq m k v):=by
   rw [<- tput_not hh];simp [prow,wp]
  rw [this,pput_ext c]
theorem p_put {v:W} (f:o.op=.mapUpdate t x y z) (A:P.underlying t=some (.map kt et)) (g:KQ P kt kv eq) (G:yk env x=some (.imap (h.blks.length+j) q)) (l:L[j]?=some (zy kv vv ms)) (c:ms[q]?=some m) (p:yk env y=some (kv k)) {a:AV} (H:yk env z=some a) (b:a.zcl=vv v)
  (C:L.set j (zy kv vv (ms.set q (x7 eq m k v)))=B):xD P o env (h.ext L M) 0=some [(aundef,h.ext B M)]:=by
 obtain ⟨w,r⟩:=zS G;obtain ⟨D,s⟩:=zS p;obtain ⟨E,e⟩:=zS H;subst C;simp only [xD,f,w,r,D,s,E,e,A,uW,ur,pPut_ext g l c b,uB]
theorem p_len {c:Call} (e:o.op=.call c) (s:c.callee=.builtin .len) (g:c.args=#[x]) (a:c.argTypes=#[t]) (r:P.underlying t=some (.map kt et)) (w:yk env x=some (.imap (h.blks.length+j) q)) (f:L[j]?=some (zy kv vv ms)) (b:ms[q]?=some m) :
  xD P o env (h.ext L M) 0=some [(.int .i64 (zG m).length,h.ext L M)]:=by
 obtain ⟨p,l⟩:=zS w;simp only [xD,e,s,g,a,p,l,r,ur,AV.isNilm,um,uJ,pget_ext f b,live_prow,ut]
theorem p_del {c:Call} (G:o.op=.call c) (S:c.callee=.builtin .delete) (O:c.args=#[x,y]) (b:c.argTypes.toList=t::ts) (A:P.underlying t=some (.map kt et)) (a:KQ P kt kv eq) (J:yk env x=some (.imap (h.blks.length+j) q)) (p:L[j]?=some (zy kv vv ms)) (N:ms[q]?=some m) (H:yk env y=some (kv k))
  (R:L.set j (zy kv vv (ms.set q (qP eq m k)))=B):xD P o env (h.ext L M) 0=some [(.tup [],h.ext B M)]:=by
 obtain ⟨D,w⟩:=zS J;obtain ⟨I,C⟩:=zS H;subst R;have hs:∀x:Option (AV×AV),x=none->True:=λ_ _=>trivial;simp only [xD,G,S,O,b,D,w,I,C,A,uW,ur,pDel,a.1,a.2,AV.isNilm,um,uJ,pget_ext p N,live_prow];cases hh:wq eq (zG m) k with
 | true =>
  have g:=midx_lt hh;have hd:∃d:W,True:=by
   rcases hlm:zG m with _ | ⟨e,r⟩
   ·rw [hlm] at g;simp at g
   ·exact ⟨e.2,trivial⟩
  obtain ⟨d,_⟩:=hd;rw [aFind_is a d k (zG m) 0];simp only [hh,ur,u5];have:vT (prow kv vv m) (midx eq (zG m) k) none=prow kv vv (qP eq m k):=by
   rw [<- tdel_has hh];exact tset_map m _ none
  rw [this,pput_ext p];rfl
 | false =>
  have E:qV P kt (kv k) ((zG m).map (wp kv vv)) 0=some none:=by
   have key:∀(l:List (K×W)) (i:Nat),wq eq l k=false->qV P kt (kv k) (l.map (wp kv vv)) i=some none:=by
    intro l
    induction l with
    | nil=>intro i _;rfl
    | cons e r ih =>
     intro i h;simp only [wq,tE] at h;simp only [uw,qV];have s:xq P kt (kv k) (wp kv vv e).1=some (eq k e.1):=a.1 _ _;rw [s,h.1];exact ih (i+1) h.2
   exact key _ _ hh
  rw [E];simp only [tdel_not hh,uB];have:L.set j (zy kv vv (ms.set q m))=L:=by
   have f:ms.set q m=ms:=by
    apply uT
    grind
   rw [f];apply uT
   grind
  rw [this]
theorem p_delN {c:Call} (e:o.op=.call c) (A:c.callee=.builtin .delete) (f:c.args=#[x,y]) (a:c.argTypes.toList=t::ts) (s:P.underlying t=some (.map kt et)) (b:KQ P kt kv eq) (C:yk env x=some .nilm) (g:yk env y=some (kv k)) :
  xD P o env h 0=some [(.tup [],h)]:=by
 obtain ⟨r,l⟩:=zS C;obtain ⟨w,p⟩:=zS g;simp only [xD,e,A,f,a,r,l,w,p,s,uW,ur,pDel,b.1,b.2,AV.isNilm,uB]
theorem swk_pool (b:L++[zy kv vv []]=B):swk env (h.ext L M) env (h.ext B M):=λ_ _ w g vs r a=>by
 subst b;refine ⟨_,g.le_addS none,?_,VL.mono (g.le_addS none) _ _ a⟩;have:=r.poolMake;simpa [AH.new,AH.ext,zy] using this
end
section
variable {α ρ σ:Type}
def leftG (m:List (Option α)) (seen:List Nat):List α:=m.zipIdx.filterMap λp=>if seen.contains p.2 then none else p.1
theorem fm_congr {α b:Type} {f g:α->Option b}:∀{l:List α},(∀x ∈ l,f x=g x)->l.filterMap f=l.filterMap g
 | [],_=>rfl
 | a::r,h=>by
  rw [rU,rU,h a (by simp),fm_congr λx c=>h x (by simp [c])]
theorem leftG_nil (m:List (Option α)):leftG m []=zG m:=by
 have key:∀(m:List (Option α)) (n:Nat),((m.zipIdx n).filterMap λp=>if ([]:List Nat).contains p.2 then none else p.1)=zG m:=by
  intro m
  induction m with
  | nil=>intro n;rfl
  | cons a r ih =>
   intro n;cases a with
   | none=>simpa [zG] using ih (n+1)
   | some a=>simpa [zG] using ih (n+1)
 exact key m 0
theorem leftH_perm {seen:List Nat}:∀(m:List (Option α)) (n i:Nat) {x:α},m[i]?=some (some x)->n+i ∉ seen ->
  ((m.zipIdx n).filterMap λp=>if seen.contains p.2 then none else p.1).Perm (x::((m.zipIdx n).filterMap λp=>if (seen++[n+i]).contains p.2 then none else p.1))
 | [],_,_,_,h,_=>by simp at h
 | a::t,n,0,x,h,hs=>by
  simp only [sH,uf] at h;subst h;have g:((t.zipIdx (n+1)).filterMap λp=>if seen.contains p.2 then none else p.1)=(t.zipIdx (n+1)).filterMap λp=>if (seen++[n]).contains p.2 then none else p.1:=by
   refine fm_congr λp f=>?_;have:=List.mem_zipIdx f;have e:p.2 ≠ n:=by omega
   simp [e]
  simp only [tB] at hs;simp only [tB,sG];rw [rl (b:=x) (by simp [hs]),sa (by simp),g]
 | a::t,n,i+1,x,h,hs=>by
  simp only [sI] at h;have c:=leftH_perm t (n+1) i h (by rwa [show n+1+i=n+(i+1) by omega]);rw [show n+1+i=n+(i+1) by omega] at c;simp only [sG];by_cases hn:n ∈ seen
  ·rw [sa (by simp [hn]),sa (by simp [hn])];exact c
  ·cases a with
   | none =>
    rw [sa (by simp),sa (by simp)];exact c
   | some a =>
    rw [rl (b:=a) (by simp [hn]),rl (b:=a) (by simp [hn])];exact (List.Perm.cons a c).trans (List.Perm.swap x a _)
theorem leftG_perm {m:List (Option α)} {x:α} (hi:m[i]?=some (some x)) (hs:i ∉ seen):(leftG m seen).Perm (x::leftG m (seen++[i])):=by
 have:=leftH_perm (seen:=seen) m 0 i hi (by simpa using hs);simpa [leftG] using this
def konG (f:Nat->α->σ->Option (Out ρ σ)) (m:List (Option α)) (seen:List Nat) (rest:σ->Option ρ) (o0:ρ):Out ρ σ->Prop
 | .ret r=>some r=some o0
 | .brk s=>rest s=some o0
 | .nxt s=>∀p:List α,p.Perm (leftG m seen)->lp (zx f p seen.length s) rest=some o0
def LeftOkG (f:Nat->α->σ->Option (Out ρ σ)) (m:List (Option α)) (seen:List Nat) (rest:σ->Option ρ) (o0:ρ) (s:σ):Prop:=∀p:List α,p.Perm (leftG m seen)->lp (zx f p seen.length s) rest=some o0
theorem leftOkG_step {f:Nat->α->σ->Option (Out ρ σ)} {m:List (Option α)} {rest:σ->Option ρ} {c:ρ} {s:σ} (h:LeftOkG f m seen rest c s) {i:Nat} {x:α} (hi:m[i]?=some (some x)) (hs:i ∉ seen) :
  ∃a,f seen.length x s=some a/\konG f m (seen++[i]) rest c a:=by
 have key:∀p:List α,p.Perm (leftG m (seen++[i]))->lp (zx f (x::p) seen.length s) rest=some c:=λp b=>h _ ((List.Perm.cons x b).trans (leftG_perm hi hs).symm);have k0:=key _ (s5 _);simp only [zx] at k0;cases hf:f seen.length x s with
 | none=>rw [hf] at k0;cases k0
 | some a =>
  refine ⟨a,rfl,?_⟩;cases a with
  | ret r=>rw [hf] at k0;exact k0
  | brk s'=>rw [hf] at k0;exact k0
  | nxt s' =>
   intro p b;have:=key p b;simp only [zx,hf] at this
   simp_all
theorem leftOkG_end {f:Nat->α->σ->Option (Out ρ σ)} {m:List (Option α)} {rest:σ->Option ρ} {a:ρ} {s:σ} (h:LeftOkG f m seen rest a s) (b:leftG m seen=[]):rest s=some a:=by
 have:=h [] (by rw [b]);exact this
end
section
variable {P:Program} {env:List AV} {h:AH} {Q:Exit->List AV->AH->Prop}
theorem qA {α ρ σ:Type} {body:Code} {f:Nat->α->σ->Option (Out ρ σ)} {m:List (Option α)} {b:σ} {rest:σ->Option ρ} {c:ρ} (U:σ->List (Nat×AV)) (H:List Nat->σ->AH) (w:allP (zG m) (λp=>lp (zx f p 0 b) rest)=some c) {E:σ->List AV}
  (D:∀s,vi env (U s)=E s) (h0:wk h env h (E b) (H [] b))
  (hs:∀seen s,LeftOkG f m seen rest c s->vB P body (loopQ (λenv' h'=>∃i a,(∃x,m[i]?=some (some x)/\i ∉ seen)/\LeftOkG f m (seen++[i]) rest c a/\wk (H seen s) env' h' (E a) (H (seen++[i]) a)) Q) (E s) (H seen s)) :
  vB P (.loop body) Q env h:=by
 refine r_loop (σ:=List Nat×σ) (λp=>E p.2) (λp=>H p.1 p.2) (λp=>LeftOkG f m p.1 rest c p.2) (λp=>(leftG m p.1).length) ([],b) h0 (λp A=>allP_is w p (by rwa [leftG_nil] at A)) ?_
 rintro ⟨seen,s⟩ C
 refine w9 ?_ _ _ _ (hs seen s C);intro x env' h' e;cases x with
 | normal =>
  obtain ⟨i,a,⟨x,r,g⟩,G,l⟩:=e;refine ⟨(seen++[i],a),G,?_,l⟩;have:=(leftG_perm r g).length_eq
  simp_all
 | _=>exact e
variable {K W:Type} {kv:K->AV} {vv:W->AV}
theorem pnext_left (m:List (Option (K×W))) (seen:List Nat):(prow kv vv m).zipIdx.filterMap (pcand seen)=(m.zipIdx.filterMap (pcand seen)).map λp=>(wp kv vv p.1,p.2):=by
 have b:(prow kv vv m).zipIdx=m.zipIdx.map λq=>(q.1.map (wp kv vv),q.2):=by
  unfold prow;rw [List.zipIdx_map];rfl
 rw [b,List.filterMap_map,List.map_filterMap];refine fm_congr λp _=>?_;obtain ⟨a,i⟩:=p;cases a with
 | none=>rfl
 | some a =>
  simp only [Function.comp,pcand,uB];split <;> rfl
theorem ops_rangeG {ops:Array Oper} {Q:List AV->AH->Prop} {o:Oper} {rest:List Oper} {env env':List AV} {h:AH} {L:List Blk} {M:List Nat} {t kt et:TypeId} {x:Operand} {j q:Nat} {ms:List (List (Option (K×W)))} {m:List (Option (K×W))} (c:aG ops o env=some true) (l:o.op=.range t x) (b:P.underlying t=some (.map kt et))
  (p:yk env x=some (.imap (h.blks.length+j) q)) (w:L[j]?=some (zy kv vv ms)) (s:ms[q]?=some m) (r:L.length=n) (hd:xO o.dst env (.ptr (h.blks.length+n) 0)=some env') (g:L++[.pmiter (h.blks.length+j) q m.length []]=L') (e:zJ P ops Q rest env' (h.ext L' M)):zJ P ops Q (o::rest) env (h.ext L M):=by
 obtain ⟨f,a⟩:=zS p;subst r g;refine wt (n:=0) (v:=.ptr (h.blks.length+L.length) 0) (h':=h.ext (L++[.pmiter (h.blks.length+j) q m.length []]) M) c ?_ hd e;simp only [xD,l,f,a,b,ur,pget_ext w s];simp [AH.new,AH.ext,prow]
theorem ops_nextGF {ρ σ:Type} {ops:Array Oper} {Q:List AV->AH->Prop} {o:Oper} {rest:List Oper} {env:List AV} {h:AH} {L:List Blk} {M:List Nat} {x:Operand} {q j:Nat} {ms:List (List (Option (K×W)))} {m:List (Option (K×W))}
  {f:Nat->K×W->σ->Option (Out ρ σ)} {s:σ} {e:σ->Option ρ} {I:ρ} (S:aG ops o env=some true) (Y:o.op=.next x false)
  (hx:yk env x=some (.ptr (h.blks.length+j) 0)) (hj:L[j]?=some (.pmiter (h.blks.length+jp) q m.length seen)) (R:L[jp]?=some (zy kv vv ms)) (hm:ms[q]?=some m) (E:xO o.dst env (.tup [.bool false])=some e2)
  (N:LeftOkG f m seen e I s)
  (H:∀i y D,m[i]?=some (some y)->(∃x,m[i]?=some (some x)/\i ∉ seen)->f seen.length y s=some D->konG f m (seen++[i]) e I D->∃J,xO o.dst env (.tup [.bool true,kv y.1,vv y.2])=some J/\zJ P ops Q rest J (h.ext (L.set j (.pmiter (h.blks.length+jp) q m.length (seen++[i]))) M))
  (G:e s=some I->zJ P ops Q rest e2 (h.ext L M)):zJ P ops Q (o::rest) env (h.ext L M):=by
 obtain ⟨U,O⟩:=zS hx;have C:(prow kv vv m).length=m.length:=by simp [prow]
 have key:xD P o env (h.ext L M) 0=some (pnextAlts (h.ext L M) (h.blks.length+j) (h.blks.length+jp) q m.length seen (prow kv vv m)):=by
  simp only [xD,Y,U,O,ur,yC,hj,pget_ext R hm,C]
 refine awpOps_consP 0 S ⟨_,key,λp g=>?_⟩;unfold pnextAlts at g;rw [pnext_left] at g;have l:(m.zipIdx.filterMap (pcand seen)).map (λp=>(wp kv vv p.1,p.2))=[]->leftG m seen=[]:=λw=>by
  rw [rh,rd] at w;unfold leftG;rw [rd]
  rintro ⟨a,i⟩ hi
  have:=w _ hi;cases a with
  | none=>simp
  | some a =>
   simp only [pcand] at this
   grind
 split at g
 ·rename_i w;simp only [up] at g;subst g;show zJ P ops Q rest (setd env o.dst (.tup [.bool false])) (h.ext L M);rw [yQ E];exact G (leftOkG_end N (l w))
 ·rename_i q0 r w;rw [<- w,s8,u6] at g;obtain ⟨⟨y,i'⟩,A,rfl⟩:=g;rw [r8] at A;obtain ⟨⟨a,i⟩,X,b⟩:=A;have hi:=tH.1 X;cases a with
  | none=>cases b
  | some y0 =>
   simp only [pcand] at b hi;split at b
   ·cases b
   ·rename_i c;simp only [uf,tD] at b;obtain ⟨rfl,rfl⟩:=b;have c:i ∉ seen:=by simpa using c
    obtain ⟨D,Z,T⟩:=leftOkG_step N hi c;obtain ⟨J,V,h6⟩:=H i y0 D hi ⟨y0,hi,c⟩ Z T;show zJ P ops Q rest (setd env o.dst (.tup [.bool true,kv y0.1,vv y0.2])) ((h.ext L M).put (h.blks.length+j) (.pmiter (h.blks.length+jp) q m.length (seen++[i])));rw [yQ V,wi];exact h6
end
def zO (id:Nat):Option Nat->AV
 | none=>.nilm
 | some q=>.imap id q
def omap {α:Type} (ms:List (List α)):Option Nat->Option (List α)
 | none=>some []
 | some q=>ms[q]?
def olen {α:Type} (ms:List (List (Option α))) (t:Option Nat):Option Nat:=(omap ms t).map λm=>(zG m).length
def oput {K W:Type} (eq:K->K->Bool) (ms:List (List (Option (K×W)))) (t:Option Nat) (k:K) (v:W):Option (List (List (Option (K×W)))):=match t with
 | none=>none
 | some q=>(ms[q]?).map λm=>ms.set q (x7 eq m k v)
def odel {K W:Type} (eq:K->K->Bool) (ms:List (List (Option (K×W)))) (t:Option Nat) (k:K):Option (List (List (Option (K×W)))):=match t with
 | none=>some ms
 | some q=>(ms[q]?).map λm=>ms.set q (qP eq m k)
def xb (id:Nat) (t:Option Nat) (n:Nat) (seen:List Nat):Blk:=match t with
 | none=>.miter0
 | some q=>.pmiter id q n seen
section
variable {K W:Type} {P:Program} {kt et t:TypeId} {kv:K->AV} {vv:W->AV} {eq:K->K->Bool}
variable {ops:Array Oper} {o:Oper} {env:List AV} {h:AH} {L:List Blk} {M:List Nat} {ms ms':List (List (Option (K×W)))} {m:List (Option (K×W))} {k:K} {j q:Nat} {tt:Option Nat} {x y z:Operand} {Q:List AV->AH->Prop} {rest:List Oper} {env':List AV}
theorem bl_c {m:Nat} {cs:List AV}:(Blk.cells cs).low n m=zP n m cs:=rfl
theorem bl_r {m a b:Nat} {es:List (List AV)}:(Blk.row a b es).low n m=decide (a < m):=rfl
theorem bl_d {m:Nat}:Blk.dead.low n m=true:=rfl
theorem ty_optm:tyfix P t (zO id u)=zO id u:=by cases u <;> rfl
theorem optm_low {m:Nat} {t:Option Nat}:(zO id t).low n m=(t.isNone || decide (id < n)):=by cases t <;> simp [zO,AV.low]
theorem xU {m k:Nat} {t:Option Nat} {s:List Nat}:(xb id t k s).low n m=(t.isNone || decide (id < n)):=by cases t <;> simp [xb,Blk.low]
theorem pblk_low {m:Nat} (f:∀a,(kv a).low n m=true) (g:∀b,(vv b).low n m=true):(zy kv vv ms).low n m=true:=by
 simp only [zy,Blk.low,uv,u6]
 rintro x ⟨y,_,rfl⟩ e c
 simp only [prow,u6] at c;obtain ⟨z,_,rfl⟩:=c;cases z with
 | none=>rfl
 | some z=>simp [wp,f,g]
theorem yI {m:Nat} {ms:List (List (Option (List UInt8×Option Nat)))} (h:id < n):(zy AV.str (zO id) ms).low n m=true:=pblk_low (λ_=>rfl) λb=>by simp [optm_low,h]
theorem yH {m:Nat} {W':Type} {vv:W'->AV} {ms:List (List (Option (List UInt8×W')))} (a:∀b n m,(vv b).low n m=true):(zy AV.str vv ms).low n m=true:=pblk_low (λ_=>rfl) λb=>a b _ _
theorem nil_optm {a b:Nat}:aNil (.map a b) (zO id u) .nilm=some u.isNone:=by cases u <;> rfl
theorem p_lenO {c:Call} (e:o.op=.call c) (l:c.callee=.builtin .len) (f:c.args=#[x]) (b:c.argTypes=#[t]) (g:P.underlying t=some (.map kt et)) (p:yk env x=some (zO (h.blks.length+j) tt)) (r:L[j]?=some (zy kv vv ms)) (a:olen ms tt=some n) :
  xD P o env (h.ext L M) 0=some [(.int .i64 n,h.ext L M)]:=by
 cases tt with
 | none =>
  obtain ⟨w,s⟩:=zS p;simp only [olen,omap,uB,uf] at a;subst a;simp only [xD,e,l,f,b,w,s,g,ur,zO,AV.isNilm];rfl
 | some q =>
  simp only [olen,omap,tf] at a;obtain ⟨m,a,rfl⟩:=a;exact p_len e l f b g p r a
theorem p_putO {v:W} (e:o.op=.mapUpdate t x y z) (p:P.underlying t=some (.map kt et)) (f:KQ P kt kv eq) (s:yk env x=some (zO (h.blks.length+j) tt)) (g:L[j]?=some (zy kv vv ms)) (l:yk env y=some (kv k)) {a:AV} (w:yk env z=some a) (c:a.zcl=vv v) (b:oput eq ms tt k v=some ms')
  (r:L.set j (zy kv vv ms')=B):xD P o env (h.ext L M) 0=some [(aundef,h.ext B M)]:=by
 cases tt with
 | none=>cases b
 | some q =>
  simp only [oput,tf] at b;obtain ⟨m,b,rfl⟩:=b;exact p_put e p f s g b l w c r
theorem p_delO {c:Call} (e:o.op=.call c) (s:c.callee=.builtin .delete) (g:c.args=#[x,y]) (b:c.argTypes.toList=t::ts) (r:P.underlying t=some (.map kt et)) (f:KQ P kt kv eq) (w:yk env x=some (zO (h.blks.length+j) tt)) (A:L[j]?=some (zy kv vv ms)) (l:yk env y=some (kv k))
  (a:odel eq ms tt k=some ms') (p:L.set j (zy kv vv ms')=B):xD P o env (h.ext L M) 0=some [(.tup [],h.ext B M)]:=by
 cases tt with
 | none =>
  simp only [odel,uf] at a;subst a;have:B=L:=by
   rw [<- p];apply uT
   grind
  rw [this];exact p_delN e s g b r f w l
 | some q =>
  simp only [odel,tf] at a;obtain ⟨m,a,rfl⟩:=a;exact p_del e s g b r f w A a l p
theorem wM (e:aG ops o env=some true) (b:o.op=.range t x) (c:P.underlying t=some (.map kt et))
  (g:yk env x=some (zO (h.blks.length+j) tt)) (r:L[j]?=some (zy kv vv ms)) (p:omap ms tt=some m) (l:L.length=n) (hd:xO o.dst env (.ptr (h.blks.length+n) 0)=some env') (f:L++[xb (h.blks.length+j) tt m.length []]=L') (a:zJ P ops Q rest env' (h.ext L' M)):zJ P ops Q (o::rest) env (h.ext L M):=by
 cases tt with
 | none =>
  obtain ⟨w,s⟩:=zS g;subst l f;refine ops_b (v:=.ptr (h.blks.length+L.length) 0) (h':=h.ext (L++[.miter0]) M) e ?_ hd a;simp only [xT,b,w,s,c,ur,zO];simp [AH.new,AH.ext]
 | some q=>exact ops_rangeG e b c g r p l hd f a
theorem wN {ρ σ:Type} {f:Nat->K×W->σ->Option (Out ρ σ)} {s:σ} {a:σ->Option ρ} {l:ρ} (p:aG ops o env=some true) (A:o.op=.next x false)
  (C:yk env x=some (.ptr (h.blks.length+j) 0)) (E:L[j]?=some (xb (h.blks.length+jp) tt m.length seen)) (H:L[jp]?=some (zy kv vv ms)) (g:omap ms tt=some m) (b:xO o.dst env (.tup [.bool false])=some e2)
  (r:LeftOkG f m seen a l s)
  (e:∀i y w,m[i]?=some (some y)->(∃x,m[i]?=some (some x)/\i ∉ seen)->f seen.length y s=some w->konG f m (seen++[i]) a l w->∃D,xO o.dst env (.tup [.bool true,kv y.1,vv y.2])=some D/\zJ P ops Q rest D (h.ext (L.set j (xb (h.blks.length+jp) tt m.length (seen++[i]))) M))
  (c:a s=some l->zJ P ops Q rest e2 (h.ext L M)):zJ P ops Q (o::rest) env (h.ext L M):=by
 cases tt with
 | none =>
  obtain ⟨I,G⟩:=zS C;simp only [omap,uf] at g;subst g;refine ops_b (v:=.tup [.bool false]) (h':=h.ext L M) p ?_ b (c (leftOkG_end r rfl));simp only [xT,A,I,G,ur,yC,E,xb]
 | some q=>exact ops_nextGF p A C E H g b r e c
theorem wP {y:K×W} (A:aG ops o env=some true) (g:o.op=.entry x) (C:yk env x=some (.ptr (h.blks.length+j) 0)) (l:L[j]?=some (xb (h.blks.length+jp) tt m.length (seen++[i]))) (w:L[jp]?=some (zy kv vv ms)) (b:omap ms tt=some m) (e:m[i]?=some (some y))
  (hd:xO o.dst env (.tup [kv y.1,vv y.2])=some env') (f:zJ P ops Q rest env' (h.ext L M)):zJ P ops Q (o::rest) env (h.ext L M):=by
 cases tt with
 | none =>
  simp only [omap,uf] at b;subst b;simp at e
 | some q =>
  obtain ⟨s,r⟩:=zS C;refine wt (n:=0) (v:=.tup [kv y.1,vv y.2]) (h':=h.ext L M) A ?_ hd f;have a:(prow kv vv m).length=m.length:=by simp [prow]
  have c:(prow kv vv m)[i]?=some (some (kv y.1,vv y.2)):=by simp [prow,e,wp]
  have p:(seen++[i]).getLast?=some i:=by simp
  simp only [xD,g,s,r,ur,yC,l,xb,pget_ext w (show ms[q]?=some m from b),p,a,c]
end
end Go.Vv
namespace Go.Vv
open Go Go.RowKit Go.ChangeShapes Go.WideShapes Go.ChangeAt
variable {t:TypeId} {α:Type} {n total off:Nat} {v:Value}

def g0 (W:World):Gh:={ Φ:=λb j=>if b < W.heap.size then W.cell? ⟨b,j,none⟩ else none,σ:=[],τ:=[],δ:=[],O:=λb=>b < W.heap.size }
def h0:AH:={ blks:=[],toks:=[] }
theorem rel0 (W:World):Rel W.heap.size W (g0 W) h0 W:=by
 refine ⟨Below.refl _ _,ue _,λb j v h=>?_,rfl,λi c k d _=>by simp [g0] at d,rfl,λi t a=>by simp [g0] at a,λi j c hi=>by simp [g0] at hi,λi j t t' b x y hi=>by simp [g0] at hi,λi c j t b x hi=>by simp [g0] at hi,λc d=>by simp [g0] at d,λi k hi=>by simp [g0] at hi,λi j t k k' es es' hi=>by simp [h0] at hi,λb x h=>by simp [g0] at h,λb h=>⟨h,λs=>by simp [g0]⟩,λb _=>⟨λi=>by simp [g0],by simp [g0],λi t y a=>by simp [g0] at a⟩⟩;simp only [g0] at h
 simp_all

section
variable {H:Type} {enc:TypeId×Value->H} {P:Program} {W:World}
mutual
def wV:DataW H->Nat
 | .lit (.string bytes)=>bytes.length+1
 | .lit _=>1
 | .nil=>1
 | .ptr d=>wV d+1
 | .slice elems spare=>wU elems+wU spare+1
 | .agg parts=>wU parts+1
 | .iface _ d=>wV d+1
 | .map entries=>vBulkEs entries+1
 | .held _=>1
def wU:List (DataW H)->Nat
 | []=>0
 | d::r=>wV d+wU r
def vBulkEs:List (Lit×DataW H)->Nat
 | []=>0
 | x::r=>vBulkEs r+vBulkE x
def vBulkE:Lit×DataW H->Nat
 | (.string bytes,d)=>bytes.length+wV d+1
 | (_,d)=>wV d+1
end
theorem sum_bulk {α:Type} {bk:α->Nat}:∀{l:List α} {ds:List (DataW H)},l.length=ds.length->(∀(i:Nat) (a:α) (d:DataW H),l[i]?=some a->ds[i]?=some d->bk a<=wV d)->(l.map bk).sum<=wU ds
 | [],_,_,_=>by simp
 | a::r,[],hl,_=>by simp at hl
 | a::r,d::ds,hl,h=>by
  have e:=h 0 a d rfl rfl;have c:=sum_bulk (bk:=bk) (l:=r) (ds:=ds) (by simp_all) (λi x y f b=>h (i+1) x y (by simp_all) (by simp_all));simp only [uw,sD,wU];omega
def RdN (enc:TypeId×Value->H) (P:Program) (W:World) (n:Nat) (t:TypeId) {α:Type} (row:α->List AV) (wf:α->Prop) (bk:α->Nat):Prop :=
 ∀cs x,DataW.trod enc P W 0 (λ_=>true) true n t cs=some x->∃y,VL (g0 W) (row y) cs/\wf y/\bk y<=wV x.1
theorem RdN.zero {row:α->List AV} {wf:α->Prop} {bk:α->Nat}:RdN enc P W 0 t row wf bk:=λcs x h=>by simp [DataW.trod] at h
theorem RdN.map {e:Type} {row:α->List AV} {wf:α->Prop} {b:e->List AV} {d:e->Prop} {bk:α->Nat} {c:e->Nat} (f:α->e) (h:RdN enc P W n t row wf bk) (m:∀a,b (f a)=row a) (l:∀a,wf a->d (f a)) (j:∀a,c (f a)=bk a):RdN enc P W n t b d c:=λcs x g=>by
 obtain ⟨y,k,i,o⟩:=h cs x g
 grind
theorem rd_int {k:IntKind} (b:P.underlying t=some (.int k)):RdN enc P W n t (intRow k) (InK k) (λ_=>1):=by
 cases n with
 | zero=>exact RdN.zero
 | succ n =>
  intro cs x h;rw [DataW.trod_step] at h;unfold DataW.trodStep at h;rw [b] at h;split at h <;> simp_all;obtain ⟨⟨rfl,a⟩,rfl⟩:=h;exact ⟨_,VL.cons (by rfl) (by simp [VL]),by simpa [Lit.wf,InK] using a,by simp [wV]⟩
theorem rd_str (a:P.underlying t=some .string):RdN enc P W n t zr (λs=>s.length<=maxLen) (λs=>s.length+1):=by
 cases n with
 | zero=>exact RdN.zero
 | succ n =>
  intro cs x h;rw [DataW.trod_step] at h;unfold DataW.trodStep at h;rw [a] at h;split at h <;> simp_all;rename_i s;have hs:s.data.toList.length=s.size:=rfl;obtain ⟨h,rfl⟩:=h;refine ⟨s.data.toList,VL.cons ?_ (by simp [VL]),by omega,by simp [wV]⟩;simp only [V]
  simp_all
theorem mapM_get {α e:Type} {f:α->Option e}:∀{l:List α} {xs:List e},l.mapM f=some xs->∀a ∈ l,∃x,f a=some x
 | [],_,_,a,c=>by cases c
 | b::r,xs,h,a,c=>by
  simp only [sZ,sF,sf,rq,uf] at h;obtain ⟨v,g,vs,d,rfl⟩:=h;rcases ux.1 c with rfl | c
  ·simp_all
  ·exact mapM_get d a c
theorem mapM_len {α c:Type} {f:α->Option c}:∀{l:List α} {xs:List c},l.mapM f=some xs->xs.length=l.length
 | [],_,h=>by simp_all
 | b::r,xs,h=>by
  simp only [sZ,sF,sf,rq,uf] at h;obtain ⟨v,d,vs,a,rfl⟩:=h;simp [mapM_len a]
theorem mapM_at {α d:Type} {f:α->Option d}:∀{l:List α} {xs:List d},l.mapM f=some xs->∀(i:Nat) (a:α),l[i]?=some a->∃x,f a=some x/\xs[i]?=some x
 | [],_,_,i,a,ha=>by simp at ha
 | b::r,xs,h,i,a,ha=>by
  simp only [sZ,sF,sf,rq,uf] at h;obtain ⟨v,e,vs,c,rfl⟩:=h;cases i with
  | zero=>simp at ha;subst ha;exact ⟨v,e,rfl⟩
  | succ i=>simpa using mapM_at c i a (by simp_all)
theorem ones_of_pure {a5:List AV} (h:a5.all AV.pure=true):a5.all AV.one=true:=by
 rw [uv] at h ⊢;exact λa b=>AV.one_of_pure (h a b)
theorem rd_slice {e:TypeId} {k:Nat} {row:α->List AV} {wf:α->Prop} {bk:α->Nat} (U:P.underlying t=some (.slice e)) (Z:P.cellsOf e=k) (hk:0 < k) (S:∀y,(row y).length=k) (I:∀y,(row y).all AV.pure=true) (T:∀m,m < n->RdN enc P W m e row wf bk) :
  RdN enc P W n t (λL=>[AV.sl k (L.map row)]) (λL:List α=>L.length<=maxLen/\∀y ∈ L,wf y) (λL=>(L.map bk).sum+1):=by
 cases n with
 | zero=>exact RdN.zero
 | succ n =>
  intro cs x h;rw [DataW.trod_step] at h;unfold DataW.trodStep at h;rw [U] at h;split at h
  all_goals first | (exfalso;simp_all;done) | skip
  ·-- nil
   cases h;exact ⟨[],VL.cons (by simp only [V];exact ⟨none,0,rfl,by simp,by simp,.inl rfl⟩) (by simp [VL]),⟨by simp,λy s=>by cases s⟩,by simp [wV]⟩
  ·rename_i _ _ O a len cap A;injection A with A;injection A with A;subst A;simp only [Z] at h;split at h
   ·rename_i N;obtain ⟨_,X,r⟩:=N;rcases hel:(List.range len).mapM λi=>(W.cells? 0 (a.add (i * k)) k).bind (DataW.trod enc P W 0 (λ_=>true) true n e) with _ | b
    ·simp_all
    ·-- the elements,one by one
     have D:b.length=len:=by rw [mapM_len hel];simp
     have E:wU (b.map (·.1))+1<=wV x.1:=by
      rw [hel] at h;simp only [uc,tf] at h;obtain ⟨rest,_,rfl⟩:=h;simp only [wV];omega
     have key:∀i,i < len->∃y us,W.cells? 0 (a.add (i * k)) k=some us/\VL (g0 W) (row y) us/\wf y/\∀z,b[i]?=some z->bk y<=wV z.1:=by
      intro i hi;obtain ⟨z,G,R⟩:=mapM_at hel i i (rV hi);rcases hcs:W.cells? 0 (a.add (i * k)) k with _ | us
      ·simp_all
      ·rw [hcs] at G;obtain ⟨y,l,F,h3⟩:=T n (sJ n) us z G
       grind
     rcases ru len with h0 | q
     ·subst h0;exact ⟨[],VL.cons (by simp only [V];exact ⟨some a,cap,rfl,by simp,r,.inl rfl⟩) (by simp [VL]),⟨by simp,λy s=>by cases s⟩,by simp;omega⟩
     ·have B:Nonempty α:=⟨(key 0 q).choose⟩
      have w:∀i,∃y,i < len->∃us,W.cells? 0 (a.add (i * k)) k=some us/\VL (g0 W) (row y) us/\wf y/\∀z,b[i]?=some z->bk y<=wV z.1:=by
       intro i;by_cases hi:i < len
       ·simp_all
       ·exact ⟨Classical.choice B,λh=>absurd h hi⟩
      obtain ⟨f,J⟩:=Classical.axiomOfChoice w
      -- no place within a cell
      have c:a.spot=none:=by
       obtain ⟨us,l,_⟩:=J 0 q;unfold World.cells? at l;rw [uG (tU _)] at l;obtain ⟨v,p⟩:=mapM_get l 0 (by simp_all);simp only [Nat.zero_mul] at p;have Y:(a.add 0).add 0=a:=by rfl
       rw [Y] at p;unfold World.cell? at p;split at p
       ·simp_all
       ·cases p
      have M:a=⟨a.block,a.off,none⟩:=by cases a;simp at c;simp [c]
      refine ⟨(List.range len).map f,VL.cons ?_ (by simp [VL]),⟨by simp;omega,λy s=>?_⟩,?_⟩
      ·simp only [V];refine ⟨some a,cap,by simp,by grind,r,.inr ⟨a.block,a.off,congrArg some M,VE.mk λi O o=>?_⟩⟩;simp only [s8,tO] at o;have hi:i < len:=by
        grind
       rw [rV hi] at o;simp only [uB,Function.comp,uf] at o;subst o;obtain ⟨us,l,F,_,_⟩:=J i hi;refine ⟨S _,VC.ofVA (VA.mk F (ones_of_pure (I _))) (I _) λj u K=>?_⟩;unfold World.cells? at l;rw [uG (tU _)] at l;have C:j < k:=by
        have:=(ua.1 K).1;rw [mapM_len l] at this;simpa using this
       obtain ⟨v,p,g⟩:=mapM_at l j j (rV C);rw [K] at g;injection g with g;subst g;have Q:(a.add (i * k)).add j=⟨a.block,a.off+i * k+j,none⟩:=by
        rw [M,xP,xP]
       rw [Q] at p;simp only [g0];rw [uG (World.block_lt_of_cell? W _ p)];exact p
      ·grind
      ·refine uN (Nat.add_le_add_right (sum_bulk (bk:=bk) (ds:=b.map (·.1)) (by simp [D]) λi y d s hd=>?_) 1) E
       grind
   ·cases h

def RdF (enc:TypeId×Value->H) (P:Program) (W:World) (n:Nat) (total off:Nat) (fs:List Field) {α:Type} (row:α->List AV) (wf:α->Prop) (bk:α->Nat):Prop :=
 ∀(cs:List Value) xs,cs.length=total->(fs.mapM λf=>DataW.trod enc P W 0 (λ_=>true) true n f.type ((cs.drop f.offset).take (P.cellsOf f.type)))=some xs->∃y,VL (g0 W) (row y) (cs.drop off)/\wf y/\bk y<=wU (xs.map (·.1))
theorem rf_nil (h:total<=off):RdF enc P W n total off [] (λ_:Unit=>[]) (λ_=>True) (λ_=>0):=λcs xs a _=>⟨(),by rw [tq (by omega)];simp [VL],trivial,tU _⟩
theorem wh {k a:Nat} {f:Field} {fs:List Field} {i:Type} {row:α->List AV} {wf:α->Prop} {b:i->List AV} {d:i->Prop} {bk:α->Nat} {c:i->Nat} (s:f.offset=off) (C:P.cellsOf f.type=k) (g:off+k=a) (h:RdN enc P W n f.type row wf bk) (r:RdF enc P W n total a fs b d c) :
  RdF enc P W n total off (f::fs) (λp:α×i=>row p.1++b p.2) (λp=>wf p.1/\d p.2) (λp=>bk p.1+c p.2):=by
 intro cs xs u m;simp only [sZ,sF,sf,rq,uf] at m;obtain ⟨v,A,vs,j,rfl⟩:=m;obtain ⟨y,l,o,B⟩:=h _ _ A;obtain ⟨z,w,q,x⟩:=r _ _ u j;refine ⟨(y,z),?_,⟨o,q⟩,by simp only [uw,wU];omega⟩;have e:cs.drop off=(cs.drop off).take k++cs.drop a:=by
  rw [<- g,<- tG,List.take_append_drop]
 rw [e];rw [s,C] at l;exact VL.append l w
theorem rd_struct {fs:Array Field} {l:List Field} {row:α->List AV} {wf:α->Prop} {bk:α->Nat} (i:P.underlying t=some (.struct fs)) (d:fs.toList=l) (j:P.cellsOf t=total) (h:∀m,m < n->RdF enc P W m total 0 l row wf bk):RdN enc P W n t row wf (λy=>bk y+1):=by
 cases n with
 | zero=>exact RdN.zero
 | succ n =>
  intro cs x a;rw [DataW.trod_step] at a;unfold DataW.trodStep at a;rw [i] at a;split at a
  all_goals first | (exfalso;simp_all;done) | skip
  rename_i cs _ _ g c;injection c with c;injection c with c;subst c;split at a
  ·rename_i b;rw [d] at a;rcases hm:(l.mapM λf=>DataW.trod enc P W 0 (λ_=>true) true n f.type ((cs.drop f.offset).take (P.cellsOf f.type))) with _ | xs
   ·simp_all
   ·obtain ⟨y,k,e,o⟩:=h n (sJ n) cs xs (by rw [b,j]) hm;rw [hm] at a;simp only [uB,uf] at a;subst a;exact ⟨y,by simp_all,e,by simp only [wV];omega⟩
  ·cases a
theorem rd_arg {row:α->List AV} {wf:α->Prop} {bk:α->Nat} {d:DataW H} {p:List MemPlace} (a:∀n,RdN enc P W n t row wf bk) (h:DataW.Trod enc P W 0 (λ_=>true) true t v d p):∃y,VL (g0 W) (row y) v.cells.toList/\wf y/\bk y<=wV d:=by
 obtain ⟨n,b⟩:=h;exact a n _ _ b
theorem V.of_one {a:AV} {g:Gh} (b:∀cs,v ≠ .agg cs) (h:VL g [a] v.cells.toList):V g a v:=by
 simp only [VL] at h;obtain ⟨u,s,e,c,rfl⟩:=h;have:v.cells=#[v]:=by cases v <;> first | rfl | exact absurd rfl (b _)
 simp_all
theorem post_of_below {f:Func} {s:ChangeSpec} {apart l c i:Bool} {W':World} {args:Array Value} {ds gs:List (DataW H)} {a q pv:List MemPlace}
  (w:DataW.Whole enc P f.params.toList s.vars apart W args.toList ds gs a) (y:Below W.heap.size W W')
  (h:∀(b:Nat) (k:Nat->Bool) (hd:Bool),DataW.TrodAll enc P W' b k hd f.resultTypes.toList (v.resultList f.resultTypes.size) (s.fn H (ds++gs)).results [])
  (d:∀k:Nat->Bool,(∀p ∈ a,k p.block=true)->DataW.TrodAll enc P W' 0 k true f.params.toList args.toList (s.fn H (ds++gs)).args q)
  (e:∀k:Nat->Bool,(∀p ∈ a,k p.block=true)->DataW.TrodVars enc P W' k s.vars (s.fn H (ds++gs)).vars pv)
  (A:a=q++pv)
  (x:∀(j:Nat) (t:TypeId) (r:Value),f.resultTypes[j]?=some t->(v.resultList f.resultTypes.size)[j]?=some r->Value.okWide P W' .any 0 t r) :
  s.post enc P f apart l c i W args v W':=by
 have u:∀p ∈ a,p.block < W.heap.size:=λp o=>by simpa using w.lt p o
 have g:∀p ∈ a,(λb=>decide (b < W.heap.size)) p.block=true:=λp o=>by simp_all
 refine ⟨ds,gs,a,[],q,pv,w,h _ _ _,d _ g,e _ g,World.keptBut_mono (λp o=>⟨o,?_⟩) (y.frame (· ∈ a)),λ_=>?_⟩
 ·simp_all
 ·obtain ⟨_,_,_,_,_,z,B⟩:=w;refine ⟨x,_,_,([]++q)++pv,⟨[]++q,pv,trodAll_append (d _ (λ_ _=>rfl)) (h _ _ _),e _ (λ_ _=>rfl),rfl,?_,?_⟩,?_⟩
  ·intro b off o;have m:MemPlace.cell b off ∈ a:=by simp_all
   rw [y.frozen (p:=⟨b,off,none⟩) (u _ m)];exact z b off m
  ·simp_all
  ·simp_all
end
end Go.Vv
namespace Go.Vv
open Go Go.ChangeShapes Go.WideShapes
theorem returns_cond_shaped {H:Type} {enc:TypeId×Value->H} {a:Assume} {C:Checked} {os:Os} {f:FuncId} {fn:Func} {s:OpenSpec} {k:(H:Type)->List (DataW H)->Bool} (I:s.cond=some k) {F:Stop.Interp} {g:List PathCond} {apart m d l:Bool}
  (own:ownKnob C.prog.godebug=none) (n:os.Started) (p:C.prog.inits.idxOf? f=none) (E:C.prog.funcs[f]?=some fn)
  (o:∃(w:World) (b:Tape) (i:Input),w.os=os/\(w.forCall b i).Shaped C.prog/\i.vars=[]/\Input.okWide C.prog (w.forCall b i) .any w.heap.size f i /\
   s.pre6 enc C.prog fn g apart (w.forCall b i).memory i.args/\a.holds C.prog (lone (Frame.enter C.prog f i.args .normal) [] (w.forCall b i)))
  (h:∀(W:World) (q:Nat) (args:Array Value) (ds gs:List (DataW H)) (c:List MemPlace),
   (∀(j:Nat) t v,fn.params[j]?=some t->args[j]?=some v->Value.okWide C.prog W .any q t v) ->
   DataW.Whole enc C.prog fn.params.toList s.vars apart W args.toList ds gs c->k H (ds++gs)=true->W.ShapedOpen C.prog ->
   Calls C.prog f args W λe W'=>∃v,e=.returned v/\(s.at F).post enc C.prog fn apart m d l W args v W') :
  ReturnsInHanded a C os f .any (s.pre6 enc C.prog fn g apart) ((s.at F).post enc C.prog fn apart m d l):=by
 refine returnsInHanded_of_calls own n p o ?_;intro w b i _ D _ B x y;obtain ⟨_,_,_,G,u,_,_,_,_,r⟩:=B;have e:G=fn:=uj (u.symm.trans E);subst e;obtain ⟨ds,gs,c,K,M,A⟩:=(OpenSpec.pre_some I g apart _ _).1 x.1;have z:=DataW.Whole.of_heap (w':=w.forCall b i) (by rfl) K;refine (h (w.forCall b i) w.heap.size i.args ds gs c r z A D).mono λe W' ⟨v,L,J⟩=>?_;subst L;exact ChangeSpec.post_blind J
end Go.Vv
namespace Go.Vv
open Go
section
variable {α ρ σ:Type}
@[simp] theorem lp_none {rest:σ->Option ρ}:lp (none:Option (ρ ⊕ σ)) rest=none:=rfl
@[simp] theorem lp_inl {rest:σ->Option ρ} {r:ρ}:lp (some (.inl r)) rest=some r:=rfl
@[simp] theorem qE {rest:σ->Option ρ} {s:σ}:lp (some (.inr s)) rest=rest s:=rfl
theorem ye {p:Prop} [Decidable p] {o:Option ρ} (h:p):x6 p o=o:=uG h
theorem loopL_all {f:Nat->α->Unit->Option (Out ρ Unit)} (p:α->Bool) (r:ρ):∀(L:List α) (i:Nat),(∀i x,x ∈ L->f i x ()=if p x=true then some (.nxt ()) else some (.ret r))->zx f L i ()=if L.all p=true then some (.inr ()) else some (.inl r)
 | [],_,_=>rfl
 | x::t,i,h=>by
  have b:=loopL_all p r t (i+1) (λi y a=>h i y (tr _ a));simp only [zx,h i x (tz ..)]
  grind
theorem loopL_fold {f:Nat->α->σ->Option (Out ρ σ)} (g:σ->α->σ):∀(L:List α) (i:Nat) (s:σ),(∀i x s,x ∈ L->f i x s=some (.nxt (g s x)))->zx f L i s=some (.inr (L.foldl g s))
 | [],_,_,_=>rfl
 | x::t,i,s,h=>by
  simp only [zx,h i x s (tz ..),sy];exact loopL_fold g t (i+1) (g s x) (λi y s a=>h i y s (tr _ a))
theorem loopL_first {f:Nat->α->Unit->Option (Out ρ Unit)} (p:α->Bool) (r:Nat->α->ρ):∀(L:List α) (i:Nat),(∀i x,x ∈ L->f i x ()=if p x=true then some (.ret (r i x)) else some (.nxt ())) ->
  zx f L i ()=match L.findIdx? p with
   | none=>some (.inr ())
   | some j=>match L[j]? with | some x=>some (.inl (r (i+j) x)) | none=>none
 | [],_,_=>rfl
 | x::t,i,h=>by
  have b:=loopL_first p r t (i+1) (λi y a=>h i y (tr _ a));simp only [zx,h i x (tz ..),List.findIdx?_cons]
  grind
def firstI (q:α->Bool) (p:List α):Int:=match p.findIdx? q with | some j=>(j:Int) | none=>-1
theorem first_loop {f:α->Option Bool} {q:α->Bool} (p:List α) (d:∀x ∈ p,f x=some (q x)):lp (zx (λ(a:Nat) (b:α) (_:Unit)=>(((f b).bind λc=>(if c=true then some (.ret (a:Int)) else some (.nxt ()))):Option (Out _ Unit))) p 0 ()) (λ(_:Unit)=>some (-1:Int))=some (firstI q p):=by
 rw [loopL_first q (λi _=>(i:Int)) _ _ (λi x g=>by simp_all)];unfold firstI;cases h:p.findIdx? q with
 | none=>simp
 | some j =>
  obtain ⟨e,_⟩:=sx.1 h
  simp_all
theorem firstI_any (q:α->Bool) (p:List α):decide (firstI q p >= 0)=p.any q:=by
 unfold firstI
 grind
theorem idx_at {M:List α} {i:Nat} (h:i < M.length):qO M (i:Int)=some M[i]:=by
 unfold qO;rw [uG (by omega),uU,ui h]
theorem slc_at {L:List α} {lo hi:Int} (h:0<=lo/\lo<=hi/\hi<=L.length):slc L lo hi=some ((L.take hi.toNat).drop lo.toNat):=uG h
theorem w64n {n:Int} (h:-9223372036854775808<=n/\n<=9223372036854775807):IntKind.wrap .i64 n=n:=by rw [IntKind.wrap_i64];omega
end
end Go.Vv
