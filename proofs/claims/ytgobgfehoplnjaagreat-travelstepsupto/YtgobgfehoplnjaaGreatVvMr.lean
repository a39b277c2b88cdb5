/- Rules for maps: lists of keys and values. -/
import Derived.Test.YtgobgfehoplnjaaGreatVvU
import Derived.ProofKit
import Derived.OpenShut
import Derived.JoinedCond
import Derived.HandedShaped
set_option linter.all false
namespace Go.Vv
open Go
variable {B:List q6}
section
variable {K W:Type}
def zG (eq:K->K->Bool) (d:W):List (K×W)->K->W
 | [],_=>d
 | e::r,k=>if eq k e.1 then e.2 else zG eq d r k
def vP (eq:K->K->Bool):List (K×W)->K->Bool
 | [],_=>false
 | e::r,k=>eq k e.1 || vP eq r k
def en (eq:K->K->Bool):List (K×W)->K->Nat
 | [],_=>0
 | e::r,k=>if eq k e.1 then 0 else en eq r k+1
def ut (eq:K->K->Bool):List (K×W)->K->W->List (K×W)
 | [],k,v=>[(k,v)]
 | e::r,k,v=>if eq k e.1 then (e.1,v)::r else e::ut eq r k v
def wx (eq:K->K->Bool):List (K×W)->K->W->List (K×W)
 | [],k,v=>[(k,v)]
 | e::r,k,v=>if eq k e.1 then (k,v)::r else e::wx eq r k v
def bE (eq:K->K->Bool) (d:W) (m:List (K×W)) (k:K):List (K×W):=if vP eq m k then m else m++[(k,d)]
def zZ (kv:K->AV) (vv:W->AV) (e:K×W):AV×AV:=(kv e.1,vv e.2)

theorem zlv {eq:K->K->Bool} {k:K}:∀{m:List (K×W)},vP eq m k=true->en eq m k < m.length
 | [],h=>by simp [vP] at h
 | e::r,h=>by
  simp only [vP,en,m3] at h ⊢;by_cases hk:eq k e.1=true
  ·simp [hk]
  ·simp only [hk,lR,lg,tx] at h ⊢;have:=zlv h;omega
theorem zeO {eq:K->K->Bool} {k:K}:∀{m:List (K×W)},vP eq m k=false->en eq m k=m.length
 | [],h=>rfl
 | e::r,h=>by
  simp only [vP,en,m3,ky] at h ⊢;simp [h.1,zeO h.2]
theorem ziF {eq:K->K->Bool} {k:K} {v:W}:∀{m:List (K×W)} {e:K×W},vP eq m k=true->m[en eq m k]?=some e->m.set (en eq m k) (e.1,v)=ut eq m k v
 | [],_,h,_=>by simp_all
 | p::r,e,h,he=>by
  simp only [vP,en,ut] at h he ⊢;by_cases hk:eq k p.1=true
  ·simp_all
  ·simp only [hk,lR,lg,tx,iK] at h he ⊢;rw [kf,ziF h he]
theorem zf8 {eq:K->K->Bool} {k:K} {v:W}:∀{m:List (K×W)},vP eq m k=true->m.set (en eq m k) (k,v)=wx eq m k v
 | [],h=>by simp [vP] at h
 | p::r,h=>by
  simp only [vP,en,wx] at h ⊢;by_cases hk:eq k p.1=true
  ·simp_all
  ·simp only [hk,lR,lg,tx] at h ⊢;rw [kf,zf8 h]
theorem ziE {eq:K->K->Bool} {k:K} {v:W}:∀{m:List (K×W)},vP eq m k=false->m++[(k,v)]=ut eq m k v
 | [],_=>rfl
 | p::r,h=>by
  simp only [vP,ut,ky] at h ⊢;simp [h.1,ziE h.2]
theorem zf7 {eq:K->K->Bool} {k:K} {v:W}:∀{m:List (K×W)},vP eq m k=false->m++[(k,v)]=wx eq m k v
 | [],_=>rfl
 | p::r,h=>by
  simp only [vP,wx,ky] at h ⊢;simp [h.1,zf7 h.2]

def KQ (P:Program) (kt:TypeId) (kv:K->AV) (eq:K->K->Bool):Prop:=(∀a b,xk P kt (kv a) (kv b)=some (eq a b))/\∀a,eq a a=true
theorem KQ.str {P:Program} {t:TypeId} {z:Nat} (h:Ty P t .string z):KQ P t AV.str (λa b=>a==b):=⟨λa b=>by simp only [xk,h.u,n9],λa=>by simp⟩
theorem KQ.int {P:Program} {t:TypeId} {i:IntKind} {z:Nat} (h:Ty P t (.int i) z):KQ P t (AV.int i) (λa b=>a==b):=⟨λa b=>by simp only [xk,h.u,n9,nv],λa=>by simp⟩
theorem KQ.struct {P:Program} {t:TypeId} {fs:Array Field} {c:List Kd} {row:K->List AV} {eq:K->K->Bool} (g:P.underlying t=some (.struct fs)) (e:PK P t c) (h:∀a b,tY c (row a) (row b)=some (eq a b)) (f:∀a,eq a a=true):KQ P t (λx=>.agg (row x)) eq :=
 ⟨λa b=>by simp only [xk,g,e.k,h],f⟩

variable {P:Program} {kt et t:TypeId} {kv:K->AV} {vv:W->AV} {eq:K->K->Bool} {d:W}
theorem o8 (a:KQ P kt kv eq) (d:W) (k:K):∀(m:List (K×W)) (i:Nat),tV P kt (kv k) (m.map (zZ kv vv)) i=some (if vP eq m k then some (i+en eq m k,vv (zG eq d m k)) else none)
 | [],i=>rfl
 | e::r,i=>by
  have l:=o8 a d k r (i+1);simp only [ld,tV];have g:xk P kt (kv k) (zZ kv vv e).1=some (eq k e.1):=a.1 _ _;rw [g];by_cases h:eq k e.1=true
  ·have b:vP eq (e::r) k=true:=by simp [vP,h]
   have f:en eq (e::r) k=0:=by simp [en,h]
   have c:zG eq d (e::r) k=e.2:=by simp [zG,h]
   rw [b,f,c,h];rfl
  ·simp only [jD] at h;have b:vP eq (e::r) k=vP eq r k:=by simp [vP,h]
   have f:en eq (e::r) k=en eq r k+1:=by simp [en,h]
   have c:zG eq d (e::r) k=zG eq d r k:=by simp [zG,h]
   grind

variable {ops:Array Oper} {o:Oper} {env:List AV} {h:AH} {L:List q6} {M:List Nat} {m:List (K×W)} {k:K} {j:Nat} {x y z:Operand}
theorem tg {n:Nat} (b:o.op=.makeMap t none) (a:L.length=n):zj P o env (h.ext L M)=.ok (.map (h.zh.length+n)) (h.ext (L++[.q7 [] 0]) M):=by
 simp only [zj,b,zaV,<- a];simp [AH.ext]
theorem zfh (c:o.op=.lookup t x y false) (n:P.underlying t=some (.map kt et)) (a:KQ P kt kv eq) (s:qV P et=some (vv d)) (q:yu env x=some (.map (h.zh.length+j))) (b:L[j]?=some (.q7 (m.map (zZ kv vv)) 0)) (f:yu env y=some (kv k)) :
  zj P o env (h.ext L M)=.ok (vv (zG eq d m k)) (h.ext L M):=by
 obtain ⟨l,g⟩:=zD q;obtain ⟨p,i⟩:=zD f;simp only [zj,c,l,g,p,i,n,lI,nv,pW,a.1,a.2,zW,b,o8 a d k m 0,s];cases hm:vP eq m k with
 | true=>simp [tu,oo]
 | false =>
  have:zG eq d m k=d:=by
   clear b
   induction m with
   | nil=>rfl
   | cons e r ih=>simp only [vP,ky] at hm;simp only [zG,hm.1,tx,lg];exact ih hm.2
  simp [tu,oo,this]
theorem zhL (c:o.op=.mapEntry t x y) (q:P.underlying t=some (.map kt et)) (a:KQ P kt kv eq) (v:qV P et=some (vv d)) (u:yu env x=some (.map (h.zh.length+j))) (b:L[j]?=some (.q7 (m.map (zZ kv vv)) 0)) (g:yu env y=some (kv k))
  (p:L.set j (.q7 ((bE eq d m k).map (zZ kv vv)) 0)=B):zj P o env (h.ext L M)=.ok (.fk [vv (zG eq d m k),.int .i64 (en eq m k)]) (h.ext B M):=by
 obtain ⟨n,i⟩:=zD u;obtain ⟨s,l⟩:=zD g;subst p;simp only [zj,c,n,i,s,l,q,lI,nv,zgR,a.1,a.2,zW,b,o8 a d k m 0,v,bE];cases hm:vP eq m k with
 | true =>
  have:L.set j (.q7 (m.map (zZ kv vv)) 0)=L:=by
   apply lW
   grind
  simp [ovh,this]
 | false =>
  have f:zG eq d m k=d:=by
   clear b
   induction m with
   | nil=>rfl
   | cons e r ih=>simp only [vP,ky] at hm;simp only [zG,hm.1,tx,lg];exact ih hm.2
  simp [ovh,f,wU,zZ,zeO hm]
theorem nF {v:W} {i:Int} {n:IntKind} (u:o.op=.entryStore t x y z) (C:yu env x=some (.map (h.zh.length+j))) (E:L[j]?=some (.q7 ((bE eq d m k).map (zZ kv vv)) 0)) (w:yu env y=some (.int n i)) (hi:i=en eq m k) {a:AV} (s:yu env z=some a) (b:a.cy=vv v)
  (F:L.set j (.q7 ((ut eq m k v).map (zZ kv vv)) 0)=B):zj P o env (h.ext L M)=.ok xo (h.ext B M):=by
 obtain ⟨q,l⟩:=zD C;obtain ⟨A,p⟩:=zD w;obtain ⟨r,D⟩:=zD s;subst F hi;have h0:(0:Int)<=(en eq m k:Int):=by omega
 have key:∃e,(bE eq d m k)[en eq m k]?=some e/\(bE eq d m k).set (en eq m k) (e.1,v)=ut eq m k v:=by
  unfold bE;cases hm:vP eq m k with
  | true =>
   have g:=zlv hm;exact ⟨m[en eq m k],by simp [g],by simpa using ziF hm (s5 g)⟩
  | false =>
   refine ⟨(k,d),by simp [zeO hm],?_⟩;simp only [tx,lg,zeO hm];rw [<- ziE hm];simp
 obtain ⟨e,f,c⟩:=key;simp only [zj,u,q,l,A,p,r,D,b,lI,nv,rn,zW,E,h0,nr,ib,f,lM,oh,wU,<- c,List.map_set];rfl
theorem zfg {v:W} (f:o.op=.mapUpdate t x y z) (q:P.underlying t=some (.map kt et)) (b:KQ P kt kv eq) (w:yu env x=some (.map (h.zh.length+j))) (g:L[j]?=some (.q7 (m.map (zZ kv vv)) 0)) (i:yu env y=some (kv k)) {a:AV} (A:yu env z=some a) (c:a.cy=vv v)
  (r:L.set j (.q7 ((wx eq m k v).map (zZ kv vv)) 0)=B):zj P o env (h.ext L M)=.ok xo (h.ext B M):=by
 obtain ⟨p,l⟩:=zD w;obtain ⟨s,n⟩:=zD i;obtain ⟨u,e⟩:=zD A;subst r;simp only [zj,f,p,l,s,n,u,e,c,q,lI,nv,za7,b.1,b.2,zW,g,o8 b v k m 0];cases hm:vP eq m k with
 | true=>simp [oh,wU,<- zf8 hm,List.map_set,zZ]
 | false=>simp [oh,wU,<- zf7 hm,zZ]
theorem zbB {Q:List AV->AH->Prop} {rest:List Oper} {a:List AV} {c:Call} (i:aG ops o env=some true) (p:o.op=.call c) (u:c.callee=.builtin .len) (s:c.args=#[x]) (b:c.argTypes=#[t]) (g:P.underlying t=some (.map kt et))
  (q:yu env x=some (.map (h.zh.length+j))) (r:L[j]?=some (.q7 (m.map (zZ kv vv)) 0)) (hd:tq o.dst env (.int .i64 m.length)=some a) (l:zu P ops Q rest a (h.ext L M)):zu P ops Q (o::rest) env (h.ext L M):=by
 obtain ⟨n,f⟩:=zD q;have key:zj P o env (h.ext L M)=.any λv e=>e=h.ext L M/\v=.int .i64 m.length:=by
  simp [zj,p,u,s,b,n,f,qW,g,zW,r]
 refine vT ?_;simp only [i,cY,key,cX]
 rintro v e ⟨rfl,rfl⟩
 rw [yT hd];exact l

theorem zga {eq:K->K->Bool} {d:W} {k:K} (a:eq k k=true):∀{m:List (K×W)},zG eq d (m++[(k,d)]) k=zG eq d m k
 | []=>by simp [zG,a]
 | e::r=>by simp [zG,zga a]
theorem zjZ {eq:K->K->Bool} {d:W} {k:K} (a:eq k k=true) {m:List (K×W)}:zG eq d (bE eq d m k) k=zG eq d m k:=by
 unfold bE;split
 ·rfl
 ·exact zga a
def ztc (h:AH) (j:Nat) (m1 m2:List (AV×AV)) (x:AH):Prop:=∃B T,x=h.ext B T/\(B[j]?=some (.q7 m1 0) \/ B[j]?=some (.q7 m2 0))
theorem zcH (e:o.op=.lookup t x y false) (g:P.underlying t=some (.map kt et)) (a:KQ P kt kv eq) (l:qV P et=some (vv d)) (i:yu env x=some (.map (h.zh.length+j))) (f:yu env y=some (kv k)) :
  ∀c,ztc h j (m.map (zZ kv vv)) ((bE eq d m k).map (zZ kv vv)) c->zj P o env c=.ok (vv (zG eq d m k)) c:=by
 rintro _ ⟨B,T,rfl,b | b⟩
 ·exact zfh e g a l i b f
 ·rw [<- zjZ (m:=m) (d:=d) (a.2 k)];exact zfh e g a l i b f
theorem fY.skip {b:Nat} {Ns:List Nat} {F:Nat->AH->Prop} {h:AH} (c:Ns.all (λn=>b.testBit n)=true):fY b Ns F h:=λn e a=>by
 simp_all
end
end Go.Vv
namespace Go.Vv
open Go Go.RowKit
variable {seen M:List Nat} {K W:Type} {kv:K->AV} {vv:W->AV} {ops:Array Oper} {o:Oper} {rest:List Oper} {env':List AV} {L:List q6} {x:Operand} {id:Nat} {m:List (K×W)}
section
variable {α ρ σ:Type}
open Classical in
noncomputable def c4 (m:List α) (f:List α->Option ρ):Option ρ:=if h:∃r,∀p:List α,p.Perm m->f p=some r then some (Classical.choose h) else none
theorem zcZ {m:List α} {f:List α->Option ρ} {r:ρ} (h:c4 m f=some r):∀p:List α,p.Perm m->f p=some r:=by
 unfold c4 at h;split at h
 ·grind
 ·cases h
theorem za6 {m:List α} {f:List α->Option ρ} {r:ρ} (h:∀p:List α,p.Perm m->f p=some r):c4 m f=some r:=by
 have a:∃r,∀p:List α,p.Perm m->f p=some r:=⟨r,h⟩
 unfold c4;rw [gI a];have:=kW a m (gi _);rw [h m (gi _)] at this
 grind
open Classical in
noncomputable def nrm (m:List α):List α:=@Classical.epsilon _ ⟨[]⟩ λt:List α=>t.Perm m
theorem ziB (m:List α):(nrm m).Perm m:=Classical.epsilon_spec (p:=λt:List α=>t.Perm m) ⟨m,.refl _⟩
theorem zr8 {m a:List α} (h:m.Perm a):nrm m=nrm a:=by
 unfold nrm;congr 1;funext t;exact propext ⟨λk=>k.trans h,λk=>k.trans h.symm⟩
def t6 (m:List α) (seen:List Nat):List α:=(m.zipIdx.filter λp=>!seen.contains p.2).map (·.1)
theorem zgk (m:List α):t6 m []=m:=by
 unfold t6;have:(m.zipIdx.filter λp=>!([]:List Nat).contains p.2)=m.zipIdx:=kw.2 λp _=>by simp
 rw [this,List.zipIdx_map_fst]
theorem zdD {seen:List Nat}:∀(m:List α) (n i:Nat) {x:α},m[i]?=some x->n+i ∉ seen ->
  (((m.zipIdx n).filter λp=>!seen.contains p.2).map (·.1)).Perm (x::((m.zipIdx n).filter λp=>!(seen++[n+i]).contains p.2).map (·.1))
 | [],_,_,_,h,_=>by simp at h
 | a::t,n,0,x,h,hs=>by
  simp only [gA,p3] at h;subst h;have d:((t.zipIdx (n+1)).filter λp=>!seen.contains p.2)=(t.zipIdx (n+1)).filter λp=>!(seen++[n]).contains p.2:=by
   refine ic λp c=>?_
   grind
  simp_all
 | a::t,n,i+1,x,h,hs=>by
  simp only [iK] at h;have b:=zdD t (n+1) i h (by rwa [show n+1+i=n+(i+1) by omega]);rw [show n+1+i=n+(i+1) by omega] at b;simp only [iW];by_cases hn:n ∈ seen
  ·simp_all
  ·rw [gB (by simp_all),gB (by simp [hn])];simp only [ld];exact (List.Perm.cons a b).trans (List.Perm.swap x a _)
theorem pm {m:List α} {i:Nat} {x:α} (hi:m[i]?=some x) (hs:i ∉ seen):(t6 m seen).Perm (x::t6 m (seen++[i])):=by
 have:=zdD (seen:=seen) m 0 i hi (by simp_all);simpa [t6] using this
def zvY (f:Nat->α->σ->Option (Out ρ σ)) (m:List α) (seen:List Nat) (rest:σ->Option ρ) (o0:ρ):Out ρ σ->Prop
 | .ret r=>some r=some o0
 | .brk s=>rest s=some o0
 | .gV s=>∀p:List α,p.Perm (t6 m seen)->lp (zf f p seen.length s) rest=some o0
def zec (f:Nat->α->σ->Option (Out ρ σ)) (m:List α) (seen:List Nat) (rest:σ->Option ρ) (o0:ρ) (s:σ):Prop:=∀p:List α,p.Perm (t6 m seen)->lp (zf f p seen.length s) rest=some o0
theorem zhr {f:Nat->α->σ->Option (Out ρ σ)} {m:List α} {rest:σ->Option ρ} {c:ρ} {s:σ} (h:zec f m seen rest c s) {i:Nat} {x:α} (hi:m[i]?=some x) (hs:i ∉ seen) :
  ∃a,f seen.length x s=some a/\zvY f m (seen++[i]) rest c a:=by
 have key:∀p:List α,p.Perm (t6 m (seen++[i]))->lp (zf f (x::p) seen.length s) rest=some c:=λp b=>h _ ((List.Perm.cons x b).trans (pm hi hs).symm);have k0:=key _ (gi _);simp only [zf] at k0;cases hf:f seen.length x s with
 | none=>rw [hf] at k0;cases k0
 | some a =>
  refine ⟨a,rfl,?_⟩;cases a with
  | ret r=>rw [hf] at k0;exact k0
  | brk s'=>rw [hf] at k0;exact k0
  | gV s' =>
   intro p b;have:=key p b;simp only [zf,hf] at this
   simp_all
theorem zj2 {f:Nat->α->σ->Option (Out ρ σ)} {m:List α} {rest:σ->Option ρ} {a:ρ} {s:σ} (h:zec f m seen rest a s) (b:t6 m seen=[]):rest s=some a:=by
 have:=h [] (by rw [b]);exact this
end
section
variable {P:Program} {env:List AV} {h:AH} {Q:Exit->List AV->AH->Prop}
theorem zeA {α ρ σ:Type} {body:Code} {f:Nat->α->σ->Option (Out ρ σ)} {m:List α} {c:σ} {rest:σ->Option ρ} {d:ρ} (U:σ->List (Nat×AV)) (H:List Nat->σ->AH) (a:c4 m (λp=>lp (zf f p 0 c) rest)=some d) {E:σ->List AV}
  (r:∀s,cV env (U s)=E s) (h0:wk h env h (E c) (H [] c))
  (hs:∀seen s,zec f m seen rest d s->wO P body (tG (λenv' e=>∃i b,(i < m.length/\i ∉ seen)/\zec f m (seen++[i]) rest d b/\wk (H seen s) env' e (E b) (H (seen++[i]) b)) Q) (E s) (H seen s)) :
  wO P (.loop body) Q env h:=by
 refine zfX (σ:=List Nat×σ) (λp=>E p.2) (λp=>H p.1 p.2) (λp=>zec f m p.1 rest d p.2) (λp=>(t6 m p.1).length) ([],c) h0 (λp n=>zcZ a p (by rwa [zgk] at n)) ?_
 rintro ⟨seen,s⟩ q
 refine vr ?_ _ _ _ (hs seen s q);intro x env' e g;cases x with
 | normal =>
  obtain ⟨i,b,⟨l,j⟩,t,k⟩:=g;refine ⟨(seen++[i],b),t,?_,k⟩;have:=(pm (s5 l) j).length_eq
  simp_all
 | _=>exact g
theorem nx {Q:List AV->AH->Prop} {env:List AV} {h:AH} {L':List q6} {t g k:TypeId} {n:Nat} (e:aG ops o env=some true) (l:o.op=.range t x) (c:P.underlying t=some (.map g k))
  (q:yu env x=some (.map id)) (d:(h.ext L M).gZ id=some (.q7 (m.map (zZ kv vv)) 0)) (r:L.length=n) (hd:tq o.dst env (.ptr (h.zh.length+n) 0)=some env') (j:L++[.fB id m.length []]=L') (f:zu P ops Q rest env' (h.ext L' M)):zu P ops Q (o::rest) env (h.ext L M):=by
 obtain ⟨i,b⟩:=zD q;subst r j;have key:xE P o env (h.ext L M)=some [(.ptr (h.zh.length+L.length) 0,h.ext (L++[.fB id m.length []]) M)]:=by
  simp only [xE,l,i,b,c,d,nv];simp [AH.new,AH.ext]
 refine tS e ⟨_,key,λp a=>?_⟩;simp only [lh] at a;subst a;show zu P ops Q rest (ft env o.dst (.ptr (h.zh.length+L.length) 0)) _;rw [yT hd];exact f
theorem zaL {ρ σ:Type} {Q:List AV->AH->Prop} {env w:List AV} {h:AH} {j:Nat}
  {f:Nat->K×W->σ->Option (Out ρ σ)} {s:σ} {b:σ->Option ρ} {u:ρ} (C:aG ops o env=some true) (G:o.op=.next x false)
  (J:yu env x=some (.ptr (h.zh.length+j) 0)) (O:L[j]?=some (.fB id m.length seen)) (B:(h.ext L M).gZ id=some (.q7 (m.map (zZ kv vv)) 0)) (l:tq o.dst env (.fk [.bool false])=some w)
  (a:zec f m seen b u s)
  (t:∀i y g,m[i]?=some y->(i < m.length/\i ∉ seen)->f seen.length y s=some g->zvY f m (seen++[i]) b u g->∃v,tq o.dst env (.fk [.bool true,kv y.1,vv y.2])=some v/\zu P ops Q rest v (h.ext (L.set j (.fB id m.length (seen++[i]))) M))
  (n:b s=some u->zu P ops Q rest w (h.ext L M)):zu P ops Q (o::rest) env (h.ext L M):=by
 obtain ⟨E,A⟩:=zD J;have key:xE P o env (h.ext L M)=some (s7 (h.ext L M) (h.zh.length+j) id m.length seen (m.map (zZ kv vv))):=by
  simp [xE,G,E,A,zW,O,B]
 refine tS C ⟨_,key,λp c=>?_⟩;unfold s7 at c;have e:(m.map (zZ kv vv)).zipIdx=m.zipIdx.map λq=>(zZ kv vv q.1,q.2):=by
  rw [List.zipIdx_map];rfl
 rw [e,List.filter_map] at c;split at c
 ·rename_i k;simp only [lh] at c;subst c;have H:t6 m seen=[]:=by
   unfold t6;rw [iu] at k ⊢;exact k
  show zu P ops Q rest (ft env o.dst (.fk [.bool false])) (h.ext L M);rw [yT l];exact n (zj2 a H)
 ·rename_i q r k;rw [<- k,ji,l4] at c;obtain ⟨⟨y,i⟩,z,rfl⟩:=c;rw [kL] at z;have hi:=jA.1 z.1;have d:i ∉ seen:=by simp_all
  obtain ⟨g,I,D⟩:=zhr a hi d;obtain ⟨v,F,N⟩:=t i y g hi ⟨(tm.1 hi).1,d⟩ I D;show zu P ops Q rest (ft env o.dst (.fk [.bool true,kv y.1,vv y.2])) ((h.ext L M).put (h.zh.length+j) (.fB id m.length (seen++[i])));rw [yT F,wU];exact N
theorem ny {Q:List AV->AH->Prop} {env:List AV} {h:AH} {j i:Nat} {y:K×W}
  (d:aG ops o env=some true) (g:o.op=.entry x) (l:yu env x=some (.ptr (h.zh.length+j) 0)) (n:L[j]?=some (.fB id m.length (seen++[i]))) (c:(h.ext L M).gZ id=some (.q7 (m.map (zZ kv vv)) 0)) (k:m[i]?=some y)
  (hd:tq o.dst env (.fk [kv y.1,vv y.2])=some env') (e:zu P ops Q rest env' (h.ext L M)):zu P ops Q (o::rest) env (h.ext L M):=by
 obtain ⟨f,b⟩:=zD l;have key:xE P o env (h.ext L M)=some [(.fk [kv y.1,vv y.2],h.ext L M)]:=by
  simp [xE,g,f,b,zW,n,c,k,zZ]
 refine tS d ⟨_,key,λp a=>?_⟩;simp only [lh] at a;subst a;show zu P ops Q rest (ft env o.dst (.fk [kv y.1,vv y.2])) _;rw [yT hd];exact e
theorem ztF {Q:List AV->AH->Prop} {env:List AV} {h a:AH} {v:AV} (e:aG ops o env=some true) (d:xE P o env h=some [(v,a)]) (hd:tq o.dst env v=some env') (c:zu P ops Q rest env' a):zu P ops Q (o::rest) env h:=by
 refine tS e ⟨_,d,λp b=>?_⟩;simp only [lh] at b;subst b;show zu P ops Q rest (ft env o.dst v) a;rw [yT hd];exact c
end
end Go.Vv
namespace Go.Vv
open Go Go.RowKit Go.ChangeShapes Go.WideShapes Go.ChangeAt
variable {t:TypeId} {α:Type} {n total off:Nat} {v:Value}

def g0 (W:World):Gh:={ Φ:=λb j=>if b < W.heap.size then W.cell? ⟨b,j,none⟩ else none,σ:=[],τ:=[],δ:=[] }
def h0:AH:={ zh:=[],zs:=[] }
theorem zvB (W:World):Rel W.heap.size W (g0 W) h0 W:=by
 refine ⟨Below.refl _ _,oA _,λb j v h=>?_,rfl,λi c k a _=>by simp [g0] at a,rfl,λi t d=>by simp [g0] at d,λi j c hi=>by simp [g0] at hi,λi j t t' b x y hi=>by simp [g0] at hi,λi c j t b x hi=>by simp [g0] at hi,λc a=>by simp [g0] at a,λi k hi=>by simp [g0] at hi,λi j t k k' es es' hi=>by simp [h0] at hi⟩;simp only [g0] at h
 simp_all

section
variable {H:Type} {enc:TypeId×Value->H} {P:Program} {W:World}
mutual
def qg:DataW H->Nat
 | .lit (.string bytes)=>bytes.length+1
 | .lit _=>1
 | .nil=>1
 | .ptr d=>qg d+1
 | .slice elems spare=>qf elems+qf spare+1
 | .agg parts=>qf parts+1
 | .iface _ d=>qg d+1
 | .map entries=>zbT entries+1
 | .held _=>1
def qf:List (DataW H)->Nat
 | []=>0
 | d::r=>qg d+qf r
def zbT:List (Lit×DataW H)->Nat
 | []=>0
 | x::r=>zbT r+zkA x
def zkA:Lit×DataW H->Nat
 | (.string bytes,d)=>bytes.length+qg d+1
 | (_,d)=>qg d+1
end
theorem zic {α:Type} {bk:α->Nat}:∀{l:List α} {ds:List (DataW H)},l.length=ds.length->(∀(i:Nat) (a:α) (d:DataW H),l[i]?=some a->ds[i]?=some d->bk a<=qg d)->(l.map bk).sum<=qf ds
 | [],_,_,_=>by simp
 | a::r,[],hl,_=>by simp at hl
 | a::r,d::ds,hl,h=>by
  have e:=h 0 a d rfl rfl;have c:=zic (bk:=bk) (l:=r) (ds:=ds) (by simp_all) (λi x y f b=>h (i+1) x y (by simp_all) (by simp_all));simp only [ld,jO,qf];omega
def e8 (enc:TypeId×Value->H) (P:Program) (W:World) (n:Nat) (t:TypeId) {α:Type} (row:α->List AV) (wf:α->Prop) (bk:α->Nat):Prop :=
 ∀cs x,DataW.trod enc P W 0 (λ_=>true) true n t cs=some x->∃y,VL (g0 W) (row y) cs/\wf y/\bk y<=qg x.1
theorem e8.zero {row:α->List AV} {wf:α->Prop} {bk:α->Nat}:e8 enc P W 0 t row wf bk:=λcs x h=>by simp [DataW.trod] at h
theorem e8.map {β:Type} {row:α->List AV} {wf:α->Prop} {b:β->List AV} {d:β->Prop} {bk:α->Nat} {c:β->Nat} (f:α->β) (h:e8 enc P W n t row wf bk) (l:∀a,b (f a)=row a) (k:∀a,wf a->d (f a)) (i:∀a,c (f a)=bk a):e8 enc P W n t b d c:=λcs x e=>by
 obtain ⟨y,j,g,m⟩:=h cs x e
 grind
theorem ru {k:IntKind} (b:P.underlying t=some (.int k)):e8 enc P W n t (zdK k) (dy k) (λ_=>1):=by
 cases n with
 | zero=>exact e8.zero
 | succ n =>
  intro cs x h;rw [DataW.trod_step] at h;unfold DataW.trodStep at h;rw [b] at h;split at h <;> simp_all;obtain ⟨⟨rfl,a⟩,rfl⟩:=h;exact ⟨_,VL.cons (by rfl) (by simp [VL]),by simpa [Lit.wf,dy] using a,by simp [qg]⟩
theorem zfV (a:P.underlying t=some .string):e8 enc P W n t yp (λs=>s.length<=maxLen) (λs=>s.length+1):=by
 cases n with
 | zero=>exact e8.zero
 | succ n =>
  intro cs x h;rw [DataW.trod_step] at h;unfold DataW.trodStep at h;rw [a] at h;split at h <;> simp_all;rename_i s;have hs:s.data.toList.length=s.size:=rfl;obtain ⟨h,rfl⟩:=h;refine ⟨s.data.toList,VL.cons ?_ (by simp [VL]),by omega,by simp [qg]⟩;simp only [V]
  simp_all
theorem ziM {α β:Type} {f:α->Option β}:∀{l:List α} {xs:List β},l.mapM f=some xs->∀a ∈ l,∃x,f a=some x
 | [],_,_,a,c=>by cases c
 | b::r,xs,h,a,c=>by
  simp only [jY,jU,ku,iB,p3] at h;obtain ⟨v,e,vs,d,rfl⟩:=h;rcases lG.1 c with rfl | c
  ·simp_all
  ·exact ziM d a c
theorem zeP {α β:Type} {f:α->Option β}:∀{l:List α} {xs:List β},l.mapM f=some xs->xs.length=l.length
 | [],_,h=>by simp_all
 | b::r,xs,h=>by
  simp only [jY,jU,ku,iB,p3] at h;obtain ⟨v,c,vs,a,rfl⟩:=h;simp [zeP a]
theorem zhm {α β:Type} {f:α->Option β}:∀{l:List α} {xs:List β},l.mapM f=some xs->∀(i:Nat) (a:α),l[i]?=some a->∃x,f a=some x/\xs[i]?=some x
 | [],_,_,i,a,ha=>by simp at ha
 | b::r,xs,h,i,a,ha=>by
  simp only [jY,jU,ku,iB,p3] at h;obtain ⟨v,d,vs,c,rfl⟩:=h;cases i with
  | zero=>simp at ha;subst ha;exact ⟨v,d,rfl⟩
  | succ i=>simpa using zhm c i a (by simp_all)
theorem zf3 {a5:List AV} (h:a5.all AV.pure=true):a5.all AV.one=true:=by
 rw [nK] at h ⊢;exact λa b=>AV.dB (h a b)
theorem sW {e:TypeId} {k:Nat} {row:α->List AV} {wf:α->Prop} {bk:α->Nat} (U:P.underlying t=some (.slice e)) (Z:P.cellsOf e=k) (hk:0 < k) (S:∀y,(row y).length=k) (I:∀y,(row y).all AV.pure=true) (T:∀m,m < n->e8 enc P W m e row wf bk) :
  e8 enc P W n t (λL=>[AV.sl k (L.map row)]) (λL:List α=>L.length<=maxLen/\∀y ∈ L,wf y) (λL=>(L.map bk).sum+1):=by
 cases n with
 | zero=>exact e8.zero
 | succ n =>
  intro cs x h;rw [DataW.trod_step] at h;unfold DataW.trodStep at h;rw [U] at h;split at h
  all_goals first | (exfalso;simp_all;done) | skip
  ·-- nil
   cases h;exact ⟨[],VL.cons (by simp only [V];exact ⟨none,0,rfl,by simp,by simp,.inl rfl⟩) (by simp [VL]),⟨by simp,λy s=>by cases s⟩,by simp [qg]⟩
  ·rename_i _ _ O a len cap A;injection A with A;injection A with A;subst A;simp only [Z] at h;split at h
   ·rename_i N;obtain ⟨_,X,r⟩:=N;rcases hel:(List.range len).mapM λi=>(W.cells? 0 (a.add (i * k)) k).bind (DataW.trod enc P W 0 (λ_=>true) true n e) with _ | b
    ·simp_all
    ·-- the elements,one by one
     have D:b.length=len:=by rw [zeP hel];simp
     have E:qf (b.map (·.1))+1<=qg x.1:=by
      rw [hel] at h;simp only [tb,j4] at h;obtain ⟨rest,_,rfl⟩:=h;simp only [qg];omega
     have key:∀i,i < len->∃y us,W.cells? 0 (a.add (i * k)) k=some us/\VL (g0 W) (row y) us/\wf y/\∀z,b[i]?=some z->bk y<=qg z.1:=by
      intro i hi;obtain ⟨z,G,R⟩:=zhm hel i i (hJ hi);rcases hcs:W.cells? 0 (a.add (i * k)) k with _ | us
      ·simp_all
      ·rw [hcs] at G;obtain ⟨y,l,F,h3⟩:=T n (jv n) us z G
       grind
     rcases iD len with h0 | q
     ·subst h0;exact ⟨[],VL.cons (by simp only [V];exact ⟨some a,cap,rfl,by simp,r,.inl rfl⟩) (by simp [VL]),⟨by simp,λy s=>by cases s⟩,by simp;omega⟩
     ·have B:Nonempty α:=⟨(key 0 q).choose⟩
      have w:∀i,∃y,i < len->∃us,W.cells? 0 (a.add (i * k)) k=some us/\VL (g0 W) (row y) us/\wf y/\∀z,b[i]?=some z->bk y<=qg z.1:=by
       intro i;by_cases hi:i < len
       ·simp_all
       ·exact ⟨Classical.choice B,λh=>absurd h hi⟩
      obtain ⟨f,J⟩:=Classical.axiomOfChoice w
      -- no place within a cell
      have c:a.spot=none:=by
       obtain ⟨us,l,_⟩:=J 0 q;unfold World.cells? at l;rw [lc (lX _)] at l;obtain ⟨v,p⟩:=ziM l 0 (by simp_all);simp only [Nat.zero_mul] at p;have Y:(a.add 0).add 0=a:=by rfl
       rw [Y] at p;unfold World.cell? at p;split at p
       ·simp_all
       ·cases p
      have M:a=⟨a.block,a.off,none⟩:=by cases a;simp at c;simp [c]
      refine ⟨(List.range len).map f,VL.cons ?_ (by simp [VL]),⟨by simp;omega,λy s=>?_⟩,?_⟩
      ·simp only [V];refine ⟨some a,cap,by simp,by grind,r,.inr ⟨a.block,a.off,congrArg some M,VE.mk λi O o=>?_⟩⟩;simp only [ji,ib] at o;have hi:i < len:=by
        grind
       rw [hJ hi] at o;simp only [lM,Function.comp,p3] at o;subst o;obtain ⟨us,l,F,_,_⟩:=J i hi;refine ⟨S _,VC.c5 (VA.mk F (zf3 (I _))) (I _) λj u K=>?_⟩;unfold World.cells? at l;rw [lc (lX _)] at l;have C:j < k:=by
        have:=(tm.1 K).1;rw [zeP l] at this;simpa using this
       obtain ⟨v,p,g⟩:=zhm l j j (hJ C);rw [K] at g;injection g with g;subst g;have Q:(a.add (i * k)).add j=⟨a.block,a.off+i * k+j,none⟩:=by
        rw [M,wX,wX]
       rw [Q] at p;simp only [g0];rw [lc (World.block_lt_of_cell? W _ p)];exact p
      ·grind
      ·refine lu (Nat.add_le_add_right (zic (bk:=bk) (ds:=b.map (·.1)) (by simp [D]) λi y d s hd=>?_) 1) E
       grind
   ·cases h

def RdF (enc:TypeId×Value->H) (P:Program) (W:World) (n:Nat) (total off:Nat) (fs:List Field) {α:Type} (row:α->List AV) (wf:α->Prop) (bk:α->Nat):Prop :=
 ∀(cs:List Value) xs,cs.length=total->(fs.mapM λf=>DataW.trod enc P W 0 (λ_=>true) true n f.type ((cs.drop f.offset).take (P.cellsOf f.type)))=some xs->∃y,VL (g0 W) (row y) (cs.drop off)/\wf y/\bk y<=qf (xs.map (·.1))
theorem mu (h:total<=off):RdF enc P W n total off [] (λ_:Unit=>[]) (λ_=>True) (λ_=>0):=λcs xs a _=>⟨(),by rw [lZ (by omega)];simp [VL],trivial,lX _⟩
theorem yB {k a:Nat} {f:Field} {fs:List Field} {β:Type} {row:α->List AV} {wf:α->Prop} {b:β->List AV} {d:β->Prop} {bk:α->Nat} {c:β->Nat} (q:f.offset=off) (B:P.cellsOf f.type=k) (g:off+k=a) (h:e8 enc P W n f.type row wf bk) (r:RdF enc P W n total a fs b d c) :
  RdF enc P W n total off (f::fs) (λp:α×β=>row p.1++b p.2) (λp=>wf p.1/\d p.2) (λp=>bk p.1+c p.2):=by
 intro cs xs s l;simp only [jY,jU,ku,iB,p3] at l;obtain ⟨v,x,vs,i,rfl⟩:=l;obtain ⟨y,j,m,A⟩:=h _ _ x;obtain ⟨z,u,o,w⟩:=r _ _ s i;refine ⟨(y,z),?_,⟨m,o⟩,by simp only [ld,qf];omega⟩;have e:cs.drop off=(cs.drop off).take k++cs.drop a:=by
  rw [<- g,<- kp,kX]
 rw [e];rw [q,B] at j;exact VL.append j u
theorem uV {fs:Array Field} {l:List Field} {row:α->List AV} {wf:α->Prop} {bk:α->Nat} (i:P.underlying t=some (.struct fs)) (d:fs.toList=l) (j:P.cellsOf t=total) (h:∀m,m < n->RdF enc P W m total 0 l row wf bk):e8 enc P W n t row wf (λy=>bk y+1):=by
 cases n with
 | zero=>exact e8.zero
 | succ n =>
  intro cs x a;rw [DataW.trod_step] at a;unfold DataW.trodStep at a;rw [i] at a;split at a
  all_goals first | (exfalso;simp_all;done) | skip
  rename_i cs _ _ g c;injection c with c;injection c with c;subst c;split at a
  ·rename_i b;rw [d] at a;rcases hm:(l.mapM λf=>DataW.trod enc P W 0 (λ_=>true) true n f.type ((cs.drop f.offset).take (P.cellsOf f.type))) with _ | xs
   ·simp_all
   ·obtain ⟨y,k,e,o⟩:=h n (jv n) cs xs (by rw [b,j]) hm;rw [hm] at a;simp only [lM,p3] at a;subst a;exact ⟨y,by simp_all,e,by simp only [qg];omega⟩
  ·cases a
theorem zoz {row:α->List AV} {wf:α->Prop} {bk:α->Nat} {d:DataW H} {p:List MemPlace} (a:∀n,e8 enc P W n t row wf bk) (h:DataW.Trod enc P W 0 (λ_=>true) true t v d p):∃y,VL (g0 W) (row y) v.cells.toList/\wf y/\bk y<=qg d:=by
 obtain ⟨n,b⟩:=h;exact a n _ _ b
theorem V.zxR {a:AV} {g:Gh} (b:∀cs,v ≠ .agg cs) (h:VL g [a] v.cells.toList):V g a v:=by
 simp only [VL] at h;obtain ⟨u,s,e,c,rfl⟩:=h;have:v.cells=#[v]:=by cases v <;> first | rfl | exact absurd rfl (b _)
 simp_all
theorem V.zxS {cs:List AV} {g:Gh} (a:∃us,v=.agg us) (b:cs.all AV.one=true) (h:VL g cs v.cells.toList):V g (.agg cs) v:=by
 obtain ⟨us,rfl⟩:=a;simp only [V];exact ⟨us,rfl,VA.mk h b⟩
theorem zeH {f:Func} {s:ChangeSpec} {apart l c i:Bool} {W':World} {args:Array Value} {ds gs:List (DataW H)} {a q pv:List MemPlace}
  (w:DataW.Whole enc P f.params.toList s.vars apart W args.toList ds gs a) (y:Below W.heap.size W W')
  (h:∀(b:Nat) (k:Nat->Bool) (hd:Bool),DataW.TrodAll enc P W' b k hd f.resultTypes.toList (v.resultList f.resultTypes.size) (s.fn H (ds++gs)).results [])
  (d:∀k:Nat->Bool,(∀p ∈ a,k p.block=true)->DataW.TrodAll enc P W' 0 k true f.params.toList args.toList (s.fn H (ds++gs)).args q)
  (e:∀k:Nat->Bool,(∀p ∈ a,k p.block=true)->DataW.TrodVars enc P W' k s.vars (s.fn H (ds++gs)).vars pv)
  (A:a=q++pv)
  (x:∀(j:Nat) (t:TypeId) (r:Value),f.resultTypes[j]?=some t->(v.resultList f.resultTypes.size)[j]?=some r->Value.okWide P W' .any 0 t r) :
  s.post enc P f apart l c i W args v W':=by
 have u:∀p ∈ a,p.block < W.heap.size:=λp o=>by simpa using w.lt p o
 have g:∀p ∈ a,(λb=>decide (b < W.heap.size)) p.block=true:=λp o=>by simp_all
 refine ⟨ds,gs,a,[],q,pv,w,h _ _ _,d _ g,e _ g,World.keptBut_mono (λp o=>⟨o,?_⟩) (y.frame (· ∈ a)),λ_=>?_⟩
 ·simp_all
 ·obtain ⟨_,_,_,_,_,z,B⟩:=w;refine ⟨x,_,_,([]++q)++pv,⟨[]++q,pv,trodAll_append (d _ (λ_ _=>rfl)) (h _ _ _),e _ (λ_ _=>rfl),rfl,?_,?_⟩,?_⟩
  ·intro b off o;have m:MemPlace.cell b off ∈ a:=by simp_all
   rw [y.frozen (p:=⟨b,off,none⟩) (u _ m)];exact z b off m
  ·simp_all
  ·simp_all
end
end Go.Vv
namespace Go.Vv
open Go Go.ChangeShapes Go.WideShapes
theorem zaa {H:Type} {enc:TypeId×Value->H} {a:Assume} {C:Checked} {os:Os} {f:FuncId} {fn:Func} {s:OpenSpec} {k:(H:Type)->List (DataW H)->Bool} (G:s.cond=some k) {F:Stop.Interp} {g:List PathCond} {apart m d l:Bool}
  (own:ownKnob C.prog.godebug=none) (n:os.Started) (p:C.prog.inits.idxOf? f=none) (D:C.prog.funcs[f]?=some fn)
  (o:∃(w:World) (b:Tape) (i:Input),w.os=os/\(w.forCall b i).Shaped C.prog/\i.vars=[]/\Input.okWide C.prog (w.forCall b i) .any w.heap.size f i /\
   s.pre6 enc C.prog fn g apart (w.forCall b i).memory i.args/\a.holds C.prog (lone (Frame.enter C.prog f i.args .normal) [] (w.forCall b i)))
  (h:∀(W:World) (base:Nat) (args:Array Value) (ds gs:List (DataW H)) (c:List MemPlace),
   (∀(j:Nat) t v,fn.params[j]?=some t->args[j]?=some v->Value.okWide C.prog W .any base t v) ->
   DataW.Whole enc C.prog fn.params.toList s.vars apart W args.toList ds gs c->k H (ds++gs)=true->W.ShapedOpen C.prog ->
   Calls C.prog f args W λe W'=>∃v,e=.returned v/\(s.at F).post enc C.prog fn apart m d l W args v W') :
  ReturnsInHanded a C os f .any (s.pre6 enc C.prog fn g apart) ((s.at F).post enc C.prog fn apart m d l):=by
 refine returnsInHanded_of_calls own n p o ?_;intro w b i _ B _ A u x;obtain ⟨_,_,_,E,r,_,_,_,_,q⟩:=A;have e:E=fn:=kK (r.symm.trans D);subst e;obtain ⟨ds,gs,c,J,L,z⟩:=(OpenSpec.pre_some G g apart _ _).1 u.1;have y:=DataW.Whole.of_heap (w':=w.forCall b i) (by rfl) J;refine (h (w.forCall b i) w.heap.size i.args ds gs c q y z B).mono λe W' ⟨v,K,I⟩=>?_;subst K;exact ChangeSpec.post_blind I
end Go.Vv
namespace Go.Vv
open Go
section
variable {α ρ σ:Type}
@[simp] theorem zuX {rest:σ->Option ρ}:lp (none:Option (ρ ⊕ σ)) rest=none:=rfl
@[simp] theorem zvU {rest:σ->Option ρ} {r:ρ}:lp (some (.inl r)) rest=some r:=rfl
@[simp] theorem yL {rest:σ->Option ρ} {s:σ}:lp (some (.inr s)) rest=rest s:=rfl
theorem ze {p:Prop} [Decidable p] {o:Option ρ} (h:p):zQ p o=o:=lc h
theorem zcp {f:Nat->α->Unit->Option (Out ρ Unit)} (p:α->Bool) (r:ρ):∀(L:List α) (i:Nat),(∀i x,x ∈ L->f i x ()=if p x=true then some (.gV ()) else some (.ret r))->zf f L i ()=if L.all p=true then some (.inr ()) else some (.inl r)
 | [],_,_=>rfl
 | x::t,i,h=>by
  have b:=zcp p r t (i+1) (λi y a=>h i y (kQ _ a));simp only [zf,h i x (ja ..)]
  grind
theorem nA {f:Nat->α->σ->Option (Out ρ σ)} (g:σ->α->σ):∀(L:List α) (i:Nat) (s:σ),(∀i x s,x ∈ L->f i x s=some (.gV (g s x)))->zf f L i s=some (.inr (L.foldl g s))
 | [],_,_,_=>rfl
 | x::t,i,s,h=>by
  simp only [zf,h i x s (ja ..),jh];exact nA g t (i+1) (g s x) (λi y s a=>h i y s (kQ _ a))
theorem mK {f:Nat->α->Unit->Option (Out ρ Unit)} (p:α->Bool) (r:Nat->α->ρ):∀(L:List α) (i:Nat),(∀i x,x ∈ L->f i x ()=if p x=true then some (.ret (r i x)) else some (.gV ())) ->
  zf f L i ()=match L.findIdx? p with
   | none=>some (.inr ())
   | some j=>match L[j]? with | some x=>some (.inl (r (i+j) x)) | none=>none
 | [],_,_=>rfl
 | x::t,i,h=>by
  have b:=mK p r t (i+1) (λi y a=>h i y (kQ _ a));simp only [zf,h i x (ja ..),List.findIdx?_cons]
  grind
def tO (q:α->Bool) (p:List α):Int:=match p.findIdx? q with | some j=>(j:Int) | none=>-1
theorem sy {f:α->Option Bool} {q:α->Bool} (p:List α) (d:∀x ∈ p,f x=some (q x)):lp (zf (λ(a:Nat) (b:α) (_:Unit)=>(((f b).bind λc=>(if c=true then some (.ret (a:Int)) else some (.gV ()))):Option (Out _ Unit))) p 0 ()) (λ(_:Unit)=>some (-1:Int))=some (tO q p):=by
 rw [mK q (λi _=>(i:Int)) _ _ (λi x g=>by simp_all)];unfold tO;cases h:p.findIdx? q with
 | none=>simp
 | some j =>
  obtain ⟨e,_⟩:=jJ.1 h
  simp_all
theorem sA (q:α->Bool) (p:List α):decide (tO q p >= 0)=p.any q:=by
 unfold tO
 grind
theorem tJ {M:List α} {i:Nat} (h:i < M.length):zS M (i:Int)=some M[i]:=by
 unfold zS;rw [lc (by omega),nr,s5 h]
theorem pc {L:List α} {lo hi:Int} (h:0<=lo/\lo<=hi/\hi<=L.length):fL L lo hi=some ((L.take hi.toNat).drop lo.toNat):=lc h
theorem wW {n:Int} (h:-9223372036854775808<=n/\n<=9223372036854775807):IntKind.wrap .i64 n=n:=by rw [IntKind.wrap_i64];omega
end
end Go.Vv
namespace Go.Vv
open Go Go.RowKit
variable {f:FuncId} {n t id:Nat} {ρ:Type} {ps:List Tmp} {assign body:Code} {args:List AV}
section
variable {P:Program} {o:Oper} {env:List AV} {h:AH} {L:List q6} {M:List Nat} {nb nt:Nat}
theorem zeN (b:h.zh.length=nb) {t:TypeId} {cs:List AV} {n:Nat} (a:o.op=.alloc t) (d:yX P t=some cs) (c:L.length=n):zj P o env (h.ext L M)=.ok (.ptr (nb+n) 0) (h.ext (L++[.cells cs]) M):=by
 subst b;exact nG a d c
theorem ziD (l:h.zh.length=nb) {t:TypeId} {d:TypeDesc} {k j off:Nat} {x:Operand} {cs:List AV} {v a:AV} (c:o.op=.load t x) (i:Ty P t d k) (m:yu env x=some (.ptr (nb+j) off)) (e:L[j]?=some (.cells cs))
  (g:dW (ye d) k off cs=some v) (b:w6 P t v=a):zj P o env (h.ext L M)=.ok a (h.ext L M):=by
 subst l;exact xM c i m e g b
theorem zeM (q:h.zh.length=nb) {t:TypeId} {d:TypeDesc} {k j off:Nat} {x y:Operand} {cs vs cs':List AV} {b b':AV} (g:o.op=.store t x y) (a:Ty P t d k) (m:yu env x=some (.ptr (nb+j) off)) (l:yu env y=some b)
  (e:w6 P t b=b') (r:b'.cells?=some vs) (i:vs.length=k) (p:L[j]?=some (.cells cs)) (c:Nat.ble (off+k) cs.length=true) (hs:yI cs off vs=cs'):zj P o env (h.ext L M)=.ok xo (h.ext (L.set j (.cells cs')) M):=by
 subst q;exact uE g a m l e r i p c hs
end
section
variable {P:Program} {o:Oper} {env:List AV} {h:AH} {α:Type} {row:α->List AV} {L M:List α} {nb nt:Nat}
end

def AH.closed (h:AH) (n t:Nat):Prop:=∀b ∈ h.zh,b.low n t=true
theorem q6.fX {n e m g:Nat} (a:n<=e) (h:m<=g):∀b:q6,b.low n m=true->b.low e g=true
 | .cells cs,hl=>zT a h cs hl
 | .q7 es c,hl=>by
  simp only [q6.low,nK,tr] at hl ⊢;exact λp d=>⟨AV.fX a h _ (hl p d).1,AV.fX a h _ (hl p d).2⟩
 | .loop _ _ env _ _ _,hl=>zT a h env hl
 | .row _ _ _,hl=>by simp only [q6.low,so] at hl ⊢;omega
 | .fB _ _ _,hl=>by simp only [q6.low,so] at hl ⊢;omega
 | .f7 _ _,_ | .eK,_ | .other,_ | .dead,_=>rfl
theorem zau {B:Nat} {w0 w:World} {g:Gh} {h:AH} (r:Rel B w0 g h w):h.closed h.zh.length h.zs.length:=λb a=>by
 obtain ⟨i,hi⟩:=lD.1 a;have:=r.fG hi
 rwa [r.fh,r.fw] at this
theorem zx {P : Program} {fn : Func} {c : Code} (hf : P.funcs[f]? = some fn) (hb : fn.body = some c) (hname : (fn.name == "runtime.NumGoroutine") = false) {args : List AV} {h : AH} {K : AV → AH → Prop} {env : List AV}
  (he:args++List.replicate (fn.ntmps - args.length) xo=env) (hw:zA h.zh.length h.zs.length args=true->h.closed h.zh.length h.zs.length->wO P c (rB P fn h K) env (h.ext [] [])):Spec P f args h K:=by
 refine ⟨λvs w=>?_,λB w0 _ g w vs r hv=>?_⟩
 ·have hn : ¬ fn.name = "runtime.NumGoroutine" := by simpa using hname
  simp [callFunc,hf,hb,hn]
 ·have hl:=hv.fG;rw [r.fh,r.fw] at hl;exact (zr hf hb hname he (hw hl (zau r))).2 B w0 g w vs r hv
theorem zfa {h:AH} {L:List q6} {M:List Nat} (a:h.zh.length=n):(h.ext L M).zh.length=n+L.length:=by simp [AH.ext,a]
theorem zbK {h:AH} {L:List q6} {M:List Nat} (a:h.zs.length=n):(h.ext L M).zs.length=n+M.length:=by simp [AH.ext,a]
theorem zaY {h:AH} {L:List q6} {M:List Nat} {c t':Nat} (e:h.closed n t) (g:n<=c) (d:t<=t') (i:L.all (λb=>b.low c t')=true):(h.ext L M).closed c t':=λb a=>by
 simp only [AH.ext,lj] at a;rcases a with a | a
 ·exact q6.fX g d b (e b a)
 ·simp_all
theorem zef {h a:AH} (u:h.zh.length=n) (r:h.zs.length=t) (j:a.zh.length=n) (g:a.zs.length=t) (w:a.closed n t) {L0 L1 L':List q6} {M0 M1 M':List Nat} {env:List AV}
  (s:zA (n+L0.length) (t+M0.length) env=true) (p:L'.take L0.length=L1) (q:M'.take M0.length=M1) (m:L1.all (λb=>b.low (n+L0.length) (t+M0.length))=true):wk (h.ext L0 M0) env (a.ext L' M') env (a.ext L1 M1):=by
 have d:(h.ext L0 M0).zh.length=n+L0.length:=zfa u;have e:(h.ext L0 M0).zs.length=t+M0.length:=zbK r;have v:(a.ext L' M').cut (h.ext L0 M0).zh.length (h.ext L0 M0).zs.length=a.ext L1 M1:=by
  rw [d,e,<- j,<- g];simp only [AH.cut,AH.ext,kz,la,p,q];rw [lm (l:=a.zh) (by omega),lm (l:=a.zs) (by omega)]
 have:=wk.cut (hd:=h.ext L0 M0) (env:=env) (h:=a.ext L' M') (by rw [d,e];exact s) (λi k hi c=>by
  right;rw [d] at hi;rw [d,e];simp only [AH.ext] at c;rcases kR i a.zh.length with h1 | h1
  ·rw [o4 h1] at c;exact q6.fX (by omega) (by omega) k (w k (lf c))
  ·rw [pa h1] at c;rw [nK] at m;refine m k (lf (i:=i - a.zh.length) ?_);rw [<- p,m4,lc (by omega)];exact c)
 rw [v] at this;omega
theorem ze8 {h a:AH} (m:h.zh.length=n) (j:h.zs.length=t) (d:a.zh.length=n) (c:a.zs.length=t) (l:a.closed n t) {L:List q6} {M:List Nat} {K:AV->AH->Prop} {v b:AV} (g:g6 v b)
  (i:b.low n t=true) (e:K b a):oR h K v (a.ext L M):=by
 have:=zef (L0:=[]) (L1:=[]) (L':=L) (M0:=[]) (M1:=[]) (M':=M) (env:=[b]) m j d c l (by simp [zA,i]) rfl rfl rfl;rw [pN,pN] at this;exact ⟨b,a,(wk.le (fd.cons g fd.nil)).trans this,e⟩

def lst:Option Nat->LoopState
 | none=>.ready
 | some _=>.done
def lpe:Option Nat->Option Code
 | none=>none
 | some 0=>some .ret
 | some (i+1)=>some (.exit i)
def ma {β:Type} (h:β->AH) (A:β->List q6) (T:β->List Nat) (lp:LoopState->Option Code->q6) (s:β×Option Nat):AH:=(h s.1).ext (A s.1++[lp (lst s.2) (lpe s.2)]) (T s.1)
def am {β X:Type} (f:β->X->Option ρ) (s:β×Option Nat) (x:X):Option ρ:=match s.2 with
 | none=>f s.1 x
 | some _=>none
def rng {β:Type} (q:Option (β×Option Nat)) (N:β->Option ρ) (J:Nat->β->Option ρ):Option ρ:=match q with
 | none=>none
 | some (b,none)=>N b
 | some (b,some j)=>J j b
def zu1 (Q:Exit->List AV->AH->Prop):Nat->List AV->AH->Prop
 | 0=>Q .ret
 | i+1=>Q (.exit i)

theorem zpo {P:Program} {Q:Exit->List AV->AH->Prop} {env E:List AV} {hd H:AH} {d:Operand} {ps:Array Tmp} {β:Type} {nb k:Nat} {first caps:List AV} (h:β->AH) (A:β->List q6) (T:β->List Nat) (b0:β) {LA:List q6} {LT:List Nat} {r:ρ} {q:Option (β×Option Nat)} {N:β->Option ρ} {J:Nat->β->Option ρ}
  (a:rng q N J=some r) (I:wk hd env hd E (H.ext LA LT)) (w:∀b,(h b).zh.length=nb) (O:H=h b0) (G:LA=A b0) (F:LT=T b0) (K:∀b,(A b).length=k) (s:yl d=true) (z:yu E d=some (.fn (.func f) first caps)) (c:(s6 assign&&s6 body)=true)
  (hs:∀lp:LoopState->Option Code->q6,lp=(λst g=>.loop st g E ps assign body)->∀x,q=some x->Spec P f (first++[.dG (nb+k)]++caps) (ma h A T lp (b0,none)) λ_ hh=>hh=ma h A T lp x)
  (D:∀b H1,H1=(h b).ext (A b++[.dead]) (T b)->N b=some r->Q .normal E H1) (R:∀j b H1,H1=(h b).ext (A b++[.dead]) (T b)->J j b=some r->zu1 Q j E H1):wO P (.rangeFunc d ps assign body) Q env hd:=by
 subst O G F;obtain ⟨_,y⟩:=zD z;simp only [tr] at c;refine ⟨s,c.1,c.2,E,_,I,?_⟩;rw [y];have v:((h b0).ext (A b0) (T b0)).zh.length=nb+k:=by simp [AH.ext,w,K]
 rcases q with _ | ⟨b,p⟩
 ·cases a
 ·have u:=hs _ rfl (b,p) rfl;rw [v,zaV];refine u.mono λ_ hh e=>?_;subst e;have m:(ma h A T (λst g=>.loop st g E ps assign body) (b,p)).gZ (nb+k)=some (.loop (lst p) (lpe p) E ps assign body):=by
   simp only [ma,AH.gZ,AH.ext,<- w b]
   simp_all
  have l:(ma h A T (λst g=>.loop st g E ps assign body) (b,p)).put (nb+k) .dead=(h b).ext (A b++[.dead]) (T b):=by
   simp only [ma,<- w b,wU]
   simp_all
  refine ⟨_,_,_,_,_,_,m,by cases p <;> simp [lst],?_⟩;rw [l];cases p with
  | none=>exact D b _ rfl a
  | some j =>
   have:=R j b _ rfl a;cases j with
   | zero=>exact this
   | succ i=>exact this

def zfO (hs:AH) (id:Nat) (lp:LoopState->Option Code->q6) (K:AV->AH->Prop):Exit->List AV->AH->Prop
 | .normal,_,h=>∃h3,wk hs [] h [] h3/\h3.gZ id=some (lp .busy none)/\K (.bool true) (h3.put id (lp .ready none))
 | .ret,_,h=>∃h3,wk hs [] h [] h3/\h3.gZ id=some (lp .busy none)/\K (.bool false) (h3.put id (lp .done (some .ret)))
 | .exit i,_,h=>∃h3,wk hs [] h [] h3/\h3.gZ id=some (lp .busy none)/\K (.bool false) (h3.put id (lp .done (some (.exit i))))
 | _,_,_=>False
def zh1 (P:Program) (hs:AH) (id:Nat) (lp:LoopState->Option Code->q6) (body:Code) (K:AV->AH->Prop):Exit->List AV->AH->Prop
 | .normal,env,h=>h.gZ id=some (lp .ready none)/\wO P body (zfO hs id lp K) env (h.put id (lp .busy none))
 | _,_,_=>False

def af (env:List AV):List Tmp->List AV->List AV
 | p::ps,a::a5=>af (env.set p a) ps a5
 | _,_=>env
theorem zfG {g:Gh}:∀{ps:List Tmp} {a5:List AV} {vs:List Value} {env:List AV} {tmps:Array Value},VL g env tmps.toList->VL g a5 vs->a5.length=ps.length->VL g (af env ps a5) ((ps.zip vs).foldl (λt (p,v)=>t.setIfInBounds p v) tmps).toList
 | [],[],vs,env,tmps,h,_,_=>by simpa [af] using h
 | [],_::_,_,_,_,_,_,hl=>by simp at hl
 | _::_,[],_,_,_,_,_,hl=>by simp at hl
 | p::ps,a::a5,vs,env,tmps,h,k,hl=>by
  simp only [VL] at k;obtain ⟨v,s,rfl,h1,b⟩:=k;simp only [af,gh,jh];refine zfG ?_ b (by simp_all);rw [ig];exact h.set _ _ _ h1

theorem zmU {P:Program} {h:AH} {K:AV->AH->Prop} {env s:List AV} {lp:LoopState->Option Code->q6} (hlp:lp=λst pe=>.loop st pe env ⟨ps⟩ assign body) (hb:h.gZ id=some (lp .ready none)) (hl:args.length=ps.length)
  (z:(s6 assign&&s6 body)=true) (he:af env ps args=s) (hw:wO P assign (zh1 P h id lp body K) s h):ek P id args h K:=by
 subst hlp he;simp only [tr] at z;intro B w0 _ g w vs c r hv Y;have e:h.zh[id]?=some (.loop .ready none env ⟨ps⟩ assign body):=hb;obtain ⟨hB,hlt,⟨fn,tmps,d,hh,Z⟩,_⟩:=r.gZ id c _ Y e;have hsz:vs.size=ps.length:=by rw [<- hl,hv.length];rfl
 refine ⟨_,_,_,_,run_yield hh (by omega),λn=>?_⟩;refine roundIn_of_wpIn (F:=Fence.wide) trivial ?_;have hte:VL g (af env ps args) (((⟨ps⟩:Array Tmp).zip vs).foldl (λt (p,v)=>t.setIfInBounds p v) tmps).toList:=by
  rw [<- iC,Array.toList_zip];exact zfG Z hv hl
 refine un (B:=B) (w0:=w0) (gb:=g) (g0:=g) (ro:=some c) assign (.inr z.1) hw ⟨g,Gh.le.refl g,r,hte,Marks.nil _ _,Gh.le.refl g⟩ λx env' h' a' w' S hs=>?_;obtain ⟨g1,H,r1,X,hm1,G⟩:=hs;cases x with
 | normal =>
  obtain ⟨hb1,S⟩:=S;have m:h'.zh[id]?=some (.loop .ready none env ⟨ps⟩ assign body):=hb1;have R:=H.sig _ _ Y;obtain ⟨_,_,⟨N,j,d1,D,E⟩,_⟩:=r1.gZ id c _ R m;refine ⟨_,run_beginRound D rfl,?_⟩;have r2:Rel B w0 g1 (h'.put id (.loop .busy none env ⟨ps⟩ assign body)) (w'.putObj c (.loop { state:=.busy,pending:=none,fn:=N,tmps:=j,params:=⟨ps⟩,assign,body,defers:=d1 })) :=
   r1.putObj R m (by simp) rfl rfl rfl World.putObj_size (λb e=>World.putObj_heap_other e) ⟨N,j,d1,World.putObj_heap_same (l9.1 D).1,E⟩
  refine un (B:=B) (w0:=w0) (gb:=g) (g0:=g) (ro:=some c) body (.inr z.2) S ⟨g1,H,r2,X,hm1,G⟩ λx env3 h3 a3 w3 l U=>?_;obtain ⟨g3,hg3,r3,he3,_,_⟩:=U;have y:∀(a:Option Code),(∃J,wk h [] h3 [] J/\J.gZ id=some (.loop .busy none env ⟨ps⟩ assign body)/\K (.bool a.isNone) (J.put id (.loop (if a.isNone then .ready else .done) a env ⟨ps⟩ assign body))) ->
    ∃v w4,(Instr.endRound c a).run P w3=.ok v w4/\∃v' r h5 g5,Ending.returned v=.returned v'/\K r h5/\g.le g5/\Rel B w0 g5 h5 w4/\V g5 r v':=by
   rintro a ⟨J,W,hb4,hK⟩
   obtain ⟨g4,k1,k2,_,_⟩:=W B w0 w3 w g g3 [] r hg3 r3 (by simp [VL]);have q:J.zh[id]?=some (.loop .busy none env ⟨ps⟩ assign body):=hb4;have I:=k1.sig _ _ Y;obtain ⟨_,_,⟨fn4,u,d4,O,Q⟩,_⟩:=k2.gZ id c _ I q;refine ⟨_,_,run_endRound a O,_,_,_,g4,rfl,hK,k1,?_,by simp only [V]⟩;exact k2.putObj I q (by simp) rfl rfl rfl World.putObj_size (λb e=>World.putObj_heap_other e) ⟨fn4,u,d4,World.putObj_heap_same (l9.1 O).1,Q⟩
  cases x with
  | normal=>exact y none l
  | ret=>exact y (some .ret) l
  | exit i=>exact y (some (.exit i)) l
  | _=>exact l.elim
 | _=>exact S.elim

section
variable {P:Program} {h:AH} {A A' L B:List q6} {T T' M C:List Nat} {nb nt:Nat} {o:Oper} {env:List AV}
theorem zbN (c:h.zh.length=nb) {j:Nat} {b:q6} (a:A[j]?=some b):(((h.ext A T).ext L M).ext B C).gZ (nb+j)=some b:=by
 simp only [xG,li];subst c;rw [zW,o4 (tm.1 a).1];exact a
theorem zgA (a:h.zh.length=nb) {j:Nat} {b:q6} (c:A[j]?=some b):((h.ext A T).ext L M).gZ (nb+j)=some b:=by
 have:=zbN (h:=h) (A:=A) (T:=T) (L:=L) (M:=M) (B:=[]) (C:=[]) a c
 rwa [pN] at this
theorem zfk (c:h.zh.length=nb) {j:Nat} {b:q6} (a:j < A.length) (d:A.set j b=A'):(((h.ext A T).ext L M).ext B C).put (nb+j) b=((h.ext A' T).ext L M).ext B C:=by
 simp only [xG,li];subst c d;rw [wU,ij _ _ a]
theorem zmi (c:h.zh.length=nb) {j:Nat} {b:q6} (a:j < A.length) (d:A.set j b=A'):((h.ext A T).ext L M).put (nb+j) b=(h.ext A' T).ext L M:=by
 have:=zfk (h:=h) (A:=A) (T:=T) (L:=L) (M:=M) (B:=[]) (C:=[]) c a d
 rwa [pN,pN] at this
theorem rh (a:h.zh.length=nb) {k:Nat} (b:A.length=k):((h.ext A T).ext L M).zh.length=nb+k+L.length:=by simp [AH.ext,a,b,jw]
theorem zgz (a:h.zs.length=nt) {k:Nat} (b:T.length=k):((h.ext A T).ext L M).zs.length=nt+k+M.length:=by simp [AH.ext,a,b,jw]
theorem zmm (l:h.zh.length=nb) {t:TypeId} {d:TypeDesc} {k j off:Nat} {x:Operand} {cs:List AV} {v a:AV} (c:o.op=.load t x) (i:Ty P t d k) (m:yu env x=some (.ptr (nb+j) off)) (e:A[j]?=some (.cells cs))
  (g:dW (ye d) k off cs=some v) (b:w6 P t v=a):zj P o env (((h.ext A T).ext L M).ext B C)=.ok a (((h.ext A T).ext L M).ext B C):=by
 refine zfJ c i m ?_ b;simp only [tU,zbN l e];exact g
theorem zhO (c:h.zh.length=nb) {t:TypeId} {d:TypeDesc} {k j off:Nat} {x y:Operand} {cs vs cs':List AV} {b b':AV} (m:o.op=.store t x y) (e:Ty P t d k) (r:yu env x=some (.ptr (nb+j) off)) (q:yu env y=some b)
  (l:w6 P t b=b') (s:b'.cells?=some vs) (p:vs.length=k) (a:A[j]?=some (.cells cs)) (g:Nat.ble (off+k) cs.length=true) (hs:yI cs off vs=cs') (i:A.set j (.cells cs')=A') :
  zj P o env (((h.ext A T).ext L M).ext B C)=.ok xo (((h.ext A' T).ext L M).ext B C):=by
 refine zes m e r q l ?_;simp only [p7,s,zbN c a];rw [lc ⟨p,l7 g⟩,hs,zfk c (tm.1 a).1 i]
theorem zsF {α:Type} {row:α->List AV} {X Y:List α} (z:h.zs.length=nt) {c:Call} {x y:Operand} {t u e p:TypeId} {k k' j:Nat} {a b b':AV} (q:o.op=.call c) (G:c.callee=.builtin .append) (hs:c.args=#[x,y]) (g:c.argTypes=#[t,u]) (v:El P t e k)
  (d:El P u p k') (w:yu env x=some a) (s:yu env y=some b) (F:w6 P t a=.gW (some (nt+j)) k (X.map row)) (i:w6 P u b=b') (D:pI k b'=some (Y.map row)) (r:X.length+Y.length<=lim) (E:T[j]?=some X.length) (m:T.set j (X++Y).length=T') :
  zj P o env (((h.ext A T).ext L M).ext B C)=.ok (.gW (some (nt+j)) k ((X++Y).map row)) (((h.ext A T').ext L M).ext B C):=by
 subst z m;have l:=(tm.1 E).1;have:=zoT (P:=P) (h:=h) (B:=A++L++B) (T:=T++M++C) (T':=(T.set j (X++Y).length)++M++C) q G hs g v d w s F i D r (by grind)
  (by simp_all)
 simp only [xG];omega
theorem zn6 {h0:AH} (u:h.closed nb nt) (d:h0.zh.length=nb) (c:h0.zs.length=nt) (q:h.zh.length=nb) (e:h.zs.length=nt) {A0:List q6} {T0:List Nat} (l:A'.length=A0.length) (r:T'.length=T0.length)
  (j:A'.all (λb=>b.low (nb+A0.length) (nt+T0.length))=true):wk ((h0.ext A0 T0).ext L M) [] (((h.ext A' T').ext L M).ext B C) [] ((h.ext A' T').ext L M):=by
 have p:((h0.ext A0 T0).ext L M).zh.length=nb+A0.length+L.length:=rh d rfl;have m:((h0.ext A0 T0).ext L M).zs.length=nt+T0.length+M.length:=zgz c rfl;have s:(((h.ext A' T').ext L M).ext B C).cut ((h0.ext A0 T0).ext L M).zh.length ((h0.ext A0 T0).ext L M).zs.length=(h.ext A' T').ext L M:=by
  have:=@zl4 ((h.ext A' T').ext L M) B C;rw [rh q rfl,zgz e rfl,l,r] at this;rw [p,m];exact this
 have:=wk.cut (hd:=(h0.ext A0 T0).ext L M) (env:=[]) (h:=((h.ext A' T').ext L M).ext B C) rfl (λi k hi a=>by
  rw [p] at hi ⊢;rw [m];rw [nK] at j;simp only [xG,AH.ext,li] at a ⊢;rcases kR i h.zh.length with h1 | h1
  ·rw [o4 h1] at a;exact .inr (q6.fX (by omega) (by omega) k (u k (lf a)))
  ·rw [pa h1] at a;rcases kR (i - h.zh.length) A'.length with g | g
   ·rw [o4 g] at a;exact .inr (q6.fX (by omega) (by omega) k (j k (lf a)))
   ·rw [pa g] at a;rw [pa (by omega),pa (by omega)];rw [o4 (by omega)] at a;rw [<- l,d,<- q];exact .inl a)
 rw [s] at this;exact this
end
theorem zkv {P:Program} {β X:Type} {h:β->AH} {nb k:Nat} {A:β->List q6} {T:β->List Nat} {lp:LoopState->Option Code->q6} {env:List AV} (j:lp=λst l=>.loop st l env ⟨ps⟩ assign body) {f:β->X->Option (Bool×(β×Option Nat))} {xs:X->List AV}
  (u:∀b,(h b).zh.length=nb) (q:∀b,(A b).length=k) (g:(s6 assign&&s6 body)=true) (e:∀x,(xs x).length=ps.length) {c:X->List AV} (r:∀x,af env ps (xs x)=c x)
  (m:∀b x o L M H1,H1=((((h b).ext (A b++[lp .ready none]) (T b)).ext L M).ext [] [])->f b x=some o->wO P assign (zh1 P (((h b).ext (A b++[lp .ready none]) (T b)).ext L M) (nb+k) lp body (λi hh=>i=.bool o.1/\hh=(ma h A T lp o.2).ext L M)) (c x) H1) :
  ∀(s:β×Option Nat) (x:X) (b:Bool) (d:β×Option Nat) (L:List q6) (M:List Nat),am f s x=some (b,d)->ek P (nb+k) (xs x) ((ma h A T lp s).ext L M) (λi hh=>i=.bool b/\hh=(ma h A T lp d).ext L M):=by
 rintro ⟨b0,p⟩ x b d L M a
 cases p with
 | some _=>cases a
 | none =>
  have:=m b0 x (b,d) L M _ rfl a;rw [pN] at this;refine zmU j ?_ (e x) g (r x) this;exact zgA (u b0) (by rw [pa (by simp_all),q];simp [lst,lpe])
theorem zeE {P:Program} {hs:AH} {nb k:Nat} {lp:LoopState->Option Code->q6} {K:AV->AH->Prop} {env:List AV} {h:AH} {A L B:List q6} {T M C:List Nat} (b:h.zh.length=nb) (a:A.length=k)
  (c:wO P body (zfO hs (nb+k) lp K) env (((h.ext (A++[lp .busy none]) T).ext L M).ext B C)):zh1 P hs (nb+k) lp body K .normal env (((h.ext (A++[lp .ready none]) T).ext L M).ext B C):=by
 refine ⟨zbN b (by rw [pa (by omega),a];simp),?_⟩;rw [zfk b (by rw [ng,a];exact jv _) (by rw [jg _ _ (by omega),a,hP])];exact c
section
variable {β:Type} {h:β->AH} {h0 h1:AH} {nb nt k:Nat} {lp:LoopState->Option Code->q6} {env:List AV} {A:β->List q6} {T:β->List Nat} {A0 A' L B:List q6} {T0 T' M C:List Nat} {b':β} {o:Bool×(β×Option Nat)}
theorem zne {E:Exit} {r:Bool} {p:Option Nat} (x:∀s,(∃a,wk ((h0.ext (A0++[lp .ready none]) T0).ext L M) [] s [] a/\a.gZ (nb+k)=some (lp .busy none)/\(AV.bool r=.bool o.1/\a.put (nb+k) (lp (lst p) (lpe p))=(ma h A T lp o.2).ext L M))->zfO ((h0.ext (A0++[lp .ready none]) T0).ext L M) (nb+k) lp (λi hh=>i=.bool o.1/\hh=(ma h A T lp o.2).ext L M) E env s)
  (y:h1.closed nb nt) (l:h0.zh.length=nb) (d:h0.zs.length=nt) (m:h1.zh.length=nb) (g:h1.zs.length=nt) (c:A0.length=k) (e:A'.length=k) (v:T'.length=T0.length) (q:o=(r,(b',p))) (hh:h b'=h1) (w:A b'=A') (j:T b'=T')
  (u:(A'++[lp .busy none]).all (λb=>b.low (nb+(k+1)) (nt+T0.length))=true) :
  zfO ((h0.ext (A0++[lp .ready none]) T0).ext L M) (nb+k) lp (λi hh=>i=.bool o.1/\hh=(ma h A T lp o.2).ext L M) E env (((h1.ext (A'++[lp .busy none]) T').ext L M).ext B C):=by
 refine x _ ⟨(h1.ext (A'++[lp .busy none]) T').ext L M,zn6 y l d m g (by simp [e,c]) v (by rw [ng,c];exact u),zgA m (by rw [pa (by omega),e];simp),?_,?_⟩
 ·rw [q]
 ·rw [zmi m (by rw [ng,e];exact jv _) (by rw [jg _ _ (by omega),e,hP]),q];simp only [ma,w,j,hh];rfl
theorem zeD (u:h1.closed nb nt) (g:h0.zh.length=nb) (a:h0.zs.length=nt) (s:h1.zh.length=nb) (c:h1.zs.length=nt) (d:A0.length=k) (j:A'.length=k) (l:T'.length=T0.length) (i:o=(true,(b',none))) (hh:h b'=h1) (q:A b'=A') (e:T b'=T')
  (m:(A'++[lp .busy none]).all (λb=>b.low (nb+(k+1)) (nt+T0.length))=true) :
  zfO ((h0.ext (A0++[lp .ready none]) T0).ext L M) (nb+k) lp (λv hh=>v=.bool o.1/\hh=(ma h A T lp o.2).ext L M) .normal env (((h1.ext (A'++[lp .busy none]) T').ext L M).ext B C) :=
 zne (r:=true) (p:=none) (λ_ h=>h) u g a s c d j l i hh q e m
end
theorem zg8 {P:Program} {o:Oper} {env:List AV} {h:AH} {c:Call} {f:Operand} {l:List (TypeId×AV)} (b:o.op=.call c) (p:c.callee=.value f) (a:yu env f=some (.dG id))
  (e:pH env c.args.toList c.argTypes.toList=some l) (g:Fx P l args):zj P o env h=.round id args:=by
 obtain ⟨h1,i⟩:=zD a;obtain ⟨r,q,m⟩:=zfv (P:=P) e;have d:c.args.all yl=true:=by grind
 have j:(c.args.size==c.argTypes.size)=true:=by simp_all
 simp only [zj,b,d,j,lI,nv,p,h1,Bool.true_eq_false,lg,i,m,g.eq]
theorem zcg {P:Program} {b:Array Oper} {Q:List AV->AH->Prop} {o:Oper} {rest:List Oper} {env a:List AV} {h c:AH} {v:AV} (g:aG b o env=some true) (e:zj P o env h=.round id args) (hs:ek P id args h λr hh=>r=v/\hh=c)
  (hd:tq o.dst env v=some a) (d:zu P b Q rest a c):zu P b Q (o::rest) env h:=by
 refine vT ?_;simp only [g,cY,e,cX];refine hs.mono ?_
 rintro r hh ⟨rfl,rfl⟩
 rw [yT hd];exact d
theorem ek.le {P:Program} {a5 bs:List AV} {h:AH} {K:AV->AH->Prop} (s:ek P id bs h K) (k:fd a5 bs):ek P id a5 h K :=
 λB w0 _ g w vs c r a b=>s B w0 g w vs c r (k _ _ a) b
def zwE (h:AH) (g:FuncId) (bs:List q6) (rr:AV) (hh:AH):Prop:=rr=.fn (.func g) [] ((List.range bs.length).map λi=>.ptr (h.zh.length+i) 0)/\hh=h.ext bs []
theorem zqw {P:Program} {h:AH} {nb:Nat} (d:h.zh.length=nb) {f g:FuncId} {a5 caps:List AV} {B B' bs:List q6} {T:List Nat} (s:Spec P f a5 (h.ext B T) (zwE (h.ext B T) g bs)) (e:B.length=n) (b:B++bs=B') (c:(List.range bs.length).map (λi=>AV.ptr (nb+(n+i)) 0)=caps) :
  Spec P f a5 (h.ext B T) (λa hh=>a=.fn (.func g) [] caps/\hh=h.ext B' T):=by
 refine s.mono ?_
 rintro a hh ⟨rfl,rfl⟩
 subst b c e d;refine ⟨?_,by rw [xG,ko]⟩;simp [AH.ext,jw]
theorem zo4 {h:AH} {env:List AV} {L L1:List q6} {M:List Nat} (m:Nat) (q:zA (h.zh.length+m) h.zs.length env=true) (p:L.take m=L1) (d:L1.all (λb=>b.low (h.zh.length+m) h.zs.length)=true):wk h env (h.ext L M) env (h.ext L1 []):=λ_ _ _ _ u g vs c j r s=>by
 subst p;refine ⟨g.cut (h.zh.length+m) h.zs.length,Gh.de j (by rw [c.fh];omega) (by rw [c.fw];exact oA _),?_,VL.cut _ _ q s,λ_ h=>h⟩;have e:(h.ext L M).cut (h.zh.length+m) h.zs.length=h.ext (L.take m) []:=by
  simp only [AH.cut,AH.ext,kz,la];rw [lm (l:=h.zh) (by omega)];simp
 rw [<- e];refine r.cut _ _ λi k hi a=>?_;simp only [AH.ext] at a;rcases kR i h.zh.length with h1 | h1
 ·rw [o4 h1] at a;have:=zau c k (lf a);exact q6.fX (by omega) (oA _) k this
 ·rw [pa h1] at a;rw [nK] at d;refine d k (lf (i:=i - h.zh.length) ?_)
  grind
theorem zhF {h:AH} {K:AV->AH->Prop} {v:AV} {bs L':List q6} {M':List Nat} (c:v.low (h.zh.length+bs.length) h.zs.length=true) (e:L'.take bs.length=bs) (d:bs.all (λb=>b.low (h.zh.length+bs.length) h.zs.length)=true) (a:K v (h.ext bs [])):oR h K v (h.ext L' M') :=
 ⟨v,_,zo4 bs.length (by simp [zA,c]) e d,a⟩
theorem yi {h:AH} {nb i:Nat} {b:q6} (a:h.gZ i=some b) (c:h.zh.length=nb):i < nb:=by
 subst c;exact (tm.1 a).1
theorem yQ {h:AH} {L:List q6} {M:List Nat} {nb j:Nat} {b:q6} (c:h.zh.length=nb) (a:L[j]?=some b):(h.ext L M).gZ (nb+j)=some b:=by
 subst c;rw [zW];exact a
end Go.Vv
