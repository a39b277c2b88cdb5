/- Rules for maps: lists of keys and values. -/
import Derived.Test.YtcdgimmdofbjdaaGreatVvU
import Derived.ProofKit
import Derived.OpenShut
import Derived.JoinedCond
import Derived.HandedShaped
set_option linter.all false
open Option renaming some→aa
open Option renaming none→ac
namespace Go.Vv
open Go
variable{B:List q6}
section
variable{K W:Type}
def zG(eq:K->K->Bool)(d:W):List (K×W)->K->W
 |[],_=>d
 |e::r,k=>if eq k e.1 then e.2 else zG eq d r k
def vR(eq:K->K->Bool):List (K×W)->K->Bool
 |[],_=>false
 |e::r,k=>eq k e.1 || vR eq r k
def eu(eq:K->K->Bool):List (K×W)->K->Nat
 |[],_=>0
 |e::r,k=>if eq k e.1 then 0 else eu eq r k+1
def uN(eq:K->K->Bool):List (K×W)->K->W->List (K×W)
 |[],k,v=>[(k,v)]
 |e::r,k,v=>if eq k e.1 then(e.1,v)::r else e::uN eq r k v
def wM(eq:K->K->Bool):List (K×W)->K->W->List (K×W)
 |[],k,v=>[(k,v)]
 |e::r,k,v=>if eq k e.1 then(k,v)::r else e::wM eq r k v
def bZ(eq:K->K->Bool)(d:W)(m:List (K×W))(k:K):List (K×W):=if vR eq m k then m else m++[(k,d)]
def zZ(kv:K->AV)(vv:W->AV)(e:K×W):AV×AV:=(kv e.1,vv e.2)

theorem zmB{eq:K->K->Bool}{k:K}:∀{m:List (K×W)},vR eq m k=true->eu eq m k<m.length
 |[],h=>by simp[vR]at h
 |e::r,h=>by
  simp only[vR,eu,nr]at h ⊢;by_cases hk:eq k e.1=true
  ·simp[hk]
  ·simp only[hk,lM,mb,s5]at h ⊢;have:=zmB h;omega
theorem zfG{eq:K->K->Bool}{k:K}:∀{m:List (K×W)},vR eq m k=false->eu eq m k=m.length
 |[],h=>rfl
 |e::r,h=>by
  simp only[vR,eu,nr,kw]at h ⊢;simp[h.1,zfG h.2]
theorem zjS{eq:K->K->Bool}{k:K}{v:W}:∀{m:List (K×W)} {e:K×W},vR eq m k=true->m[eu eq m k]?=aa e->m.set (eu eq m k) (e.1,v)=uN eq m k v
 |[],_,h,_=>by simp_all
 |p::r,e,h,he=>by
  simp only[vR,eu,uN]at h he ⊢;by_cases hk:eq k p.1=true
  ·simp_all
  ·simp only[hk,lM,mb,s5,iJ]at h he ⊢;rw[kj,zjS h he]
theorem zg6{eq:K->K->Bool}{k:K}{v:W}:∀{m:List (K×W)},vR eq m k=true->m.set (eu eq m k) (k,v)=wM eq m k v
 |[],h=>by simp[vR]at h
 |p::r,h=>by
  simp only[vR,eu,wM]at h ⊢;by_cases hk:eq k p.1=true
  ·simp_all
  ·simp only[hk,lM,mb,s5]at h ⊢;rw[kj,zg6 h]
theorem zjR{eq:K->K->Bool}{k:K}{v:W}:∀{m:List (K×W)},vR eq m k=false->m++[(k,v)]=uN eq m k v
 |[],_=>rfl
 |p::r,h=>by
  simp only[vR,uN,kw]at h ⊢;simp[h.1,zjR h.2]
theorem zg5{eq:K->K->Bool}{k:K}{v:W}:∀{m:List (K×W)},vR eq m k=false->m++[(k,v)]=wM eq m k v
 |[],_=>rfl
 |p::r,h=>by
  simp only[vR,wM,kw]at h ⊢;simp[h.1,zg5 h.2]

def KQ(P:Program)(kt:TypeId)(kv:K->AV)(eq:K->K->Bool):Prop:=(∀a b,xp P kt (kv a) (kv b)=aa (eq a b))/\∀a,eq a a=true
theorem KQ.str{P:Program}{t:TypeId}{z:Nat}(h:Ty P t .string z):KQ P t AV.str (λa b=>a==b):=⟨λa b=>by simp only[xp,h.u,m5],λa=>by simp⟩
theorem KQ.int{P:Program}{t:TypeId}{i:IntKind}{z:Nat}(h:Ty P t (.int i) z):KQ P t (AV.int i) (λa b=>a==b):=⟨λa b=>by simp only[xp,h.u,m5,oS],λa=>by simp⟩
theorem KQ.struct{P:Program}{t:TypeId}{fs:Array Field}{c:List Kd}{row:K->List AV}{eq:K->K->Bool}(g:P.underlying t=aa (.struct fs))(e:PK P t c)(h:∀a b,sN c (row a) (row b)=aa (eq a b))(f:∀a,eq a a=true):KQ P t (λx=>.agg (row x)) eq :=
 ⟨λa b=>by simp only[xp,g,e.k,h],f⟩

variable{P:Program}{kt et t:TypeId}{kv:K->AV}{vv:W->AV}{eq:K->K->Bool}{d:W}
theorem n5(a:KQ P kt kv eq)(d:W)(k:K):∀(m:List (K×W)) (i:Nat),sK P kt (kv k) (m.map (zZ kv vv)) i=aa (if vR eq m k then aa (i+eu eq m k,vv (zG eq d m k))else ac)
 |[],i=>rfl
 |e::r,i=>by
  have l:=n5 a d k r (i+1);simp only[m4,sK];have g:xp P kt (kv k) (zZ kv vv e).1=aa (eq k e.1):=a.1 _ _;rw[g];by_cases h:eq k e.1=true
  ·have b:vR eq (e::r) k=true:=by simp[vR,h]
   have f:eu eq (e::r) k=0:=by simp[eu,h]
   have c:zG eq d (e::r) k=e.2:=by simp[zG,h]
   rw[b,f,c,h];rfl
  ·simp only[jp]at h;have b:vR eq (e::r) k=vR eq r k:=by simp[vR,h]
   have f:eu eq (e::r) k=eu eq r k+1:=by simp[eu,h]
   have c:zG eq d (e::r) k=zG eq d r k:=by simp[zG,h]
   grind

variable{ops:Array Oper}{o:Oper}{env:List AV}{h:AH}{L:List q6}{M:List Nat}{m:List (K×W)}{k:K}{j:Nat}{x y z:Operand}
theorem tS{n:Nat}(b:o.op=.makeMap t ac)(a:L.length=n):zj P o env (h.ext L M)=.ok (.map (h.zh.length+n)) (h.ext (L++[.q7 [] 0]) M):=by
 simp only[zj,b,zdr,<- a];simp[AH.ext]
theorem zgb(c:o.op=.lookup t x y false)(n:P.underlying t=aa (.map kt et))(a:KQ P kt kv eq)(s:ut P et=aa (vv d))(q:yy env x=aa (.map (h.zh.length+j)))(b:L[j]?=aa (.q7 (m.map (zZ kv vv)) 0))(f:yy env y=aa (kv k)) :
  zj P o env (h.ext L M)=.ok (vv (zG eq d m k)) (h.ext L M):=by
 obtain⟨l,g⟩:=zF q;obtain⟨p,i⟩:=zF f;simp only[zj,c,l,g,p,i,n,lB,oS,oV,a.1,a.2,zX,b,n5 a d k m 0,s];cases hm:vR eq m k with
 |true=>simp[t6,oo]
 |false =>
  have:zG eq d m k=d:=by
   clear b
   induction m with
   |nil=>rfl
   |cons e r ih=>simp only[vR,kw]at hm;simp only[zG,hm.1,s5,mb];exact ih hm.2
  simp[t6,oo,this]
theorem ziV(c:o.op=.mapEntry t x y)(q:P.underlying t=aa (.map kt et))(a:KQ P kt kv eq)(v:ut P et=aa (vv d))(u:yy env x=aa (.map (h.zh.length+j)))(b:L[j]?=aa (.q7 (m.map (zZ kv vv)) 0))(g:yy env y=aa (kv k))
  (p:L.set j (.q7 ((bZ eq d m k).map (zZ kv vv)) 0)=B):zj P o env (h.ext L M)=.ok (.fl [vv (zG eq d m k),.int .i64 (eu eq m k)]) (h.ext B M):=by
 obtain⟨n,i⟩:=zF u;obtain⟨s,l⟩:=zF g;subst p;simp only[zj,c,n,i,s,l,q,lB,oS,zhW,a.1,a.2,zX,b,n5 a d k m 0,v,bZ];cases hm:vR eq m k with
 |true =>
  have:L.set j (.q7 (m.map (zZ kv vv)) 0)=L:=by
   apply lT
   grind
  simp[ovh,this]
 |false =>
  have f:zG eq d m k=d:=by
   clear b
   induction m with
   |nil=>rfl
   |cons e r ih=>simp only[vR,kw]at hm;simp only[zG,hm.1,s5,mb];exact ih hm.2
  simp[ovh,f,vU,zZ,zfG hm]
theorem mA{v:W}{i:Int}{n:IntKind}(u:o.op=.entryStore t x y z)(C:yy env x=aa (.map (h.zh.length+j)))(E:L[j]?=aa (.q7 ((bZ eq d m k).map (zZ kv vv)) 0))(w:yy env y=aa (.int n i))(hi:i=eu eq m k){a:AV}(s:yy env z=aa a)(b:a.cV=vv v)
  (F:L.set j (.q7 ((uN eq m k v).map (zZ kv vv)) 0)=B):zj P o env (h.ext L M)=.ok wb (h.ext B M):=by
 obtain⟨q,l⟩:=zF C;obtain⟨A,p⟩:=zF w;obtain⟨r,D⟩:=zF s;subst F hi;have h0:(0:Int)<=(eu eq m k:Int):=by omega
 have key:∃e,(bZ eq d m k)[eu eq m k]?=aa e/\(bZ eq d m k).set (eu eq m k) (e.1,v)=uN eq m k v:=by
  unfold bZ;cases hm:vR eq m k with
  |true =>
   have g:=zmB hm;exact⟨m[eu eq m k],by simp[g],by simpa using zjS hm (rk g)⟩
  |false =>
   refine⟨(k,d),by simp[zfG hm],?_⟩;simp only[s5,mb,zfG hm];rw[<- zjR hm];simp
 obtain⟨e,f,c⟩:=key;simp only[zj,u,q,l,A,p,r,D,b,lB,oS,pb,zX,E,h0,o5,ie,f,lK,oh,vU,<- c,List.map_set];rfl
theorem zga{v:W}(f:o.op=.mapUpdate t x y z)(q:P.underlying t=aa (.map kt et))(b:KQ P kt kv eq)(w:yy env x=aa (.map (h.zh.length+j)))(g:L[j]?=aa (.q7 (m.map (zZ kv vv)) 0))(i:yy env y=aa (kv k)){a:AV}(A:yy env z=aa a)(c:a.cV=vv v)
  (r:L.set j (.q7 ((wM eq m k v).map (zZ kv vv)) 0)=B):zj P o env (h.ext L M)=.ok wb (h.ext B M):=by
 obtain⟨p,l⟩:=zF w;obtain⟨s,n⟩:=zF i;obtain⟨u,e⟩:=zF A;subst r;simp only[zj,f,p,l,s,n,u,e,c,q,lB,oS,zbJ,b.1,b.2,zX,g,n5 b v k m 0];cases hm:vR eq m k with
 |true=>simp[oh,vU,<- zg6 hm,List.map_set,zZ]
 |false=>simp[oh,vU,<- zg5 hm,zZ]
theorem zcj{Q:List AV->AH->Prop}{rest:List Oper}{a:List AV}{c:Call}(i:aG ops o env=aa true)(p:o.op=.call c)(u:c.callee=.builtin .len)(s:c.args=#[x])(b:c.argTypes=#[t])(g:P.underlying t=aa (.map kt et))
  (q:yy env x=aa (.map (h.zh.length+j))) (r:L[j]?=aa (.q7 (m.map (zZ kv vv)) 0)) (hd:tX o.dst env (.int .i64 m.length)=aa a) (l:zx P ops Q rest a (h.ext L M)):zx P ops Q (o::rest) env (h.ext L M):=by
 obtain⟨n,f⟩:=zF q;have key:zj P o env (h.ext L M)=.any λv e=>e=h.ext L M/\v=.int .i64 m.length:=by
  simp[zj,p,u,s,b,n,f,uu,g,zX,r]
 refine qk ?_;simp only[i,bn,key,bm]
 rintro v e ⟨rfl,rfl⟩
 rw[yU hd];exact l

theorem zg8{eq:K->K->Bool}{d:W}{k:K}(a:eq k k=true):∀{m:List (K×W)},zG eq d (m++[(k,d)]) k=zG eq d m k
 |[]=>by simp[zG,a]
 |e::r=>by simp[zG,zg8 a]
theorem zk6{eq:K->K->Bool}{d:W}{k:K}(a:eq k k=true){m:List (K×W)}:zG eq d (bZ eq d m k) k=zG eq d m k:=by
 unfold bZ;split
 ·rfl
 ·exact zg8 a
def zuN(h:AH)(j:Nat)(m1 m2:List (AV×AV))(x:AH):Prop:=∃B T,x=h.ext B T/\(B[j]?=aa (.q7 m1 0) \/ B[j]?=aa (.q7 m2 0))
theorem zdt(e:o.op=.lookup t x y false)(g:P.underlying t=aa (.map kt et))(a:KQ P kt kv eq)(l:ut P et=aa (vv d))(i:yy env x=aa (.map (h.zh.length+j)))(f:yy env y=aa (kv k)) :
  ∀c,zuN h j (m.map (zZ kv vv)) ((bZ eq d m k).map (zZ kv vv)) c->zj P o env c=.ok (vv (zG eq d m k)) c:=by
 rintro _ ⟨B,T,rfl,b|b⟩
 ·exact zgb e g a l i b f
 ·rw[<- zk6 (m:=m) (d:=d) (a.2 k)];exact zgb e g a l i b f
theorem f0.skip{b:Nat}{Ns:List Nat}{F:Nat->AH->Prop}{h:AH}(c:Ns.all (λn=>b.testBit n)=true):f0 b Ns F h:=λn e a=>by
 simp_all
end
end Go.Vv
namespace Go.Vv
open Go Go.RowKit
variable{seen M:List Nat}{K W:Type}{kv:K->AV}{vv:W->AV}{ops:Array Oper}{o:Oper}{rest:List Oper}{env':List AV}{L:List q6}{x:Operand}{id:Nat}{m:List (K×W)}
section
variable{α ρ σ:Type}
open Classical in
noncomputable def bq(m:List α)(f:List α->Option ρ):Option ρ:=if h:∃r,∀p:List α,p.Perm m->f p=aa r then aa (Classical.choose h)else ac
theorem zdM{m:List α}{f:List α->Option ρ}{r:ρ}(h:bq m f=aa r):∀p:List α,p.Perm m->f p=aa r:=by
 unfold bq at h;split at h
 ·grind
 ·cases h
theorem zbI{m:List α}{f:List α->Option ρ}{r:ρ}(h:∀p:List α,p.Perm m->f p=aa r):bq m f=aa r:=by
 have a:∃r,∀p:List α,p.Perm m->f p=aa r:=⟨r,h⟩
 unfold bq;rw[gF a];have:=kV a m (gh _);rw[h m (gh _)]at this
 grind
open Classical in
noncomputable def nrm(m:List α):List α:=@Classical.epsilon _ ⟨[]⟩ λt:List α=>t.Perm m
theorem zjN(m:List α):(nrm m).Perm m:=Classical.epsilon_spec (p:=λt:List α=>t.Perm m) ⟨m,.refl _⟩
theorem ztH{m a:List α}(h:m.Perm a):nrm m=nrm a:=by
 unfold nrm;congr 1;funext t;exact propext ⟨λk=>k.trans h,λk=>k.trans h.symm⟩
def sP(m:List α)(seen:List Nat):List α:=(m.zipIdx.filter λp=>!seen.contains p.2).map (·.1)
theorem zhi(m:List α):sP m []=m:=by
 unfold sP;have:(m.zipIdx.filter λp=>!([]:List Nat).contains p.2)=m.zipIdx:=kq.2 λp _=>by simp
 rw[this,List.zipIdx_map_fst]
theorem zer{seen:List Nat}:∀(m:List α)(n i:Nat) {x:α},m[i]?=aa x->n+i∉seen ->
  (((m.zipIdx n).filter λp=>!seen.contains p.2).map (·.1)).Perm (x::((m.zipIdx n).filter λp=>!(seen++[n+i]).contains p.2).map (·.1))
 |[],_,_,_,h,_=>by simp at h
 |a::t,n,0,x,h,hs=>by
  simp only[gy,p5]at h;subst h;have d:((t.zipIdx (n+1)).filter λp=>!seen.contains p.2)=(t.zipIdx (n+1)).filter λp=>!(seen++[n]).contains p.2:=by
   refine jw λp c=>?_
   grind
  simp_all
 |a::t,n,i+1,x,h,hs=>by
  simp only[iJ]at h;have b:=zer t (n+1) i h (by rwa[show n+1+i=n+(i+1) by omega]);rw[show n+1+i=n+(i+1) by omega]at b;simp only[iU];by_cases hn:n∈seen
  ·simp_all
  ·rw[gA (by simp_all),gA (by simp[hn])];simp only[m4];exact(List.Perm.cons a b).trans (List.Perm.swap x a _)
theorem pX{m:List α}{i:Nat}{x:α}(hi:m[i]?=aa x)(hs:i∉seen):(sP m seen).Perm (x::sP m (seen++[i])):=by
 have:=zer (seen:=seen) m 0 i hi (by simp_all);simpa[sP]using this
def zxL(f:Nat->α->σ->Option (Out ρ σ))(m:List α)(seen:List Nat)(rest:σ->Option ρ)(o0:ρ):Out ρ σ->Prop
 |.ret r=>aa r=aa o0
 |.brk s=>rest s=aa o0
 |.gV s=>∀p:List α,p.Perm (sP m seen)->lp (zf f p seen.length s) rest=aa o0
def ze5(f:Nat->α->σ->Option (Out ρ σ))(m:List α)(seen:List Nat)(rest:σ->Option ρ)(o0:ρ)(s:σ):Prop:=∀p:List α,p.Perm (sP m seen)->lp (zf f p seen.length s) rest=aa o0
theorem ziA{f:Nat->α->σ->Option (Out ρ σ)}{m:List α}{rest:σ->Option ρ}{c:ρ}{s:σ}(h:ze5 f m seen rest c s){i:Nat}{x:α}(hi:m[i]?=aa x)(hs:i∉seen) :
  ∃a,f seen.length x s=aa a/\zxL f m (seen++[i]) rest c a:=by
 have key:∀p:List α,p.Perm (sP m (seen++[i]))->lp (zf f (x::p) seen.length s) rest=aa c:=λp b=>h _ ((List.Perm.cons x b).trans (pX hi hs).symm);have k0:=key _ (gh _);simp only[zf]at k0;cases hf:f seen.length x s with
 |none=>rw[hf]at k0;cases k0
 |some a =>
  refine⟨a,rfl,?_⟩;cases a with
  |ret r=>rw[hf]at k0;exact k0
  |brk s'=>rw[hf]at k0;exact k0
  |gV s' =>
   intro p b;have:=key p b;simp only[zf,hf]at this
   simp_all
theorem zk8{f:Nat->α->σ->Option (Out ρ σ)}{m:List α}{rest:σ->Option ρ}{a:ρ}{s:σ}(h:ze5 f m seen rest a s)(b:sP m seen=[]):rest s=aa a:=by
 have:=h [] (by rw[b]);exact this
end
section
variable{P:Program}{env:List AV}{h:AH}{Q:Exit->List AV->AH->Prop}
theorem zft{α ρ σ:Type}{body:Code}{f:Nat->α->σ->Option (Out ρ σ)}{m:List α}{c:σ}{rest:σ->Option ρ}{d:ρ}(U:σ->List (Nat×AV))(H:List Nat->σ->AH)(a:bq m (λp=>lp (zf f p 0 c) rest)=aa d){E:σ->List AV}
  (r:∀s,bi env (U s)=E s) (h0:wk h env h (E c) (H [] c))
  (hs:∀seen s,ze5 f m seen rest d s->vi P body (sn (λenv' e=>∃i b,(i<m.length/\i∉seen)/\ze5 f m (seen++[i]) rest d b/\wk (H seen s) env' e (E b) (H (seen++[i]) b)) Q) (E s) (H seen s)) :
  vi P (.loop body) Q env h:=by
 refine zgR (σ:=List Nat×σ) (λp=>E p.2) (λp=>H p.1 p.2) (λp=>ze5 f m p.1 rest d p.2) (λp=>(sP m p.1).length) ([],c) h0 (λp n=>zdM a p (by rwa[zhi]at n)) ?_
 rintro⟨seen,s⟩ q
 refine vJ ?_ _ _ _ (hs seen s q);intro x env' e g;cases x with
 |normal =>
  obtain⟨i,b,⟨l,j⟩,t,k⟩:=g;refine⟨(seen++[i],b),t,?_,k⟩;have:=(pX (rk l) j).length_eq
  simp_all
 |_=>exact g
theorem mq{Q:List AV->AH->Prop}{env:List AV}{h:AH}{L':List q6}{t g k:TypeId}{n:Nat}(e:aG ops o env=aa true)(l:o.op=.range t x)(c:P.underlying t=aa (.map g k))
  (q:yy env x=aa (.map id)) (d:(h.ext L M).g7 id=aa (.q7 (m.map (zZ kv vv)) 0)) (r:L.length=n) (hd:tX o.dst env (.ptr (h.zh.length+n) 0)=aa env') (j:L++[.fF id m.length []]=L') (f:zx P ops Q rest env' (h.ext L' M)):zx P ops Q (o::rest) env (h.ext L M):=by
 obtain⟨i,b⟩:=zF q;subst r j;have key:xN P o env (h.ext L M)=aa [(.ptr (h.zh.length+L.length) 0,h.ext (L++[.fF id m.length []]) M)]:=by
  simp only[xN,l,i,b,c,d,oS];simp[AH.new,AH.ext]
 refine sI e ⟨_,key,λp a=>?_⟩;simp only[la]at a;subst a;show zx P ops Q rest (fw env o.dst (.ptr (h.zh.length+L.length) 0)) _;rw[yU hd];exact f
theorem zbn{ρ σ:Type}{Q:List AV->AH->Prop}{env w:List AV}{h:AH}{j:Nat}
  {f:Nat->K×W->σ->Option (Out ρ σ)} {s:σ} {b:σ->Option ρ} {u:ρ} (C:aG ops o env=aa true) (G:o.op=.next x false)
  (J:yy env x=aa (.ptr (h.zh.length+j) 0)) (O:L[j]?=aa (.fF id m.length seen)) (B:(h.ext L M).g7 id=aa (.q7 (m.map (zZ kv vv)) 0)) (l:tX o.dst env (.fl [.bool false])=aa w)
  (a:ze5 f m seen b u s)
  (t:∀i y g,m[i]?=aa y->(i<m.length/\i∉seen)->f seen.length y s=aa g->zxL f m (seen++[i]) b u g->∃v,tX o.dst env (.fl [.bool true,kv y.1,vv y.2])=aa v/\zx P ops Q rest v (h.ext (L.set j (.fF id m.length (seen++[i]))) M))
  (n:b s=aa u->zx P ops Q rest w (h.ext L M)):zx P ops Q (o::rest) env (h.ext L M):=by
 obtain⟨E,A⟩:=zF J;have key:xN P o env (h.ext L M)=aa (rR (h.ext L M) (h.zh.length+j) id m.length seen (m.map (zZ kv vv))):=by
  simp[xN,G,E,A,zX,O,B]
 refine sI C ⟨_,key,λp c=>?_⟩;unfold rR at c;have e:(m.map (zZ kv vv)).zipIdx=m.zipIdx.map λq=>(zZ kv vv q.1,q.2):=by
  rw[List.zipIdx_map];rfl
 rw[e,gK]at c;split at c
 ·rename_i k;simp only[la]at c;subst c;have H:sP m seen=[]:=by
   unfold sP;rw[iv]at k ⊢;exact k
  show zx P ops Q rest (fw env o.dst (.fl [.bool false])) (h.ext L M);rw[yU l];exact n (zk8 a H)
 ·rename_i q r k;rw[<- k,kY,lH]at c;obtain⟨⟨y,i⟩,z,rfl⟩:=c;rw[lQ]at z;have hi:=jy.1 z.1;have d:i∉seen:=by simp_all
  obtain⟨g,I,D⟩:=ziA a hi d;obtain⟨v,F,N⟩:=t i y g hi ⟨(tu.1 hi).1,d⟩ I D;show zx P ops Q rest (fw env o.dst (.fl [.bool true,kv y.1,vv y.2])) ((h.ext L M).put (h.zh.length+j) (.fF id m.length (seen++[i])));rw[yU F,vU];exact N
theorem mr{Q:List AV->AH->Prop}{env:List AV}{h:AH}{j i:Nat}{y:K×W}
  (d:aG ops o env=aa true) (g:o.op=.entry x) (l:yy env x=aa (.ptr (h.zh.length+j) 0)) (n:L[j]?=aa (.fF id m.length (seen++[i]))) (c:(h.ext L M).g7 id=aa (.q7 (m.map (zZ kv vv)) 0)) (k:m[i]?=aa y)
  (hd:tX o.dst env (.fl [kv y.1,vv y.2])=aa env') (e:zx P ops Q rest env' (h.ext L M)):zx P ops Q (o::rest) env (h.ext L M):=by
 obtain⟨f,b⟩:=zF l;have key:xN P o env (h.ext L M)=aa [(.fl [kv y.1,vv y.2],h.ext L M)]:=by
  simp[xN,g,f,b,zX,n,c,k,zZ]
 refine sI d ⟨_,key,λp a=>?_⟩;simp only[la]at a;subst a;show zx P ops Q rest (fw env o.dst (.fl [kv y.1,vv y.2])) _;rw[yU hd];exact e
theorem zvl{Q:List AV->AH->Prop}{env:List AV}{h a:AH}{v:AV}(e:aG ops o env=aa true)(d:xN P o env h=aa [(v,a)])(hd:tX o.dst env v=aa env')(c:zx P ops Q rest env' a):zx P ops Q (o::rest) env h:=by
 refine sI e ⟨_,d,λp b=>?_⟩;simp only[la]at b;subst b;show zx P ops Q rest (fw env o.dst v) a;rw[yU hd];exact c
end
end Go.Vv
namespace Go.Vv
open Go Go.RowKit Go.ChangeShapes Go.WideShapes Go.ChangeAt
variable{t:TypeId}{α:Type}{n total off:Nat}{v:Value}

def g0(W:World):Gh:={ Φ:=λb j=>if b<W.heap.size then W.cell? ⟨b,j,ac⟩else ac,σ:=[],τ:=[],δ:=[] }
def h0:AH:={ zh:=[],zs:=[] }
theorem zxs(W:World):Rel W.heap.size W (g0 W) h0 W:=by
 refine⟨Below.refl _ _,ob _,λb j v h=>?_,rfl,λi c k a _=>by simp[g0]at a,rfl,λi t d=>by simp[g0]at d,λi j c hi=>by simp[g0]at hi,λi j t t' b x y hi=>by simp[g0]at hi,λi c j t b x hi=>by simp[g0]at hi,λc a=>by simp[g0]at a,λi k hi=>by simp[g0]at hi,λi j t k k' es es' hi=>by simp[h0]at hi⟩;simp only[g0]at h
 simp_all

section
variable{H:Type}{enc:TypeId×Value->H}{P:Program}{W:World}
mutual
def qx:DataW H->Nat
 |.lit (.string bytes)=>bytes.length+1
 |.lit _=>1
 |.nil=>1
 |.ptr d=>qx d+1
 |.slice elems spare=>qw elems+qw spare+1
 |.agg parts=>qw parts+1
 |.iface _ d=>qx d+1
 |.map entries=>zcB entries+1
 |.held _=>1
def qw:List (DataW H)->Nat
 |[]=>0
 |d::r=>qx d+qw r
def zcB:List (Lit×DataW H)->Nat
 |[]=>0
 |x::r=>zcB r+zlF x
def zlF:Lit×DataW H->Nat
 |(.string bytes,d)=>bytes.length+qx d+1
 |(_,d)=>qx d+1
end
theorem zjm{α:Type}{bk:α->Nat}:∀{l:List α}{ds:List (DataW H)},l.length=ds.length->(∀(i:Nat)(a:α) (d:DataW H),l[i]?=aa a->ds[i]?=aa d->bk a<=qx d)->(l.map bk).sum<=qw ds
 |[],_,_,_=>by simp
 |a::r,[],hl,_=>by simp at hl
 |a::r,d::ds,hl,h=>by
  have e:=h 0 a d rfl rfl;have c:=zjm (bk:=bk) (l:=r) (ds:=ds) (by simp_all) (λi x y f b=>h (i+1) x y (by simp_all) (by simp_all));simp only[m4,jQ,qw];omega
def dg(enc:TypeId×Value->H)(P:Program)(W:World)(n:Nat)(t:TypeId){α:Type}(row:α->List AV)(wf:α->Prop)(bk:α->Nat):Prop :=
 ∀cs x,DataW.trod enc P W 0 (λ_=>true) true n t cs=aa x->∃y,VL (g0 W) (row y) cs/\wf y/\bk y<=qx x.1
theorem dg.zero{row:α->List AV}{wf:α->Prop}{bk:α->Nat}:dg enc P W 0 t row wf bk:=λcs x h=>by simp[DataW.trod]at h
theorem dg.map{β:Type}{row:α->List AV}{wf:α->Prop}{b:β->List AV}{d:β->Prop}{bk:α->Nat}{c:β->Nat}(f:α->β)(h:dg enc P W n t row wf bk)(l:∀a,b (f a)=row a)(k:∀a,wf a->d (f a))(i:∀a,c (f a)=bk a):dg enc P W n t b d c:=λcs x e=>by
 obtain⟨y,j,g,m⟩:=h cs x e
 grind
theorem sg{k:IntKind}(b:P.underlying t=aa (.int k)):dg enc P W n t (zeA k) (dc k) (λ_=>1):=by
 cases n with
 |zero=>exact dg.zero
 |succ n =>
  intro cs x h;rw[DataW.trod_step]at h;unfold DataW.trodStep at h;rw[b]at h;split at h<;>simp_all;obtain⟨⟨rfl,a⟩,rfl⟩:=h;exact⟨_,VL.cons (by rfl) (by simp[VL]),by simpa[Lit.wf,dc]using a,by simp[qx]⟩
theorem zgP(a:P.underlying t=aa .string):dg enc P W n t yl (λs=>s.length<=maxLen) (λs=>s.length+1):=by
 cases n with
 |zero=>exact dg.zero
 |succ n =>
  intro cs x h;rw[DataW.trod_step]at h;unfold DataW.trodStep at h;rw[a]at h;split at h<;>simp_all;rename_i s;have hs:s.data.toList.length=s.size:=rfl;obtain⟨h,rfl⟩:=h;refine⟨s.data.toList,VL.cons ?_ (by simp[VL]),by omega,by simp[qx]⟩;simp only[V]
  simp_all
theorem zjY{α β:Type}{f:α->Option β}:∀{l:List α}{xs:List β},l.mapM f=aa xs->∀a∈l,∃x,f a=aa x
 |[],_,_,a,c=>by cases c
 |b::r,xs,h,a,c=>by
  simp only[j4,jW,kh,iB,p5]at h;obtain⟨v,e,vs,d,rfl⟩:=h;rcases lx.1 c with rfl|c
  ·simp_all
  ·exact zjY d a c
theorem zfI{α β:Type}{f:α->Option β}:∀{l:List α}{xs:List β},l.mapM f=aa xs->xs.length=l.length
 |[],_,h=>by simp_all
 |b::r,xs,h=>by
  simp only[j4,jW,kh,iB,p5]at h;obtain⟨v,c,vs,a,rfl⟩:=h;simp[zfI a]
theorem ziv{α β:Type}{f:α->Option β}:∀{l:List α}{xs:List β},l.mapM f=aa xs->∀(i:Nat)(a:α),l[i]?=aa a->∃x,f a=aa x/\xs[i]?=aa x
 |[],_,_,i,a,ha=>by simp at ha
 |b::r,xs,h,i,a,ha=>by
  simp only[j4,jW,kh,iB,p5]at h;obtain⟨v,d,vs,c,rfl⟩:=h;cases i with
  |zero=>simp at ha;subst ha;exact⟨v,d,rfl⟩
  |succ i=>simpa using ziv c i a (by simp_all)
theorem zgZ{a5:List AV}(h:a5.all AV.pure=true):a5.all AV.one=true:=by
 rw[oB]at h ⊢;exact λa b=>AV.dK (h a b)
theorem rM{e:TypeId}{k:Nat}{row:α->List AV}{wf:α->Prop}{bk:α->Nat}(U:P.underlying t=aa (.slice e))(Z:P.cellsOf e=k)(hk:0<k)(S:∀y,(row y).length=k)(I:∀y,(row y).all AV.pure=true)(T:∀m,m<n->dg enc P W m e row wf bk) :
  dg enc P W n t (λL=>[AV.sl k (L.map row)]) (λL:List α=>L.length<=maxLen/\∀y∈L,wf y) (λL=>(L.map bk).sum+1):=by
 cases n with
 |zero=>exact dg.zero
 |succ n =>
  intro cs x h;rw[DataW.trod_step]at h;unfold DataW.trodStep at h;rw[U]at h;split at h
  all_goals first|(exfalso;simp_all;done)|skip
  ·-- nil
   cases h;exact⟨[],VL.cons (by simp only[V];exact⟨ac,0,rfl,by simp,by simp,.inl rfl⟩) (by simp[VL]),⟨by simp,λy s=>by cases s⟩,by simp[qx]⟩
  ·rename_i _ _ O a len cap A;injection A with A;injection A with A;subst A;simp only[Z]at h;split at h
   ·rename_i N;obtain⟨_,X,r⟩:=N;rcases hel:(List.range len).mapM λi=>(W.cells? 0 (a.add (i*k)) k).bind (DataW.trod enc P W 0 (λ_=>true) true n e)with _|b
    ·simp_all
    ·-- the elements,one by one
     have D:b.length=len:=by rw[zfI hel];simp
     have E:qw (b.map (·.1))+1<=qx x.1:=by
      rw[hel]at h;simp only[tb,j7]at h;obtain⟨rest,_,rfl⟩:=h;simp only[qx];omega
     have key:∀i,i<len->∃y us,W.cells? 0 (a.add (i*k)) k=aa us/\VL (g0 W) (row y) us/\wf y/\∀z,b[i]?=aa z->bk y<=qx z.1:=by
      intro i hi;obtain⟨z,G,R⟩:=ziv hel i i (i7 hi);rcases hcs:W.cells? 0 (a.add (i*k)) k with _|us
      ·simp_all
      ·rw[hcs]at G;obtain⟨y,l,F,h3⟩:=T n (jE n) us z G
       grind
     rcases iD len with h0|q
     ·subst h0;exact⟨[],VL.cons (by simp only[V];exact⟨aa a,cap,rfl,by simp,r,.inl rfl⟩) (by simp[VL]),⟨by simp,λy s=>by cases s⟩,by simp;omega⟩
     ·have B:Nonempty α:=⟨(key 0 q).choose⟩
      have w:∀i,∃y,i<len->∃us,W.cells? 0 (a.add (i*k)) k=aa us/\VL (g0 W) (row y) us/\wf y/\∀z,b[i]?=aa z->bk y<=qx z.1:=by
       intro i;by_cases hi:i<len
       ·simp_all
       ·exact⟨Classical.choice B,λh=>absurd h hi⟩
      obtain⟨f,J⟩:=Classical.axiomOfChoice w
      -- no place within a cell
      have c:a.spot=ac:=by
       obtain⟨us,l,_⟩:=J 0 q;unfold World.cells? at l;rw[nK (lV _)]at l;obtain⟨v,p⟩:=zjY l 0 (by simp_all);simp only[Nat.zero_mul]at p;have Y:(a.add 0).add 0=a:=by rfl
       rw[Y]at p;unfold World.cell? at p;split at p
       ·simp_all
       ·cases p
      have M:a=⟨a.block,a.off,ac⟩:=by cases a;simp at c;simp[c]
      refine⟨(List.range len).map f,VL.cons ?_ (by simp[VL]),⟨by simp;omega,λy s=>?_⟩,?_⟩
      ·simp only[V];refine⟨aa a,cap,by simp,by grind,r,.inr ⟨a.block,a.off,congrArg aa M,VE.mk λi O o=>?_⟩⟩;simp only[kY,ie]at o;have hi:i<len:=by
        grind
       rw[i7 hi]at o;simp only[lK,Function.comp,p5]at o;subst o;obtain⟨us,l,F,_,_⟩:=J i hi;refine⟨S _,VC.bv (VA.mk F (zgZ (I _))) (I _) λj u K=>?_⟩;unfold World.cells? at l;rw[nK (lV _)]at l;have C:j<k:=by
        have:=(tu.1 K).1;rw[zfI l]at this;simpa using this
       obtain⟨v,p,g⟩:=ziv l j j (i7 C);rw[K]at g;injection g with g;subst g;have Q:(a.add (i*k)).add j=⟨a.block,a.off+i*k+j,ac⟩:=by
        rw[M,vm,vm]
       rw[Q]at p;simp only[g0];rw[nK (World.block_lt_of_cell? W _ p)];exact p
      ·grind
      ·refine lg (Nat.add_le_add_right (zjm (bk:=bk) (ds:=b.map (·.1)) (by simp[D]) λi y d s hd=>?_) 1) E
       grind
   ·cases h

def RdF(enc:TypeId×Value->H)(P:Program)(W:World)(n:Nat)(total off:Nat)(fs:List Field){α:Type}(row:α->List AV)(wf:α->Prop)(bk:α->Nat):Prop :=
 ∀(cs:List Value) xs,cs.length=total->(fs.mapM λf=>DataW.trod enc P W 0 (λ_=>true) true n f.type ((cs.drop f.offset).take (P.cellsOf f.type)))=aa xs->∃y,VL (g0 W) (row y) (cs.drop off)/\wf y/\bk y<=qw (xs.map (·.1))
theorem zbP(h:total<=off):RdF enc P W n total off [] (λ_:Unit=>[]) (λ_=>True) (λ_=>0):=λcs xs a _=>⟨(),by rw[lW (by omega)];simp[VL],trivial,lV _⟩
theorem yI{k a:Nat}{f:Field}{fs:List Field}{β:Type}{row:α->List AV}{wf:α->Prop}{b:β->List AV}{d:β->Prop}{bk:α->Nat}{c:β->Nat}(q:f.offset=off)(B:P.cellsOf f.type=k)(g:off+k=a)(h:dg enc P W n f.type row wf bk)(r:RdF enc P W n total a fs b d c) :
  RdF enc P W n total off (f::fs) (λp:α×β=>row p.1++b p.2) (λp=>wf p.1/\d p.2) (λp=>bk p.1+c p.2):=by
 intro cs xs s l;simp only[j4,jW,kh,iB,p5]at l;obtain⟨v,x,vs,i,rfl⟩:=l;obtain⟨y,j,m,A⟩:=h _ _ x;obtain⟨z,u,o,w⟩:=r _ _ s i;refine⟨(y,z),?_,⟨m,o⟩,by simp only[m4,qw];omega⟩;have e:cs.drop off=(cs.drop off).take k++cs.drop a:=by
  rw[<- g,<- kf,kW]
 rw[e];rw[q,B]at j;exact VL.append j u
theorem tM{fs:Array Field}{l:List Field}{row:α->List AV}{wf:α->Prop}{bk:α->Nat}(i:P.underlying t=aa (.struct fs))(d:fs.toList=l)(j:P.cellsOf t=total)(h:∀m,m<n->RdF enc P W m total 0 l row wf bk):dg enc P W n t row wf (λy=>bk y+1):=by
 cases n with
 |zero=>exact dg.zero
 |succ n =>
  intro cs x a;rw[DataW.trod_step]at a;unfold DataW.trodStep at a;rw[i]at a;split at a
  all_goals first|(exfalso;simp_all;done)|skip
  rename_i cs _ _ g c;injection c with c;injection c with c;subst c;split at a
  ·rename_i b;rw[d]at a;rcases hm:(l.mapM λf=>DataW.trod enc P W 0 (λ_=>true) true n f.type ((cs.drop f.offset).take (P.cellsOf f.type)))with _|xs
   ·simp_all
   ·obtain⟨y,k,e,o⟩:=h n (jE n) cs xs (by rw[b,j]) hm;rw[hm]at a;simp only[lK,p5]at a;subst a;exact⟨y,by simp_all,e,by simp only[qx];omega⟩
  ·cases a
theorem zjC{row:α->List AV}{wf:α->Prop}{bk:α->Nat}{d:DataW H}{p:List MemPlace}(a:∀n,dg enc P W n t row wf bk)(h:DataW.Trod enc P W 0 (λ_=>true) true t v d p):∃y,VL (g0 W) (row y) v.cells.toList/\wf y/\bk y<=qx d:=by
 obtain⟨n,b⟩:=h;exact a n _ _ b
theorem V.bu{a:AV}{g:Gh}(b:∀cs,v≠.agg cs)(h:VL g [a] v.cells.toList):V g a v:=by
 simp only[VL]at h;obtain⟨u,s,e,c,rfl⟩:=h;have:v.cells=#[v]:=by cases v<;>first|rfl|exact absurd rfl (b _)
 simp_all
theorem V.zzx{cs:List AV}{g:Gh}(a:∃us,v=.agg us)(b:cs.all AV.one=true)(h:VL g cs v.cells.toList):V g (.agg cs) v:=by
 obtain⟨us,rfl⟩:=a;simp only[V];exact⟨us,rfl,VA.mk h b⟩
theorem zfx{f:Func}{s:ChangeSpec}{apart l c i:Bool}{W':World}{args:Array Value}{ds gs:List (DataW H)}{a q pv:List MemPlace}
  (w:DataW.Whole enc P f.params.toList s.vars apart W args.toList ds gs a) (y:Below W.heap.size W W')
  (h:∀(b:Nat)(k:Nat->Bool) (hd:Bool),DataW.TrodAll enc P W' b k hd f.resultTypes.toList (v.resultList f.resultTypes.size) (s.fn H (ds++gs)).results [])
  (d:∀k:Nat->Bool,(∀p∈a,k p.block=true)->DataW.TrodAll enc P W' 0 k true f.params.toList args.toList (s.fn H (ds++gs)).args q)
  (e:∀k:Nat->Bool,(∀p∈a,k p.block=true)->DataW.TrodVars enc P W' k s.vars (s.fn H (ds++gs)).vars pv)
  (A:a=q++pv)
  (x:∀(j:Nat)(t:TypeId) (r:Value),f.resultTypes[j]?=aa t->(v.resultList f.resultTypes.size)[j]?=aa r->Value.okWide P W' .any 0 t r) :
  s.post enc P f apart l c i W args v W':=by
 have u:∀p∈a,p.block<W.heap.size:=λp o=>by simpa using w.lt p o
 have g:∀p∈a,(λb=>decide (b<W.heap.size)) p.block=true:=λp o=>by simp_all
 refine⟨ds,gs,a,[],q,pv,w,h _ _ _,d _ g,e _ g,World.keptBut_mono (λp o=>⟨o,?_⟩) (y.frame (·∈a)),λ_=>?_⟩
 ·simp_all
 ·obtain⟨_,_,_,_,_,z,B⟩:=w;refine⟨x,_,_,([]++q)++pv,⟨[]++q,pv,trodAll_append (d _ (λ_ _=>rfl)) (h _ _ _),e _ (λ_ _=>rfl),rfl,?_,?_⟩,?_⟩
  ·intro b off o;have m:MemPlace.cell b off∈a:=by simp_all
   rw[y.frozen (p:=⟨b,off,ac⟩) (u _ m)];exact z b off m
  ·simp_all
  ·simp_all
end
end Go.Vv
namespace Go.Vv
open Go Go.ChangeShapes Go.WideShapes
theorem zar{H:Type}{enc:TypeId×Value->H}{a:Assume}{C:Checked}{os:Os}{f:FuncId}{fn:Func}{s:OpenSpec}{k:(H:Type)->List (DataW H)->Bool}(G:s.cond=aa k){F:Stop.Interp}{g:List PathCond}{apart m d l:Bool}
  (own:ownKnob C.prog.godebug=ac) (n:os.Started) (p:C.prog.inits.idxOf? f=ac) (D:C.prog.funcs[f]?=aa fn)
  (o:∃(w:World)(b:Tape) (i:Input),w.os=os/\(w.forCall b i).Shaped C.prog/\i.vars=[]/\Input.okWide C.prog (w.forCall b i) .any w.heap.size f i /\
   s.pre6 enc C.prog fn g apart (w.forCall b i).memory i.args/\a.holds C.prog (lone (Frame.enter C.prog f i.args .normal) [] (w.forCall b i)))
  (h:∀(W:World)(base:Nat) (args:Array Value) (ds gs:List (DataW H)) (c:List MemPlace),
   (∀(j:Nat) t v,fn.params[j]?=aa t->args[j]?=aa v->Value.okWide C.prog W .any base t v) ->
   DataW.Whole enc C.prog fn.params.toList s.vars apart W args.toList ds gs c->k H (ds++gs)=true->W.ShapedOpen C.prog ->
   Calls C.prog f args W λe W'=>∃v,e=.returned v/\(s.at F).post enc C.prog fn apart m d l W args v W') :
  ReturnsInHanded a C os f .any (s.pre6 enc C.prog fn g apart) ((s.at F).post enc C.prog fn apart m d l):=by
 refine returnsInHanded_of_calls own n p o ?_;intro w b i _ B _ A u x;obtain⟨_,_,_,E,r,_,_,_,_,q⟩:=A;have e:E=fn:=ky (r.symm.trans D);subst e;obtain⟨ds,gs,c,J,L,z⟩:=(OpenSpec.pre_some G g apart _ _).1 u.1;have y:=DataW.Whole.of_heap (w':=w.forCall b i) (by rfl) J;refine(h (w.forCall b i) w.heap.size i.args ds gs c q y z B).mono λe W' ⟨v,K,I⟩=>?_;subst K;exact ChangeSpec.post_blind I
end Go.Vv
namespace Go.Vv
open Go
section
variable{α ρ σ:Type}
@[simp] theorem zwK{rest:σ->Option ρ}:lp (ac:Option (ρ ⊕ σ)) rest=ac:=rfl
@[simp] theorem zxI{rest:σ->Option ρ}{r:ρ}:lp (aa (.inl r)) rest=aa r:=rfl
@[simp] theorem yw{rest:σ->Option ρ}{s:σ}:lp (aa (.inr s)) rest=rest s:=rfl
theorem ze{p:Prop}[Decidable p]{o:Option ρ}(h:p):zN p o=o:=nK h
theorem zc6{f:Nat->α->Unit->Option (Out ρ Unit)}(p:α->Bool)(r:ρ):∀(L:List α)(i:Nat),(∀i x,x∈L->f i x ()=if p x=true then aa (.gV ())else aa (.ret r))->zf f L i ()=if L.all p=true then aa (.inr ())else aa (.inl r)
 |[],_,_=>rfl
 |x::t,i,h=>by
  have b:=zc6 p r t (i+1) (λi y a=>h i y (kQ _ a));simp only[zf,h i x (k8 ..)]
  grind
theorem mt{f:Nat->α->σ->Option (Out ρ σ)}(g:σ->α->σ):∀(L:List α)(i:Nat) (s:σ),(∀i x s,x∈L->f i x s=aa (.gV (g s x)))->zf f L i s=aa (.inr (L.foldl g s))
 |[],_,_,_=>rfl
 |x::t,i,s,h=>by
  simp only[zf,h i x s (k8 ..),kS];exact mt g t (i+1) (g s x) (λi y s a=>h i y s (kQ _ a))
theorem zax{f:Nat->α->Unit->Option (Out ρ Unit)}(p:α->Bool)(r:Nat->α->ρ):∀(L:List α)(i:Nat),(∀i x,x∈L->f i x ()=if p x=true then aa (.ret (r i x))else aa (.gV ())) ->
  zf f L i ()=match L.findIdx? p with
   |none=>aa (.inr ())
   |some j=>match L[j]? with|some x=>aa (.inl (r (i+j) x))|none=>ac
 |[],_,_=>rfl
 |x::t,i,h=>by
  have b:=zax p r t (i+1) (λi y a=>h i y (kQ _ a));simp only[zf,h i x (k8 ..),List.findIdx?_cons]
  grind
def sF(q:α->Bool)(p:List α):Int:=match p.findIdx? q with|some j=>(j:Int)|none=>-1
theorem rh{f:α->Option Bool}{q:α->Bool}(p:List α)(d:∀x∈p,f x=aa (q x)):lp (zf (λ(a:Nat)(b:α) (_:Unit)=>(((f b).bind λc=>(if c=true then aa (.ret (a:Int))else aa (.gV ()))):Option (Out _ Unit))) p 0 ()) (λ(_:Unit)=>aa (-1:Int))=aa (sF q p):=by
 rw[zax q (λi _=>(i:Int)) _ _ (λi x g=>by simp_all)];unfold sF;cases h:p.findIdx? q with
 |none=>simp
 |some j =>
  obtain⟨e,_⟩:=jK.1 h
  simp_all
theorem ri(q:α->Bool)(p:List α):decide (sF q p >= 0)=p.any q:=by
 unfold sF
 grind
theorem su{M:List α}{i:Nat}(h:i<M.length):zR M (i:Int)=aa M[i]:=by
 unfold zR;rw[nK (by omega),o5,rk h]
theorem pO{L:List α}{lo hi:Int}(h:0<=lo/\lo<=hi/\hi<=L.length):fP L lo hi=aa ((L.take hi.toNat).drop lo.toNat):=nK h
theorem vj{n:Int}(h:-9223372036854775808<=n/\n<=9223372036854775807):IntKind.wrap .i64 n=n:=by rw[IntKind.wrap_i64];omega
end
end Go.Vv
namespace Go.Vv
open Go Go.RowKit
variable{n t id:Nat}{args:List AV}{ps:List Tmp}{assign body:Code}
section
variable{P:Program}{o:Oper}{env:List AV}{h:AH}{L:List q6}{M:List Nat}{nb nt:Nat}
theorem zfF(b:h.zh.length=nb){t:TypeId}{cs:List AV}{n:Nat}(a:o.op=.alloc t)(d:yY P t=aa cs)(c:L.length=n):zj P o env (h.ext L M)=.ok (.ptr (nb+n) 0) (h.ext (L++[.cells cs]) M):=by
 subst b;exact mB a d c
theorem zjQ(i:h.zh.length=nb){t:TypeId}{d:TypeDesc}{k j off:Nat}{x:Operand}{cs:List AV}{v a:AV}(c:o.op=.load t x)(g:Ty P t d k)(l:yy env x=aa (.ptr (nb+j) off))(e:L[j]?=aa (.cells cs))
  (f:cj (yd d) k off cs=aa v) (b:w5 P t v=a):zj P o env (h.ext L M)=.ok a (h.ext L M):=by
 subst i;exact yT c g l e f b
theorem zfE(p:h.zh.length=nb){t:TypeId}{d:TypeDesc}{k j off:Nat}{x y:Operand}{cs vs cs':List AV}{b b':AV}(f:o.op=.store t x y)(a:Ty P t d k)(l:yy env x=aa (.ptr (nb+j) off))(i:yy env y=aa b)
  (e:w5 P t b=b') (q:b'.cells?=aa vs) (g:vs.length=k) (m:L[j]?=aa (.cells cs)) (c:Nat.ble (off+k) cs.length=true) (hs:yX cs off vs=cs'):zj P o env (h.ext L M)=.ok wb (h.ext (L.set j (.cells cs')) M):=by
 subst p;exact tc f a l i e q g m c hs
end
section
variable{P:Program}{o:Oper}{env:List AV}{h:AH}{α:Type}{row:α->List AV}{L M:List α}{nb nt:Nat}
end

def AH.closed(h:AH)(n t:Nat):Prop:=∀b∈h.zh,b.low n t=true
theorem q6.fY{n e m f:Nat}(a:n<=e)(h:m<=f):∀b:q6,b.low n m=true->b.low e f=true
 |.cells cs,hl=>zT a h cs hl
 |.q7 es c,hl=>by
  simp only[q6.low,oB,tx]at hl ⊢;exact λp d=>⟨AV.fY a h _ (hl p d).1,AV.fY a h _ (hl p d).2⟩
 |.loop _ _ env _ _ _,hl=>zT a h env hl
 |.row _ _ _,hl=>by simp only[q6.low,so]at hl ⊢;omega
 |.fF _ _ _,hl=>by simp only[q6.low,so]at hl ⊢;omega
 |.ec _ _,_|.eQ,_|.other,_|.dead,_=>rfl
theorem za1{B:Nat}{w0 w:World}{g:Gh}{h:AH}(r:Rel B w0 g h w):h.closed h.zh.length h.zs.length:=λb a=>by
 obtain⟨i,hi⟩:=lz.1 a;have:=r.fJ hi
 rwa[r.fi,r.fA]at this
theorem zy{P : Program}{f : FuncId}{fn : Func}{c : Code}(hf : P.funcs[f]? = aa fn)(hb : fn.body = aa c)(hname : (fn.name == "runtime.NumGoroutine") = false){args : List AV}{h : AH}{K : AV→AH→Prop}{env : List AV}
  (he:args++List.replicate (fn.ntmps-args.length) wb=env) (hw:zB h.zh.length h.zs.length args=true->h.closed h.zh.length h.zs.length->vi P c (pi P fn h K) env (h.ext [] [])):Spec P f args h K:=by
 refine⟨λvs w=>?_,λB w0 _ g w vs r hv=>?_⟩
 ·have hn : ¬fn.name = "runtime.NumGoroutine" := by simpa using hname
  simp[callFunc,hf,hb,hn]
 ·have hl:=hv.fJ;rw[r.fi,r.fA]at hl;exact(zw hf hb hname he (hw hl (za1 r))).2 B w0 g w vs r hv
theorem ziS{h:AH}{L:List q6}{M:List Nat}(a:h.zh.length=n):(h.ext L M).zh.length=n+L.length:=by simp[AH.ext,a]
theorem zf4{h:AH}{L:List q6}{M:List Nat}(a:h.zs.length=n):(h.ext L M).zs.length=n+M.length:=by simp[AH.ext,a]
theorem zeT{h:AH}{L:List q6}{M:List Nat}{c t':Nat}(e:h.closed n t)(f:n<=c)(d:t<=t')(g:L.all (λb=>b.low c t')=true):(h.ext L M).closed c t':=λb a=>by
 simp only[AH.ext,ma]at a;rcases a with a|a
 ·exact q6.fY f d b (e b a)
 ·simp_all
theorem ze8{h a:AH}(s:h.zh.length=n)(q:h.zs.length=t)(g:a.zh.length=n)(f:a.zs.length=t)(v:a.closed n t){L0 L1 L':List q6}{M0 M1 M':List Nat}{env:List AV}
  (r:zB (n+L0.length) (t+M0.length) env=true) (m:L'.take L0.length=L1) (p:M'.take M0.length=M1) (j:L1.all (λb=>b.low (n+L0.length) (t+M0.length))=true):wk (h.ext L0 M0) env (a.ext L' M') env (a.ext L1 M1):=by
 have d:(h.ext L0 M0).zh.length=n+L0.length:=ziS s;have e:(h.ext L0 M0).zs.length=t+M0.length:=zf4 q;have u:(a.ext L' M').cut (h.ext L0 M0).zh.length (h.ext L0 M0).zs.length=a.ext L1 M1:=by
  rw[d,e,<- g,<- f];simp only[AH.cut,AH.ext,kx,m3,m,p];rw[lh (l:=a.zh) (by omega),lh (l:=a.zs) (by omega)]
 have:=wk.cut (hd:=h.ext L0 M0) (env:=env) (h:=a.ext L' M') (by rw[d,e];exact r) (λi k hi c=>by
  right;rw[d]at hi;rw[d,e];simp only[AH.ext]at c;rcases kR i a.zh.length with h1|h1
  ·rw[ol h1]at c;exact q6.fY (by omega) (by omega) k (v k (lc c))
  ·rw[pa h1]at c;rw[oB]at j;refine j k (lc (i:=i-a.zh.length) ?_);rw[<- m,ml,nK (by omega)];exact c)
 rw[u]at this;omega
theorem zkh{h a:AH}(l:h.zh.length=n)(i:h.zs.length=t)(d:a.zh.length=n)(c:a.zs.length=t)(j:a.closed n t){L:List q6}{M:List Nat}{K:AV->AH->Prop}{v b:AV}(f:g6 v b)
  (g:b.low n t=true) (e:K b a):nQ h K v (a.ext L M):=by
 have:=ze8 (L0:=[]) (L1:=[]) (L':=L) (M0:=[]) (M1:=[]) (M':=M) (env:=[b]) l i d c j (by simp[zB,g]) rfl rfl rfl;rw[oL,oL]at this;exact⟨b,a,(wk.le (fc.cons f fc.nil)).trans this,e⟩

def lst:Option Nat->LoopState
 |none=>.ready
 |some _=>.done
def lpe:Option Nat->Option Code
 |none=>ac
 |some 0=>aa .ret
 |some (i+1)=>aa (.exit i)
def dU{β:Type}(h:β->AH)(A:β->List q6)(T:β->List Nat)(lp:LoopState->Option Code->q6)(s:β×Option Nat):AH:=(h s.1).ext (A s.1++[lp (lst s.2) (lpe s.2)]) (T s.1)
def stp{β X ρ:Type}(f:β->X->Option ρ)(s:β×Option Nat)(x:X):Option ρ:=match s.2 with
 |none=>f s.1 x
 |some _=>ac
def rng{β ρ:Type}(q:Option (β×Option Nat))(N:β->Option ρ)(J:Nat->β->Option ρ):Option ρ:=match q with
 |none=>ac
 |some (b,ac)=>N b
 |some (b,aa j)=>J j b
def zgL(hs:AH)(id:Nat)(lp:LoopState->Option Code->q6)(K:AV->AH->Prop):Exit->List AV->AH->Prop
 |.normal,_,h=>∃h3,wk hs [] h [] h3/\h3.g7 id=aa (lp .busy ac)/\K (.bool true) (h3.put id (lp .ready ac))
 |.ret,_,h=>∃h3,wk hs [] h [] h3/\h3.g7 id=aa (lp .busy ac)/\K (.bool false) (h3.put id (lp .done (aa .ret)))
 |.exit i,_,h=>∃h3,wk hs [] h [] h3/\h3.g7 id=aa (lp .busy ac)/\K (.bool false) (h3.put id (lp .done (aa (.exit i))))
 |_,_,_=>False
def zi9(P:Program)(hs:AH)(id:Nat)(lp:LoopState->Option Code->q6)(body:Code)(K:AV->AH->Prop):Exit->List AV->AH->Prop
 |.normal,env,h=>h.g7 id=aa (lp .ready ac)/\vi P body (zgL hs id lp K) env (h.put id (lp .busy ac))
 |_,_,_=>False

def zof(env:List AV):List Tmp->List AV->List AV
 |p::ps,a::a5=>zof (env.set p a) ps a5
 |_,_=>env
theorem zgD{g:Gh}:∀{ps:List Tmp}{a5:List AV} {vs:List Value} {env:List AV} {tmps:Array Value},VL g env tmps.toList->VL g a5 vs->a5.length=ps.length->VL g (zof env ps a5) ((ps.zip vs).foldl (λt (p,v)=>t.setIfInBounds p v) tmps).toList
 |[],[],vs,env,tmps,h,_,_=>by simpa[zof]using h
 |[],_::_,_,_,_,_,_,hl=>by simp at hl
 |_::_,[],_,_,_,_,_,hl=>by simp at hl
 |p::ps,a::a5,vs,env,tmps,h,k,hl=>by
  simp only[VL]at k;obtain⟨v,s,rfl,h1,b⟩:=k;simp only[zof,ga,kS];refine zgD ?_ b (by simp_all);rw[ii];exact h.set _ _ _ h1

theorem zoa{P:Program}{h:AH}{K:AV->AH->Prop}{env q:List AV}{lp:LoopState->Option Code->q6}(hlp:lp=λst pe=>.loop st pe env ⟨ps⟩ assign body)(hb:h.g7 id=aa (lp .ready ac))(hl:args.length=ps.length)
  (y:(pk assign&&pk body)=true) (he:zof env ps args=q) (hw:vi P assign (zi9 P h id lp body K) q h):ez P id args h K:=by
 subst hlp he;simp only[tx]at y;intro B w0 _ g w vs c r hv X;have e:h.zh[id]?=aa (.loop .ready ac env ⟨ps⟩ assign body):=hb;obtain⟨hB,hlt,⟨fn,tmps,d,hh,Y⟩,_⟩:=r.g7 id c _ X e;have hsz:vs.size=ps.length:=by rw[<- hl,hv.length];rfl
 refine⟨_,_,_,_,run_yield hh (by omega),λn=>?_⟩;refine roundIn_of_wpIn (F:=Fence.wide) trivial ?_;have hte:VL g (zof env ps args) (((⟨ps⟩:Array Tmp).zip vs).foldl (λt (p,v)=>t.setIfInBounds p v) tmps).toList:=by
  rw[<- iC,Array.toList_zip];exact zgD Y hv hl
 refine uM (B:=B) (w0:=w0) (gb:=g) (g0:=g) (ro:=aa c) assign (.inr y.1) hw ⟨g,Gh.le.refl g,r,hte,Marks.nil _ _,Gh.le.refl g⟩ λx env' h' a' w' R hs=>?_;obtain⟨g1,G,r1,W,hm1,E⟩:=hs;cases x with
 |normal =>
  obtain⟨hb1,R⟩:=R;have l:h'.zh[id]?=aa (.loop .ready ac env ⟨ps⟩ assign body):=hb1;have Q:=G.sig _ _ X;obtain⟨_,_,⟨J,f,d1,z,D⟩,_⟩:=r1.g7 id c _ Q l;refine⟨_,run_beginRound z rfl,?_⟩;have r2:Rel B w0 g1 (h'.put id (.loop .busy ac env ⟨ps⟩ assign body)) (w'.putObj c (.loop { state:=.busy,pending:=ac,fn:=J,tmps:=f,params:=⟨ps⟩,assign,body,defers:=d1 })) :=
   r1.putObj Q l (by simp) rfl rfl rfl World.putObj_size (λb e=>World.putObj_heap_other e) ⟨J,f,d1,World.putObj_heap_same (l5.1 z).1,D⟩
  refine uM (B:=B) (w0:=w0) (gb:=g) (g0:=g) (ro:=aa c) body (.inr y.2) R ⟨g1,G,r2,W,hm1,E⟩ λx env3 h3 a3 w3 j S=>?_;obtain⟨g3,Z,r3,he3,_,_⟩:=S;have u:∀(a:Option Code),(∃I,wk h [] h3 [] I/\I.g7 id=aa (.loop .busy ac env ⟨ps⟩ assign body)/\K (.bool a.isNone) (I.put id (.loop (if a.isNone then .ready else .done) a env ⟨ps⟩ assign body))) ->
    ∃v w4,(Instr.endRound c a).run P w3=.ok v w4/\∃v' r h5 g5,Ending.returned v=.returned v'/\K r h5/\g.le g5/\Rel B w0 g5 h5 w4/\V g5 r v':=by
   rintro a ⟨I,U,hb4,hK⟩
   obtain⟨g4,k1,k2,_,_⟩:=U B w0 w3 w g g3 [] r Z r3 (by simp[VL]);have m:I.zh[id]?=aa (.loop .busy ac env ⟨ps⟩ assign body):=hb4;have H:=k1.sig _ _ X;obtain⟨_,_,⟨fn4,s,d4,N,O⟩,_⟩:=k2.g7 id c _ H m;refine⟨_,_,run_endRound a N,_,_,_,g4,rfl,hK,k1,?_,by simp only[V]⟩;exact k2.putObj H m (by simp) rfl rfl rfl World.putObj_size (λb e=>World.putObj_heap_other e) ⟨fn4,s,d4,World.putObj_heap_same (l5.1 N).1,O⟩
  cases x with
  |normal=>exact u ac j
  |ret=>exact u (aa .ret) j
  |exit i=>exact u (aa (.exit i)) j
  |_=>exact j.elim
 |_=>exact R.elim

section
variable{P:Program}{h:AH}{A A' L B:List q6}{T T' M C:List Nat}{nb nt:Nat}{o:Oper}{env:List AV}
theorem zcw(c:h.zh.length=nb){j:Nat}{b:q6}(a:A[j]?=aa b):(((h.ext A T).ext L M).ext B C).g7 (nb+j)=aa b:=by
 simp only[x5,lf];subst c;rw[zX,ol (tu.1 a).1];exact a
theorem zhD(a:h.zh.length=nb){j:Nat}{b:q6}(c:A[j]?=aa b):((h.ext A T).ext L M).g7 (nb+j)=aa b:=by
 have:=zcw (h:=h) (A:=A) (T:=T) (L:=L) (M:=M) (B:=[]) (C:=[]) a c
 rwa[oL]at this
theorem zge(c:h.zh.length=nb){j:Nat}{b:q6}(a:j<A.length)(d:A.set j b=A'):(((h.ext A T).ext L M).ext B C).put (nb+j) b=((h.ext A' T).ext L M).ext B C:=by
 simp only[x5,lf];subst c d;rw[vU,ij _ _ a]
theorem zny(c:h.zh.length=nb){j:Nat}{b:q6}(a:j<A.length)(d:A.set j b=A'):((h.ext A T).ext L M).put (nb+j) b=(h.ext A' T).ext L M:=by
 have:=zge (h:=h) (A:=A) (T:=T) (L:=L) (M:=M) (B:=[]) (C:=[]) c a d
 rwa[oL,oL]at this
theorem rZ(a:h.zh.length=nb){k:Nat}(b:A.length=k):((h.ext A T).ext L M).zh.length=nb+k+L.length:=by simp[AH.ext,a,b,jA]
theorem zhC(a:h.zs.length=nt){k:Nat}(b:T.length=k):((h.ext A T).ext L M).zs.length=nt+k+M.length:=by simp[AH.ext,a,b,jA]
theorem zqi(i:h.zh.length=nb){t:TypeId}{d:TypeDesc}{k j off:Nat}{x:Operand}{cs:List AV}{v a:AV}(c:o.op=.load t x)(g:Ty P t d k)(l:yy env x=aa (.ptr (nb+j) off))(e:A[j]?=aa (.cells cs))
  (f:cj (yd d) k off cs=aa v) (b:w5 P t v=a):zj P o env (((h.ext A T).ext L M).ext B C)=.ok a (((h.ext A T).ext L M).ext B C):=by
 refine zgG c g l ?_ b;simp only[sJ,zcw i e];exact f
theorem znC(c:h.zh.length=nb){t:TypeId}{d:TypeDesc}{k j off:Nat}{x y:Operand}{cs vs cs':List AV}{b b':AV}(l:o.op=.store t x y)(e:Ty P t d k)(q:yy env x=aa (.ptr (nb+j) off))(p:yy env y=aa b)
  (i:w5 P t b=b') (r:b'.cells?=aa vs) (m:vs.length=k) (a:A[j]?=aa (.cells cs)) (f:Nat.ble (off+k) cs.length=true) (hs:yX cs off vs=cs') (g:A.set j (.cells cs')=A') :
  zj P o env (((h.ext A T).ext L M).ext B C)=.ok wb (((h.ext A' T).ext L M).ext B C):=by
 refine zie l e q p i ?_;simp only[mI,r,zcw c a];rw[nK ⟨m,l4 f⟩,hs,zge c (tu.1 a).1 g]
theorem zpr{h0:AH}(s:h.closed nb nt)(d:h0.zh.length=nb)(c:h0.zs.length=nt)(p:h.zh.length=nb)(e:h.zs.length=nt){A0:List q6}{T0:List Nat}(j:A'.length=A0.length)(q:T'.length=T0.length)
  (g:A'.all (λb=>b.low (nb+A0.length) (nt+T0.length))=true):wk ((h0.ext A0 T0).ext L M) [] (((h.ext A' T').ext L M).ext B C) [] ((h.ext A' T').ext L M):=by
 have m:((h0.ext A0 T0).ext L M).zh.length=nb+A0.length+L.length:=rZ d rfl;have l:((h0.ext A0 T0).ext L M).zs.length=nt+T0.length+M.length:=zhC c rfl;have r:(((h.ext A' T').ext L M).ext B C).cut ((h0.ext A0 T0).ext L M).zh.length ((h0.ext A0 T0).ext L M).zs.length=(h.ext A' T').ext L M:=by
  have:=@znl ((h.ext A' T').ext L M) B C;rw[rZ p rfl,zhC e rfl,j,q]at this;rw[m,l];exact this
 have:=wk.cut (hd:=(h0.ext A0 T0).ext L M) (env:=[]) (h:=((h.ext A' T').ext L M).ext B C) rfl (λi k hi a=>by
  rw[m]at hi ⊢;rw[l];rw[oB]at g;simp only[x5,AH.ext,lf]at a ⊢;rcases kR i h.zh.length with h1|h1
  ·rw[ol h1]at a;exact .inr (q6.fY (by omega) (by omega) k (s k (lc a)))
  ·rw[pa h1]at a;rcases kR (i-h.zh.length) A'.length with f|f
   ·rw[ol f]at a;exact .inr (q6.fY (by omega) (by omega) k (g k (lc a)))
   ·rw[pa f]at a;rw[pa (by omega),pa (by omega)];rw[ol (by omega)]at a;rw[<- j,d,<- p];exact .inl a)
 rw[r]at this;exact this
end
theorem zpO{P:Program}{β X:Type}{h:β->AH}{nb k:Nat}{A:β->List q6}{T:β->List Nat}{lp:LoopState->Option Code->q6}{env:List AV}(j:lp=λst l=>.loop st l env ⟨ps⟩ assign body){f:β->X->Option (Bool×(β×Option Nat))}{xs:X->List AV}
  (u:∀b,(h b).zh.length=nb) (q:∀b,(A b).length=k) (g:(pk assign&&pk body)=true) (e:∀x,(xs x).length=ps.length) {c:X->List AV} (r:∀x,zof env ps (xs x)=c x)
  (m:∀b x o L M H1,H1=((((h b).ext (A b++[lp .ready ac]) (T b)).ext L M).ext [] [])->f b x=aa o->vi P assign (zi9 P (((h b).ext (A b++[lp .ready ac]) (T b)).ext L M) (nb+k) lp body (λi hh=>i=.bool o.1/\hh=(dU h A T lp o.2).ext L M)) (c x) H1) :
  ∀(s:β×Option Nat)(x:X) (b:Bool) (d:β×Option Nat) (L:List q6) (M:List Nat),stp f s x=aa (b,d)->ez P (nb+k) (xs x) ((dU h A T lp s).ext L M) (λi hh=>i=.bool b/\hh=(dU h A T lp d).ext L M):=by
 rintro⟨b0,p⟩ x b d L M a
 cases p with
 |some _=>cases a
 |none =>
  have:=m b0 x (b,d) L M _ rfl a;rw[oL]at this;refine zoa j ?_ (e x) g (r x) this;exact zhD (u b0) (by rw[pa (by simp_all),q];simp[lst,lpe])
theorem zjH{P:Program}{hs:AH}{nb k:Nat}{lp:LoopState->Option Code->q6}{K:AV->AH->Prop}{env:List AV}{h:AH}{A L B:List q6}{T M C:List Nat}(b:h.zh.length=nb)(a:A.length=k)
  (c:vi P body (zgL hs (nb+k) lp K) env (((h.ext (A++[lp .busy ac]) T).ext L M).ext B C)):zi9 P hs (nb+k) lp body K .normal env (((h.ext (A++[lp .ready ac]) T).ext L M).ext B C):=by
 refine⟨zcw b (by rw[pa (by omega),a];simp),?_⟩;rw[zge b (by rw[oA,a];exact jE _) (by rw[jg _ _ (by omega),a,hP])];exact c
section
variable{β:Type}{h:β->AH}{h0 h1:AH}{nb nt k:Nat}{lp:LoopState->Option Code->q6}{env:List AV}{A:β->List q6}{T:β->List Nat}{A0 A' L B:List q6}{T0 T' M C:List Nat}{b':β}{o:Bool×(β×Option Nat)}
theorem zov{E:Exit}{r:Bool}{p:Option Nat}(w:∀q,(∃a,wk ((h0.ext (A0++[lp .ready ac]) T0).ext L M) [] q [] a/\a.g7 (nb+k)=aa (lp .busy ac)/\(AV.bool r=.bool o.1/\a.put (nb+k) (lp (lst p) (lpe p))=(dU h A T lp o.2).ext L M))->zgL ((h0.ext (A0++[lp .ready ac]) T0).ext L M) (nb+k) lp (λg hh=>g=.bool o.1/\hh=(dU h A T lp o.2).ext L M) E env q)
  (x:h1.closed nb nt) (j:h0.zh.length=nb) (d:h0.zs.length=nt) (l:h1.zh.length=nb) (f:h1.zs.length=nt) (c:A0.length=k) (e:A'.length=k) (u:T'.length=T0.length) (m:o=(r,(b',p))) (hh:h b'=h1) (v:A b'=A') (i:T b'=T')
  (s:(A'++[lp .busy ac]).all (λb=>b.low (nb+(k+1)) (nt+T0.length))=true) :
  zgL ((h0.ext (A0++[lp .ready ac]) T0).ext L M) (nb+k) lp (λg hh=>g=.bool o.1/\hh=(dU h A T lp o.2).ext L M) E env (((h1.ext (A'++[lp .busy ac]) T').ext L M).ext B C):=by
 refine w _ ⟨(h1.ext (A'++[lp .busy ac]) T').ext L M,zpr x j d l f (by simp[e,c]) u (by rw[oA,c];exact s),zhD l (by rw[pa (by omega),e];simp),?_,?_⟩
 ·rw[m]
 ·rw[zny l (by rw[oA,e];exact jE _) (by rw[jg _ _ (by omega),e,hP]),m];simp only[dU,v,i,hh];rfl
theorem zjG(s:h1.closed nb nt)(f:h0.zh.length=nb)(a:h0.zs.length=nt)(q:h1.zh.length=nb)(c:h1.zs.length=nt)(d:A0.length=k)(i:A'.length=k)(j:T'.length=T0.length)(g:o=(true,(b',ac)))(hh:h b'=h1)(m:A b'=A')(e:T b'=T')
  (l:(A'++[lp .busy ac]).all (λb=>b.low (nb+(k+1)) (nt+T0.length))=true) :
  zgL ((h0.ext (A0++[lp .ready ac]) T0).ext L M) (nb+k) lp (λu hh=>u=.bool o.1/\hh=(dU h A T lp o.2).ext L M) .normal env (((h1.ext (A'++[lp .busy ac]) T').ext L M).ext B C) :=
 zov (r:=true) (p:=ac) (λ_ h=>h) s f a q c d i j g hh m e l
end
theorem zlY{P:Program}{o:Oper}{env:List AV}{h:AH}{c:Call}{f:Operand}{l:List (TypeId×AV)}(b:o.op=.call c)(p:c.callee=.value f)(a:yy env f=aa (.ca id))
  (e:oz env c.args.toList c.argTypes.toList=aa l) (g:Fx P l args):zj P o env h=.round id args:=by
 obtain⟨h1,i⟩:=zF a;obtain⟨r,q,m⟩:=zgq (P:=P) e;have d:c.args.all yo=true:=by grind
 have j:(c.args.size==c.argTypes.size)=true:=by simp_all
 simp only[zj,b,d,j,lB,oS,p,h1,Bool.true_eq_false,mb,i,m,g.eq]
theorem zgW{P:Program}{b:Array Oper}{Q:List AV->AH->Prop}{o:Oper}{rest:List Oper}{env a:List AV}{h c:AH}{v:AV}(f:aG b o env=aa true)(e:zj P o env h=.round id args)(hs:ez P id args h λr hh=>r=v/\hh=c)
  (hd:tX o.dst env v=aa a) (d:zx P b Q rest a c):zx P b Q (o::rest) env h:=by
 refine qk ?_;simp only[f,bn,e,bm];refine hs.mono ?_
 rintro r hh ⟨rfl,rfl⟩
 rw[yU hd];exact d
theorem ez.le{P:Program}{a5 bs:List AV}{h:AH}{K:AV->AH->Prop}(s:ez P id bs h K)(k:fc a5 bs):ez P id a5 h K :=
 λB w0 _ g w vs c r a b=>s B w0 g w vs c r (k _ _ a) b
theorem zqu{h:AH}{env:List AV}{L L1:List q6}{M:List Nat}(m:Nat)(p:zB (h.zh.length+m) h.zs.length env=true)(j:L.take m=L1)(d:L1.all (λb=>b.low (h.zh.length+m) h.zs.length)=true):wk h env (h.ext L M) env (h.ext L1 []):=λ_ _ _ _ s g vs c f r q=>by
 subst j;refine⟨g.cut (h.zh.length+m) h.zs.length,Gh.dm f (by rw[c.fi];omega) (by rw[c.fA];exact ob _),?_,VL.cut _ _ p q,λ_ h=>h⟩;have e:(h.ext L M).cut (h.zh.length+m) h.zs.length=h.ext (L.take m) []:=by
  simp only[AH.cut,AH.ext,kx,m3];rw[lh (l:=h.zh) (by omega)];simp
 rw[<- e];refine r.cut _ _ λi k hi a=>?_;simp only[AH.ext]at a;rcases kR i h.zh.length with h1|h1
 ·rw[ol h1]at a;have:=za1 c k (lc a);exact q6.fY (by omega) (ob _) k this
 ·rw[pa h1]at a;rw[oB]at d;refine d k (lc (i:=i-h.zh.length) ?_)
  grind
theorem zni{h:AH}{K:AV->AH->Prop}{v:AV}{bs L':List q6}{M':List Nat}(c:v.low (h.zh.length+bs.length) h.zs.length=true)(e:L'.take bs.length=bs)(d:bs.all (λb=>b.low (h.zh.length+bs.length) h.zs.length)=true)(a:K v (h.ext bs [])):nQ h K v (h.ext L' M') :=
 ⟨v,_,zqu bs.length (by simp[zB,c]) e d,a⟩
theorem yj{h:AH}{nb i:Nat}{b:q6}(a:h.g7 i=aa b)(c:h.zh.length=nb):i<nb:=by
 subst c;exact(tu.1 a).1
theorem yJ{h:AH}{L:List q6}{M:List Nat}{nb j:Nat}{b:q6}(c:h.zh.length=nb)(a:L[j]?=aa b):(h.ext L M).g7 (nb+j)=aa b:=by
 subst c;rw[zX];exact a
end Go.Vv
