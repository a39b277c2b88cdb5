/- Rules for maps: lists of keys and values. -/
import Derived.Test.YtehifcdoglcidaaGreatVvZ
namespace Go.Vv
open Go
section
variable {K W:Type}
def x7 (eq:K->K->Bool) (d:W):List (K×W)->K->W
 | [],_=>d
 | e::r,k=>if eq k e.1 then e.2 else x7 eq d r k
def mhas (eq:K->K->Bool):List (K×W)->K->Bool
 | [],_=>false
 | e::r,k=>eq k e.1 || mhas eq r k
def midx (eq:K->K->Bool):List (K×W)->K->Nat
 | [],_=>0
 | e::r,k=>if eq k e.1 then 0 else midx eq r k+1
def mput (eq:K->K->Bool):List (K×W)->K->W->List (K×W)
 | [],k,v=>[(k,v)]
 | e::r,k,v=>if eq k e.1 then (e.1,v)::r else e::mput eq r k v
def mputN (eq:K->K->Bool):List (K×W)->K->W->List (K×W)
 | [],k,v=>[(k,v)]
 | e::r,k,v=>if eq k e.1 then (k,v)::r else e::mputN eq r k v
def ment (eq:K->K->Bool) (d:W) (m:List (K×W)) (k:K):List (K×W):=if mhas eq m k then m else m++[(k,d)]
def mrow (kv:K->AV) (vv:W->AV) (e:K×W):AV×AV:=(kv e.1,vv e.2)

theorem midx_lt {eq:K->K->Bool} {k:K}:∀{m:List (K×W)},mhas eq m k=true->midx eq m k < m.length
 | [],h=>by simp [mhas] at h
 | e::r,h=>by
  simp only [mhas,midx,List.length_cons] at h ⊢;by_cases hk:eq k e.1=true
  ·simp [hk]
  ·simp only [hk,Bool.false_or,if_false,Bool.false_eq_true] at h ⊢;have:=midx_lt h;omega
theorem midx_eq {eq:K->K->Bool} {k:K}:∀{m:List (K×W)},mhas eq m k=false->midx eq m k=m.length
 | [],h=>rfl
 | e::r,h=>by
  simp only [mhas,midx,List.length_cons,Bool.or_eq_false_iff] at h ⊢;simp [h.1,midx_eq h.2]
theorem mput_has {eq:K->K->Bool} {k:K} {v:W}:∀{m:List (K×W)} {e:K×W},mhas eq m k=true->m[midx eq m k]?=some e->m.set (midx eq m k) (e.1,v)=mput eq m k v
 | [],_,h,_=>by simp [mhas] at h
 | p::r,e,h,he=>by
  simp only [mhas,midx,mput] at h he ⊢;by_cases hk:eq k p.1=true
  ·simp only [hk,if_true,List.getElem?_cons_zero,Option.some.injEq] at he ⊢;subst he;rfl
  ·simp only [hk,Bool.false_or,if_false,Bool.false_eq_true,List.getElem?_cons_succ] at h he ⊢;rw [List.set_cons_succ,mput_has h he]
theorem mput_not {eq:K->K->Bool} {k:K} {v:W}:∀{m:List (K×W)},mhas eq m k=false->m++[(k,v)]=mput eq m k v
 | [],_=>rfl
 | p::r,h=>by
  simp only [mhas,mput,Bool.or_eq_false_iff] at h ⊢;simp [h.1,mput_not h.2]
def KQ (P:Program) (kt:TypeId) (kv:K->AV) (eq:K->K->Bool):Prop:=(∀a b,yI P kt (kv a) (kv b)=some (eq a b))/\∀a,eq a a=true
theorem KQ.str {P:Program} {t:TypeId} {z:Nat} (h:Ty P t .string z):KQ P t AV.str (λa b=>a==b):=⟨λa b=>by simp only [yI,h.u,aEq1],λa=>by simp⟩
theorem KQ.int {P:Program} {t:TypeId} {i:IntKind} {z:Nat} (h:Ty P t (.int i) z):KQ P t (AV.int i) (λa b=>a==b):=⟨λa b=>by simp only [yI,h.u,aEq1,if_true],λa=>by simp⟩
theorem KQ.struct {P:Program} {t:TypeId} {fs:Array Field} {c:List Kd} {row:K->List AV} {eq:K->K->Bool} (e:P.underlying t=some (.struct fs)) (f:PK P t c) (h:∀a b,qm c (row a) (row b)=some (eq a b)) (g:∀a,eq a a=true):KQ P t (λx=>.agg (row x)) eq :=
 ⟨λa b=>by simp only [yI,e,f.k,h],g⟩

variable {P:Program} {kt et t:TypeId} {kv:K->AV} {vv:W->AV} {eq:K->K->Bool} {d:W}
theorem aFind_is (f:KQ P kt kv eq) (d:W) (k:K):∀(m:List (K×W)) (i:Nat),ql P kt (kv k) (m.map (mrow kv vv)) i=some (if mhas eq m k then some (i+midx eq m k,vv (x7 eq d m k)) else none)
 | [],i=>rfl
 | e::r,i=>by
  have g:=aFind_is f d k r (i+1);simp only [List.map_cons,ql];have l:yI P kt (kv k) (mrow kv vv e).1=some (eq k e.1):=f.1 _ _;rw [l];by_cases h:eq k e.1=true
  ·have c:mhas eq (e::r) k=true:=by simp [mhas,h]
   have b:midx eq (e::r) k=0:=by simp [midx,h]
   have a:x7 eq d (e::r) k=e.2:=by simp [x7,h]
   rw [c,b,a,h];rfl
  ·simp only [Bool.not_eq_true] at h;have c:mhas eq (e::r) k=mhas eq r k:=by simp [mhas,h]
   have b:midx eq (e::r) k=midx eq r k+1:=by simp [midx,h]
   have a:x7 eq d (e::r) k=x7 eq d r k:=by simp [x7,h]
   rw [c,b,a,h];simp only [g];rw [show i+1+midx eq r k=i+(midx eq r k+1) by omega]

variable {ops:Array Oper} {o:Oper} {env:List AV} {h:AH} {L:List Blk} {M:List Nat} {m:List (K×W)} {k:K} {j:Nat} {x y z:Operand}
theorem e_makeMap {n:Nat} (b:o.op=.makeMap t none) (a:L.length=n):zo P o env (h.ext L M)=.ok (.map (h.blks.length+n)) (h.ext (L++[.mapo [] 0]) M):=by
 simp only [zo,b,ext_new,<- a];simp [AH.ext]
theorem e_lookup (g:o.op=.lookup t x y false) (n:P.underlying t=some (.map kt et)) (a:KQ P kt kv eq) (l:aZeroM P et=some (vv d)) (p:ye env x=some (.map (h.blks.length+j))) (b:L[j]?=some (.mapo (m.map (mrow kv vv)) 0)) (c:ye env y=some (kv k)) :
  zo P o env (h.ext L M)=.ok (vv (x7 eq d m k)) (h.ext L M):=by
 obtain ⟨q,i⟩:=zD p;obtain ⟨f,s⟩:=zD c;simp only [zo,g,q,i,f,s,n,Bool.and_self,if_true,aLookup,a.1,a.2,zZ,b,aFind_is a d k m 0,l];cases hm:mhas eq m k with
 | true=>simp [withOk,oo]
 | false =>
  have:x7 eq d m k=d:=by
   clear b
   induction m with
   | nil=>rfl
   | cons e r ih=>simp only [mhas,Bool.or_eq_false_iff] at hm;simp only [x7,hm.1,Bool.false_eq_true,if_false];exact ih hm.2
  simp [withOk,oo,this]
theorem e_entry {B:List Blk} (g:o.op=.mapEntry t x y) (q:P.underlying t=some (.map kt et)) (b:KQ P kt kv eq) (n:aZeroM P et=some (vv d)) (s:ye env x=some (.map (h.blks.length+j))) (a:L[j]?=some (.mapo (m.map (mrow kv vv)) 0)) (c:ye env y=some (kv k))
  (p:L.set j (.mapo ((ment eq d m k).map (mrow kv vv)) 0)=B):zo P o env (h.ext L M)=.ok (.tup [vv (x7 eq d m k),.int .i64 (midx eq m k)]) (h.ext B M):=by
 obtain ⟨u,l⟩:=zD s;obtain ⟨f,v⟩:=zD c;subst p;simp only [zo,g,u,l,f,v,q,Bool.and_self,if_true,aEntry,b.1,b.2,zZ,a,aFind_is b d k m 0,n,ment];cases hm:mhas eq m k with
 | true =>
  have:L.set j (.mapo (m.map (mrow kv vv)) 0)=L:=by
   apply List.ext_getElem?;intro i;rw [List.getElem?_set];split
   ·rename_i hi;subst hi;rw [if_pos (List.getElem?_eq_some_iff.1 a).1,a]
   ·rfl
  simp [ovh,this]
 | false =>
  have w:x7 eq d m k=d:=by
   clear a
   induction m with
   | nil=>rfl
   | cons e r ih=>simp only [mhas,Bool.or_eq_false_iff] at hm;simp only [x7,hm.1,Bool.false_eq_true,if_false];exact ih hm.2
  simp [ovh,w,qg,mrow,midx_eq hm]
theorem e_entryStore {B:List Blk} {v:W} {i:Int} {l:IntKind} (r:o.op=.entryStore t x y z) (n:ye env x=some (.map (h.blks.length+j))) (p:L[j]?=some (.mapo ((ment eq d m k).map (mrow kv vv)) 0)) (C:ye env y=some (.int l i)) (hi:i=midx eq m k) {a:AV} (s:ye env z=some a) (f:a.zcl=vv v)
  (u:L.set j (.mapo ((mput eq m k v).map (mrow kv vv)) 0)=B):zo P o env (h.ext L M)=.ok aundef (h.ext B M):=by
 obtain ⟨F,D⟩:=zD n;obtain ⟨q,w⟩:=zD C;obtain ⟨A,E⟩:=zD s;subst u hi;have h0:(0:Int)<=(midx eq m k:Int):=by omega
 have key:∃e,(ment eq d m k)[midx eq m k]?=some e/\(ment eq d m k).set (midx eq m k) (e.1,v)=mput eq m k v:=by
  unfold ment;cases hm:mhas eq m k with
  | true =>
   have g:=midx_lt hm;exact ⟨m[midx eq m k],by simp [g],by simpa using mput_has hm (List.getElem?_eq_getElem g)⟩
  | false =>
   refine ⟨(k,d),by simp [midx_eq hm],?_⟩;simp only [Bool.false_eq_true,if_false,midx_eq hm];rw [<- mput_not hm];simp
 obtain ⟨e,b,c⟩:=key;simp only [zo,r,F,D,q,w,A,E,f,Bool.and_self,if_true,aEntryStore,zZ,p,h0,Int.toNat_natCast,List.getElem?_map,b,Option.map_some,oh,qg,<- c,List.map_set];rfl
theorem ops_mlen {Q:List AV->AH->Prop} {rest:List Oper} {a:List AV} {c:Call} (n:aG ops o env=some true) (i:o.op=.call c) (r:c.callee=.builtin .len) (s:c.args=#[x]) (b:c.argTypes=#[t]) (l:P.underlying t=some (.map kt et))
  (f:ye env x=some (.map (h.blks.length+j))) (g:L[j]?=some (.mapo (m.map (mrow kv vv)) 0)) (hd:vq o.dst env (.int .i64 m.length)=some a) (q:zy P ops Q rest a (h.ext L M)):zy P ops Q (o::rest) env (h.ext L M):=by
 obtain ⟨u,p⟩:=zD f;have key:zo P o env (h.ext L M)=.any λv e=>e=h.ext L M/\v=.int .i64 m.length:=by
  simp [zo,i,r,s,b,u,p,wY,l,zZ,g]
 refine wX ?_;simp only [n,gwp,key,rwp]
 rintro v e ⟨rfl,rfl⟩
 rw [xh hd];exact q

theorem mgetD_app {eq:K->K->Bool} {d:W} {k:K} (a:eq k k=true):∀{m:List (K×W)},x7 eq d (m++[(k,d)]) k=x7 eq d m k
 | []=>by simp [x7,a]
 | e::r=>by simp [x7,mgetD_app a]
theorem mgetD_ment {eq:K->K->Bool} {d:W} {k:K} (a:eq k k=true) {m:List (K×W)}:x7 eq d (ment eq d m k) k=x7 eq d m k:=by
 unfold ment;split
 ·rfl
 ·exact mgetD_app a
def MapE (h:AH) (j:Nat) (m1 m2:List (AV×AV)) (x:AH):Prop:=∃B T,x=h.ext B T/\(B[j]?=some (.mapo m1 0) \/ B[j]?=some (.mapo m2 0))
theorem e_lookupF (f:o.op=.lookup t x y false) (i:P.underlying t=some (.map kt et)) (c:KQ P kt kv eq) (g:aZeroM P et=some (vv d)) (l:ye env x=some (.map (h.blks.length+j))) (e:ye env y=some (kv k)) :
  ∀b,MapE h j (m.map (mrow kv vv)) ((ment eq d m k).map (mrow kv vv)) b->zo P o env b=.ok (vv (x7 eq d m k)) b:=by
 rintro _ ⟨B,T,rfl,a | a⟩
 ·exact e_lookup f i c g l a e
 ·rw [<- mgetD_ment (m:=m) (d:=d) (c.2 k)];exact e_lookup f i c g l a e
theorem FOk.skip {b:Nat} {Ns:List Nat} {F:Nat->AH->Prop} {h:AH} (a:Ns.all (λn=>b.testBit n)=true):FOk b Ns F h:=λn e c=>by
 rw [List.all_eq_true] at a;rw [a n (by simpa using e)] at c;cases c
end
end Go.Vv
