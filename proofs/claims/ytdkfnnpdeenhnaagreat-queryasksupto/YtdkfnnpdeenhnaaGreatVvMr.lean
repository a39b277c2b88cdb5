/- Rules for maps: lists of keys and values. -/
import Derived.Test.YtdkfnnpdeenhnaaGreatVvZ
namespace Go.Vv
open Go
section
variable {K W:Type}
def xg (eq:K->K->Bool) (d:W):List (K×W)->K->W
 | [],_=>d
 | e::r,k=>if eq k e.1 then e.2 else xg eq d r k
def qt (eq:K->K->Bool):List (K×W)->K->Bool
 | [],_=>false
 | e::r,k=>eq k e.1 || qt eq r k
def midx (eq:K->K->Bool):List (K×W)->K->Nat
 | [],_=>0
 | e::r,k=>if eq k e.1 then 0 else midx eq r k+1
def mput (eq:K->K->Bool):List (K×W)->K->W->List (K×W)
 | [],k,v=>[(k,v)]
 | e::r,k,v=>if eq k e.1 then (e.1,v)::r else e::mput eq r k v
def mputN (eq:K->K->Bool):List (K×W)->K->W->List (K×W)
 | [],k,v=>[(k,v)]
 | e::r,k,v=>if eq k e.1 then (k,v)::r else e::mputN eq r k v
def ment (eq:K->K->Bool) (d:W) (m:List (K×W)) (k:K):List (K×W):=if qt eq m k then m else m++[(k,d)]
def mrow (kv:K->AV) (vv:W->AV) (e:K×W):AV×AV:=(kv e.1,vv e.2)

theorem midx_lt {eq:K->K->Bool} {k:K}:∀{m:List (K×W)},qt eq m k=true->midx eq m k < m.length
 | [],h=>by simp [qt] at h
 | e::r,h=>by
  simp only [qt,midx,List.length_cons] at h ⊢;by_cases hk:eq k e.1=true
  ·simp [hk]
  ·simp only [hk,Bool.false_or,if_false,Bool.false_eq_true] at h ⊢;have:=midx_lt h;omega
theorem midx_eq {eq:K->K->Bool} {k:K}:∀{m:List (K×W)},qt eq m k=false->midx eq m k=m.length
 | [],h=>rfl
 | e::r,h=>by
  simp only [qt,midx,List.length_cons,Bool.or_eq_false_iff] at h ⊢;simp [h.1,midx_eq h.2]
theorem mput_has {eq:K->K->Bool} {k:K} {v:W}:∀{m:List (K×W)} {e:K×W},qt eq m k=true->m[midx eq m k]?=some e->m.set (midx eq m k) (e.1,v)=mput eq m k v
 | [],_,h,_=>by simp [qt] at h
 | p::r,e,h,he=>by
  simp only [qt,midx,mput] at h he ⊢;by_cases hk:eq k p.1=true
  ·simp only [hk,if_true,List.getElem?_cons_zero,Option.some.injEq] at he ⊢;subst he;rfl
  ·simp only [hk,Bool.false_or,if_false,Bool.false_eq_true,List.getElem?_cons_succ] at h he ⊢;rw [List.set_cons_succ,mput_has h he]
theorem mput_not {eq:K->K->Bool} {k:K} {v:W}:∀{m:List (K×W)},qt eq m k=false->m++[(k,v)]=mput eq m k v
 | [],_=>rfl
 | p::r,h=>by
  simp only [qt,mput,Bool.or_eq_false_iff] at h ⊢;simp [h.1,mput_not h.2]
def KQ (P:Program) (kt:TypeId) (kv:K->AV) (eq:K->K->Bool):Prop:=(∀a b,yj P kt (kv a) (kv b)=some (eq a b))/\∀a,eq a a=true
theorem KQ.str {P:Program} {t:TypeId} {z:Nat} (h:Ty P t .string z):KQ P t AV.str (λa b=>a==b):=⟨λa b=>by simp only [yj,h.u,aEq1],λa=>by simp⟩
theorem KQ.int {P:Program} {t:TypeId} {i:IntKind} {z:Nat} (h:Ty P t (.int i) z):KQ P t (AV.int i) (λa b=>a==b):=⟨λa b=>by simp only [yj,h.u,aEq1,if_true],λa=>by simp⟩
theorem KQ.struct {P:Program} {t:TypeId} {fs:Array Field} {c:List Kd} {row:K->List AV} {eq:K->K->Bool} (e:P.underlying t=some (.struct fs)) (g:PK P t c) (h:∀a b,w7 c (row a) (row b)=some (eq a b)) (f:∀a,eq a a=true):KQ P t (λx=>.agg (row x)) eq :=
 ⟨λa b=>by simp only [yj,e,g.k,h],f⟩

variable {P:Program} {kt et t:TypeId} {kv:K->AV} {vv:W->AV} {eq:K->K->Bool} {d:W}
theorem aFind_is (f:KQ P kt kv eq) (d:W) (k:K):∀(m:List (K×W)) (i:Nat),w6 P kt (kv k) (m.map (mrow kv vv)) i=some (if qt eq m k then some (i+midx eq m k,vv (xg eq d m k)) else none)
 | [],i=>rfl
 | e::r,i=>by
  have l:=aFind_is f d k r (i+1);simp only [List.map_cons,w6];have g:yj P kt (kv k) (mrow kv vv e).1=some (eq k e.1):=f.1 _ _;rw [g];by_cases h:eq k e.1=true
  ·have b:qt eq (e::r) k=true:=by simp [qt,h]
   have c:midx eq (e::r) k=0:=by simp [midx,h]
   have a:xg eq d (e::r) k=e.2:=by simp [xg,h]
   rw [b,c,a,h];rfl
  ·simp only [Bool.not_eq_true] at h;have b:qt eq (e::r) k=qt eq r k:=by simp [qt,h]
   have c:midx eq (e::r) k=midx eq r k+1:=by simp [midx,h]
   have a:xg eq d (e::r) k=xg eq d r k:=by simp [xg,h]
   rw [b,c,a,h];simp only [l];rw [show i+1+midx eq r k=i+(midx eq r k+1) by omega]

variable {ops:Array Oper} {o:Oper} {env:List AV} {h:AH} {L:List Blk} {M:List Nat} {m:List (K×W)} {k:K} {j:Nat} {x y z:Operand}
theorem e_makeMap {n:Nat} (a:o.op=.makeMap t none) (b:L.length=n):zn P o env (h.ext L M)=.ok (.map (h.blks.length+n)) (h.ext (L++[.mapo [] 0]) M):=by
 simp only [zn,a,ext_new,<- b];simp [AH.ext]
theorem e_lookup (i:o.op=.lookup t x y false) (c:P.underlying t=some (.map kt et)) (a:KQ P kt kv eq) (f:vT P et=some (vv d)) (q:zU env x=some (.map (h.blks.length+j))) (b:L[j]?=some (.mapo (m.map (mrow kv vv)) 0)) (l:zU env y=some (kv k)) :
  zn P o env (h.ext L M)=.ok (vv (xg eq d m k)) (h.ext L M):=by
 obtain ⟨g,n⟩:=zw q;obtain ⟨s,p⟩:=zw l;simp only [zn,i,g,n,s,p,c,Bool.and_self,if_true,aLookup,a.1,a.2,zQ,b,aFind_is a d k m 0,f];cases hm:qt eq m k with
 | true=>simp [qh,oo]
 | false =>
  have:xg eq d m k=d:=by
   clear b
   induction m with
   | nil=>rfl
   | cons e r ih=>simp only [qt,Bool.or_eq_false_iff] at hm;simp only [xg,hm.1,Bool.false_eq_true,if_false];exact ih hm.2
  simp [qh,oo,this]
theorem e_entry {B:List Blk} (l:o.op=.mapEntry t x y) (c:P.underlying t=some (.map kt et)) (b:KQ P kt kv eq) (f:vT P et=some (vv d)) (v:zU env x=some (.map (h.blks.length+j))) (a:L[j]?=some (.mapo (m.map (mrow kv vv)) 0)) (p:zU env y=some (kv k))
  (n:L.set j (.mapo ((ment eq d m k).map (mrow kv vv)) 0)=B):zn P o env (h.ext L M)=.ok (.tup [vv (xg eq d m k),.int .i64 (midx eq m k)]) (h.ext B M):=by
 obtain ⟨g,s⟩:=zw v;obtain ⟨w,u⟩:=zw p;subst n;simp only [zn,l,g,s,w,u,c,Bool.and_self,if_true,aEntry,b.1,b.2,zQ,a,aFind_is b d k m 0,f,ment];cases hm:qt eq m k with
 | true =>
  have:L.set j (.mapo (m.map (mrow kv vv)) 0)=L:=by
   apply List.ext_getElem?;intro i;rw [List.getElem?_set];split
   ·rename_i hi;subst hi;rw [if_pos (List.getElem?_eq_some_iff.1 a).1,a]
   ·rfl
  simp [ovh,this]
 | false =>
  have q:xg eq d m k=d:=by
   clear a
   induction m with
   | nil=>rfl
   | cons e r ih=>simp only [qt,Bool.or_eq_false_iff] at hm;simp only [xg,hm.1,Bool.false_eq_true,if_false];exact ih hm.2
  simp [ovh,q,vz,mrow,midx_eq hm]
theorem e_entryStore {B:List Blk} {v:W} {i:Int} {s:IntKind} (F:o.op=.entryStore t x y z) (D:zU env x=some (.map (h.blks.length+j))) (n:L[j]?=some (.mapo ((ment eq d m k).map (mrow kv vv)) 0)) (r:zU env y=some (.int s i)) (hi:i=midx eq m k) {a:AV} (u:zU env z=some a) (f:a.zcl=vv v)
  (q:L.set j (.mapo ((mput eq m k v).map (mrow kv vv)) 0)=B):zn P o env (h.ext L M)=.ok aundef (h.ext B M):=by
 obtain ⟨E,A⟩:=zw D;obtain ⟨l,C⟩:=zw r;obtain ⟨p,w⟩:=zw u;subst q hi;have h0:(0:Int)<=(midx eq m k:Int):=by omega
 have key:∃e,(ment eq d m k)[midx eq m k]?=some e/\(ment eq d m k).set (midx eq m k) (e.1,v)=mput eq m k v:=by
  unfold ment;cases hm:qt eq m k with
  | true =>
   have g:=midx_lt hm;exact ⟨m[midx eq m k],by simp [g],by simpa using mput_has hm (List.getElem?_eq_getElem g)⟩
  | false =>
   refine ⟨(k,d),by simp [midx_eq hm],?_⟩;simp only [Bool.false_eq_true,if_false,midx_eq hm];rw [<- mput_not hm];simp
 obtain ⟨e,b,c⟩:=key;simp only [zn,F,E,A,l,C,p,w,f,Bool.and_self,if_true,vN,zQ,n,h0,Int.toNat_natCast,List.getElem?_map,b,Option.map_some,oh,vz,<- c,List.map_set];rfl
theorem ops_mlen {Q:List AV->AH->Prop} {rest:List Oper} {a:List AV} {c:Call} (i:aG ops o env=some true) (r:o.op=.call c) (s:c.callee=.builtin .len) (f:c.args=#[x]) (b:c.argTypes=#[t]) (p:P.underlying t=some (.map kt et))
  (n:zU env x=some (.map (h.blks.length+j))) (g:L[j]?=some (.mapo (m.map (mrow kv vv)) 0)) (hd:xw o.dst env (.int .i64 m.length)=some a) (u:zp P ops Q rest a (h.ext L M)):zp P ops Q (o::rest) env (h.ext L M):=by
 obtain ⟨q,l⟩:=zw n;have key:zn P o env (h.ext L M)=.any λv e=>e=h.ext L M/\v=.int .i64 m.length:=by
  simp [zn,r,s,f,b,q,l,vO,p,zQ,g]
 refine wO ?_;simp only [i,gwp,key,rwp]
 rintro v e ⟨rfl,rfl⟩
 rw [yY hd];exact u

theorem mgetD_app {eq:K->K->Bool} {d:W} {k:K} (a:eq k k=true):∀{m:List (K×W)},xg eq d (m++[(k,d)]) k=xg eq d m k
 | []=>by simp [xg,a]
 | e::r=>by simp [xg,mgetD_app a]
theorem mgetD_ment {eq:K->K->Bool} {d:W} {k:K} (a:eq k k=true) {m:List (K×W)}:xg eq d (ment eq d m k) k=xg eq d m k:=by
 unfold ment;split
 ·rfl
 ·exact mgetD_app a
def MapE (h:AH) (j:Nat) (m1 m2:List (AV×AV)) (x:AH):Prop:=∃B T,x=h.ext B T/\(B[j]?=some (.mapo m1 0) \/ B[j]?=some (.mapo m2 0))
theorem e_lookupF (g:o.op=.lookup t x y false) (e:P.underlying t=some (.map kt et)) (b:KQ P kt kv eq) (f:vT P et=some (vv d)) (l:zU env x=some (.map (h.blks.length+j))) (i:zU env y=some (kv k)) :
  ∀c,MapE h j (m.map (mrow kv vv)) ((ment eq d m k).map (mrow kv vv)) c->zn P o env c=.ok (vv (xg eq d m k)) c:=by
 rintro _ ⟨B,T,rfl,a | a⟩
 ·exact e_lookup g e b f l a i
 ·rw [<- mgetD_ment (m:=m) (d:=d) (b.2 k)];exact e_lookup g e b f l a i
theorem FOk.skip {b:Nat} {Ns:List Nat} {F:Nat->AH->Prop} {h:AH} (c:Ns.all (λn=>b.testBit n)=true):FOk b Ns F h:=λn e a=>by
 rw [List.all_eq_true] at c;rw [c n (by simpa using e)] at a;cases a
end
end Go.Vv
