/- Rules for maps: lists of keys and values. -/
import Derived.Test.YtcociipjgndnaaaGreatVvZ
namespace Go.Vv
open Go
section
variable {K W:Type}
def wO (eq:K->K->Bool) (d:W):List (K×W)->K->W
 | [],_=>d
 | e::r,k=>if eq k e.1 then e.2 else wO eq d r k
def mhas (eq:K->K->Bool):List (K×W)->K->Bool
 | [],_=>false
 | e::r,k=>eq k e.1 || mhas eq r k
def midx (eq:K->K->Bool):List (K×W)->K->Nat
 | [],_=>0
 | e::r,k=>if eq k e.1 then 0 else midx eq r k+1
def mput (eq:K->K->Bool):List (K×W)->K->W->List (K×W)
 | [],k,v=>[(k,v)]
 | e::r,k,v=>if eq k e.1 then (e.1,v)::r else e::mput eq r k v
def ment (eq:K->K->Bool) (d:W) (m:List (K×W)) (k:K):List (K×W):=if mhas eq m k then m else m++[(k,d)]
def mrow (kv:K->AV) (vv:W->AV) (e:K×W):AV×AV:=(kv e.1,vv e.2)

theorem midx_lt {eq:K->K->Bool} {k:K}:∀{m:List (K×W)},mhas eq m k=true->midx eq m k < m.length
 | [],h=>by simp [mhas] at h
 | e::r,h=>by
  simp only [mhas,midx,uk] at h ⊢;by_cases hk:eq k e.1=true
  ·simp [hk]
  ·simp only [hk,tr,uG,ul] at h ⊢;have:=midx_lt h;omega
theorem midx_eq {eq:K->K->Bool} {k:K}:∀{m:List (K×W)},mhas eq m k=false->midx eq m k=m.length
 | [],h=>rfl
 | e::r,h=>by
  simp only [mhas,midx,uk,sL] at h ⊢;simp [h.1,midx_eq h.2]
theorem mput_has {eq:K->K->Bool} {k:K} {v:W}:∀{m:List (K×W)} {e:K×W},mhas eq m k=true->m[midx eq m k]?=some e->m.set (midx eq m k) (e.1,v)=mput eq m k v
 | [],_,h,_=>by simp [mhas] at h
 | p::r,e,h,he=>by
  simp only [mhas,midx,mput] at h he ⊢;by_cases hk:eq k p.1=true
  ·simp only [hk,ut,pc,un] at he ⊢;subst he;rfl
  ·simp only [hk,tr,uG,ul,s6] at h he ⊢;rw [ue,mput_has h he]
theorem mput_not {eq:K->K->Bool} {k:K} {v:W}:∀{m:List (K×W)},mhas eq m k=false->m++[(k,v)]=mput eq m k v
 | [],_=>rfl
 | p::r,h=>by
  simp only [mhas,mput,sL] at h ⊢;simp [h.1,mput_not h.2]
def KQ (P:Program) (kt:TypeId) (kv:K->AV) (eq:K->K->Bool):Prop:=(∀a b,xe P kt (kv a) (kv b)=some (eq a b))/\∀a,eq a a=true
theorem KQ.str {P:Program} {t:TypeId} {z:Nat} (h:Ty P t .string z):KQ P t AV.str (λa b=>a==b):=⟨λa b=>by simp only [xe,h.u,aEq1],λa=>by simp⟩
theorem KQ.int {P:Program} {t:TypeId} {i:IntKind} {z:Nat} (h:Ty P t (.int i) z):KQ P t (AV.int i) (λa b=>a==b):=⟨λa b=>by simp only [xe,h.u,aEq1,ut],λa=>by simp⟩
theorem KQ.struct {P:Program} {t:TypeId} {fs:Array Field} {c:List Kd} {row:K->List AV} {eq:K->K->Bool} (e:P.underlying t=some (.struct fs)) (f:PK P t c) (h:∀a b,aEqL c (row a) (row b)=some (eq a b)) (g:∀a,eq a a=true):KQ P t (λx=>.agg (row x)) eq :=
 ⟨λa b=>by simp only [xe,e,f.k,h],g⟩

variable {P:Program} {kt et t:TypeId} {kv:K->AV} {vv:W->AV} {eq:K->K->Bool} {d:W}
theorem aFind_is (f:KQ P kt kv eq) (d:W) (k:K):∀(m:List (K×W)) (i:Nat),aFind P kt (kv k) (m.map (mrow kv vv)) i=some (if mhas eq m k then some (i+midx eq m k,vv (wO eq d m k)) else none)
 | [],i=>rfl
 | e::r,i=>by
  have l:=aFind_is f d k r (i+1);simp only [uC,aFind];have g:xe P kt (kv k) (mrow kv vv e).1=some (eq k e.1):=f.1 _ _;rw [g];by_cases h:eq k e.1=true
  ·have a:mhas eq (e::r) k=true:=by simp [mhas,h]
   have b:midx eq (e::r) k=0:=by simp [midx,h]
   have c:wO eq d (e::r) k=e.2:=by simp [wO,h]
   rw [a,b,c,h];rfl
  ·simp only [rO] at h;have a:mhas eq (e::r) k=mhas eq r k:=by simp [mhas,h]
   have b:midx eq (e::r) k=midx eq r k+1:=by simp [midx,h]
   have c:wO eq d (e::r) k=wO eq d r k:=by simp [wO,h]
   rw [a,b,c,h];simp only [l];rw [show i+1+midx eq r k=i+(midx eq r k+1) by omega]

variable {ops:Array Oper} {o:Oper} {env:List AV} {h:AH} {L:List Blk} {M:List Nat} {m:List (K×W)} {k:K} {j:Nat} {x y z:Operand}
theorem e_makeMap {n:Nat} (b:o.op=.makeMap t none) (a:L.length=n):zw P o env (h.ext L M)=.ok (.map (h.blks.length+n)) (h.ext (L++[.mapo [] 0]) M):=by
 simp only [zw,b,ext_new,<- a];simp [AH.ext]
theorem e_lookup (p:o.op=.lookup t x y false) (i:P.underlying t=some (.map kt et)) (a:KQ P kt kv eq) (s:aZeroM P et=some (vv d)) (c:yF env x=some (.map (h.blks.length+j))) (b:L[j]?=some (.mapo (m.map (mrow kv vv)) 0)) (l:yF env y=some (kv k)) :
  zw P o env (h.ext L M)=.ok (vv (wO eq d m k)) (h.ext L M):=by
 obtain ⟨g,f⟩:=zO c;obtain ⟨n,q⟩:=zO l;simp only [zw,p,g,f,n,q,i,u5,ut,aLookup,a.1,a.2,yA,b,aFind_is a d k m 0,s];cases hm:mhas eq m k with
 | true=>simp [withOk,oo]
 | false =>
  have:wO eq d m k=d:=by
   clear b
   induction m with
   | nil=>rfl
   | cons e r ih=>simp only [mhas,sL] at hm;simp only [wO,hm.1,ul,uG];exact ih hm.2
  simp [withOk,oo,this]
theorem e_entry {B:List Blk} (u:o.op=.mapEntry t x y) (n:P.underlying t=some (.map kt et)) (b:KQ P kt kv eq) (w:aZeroM P et=some (vv d)) (c:yF env x=some (.map (h.blks.length+j))) (a:L[j]?=some (.mapo (m.map (mrow kv vv)) 0)) (q:yF env y=some (kv k))
  (f:L.set j (.mapo ((ment eq d m k).map (mrow kv vv)) 0)=B):zw P o env (h.ext L M)=.ok (.tup [vv (wO eq d m k),.int .i64 (midx eq m k)]) (h.ext B M):=by
 obtain ⟨l,g⟩:=zO c;obtain ⟨s,v⟩:=zO q;subst f;simp only [zw,u,l,g,s,v,n,u5,ut,aEntry,b.1,b.2,yA,a,aFind_is b d k m 0,w,ment];cases hm:mhas eq m k with
 | true =>
  have:L.set j (.mapo (m.map (mrow kv vv)) 0)=L:=by
   apply tu;intro i;rw [rj];split
   ·rename_i hi;subst hi;rw [up (uc.1 a).1,a]
   ·rfl
  simp [ovh,this]
 | false =>
  have p:wO eq d m k=d:=by
   clear a
   induction m with
   | nil=>rfl
   | cons e r ih=>simp only [mhas,sL] at hm;simp only [wO,hm.1,ul,uG];exact ih hm.2
  simp [ovh,p,ext_put,mrow,midx_eq hm]
theorem e_entryStore {B:List Blk} {v:W} {i:Int} {l:IntKind} (E:o.op=.entryStore t x y z) (r:yF env x=some (.map (h.blks.length+j))) (q:L[j]?=some (.mapo ((ment eq d m k).map (mrow kv vv)) 0)) (C:yF env y=some (.int l i)) (hi:i=midx eq m k) {a:AV} (F:yF env z=some a) (c:a.zcl=vv v)
  (A:L.set j (.mapo ((mput eq m k v).map (mrow kv vv)) 0)=B):zw P o env (h.ext L M)=.ok aundef (h.ext B M):=by
 obtain ⟨u,s⟩:=zO r;obtain ⟨D,w⟩:=zO C;obtain ⟨n,p⟩:=zO F;subst A hi;have h0:(0:Int)<=(midx eq m k:Int):=by omega
 have key:∃e,(ment eq d m k)[midx eq m k]?=some e/\(ment eq d m k).set (midx eq m k) (e.1,v)=mput eq m k v:=by
  unfold ment;cases hm:mhas eq m k with
  | true =>
   have g:=midx_lt hm;exact ⟨m[midx eq m k],by simp [g],by simpa using mput_has hm (ug g)⟩
  | false =>
   refine ⟨(k,d),by simp [midx_eq hm],?_⟩;simp only [ul,uG,midx_eq hm];rw [<- mput_not hm];simp
 obtain ⟨e,b,f⟩:=key;simp only [zw,E,u,s,D,w,n,p,c,u5,ut,aEntryStore,yA,q,h0,uB,s5,b,u7,oh,ext_put,<- f,List.map_set];rfl
theorem ops_mlen {Q:List AV->AH->Prop} {rest:List Oper} {a:List AV} {c:Call} (s:aG ops o env=some true) (p:o.op=.call c) (q:c.callee=.builtin .len) (n:c.args=#[x]) (b:c.argTypes=#[t]) (f:P.underlying t=some (.map kt et))
  (i:yF env x=some (.map (h.blks.length+j))) (g:L[j]?=some (.mapo (m.map (mrow kv vv)) 0)) (hd:vZ o.dst env (.int .i64 m.length)=some a) (r:zH P ops Q rest a (h.ext L M)):zH P ops Q (o::rest) env (h.ext L M):=by
 obtain ⟨u,l⟩:=zO i;have key:zw P o env (h.ext L M)=.any λv e=>e=h.ext L M/\v=.int .i64 m.length:=by
  simp [zw,p,q,n,b,u,l,vP,f,yA,g]
 refine vO ?_;simp only [s,gwp,key,rwp]
 rintro v e ⟨rfl,rfl⟩
 rw [xG hd];exact r

theorem mgetD_app {eq:K->K->Bool} {d:W} {k:K} (a:eq k k=true):∀{m:List (K×W)},wO eq d (m++[(k,d)]) k=wO eq d m k
 | []=>by simp [wO,a]
 | e::r=>by simp [wO,mgetD_app a]
theorem mgetD_ment {eq:K->K->Bool} {d:W} {k:K} (a:eq k k=true) {m:List (K×W)}:wO eq d (ment eq d m k) k=wO eq d m k:=by
 unfold ment;split
 ·rfl
 ·exact mgetD_app a
def MapE (h:AH) (j:Nat) (m1 m2:List (AV×AV)) (x:AH):Prop:=∃B T,x=h.ext B T/\(B[j]?=some (.mapo m1 0) \/ B[j]?=some (.mapo m2 0))
theorem e_lookupF (i:o.op=.lookup t x y false) (f:P.underlying t=some (.map kt et)) (b:KQ P kt kv eq) (l:aZeroM P et=some (vv d)) (e:yF env x=some (.map (h.blks.length+j))) (g:yF env y=some (kv k)) :
  ∀a,MapE h j (m.map (mrow kv vv)) ((ment eq d m k).map (mrow kv vv)) a->zw P o env a=.ok (vv (wO eq d m k)) a:=by
 rintro _ ⟨B,T,rfl,c | c⟩
 ·exact e_lookup i f b l e c g
 ·rw [<- mgetD_ment (m:=m) (d:=d) (b.2 k)];exact e_lookup i f b l e c g
theorem FOk.skip {b:Nat} {Ns:List Nat} {F:Nat->AH->Prop} {h:AH} (c:Ns.all (λn=>b.testBit n)=true):FOk b Ns F h:=λn e a=>by
 rw [ux] at c;rw [c n (by simpa using e)] at a;cases a
end
end Go.Vv
