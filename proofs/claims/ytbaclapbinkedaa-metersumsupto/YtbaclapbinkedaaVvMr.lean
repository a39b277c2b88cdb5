/- Rules for maps: lists of keys and values. -/
import Derived.Test.YtbaclapbinkedaaVvZ
namespace Go.Vv
open Go
section
variable {K W:Type}
def wQ (eq:K→K→Bool) (d:W):List (K×W)→K→W
 | [],_=>d
 | e::r,k=>if eq k e.1 then e.2 else wQ eq d r k
def mhas (eq:K→K→Bool):List (K×W)→K→Bool
 | [],_=>false
 | e::r,k=>eq k e.1 || mhas eq r k
def midx (eq:K→K→Bool):List (K×W)→K→Nat
 | [],_=>0
 | e::r,k=>if eq k e.1 then 0 else midx eq r k+1
def mput (eq:K→K→Bool):List (K×W)→K→W→List (K×W)
 | [],k,v=>[(k,v)]
 | e::r,k,v=>if eq k e.1 then (e.1,v)::r else e::mput eq r k v
def mputN (eq:K→K→Bool):List (K×W)→K→W→List (K×W)
 | [],k,v=>[(k,v)]
 | e::r,k,v=>if eq k e.1 then (k,v)::r else e::mputN eq r k v
def ment (eq:K→K→Bool) (d:W) (m:List (K×W)) (k:K):List (K×W):=if mhas eq m k then m else m++[(k,d)]
def mrow (kv:K→AV) (vv:W→AV) (e:K×W):AV×AV:=(kv e.1,vv e.2)

theorem midx_lt {eq:K→K→Bool} {k:K}:∀ {m:List (K×W)},mhas eq m k=true→midx eq m k < m.length
 | [],h=>by simp [mhas] at h
 | e::r,h=>by
  simp only [mhas,midx,List.length_cons] at h ⊢
  by_cases hk:eq k e.1=true
  ·simp [hk]
  ·simp only [hk,Bool.false_or,if_false,Bool.false_eq_true] at h ⊢
   have:=midx_lt h;omega
theorem midx_eq {eq:K→K→Bool} {k:K}:∀ {m:List (K×W)},mhas eq m k=false→midx eq m k=m.length
 | [],h=>rfl
 | e::r,h=>by
  simp only [mhas,midx,List.length_cons,Bool.or_eq_false_iff] at h ⊢
  simp [h.1,midx_eq h.2]
theorem mput_has {eq:K→K→Bool} {k:K} {v:W}:∀ {m:List (K×W)} {e:K×W},mhas eq m k=true→m[midx eq m k]?=some e→m.set (midx eq m k) (e.1,v)=mput eq m k v
 | [],_,h,_=>by simp [mhas] at h
 | p::r,e,h,he=>by
  simp only [mhas,midx,mput] at h he ⊢
  by_cases hk:eq k p.1=true
  ·simp only [hk,if_true,List.getElem?_cons_zero,Option.some.injEq] at he ⊢
   subst he;rfl
  ·simp only [hk,Bool.false_or,if_false,Bool.false_eq_true,List.getElem?_cons_succ] at h he ⊢
   rw [List.set_cons_succ,mput_has h he]
theorem mput_not {eq:K→K→Bool} {k:K} {v:W}:∀ {m:List (K×W)},mhas eq m k=false→m++[(k,v)]=mput eq m k v
 | [],_=>rfl
 | p::r,h=>by
  simp only [mhas,mput,Bool.or_eq_false_iff] at h ⊢
  simp [h.1,mput_not h.2]
def KQ (P:Program) (kt:TypeId) (kv:K→AV) (eq:K→K→Bool):Prop:=(∀ a b,wG P kt (kv a) (kv b)=some (eq a b))∧∀ a,eq a a=true
theorem KQ.str {P:Program} {t:TypeId} {z:Nat} (h:Ty P t .string z):KQ P t AV.str (fun a b=>a==b):=⟨fun a b=>by simp only [wG,h.u,aEq1],fun a=>by simp⟩
theorem KQ.int {P:Program} {t:TypeId} {i:IntKind} {z:Nat} (h:Ty P t (.int i) z):KQ P t (AV.int i) (fun a b=>a==b):=⟨fun a b=>by simp only [wG,h.u,aEq1,if_true],fun a=>by simp⟩
theorem KQ.struct {P:Program} {t:TypeId} {fs:Array Field} {ks:List Kd} {row:K→List AV} {eq:K→K→Bool} (hu:P.underlying t=some (.struct fs)) (hk:PK P t ks) (h:∀ a b,qW ks (row a) (row b)=some (eq a b)) (hr:∀ a,eq a a=true):KQ P t (fun x=>.agg (row x)) eq :=
 ⟨fun a b=>by simp only [wG,hu,hk.k,h],hr⟩

variable {P:Program} {kt et t:TypeId} {kv:K→AV} {vv:W→AV} {eq:K→K→Bool} {d:W}
theorem aFind_is (hq:KQ P kt kv eq) (d:W) (k:K):∀ (m:List (K×W)) (i:Nat),aFind P kt (kv k) (m.map (mrow kv vv)) i=some (if mhas eq m k then some (i+midx eq m k,vv (wQ eq d m k)) else none)
 | [],i=>rfl
 | e::r,i=>by
  have ih:=aFind_is hq d k r (i+1)
  simp only [List.map_cons,aFind]
  have e0:wG P kt (kv k) (mrow kv vv e).1=some (eq k e.1):=hq.1 _ _
  rw [e0]
  by_cases h:eq k e.1=true
  ·have e1:mhas eq (e::r) k=true:=by simp [mhas,h]
   have e2:midx eq (e::r) k=0:=by simp [midx,h]
   have e3:wQ eq d (e::r) k=e.2:=by simp [wQ,h]
   rw [e1,e2,e3,h];rfl
  ·simp only [Bool.not_eq_true] at h
   have e1:mhas eq (e::r) k=mhas eq r k:=by simp [mhas,h]
   have e2:midx eq (e::r) k=midx eq r k+1:=by simp [midx,h]
   have e3:wQ eq d (e::r) k=wQ eq d r k:=by simp [wQ,h]
   rw [e1,e2,e3,h]
   simp only [ih]
   rw [show i+1+midx eq r k=i+(midx eq r k+1) by omega]

variable {ops:Array Oper} {o:Oper} {env:List AV} {h:AH} {L:List Blk} {M:List Nat} {m:List (K×W)} {k:K} {j:Nat} {x y z:Operand}
theorem e_makeMap {n:Nat} (ho:o.op=.makeMap t none) (hn:L.length=n):zN P o env (h.ext L M)=.ok (.map (h.blks.length+n)) (h.ext (L++[.mapo [] 0]) M):=by
 simp only [zN,ho,ext_new,← hn];simp [AH.ext]
theorem e_lookup (ho:o.op=.lookup t x y false) (ht:P.underlying t=some (.map kt et)) (hq:KQ P kt kv eq) (hz:aZeroM P et=some (vv d)) (hx:yZ env x=some (.map (h.blks.length+j))) (hj:L[j]?=some (.mapo (m.map (mrow kv vv)) 0)) (hy:yZ env y=some (kv k)) :
  zN P o env (h.ext L M)=.ok (vv (wQ eq d m k)) (h.ext L M):=by
 obtain ⟨h1,h2⟩:=yu hx
 obtain ⟨h3,h4⟩:=yu hy
 simp only [zN,ho,h1,h2,h3,h4,ht,Bool.and_self,if_true,aLookup,hq.1,hq.2,wF,hj,aFind_is hq d k m 0,hz]
 cases hm:mhas eq m k with
 | true=>simp [withOk,oo]
 | false =>
  have:wQ eq d m k=d:=by
   clear hj
   induction m with
   | nil=>rfl
   | cons e r ih=>simp only [mhas,Bool.or_eq_false_iff] at hm;simp only [wQ,hm.1,Bool.false_eq_true,if_false];exact ih hm.2
  simp [withOk,oo,this]
theorem e_entry {B:List Blk} (ho:o.op=.mapEntry t x y) (ht:P.underlying t=some (.map kt et)) (hq:KQ P kt kv eq) (hz:aZeroM P et=some (vv d)) (hx:yZ env x=some (.map (h.blks.length+j))) (hj:L[j]?=some (.mapo (m.map (mrow kv vv)) 0)) (hy:yZ env y=some (kv k))
  (hB:L.set j (.mapo ((ment eq d m k).map (mrow kv vv)) 0)=B):zN P o env (h.ext L M)=.ok (.tup [vv (wQ eq d m k),.int .i64 (midx eq m k)]) (h.ext B M):=by
 obtain ⟨h1,h2⟩:=yu hx
 obtain ⟨h3,h4⟩:=yu hy
 subst hB
 simp only [zN,ho,h1,h2,h3,h4,ht,Bool.and_self,if_true,aEntry,hq.1,hq.2,wF,hj,aFind_is hq d k m 0,hz,ment]
 cases hm:mhas eq m k with
 | true =>
  have:L.set j (.mapo (m.map (mrow kv vv)) 0)=L:=by
   apply List.ext_getElem?
   intro i
   rw [List.getElem?_set]
   split
   ·rename_i hi;subst hi;rw [if_pos (List.getElem?_eq_some_iff.1 hj).1,hj]
   ·rfl
  simp [ovh,this]
 | false =>
  have e1:wQ eq d m k=d:=by
   clear hj
   induction m with
   | nil=>rfl
   | cons e r ih=>simp only [mhas,Bool.or_eq_false_iff] at hm;simp only [wQ,hm.1,Bool.false_eq_true,if_false];exact ih hm.2
  simp [ovh,e1,ext_put,mrow,midx_eq hm]
theorem e_entryStore {B:List Blk} {v:W} {i:Int} {kd:IntKind} (ho:o.op=.entryStore t x y z) (hx:yZ env x=some (.map (h.blks.length+j))) (hj:L[j]?=some (.mapo ((ment eq d m k).map (mrow kv vv)) 0)) (hy:yZ env y=some (.int kd i)) (hi:i=midx eq m k) {a:AV} (hz:yZ env z=some a) (hzc:a.zcl=vv v)
  (hB:L.set j (.mapo ((mput eq m k v).map (mrow kv vv)) 0)=B):zN P o env (h.ext L M)=.ok za (h.ext B M):=by
 obtain ⟨h1,h2⟩:=yu hx
 obtain ⟨h3,h4⟩:=yu hy
 obtain ⟨h5,h6⟩:=yu hz
 subst hB hi
 have h0:(0:Int)≤(midx eq m k:Int):=by omega
 have key:∃ e,(ment eq d m k)[midx eq m k]?=some e∧(ment eq d m k).set (midx eq m k) (e.1,v)=mput eq m k v:=by
  unfold ment
  cases hm:mhas eq m k with
  | true =>
   have hl:=midx_lt hm
   exact ⟨m[midx eq m k],by simp [hl],by simpa using mput_has hm (List.getElem?_eq_getElem hl)⟩
  | false =>
   refine ⟨(k,d),by simp [midx_eq hm],?_⟩
   simp only [Bool.false_eq_true,if_false,midx_eq hm]
   rw [← mput_not hm];simp
 obtain ⟨e,he1,he2⟩:=key
 simp only [zN,ho,h1,h2,h3,h4,h5,h6,hzc,Bool.and_self,if_true,aEntryStore,wF,hj,h0,Int.toNat_natCast,List.getElem?_map,he1,Option.map_some,oh,ext_put,← he2,List.map_set]
 rfl
theorem ops_mlen {Q:List AV→AH→Prop} {rest:List Oper} {env':List AV} {c:Call} (hg:aG ops o env=some true) (ho:o.op=.call c) (hc:c.callee=.builtin .len) (ha:c.args=#[x]) (hty:c.argTypes=#[t]) (ht:P.underlying t=some (.map kt et))
  (hx:yZ env x=some (.map (h.blks.length+j))) (hj:L[j]?=some (.mapo (m.map (mrow kv vv)) 0)) (hd:vl o.dst env (.int .i64 m.length)=some env') (hk:ym P ops Q rest env' (h.ext L M)):ym P ops Q (o::rest) env (h.ext L M):=by
 obtain ⟨h1,h2⟩:=yu hx
 have key:zN P o env (h.ext L M)=.any fun v h'=>h'=h.ext L M∧v=.int .i64 m.length:=by
  simp [zN,ho,hc,ha,hty,h1,h2,qh,ht,wF,hj]
 refine qg ?_
 simp only [hg,gwp,key,rwp]
 rintro v h' ⟨rfl,rfl⟩
 rw [wl hd];exact hk

theorem mgetD_app {eq:K→K→Bool} {d:W} {k:K} (hr:eq k k=true):∀ {m:List (K×W)},wQ eq d (m++[(k,d)]) k=wQ eq d m k
 | []=>by simp [wQ,hr]
 | e::r=>by simp [wQ,mgetD_app hr]
theorem mgetD_ment {eq:K→K→Bool} {d:W} {k:K} (hr:eq k k=true) {m:List (K×W)}:wQ eq d (ment eq d m k) k=wQ eq d m k:=by
 unfold ment
 split
 ·rfl
 ·exact mgetD_app hr
def MapE (h:AH) (j:Nat) (m1 m2:List (AV×AV)) (x:AH):Prop:=∃ B T,x=h.ext B T∧(B[j]?=some (.mapo m1 0) ∨ B[j]?=some (.mapo m2 0))
theorem e_lookupF (ho:o.op=.lookup t x y false) (ht:P.underlying t=some (.map kt et)) (hq:KQ P kt kv eq) (hz:aZeroM P et=some (vv d)) (hx:yZ env x=some (.map (h.blks.length+j))) (hy:yZ env y=some (kv k)) :
  ∀ h2,MapE h j (m.map (mrow kv vv)) ((ment eq d m k).map (mrow kv vv)) h2→zN P o env h2=.ok (vv (wQ eq d m k)) h2:=by
 rintro _ ⟨B,T,rfl,hj | hj⟩
 ·exact e_lookup ho ht hq hz hx hj hy
 ·rw [← mgetD_ment (m:=m) (d:=d) (hq.2 k)]
  exact e_lookup ho ht hq hz hx hj hy
theorem FOk.skip {b:Nat} {Ns:List Nat} {F:Nat→AH→Prop} {h:AH} (hb:Ns.all (fun n=>b.testBit n)=true):FOk b Ns F h:=fun n hn hf=>by
 rw [List.all_eq_true] at hb
 rw [hb n (by simpa using hn)] at hf;cases hf
end
end Go.Vv
