/- slices.Insert on a mutable row, at elements of any width: its text is walked; after the shelf's at texts. -/
import Derived.Shelf.Spec.SlicesInsertGrow
import Derived.Test.YtgeajmfobeecbaaGreatVvRb
import Derived.Test.YtgeajmfobeecbaaGreatVvMr
set_option linter.all false
namespace Go.Vv
open Go Go.RowKit Go.Lib Go.Shelf Go.Proofs
variable {b j:Nat}

def rtV:Operand->TypeId->TypeId->TypeId
 | .tmp n,τ,t=>bif [13,24,44,61,66,81,87,91].any (· == n) then τ else t
 | _,_,t=>t
def rtA (τ:TypeId):List Operand->List TypeId->List TypeId
 | x::r,t::s=>rtV x τ t::rtA τ r s
 | _,s=>s
def rtOper (τ:TypeId):Oper->Oper
 | ⟨d,.move (.tmp 2),_,p,a,g⟩=>⟨d,.move (.tmp 2),τ,p,a,g⟩
 | ⟨d,.call ⟨f,x,y⟩,t,p,a,g⟩=>⟨d,.call ⟨f,x,(rtA τ x.toList y.toList).toArray⟩,t,p,a,g⟩
 | o=>o
def rtCode (τ:TypeId):Code->Code
 | .region id ops d=>.region id (ops.toList.map (rtOper τ)).toArray d
 | .seq a b=>.seq (rtCode τ a) (rtCode τ b)
 | .cond c a b=>.cond c (rtCode τ a) (rtCode τ b)
 | .block id b=>.block id (rtCode τ b)
 | .loop b=>.loop (rtCode τ b)
 | c=>c
noncomputable def insF (ρ:Ren) (τ:TypeId) (nm:String) (ta:Array TypeId):Func :=
 { Body2.n22 ρ with name:=nm,targs:=ta,params:=#[ρ.t 24,ρ.t 3,τ],body:=(Body2.n22 ρ).body.map (rtCode τ) }
theorem insF_ntmps (ρ:Ren) (τ:TypeId) (c:String) (a:Array TypeId):(insF ρ τ c a).ntmps=95:=Body2.n22_ntmps ρ

structure InsLays (P:Program) (ρ:Ren) (τ:TypeId) (k:Nat):Prop where
 mixed:P.follows .mixedOrders=true
 f22 : ∃ nm ta, P.funcs[ρ.f 22]? = some (insF ρ τ nm ta) ∧ (nm == "runtime.NumGoroutine") = false
 f29:∀(args:Array Value) (w:World),(callFunc (ρ.f 29) args).run P w=((Extern.SlicesOverlaps.overlaps #[τ,τ] #[ρ.t 4] args).run P w).andThen λv w'=>.ok (.value v) w'
 t0:P.underlying (ρ.t 0)=some (TypeDesc.tuple #[])
 a0:∀w,(isAgg (ρ.t 0)).run P w=.ok false w
 z0:∀w,(Go.sizeOf (ρ.t 0)).run P w=.ok 1 w
 v0:∀w,(zeroValue (ρ.t 0)).run P w=.ok (Value.tuple #[]) w
 t3:P.underlying (ρ.t 3)=some (TypeDesc.int IntKind.i64)
 a3:∀w,(isAgg (ρ.t 3)).run P w=.ok false w
 z3:∀w,(Go.sizeOf (ρ.t 3)).run P w=.ok 1 w
 v3:∀w,(zeroValue (ρ.t 3)).run P w=.ok (Value.int IntKind.i64 0) w
 t4:P.underlying (ρ.t 4)=some (TypeDesc.bool)
 a4:∀w,(isAgg (ρ.t 4)).run P w=.ok false w
 z4:∀w,(Go.sizeOf (ρ.t 4)).run P w=.ok 1 w
 v4:∀w,(zeroValue (ρ.t 4)).run P w=.ok (Value.bool false) w
 t24:P.underlying (ρ.t 24)=some (TypeDesc.slice (ρ.t 9))
 a24:∀w,(isAgg (ρ.t 24)).run P w=.ok false w
 z24:∀w,(Go.sizeOf (ρ.t 24)).run P w=.ok 1 w
 v24:∀w,(zeroValue (ρ.t 24)).run P w=.ok (Value.slice none 0 0) w
 t23:P.underlying τ=some (TypeDesc.slice (ρ.t 9))
 a23:∀w,(isAgg τ).run P w=.ok false w
 z23:∀w,(Go.sizeOf τ).run P w=.ok 1 w
 v23:∀w,(zeroValue τ).run P w=.ok (Value.slice none 0 0) w
 i9:∃i z,P.info? (ρ.t 9)=some i/\i.zero=some z/\i.size=k/\z.cells.size=k/\i.bytes<=65536
 k0:0 < k

section
variable {P:Program} {ρ:Ren} {τ:TypeId} {k:Nat}
theorem run_copyK {w:World} {dT sT ty c:TypeId} {i:TypeInfo} {o dLen dCap sLen sCap n:Nat} {a:Addr} {cs:List Value} {cur:Array Value} {l:TypeId}
  (r:P.underlying dT=some (.slice c)) (hi:P.info? c=some i) (s:n=Nat.min sLen dLen) (f:cs.length=n * i.size)
  (e:∀j v,cs[j]?=some v->w.cell? (a.add j)=some v) (t:w.heap[b]?=some (.cells cur l (0,0))) (m:o+cs.length<=cur.size) (p:∀v ∈ cs,v.oneCell'=true) :
  (Builtin.copy_ #[dT,sT] ty #[.slice (some ⟨b,o,none⟩) dLen dCap,.slice (some a) sLen sCap]).run P w=.ok (goInt n) (w.setRow b (cur.toList.take o++cs++cur.toList.drop (o+cs.length)).toArray):=by
 have q:=run_loadCells_list (P:=P) w a cs e;have d:=run_storeCells_at P b o l cs 0 cur w t (by omega) p;simp only [tH] at d;simp [Builtin.copy_,run_underlying r,Builtin.lenOf,Builtin.firstCells,sizeOf,typeInfo,hi,<- s,<- f,q,d]

set_option maxHeartbeats 4000000 in
set_option maxRecDepth 100000 in
theorem ins_end (L:InsLays P ρ τ k) {d:Option Addr} {n c m:Nat} {xa:Option Addr} {vc:Nat} {w r:World} {u:Value} (Q:0 < m) (E:n<=c) (s:c<=9223372036854775807) (l:d=none->c=0)
  (i:∀ty,(Builtin.append_ #[ρ.t 24,τ] ty #[.slice d n c,.slice xa m vc]).run P w=.ok u r) :
  Calls P (ρ.f 22) #[.slice d n c,.int .i64 n,.slice xa m vc] w λe w'=>e=.returned u/\w'=r:=by
 have t0:=L.t0;have a0:=L.a0;have z0:=L.z0;have v0:=L.v0;have t3:=L.t3;have a3:=L.a3;have z3:=L.z3;have v3:=L.v3;have t4:=L.t4;have a4:=L.a4;have z4:=L.z4;have v4:=L.v4;have t24:=L.t24;have a24:=L.a24;have z24:=L.z24;have v24:=L.v24;have t23:=L.t23;have a23:=L.a23;have z23:=L.z23;have v23:=L.v23;have F:=run_underlying L.t23;have M:=run_underlying L.t0;have O:=run_underlying L.t3;have N:=run_underlying L.t4;have J:=run_underlying L.t24;have mixed:=L.mixed;obtain ⟨i9,z9,q,H,o,v,z⟩:=L.i9;have y:∀w,(Go.sizeOf (ρ.t 9)).run P w=.ok k w:=λw=>by rw [<- o];exact xq q
 have A:¬ ((m:Int)=0):=by omega
 obtain ⟨x,C,D,I⟩:=L.f22
 go_enter D,insF_ntmps ρ τ x C
 simp only [rtCode,rtOper,rtA,rtV,uD,tS,pG,pJ,Nat.reduceBEq,ph,px,tN,pK,cond_true,cond_false];cases d with
 | none =>
  have h0:=l rfl;subst h0;have p:n=0:=by omega
  subst p
  go_wp2_with (at_builtin;refine Lib.wpList_append_run _ rfl _ _ _ _ rfl _ _ rfl rfl _ _ (i _) ?_)
  all_goals (go_ret;exact ⟨rfl,rfl⟩)
 | some a =>
  obtain ⟨ab,K,G⟩:=a
  go_wp2_with (at_builtin;refine Lib.wpList_append_run _ rfl _ _ _ _ rfl _ _ rfl rfl _ _ (i _) ?_)
  all_goals (go_ret;exact ⟨rfl,rfl⟩)

theorem ins_ov (L:InsLays P ρ τ k) {w:World} {b vb o vo m vc lb cb:Nat} {cur curv:Array Value} {ty tyv:TypeId} {frv:Nat×Nat} (hc:w.heap[b]?=some (.cells cur ty (0,0))) (hcv:w.heap[vb]?=some (.cells curv tyv frv)) (h0:0 < cur.size) (h0v:0 < curv.size)
  (hsep:vb=b->vo+m * k<=o) :
  (callFunc (ρ.f 29) #[.slice (some ⟨vb,vo,none⟩) m vc,.slice (some ⟨b,o,none⟩) lb cb]).run P w=.ok (.value (.bool false)) w:=by
 rw [L.f29];have hfz:∀j,w.frozen? ⟨b,j,none⟩=false:=λj=>by simp [World.frozen?,hc]
 have hsh:w.shape? b=some (ty,cur.size):=by simp [World.shape?,hc]
 obtain ⟨kv,hkv⟩:∃x,curv.size=x+1:=⟨curv.size - 1,by omega⟩
 have hshv:w.shape? vb=some (tyv,kv+1):=by simp [World.shape?,hcv,hkv]
 have hz0:¬ cur.size=0:=by omega
 have u24:=run_underlying L.t23;obtain ⟨i9,z9,hi9,hz9,hs9,hzc9,hb9⟩:=L.i9;have zz9:∀w,(Go.sizeOf (ρ.t 9)).run P w=.ok k w:=λw=>by rw [<- hs9];exact xq hi9
 have:(Extern.SlicesOverlaps.overlaps #[τ,τ] #[ρ.t 4] #[.slice (some ⟨vb,vo,none⟩) m vc,.slice (some ⟨b,o,none⟩) lb cb]).run P w=.ok (.bool false) w:=by
  change Sem.run P (α:=Value) (do
   let some t := some τ | stuck "none"
   let .slice elem <- underlying t | stuck _
   let size <- sizeOf elem
   match (some (⟨vb,vo,none⟩:Addr):Option Addr),(some (⟨b,o,none⟩:Addr):Option Addr) with
   | some a,some b =>
    if m=0 \/ lb=0 \/ size=0 then pure (Value.bool false)
    else if a.block != b.block&&(<- frozen a)&&(<- frozen b) then unsupported .addressObserved
    else do
     if a.block != b.block then do
      noView a;noView b
      if <- mayBeOne a b then return Value.bool ((<- choose _)==1)
     pure (Value.bool (a.block==b.block&&a.off < b.off+lb * size&&b.off < a.off+m * size))
   | _,_=>pure (Value.bool false)) w=_
  by_cases h1:m=0 \/ lb=0 \/ k=0
  ·simp [u24,zz9,h1]
  ·by_cases hb:vb=b
   ·simp_all
   ·have hnb:(vb != b)=true:=by simpa using hb
    simp [u24,zz9,h1,hb,frozen,noView,viewAt,mayBeOne,stringish,shape,Sem.run,hsh,hshv,hfz,hz0]
 simp_all
set_option maxHeartbeats 4000000 in
set_option maxRecDepth 100000 in
theorem ins_shift (L:InsLays P ρ τ k) {b o n c i vb vo m vc:Nat} {cs vs:List Value} {cur p:Array Value} {ty A:TypeId} {z:Nat×Nat} {w:World} (hi:i < n) (hm:0 < m) (F:n+m<=c) (X:c<=9223372036854775807)
  (T:w.heap[b]?=some (.cells cur ty (0,0))) (hfit:o+c * k<=cur.size) (H:cs=(cur.toList.drop (o+i * k)).take ((n - i) * k)) (V:∀v ∈ cs,v.oneCell'=true)
  (s:w.heap[vb]?=some (.cells p A z)) (Q:∀j v,vs[j]?=some v->w.cell? ⟨vb,vo+j,none⟩=some v) (K:vs.length=m * k) (W:∀v ∈ vs,v.oneCell'=true) (D:vb=b->vo+m * k<=o) :
  Calls P (ρ.f 22) #[.slice (some ⟨b,o,none⟩) n c,.int .i64 i,.slice (some ⟨vb,vo,none⟩) m vc] w λe w'=>e=.returned (.slice (some ⟨b,o,none⟩) (n+m) c) /\
   w'=w.drew.setRow b (cur.toList.take (o+i * k)++(vs++cs)++cur.toList.drop (o+i * k+(vs++cs).length)).toArray:=by
 have t0:=L.t0;have a0:=L.a0;have z0:=L.z0;have v0:=L.v0;have t3:=L.t3;have a3:=L.a3;have z3:=L.z3;have v3:=L.v3;have t4:=L.t4;have a4:=L.a4;have z4:=L.z4;have v4:=L.v4;have t24:=L.t24;have a24:=L.a24;have z24:=L.z24;have v24:=L.v24;have t23:=L.t23;have a23:=L.a23;have z23:=L.z23;have v23:=L.v23;have u23:=run_underlying L.t23;have u0:=run_underlying L.t0;have u3:=run_underlying L.t3;have u4:=run_underlying L.t4;have u24:=run_underlying L.t24;have mixed:=L.mixed;have k0:=L.k0;obtain ⟨i9,z9,I,hz9,M,Y,hb9⟩:=L.i9;have zz9:∀w,(Go.sizeOf (ρ.t 9)).run P w=.ok k w:=λw=>by rw [<- M];exact xq I
 have hnk:(n+m) * k<=c * k:=tg k F;have hink:(i+m) * k+(n - i) * k=(n+m) * k:=by rw [<- tj];congr 1;omega
 have hik:i * k+(n - i) * k=n * k:=by rw [<- tj];congr 1;omega
 have himk:i * k+m * k=(i+m) * k:=by rw [<- tj]
 have S:cs.length=(n - i) * k:=by rw [H,tP,rf,sA];omega
 have G:0 < cur.size:=by
  have:1 * 1<=c * k:=s7 (by omega) k0;omega
 have hz1:¬ ((m:Int)=0):=by omega
 have hz2:¬ ((i:Int)=(n:Int)):=by omega
 have E:0 < p.size:=by
  have h1:0 < vs.length:=by rw [K];exact pd hm k0
  have h2:=Q 0 _ (ug h1);rw [cell_of_row w vb _ p A z s] at h2;have:=(uG.1 h2).1;omega
 have U:∀lb cb,(callFunc (ρ.f 29) #[.slice (some ⟨vb,vo,none⟩) m vc,.slice (some ⟨b,o+(i+m) * k,none⟩) lb cb]).run P w=.ok (.value (.bool false)) w:=λlb cb=>ins_ov L T s G E λh=>by have:=D h;omega
 have hw1:IntKind.i64.wrap ((i:Int)+(m:Int))=(i:Int)+(m:Int):=by rw [IntKind.wrap_i64];omega
 have hb1:(0:Int)<=(i:Int)+(m:Int):=by omega
 have hin:i<=n:=by omega
 have htn:((i:Int)+(m:Int)).toNat=i+m:=by omega
 have hb2:¬ (c=i+m):=by omega
 have hb3:(i:Int)<=(n:Int)+(m:Int):=by omega
 have hb4:¬ (c=i):=by omega
 obtain ⟨d,l⟩:∃x,x=(cur.toList.take (o+(i+m) * k)++cs++cur.toList.drop (o+(i+m) * k+cs.length)).toArray:=⟨_,rfl⟩
 have hs1:d.size=cur.size:=by rw [l];simp;omega
 have y:w.drew.heap[b]?=some (.cells cur ty (0,0)):=T;have R:∀ty J sc,(Builtin.copy_ #[(ρ.t 24),(ρ.t 24)] ty #[.slice (some ⟨b,o+(i+m) * k,none⟩) (n+m - (i+m)) J,.slice (some ⟨b,o+i * k,none⟩) (n+m - i) sc]).run P w.drew=.ok (goInt (n - i:Nat)) (w.drew.setRow b d):=λty J sc=>by
  have:=run_copyK (P:=P) (w:=w.drew) (dT:=ρ.t 24) (sT:=ρ.t 24) (ty:=ty) (i:=i9) (b:=b) (o:=o+(i+m) * k) (dLen:=n+m - (i+m)) (dCap:=J) (sLen:=n+m - i) (sCap:=sc) (n:=n - i) (a:=⟨b,o+i * k,none⟩) (cs:=cs) (cur:=cur)
   L.t24 I (by simp only [Nat.min_def];split <;> omega) (by rw [S,M]) (λj v r=>by
    rw [xF,cell_of_row w.drew b _ cur _ (0,0) y];rw [H,ur] at r;split at r
    ·rwa [uP,uI] at r
    ·cases r) y (by omega) V
  rw [this,l]
 have N:(w.drew.setRow b d).heap[b]?=some (.cells d ty (0,0)):=setRow_heap w.drew b cur d ty (0,0) y;obtain ⟨u,q⟩:∃x,x=(d.toList.take (o+i * k)++vs++d.toList.drop (o+i * k+vs.length)).toArray:=⟨_,rfl⟩
 have C:∀j v,vs[j]?=some v->(w.drew.setRow b d).cell? ⟨vb,vo+j,none⟩=some v:=λj v r=>by
  have h:=Q j v r;by_cases hb:vb=b
  ·have hs:=D hb;subst hb;rw [cell_of_row _ vb _ d ty (0,0) N];rw [cell_of_row w vb _ cur ty (0,0) T] at h;have hjl:=(uc.1 r).1;rw [l,sD,uz,uo (by simp;omega),ur,uF (by omega),uI];exact h
  ·obtain ⟨cv,Z⟩:∃cv,w.heap[vb]?=some cv:=⟨_,s⟩
   have e:(w.drew.setRow b d).heap[vb]?=w.heap[vb]?:=setRow_other w.drew b vb d hb;rw [cell_of_row _ vb _ p A z (e.trans s)];rw [cell_of_row w vb _ p A z s] at h;exact h
 have O:∀ty J,(Builtin.copy_ #[(ρ.t 24),τ] ty #[.slice (some ⟨b,o+i * k,none⟩) (n+m - i) J,.slice (some ⟨vb,vo,none⟩) m vc]).run P (w.drew.setRow b d)=.ok (goInt m) ((w.drew.setRow b d).setRow b u):=λty J=>by
  have:=run_copyK (P:=P) (w:=w.drew.setRow b d) (dT:=ρ.t 24) (sT:=τ) (ty:=ty) (i:=i9) (b:=b) (o:=o+i * k) (dLen:=n+m - i) (dCap:=J) (sLen:=m) (sCap:=vc) (n:=m) (a:=⟨vb,vo,none⟩) (cs:=vs) (cur:=d)
   L.t24 I (by simp only [Nat.min_def];split <;> omega) (by rw [K,M]) (λj v r=>by rw [xF];exact C j v r) N (by omega) W
  rw [this,q]
 have hfin:(w.drew.setRow b d).setRow b u=w.drew.setRow b (cur.toList.take (o+i * k)++(vs++cs)++cur.toList.drop (o+i * k+(vs++cs).length)).toArray:=by
  have e:u=(cur.toList.take (o+i * k)++(vs++cs)++cur.toList.drop (o+i * k+(vs++cs).length)).toArray:=by
   rw [q,l];congr 1;simp only [uz];congr 1
   ·rw [u7 (by simp;omega),pC,sW (by omega)]
   ·congr 1;rw [ri,tq (by simp;omega)];simp only [tP,sA,uU];rw [sW (by omega),show o+i * k+vs.length - (o+(i+m) * k)=0 by omega,sq];simp only [um];rw [show o+i * k+(vs.length+cs.length)=o+(i+m) * k+cs.length by omega]
  rw [<- e];unfold World.setRow;congr 1;apply ry;intro j;simp only [sY];by_cases r:b=j
  ·subst r;simp [y]
  ·simp [r]
 obtain ⟨nm,ta,hf,hnm⟩:=L.f22;clear l q H y N C
 go_enter hf,insF_ntmps ρ τ nm ta
 simp only [rtCode,rtOper,rtA,rtV,uD,tS,pG,pJ,Nat.reduceBEq,ph,px,tN,pK,cond_true,cond_false]
 go_wp2_with (simp only [U])
 go_region_law_o (refine step_copy_runI rfl _ _ (ρ.t 24) (ρ.t 24) rfl _ _ (by simp [Act.eval,Act.put]) (by simp [Act.eval,Act.put]) (R _ _ _) ?_)
 go_wp2_with (at_builtin;refine wpList_copy_runI _ rfl _ _ (ρ.t 24) τ rfl _ _ rfl rfl (O _ _) ?_)
 go_ret
 exact ⟨rfl,by simp [K,S]⟩

theorem cell_lt {w:World} {v:Value} (h:w.cell? ⟨b,j,none⟩=some v):b < w.heap.size:=World.block_lt_of_cell? w ⟨b,j,none⟩ h
theorem cell_alloc {w:World} {o:Obj} {v:Value} (h:w.cell? ⟨b,j,none⟩=some v):(w.alloc o).cell? ⟨b,j,none⟩=some v:=by
 rw [World.cell?_alloc_lt w o ⟨b,j,none⟩ (cell_lt h)];exact h
set_option maxHeartbeats 4000000 in
set_option maxRecDepth 100000 in
theorem ins_grow (L:InsLays P ρ τ k) {b o n c i vb vo m vc:Nat} {os cs vs:List Value} {z9:Value} {i9:TypeInfo} {w:World} (hi:i < n) (hm:0 < m) (hnc:n<=c) (M:c < n+m) (K:n+m<=yN)
  (s:P.info? (ρ.t 9)=some i9) (hz9:i9.zero=some z9)
  (S:os.length=i * k) (V:∀j v,os[j]?=some v->w.cell? ⟨b,o+j,none⟩=some v) (hcl:cs.length=(n - i) * k) (U:∀j v,cs[j]?=some v->w.cell? ⟨b,o+i * k+j,none⟩=some v) (h1c:∀v ∈ cs,v.oneCell'=true)
  (hvs:∀j v,vs[j]?=some v->w.cell? ⟨vb,vo+j,none⟩=some v) (hvl:vs.length=m * k) (h1v:∀v ∈ vs,v.oneCell'=true) :
  Calls P (ρ.f 22) #[.slice (some ⟨b,o,none⟩) n c,.int .i64 i,.slice (some ⟨vb,vo,none⟩) m vc] w λe w' =>
   e=.returned (.slice (some ⟨w.heap.size,0,none⟩) (n+m) (grownCap w (n+m) c (ρ.t 9))) /\
   w'=w.drew.drew.alloc (.cells (os++(vs++cs)++(Builtin.zeroCells z9.cells (grownCap w (n+m) c (ρ.t 9) - (n+m))).toList).toArray (ρ.t 9)):=by
 have t0:=L.t0;have a0:=L.a0;have z0:=L.z0;have v0:=L.v0;have t3:=L.t3;have a3:=L.a3;have z3:=L.z3;have v3:=L.v3;have t4:=L.t4;have a4:=L.a4;have z4:=L.z4;have v4:=L.v4;have t24:=L.t24;have a24:=L.a24;have z24:=L.z24;have v24:=L.v24;have t23:=L.t23;have a23:=L.a23;have z23:=L.z23;have v23:=L.v23;have u23:=run_underlying L.t23;have u0:=run_underlying L.t0;have u3:=run_underlying L.t3;have u4:=run_underlying L.t4;have u24:=run_underlying L.t24;have mixed:=L.mixed;have k0:=L.k0;have hinf:i9.size=k/\z9.cells.size=k/\i9.bytes<=65536:=by
  obtain ⟨i9',z9',hi9',hz9',h1,h2,h3⟩:=L.i9
  simp_all
 obtain ⟨y,D,hb9⟩:=hinf;have zz9:∀w,(Go.sizeOf (ρ.t 9)).run P w=.ok k w:=λw=>by rw [<- y];exact xq s
 unfold yN at K;have hz1:¬ ((m:Int)=0):=by omega
 have hz2:¬ ((i:Int)=(n:Int)):=by omega
 have hz3:(c:Int) < (n:Int)+(m:Int):=by omega
 have hik:i+(n+m - i)=n+m:=by omega
 have hkk:(n:Int)+(m:Int) - (i:Int)=((n+m - i:Nat):Int):=by omega
 have q:(n+m) * i9.bytes<=140737488355328:=by
  have:=s7 K hb9;omega
 have I:(Builtin.firstCells i9.size i (.slice (some ⟨b,o,none⟩) i c)).run P w.drew=.ok os.toArray w.drew:=run_firstCells_some w.drew i9.size i ⟨b,o,none⟩ i c os (by rw [y,S]) (λj v r=>by rw [World.cell?_drew,xF];exact V j v r);have hki:(n+m - i) * i9.bytes<=(n+m) * i9.bytes:=tg _ (by omega);have z:∀ty,(Builtin.append_ #[(ρ.t 24),(ρ.t 3)] ty #[.slice (some ⟨b,o,none⟩) i c,.int .i64 ((n:Int)+(m:Int) - (i:Int))]).run P w =
   .ok (.slice (some ⟨w.heap.size,0,none⟩) (n+m) (grownCap w (n+m) c (ρ.t 9))) (w.drew.alloc (.cells (os.toArray++Builtin.zeroCells z9.cells (n+m - i)++Builtin.zeroCells z9.cells (grownCap w (n+m) c (ρ.t 9) - (n+m))) (ρ.t 9))):=λty=>by
  have h:=Lib.run_append_grow_zeros w (ρ.t 24) (ρ.t 3) ty (ρ.t 9) i9 _ .i64 .i64 L.t24 L.t3 s hz9 (some ⟨b,o,none⟩) i c os I (n+m - i) (by omega) (by omega) (by omega) (by omega) (by omega) (by rw [hik];exact growslice_fits M q)
  simp_all
 obtain ⟨G,hG⟩:∃G,G=grownCap w (n+m) c (ρ.t 9):=⟨_,rfl⟩
 obtain ⟨ROW,p⟩:∃ROW:Array Value,ROW=os.toArray++Builtin.zeroCells z9.cells (n+m - i)++Builtin.zeroCells z9.cells (G - (n+m)):=⟨_,rfl⟩
 have hGn:n+m<=G:=by rw [hG];exact grownCap_ge w _ _ _
 have hG63:G<=9223372036854775807:=by
  have:=grownCap_le_maxLen w (n+m) c (ρ.t 9) (by unfold maxLen;omega);rw [<- hG] at this;unfold maxLen at this;omega
 rw [<- hG] at z ⊢;rw [<- p] at z;have hmk:i * k+m * k=(i+m) * k:=by grind
 have T:(i+m) * k+(n - i) * k=(n+m) * k:=by rw [<- tj];congr 1;omega
 have hzk:i * k+(n+m - i) * k=(n+m) * k:=by grind
 have hGk:(n+m) * k+(G - (n+m)) * k=G * k:=by rw [<- tj];congr 1;omega
 have hRs:ROW.size=G * k:=by rw [p];simp only [rF,rG,size_zeroCells,D,S];omega
 have u:(w.drew.alloc (.cells ROW (ρ.t 9))).heap[w.heap.size]?=some (.cells ROW (ρ.t 9) (0,0)):=heap_alloc_new w.drew _;obtain ⟨W1,hW⟩:∃x,x=w.drew.alloc (.cells ROW (ρ.t 9)):=⟨_,rfl⟩
 rw [<- hW] at z u;obtain ⟨R2,X⟩:∃x,x=(ROW.toList.take (i * k)++vs++ROW.toList.drop (i * k+vs.length)).toArray:=⟨_,rfl⟩
 have R:R2.size=ROW.size:=by grind
 have A:∀j v,vs[j]?=some v->W1.cell? ⟨vb,vo+j,none⟩=some v:=λj v r=>by rw [hW];exact cell_alloc (by simp_all)
 have E:∀ty N,(Builtin.copy_ #[(ρ.t 24),τ] ty #[.slice (some ⟨w.heap.size,i * k,none⟩) (n+m - i) N,.slice (some ⟨vb,vo,none⟩) m vc]).run P W1=.ok (goInt m) (W1.setRow w.heap.size R2):=λty N=>by
  have:=run_copyK (P:=P) (w:=W1) (dT:=ρ.t 24) (sT:=τ) (ty:=ty) (i:=i9) (b:=w.heap.size) (o:=i * k) (dLen:=n+m - i) (dCap:=N) (sLen:=m) (sCap:=vc) (n:=m) (a:=⟨vb,vo,none⟩) (cs:=vs) (cur:=ROW)
   L.t24 s (by grind) (by rw [hvl,y]) (λj v r=>by rw [xF];exact A j v r) u (by omega) h1v
  simp_all
 have Y:(W1.setRow w.heap.size R2).heap[w.heap.size]?=some (.cells R2 (ρ.t 9) (0,0)):=setRow_heap W1 _ ROW R2 _ (0,0) u;obtain ⟨W2,d⟩:∃x,x=(W1.setRow w.heap.size R2).drew:=⟨_,rfl⟩
 have H:W2.heap[w.heap.size]?=some (.cells R2 (ρ.t 9) (0,0)):=by rw [d];exact Y
 obtain ⟨R3,O⟩:∃x,x=(R2.toList.take ((i+m) * k)++cs++R2.toList.drop ((i+m) * k+cs.length)).toArray:=⟨_,rfl⟩
 have C:∀j v,cs[j]?=some v->W2.cell? ⟨b,o+i * k+j,none⟩=some v:=λj v r=>by
  have h:=U j v r;have hb:=cell_lt h;have h2:W1.cell? ⟨b,o+i * k+j,none⟩=some v:=by rw [hW];exact cell_alloc (by simp_all)
  rw [d,World.cell?_drew];have e:(W1.setRow w.heap.size R2).heap[b]?=W1.heap[b]?:=setRow_other W1 w.heap.size b R2 (by omega);have hb1:b < W1.heap.size:=cell_lt h2;unfold World.cell? at h2 ⊢
  grind
 have W:∀ty N sc,(Builtin.copy_ #[(ρ.t 24),(ρ.t 24)] ty #[.slice (some ⟨w.heap.size,(i+m) * k,none⟩) (n+m - (i+m)) N,.slice (some ⟨b,o+i * k,none⟩) (n - i) sc]).run P W2=.ok (goInt (n - i:Nat)) (W2.setRow w.heap.size R3):=λty N sc=>by
  have:=run_copyK (P:=P) (w:=W2) (dT:=ρ.t 24) (sT:=ρ.t 24) (ty:=ty) (i:=i9) (b:=w.heap.size) (o:=(i+m) * k) (dLen:=n+m - (i+m)) (dCap:=N) (sLen:=n - i) (sCap:=sc) (n:=n - i) (a:=⟨b,o+i * k,none⟩) (cs:=cs) (cur:=R2)
   L.t24 s (by grind) (by rw [hcl,y]) (λj v r=>by rw [xF];exact C j v r) H (by omega) h1c
  simp_all
 have F:W2.setRow w.heap.size R3=w.drew.drew.alloc (.cells (os++(vs++cs)++(Builtin.zeroCells z9.cells (G - (n+m))).toList).toArray (ρ.t 9)):=by
  have e:R3=(os++(vs++cs)++(Builtin.zeroCells z9.cells (G - (n+m))).toList).toArray:=by
   rw [O,X,p];congr 1;have zl:(Builtin.zeroCells z9.cells (n+m - i)).toList.length=(n+m - i) * k:=by rw [sA,size_zeroCells,D]
   simp only [tC,uz];rw [u7 (l₁:=os) (by omega),uQ (l:=os) (by omega)];rw [<- uz os vs,u7 (l₁:=os++vs) (by simp;omega),uQ (l:=os++vs) (by simp;omega),uz];congr 2;congr 1;rw [ri,tq (l:=os++vs) (by simp;omega),uU];rw [um,tD];rw [ri,tq (l:=os) (by omega),uU];rw [ri,tq (by omega),uU];rw [show i * k+vs.length+((i+m) * k+cs.length - (os.length+vs.length)) - os.length - (Builtin.zeroCells z9.cells (n+m - i)).toList.length=0 by omega,sq]
  rw [<- e,d,hW];unfold World.setRow World.alloc World.drew;simp only;congr 1;apply ry;intro j;simp only [sY,rU];by_cases r:w.heap.size=j
  ·grind
  ·grind
 have hGi:¬ (G=i):=by omega
 have hGim:¬ (G=i+m):=by omega
 have hci:¬ (c=i):=by omega
 have hw1:IntKind.i64.wrap ((i:Int)+(m:Int))=(i:Int)+(m:Int):=by rw [IntKind.wrap_i64];omega
 have hb1:(0:Int)<=(i:Int)+(m:Int):=by omega
 have hin:i<=n:=by omega
 have htn:((i:Int)+(m:Int)).toNat=i+m:=by omega
 have hb3:(i:Int)<=(n:Int):=by omega
 obtain ⟨nm,ta,hf,hnm⟩:=L.f22;obtain ⟨OB,Z⟩:∃x,x=Obj.cells (os++(vs++cs)++(Builtin.zeroCells z9.cells (G - (n+m))).toList).toArray (ρ.t 9):=⟨_,rfl⟩
 rw [<- Z] at F ⊢;obtain ⟨FIN,J⟩:∃x,x=w.drew.drew.alloc OB:=⟨_,rfl⟩
 rw [<- J] at F ⊢;obtain ⟨Wd,Q⟩:∃x,x=W1.setRow w.heap.size R2:=⟨_,rfl⟩
 rw [<- Q] at E d;subst d;clear hkk hik I p hG hRs X O R A C u Y H V U hvs hGk T hmk hzk hki q hW Q Z J
 go_enter hf,insF_ntmps ρ τ nm ta
 simp only [rtCode,rtOper,rtA,rtV,uD,tS,pG,pJ,Nat.reduceBEq,ph,px,tN,pK,cond_true,cond_false]
 go_wp2_with (first
  | (at_builtin;refine Lib.wpList_append_run _ rfl _ _ _ _ rfl _ _ rfl rfl _ _ (z _) ?_)
  | (at_builtin;refine wpList_copy_runI _ rfl _ _ (ρ.t 24) τ rfl _ _ rfl rfl (E _ _) ?_))
 go_region_law_o (refine step_copy_runI rfl _ _ (ρ.t 24) (ρ.t 24) rfl (.slice (some ⟨w.heap.size,(i+m) * k,none⟩) (n+m - (i+m)) (G - (i+m))) (.slice (some ⟨b,o+i * k,none⟩) (n - i) (c - i)) (by simp [Act.eval,Act.put]) (by simp [Act.eval,Act.put]) (W (ρ.t 3) (G - (i+m)) (c - i)) ?_)
 go_wp2
 go_ret
 simp_all
end
section
variable {P:Program} {w:World} {g:Gh} {h:AH} {B:Nat} {w0:World}
theorem row_grow_in (r:Rel B w0 g h w) {id q k c:Nat} {es f:List (List AV)} {K:Option Addr} {a:List Value} (hs:V g (.rsl id q k es.length) (.slice K es.length c)) (X:∀e ∈ f,e.length=k) (E:VA g f.flatten a) (hpu:f.flatten.all AV.pure=true)
  (R:h.blk id=some (.row q k es)) (hy:f.length ≠ 0) (n:es.length+f.length<=c) :
  ∃b o cur ty,K=some ⟨b,o,none⟩/\w.heap[b]?=some (.cells cur ty (0,0))/\o+c * k<=cur.size/\(∀j,o+es.length * k<=j->g.Φ b j=none) /\
   ∃g',g.le g'/\Rel B w0 g' { h.put id (.row q k (es++f)) with toks:=h.toks.set q (es.length+f.length) } (w.setRow b (cur.toList.take (o+es.length * k)++a++cur.toList.drop (o+es.length * k+a.length)).toArray)/\V g' (.rsl id q k (es.length+f.length)) (.slice K (es.length+f.length) c):=by
 obtain ⟨Q,U,s,C,M,u,hpe,F⟩:=r.rowAt R;simp only [V] at hs;obtain ⟨a',c',L,hc1,O,t2,ht2,hrd,hle,i⟩:=hs;simp only [Value.slice.injEq] at L;obtain ⟨rfl,_,rfl⟩:=L;obtain rfl:U=t2:=by simp_all
 have i:(es.length=0/\c=0) \/ ∃b o,K=some ⟨b,o,none⟩/\U.loc=some (b,o+es.length * k,o+c * k):=i.imp (λh=>h) λ⟨b,o,Y,h2⟩=>⟨b,o,Y,h2 M.symm⟩
 have H:a.length=f.length * k:=by rw [<- E.length,yr X]
 have hfl:es.flatten.length=es.length * k:=yr u;rcases i with ⟨h0,Y⟩ | ⟨b,o,rfl,I⟩
 ·omega
 ·obtain ⟨_,D⟩:=r.tok _ _ s;have lo:=D b _ _ I;obtain ⟨cur,t,p,hce⟩:=lo.cells;have W:es.length * k+a.length<=c * k:=by rw [H,<- tj];exact tg _ n
  have d:VA g es.flatten ((cur.toList.drop o).take (es.length * k))/\∀j,o<=j->g.Φ b j=none:=by
   rcases F with rfl | ⟨b2,o2,J,cs,ty2,k1,k2,k3,k4,k5⟩
   ·exact ⟨by simp [VA],λj N=>lo.free j (by simp_all)⟩
   ·simp_all
  refine ⟨b,o,cur,t,rfl,p,by omega,λj N=>d.2 j (by omega),?_⟩;generalize hnew:(cur.toList.take (o+es.length * k)++a++cur.toList.drop (o+es.length * k+a.length)).toArray=new;have G:new.size=cur.size:=by grind
  have A:∀j,j < o+es.length * k->new[j]?=cur[j]?:=λj N=>by
   grind
  have r1:=r.setSpare s I p G A;have m:=setRow_heap w b cur new t (0,0) p;have y:(new.toList.drop o).take ((es.length+f.length) * k)=(cur.toList.drop o).take (es.length * k)++a:=by
   rw [<- hnew];simp only [uz];rw [so (by simp;omega),rY,uS,tj,<- H];rw [tO,uQ (by simp;omega)];congr 1;rw [u7 (by simp;omega),uQ (by simp;omega)]
  let T:TI:=⟨es.length+f.length,some (b,o+(es.length+f.length) * k,o+c * k),true⟩
  have v:g.le (g.setT q T):=Gh.le_setT (t':=T) s (by grind) C.symm;have S:(g.setT q T).τ[q]?=some T:=uL (uc.1 s).1;have r2:=r1.setRow (t':=T) (q:=id) s (by grind) C rfl Q R (es':=es++f)
   ⟨T,S,rfl,by simp [T],λe L=>(uv.1 L).elim (u e) (X e),by grind,
    .inr ⟨b,o,o+c * k,new,t,by simp [T],m,by rw [um,y,t8];exact (d.1.append E).mono v,by rw [um,tj];omega,d.2⟩⟩
   (λb' l e z=>by
    injection z with z;injection z with Z J;injection J with J e3;subst Z J e3;exact ⟨lo.lo,by grind,⟨new,t,m,by omega⟩,λj N=>lo.free j (by grind)⟩)
   (λb' x hx=>by grind)
  refine ⟨_,v,r2,?_⟩;simp only [V];exact ⟨some ⟨b,o,none⟩,c,rfl,n,O,T,S,rfl,uh _,.inr ⟨b,o,rfl,λ_=>rfl⟩⟩
theorem row_olds (r:Rel B w0 g h w) {id q k c:Nat} {es:List (List AV)} {s:Option Addr} (hs:V g (.rsl id q k es.length) (.slice s es.length c)) (z:h.blk id=some (.row q k es)) :
  ∃e:List Value,VA g es.flatten e/\(∀a,s=some a->∀j v,e[j]?=some v->w.cell? (a.add j)=some v):=by
 obtain ⟨M,J,E,F,n,l,A,m⟩:=r.rowAt z;simp only [V] at hs;obtain ⟨a',R,u,Q,G,y,H,O,N,i⟩:=hs;simp only [Value.slice.injEq] at u;obtain ⟨rfl,_,rfl⟩:=u;obtain rfl:J=y:=by simp_all
 have D:es.flatten.length=es.length * k:=yr l;rcases m with rfl | ⟨b,o,W,cs,ty2,x,K,C,T,U⟩
 ·exact ⟨[],by rfl,λa _ j v t=>by simp at t⟩
 ·rcases i with ⟨h0,_⟩ | ⟨S,I,rfl,d⟩
  ·grind
  ·have d:=d n.symm;rw [x] at d;injection d with d;injection d with L f;injection f with f X;obtain rfl:o=I:=by omega
   subst L;refine ⟨_,C,λa p j v t=>?_⟩;injection p with p;subst p;rw [xF,cell_of_row w b (o+j) cs ty2 (0,0) K]
   grind
theorem row_grow_out (r:Rel B w0 g h w) {id q k c C:Nat} {es f:List (List AV)} {ad:Option Addr} {a d rest:List Value} {e:TypeId} (hs:V g (.rsl id q k es.length) (.slice ad es.length c)) (W:∀e ∈ f,e.length=k) (A:VA g f.flatten d) (hpu:f.flatten.all AV.pure=true)
  (O:h.blk id=some (.row q k es)) (hy:f.length ≠ 0) (u:VA g es.flatten a) (N:es.length+f.length<=C) (I:C<=maxLen) (hr:rest.length=(C - (es.length+f.length)) * k) :
  ∃g',g.le g'/\Rel B w0 g' { h.put id (.row q k (es++f)) with toks:=h.toks.set q (es.length+f.length) } (w.drew.alloc (.cells (a++d++rest).toArray e))/\V g' (.rsl id q k (es.length+f.length)) (.slice (some ⟨w.heap.size,0,none⟩) (es.length+f.length) C):=by
 obtain ⟨L,ti,p,D,htn,m,hpe,X⟩:=r.rowAt O;have hnl:d.length=f.length * k:=by rw [<- A.length,yr W]
 have J:es.flatten.length=es.length * k:=yr m;have Z:a.length=es.length * k:=by rw [<- u.length,J]
 generalize hrow':(a++d++rest).toArray=row;have U:(es.length+f.length) * k+(C - (es.length+f.length)) * k=C * k:=by rw [<- tj];congr 1;omega
 have S:row.size=C * k:=by grind
 have s:(row.toList.drop 0).take ((es.length+f.length) * k)=a++d:=by
  rw [<- hrow',sq];show (a++d++rest).take _=_;rw [u7 (by grind),uQ (by grind)]
 have o:∀j,g.Φ w.heap.size j=none:=λj=>by
  rcases M:g.Φ w.heap.size j with _ | v
  ·rfl
  ·exact absurd (r.phi_lt M) (tV _)
 have Y:=(r.drew).alloc0 (.cells row e);have i:(w.drew.alloc (.cells row e)).heap[w.heap.size]?=some (.cells row e (0,0)):=heap_alloc_new w.drew _;have hsz:(es.length+f.length) * k<=C * k:=tg k N;have R:LocOk g.Φ B (w.drew.alloc (.cells row e)) w.heap.size ((es.length+f.length) * k) (C * k) :=
  ⟨r.bsz,by simp,⟨row,e,i,by omega⟩,λj _=>o j⟩
 have z:∀(j E:Nat),g.σ[j]?=some (some E)->w.heap.size ≠ E:=λj E G e=>by
  have H:j < h.blks.length:=by rw [<- r.slen];exact (uc.1 G).1
  have:=(r.blk j E _ G (ug H)).2.1;omega
 have t:∀(j:Nat) (F:TI) (y:Nat×Nat),g.τ[j]?=some F->F.loc ≠ some (w.heap.size,y):=λj F y G e=>by
  have:=((r.tok j F G).2 _ _ _ e).lt;omega
 let T:TI:=⟨es.length+f.length,some (w.heap.size,(es.length+f.length) * k,C * k),true⟩
 have n:g.le (g.setT q T):=Gh.le_setT (t':=T) p (by grind) D.symm;have Q:(g.setT q T).τ[q]?=some T:=uL (uc.1 p).1;have r2:=Y.setRow (t':=T) (q:=id) p (by grind) D rfl L O (es':=es++f)
  ⟨T,Q,rfl,by simp [T],λe M=>(uv.1 M).elim (m e) (W e),by grind,
   .inr ⟨w.heap.size,0,C * k,row,e,by simp [T],i,by rw [um,s,t8];exact (u.append A).mono n,by simp_all,λj _=>o j⟩⟩
  (λb' l e' hl'=>by grind)
  (λb' x K=>by injection K with K;injection K with e1 _;subst e1;exact .inr ⟨t,z,r.nnew (uh _),r.nold (uh _)⟩)
 refine ⟨_,n,r2,?_⟩;simp only [V];exact ⟨some ⟨w.heap.size,0,none⟩,C,rfl,N,I,T,Q,rfl,uh _,.inr ⟨w.heap.size,0,rfl,λ_=>by simp [T]⟩⟩
end
section
variable {P:Program} {ρ:Ren} {τ:TypeId} {k:Nat} {α:Type} {row:α->List AV}
theorem cells_at {w:World} {v:Value} (h:w.cell? ⟨b,j,none⟩=some v):∃cs ty fr,w.heap[b]?=some (.cells cs ty fr)/\cs[j]?=some v:=by
 unfold World.cell? at h
 grind
theorem spec_insO (L:InsLays P ρ τ k) (hk:∀x,(row x).length=k) {xs M R:List α} {z:Int} (hR:insO xs z M=some R) {a:AV} (ha:a=.sl k (M.map row) \/ a=.osl none k (M.map row)) {h:AH} {B B':List Blk} {T T':List Nat} {i q b' t':Nat}
  (hb:B[i]?=some (.row (h.toks.length+q) k (xs.map row))) (hbl:B.length=b') (htl:T.length=t') (hB:B.set i .dead++[.row (h.toks.length+t') k (R.map row)]=B') (hT:T.set q (xs.length+1)++[R.length]=T') :
  Spec P (ρ.f 22) [.rsl (h.blks.length+i) (h.toks.length+q) k xs.length,.int .i64 z,a] (h.ext B T) (λrr hh=>rr=.rsl (h.blks.length+b') (h.toks.length+t') k R.length/\hh=h.ext B' T'):=by
 unfold insO at hR;split at hR
 case isFalse=>cases hR
 rename_i hc;obtain ⟨⟨hz0,hzn⟩,hM0,hlim⟩:=hc;injection hR with hR;obtain ⟨n,rfl⟩:∃n:Nat,z=n:=⟨z.toNat,by omega⟩
 have hnx:n<=xs.length:=by omega
 rw [uM] at hR;have k0:=L.k0;obtain ⟨nm,ta,hf22,hnm⟩:=L.f22;refine ⟨λvs w=>?_,λB0 w0 _ g w vs r hv=>?_⟩
 ·have hne : ¬ nm = "runtime.NumGoroutine" := by simpa using hnm
  have hn2:(insF ρ τ nm ta).name=nm:=rfl;have hb2:¬ (insF ρ τ nm ta).body=none:=by
   intro e;have:(insF ρ τ nm ta).body.isSome=true:=rfl;rw [e] at this;cases this
  simp [callFunc,hf22,hn2,hne,hb2]
 obtain ⟨vs⟩:=vs;simp only [VL] at hv;obtain ⟨v1,_,rfl,hV1,v2,_,rfl,hV2,v3,_,rfl,hV3,rfl⟩:=hv;have hVs:=hV1;simp only [V] at hV1 hV2;obtain ⟨ad,c,rfl,hnc,hcm,_⟩:=hV1;subst hV2;obtain ⟨av,vc,rfl,hMv⟩:∃av vc,v3=.slice av M.length vc/\(M.map row=[] \/ ∃b o,av=some ⟨b,o,none⟩/\VE g b k o (M.map row)):=by
  rcases ha with rfl | rfl
  ·simp only [V] at hV3;obtain ⟨a1,c1,h1,_,_,h2⟩:=hV3
   simp_all
  ·simp only [V] at hV3;obtain ⟨a1,c1,h1,_,_,h2,_⟩:=hV3
   simp_all
 obtain ⟨vb,vo,rfl,hVE⟩:=hMv.resolve_left (by intro e;rw [rV] at e;subst e;simp at hM0);obtain ⟨hMl,hVC⟩:=VE_iff.1 hVE;obtain ⟨mvs,hmva,hmpu,hmφ⟩:=VC.toVA hVC;have hmvl:mvs.length=M.length * k:=by rw [<- hmva.length,flat_len hk]
 have hmcell:∀j v,mvs[j]?=some v->w.cell? ⟨vb,vo+j,none⟩=some v:=λj v hj=>r.phi _ _ _ (hmφ j v hj);have hblk:(h.ext B T).blk (h.blks.length+i)=some (.row (h.toks.length+q) k (xs.map row)):=by rw [yI];exact hb
 obtain ⟨hσ,ti,hti,htr,htn,hlen,hpe,hrow⟩:=r.rowAt hblk;have hfl:(xs.map row).flatten.length=xs.length * k:=flat_len hk xs
 -- shrunk to what is ahead of the place
 have hVs':V g (.rsl (h.blks.length+i) (h.toks.length+q) k (xs.map row).length) (.slice ad (xs.map row).length c):=by simpa using hVs
 obtain ⟨g1,hg1,r1,hh1⟩:=r.shrink (n:=n) (a':=ad) hblk (by simpa using hnx) (.inl rfl) hVs';have e1:(h.ext B T).shr (h.blks.length+i) (h.toks.length+q) k n (xs.map row)=h.ext (B.set i .dead++[.row (h.toks.length+t') k ((xs.take n).map row)]) (T.set q (xs.length+1)++[n]):=by
  simp only [AH.shr,AH.ext,AH.put,AH.new,AH.mk.injEq,um,uA,pg];refine ⟨?_,?_⟩
  ·simp_all
  ·simp_all
 rw [e1] at r1;have eb:(h.ext B T).blks.length=h.blks.length+b':=by rw [<- hbl];simp [AH.ext]
 have et:(h.ext B T).toks.length=h.toks.length+t':=by rw [<- htl];simp [AH.ext]
 rw [eb,et] at hh1;have htk:(xs.take n).length=n:=by rw [tP];omega
 have hh1':V g1 (.rsl (h.blks.length+b') (h.toks.length+t') k ((xs.take n).map row).length) (.slice ad ((xs.take n).map row).length c):=by rw [uA,htk];exact hh1
 have hb1:(h.ext (B.set i .dead++[.row (h.toks.length+t') k ((xs.take n).map row)]) (T.set q (xs.length+1)++[n])).blk (h.blks.length+b')=some (.row (h.toks.length+t') k ((xs.take n).map row)):=by
  rw [yI,un (by rw [rQ];omega),rQ,<- hbl,pI];rfl
 have hput:∀n2:Nat,({ (h.ext (B.set i .dead++[.row (h.toks.length+t') k ((xs.take n).map row)]) (T.set q (xs.length+1)++[n])).put (h.blks.length+b') (.row (h.toks.length+t') k (R.map row)) with
   toks:=(h.ext (B.set i .dead++[.row (h.toks.length+t') k ((xs.take n).map row)]) (T.set q (xs.length+1)++[n])).toks.set (h.toks.length+t') R.length }:AH)=h.ext B' T':=λn2=>by
  subst hB hT;simp only [AH.ext,AH.put,AH.mk.injEq];refine ⟨?_,?_⟩
  ·simp_all
  ·simp_all
 -- what comes behind
 let ys:=M++xs.drop n
 have hys:R=xs.take n++ys:=hR.symm;have hRl:R.length=xs.length+M.length:=by rw [hys];simp [ys];omega
 have hyl:ys.length=M.length+(xs.length - n):=by simp [ys]
 have htot:((xs.take n).map row).length+(ys.map row).length=R.length:=by rw [hys];simp
 have happ:(xs.take n).map row++ys.map row=R.map row:=by rw [hys];exact sJ.symm
 have hyk:∀e ∈ ys.map row,e.length=k:=λe he=>by
  obtain ⟨x,_,rfl⟩:=tI.1 he;exact hk x
 have hypu:(ys.map row).flatten.all AV.pure=true:=by
  have h2:((xs.drop n).map row).flatten.all AV.pure=true:=by
   grind
  grind
 have hyn:(ys.map row).length ≠ 0:=by rw [uA,hyl];omega
 have hc63:c<=9223372036854775807:=by unfold maxLen at hcm;omega
 have hRm:R.length<=maxLen:=by unfold yN at hlim;unfold maxLen;omega
 -- the tail's cells
 obtain ⟨olds,holds,hoc⟩:=row_olds r hVs' hblk;have hol:olds.length=xs.length * k:=by rw [<- holds.length,hfl]
 have hkn:n * k+(xs.length - n) * k=xs.length * k:=by rw [<- tj];congr 1;omega
 have hhead:VA g ((xs.take n).map row).flatten (olds.take (n * k)):=by rw [<- flat_take hk];exact holds.take _
 have htail:VA g ((xs.drop n).map row).flatten (olds.drop (n * k)):=by rw [<- flat_drop hk];exact holds.drop _
 have hyva:VA g (ys.map row).flatten (mvs++olds.drop (n * k)):=by simp only [ys,sJ,t8];exact hmva.append htail
 have hyva1:=hyva.mono hg1;have hh2:=hhead.mono hg1;have hnil:ad=none->c=0:=λe=>by
  subst e;simp only [V] at hVs;obtain ⟨a2,c2,he,_,_,t2,ht2,_,_,hcap⟩:=hVs;simp only [Value.slice.injEq] at he
  grind
 have fin:∀{v:Value} {w':World} {g':Gh},g1.le g'->Rel B0 w0 g' { (h.ext (B.set i .dead++[.row (h.toks.length+t') k ((xs.take n).map row)]) (T.set q (xs.length+1)++[n])).put (h.blks.length+b') (.row (h.toks.length+t') k ((xs.take n).map row++ys.map row)) with
   toks:=(h.ext (B.set i .dead++[.row (h.toks.length+t') k ((xs.take n).map row)]) (T.set q (xs.length+1)++[n])).toks.set (h.toks.length+t') (((xs.take n).map row).length+(ys.map row).length) } w' ->
   V g' (.rsl (h.blks.length+b') (h.toks.length+t') k (((xs.take n).map row).length+(ys.map row).length)) v ->
   ∃v0 rr hh g'',Ending.returned v=.returned v0/\(rr=.rsl (h.blks.length+b') (h.toks.length+t') k R.length/\hh=h.ext B' T')/\g.le g''/\Rel B0 w0 g'' hh w'/\V g'' rr v0:=λ{v w' g'} hg' hr' hv'=>by
  rw [happ,htot,hput 0] at hr';rw [htot] at hv';exact ⟨v,_,_,g',rfl,⟨rfl,rfl⟩,hg1.trans hg',hr',hv'⟩
 obtain ⟨i9,z9,hi9,hz9,hs9,hzc9,hb9⟩:=L.i9;by_cases hend:n=xs.length
 ·-- at the end
  have hdn:xs.drop n=[]:=by rw [hend];exact List.drop_length
  have hodn:olds.drop (n * k)=[]:=by rw [tq];rw [hol,hend];exact uh _
  have hotn:olds.take (n * k)=olds:=uQ (by rw [hol,hend];exact uh _);have hnews:∀W:World,(∀a v,w.cell? a=some v->W.cell? a=some v)->News P i9.size M.length (.slice (some ⟨vb,vo,none⟩) M.length vc) mvs W:=λW hW=>News.slice (by rw [hmvl,hs9]) λj v hj=>by rw [xF];exact hW _ _ (hmcell j v hj)
  by_cases hroom:xs.length+M.length<=c
  ·obtain ⟨b,o,cur,ty,rfl,hcur,hfit,hfree,g',hg',hr',hv'⟩:=row_grow_in r1 hh1' hyk hyva1 hypu hb1 hyn (by rw [htot,hRl];exact hroom);rw [hodn,tu] at hr';have hrun:=qO (P:=P) (t:=ρ.t 24) (u:=τ) (ty:=0) L.t24 L.t23 (.inr ⟨_,rfl⟩) hi9 (hnews w λ_ _ h=>h) hmva.one' hcur (n:=xs.length) hroom (o:=o) (by rw [hs9,hmvl];have:=tg k hroom;rw [tj] at this;omega);have hrun':∀ty,(Builtin.append_ #[ρ.t 24,τ] ty #[.slice (some ⟨b,o,none⟩) xs.length c,.slice (some ⟨vb,vo,none⟩) M.length vc]).run P w=_:=λty=>qO (P:=P) (t:=ρ.t 24) (u:=τ) (ty:=ty) L.t24 L.t23 (.inr ⟨_,rfl⟩) hi9 (hnews w λ_ _ h=>h) hmva.one' hcur (n:=xs.length) hroom (o:=o) (by rw [hs9,hmvl];have:=tg k hroom;rw [tj] at this;omega);have:=ins_end L (xa:=some ⟨vb,vo,none⟩) (vc:=vc) hM0 hnc hc63 hnil hrun';rw [hend];refine this.mono λe w' ⟨h1,h2⟩=>?_;subst h1 h2;rw [hs9,<- hend];rw [uA,htk] at hr';have hv2:((xs.take n).map row).length+(ys.map row).length=xs.length+M.length:=by rw [htot,hRl]
   refine fin hg' ?_ (by rw [hv2] at hv' ⊢;rw [hend];exact hv');rw [uA,htk];omega
  ·have hroom':c < xs.length+M.length:=by omega
   have hold:(Builtin.firstCells i9.size xs.length (.slice ad xs.length c)).run P w.drew=.ok olds.toArray w.drew:=by
    cases ad with
    | none =>
     have h0:=hnil rfl;have hx0:xs.length=0:=by omega
     have:olds=[]:=uO (by rw [hol,hx0];simp);subst this;rw [hx0];exact run_firstCells_none w.drew i9.size 0 0 c
    | some a=>exact run_firstCells_some w.drew i9.size xs.length a xs.length c olds (by rw [hs9];exact hol) λj v hj=>by rw [World.cell?_drew];exact hoc a rfl j v hj
   have hlim':(xs.length+M.length) * i9.bytes<=140737488355328:=by have:=s7 hlim hb9;unfold yN at this;omega
   have hrun':∀ty,(Builtin.append_ #[ρ.t 24,τ] ty #[.slice ad xs.length c,.slice (some ⟨vb,vo,none⟩) M.length vc]).run P w=_:=λty=>qc (P:=P) (t:=ρ.t 24) (u:=τ) (ty:=ty) L.t24 L.t23 (.inr ⟨_,rfl⟩) hi9 hz9 (hnews w λ_ _ h=>h) (hnews w.drew λ_ _ h=>h) hold hroom' (by unfold yN at hlim;simp only [maxLen];omega) (growslice_fits hroom' hlim');have:=ins_end L (xa:=some ⟨vb,vo,none⟩) (vc:=vc) hM0 hnc hc63 hnil hrun';rw [hend];refine this.mono λe w' ⟨h1,h2⟩=>?_;subst h1 h2;have hge:=grownCap_ge w (xs.length+M.length) c (ρ.t 9);have hgm:grownCap w (xs.length+M.length) c (ρ.t 9)<=maxLen:=grownCap_le_maxLen w _ c _ (by unfold yN at hlim;simp only [maxLen];omega);have htot2:((xs.take n).map row).length+(ys.map row).length=xs.length+M.length:=by rw [htot,hRl]
   obtain ⟨g',hg',hr',hv'⟩:=row_grow_out (C:=grownCap w (xs.length+M.length) c (ρ.t 9)) (rest:=(Builtin.zeroCells z9.cells (grownCap w (xs.length+M.length) c (ρ.t 9) - (xs.length+M.length))).toList) (e:=ρ.t 9) r1 hh1' hyk hyva1 hypu hb1 hyn hh2 (by rw [htot2];exact hge) hgm (by rw [sA,size_zeroCells,hzc9,htot2]);rw [hodn,hotn,tu] at hr';have ew:w.drew.alloc (.cells (olds.toArray++mvs.toArray++Builtin.zeroCells z9.cells (grownCap w (xs.length+M.length) c (ρ.t 9) - (xs.length+M.length))) (ρ.t 9))=w.drew.alloc (.cells (olds++mvs++(Builtin.zeroCells z9.cells (grownCap w (xs.length+M.length) c (ρ.t 9) - (xs.length+M.length))).toList).toArray (ρ.t 9)):=by
    congr 2;apply pt;simp
   rw [ew];exact fin hg' hr' (by rw [htot2] at hv' ⊢;exact hv')
 ·-- ahead of something
  have hlt:n < xs.length:=by omega
  have hne:xs.map row ≠ []:=by intro e;rw [rV] at e;subst e;simp at hlt
  obtain ⟨b,o,e2,cur,ty,k1,k2,k3,k4,k5⟩:=hrow.resolve_left hne;rw [uA] at k1 k3 k4;obtain ⟨rfl,lo⟩:ad=some ⟨b,o,none⟩/\o+c * k<=cur.size:=by
   simp only [V] at hVs;obtain ⟨a2,c2,he,_,_,t2,ht2,_,_,hcap⟩:=hVs;simp only [Value.slice.injEq] at he;obtain ⟨rfl,_,rfl⟩:=he;obtain rfl:ti=t2:=by rw [hti] at ht2;injection ht2
   rcases hcap with ⟨h0,_⟩ | ⟨b2,o2,rfl,hl2⟩
   ·omega
   ·rw [uA] at htn;have hl2:=hl2 htn.symm;have hl3:=hl2;rw [k1] at hl2;injection hl2 with hl2;injection hl2 with e1 hl2;injection hl2 with e2 _;obtain rfl:o=o2:=by omega
    subst e1;refine ⟨rfl,?_⟩;obtain ⟨cur',ty',hcur',hce⟩:=((r.tok _ _ hti).2 _ _ _ hl3).cells;rw [k2] at hcur';injection hcur' with hcur';injection hcur' with hcur' _ _;subst hcur';omega
  have hoe:olds=(cur.toList.drop o).take (xs.length * k):=by
   apply uW;intro j;by_cases hj:j < xs.length * k
   ·have h1:=hoc _ rfl j _ (ug (by omega));rw [xF,cell_of_row w b (o+j) cur ty (0,0) k2] at h1;rw [ug (by omega),ur,uF hj,uP,uI,h1]
   ·rw [tw (by omega),tw (by simp;omega)]
  have hmpos:0 < M.length * k:=pd hM0 k0;obtain ⟨curv,tyv,frv,hcv,_⟩:=cells_at (hmcell 0 _ (ug (by omega)))
  have hsep:vb=b->vo+M.length * k<=o:=λe=>by
   subst e;rcases t6 (vo+(M.length * k - 1)) o with h1 | h1
   ·omega
   ·have h2:=hmφ (M.length * k - 1) _ (ug (by omega));rw [k5 _ h1] at h2;cases h2
  have hod1:olds.drop (n * k)=(cur.toList.drop (o+n * k)).take ((xs.length - n) * k):=by
   rw [hoe,rY,tD];congr 1;omega
  by_cases hroom:xs.length+M.length<=c
  ·obtain ⟨b3,o3,cur3,ty3,hE,hcur3,hfit,hfree,g',hg',hr',hv'⟩:=row_grow_in (r1.drew) hh1' hyk hyva1 hypu hb1 hyn (by rw [htot,hRl];exact hroom);injection hE with hE;injection hE with hE1 hE2 _;subst hE1 hE2;have hcd:w.drew.heap[b]?=some (.cells cur ty (0,0)):=k2;rw [hcd] at hcur3;injection hcur3 with hcur3;injection hcur3 with hcur3 _ _;subst hcur3;have:=ins_shift L (vc:=vc) (vs:=mvs) hlt hM0 hroom hc63 k2 lo hod1 (λv hv=>(htail.one') v hv) hcv hmcell hmvl hmva.one' hsep;refine this.mono λe w' ⟨h1,h2⟩=>?_;subst h1 h2;have htot2:((xs.take n).map row).length+(ys.map row).length=xs.length+M.length:=by rw [htot,hRl]
   have hnn:((xs.take n).map row).length=n:=by rw [uA,htk]
   refine fin hg' ?_ (by rw [htot2] at hv' ⊢;exact hv');rw [hnn] at hr' ⊢;omega
  ·have hroom':c < xs.length+M.length:=by omega
   have:=ins_grow L (vc:=vc) (os:=olds.take (n * k)) (cs:=olds.drop (n * k)) (vs:=mvs) (b:=b) (o:=o) (vb:=vb) (vo:=vo) (z9:=z9) (i9:=i9) hlt hM0 hnc hroom' hlim hi9 hz9 (by rw [tP];omega)
    (λj v hj=>by
     rw [ur] at hj;split at hj
     ·have:=hoc _ rfl j v hj;rwa [xF] at this
     ·cases hj) (by rw [rf,hol];omega) (λj v hj=>by
     rw [uP] at hj;have:=hoc _ rfl _ v hj;rwa [xF,<- sj] at this) (λv hv=>(htail.one') v hv) hmcell hmvl hmva.one'
   refine this.mono λe w' ⟨h1,h2⟩=>?_;subst h1 h2;have hge:=grownCap_ge w (xs.length+M.length) c (ρ.t 9);have hgm:grownCap w (xs.length+M.length) c (ρ.t 9)<=maxLen:=grownCap_le_maxLen w _ c _ (by unfold yN at hlim;simp only [maxLen];omega);have htot2:((xs.take n).map row).length+(ys.map row).length=xs.length+M.length:=by rw [htot,hRl]
   obtain ⟨g',hg',hr',hv'⟩:=row_grow_out (C:=grownCap w (xs.length+M.length) c (ρ.t 9)) (rest:=(Builtin.zeroCells z9.cells (grownCap w (xs.length+M.length) c (ρ.t 9) - (xs.length+M.length))).toList) (e:=ρ.t 9) (r1.drew) hh1' hyk hyva1 hypu hb1 hyn hh2 (by rw [htot2];exact hge) hgm (by rw [sA,size_zeroCells,hzc9,htot2]);exact fin hg' hr' (by rw [htot2] at hv' ⊢;exact hv')
end
end Go.Vv
namespace Go.Vv
open Go

theorem rows1 {B0:Nat} {w0 w w1:World} {g1 g:Gh} {h:AH} {B:List Blk} {T:List Nat} {k:Nat} {es:List (List AV)} {a:AV} {x:Value} (r1:Rel B0 w0 g1 h w1) (hg:g1.le g) (r:Rel B0 w0 g (h.ext B T) w) (h1:HdS h B k es a) (hV1:V g a x) :
  ∃g',g1.le g'/\Rel B0 w0 g' (h.ext [.row h.toks.length k es] [es.length]) w/\V g' (.rsl h.blks.length h.toks.length k es.length) x/\(∀b v,b.low h.blks.length h.toks.length=true->V g b v->V g' b v)/\∀c,c ∈ g.δ->c ∈ g'.δ:=by
 obtain ⟨t1,⟨x1,c1,rfl,a1,b1,e1⟩,tr1,tn1,hl1,hp1,hrow1,ho1⟩:=HdS.tok r h1 hV1;have hcut:(h.ext B T).cut h.blks.length h.toks.length=h:=by
  simp [AH.cut,AH.ext]
 have rc:=r.cut h.blks.length h.toks.length (λi k hi hk=>by
  have hi':i < h.blks.length:=hi;have hk':h.blks[i]?=some k:=by simp only [AH.ext] at hk;rwa [uo hi'] at hk
  have:=r1.isLow hk';rw [r1.slen,r1.tlen] at this;exact this)
 rw [hcut] at rc;have hlec:g1.le (g.cut h.blks.length h.toks.length):=by
  have:=Gh.le_cut hg;rw [r1.slen,r1.tlen] at this;exact this
 have hlow:∀b v,b.low h.blks.length h.toks.length=true->V g b v->V (g.cut h.blks.length h.toks.length) b v:=λb v hb hv=>by
  have:=VL.cut (n:=h.blks.length) (m:=h.toks.length) [b] [v] (by simp [zG,hb]) (by simp only [VL];exact ⟨v,[],rfl,hv,rfl⟩);simp only [VL] at this
  simp_all
 generalize hgc:g.cut h.blks.length h.toks.length=gc at rc hlec hlow;have hgcτ:gc.τ=g.τ.take h.toks.length:=by rw [<- hgc];rfl
 have hgcσ:gc.σ=g.σ.take h.blks.length:=by rw [<- hgc];rfl
 have hgcΦ:gc.Φ=g.Φ:=by rw [<- hgc];rfl
 have tget:∀(i:Nat) (t:TI),gc.τ[i]?=some t->g.τ[i]?=some t/\i < h.toks.length:=λi t ht=>by
  grind
 have sget:∀(i:Nat) (c:Option Nat),gc.σ[i]?=some c->g.σ[i]?=some c:=λi c hc=>by
  grind
 have loc:(∀b l e,t1.loc=some (b,l,e)->LocOk gc.Φ B0 w b l e)/\∀b x,t1.loc=some (b,x)->(∀(j:Nat) (u:TI) (y:Nat×Nat),gc.τ[j]?=some u->u.loc ≠ some (b,y))/\(∀(j c:Nat),gc.σ[j]?=some (some c)->b ≠ c)/\gc.N b=none/\¬ gc.O b:=by
  rcases ho1 with rfl | ⟨j,i,_,ht⟩
  ·simp_all
  ·refine ⟨λb l e hl=>by rw [hgcΦ];exact (r.tok _ _ ht).2 b l e hl,λb x hx=>⟨λj' u y hu hy=>?_,λj' c hc=>r.sep _ _ _ _ _ _ (sget _ _ hc) ht hx,(by rw [<- hgc];exact r.ntok ht hx),(by rw [<- hgc];exact r.otok ht hx)⟩⟩;obtain ⟨hu',hlt⟩:=tget _ _ hu;have:=r.tinj _ _ _ _ _ _ _ hu' ht hy hx;omega
 have tl:gc.τ.length=h.toks.length:=rc.tlen;have sl:gc.σ.length=h.blks.length:=rc.slen;have hleA:gc.le ((gc.addT t1).addS none):=(gc.le_addT t1).trans (Gh.le_addS _ none);have rowok:RowOk ((gc.addT t1).addS none) w gc.τ.length k es:=by
  refine ⟨t1,by simp [Gh.addT,Gh.addS],tr1,tn1,hl1,hp1,hrow1.imp (λh=>h) ?_⟩
  rintro ⟨b,o,e,cs,ty,q1,q2,q3,q4,q5⟩
  exact ⟨b,o,e,cs,ty,q1,q2,(by have:=VA.cut (n:=h.blks.length) (m:=h.toks.length) _ _ (qe hp1) q3;rw [hgc] at this;exact this.mono hleA),q4,λj hj=>by show gc.Φ b j=none;rw [hgcΦ];exact q5 j hj⟩
 have rA:=rc.newRowT t1 k es loc.1 loc.2 rowok;refine ⟨_,hlec.trans hleA,?_,?_,λb v hb hv=>(hlow b v hb hv).mono hleA,λc hc=>hleA.del c (by rw [<- hgc];exact hc)⟩
 ·have eh:(({ h with toks:=h.toks++[t1.n] }:AH).new (.row gc.τ.length k es))=h.ext [.row h.toks.length k es] [es.length]:=by
   rw [tl,tn1];simp [AH.new,AH.ext]
  grind
 ·simp only [V];refine ⟨x1,c1,rfl,a1,b1,t1,?_,e1⟩;simp only [Gh.addT,Gh.addS]
  grind
theorem fin_row1 {h:AH} {K:AV->AH->Prop} {i:AV} {B:List Blk} {T:List Nat} {b:Nat} {a:List (List AV)} (n:HdS h B b a i) (m:K (.rsl h.blks.length h.toks.length b a.length) (h.ext [.row h.toks.length b a] [a.length])):finK h K i (h.ext B T):=by
 refine fin_wk (λB0 w0 w p q g vs k l r j=>?_) m;simp only [VL] at j;obtain ⟨v,_,rfl,o,rfl⟩:=j;obtain ⟨g',f,d,e,_,c⟩:=rows1 k l r n o;exact ⟨g',f,d,by simp only [VL];exact ⟨v,[],rfl,e,rfl⟩,c⟩
end Go.Vv
namespace Go.Vv
open Go Go.RowKit Go.Lib
variable {k:Nat} {α:Type}

def leG (p:Gh->Prop) (a b:AV):Prop:=∀g v,p g->V g a v->V g b v
inductive leGR (p:Gh->Prop):List AV->List AV->Prop
 | nil:leGR p [] []
 | cons {a b:AV} {a5 bs:List AV} (hp:b.pure=true) (h:leG p a b) (t:leGR p a5 bs):leGR p (a::a5) (b::bs)
inductive leGE (p:Gh->Prop):List (List AV)->List (List AV)->Prop
 | nil:leGE p [] []
 | cons {a b:List AV} {a5 bs:List (List AV)} (h:leGR p a b) (t:leGE p a5 bs):leGE p (a::a5) (b::bs)
def AnyG (_:Gh):Prop:=True
def OldG (g:Gh):Prop:=∀b j v,g.Φ b j=some v->g.O b
section
variable {p:Gh->Prop}
theorem leG.refl {a:AV}:leG p a a:=λ_ _ _ h=>h
theorem leGR.refl:∀{a5:List AV},a5.all AV.pure=true->leGR p a5 a5
 | [],_=>.nil
 | a::r,h=>by
  simp only [tc,ud] at h;exact .cons h.1 leG.refl (leGR.refl h.2)
theorem leGR.len:∀{a5 bs:List AV},leGR p a5 bs->a5.length=bs.length
 | _,_,.nil=>rfl
 | _,_,.cons _ _ t=>by simp [t.len]
theorem leGE.len:∀{a5 bs:List (List AV)},leGE p a5 bs->a5.length=bs.length
 | _,_,.nil=>rfl
 | _,_,.cons _ t=>by simp [t.len]
theorem leGE.map {α:Type} {row a:α->List AV} (h:∀x,leGR p (row x) (a x)):∀L:List α,leGE p (L.map row) (L.map a)
 | []=>.nil
 | x::r=>.cons (h x) (leGE.map h r)
theorem VC.leG {g:Gh} (a:p g) {b:Nat}:∀{o:Nat} {a5 bs:List AV},leGR p a5 bs->VC g b o a5->VC g b o bs
 | _,_,_,.nil,_=>by omega
 | _,_,_,.cons q h t,hv=>by
  simp only [VC] at hv ⊢;obtain ⟨⟨v,d,_,e⟩,c⟩:=hv;exact ⟨⟨v,d,q,h _ _ a e⟩,VC.leG a t c⟩
theorem VE.leG {g:Gh} (a:p g) {b k:Nat}:∀{o:Nat} {a5 bs:List (List AV)},leGE p a5 bs->VE g b k o a5->VE g b k o bs
 | _,_,_,.nil,_=>by omega
 | _,_,_,.cons h t,hv=>by
  simp only [VE] at hv ⊢;obtain ⟨⟨d,c⟩,e⟩:=hv;exact ⟨⟨h.len.symm.trans d,VC.leG a h c⟩,VE.leG a t e⟩
theorem leG.sl {k:Nat} {es es':List (List AV)} (h:leGE p es es'):leG p (.sl k es) (.sl k es'):=λg v f d=>by
 simp only [V] at d ⊢;obtain ⟨a,c,e,j,i,l⟩:=d;refine ⟨a,c,by rw [<- h.len];exact e,by rw [<- h.len];exact j,i,l.imp (λe=>?_) λ⟨b,o,e,hh⟩=>⟨b,o,e,VE.leG f h hh⟩⟩;subst e;cases h;rfl
theorem leG.bsl {k:Nat} {es es':List (List AV)} (h:leGE p es es'):leG p (.bsl k es) (.sl k es'):=λg v f d=>by
 simp only [V] at d ⊢;obtain ⟨a,c,e,j,i,l⟩:=d;refine ⟨a,c,by rw [<- h.len];exact e,by rw [<- h.len];exact j,i,l.imp (λe=>?_) λ⟨b,o,e,hh,_⟩=>⟨b,o,e,VE.leG f h hh⟩⟩;subst e;cases h;rfl
theorem leG.nsl {k:Nat} {es es':List (List AV)} (h:leGE p es es'):leG p (.nsl k es) (.sl k es'):=λg v f d=>by
 simp only [V] at d ⊢;obtain ⟨a,c,e,j,i,l⟩:=d;refine ⟨a,c,by rw [<- h.len];exact e,by rw [<- h.len];exact j,i,l.imp (λe=>?_) λ⟨b,o,e,hh,_⟩=>⟨b,o,e,VE.leG f h hh⟩⟩;subst e;cases h;rfl
theorem leG.old {es es':List (List AV)} (u:0 < k) (h:leGE OldG es es'):leG OldG (.sl k es) (.bsl k es'):=λg v f i=>by
 simp only [V] at i ⊢;obtain ⟨a,c,e,m,j,s⟩:=i;refine ⟨a,c,by rw [<- h.len];exact e,by rw [<- h.len];exact m,j,?_⟩;rcases s with rfl | ⟨b,o,n,hh⟩
 ·left;cases h;rfl
 ·cases es with
  | nil=>left;cases h;rfl
  | cons x r =>
   refine .inr ⟨b,o,n,VE.leG f h hh,?_⟩;simp only [VE] at hh;obtain ⟨⟨l,d⟩,_⟩:=hh;cases x with
   | nil=>simp at l;omega
   | cons y q =>
    simp only [VC] at d;obtain ⟨⟨v,t,_⟩,_⟩:=d;exact f b o v t
theorem leG.slM {row a:α->List AV} {L:List α} (h:∀x,leGR p (row x) (a x)):leG p (.sl k (L.map row)) (.sl k (L.map a)):=leG.sl (leGE.map h L)
theorem leG.bslM {row a:α->List AV} {L:List α} (h:∀x,leGR p (row x) (a x)):leG p (.bsl k (L.map row)) (.sl k (L.map a)):=leG.bsl (leGE.map h L)
theorem leG.nslM {row a:α->List AV} {L:List α} (h:∀x,leGR p (row x) (a x)):leG p (.nsl k (L.map row)) (.sl k (L.map a)):=leG.nsl (leGE.map h L)
theorem leG.oldM {row a:α->List AV} {L:List α} (b:0 < k) (h:∀x,leGR OldG (row x) (a x)):leG OldG (.sl k (L.map row)) (.bsl k (L.map a)):=leG.old b (leGE.map h L)
end
theorem leG.v {a b:AV} (h:leG AnyG a b):leV a b:=λg v c=>h g v trivial c
theorem g0_old (W:World):OldG (g0 W):=λb j v e=>by
 simp only [g0] at e ⊢
 simp_all
def Gh.gv (g:Gh):Gh :=
 { g with Φ:=λb j=>match g.N b with | some (.new _)=>none | _=>g.Φ b j,N:=λb=>match g.N b with | some (.new s)=>some (.gar s) | x=>x }
def ctV (a b:AV):Prop:=∀(B:Nat) (w0:World) (g:Gh) (h:AH) (w:World) (v:Value),Rel B w0 g h w->V g a v->V g.gv b v
inductive ctR:List AV->List AV->Prop
 | nil:ctR [] []
 | cons {a b:AV} {a5 bs:List AV} (hp:b.pure=true) (h:ctV a b) (t:ctR a5 bs):ctR (a::a5) (b::bs)
inductive ctE:List (List AV)->List (List AV)->Prop
 | nil:ctE [] []
 | cons {a b:List AV} {a5 bs:List (List AV)} (h:ctR a b) (t:ctE a5 bs):ctE (a::a5) (b::bs)
def AV.plain:AV->Bool
 | .bool _ | .int _ _ | .str _ | .any | .nilp | .nilm | .nilf | .nili | .nilsl | .glob _ | .tup []=>true
 | _=>false
theorem ctV.plain {a:AV} (h:a.plain=true):ctV a a:=λB w0 g hh w v _ b=>by
 unfold AV.plain at h;split at h <;> first | (simp only [V];done) | (simp only [V,VL] at b ⊢;exact b) | cases h
theorem ctR.plain:∀{a5:List AV},a5.all AV.plain=true->a5.all AV.pure=true->ctR a5 a5
 | [],_,_=>.nil
 | a::r,h,k=>by
  simp only [tc,ud] at h k;exact .cons k.1 (.plain h.1) (ctR.plain h.2 k.2)
theorem ctR.len:∀{a5 bs:List AV},ctR a5 bs->a5.length=bs.length
 | _,_,.nil=>rfl
 | _,_,.cons _ _ t=>by simp [t.len]
theorem ctE.len:∀{a5 bs:List (List AV)},ctE a5 bs->a5.length=bs.length
 | _,_,.nil=>rfl
 | _,_,.cons _ t=>by simp [t.len]
theorem ctE.map {α:Type} {row a:α->List AV} (h:∀x,ctR (row x) (a x)):∀L:List α,ctE (L.map row) (L.map a)
 | []=>.nil
 | x::r=>.cons (h x) (ctE.map h r)
section
variable {B:Nat} {w0 w:World} {g:Gh} {h:AH}
theorem VC.ct (r:Rel B w0 g h w) {b:Nat} (a:∀j v,g.Φ b j=some v->g.gv.Φ b j=some v):∀{o:Nat} {a5 bs:List AV},ctR a5 bs->VC g b o a5->VC g.gv b o bs
 | _,_,_,.nil,_=>by simp only [VC]
 | _,_,_,.cons q h t,hv=>by
  simp only [VC] at hv ⊢;obtain ⟨⟨v,d,_,e⟩,c⟩:=hv;exact ⟨⟨v,a _ _ d,q,h _ _ _ _ _ _ r e⟩,VC.ct r a t c⟩
theorem VE.ct (r:Rel B w0 g h w) {b k:Nat} (a:∀j v,g.Φ b j=some v->g.gv.Φ b j=some v):∀{o:Nat} {a5 bs:List (List AV)},ctE a5 bs->VE g b k o a5->VE g.gv b k o bs
 | _,_,_,.nil,_=>by simp only [VE]
 | _,_,_,.cons h t,hv=>by
  simp only [VE] at hv ⊢;obtain ⟨⟨d,c⟩,e⟩:=hv;exact ⟨⟨h.len.symm.trans d,VC.ct r a h c⟩,VE.ct r a t e⟩
theorem VA.ct (r:Rel B w0 g h w):∀{a5 bs:List AV} {vs:List Value},ctR a5 bs->VA g a5 vs->VA g.gv bs vs
 | _,_,_,.nil,hv=>by simpa only [VA] using hv
 | _,_,_,.cons q h t,hv=>by
  simp only [VA] at hv ⊢;obtain ⟨v,s,rfl,⟨_,b⟩,a⟩:=hv;exact ⟨v,s,rfl,⟨AV.one_of_pure q,h _ _ _ _ _ _ r b⟩,VA.ct r t a⟩
theorem ctR.append:∀{a5 bs cs ds:List AV},ctR a5 bs->ctR cs ds->ctR (a5++cs) (bs++ds)
 | _,_,_,_,.nil,k=>k
 | _,_,_,_,.cons q h t,k=>.cons q h (t.append k)
theorem ctE.flat:∀{a5 bs:List (List AV)},ctE a5 bs->ctR a5.flatten bs.flatten
 | _,_,.nil=>.nil
 | _,_,.cons h t=>by simp only [u6];exact h.append t.flat
theorem ctR.pure:∀{a5 bs:List AV},ctR a5 bs->bs.all AV.pure=true
 | _,_,.nil=>rfl
 | _,_,.cons q _ t=>by simp [q,t.pure]
end
theorem ctV.bsl {k:Nat} {es es':List (List AV)} (h:ctE es es'):ctV (.bsl k es) (.bsl k es'):=λB w0 g hh w v r d=>by
 simp only [V] at d ⊢;obtain ⟨a,c,e,l,i,m⟩:=d;refine ⟨a,c,by rw [<- h.len];exact e,by rw [<- h.len];exact l,i,m.imp (λe=>?_) λ⟨b,o,e,hh,f⟩=>⟨b,o,e,VE.ct r (λj v d=>?_) h hh,?_⟩⟩
 ·subst e;cases h;rfl
 ·have:=(r.ob b f).2;simp only [Gh.gv]
  simp_all
 ·exact f
theorem ctV.bslM {row a:α->List AV} {L:List α} (h:∀x,ctR (row x) (a x)):ctV (.bsl k (L.map row)) (.bsl k (L.map a)):=ctV.bsl (ctE.map h L)
theorem ctV.nsl {k n:Nat} {es:List (List AV)} (z:0 < k) (t:es.length=n):ctV (.nsl k es) (.gsl k n):=λB w0 g hh w v r f=>by
 subst t;simp only [V] at f ⊢;obtain ⟨a,c,e,j,i,q⟩:=f;refine ⟨a,c,e,j,i,?_⟩;rcases sU es.length with h0 | h0
 ·omega
 ·rcases q with rfl | ⟨b,o,e,hh,s,hs⟩
  ·simp_all
  ·refine .inr ⟨b,o,s,e,by simp only [Gh.gv,hs],?_⟩;obtain ⟨_,_,cs,ty,y,m⟩:=r.nb b _ hs;obtain ⟨D,l⟩:=hh.get (es.length - 1) (es[es.length - 1]'(by omega)) (ug _);obtain ⟨u,x,_⟩:=l.get (k - 1) _ (ug (by omega));have d:=r.phi _ _ _ x;rw [cell_of_row w b _ cs ty (0,0) y] at d;have A:=(uG.1 d).1;have C:(es.length - 1) * k+k=es.length * k:=by
    rw [<- sm];congr 1;omega
   omega
theorem ctV.rsl {id t k n:Nat}:ctV (.rsl id t k n) (.rsl id t k n):=λ_ _ _ _ _ _ _ a=>by simp only [V] at a ⊢;exact a
inductive ctL:List AV->List AV->Prop
 | nil:ctL [] []
 | cons {a b:AV} {a5 bs:List AV} (h:ctV a b) (t:ctL a5 bs):ctL (a::a5) (b::bs)
 | away {a:AV} {a5 bs:List AV} (t:ctL a5 bs):ctL (a::a5) (.any::bs)
theorem VL.ct {B:Nat} {w0 w:World} {g:Gh} {h:AH} (r:Rel B w0 g h w):∀{a5 bs:List AV} {vs:List Value},ctL a5 bs->VL g a5 vs->VL g.gv bs vs
 | _,_,_,.nil,hv=>by simpa only [VL] using hv
 | _,_,_,.cons h t,hv=>by
  simp only [VL] at hv ⊢;obtain ⟨v,s,rfl,b,a⟩:=hv;exact ⟨v,s,rfl,h _ _ _ _ _ _ r b,VL.ct r t a⟩
 | _,_,_,.away t,hv=>by
  simp only [VL] at hv ⊢;obtain ⟨v,s,rfl,b,a⟩:=hv;exact ⟨v,s,rfl,by simp only [V],VL.ct r t a⟩
inductive ctB:List Blk->List Blk->Prop
 | nil:ctB [] []
 | dead {b:Blk} {a5 bs:List Blk} (t:ctB a5 bs):ctB (b::a5) (.dead::bs)
 | row {i k:Nat} {es es':List (List AV)} {a5 bs:List Blk} (h:ctE es es') (t:ctB a5 bs):ctB (.row i k es::a5) (.row i k es'::bs)
theorem ctB.len:∀{a5 bs:List Blk},ctB a5 bs->a5.length=bs.length
 | _,_,.nil=>rfl
 | _,_,.dead t=>by simp [t.len]
 | _,_,.row _ t=>by simp [t.len]
theorem ctB.get:∀{a5 bs:List Blk},ctB a5 bs->∀(i:Nat) (b:Blk),bs[i]?=some b->∃a,a5[i]?=some a/\(b=.dead \/ ∃t k es es',a=.row t k es/\b=.row t k es'/\ctE es es')
 | _,_,.nil,i,b,hi=>by simp at hi
 | _,_,.dead t,i,b,hi=>by
  cases i with
  | zero=>simp at hi;exact ⟨_,rfl,.inl hi.symm⟩
  | succ i=>simpa using t.get i b (by simp_all)
 | _,_,.row h t,i,b,hi=>by
  cases i with
  | zero=>simp at hi;exact ⟨_,rfl,.inr ⟨_,_,_,_,rfl,hi.symm,h⟩⟩
  | succ i=>simpa using t.get i b (by simp_all)
theorem Rel.gv {B:Nat} {w0 w:World} {g:Gh} {bs F:List Blk} {T:List Nat} (r:Rel B w0 g ⟨bs,T⟩ w) (m:ctB bs F):Rel B w0 g.gv ⟨F,T⟩ w:=by
 have M:∀b j v,g.gv.Φ b j=some v->g.Φ b j=some v:=λb j v e=>by
  simp only [Gh.gv] at e
  grind
 have d:∀b j,g.Φ b j=none->g.gv.Φ b j=none:=λb j e=>by
  rcases A:g.gv.Φ b j with _ | v
  ·rfl
  ·simp_all
 have q:∀b,Apart g b->Apart g.gv b:=λb h=>h;refine ⟨r.below,r.bsz,λb j v e=>r.phi b j v (M _ _ _ e),r.slen.trans m.len,λi c k S K=>?_,r.tlen,λi t V=>?_,r.sinj,r.tinj,r.sep,r.dfr,λi k hi K=>?_,λi j t k k' es es' hi G=>?_,λb x A=>?_,λb m=>⟨(r.ob b m).1,λs=>?_⟩,r.oa⟩
 ·obtain ⟨a,C,h | ⟨t,H,es,es',rfl,rfl,_⟩⟩:=m.get i k K
  ·subst h;obtain ⟨D,f,_,_⟩:=r.blk i c a S C;exact ⟨D,f,trivial,λh=>absurd rfl h⟩
  ·exact (r.blk i c _ S C).2.2.1.elim
 ·obtain ⟨D,f⟩:=r.tok i t V;exact ⟨D,λb l e u=>⟨(f b l e u).lo,(f b l e u).lt,(f b l e u).cells,λj G=>d b j ((f b l e u).free j G)⟩⟩
 ·obtain ⟨a,C,h | ⟨t,H,es,es',rfl,rfl,z⟩⟩:=m.get i k K
  ·subst h;trivial
  ·obtain ⟨R,D,f,Z,h4,h5,h6⟩:=r.row i _ hi C;refine ⟨R,D,f,Z.trans z.len,?_,z.flat.pure,?_⟩
   ·intro e hm;obtain ⟨n,E⟩:=tb.1 hm;have:∀{a5 bs:List (List AV)},ctE a5 bs->(∀e ∈ a5,e.length=H)->∀(n:Nat) (e:List AV),bs[n]?=some e->e.length=H:=by
     intro a5 bs I
     induction I with
     | nil=>intro _ n e h;simp at h
     | cons h _ ih =>
      intro u n e E;cases n with
      | zero=>simp at E;subst E;exact h.len.symm.trans (u _ (by simp))
      | succ n=>exact ih (λe z=>u e (by simp [z])) n e (by simp_all)
    grind
   ·refine h6.imp (λe=>?_) ?_
    ·subst e;cases z;rfl
    ·rintro ⟨b,o,e,cs,ty,Q,O,W,q4,X⟩
     have E:es.length=es'.length:=z.len;exact ⟨b,o,e,cs,ty,by simp_all,O,by rw [<- E];exact VA.ct r z.flat W,by simp_all,λj G=>d b j (X j G)⟩
 ·obtain ⟨a,C,h | ⟨R,H,e1,e1',rfl,h,_⟩⟩:=m.get i _ hi
  ·cases h
  ·obtain ⟨a',J,L | ⟨t2,k2,e2,U,rfl,L,_⟩⟩:=m.get j _ G
   ·cases L
   ·injection h with Q _ _;injection L with O _ _;subst Q O;exact r.rinj _ _ _ _ _ _ _ C J
 ·simp only [Gh.gv] at A;have key:∀y,g.N b=some y->(∀s,y ≠ .new s)->NOk B g.gv w b y:=λy Y hs=>by
   have:=r.nb b y Y;cases y with
   | new s=>exact absurd rfl (hs s)
   | gar s=>exact ⟨this.1,q b this.2.1,this.2.2.1,λj=>d b j (this.2.2.2 j)⟩
   | shut o=>exact ⟨this.1,q b this.2.1,this.2.2.1,λj=>d b j (this.2.2.2 j)⟩
   | frz o=>exact ⟨this.1,q b this.2.1,this.2.2⟩
  split at A
  ·rename_i s hs;injection A with A;subst A;have:=r.nb b _ hs;exact ⟨this.1,q b this.2.1,this.2.2,λj=>by simp only [Gh.gv,hs]⟩
  ·simp_all
 ·have:=(r.ob b m).2 s;have f:=(r.ob b m).2;simp only [Gh.gv]
  simp_all

def gBot:Gh:={ Φ:=λ_ _=>none,σ:=[],τ:=[],δ:=[] }
theorem gBot_le (g:Gh):gBot.le g:=⟨λ_ _ _ e=>(by cases e),λi c e=>(by simp [gBot] at e),λi t e=>(by simp [gBot] at e),λc e=>(by simp [gBot] at e),λb x e=>(by cases e),λb h=>h.elim⟩
def awpC (P:Program) (T:Exit->List AV->AH->Prop):Nat->Code->List AV->AH->Prop
 | n+1,.seq a b,env,h=>wH P a (λx env' h'=>match x with
  | .normal=>∃env2 h2,wk h env' h' env2 h2/\awpC P T n b env2 h2
  | x=>T x env' h') env h
 | 0,c,env,h=>∃env2 bs',ctL env env2/\ctB h.blks bs'/\wH P c T env2 ⟨bs',h.toks⟩
 | _+1,_,_,_=>False
section
variable {P:Program} {B:Nat} {w0:World} [GOk P B w0] {n0:Nat}
theorem awpC_sound {T:Exit->List AV->AH->Prop}:∀(n:Nat) (c:Code) {env:List AV} {h:AH} {a:Act} {w:World},awpC P T n c env h->StM B w0 gBot gBot env h a w->∀{Q:Exit->Act->World->Prop},
  (∀x d t a' w',T x d t->StM B w0 gBot gBot d t a' w'->Q x a' w')->c.wpIn (WF none) n0 P Q a w
 | 0,c,env,h,a,w,i,hs,Q,hQ=>by
  obtain ⟨g,_,r,C,z,_⟩:=hs;obtain ⟨b,f,J,F,i⟩:=(show ∃b f,ctL env b/\ctB h.blks f/\wH P c T b ⟨f,h.toks⟩ by cases c <;> exact i)
  exact wo (gb:=gBot) (g0:=gBot) c (.inl rfl) i ⟨g.gv,gBot_le _,r.gv F,VL.ct r J C,z.mono λ_ h=>h,gBot_le _⟩ hQ
 | n+1,c,env,h,a,w,i,hs,Q,hQ=>by
  cases c with
  | seq x y =>
   obtain ⟨g,M,r,C,z,A⟩:=hs;refine wpIn_seq (wo (gb:=gBot) (g0:=g) x (.inl rfl) i ⟨g,Gh.le.refl g,r,C,z,A⟩ λe d t a' w' o s=>?_);obtain ⟨E,u,D,m,j,l⟩:=s;cases e with
   | normal =>
    obtain ⟨b,L,G,o⟩:=o;obtain ⟨H,I,K,v,q⟩:=G B w0 w' w g E _ r u D m;exact awpC_sound n y o ⟨H,gBot_le _,K,v,j.mono q,gBot_le _⟩ hQ
   | _=>exact hQ _ _ _ _ _ o ⟨E,gBot_le _,D,m,j,l⟩
  | _=>exact i.elim
end
def SpecT (P:Program) (f:FuncId) (args:List AV) (h:AH) (K:AV->Prop):Prop :=
 ∀(B:Nat) (w0:World) [GOk P B w0] (g:Gh) (w:World) (vs:Array Value),Rel B w0 g h w->VL g args vs.toList ->
  Calls P f vs w λe w'=>∃v r h' g',e=.returned v/\K r/\Rel B w0 g' h' w'/\V g' r v
def bodyT (P:Program) (fn:Func) (K:AV->Prop) (x:Exit) (env:List AV) (h:AH):Prop :=
 match x with
 | .normal | .ret=>match aRes P fn env h with
  | some r=>K r
  | none=>False
 | _=>False
theorem specT_of_body {P:Program} {f:FuncId} {fn:Func} {c:Code} (I:P.funcs[f]?=some fn) (D:fn.body=some c) (n:Nat) {args:List AV} {h:AH} {K:AV->Prop}
  (H:awpC P (bodyT P fn K) n c (args++List.replicate (fn.ntmps - args.length) aundef) h):SpecT P f args h K:=by
 intro B w0 _ g w vs r A;refine callsIn_wide.1 (callsIn_of_wp_marks (F:=WF none) (n:=0) I D trivial ?_ rfl);have i:args.length=vs.size:=by rw [A.length];rfl
 refine awpC_sound (B:=B) (w0:=w0) n c H ⟨g,gBot_le g,r,?_,Marks.nil _ _,gBot_le g⟩ λx a G a' w' o hs=>?_
 ·simp only [tC,pw,i];exact VL.append A (VL.undefs _)
 ·obtain ⟨g',_,C,N,M,_⟩:=hs;have b:(match aRes P fn a G with | some r=>K r | none=>False) ->
    LeavesInM (WF none) 0 P fn a'.tmps (λe m=>∃v' r v z,e=.returned v'/\K r/\Rel B w0 z v m/\V z r v') a'.defers .returning w':=by
   intro j;split at j
   ·rename_i Q L;obtain ⟨cs,E,q,l⟩:=M;refine leaves_marks a'.defers cs w' E q ?_ (gBot_le g') C N (λc t=>(l c t).1) (λc t=>(l c t).2);intro m J y s d;obtain ⟨u,O,v⟩:=res_sound s d L
    grind
   ·simp_all
  cases x with
  | normal=>exact b o
  | ret=>exact b o
  | _=>exact o.elim
end Go.Vv
namespace Go.Vv
open Go Go.RowKit
variable {x y:Operand} {t e:TypeId} {k:Nat} {ys:List (List AV)}
section
variable {P:Program} {o:Oper} {env env':List AV} {h:AH} {ops:Array Oper} {Q:List AV->AH->Prop} {rest:List Oper}
theorem s_anew {c:Call} {u w:TypeId} {k':Nat} {a b f:AV} (z:o.op=.call c) (R:c.callee=.builtin .append) (hs:c.args=#[x,y]) (l:c.argTypes=#[t,u]) (g:El P t e k)
  (d:El P u w k') (H:yf env x=some a) (F:yf env y=some b) (O:tyfix P t a=.osl none k []) (m:tyfix P u b=f) (I:qt k f=some ys) (E:ys.length<=yN):anew P o env=some (k,ys):=by
 obtain ⟨q,j⟩:=zR H;obtain ⟨G,p⟩:=zR F;obtain ⟨i,s,J,r,D,N⟩:=g.i;subst J;simp [anew,z,hs,l,R,q,G,g.u,d.u,j,p,s,r,D,N,O,m,I,E]
theorem ops_new (f:aG ops o env=some true) (g:anew P o env=some (k,ys)) (hd:xV o.dst env (.nsl k ys)=some env') (d:zJ P ops Q rest env' h):zJ P ops Q (o::rest) env h:=by
 refine awpOps_consN f g ?_;rw [yO hd];exact d
end
theorem leV.nil_nsl:leV (.osl none k []) (.nsl k []):=λg v d=>by
 simp only [V] at d ⊢
 grind
section
variable {P:Program} {o:Oper} {env:List AV} {h:AH} {A A' L B:List Blk} {T T' M C:List Nat} {nb nt:Nat}
theorem d_appR {α:Type} {row:α->List AV} {X Y:List α} (I:h.blks.length=nb) (d:h.toks.length=nt) {c:Call} {x y:Operand} {t u e s:TypeId} {k k' i j n:Nat} {a b l:AV} (z:o.op=.call c) (R:c.callee=.builtin .append) (hs:c.args=#[x,y]) (m:c.argTypes=#[t,u]) (F:El P t e k)
  (f:El P u s k') (H:yf env x=some a) (E:yf env y=some b) (O:tyfix P t a=.rsl (nb+i) (nt+j) k n) (p:tyfix P u b=l) (J:qt k l=some (Y.map row)) (D:X.length+Y.length<=yN)
  (hi:A[i]?=some (.row (nt+j) k (X.map row))) (g:X.length=n) (N:T[j]?=some n) (w:A.set i (.row (nt+j) k ((X++Y).map row))=A') (r:T.set j (X++Y).length=T') :
  zr P o env (((h.ext A T).ext L M).ext B C)=.ok (.rsl (nb+i) (nt+j) k (X++Y).length) (((h.ext A' T').ext L M).ext B C):=by
 subst I d w r;have G:=(uc.1 hi).1;have q:=(uc.1 N).1;have:=e_appR (P:=P) (h:=h) (B:=A++L++B) (T:=T++M++C) (B':=(A.set i (.row (h.toks.length+j) k ((X++Y).map row)))++L++B) (T':=(T.set j (X++Y).length)++M++C) z R hs m F f H E O p J D
  (by grind) g (by grind)
  (by simp_all) (by simp_all)
 simp only [xf];omega
end
def seqC (P:Program) (T:Exit->List AV->AH->Prop) (n:Nat) (h0:AH) (b:Code):Exit->List AV->AH->Prop:=λx env' h'=>match x with
 | .normal=>∃env2 h2,wk h0 env' h' env2 h2/\awpC P T n b env2 h2
 | x=>T x env' h'
section
variable {P:Program} {T:Exit->List AV->AH->Prop} {n:Nat} {env env2:List AV} {h h0:AH} {a b c:Code}
theorem c_seq (d:wH P a (seqC P T n h b) env h):awpC P T (n+1) (.seq a b) env h:=d
theorem cq_seq (d:awpC P T n b env h):seqC P T n h0 b .normal env h:=⟨env,h,wk.refl _ _ _,d⟩
theorem cq_ret (d:T .ret env h):seqC P T n h0 b .ret env h:=d
theorem c_cut (hh:h=Vv.h0) {B B':List Blk} {T':List Nat} (f:ctL env env2) (g:ctB B B') (d:wH P c T env2 (h.ext B' T')):awpC P T 0 c env (h.ext B T'):=by
 subst hh;have e:∀B:List Blk,(Vv.h0.ext B T')=⟨B,T'⟩:=λB=>by rfl
 rw [e] at d ⊢;cases c <;> exact ⟨env2,B',f,g,d⟩
variable {fn:Func} {K:AV->Prop} {rs:List ResultVar} {v:AV}
theorem t_retL1 (g:fn.results=⟨rs⟩) (d:qa P env h rs=some [v]) (f:K v):bodyT P fn K .ret env h:=by
 simp only [bodyT,aRes,g,d];exact f
end
theorem specT_of_body_ext {P:Program} {f:FuncId} {fn:Func} {c:Code} (g:P.funcs[f]?=some fn) (i:fn.body=some c) (n:Nat) {args:List AV} {h:AH} {K:AV->Prop} {env:List AV}
  (j:args++List.replicate (fn.ntmps - args.length) aundef=env) (d:awpC P (bodyT P fn K) n c env (h.ext [] [])):SpecT P f args h K:=by
 rw [ext_nil] at d;exact specT_of_body g i n (by simp_all)
theorem s_storeG {P:Program} {o:Oper} {env:List AV} {h:AH} {d:TypeDesc} {m:Nat} {b f:AV} {vs:List AV} (i:o.op=.store t x y) (l:Ty P t d k) (q:yf env x=some (.gptr m)) (j:yf env y=some b)
  (g:tyfix P t b=f) (p:f.cells?=some vs) (s:vs.length=k) (r:Nat.ble k m=true):zr P o env h=.ok aundef h:=by
 refine s_store i l q j g ?_;simp only [aStore,p]
 simp_all
theorem s_idxG {P:Program} {o:Oper} {env:List AV} {h:AH} {α:Type} {L:List α} {y:α} {j:IntKind} {n:Int} {i:Operand} (d:o.op=.indexAddr t x i) (g:El P t e k) (l:yf env x=some (.gsl k L.length)) (hi:yf env i=some (.int j n)) (f:xe L n=some y) :
  zr P o env h=.ok (.gptr k) h:=by
 obtain ⟨p,m,_⟩:=idxR f;refine s_indexAddr d g l hi ?_;simp only [vI,r7]
 simp_all
end Go.Vv
