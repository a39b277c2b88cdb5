/- slices.Insert on a mutable row, at elements of any width: its text is walked; after the shelf's at texts. -/
import Derived.Shelf.Spec.SlicesInsertGrow
import Derived.Test.YtcociipjgndnaaaGreatVvPt
namespace Go.Vv
open Go Go.RowKit Go.Lib Go.Shelf Go.Proofs

def rtV:Operand->TypeId->TypeId->TypeId
 | .tmp n,τ,t=>bif [13,24,44,61,66,81,87,91].any (· == n) then τ else t
 | _,_,t=>t
def rtA (τ:TypeId):List Operand->List TypeId->List TypeId
 | x::r,t::s=>rtV x τ t::rtA τ r s
 | _,s=>s
def rtOper (τ:TypeId):Oper->Oper
 | ⟨d,.move (.tmp 2),_,p,a,g⟩=>⟨d,.move (.tmp 2),τ,p,a,g⟩
 | ⟨d,.call ⟨f,x,y⟩,t,p,a,g⟩=>⟨d,.call ⟨f,x,(rtA τ x.toList y.toList).toArray⟩,t,p,a,g⟩
 | o=>o
def rtCode (τ:TypeId):Code->Code
 | .region id ops d=>.region id (ops.toList.map (rtOper τ)).toArray d
 | .seq a b=>.seq (rtCode τ a) (rtCode τ b)
 | .cond c a b=>.cond c (rtCode τ a) (rtCode τ b)
 | .block id b=>.block id (rtCode τ b)
 | .loop b=>.loop (rtCode τ b)
 | c=>c
noncomputable def insF (ρ:Ren) (τ:TypeId) (nm:String) (ta:Array TypeId):Func :=
 { Body2.n22 ρ with name:=nm,targs:=ta,params:=#[ρ.t 24,ρ.t 3,τ],body:=(Body2.n22 ρ).body.map (rtCode τ) }
theorem insF_ntmps (ρ:Ren) (τ:TypeId) (b:String) (a:Array TypeId):(insF ρ τ b a).ntmps=95:=Body2.n22_ntmps ρ

structure InsLays (P:Program) (ρ:Ren) (τ:TypeId) (k:Nat):Prop where
 mixed:P.follows .mixedOrders=true
 f22 : ∃ nm ta, P.funcs[ρ.f 22]? = some (insF ρ τ nm ta) ∧ (nm == "runtime.NumGoroutine") = false
 f29:∀(args:Array Value) (w:World),(callFunc (ρ.f 29) args).run P w=((Extern.SlicesOverlaps.overlaps #[τ,τ] #[ρ.t 4] args).run P w).andThen λv w'=>.ok (.value v) w'
 t0:P.underlying (ρ.t 0)=some (TypeDesc.tuple #[])
 a0:∀w,(isAgg (ρ.t 0)).run P w=.ok false w
 z0:∀w,(Go.sizeOf (ρ.t 0)).run P w=.ok 1 w
 v0:∀w,(zeroValue (ρ.t 0)).run P w=.ok (Value.tuple #[]) w
 t3:P.underlying (ρ.t 3)=some (TypeDesc.int IntKind.i64)
 a3:∀w,(isAgg (ρ.t 3)).run P w=.ok false w
 z3:∀w,(Go.sizeOf (ρ.t 3)).run P w=.ok 1 w
 v3:∀w,(zeroValue (ρ.t 3)).run P w=.ok (Value.int IntKind.i64 0) w
 t4:P.underlying (ρ.t 4)=some (TypeDesc.bool)
 a4:∀w,(isAgg (ρ.t 4)).run P w=.ok false w
 z4:∀w,(Go.sizeOf (ρ.t 4)).run P w=.ok 1 w
 v4:∀w,(zeroValue (ρ.t 4)).run P w=.ok (Value.bool false) w
 t24:P.underlying (ρ.t 24)=some (TypeDesc.slice (ρ.t 9))
 a24:∀w,(isAgg (ρ.t 24)).run P w=.ok false w
 z24:∀w,(Go.sizeOf (ρ.t 24)).run P w=.ok 1 w
 v24:∀w,(zeroValue (ρ.t 24)).run P w=.ok (Value.slice none 0 0) w
 t23:P.underlying τ=some (TypeDesc.slice (ρ.t 9))
 a23:∀w,(isAgg τ).run P w=.ok false w
 z23:∀w,(Go.sizeOf τ).run P w=.ok 1 w
 v23:∀w,(zeroValue τ).run P w=.ok (Value.slice none 0 0) w
 i9:∃i z,P.info? (ρ.t 9)=some i/\i.zero=some z/\i.size=k/\z.cells.size=k/\i.bytes<=65536
 k0:0 < k

section
variable {P:Program} {ρ:Ren} {τ:TypeId} {k:Nat}
theorem run_copyK {w:World} {dT sT ty c:TypeId} {i:TypeInfo} {b o dLen dCap sLen sCap n:Nat} {a:Addr} {cs:List Value} {cur:Array Value} {m:TypeId}
  (r:P.underlying dT=some (.slice c)) (hi:P.info? c=some i) (p:n=Nat.min sLen dLen) (l:cs.length=n * i.size)
  (f:∀j v,cs[j]?=some v->w.cell? (a.add j)=some v) (s:w.heap[b]?=some (.cells cur m (0,0))) (d:o+cs.length<=cur.size) (t:∀v ∈ cs,v.oneCell'=true) :
  (Builtin.copy_ #[dT,sT] ty #[.slice (some ⟨b,o,none⟩) dLen dCap,.slice (some a) sLen sCap]).run P w=.ok (goInt n) (w.setRow b (cur.toList.take o++cs++cur.toList.drop (o+cs.length)).toArray):=by
 have q:=run_loadCells_list (P:=P) w a cs f;have e:=run_storeCells_at P b o m cs 0 cur w s (by simpa using d) t;simp only [sA] at e;simp [Builtin.copy_,run_underlying r,Builtin.lenOf,Builtin.firstCells,sizeOf,typeInfo,hi,<- p,<- l,q,e]

set_option maxHeartbeats 4000000 in
set_option maxRecDepth 100000 in
theorem ins_end (L:InsLays P ρ τ k) {b:Option Addr} {n c m:Nat} {xa:Option Addr} {vc:Nat} {w q:World} {r:Value} (J:0 < m) (G:n<=c) (s:c<=9223372036854775807) (i:b=none->c=0)
  (d:∀ty,(Builtin.append_ #[ρ.t 24,τ] ty #[.slice b n c,.slice xa m vc]).run P w=.ok r q) :
  Calls P (ρ.f 22) #[.slice b n c,.int .i64 n,.slice xa m vc] w λe w'=>e=.returned r/\w'=q:=by
 have t0:=L.t0;have a0:=L.a0;have z0:=L.z0;have v0:=L.v0;have t3:=L.t3;have a3:=L.a3;have z3:=L.z3;have v3:=L.v3;have t4:=L.t4;have a4:=L.a4;have z4:=L.z4;have v4:=L.v4;have t24:=L.t24;have a24:=L.a24;have z24:=L.z24;have v24:=L.v24;have t23:=L.t23;have a23:=L.a23;have z23:=L.z23;have v23:=L.v23;have C:=run_underlying L.t23;have M:=run_underlying L.t0;have N:=run_underlying L.t3;have K:=run_underlying L.t4;have E:=run_underlying L.t24;have mixed:=L.mixed;obtain ⟨i9,z9,o,y,l,p,F⟩:=L.i9;have z:∀w,(Go.sizeOf (ρ.t 9)).run P w=.ok k w:=λw=>by rw [<- l];exact x6 o
 have x:¬ ((m:Int)=0):=by omega
 obtain ⟨D,u,A,H⟩:=L.f22
 go_enter A,insF_ntmps ρ τ D u
 simp only [rtCode,rtOper,rtA,rtV,uC,tE,pW,ov,Nat.reduceBEq,pu,od,tr,ow,cond_true,cond_false];cases b with
 | none =>
  have h0:=i rfl;subst h0;have j:n=0:=by omega
  subst j
  go_wp2_with (at_builtin;refine Lib.wpList_append_run _ rfl _ _ _ _ rfl _ _ rfl rfl _ _ (d _) ?_)
  all_goals (go_ret;exact ⟨rfl,rfl⟩)
 | some a =>
  obtain ⟨ab,I,v⟩:=a
  go_wp2_with (at_builtin;refine Lib.wpList_append_run _ rfl _ _ _ _ rfl _ _ rfl rfl _ _ (d _) ?_)
  all_goals (go_ret;exact ⟨rfl,rfl⟩)

theorem ins_ov (L:InsLays P ρ τ k) {w:World} {b vb o vo m vc lb cb:Nat} {cur curv:Array Value} {ty tyv:TypeId} {frv:Nat×Nat} (hc:w.heap[b]?=some (.cells cur ty (0,0))) (hcv:w.heap[vb]?=some (.cells curv tyv frv)) (h0:0 < cur.size) (h0v:0 < curv.size)
  (hsep:vb=b->vo+m * k<=o) :
  (callFunc (ρ.f 29) #[.slice (some ⟨vb,vo,none⟩) m vc,.slice (some ⟨b,o,none⟩) lb cb]).run P w=.ok (.value (.bool false)) w:=by
 rw [L.f29];have hfz:∀j,w.frozen? ⟨b,j,none⟩=false:=λj=>by simp [World.frozen?,hc]
 have hsh:w.shape? b=some (ty,cur.size):=by simp [World.shape?,hc]
 obtain ⟨kv,hkv⟩:∃x,curv.size=x+1:=⟨curv.size - 1,by omega⟩
 have hshv:w.shape? vb=some (tyv,kv+1):=by simp [World.shape?,hcv,hkv]
 have hz0:¬ cur.size=0:=by omega
 have u24:=run_underlying L.t23;obtain ⟨i9,z9,hi9,hz9,hs9,hzc9,hb9⟩:=L.i9;have zz9:∀w,(Go.sizeOf (ρ.t 9)).run P w=.ok k w:=λw=>by rw [<- hs9];exact x6 hi9
 have:(Extern.SlicesOverlaps.overlaps #[τ,τ] #[ρ.t 4] #[.slice (some ⟨vb,vo,none⟩) m vc,.slice (some ⟨b,o,none⟩) lb cb]).run P w=.ok (.bool false) w:=by
  change Sem.run P (α:=Value) (do
   let some t := some τ | stuck "none"
   let .slice elem <- underlying t | stuck _
   let size <- sizeOf elem
   match (some (⟨vb,vo,none⟩:Addr):Option Addr),(some (⟨b,o,none⟩:Addr):Option Addr) with
   | some a,some b =>
    if m=0 \/ lb=0 \/ size=0 then pure (Value.bool false)
    else if a.block != b.block&&(<- frozen a)&&(<- frozen b) then unsupported .addressObserved
    else do
     if a.block != b.block then do
      noView a;noView b
      if <- mayBeOne a b then return Value.bool ((<- choose _)==1)
     pure (Value.bool (a.block==b.block&&a.off < b.off+lb * size&&b.off < a.off+m * size))
   | _,_=>pure (Value.bool false)) w=_
  by_cases h1:m=0 \/ lb=0 \/ k=0
  ·simp [u24,zz9,h1]
  ·by_cases hb:vb=b
   ·have:=hsep hb;subst hb;simp [u24,zz9,h1];omega
   ·have hnb:(vb != b)=true:=by simpa using hb
    simp [u24,zz9,h1,hb,frozen,noView,viewAt,mayBeOne,stringish,shape,Sem.run,hsh,hshv,hfz,hz0]
 rw [this];rfl
set_option maxHeartbeats 4000000 in
set_option maxRecDepth 100000 in
theorem ins_shift (L:InsLays P ρ τ k) {b o n c i vb vo m vc:Nat} {cs vs:List Value} {cur p:Array Value} {ty z:TypeId} {A:Nat×Nat} {w:World} (hi:i < n) (hm:0 < m) (I:n+m<=c) (hc63:c<=9223372036854775807)
  (W:w.heap[b]?=some (.cells cur ty (0,0))) (hfit:o+c * k<=cur.size) (N:cs=(cur.toList.drop (o+i * k)).take ((n - i) * k)) (U:∀v ∈ cs,v.oneCell'=true)
  (s:w.heap[vb]?=some (.cells p z A)) (Q:∀j v,vs[j]?=some v->w.cell? ⟨vb,vo+j,none⟩=some v) (J:vs.length=m * k) (T:∀v ∈ vs,v.oneCell'=true) (D:vb=b->vo+m * k<=o) :
  Calls P (ρ.f 22) #[.slice (some ⟨b,o,none⟩) n c,.int .i64 i,.slice (some ⟨vb,vo,none⟩) m vc] w λe w'=>e=.returned (.slice (some ⟨b,o,none⟩) (n+m) c) /\
   w'=w.drew.setRow b (cur.toList.take (o+i * k)++(vs++cs)++cur.toList.drop (o+i * k+(vs++cs).length)).toArray:=by
 have t0:=L.t0;have a0:=L.a0;have z0:=L.z0;have v0:=L.v0;have t3:=L.t3;have a3:=L.a3;have z3:=L.z3;have v3:=L.v3;have t4:=L.t4;have a4:=L.a4;have z4:=L.z4;have v4:=L.v4;have t24:=L.t24;have a24:=L.a24;have z24:=L.z24;have v24:=L.v24;have t23:=L.t23;have a23:=L.a23;have z23:=L.z23;have v23:=L.v23;have u23:=run_underlying L.t23;have u0:=run_underlying L.t0;have u3:=run_underlying L.t3;have u4:=run_underlying L.t4;have u24:=run_underlying L.t24;have mixed:=L.mixed;have k0:=L.k0;obtain ⟨i9,z9,H,hz9,G,hzc9,hb9⟩:=L.i9;have zz9:∀w,(Go.sizeOf (ρ.t 9)).run P w=.ok k w:=λw=>by rw [<- G];exact x6 H
 have hnk:(n+m) * k<=c * k:=tw k I;have Z:(i+m) * k+(n - i) * k=(n+m) * k:=by rw [<- tb];congr 1;omega
 have hik:i * k+(n - i) * k=n * k:=by rw [<- tb];congr 1;omega
 have Y:i * k+m * k=(i+m) * k:=by rw [<- tb]
 have O:cs.length=(n - i) * k:=by rw [N,se,sB,t8];omega
 have E:0 < cur.size:=by
  have:1 * 1<=c * k:=rJ (by omega) k0;omega
 have hz1:¬ ((m:Int)=0):=by omega
 have hz2:¬ ((i:Int)=(n:Int)):=by omega
 have K:0 < p.size:=by
  have h1:0 < vs.length:=by rw [J];exact pQ hm k0
  have X:=Q 0 _ (ug h1);rw [cell_of_row w vb _ p z A s] at X;have:=(uQ.1 X).1;omega
 have V:∀lb cb,(callFunc (ρ.f 29) #[.slice (some ⟨vb,vo,none⟩) m vc,.slice (some ⟨b,o+(i+m) * k,none⟩) lb cb]).run P w=.ok (.value (.bool false)) w:=λlb cb=>ins_ov L W s E K λh=>by have:=D h;omega
 have hw1:IntKind.i64.wrap ((i:Int)+(m:Int))=(i:Int)+(m:Int):=by rw [IntKind.wrap_i64];omega
 have hb1:(0:Int)<=(i:Int)+(m:Int):=by omega
 have hin:i<=n:=by omega
 have htn:((i:Int)+(m:Int)).toNat=i+m:=by omega
 have hb2:¬ (c=i+m):=by omega
 have hb3:(i:Int)<=(n:Int)+(m:Int):=by omega
 have hb4:¬ (c=i):=by omega
 obtain ⟨d,l⟩:∃x,x=(cur.toList.take (o+(i+m) * k)++cs++cur.toList.drop (o+(i+m) * k+cs.length)).toArray:=⟨_,rfl⟩
 have hs1:d.size=cur.size:=by rw [l];simp;omega
 have y:w.drew.heap[b]?=some (.cells cur ty (0,0)):=W;have S:∀ty F sc,(Builtin.copy_ #[(ρ.t 24),(ρ.t 24)] ty #[.slice (some ⟨b,o+(i+m) * k,none⟩) (n+m - (i+m)) F,.slice (some ⟨b,o+i * k,none⟩) (n+m - i) sc]).run P w.drew=.ok (goInt (n - i:Nat)) (w.drew.setRow b d):=λty F sc=>by
  have:=run_copyK (P:=P) (w:=w.drew) (dT:=ρ.t 24) (sT:=ρ.t 24) (ty:=ty) (i:=i9) (b:=b) (o:=o+(i+m) * k) (dLen:=n+m - (i+m)) (dCap:=F) (sLen:=n+m - i) (sCap:=sc) (n:=n - i) (a:=⟨b,o+i * k,none⟩) (cs:=cs) (cur:=cur)
   L.t24 H (by simp only [oq];split <;> omega) (by rw [O,G]) (λj v r=>by
    rw [we,cell_of_row w.drew b _ cur _ (0,0) y];rw [N,uw] at r;split at r
    ·rwa [uF,uv] at r
    ·cases r) y (by omega) U
  rw [this,l]
 have M:(w.drew.setRow b d).heap[b]?=some (.cells d ty (0,0)):=setRow_heap w.drew b cur d ty (0,0) y;obtain ⟨u,q⟩:∃x,x=(d.toList.take (o+i * k)++vs++d.toList.drop (o+i * k+vs.length)).toArray:=⟨_,rfl⟩
 have C:∀j v,vs[j]?=some v->(w.drew.setRow b d).cell? ⟨vb,vo+j,none⟩=some v:=λj v r=>by
  have h:=Q j v r;by_cases hb:vb=b
  ·have hs:=D hb;subst hb;rw [cell_of_row _ vb _ d ty (0,0) M];rw [cell_of_row w vb _ cur ty (0,0) W] at h;have hjl:=(uc.1 r).1;rw [l,sE,uy,uj (by simp;omega),uw,up (by omega),uv];exact h
  ·obtain ⟨cv,hcv'⟩:∃cv,w.heap[vb]?=some cv:=⟨_,s⟩
   have e:(w.drew.setRow b d).heap[vb]?=w.heap[vb]?:=setRow_other w.drew b vb d hb;rw [cell_of_row _ vb _ p z A (e.trans s)];rw [cell_of_row w vb _ p z A s] at h;exact h
 have R:∀ty F,(Builtin.copy_ #[(ρ.t 24),τ] ty #[.slice (some ⟨b,o+i * k,none⟩) (n+m - i) F,.slice (some ⟨vb,vo,none⟩) m vc]).run P (w.drew.setRow b d)=.ok (goInt m) ((w.drew.setRow b d).setRow b u):=λty F=>by
  have:=run_copyK (P:=P) (w:=w.drew.setRow b d) (dT:=ρ.t 24) (sT:=τ) (ty:=ty) (i:=i9) (b:=b) (o:=o+i * k) (dLen:=n+m - i) (dCap:=F) (sLen:=m) (sCap:=vc) (n:=m) (a:=⟨vb,vo,none⟩) (cs:=vs) (cur:=d)
   L.t24 H (by simp only [oq];split <;> omega) (by rw [J,G]) (λj v r=>by rw [we];exact C j v r) M (by omega) T
  rw [this,q]
 have hfin:(w.drew.setRow b d).setRow b u=w.drew.setRow b (cur.toList.take (o+i * k)++(vs++cs)++cur.toList.drop (o+i * k+(vs++cs).length)).toArray:=by
  have e:u=(cur.toList.take (o+i * k)++(vs++cs)++cur.toList.drop (o+i * k+(vs++cs).length)).toArray:=by
   rw [q,l];congr 1;simp only [uy];congr 1
   ·rw [uY (by simp;omega),pj,s8 (by omega)]
   ·congr 1;rw [rz,tI (by simp;omega)];simp only [se,t8,u6];rw [s8 (by omega),show o+i * k+vs.length - (o+(i+m) * k)=0 by omega,sq];simp only [uo];rw [show o+i * k+(vs.length+cs.length)=o+(i+m) * k+cs.length by omega]
  rw [<- e];unfold World.setRow;congr 1;apply rf;intro j;simp only [sF];by_cases r:b=j
  ·subst r;simp [y]
  ·simp [r]
 obtain ⟨nm,ta,hf,hnm⟩:=L.f22;clear l q N y M C
 go_enter hf,insF_ntmps ρ τ nm ta
 simp only [rtCode,rtOper,rtA,rtV,uC,tE,pW,ov,Nat.reduceBEq,pu,od,tr,ow,cond_true,cond_false]
 go_wp2_with (simp only [V])
 go_region_law_o (refine step_copy_runI rfl _ _ (ρ.t 24) (ρ.t 24) rfl _ _ (by simp [Act.eval,Act.put]) (by simp [Act.eval,Act.put]) (S _ _ _) ?_)
 go_wp2_with (at_builtin;refine wpList_copy_runI _ rfl _ _ (ρ.t 24) τ rfl _ _ rfl rfl (R _ _) ?_)
 go_ret
 exact ⟨rfl,by simp [J,O]⟩

theorem cell_lt {w:World} {b j:Nat} {v:Value} (h:w.cell? ⟨b,j,none⟩=some v):b < w.heap.size:=World.block_lt_of_cell? w ⟨b,j,none⟩ h
theorem cell_alloc {w:World} {o:Obj} {b j:Nat} {v:Value} (h:w.cell? ⟨b,j,none⟩=some v):(w.alloc o).cell? ⟨b,j,none⟩=some v:=by
 rw [World.cell?_alloc_lt w o ⟨b,j,none⟩ (cell_lt h)];exact h
set_option maxHeartbeats 4000000 in
set_option maxRecDepth 100000 in
theorem ins_grow (L:InsLays P ρ τ k) {b o n c i vb vo m vc:Nat} {os cs vs:List Value} {z9:Value} {i9:TypeInfo} {w:World} (hi:i < n) (hm:0 < m) (hnc:n<=c) (S:c < n+m) (Q:n+m<=yK)
  (s:P.info? (ρ.t 9)=some i9) (hz9:i9.zero=some z9)
  (hol:os.length=i * k) (hos:∀j v,os[j]?=some v->w.cell? ⟨b,o+j,none⟩=some v) (hcl:cs.length=(n - i) * k) (hcs:∀j v,cs[j]?=some v->w.cell? ⟨b,o+i * k+j,none⟩=some v) (h1c:∀v ∈ cs,v.oneCell'=true)
  (Z:∀j v,vs[j]?=some v->w.cell? ⟨vb,vo+j,none⟩=some v) (hvl:vs.length=m * k) (h1v:∀v ∈ vs,v.oneCell'=true) :
  Calls P (ρ.f 22) #[.slice (some ⟨b,o,none⟩) n c,.int .i64 i,.slice (some ⟨vb,vo,none⟩) m vc] w λe w' =>
   e=.returned (.slice (some ⟨w.heap.size,0,none⟩) (n+m) (grownCap w (n+m) c (ρ.t 9))) /\
   w'=w.drew.drew.alloc (.cells (os++(vs++cs)++(Builtin.zeroCells z9.cells (grownCap w (n+m) c (ρ.t 9) - (n+m))).toList).toArray (ρ.t 9)):=by
 have t0:=L.t0;have a0:=L.a0;have z0:=L.z0;have v0:=L.v0;have t3:=L.t3;have a3:=L.a3;have z3:=L.z3;have v3:=L.v3;have t4:=L.t4;have a4:=L.a4;have z4:=L.z4;have v4:=L.v4;have t24:=L.t24;have a24:=L.a24;have z24:=L.z24;have v24:=L.v24;have t23:=L.t23;have a23:=L.a23;have z23:=L.z23;have v23:=L.v23;have u23:=run_underlying L.t23;have u0:=run_underlying L.t0;have u3:=run_underlying L.t3;have u4:=run_underlying L.t4;have u24:=run_underlying L.t24;have mixed:=L.mixed;have k0:=L.k0;have X:i9.size=k/\z9.cells.size=k/\i9.bytes<=65536:=by
  obtain ⟨i9',z9',F,N,h1,U,h3⟩:=L.i9;rw [s] at F;injection F with e;subst e;rw [hz9] at N;injection N with e;subst e;exact ⟨h1,U,h3⟩
 obtain ⟨y,M,hb9⟩:=X;have zz9:∀w,(Go.sizeOf (ρ.t 9)).run P w=.ok k w:=λw=>by rw [<- y];exact x6 s
 unfold yK at Q;have hz1:¬ ((m:Int)=0):=by omega
 have hz2:¬ ((i:Int)=(n:Int)):=by omega
 have hz3:(c:Int) < (n:Int)+(m:Int):=by omega
 have C:i+(n+m - i)=n+m:=by omega
 have V:(n:Int)+(m:Int) - (i:Int)=((n+m - i:Nat):Int):=by omega
 have q:(n+m) * i9.bytes<=140737488355328:=by
  have:=rJ Q hb9;omega
 have J:(Builtin.firstCells i9.size i (.slice (some ⟨b,o,none⟩) i c)).run P w.drew=.ok os.toArray w.drew:=run_firstCells_some w.drew i9.size i ⟨b,o,none⟩ i c os (by rw [y,hol]) (λj v r=>by rw [World.cell?_drew,we];exact hos j v r);have hki:(n+m - i) * i9.bytes<=(n+m) * i9.bytes:=tw _ (by omega);have u:∀ty,(Builtin.append_ #[(ρ.t 24),(ρ.t 3)] ty #[.slice (some ⟨b,o,none⟩) i c,.int .i64 ((n:Int)+(m:Int) - (i:Int))]).run P w =
   .ok (.slice (some ⟨w.heap.size,0,none⟩) (n+m) (grownCap w (n+m) c (ρ.t 9))) (w.drew.alloc (.cells (os.toArray++Builtin.zeroCells z9.cells (n+m - i)++Builtin.zeroCells z9.cells (grownCap w (n+m) c (ρ.t 9) - (n+m))) (ρ.t 9))):=λty=>by
  have h:=Lib.run_append_grow_zeros w (ρ.t 24) (ρ.t 3) ty (ρ.t 9) i9 _ .i64 .i64 L.t24 L.t3 s hz9 (some ⟨b,o,none⟩) i c os J (n+m - i) (by omega) (by omega) (by omega) (by omega) (by omega) (by rw [C];exact growslice_fits S q);rw [C] at h;rw [V];exact h
 obtain ⟨G,hG⟩:∃G,G=grownCap w (n+m) c (ρ.t 9):=⟨_,rfl⟩
 obtain ⟨ROW,p⟩:∃ROW:Array Value,ROW=os.toArray++Builtin.zeroCells z9.cells (n+m - i)++Builtin.zeroCells z9.cells (G - (n+m)):=⟨_,rfl⟩
 have hGn:n+m<=G:=by rw [hG];exact grownCap_ge w _ _ _
 have hG63:G<=9223372036854775807:=by
  have:=grownCap_le_maxLen w (n+m) c (ρ.t 9) (by unfold maxLen;omega);rw [<- hG] at this;unfold maxLen at this;omega
 rw [<- hG] at u ⊢;rw [<- p] at u;have hmk:i * k+m * k=(i+m) * k:=by rw [<- tb]
 have W:(i+m) * k+(n - i) * k=(n+m) * k:=by rw [<- tb];congr 1;omega
 have hzk:i * k+(n+m - i) * k=(n+m) * k:=by rw [<- tb,C]
 have hGk:(n+m) * k+(G - (n+m)) * k=G * k:=by rw [<- tb];congr 1;omega
 have hRs:ROW.size=G * k:=by rw [p];simp only [ph,rI,size_zeroCells,M,hol];omega
 have A:(w.drew.alloc (.cells ROW (ρ.t 9))).heap[w.heap.size]?=some (.cells ROW (ρ.t 9) (0,0)):=heap_alloc_new w.drew _;obtain ⟨W1,hW⟩:∃x,x=w.drew.alloc (.cells ROW (ρ.t 9)):=⟨_,rfl⟩
 rw [<- hW] at u A;obtain ⟨R2,z⟩:∃x,x=(ROW.toList.take (i * k)++vs++ROW.toList.drop (i * k+vs.length)).toArray:=⟨_,rfl⟩
 have hR2s:R2.size=ROW.size:=by rw [z];simp;omega
 have E:∀j v,vs[j]?=some v->W1.cell? ⟨vb,vo+j,none⟩=some v:=λj v r=>by rw [hW];exact cell_alloc (by rw [World.cell?_drew];exact Z j v r)
 have H:∀ty R,(Builtin.copy_ #[(ρ.t 24),τ] ty #[.slice (some ⟨w.heap.size,i * k,none⟩) (n+m - i) R,.slice (some ⟨vb,vo,none⟩) m vc]).run P W1=.ok (goInt m) (W1.setRow w.heap.size R2):=λty R=>by
  have:=run_copyK (P:=P) (w:=W1) (dT:=ρ.t 24) (sT:=τ) (ty:=ty) (i:=i9) (b:=w.heap.size) (o:=i * k) (dLen:=n+m - i) (dCap:=R) (sLen:=m) (sCap:=vc) (n:=m) (a:=⟨vb,vo,none⟩) (cs:=vs) (cur:=ROW)
   L.t24 s (by simp only [oq];split <;> omega) (by rw [hvl,y]) (λj v r=>by rw [we];exact E j v r) A (by omega) h1v
  rw [this,z]
 have Y:(W1.setRow w.heap.size R2).heap[w.heap.size]?=some (.cells R2 (ρ.t 9) (0,0)):=setRow_heap W1 _ ROW R2 _ (0,0) A;obtain ⟨W2,d⟩:∃x,x=(W1.setRow w.heap.size R2).drew:=⟨_,rfl⟩
 have I:W2.heap[w.heap.size]?=some (.cells R2 (ρ.t 9) (0,0)):=by rw [d];exact Y
 obtain ⟨R3,T⟩:∃x,x=(R2.toList.take ((i+m) * k)++cs++R2.toList.drop ((i+m) * k+cs.length)).toArray:=⟨_,rfl⟩
 have K:∀j v,cs[j]?=some v->W2.cell? ⟨b,o+i * k+j,none⟩=some v:=λj v r=>by
  have h:=hcs j v r;have hb:=cell_lt h;have U:W1.cell? ⟨b,o+i * k+j,none⟩=some v:=by rw [hW];exact cell_alloc (by rw [World.cell?_drew];exact h)
  rw [d,World.cell?_drew];have e:(W1.setRow w.heap.size R2).heap[b]?=W1.heap[b]?:=setRow_other W1 w.heap.size b R2 (by omega);have hb1:b < W1.heap.size:=cell_lt U;unfold World.cell? at U ⊢;rw [e];exact U
 have hcpB:∀ty R sc,(Builtin.copy_ #[(ρ.t 24),(ρ.t 24)] ty #[.slice (some ⟨w.heap.size,(i+m) * k,none⟩) (n+m - (i+m)) R,.slice (some ⟨b,o+i * k,none⟩) (n - i) sc]).run P W2=.ok (goInt (n - i:Nat)) (W2.setRow w.heap.size R3):=λty R sc=>by
  have:=run_copyK (P:=P) (w:=W2) (dT:=ρ.t 24) (sT:=ρ.t 24) (ty:=ty) (i:=i9) (b:=w.heap.size) (o:=(i+m) * k) (dLen:=n+m - (i+m)) (dCap:=R) (sLen:=n - i) (sCap:=sc) (n:=n - i) (a:=⟨b,o+i * k,none⟩) (cs:=cs) (cur:=R2)
   L.t24 s (by simp only [oq];split <;> omega) (by rw [hcl,y]) (λj v r=>by rw [we];exact K j v r) I (by omega) h1c
  rw [this,T]
 have O:W2.setRow w.heap.size R3=w.drew.drew.alloc (.cells (os++(vs++cs)++(Builtin.zeroCells z9.cells (G - (n+m))).toList).toArray (ρ.t 9)):=by
  have e:R3=(os++(vs++cs)++(Builtin.zeroCells z9.cells (G - (n+m))).toList).toArray:=by
   rw [T,z,p];congr 1;have zl:(Builtin.zeroCells z9.cells (n+m - i)).toList.length=(n+m - i) * k:=by rw [t8,size_zeroCells,M]
   simp only [t7,uy];rw [uY (l₁:=os) (by omega),uM (l:=os) (by omega)];rw [<- uy os vs,uY (l₁:=os++vs) (by simp;omega),uM (l:=os++vs) (by simp;omega),uy];congr 2;congr 1;rw [rz,tI (l:=os++vs) (by simp;omega),u6];rw [uo,tB];rw [rz,tI (l:=os) (by omega),u6];rw [rz,tI (by omega),u6];rw [show i * k+vs.length+((i+m) * k+cs.length - (os.length+vs.length)) - os.length - (Builtin.zeroCells z9.cells (n+m - i)).toList.length=0 by omega,sq]
  rw [<- e,d,hW];unfold World.setRow World.alloc World.drew;simp only;congr 1;apply rf;intro j;simp only [sF,rq];by_cases r:w.heap.size=j
  ·subst r;simp
  ·have:¬ j=w.heap.size:=λe=>r e.symm;simp [r,this]
 have hGi:¬ (G=i):=by omega
 have hGim:¬ (G=i+m):=by omega
 have hci:¬ (c=i):=by omega
 have hw1:IntKind.i64.wrap ((i:Int)+(m:Int))=(i:Int)+(m:Int):=by rw [IntKind.wrap_i64];omega
 have hb1:(0:Int)<=(i:Int)+(m:Int):=by omega
 have hin:i<=n:=by omega
 have htn:((i:Int)+(m:Int)).toNat=i+m:=by omega
 have hb3:(i:Int)<=(n:Int):=by omega
 obtain ⟨nm,ta,hf,hnm⟩:=L.f22;obtain ⟨OB,hOB⟩:∃x,x=Obj.cells (os++(vs++cs)++(Builtin.zeroCells z9.cells (G - (n+m))).toList).toArray (ρ.t 9):=⟨_,rfl⟩
 rw [<- hOB] at O ⊢;obtain ⟨FIN,D⟩:∃x,x=w.drew.drew.alloc OB:=⟨_,rfl⟩
 rw [<- D] at O ⊢;obtain ⟨Wd,hWd⟩:∃x,x=W1.setRow w.heap.size R2:=⟨_,rfl⟩
 rw [<- hWd] at H d;subst d;clear V C J p hG hRs z T hR2s E K A Y I hos hcs Z hGk W hmk hzk hki q hW hWd hOB D
 go_enter hf,insF_ntmps ρ τ nm ta
 simp only [rtCode,rtOper,rtA,rtV,uC,tE,pW,ov,Nat.reduceBEq,pu,od,tr,ow,cond_true,cond_false]
 go_wp2_with (first
  | (at_builtin;refine Lib.wpList_append_run _ rfl _ _ _ _ rfl _ _ rfl rfl _ _ (u _) ?_)
  | (at_builtin;refine wpList_copy_runI _ rfl _ _ (ρ.t 24) τ rfl _ _ rfl rfl (H _ _) ?_))
 go_region_law_o (refine step_copy_runI rfl _ _ (ρ.t 24) (ρ.t 24) rfl (.slice (some ⟨w.heap.size,(i+m) * k,none⟩) (n+m - (i+m)) (G - (i+m))) (.slice (some ⟨b,o+i * k,none⟩) (n - i) (c - i)) (by simp [Act.eval,Act.put]) (by simp [Act.eval,Act.put]) (hcpB (ρ.t 3) (G - (i+m)) (c - i)) ?_)
 go_wp2
 go_ret
 exact ⟨rfl,rfl⟩
end
section
variable {P:Program} {w:World} {g:Gh} {h:AH} {B:Nat} {w0:World}
theorem row_grow_in (r:Rel B w0 g h w) {id q k c:Nat} {es d:List (List AV)} {U:Option Addr} {a:List Value} (hs:V g (.rsl id q k es.length) (.slice U es.length c)) (hl:∀e ∈ d,e.length=k) (N:VA g d.flatten a) (Z:d.flatten.all AV.pure=true)
  (hb:h.blk id=some (.row q k es)) (hy:d.length ≠ 0) (s:es.length+d.length<=c) :
  ∃b o cur ty,U=some ⟨b,o,none⟩/\w.heap[b]?=some (.cells cur ty (0,0))/\o+c * k<=cur.size/\(∀j,o+es.length * k<=j->g.Φ b j=none) /\
   ∃g',g.le g'/\Rel B w0 g' { h.put id (.row q k (es++d)) with toks:=h.toks.set q (es.length+d.length) } (w.setRow b (cur.toList.take (o+es.length * k)++a++cur.toList.drop (o+es.length * k+a.length)).toArray)/\V g' (.rsl id q k (es.length+d.length)) (.slice U (es.length+d.length) c):=by
 obtain ⟨Y,Q,m,K,htn,z,hpe,M⟩:=r.rowAt hb;simp only [V] at hs;obtain ⟨a',c',S,hc1,W,t2,J,hrd,hle,u⟩:=hs;simp only [Value.slice.injEq] at S;obtain ⟨rfl,_,rfl⟩:=S;obtain rfl:Q=t2:=by rw [m] at J;injection J
 have u:(es.length=0/\c=0) \/ ∃b o,U=some ⟨b,o,none⟩/\Q.loc=some (b,o+es.length * k,o+c * k):=u.imp (λh=>h) λ⟨b,o,h1,h2⟩=>⟨b,o,h1,h2 htn.symm⟩
 have I:a.length=d.length * k:=by rw [<- N.length,yN hl]
 have hfl:es.flatten.length=es.length * k:=yN z;rcases u with ⟨h0,h1⟩ | ⟨b,o,rfl,t⟩
 ·omega
 ·obtain ⟨_,H⟩:=r.tok _ _ m;have lo:=H b _ _ t;obtain ⟨cur,y,i,hce⟩:=lo.cells;have hmul:es.length * k+a.length<=c * k:=by rw [I,<- tb];exact tw _ s
  have f:VA g es.flatten ((cur.toList.drop o).take (es.length * k))/\∀j,o<=j->g.Φ b j=none:=by
   rcases M with rfl | ⟨b2,o2,R,cs,ty2,k1,D,k3,k4,k5⟩
   ·exact ⟨by simp [VA],λj E=>lo.free j (by simpa using E)⟩
   ·rw [k1] at t;injection t with p;injection p with O L;injection L with L e3;obtain rfl:o2=o:=by omega
    subst O;rw [i] at D;injection D with D;injection D with D _ _;subst D;exact ⟨k3,k5⟩
  refine ⟨b,o,cur,y,rfl,i,by omega,λj E=>f.2 j (by omega),?_⟩;generalize hnew:(cur.toList.take (o+es.length * k)++a++cur.toList.drop (o+es.length * k+a.length)).toArray=new;have G:new.size=cur.size:=by rw [<- hnew];simp;omega
  have F:∀j,j < o+es.length * k->new[j]?=cur[j]?:=λj E=>by
   rw [<- hnew,sE,uy,uj (by simp;omega),uw,up E,uv]
  have r1:=r.setSpare m t i G F;have v:=setRow_heap w b cur new y (0,0) i;have C:(new.toList.drop o).take ((es.length+d.length) * k)=(cur.toList.drop o).take (es.length * k)++a:=by
   rw [<- hnew];simp only [uy];rw [sY (by simp;omega),pE,uq,tb,<- I];rw [sd,uM (by simp;omega)];congr 1;rw [uY (by simp;omega),uM (by simp;omega)]
  let T:TI:=⟨es.length+d.length,some (b,o+(es.length+d.length) * k,o+c * k),true⟩
  have A:g.le (g.setT q T):=Gh.le_setT (t':=T) m (by show Q.n < es.length+d.length;omega) K.symm;have hT:(g.setT q T).τ[q]?=some T:=uA (uc.1 m).1;have r2:=r1.setRow (t':=T) (q:=id) m (by show Q.n < es.length+d.length;omega) K rfl Y hb (es':=es++d)
   ⟨T,hT,rfl,by simp [T],λe S=>(uR.1 S).elim (z e) (hl e),by rw [tO,tD,hpe,Z];rfl,
    .inr ⟨b,o,o+c * k,new,y,by simp [T],v,by rw [uo,C,tO];exact (f.1.append N).mono A,by rw [uo,tb];omega,f.2⟩⟩
   (λb' l e p=>by
    injection p with p;injection p with O R;injection R with R e3;subst O R e3;exact ⟨lo.lo,by simpa using lo.lt,⟨new,y,v,by omega⟩,λj E=>lo.free j (by rw [tb] at E;omega)⟩)
   (λb' x X=>by injection X with X;injection X with O _;subst O;exact .inl ⟨_,t⟩)
  refine ⟨_,A,r2,?_⟩;simp only [V];exact ⟨some ⟨b,o,none⟩,c,rfl,s,W,T,hT,rfl,uh _,.inr ⟨b,o,rfl,λ_=>rfl⟩⟩
theorem row_olds (r:Rel B w0 g h w) {id q k c:Nat} {es:List (List AV)} {y:Option Addr} (hs:V g (.rsl id q k es.length) (.slice y es.length c)) (D:h.blk id=some (.row q k es)) :
  ∃f:List Value,VA g es.flatten f/\(∀a,y=some a->∀j v,f[j]?=some v->w.cell? (a.add j)=some v):=by
 obtain ⟨O,z,u,Q,t,m,C,l⟩:=r.rowAt D;simp only [V] at hs;obtain ⟨a',U,x,G,H,F,n,K,M,p⟩:=hs;simp only [Value.slice.injEq] at x;obtain ⟨rfl,_,rfl⟩:=x;obtain rfl:z=F:=by rw [u] at n;injection n
 have L:es.flatten.length=es.length * k:=yN m;rcases l with rfl | ⟨b,o,T,cs,ty2,J,A,N,S,X⟩
 ·exact ⟨[],by simp only [sW,VA],λa _ j v e=>by simp at e⟩
 ·rcases p with ⟨h0,_⟩ | ⟨R,I,rfl,d⟩
  ·have:es=[]:=uP h0;subst this;exact ⟨[],by simp only [sW,VA],λa _ j v e=>by simp at e⟩
  ·have d:=d t.symm;rw [J] at d;injection d with d;injection d with E i;injection i with i W;obtain rfl:o=I:=by omega
   subst E;refine ⟨_,N,λa s j v e=>?_⟩;injection s with s;subst s;rw [we,cell_of_row w b (o+j) cs ty2 (0,0) A];rw [uw] at e;split at e
   ·rw [uF,uv] at e;exact e
   ·cases e
theorem row_grow_out (r:Rel B w0 g h w) {id q k c C:Nat} {es a:List (List AV)} {ad:Option Addr} {d b rest:List Value} {e:TypeId} (hs:V g (.rsl id q k es.length) (.slice ad es.length c)) (hl:∀e ∈ a,e.length=k) (F:VA g a.flatten b) (N:a.flatten.all AV.pure=true)
  (hb:h.blk id=some (.row q k es)) (hy:a.length ≠ 0) (A:VA g es.flatten d) (hC:es.length+a.length<=C) (Q:C<=maxLen) (hr:rest.length=(C - (es.length+a.length)) * k) :
  ∃g',g.le g'/\Rel B w0 g' { h.put id (.row q k (es++a)) with toks:=h.toks.set q (es.length+a.length) } (w.drew.alloc (.cells (d++b++rest).toArray e))/\V g' (.rsl id q k (es.length+a.length)) (.slice (some ⟨w.heap.size,0,none⟩) (es.length+a.length) C):=by
 obtain ⟨hσ,ti,z,J,htn,i,O,hrow⟩:=r.rowAt hb;have s:b.length=a.length * k:=by rw [<- F.length,yN hl]
 have Z:es.flatten.length=es.length * k:=yN i;have t:d.length=es.length * k:=by rw [<- A.length,Z]
 generalize hrow':(d++b++rest).toArray=row;have D:(es.length+a.length) * k+(C - (es.length+a.length)) * k=C * k:=by rw [<- tb];congr 1;omega
 have H:row.size=C * k:=by rw [<- hrow'];simp only [rI,uo,t,s,hr];rw [tb] at D;omega
 have u:(row.toList.drop 0).take ((es.length+a.length) * k)=d++b:=by
  rw [<- hrow',sq];show (d++b++rest).take _=_;rw [uY (by simp [t,s,tb]),uM (by simp [t,s,tb])]
 have o:∀j,g.Φ w.heap.size j=none:=λj=>by
  rcases R:g.Φ w.heap.size j with _ | v
  ·rfl
  ·exact absurd (r.phi_lt R) (sH _)
 have r1:=(r.drew).alloc0 (.cells row e);have f:(w.drew.alloc (.cells row e)).heap[w.heap.size]?=some (.cells row e (0,0)):=heap_alloc_new w.drew _;have W:(es.length+a.length) * k<=C * k:=tw k hC;have E:LocOk g.Φ B (w.drew.alloc (.cells row e)) w.heap.size ((es.length+a.length) * k) (C * k) :=
  ⟨r.bsz,by simp,⟨row,e,f,by omega⟩,λj _=>o j⟩
 have I:∀(j L:Nat),g.σ[j]?=some (some L)->w.heap.size ≠ L:=λj L M e=>by
  have S:j < h.blks.length:=by rw [<- r.slen];exact (uc.1 M).1
  have:=(r.blk j L _ M (ug S)).2.1;omega
 have G:∀(j:Nat) (K:TI) (y:Nat×Nat),g.τ[j]?=some K->K.loc ≠ some (w.heap.size,y):=λj K y M e=>by
  have:=((r.tok j K M).2 _ _ _ e).lt;omega
 let T:TI:=⟨es.length+a.length,some (w.heap.size,(es.length+a.length) * k,C * k),true⟩
 have m:g.le (g.setT q T):=Gh.le_setT (t':=T) z (by show ti.n < es.length+a.length;omega) J.symm;have hT:(g.setT q T).τ[q]?=some T:=uA (uc.1 z).1;have r2:=r1.setRow (t':=T) (q:=id) z (by show ti.n < es.length+a.length;omega) J rfl hσ hb (es':=es++a)
  ⟨T,hT,rfl,by simp [T],λe R=>(uR.1 R).elim (i e) (hl e),by rw [tO,tD,O,N];rfl,
   .inr ⟨w.heap.size,0,C * k,row,e,by simp [T],f,by rw [uo,u,tO];exact (A.append F).mono m,by rw [uo,H];simpa using W,λj _=>o j⟩⟩
  (λb' l e' p=>by injection p with p;injection p with U Y;injection Y with Y e3;subst U Y e3;exact E)
  (λb' x X=>by injection X with X;injection X with U _;subst U;exact .inr ⟨G,I,r.nnew (uh _)⟩)
 refine ⟨_,m,r2,?_⟩;simp only [V];exact ⟨some ⟨w.heap.size,0,none⟩,C,rfl,hC,Q,T,hT,rfl,uh _,.inr ⟨w.heap.size,0,rfl,λ_=>by simp [T]⟩⟩
end
section
variable {P:Program} {ρ:Ren} {τ:TypeId} {k:Nat} {α:Type} {row:α->List AV}
theorem cells_at {w:World} {b j:Nat} {v:Value} (h:w.cell? ⟨b,j,none⟩=some v):∃cs ty fr,w.heap[b]?=some (.cells cs ty fr)/\cs[j]?=some v:=by
 unfold World.cell? at h;split at h
 ·rename_i cs ty fr a;exact ⟨cs,ty,fr,a,by simpa using h⟩
 ·cases h
theorem spec_insO (L:InsLays P ρ τ k) (hk:∀x,(row x).length=k) {xs M R:List α} {z:Int} (hR:insO xs z M=some R) {a:AV} (ha:a=.sl k (M.map row) \/ a=.osl none k (M.map row)) {h:AH} {B B':List Blk} {T T':List Nat} {i q b' t':Nat}
  (hb:B[i]?=some (.row (h.toks.length+q) k (xs.map row))) (hbl:B.length=b') (htl:T.length=t') (hB:B.set i .dead++[.row (h.toks.length+t') k (R.map row)]=B') (hT:T.set q (xs.length+1)++[R.length]=T') :
  Spec P (ρ.f 22) [.rsl (h.blks.length+i) (h.toks.length+q) k xs.length,.int .i64 z,a] (h.ext B T) (λrr hh=>rr=.rsl (h.blks.length+b') (h.toks.length+t') k R.length/\hh=h.ext B' T'):=by
 unfold insO at hR;split at hR
 case isFalse=>cases hR
 rename_i hc;obtain ⟨⟨hz0,hzn⟩,hM0,hlim⟩:=hc;injection hR with hR;obtain ⟨n,rfl⟩:∃n:Nat,z=n:=⟨z.toNat,by omega⟩
 have hnx:n<=xs.length:=by omega
 rw [uB] at hR;have k0:=L.k0;obtain ⟨nm,ta,hf22,hnm⟩:=L.f22;refine ⟨λvs w=>?_,λB0 w0 _ g w vs r hv=>?_⟩
 ·have hne : ¬ nm = "runtime.NumGoroutine" := by simpa using hnm
  have hn2:(insF ρ τ nm ta).name=nm:=rfl;have hb2:¬ (insF ρ τ nm ta).body=none:=by
   intro e;have:(insF ρ τ nm ta).body.isSome=true:=rfl;rw [e] at this;cases this
  simp [callFunc,hf22,hn2,hne,hb2]
 obtain ⟨vs⟩:=vs;simp only [VL] at hv;obtain ⟨v1,_,rfl,hV1,v2,_,rfl,hV2,v3,_,rfl,hV3,rfl⟩:=hv;have hVs:=hV1;simp only [V] at hV1 hV2;obtain ⟨ad,c,rfl,hnc,hcm,_⟩:=hV1;subst hV2;obtain ⟨av,vc,rfl,hMv⟩:∃av vc,v3=.slice av M.length vc/\(M.map row=[] \/ ∃b o,av=some ⟨b,o,none⟩/\VE g b k o (M.map row)):=by
  rcases ha with rfl | rfl
  ·simp only [V] at hV3;obtain ⟨a1,c1,h1,_,_,h2⟩:=hV3;exact ⟨a1,c1,by simpa using h1,h2⟩
  ·simp only [V] at hV3;obtain ⟨a1,c1,h1,_,_,h2,_⟩:=hV3;exact ⟨a1,c1,by simpa using h1,h2⟩
 obtain ⟨vb,vo,rfl,hVE⟩:=hMv.resolve_left (by intro e;rw [List.map_eq_nil_iff] at e;subst e;simp at hM0);obtain ⟨hMl,hVC⟩:=VE_iff.1 hVE;obtain ⟨mvs,hmva,hmpu,hmφ⟩:=VC.toVA hVC;have hmvl:mvs.length=M.length * k:=by rw [<- hmva.length,flat_len hk]
 have hmcell:∀j v,mvs[j]?=some v->w.cell? ⟨vb,vo+j,none⟩=some v:=λj v hj=>r.phi _ _ _ (hmφ j v hj);have hblk:(h.ext B T).blk (h.blks.length+i)=some (.row (h.toks.length+q) k (xs.map row)):=by rw [yA];exact hb
 obtain ⟨hσ,ti,hti,htr,htn,hlen,hpe,hrow⟩:=r.rowAt hblk;have hfl:(xs.map row).flatten.length=xs.length * k:=flat_len hk xs
 -- shrunk to what is ahead of the place
 have hVs':V g (.rsl (h.blks.length+i) (h.toks.length+q) k (xs.map row).length) (.slice ad (xs.map row).length c):=by simpa using hVs
 obtain ⟨g1,hg1,r1,hh1⟩:=r.shrink (n:=n) (a':=ad) hblk (by simpa using hnx) (.inl rfl) hVs';have e1:(h.ext B T).shr (h.blks.length+i) (h.toks.length+q) k n (xs.map row)=h.ext (B.set i .dead++[.row (h.toks.length+t') k ((xs.take n).map row)]) (T.set q (xs.length+1)++[n]):=by
  simp only [AH.shr,AH.ext,AH.put,AH.new,AH.mk.injEq,uo,uz,pV];refine ⟨?_,?_⟩
  ·rw [uO _ _ (by omega),uq,<- htl];simp
  ·rw [uO _ _ (by omega),uq];simp
 rw [e1] at r1;have eb:(h.ext B T).blks.length=h.blks.length+b':=by rw [<- hbl];simp [AH.ext]
 have et:(h.ext B T).toks.length=h.toks.length+t':=by rw [<- htl];simp [AH.ext]
 rw [eb,et] at hh1;have htk:(xs.take n).length=n:=by rw [se];omega
 have hh1':V g1 (.rsl (h.blks.length+b') (h.toks.length+t') k ((xs.take n).map row).length) (.slice ad ((xs.take n).map row).length c):=by rw [uz,htk];exact hh1
 have hb1:(h.ext (B.set i .dead++[.row (h.toks.length+t') k ((xs.take n).map row)]) (T.set q (xs.length+1)++[n])).blk (h.blks.length+b')=some (.row (h.toks.length+t') k ((xs.take n).map row)):=by
  rw [yA,ui (by rw [uI];omega),uI,<- hbl,rC];rfl
 have hput:∀n2:Nat,({ (h.ext (B.set i .dead++[.row (h.toks.length+t') k ((xs.take n).map row)]) (T.set q (xs.length+1)++[n])).put (h.blks.length+b') (.row (h.toks.length+t') k (R.map row)) with
   toks:=(h.ext (B.set i .dead++[.row (h.toks.length+t') k ((xs.take n).map row)]) (T.set q (xs.length+1)++[n])).toks.set (h.toks.length+t') R.length }:AH)=h.ext B' T':=λn2=>by
  subst hB hT;simp only [AH.ext,AH.put,AH.mk.injEq];refine ⟨?_,?_⟩
  ·rw [uO _ _ (by omega),uq,uO _ _ (by rw [uI];omega),uI,<- hbl,rC];rfl
  ·rw [uO _ _ (by omega),uq,uO _ _ (by rw [uI];omega),uI,<- htl,rC];rfl
 -- what comes behind
 let ys:=M++xs.drop n
 have hys:R=xs.take n++ys:=hR.symm;have hRl:R.length=xs.length+M.length:=by rw [hys];simp [ys];omega
 have hyl:ys.length=M.length+(xs.length - n):=by simp [ys]
 have htot:((xs.take n).map row).length+(ys.map row).length=R.length:=by rw [hys];simp
 have happ:(xs.take n).map row++ys.map row=R.map row:=by rw [hys];exact sJ.symm
 have hyk:∀e ∈ ys.map row,e.length=k:=λe he=>by
  obtain ⟨x,_,rfl⟩:=tF.1 he;exact hk x
 have hypu:(ys.map row).flatten.all AV.pure=true:=by
  have h2:((xs.drop n).map row).flatten.all AV.pure=true:=by
   rw [<- flat_drop hk];exact all_drop _ hpe
  simp only [ys,sJ,tO,tD,hmpu,h2,u5]
 have hyn:(ys.map row).length ≠ 0:=by rw [uz,hyl];omega
 have hc63:c<=9223372036854775807:=by unfold maxLen at hcm;omega
 have hRm:R.length<=maxLen:=by unfold yK at hlim;unfold maxLen;omega
 -- the tail's cells
 obtain ⟨olds,holds,hoc⟩:=row_olds r hVs' hblk;have hol:olds.length=xs.length * k:=by rw [<- holds.length,hfl]
 have hkn:n * k+(xs.length - n) * k=xs.length * k:=by rw [<- tb];congr 1;omega
 have hhead:VA g ((xs.take n).map row).flatten (olds.take (n * k)):=by rw [<- flat_take hk];exact holds.take _
 have htail:VA g ((xs.drop n).map row).flatten (olds.drop (n * k)):=by rw [<- flat_drop hk];exact holds.drop _
 have hyva:VA g (ys.map row).flatten (mvs++olds.drop (n * k)):=by simp only [ys,sJ,tO];exact hmva.append htail
 have hyva1:=hyva.mono hg1;have hh2:=hhead.mono hg1;have hnil:ad=none->c=0:=λe=>by
  subst e;simp only [V] at hVs;obtain ⟨a2,c2,he,_,_,t2,ht2,_,_,hcap⟩:=hVs;simp only [Value.slice.injEq] at he;obtain ⟨rfl,_,rfl⟩:=he;rcases hcap with ⟨_,h0⟩ | ⟨b2,o2,h0,_⟩
  ·exact h0
  ·cases h0
 have fin:∀{v:Value} {w':World} {g':Gh},g1.le g'->Rel B0 w0 g' { (h.ext (B.set i .dead++[.row (h.toks.length+t') k ((xs.take n).map row)]) (T.set q (xs.length+1)++[n])).put (h.blks.length+b') (.row (h.toks.length+t') k ((xs.take n).map row++ys.map row)) with
   toks:=(h.ext (B.set i .dead++[.row (h.toks.length+t') k ((xs.take n).map row)]) (T.set q (xs.length+1)++[n])).toks.set (h.toks.length+t') (((xs.take n).map row).length+(ys.map row).length) } w' ->
   V g' (.rsl (h.blks.length+b') (h.toks.length+t') k (((xs.take n).map row).length+(ys.map row).length)) v ->
   ∃v0 rr hh g'',Ending.returned v=.returned v0/\(rr=.rsl (h.blks.length+b') (h.toks.length+t') k R.length/\hh=h.ext B' T')/\g.le g''/\Rel B0 w0 g'' hh w'/\V g'' rr v0:=λ{v w' g'} hg' hr' hv'=>by
  rw [happ,htot,hput 0] at hr';rw [htot] at hv';exact ⟨v,_,_,g',rfl,⟨rfl,rfl⟩,hg1.trans hg',hr',hv'⟩
 obtain ⟨i9,z9,hi9,hz9,hs9,hzc9,hb9⟩:=L.i9;by_cases hend:n=xs.length
 ·-- at the end
  have hdn:xs.drop n=[]:=by rw [hend];exact List.drop_length
  have hodn:olds.drop (n * k)=[]:=by rw [tI];rw [hol,hend];exact uh _
  have hotn:olds.take (n * k)=olds:=uM (by rw [hol,hend];exact uh _);have hnews:∀W:World,(∀a v,w.cell? a=some v->W.cell? a=some v)->News P i9.size M.length (.slice (some ⟨vb,vo,none⟩) M.length vc) mvs W:=λW hW=>News.slice (by rw [hmvl,hs9]) λj v hj=>by rw [we];exact hW _ _ (hmcell j v hj)
  by_cases hroom:xs.length+M.length<=c
  ·obtain ⟨b,o,cur,ty,rfl,hcur,hfit,hfree,g',hg',hr',hv'⟩:=row_grow_in r1 hh1' hyk hyva1 hypu hb1 hyn (by rw [htot,hRl];exact hroom);rw [hodn,tA] at hr';have hrun:=run_append_in (P:=P) (t:=ρ.t 24) (u:=τ) (ty:=0) L.t24 L.t23 (.inr ⟨_,rfl⟩) hi9 (hnews w λ_ _ h=>h) hmva.one' hcur (n:=xs.length) hroom (o:=o) (by rw [hs9,hmvl];have:=tw k hroom;rw [tb] at this;omega);have hrun':∀ty,(Builtin.append_ #[ρ.t 24,τ] ty #[.slice (some ⟨b,o,none⟩) xs.length c,.slice (some ⟨vb,vo,none⟩) M.length vc]).run P w=_:=λty=>run_append_in (P:=P) (t:=ρ.t 24) (u:=τ) (ty:=ty) L.t24 L.t23 (.inr ⟨_,rfl⟩) hi9 (hnews w λ_ _ h=>h) hmva.one' hcur (n:=xs.length) hroom (o:=o) (by rw [hs9,hmvl];have:=tw k hroom;rw [tb] at this;omega);have:=ins_end L (xa:=some ⟨vb,vo,none⟩) (vc:=vc) hM0 hnc hc63 hnil hrun';rw [hend];refine this.mono λe w' ⟨h1,h2⟩=>?_;subst h1 h2;rw [hs9,<- hend];rw [uz,htk] at hr';have hv2:((xs.take n).map row).length+(ys.map row).length=xs.length+M.length:=by rw [htot,hRl]
   refine fin hg' ?_ (by rw [hv2] at hv' ⊢;rw [hend];exact hv');rw [uz,htk];exact hr'
  ·have hroom':c < xs.length+M.length:=by omega
   have hold:(Builtin.firstCells i9.size xs.length (.slice ad xs.length c)).run P w.drew=.ok olds.toArray w.drew:=by
    cases ad with
    | none =>
     have h0:=hnil rfl;have hx0:xs.length=0:=by omega
     have:olds=[]:=uP (by rw [hol,hx0];simp);subst this;rw [hx0];exact run_firstCells_none w.drew i9.size 0 0 c
    | some a=>exact run_firstCells_some w.drew i9.size xs.length a xs.length c olds (by rw [hs9];exact hol) λj v hj=>by rw [World.cell?_drew];exact hoc a rfl j v hj
   have hlim':(xs.length+M.length) * i9.bytes<=140737488355328:=by have:=rJ hlim hb9;unfold yK at this;omega
   have hrun':∀ty,(Builtin.append_ #[ρ.t 24,τ] ty #[.slice ad xs.length c,.slice (some ⟨vb,vo,none⟩) M.length vc]).run P w=_:=λty=>qV (P:=P) (t:=ρ.t 24) (u:=τ) (ty:=ty) L.t24 L.t23 (.inr ⟨_,rfl⟩) hi9 hz9 (hnews w λ_ _ h=>h) (hnews w.drew λ_ _ h=>h) hold hroom' (by unfold yK at hlim;simp only [maxLen];omega) (growslice_fits hroom' hlim');have:=ins_end L (xa:=some ⟨vb,vo,none⟩) (vc:=vc) hM0 hnc hc63 hnil hrun';rw [hend];refine this.mono λe w' ⟨h1,h2⟩=>?_;subst h1 h2;have hge:=grownCap_ge w (xs.length+M.length) c (ρ.t 9);have hgm:grownCap w (xs.length+M.length) c (ρ.t 9)<=maxLen:=grownCap_le_maxLen w _ c _ (by unfold yK at hlim;simp only [maxLen];omega);have htot2:((xs.take n).map row).length+(ys.map row).length=xs.length+M.length:=by rw [htot,hRl]
   obtain ⟨g',hg',hr',hv'⟩:=row_grow_out (C:=grownCap w (xs.length+M.length) c (ρ.t 9)) (rest:=(Builtin.zeroCells z9.cells (grownCap w (xs.length+M.length) c (ρ.t 9) - (xs.length+M.length))).toList) (e:=ρ.t 9) r1 hh1' hyk hyva1 hypu hb1 hyn hh2 (by rw [htot2];exact hge) hgm (by rw [t8,size_zeroCells,hzc9,htot2]);rw [hodn,hotn,tA] at hr';have ew:w.drew.alloc (.cells (olds.toArray++mvs.toArray++Builtin.zeroCells z9.cells (grownCap w (xs.length+M.length) c (ρ.t 9) - (xs.length+M.length))) (ρ.t 9))=w.drew.alloc (.cells (olds++mvs++(Builtin.zeroCells z9.cells (grownCap w (xs.length+M.length) c (ρ.t 9) - (xs.length+M.length))).toList).toArray (ρ.t 9)):=by
    congr 2;apply sD;simp
   rw [ew];exact fin hg' hr' (by rw [htot2] at hv' ⊢;exact hv')
 ·-- ahead of something
  have hlt:n < xs.length:=by omega
  have hne:xs.map row ≠ []:=by intro e;rw [List.map_eq_nil_iff] at e;subst e;simp at hlt
  obtain ⟨b,o,e2,cur,ty,k1,k2,k3,k4,k5⟩:=hrow.resolve_left hne;rw [uz] at k1 k3 k4;obtain ⟨rfl,lo⟩:ad=some ⟨b,o,none⟩/\o+c * k<=cur.size:=by
   simp only [V] at hVs;obtain ⟨a2,c2,he,_,_,t2,ht2,_,_,hcap⟩:=hVs;simp only [Value.slice.injEq] at he;obtain ⟨rfl,_,rfl⟩:=he;obtain rfl:ti=t2:=by rw [hti] at ht2;injection ht2
   rcases hcap with ⟨h0,_⟩ | ⟨b2,o2,rfl,hl2⟩
   ·omega
   ·rw [uz] at htn;have hl2:=hl2 htn.symm;have hl3:=hl2;rw [k1] at hl2;injection hl2 with hl2;injection hl2 with e1 hl2;injection hl2 with e2 _;obtain rfl:o=o2:=by omega
    subst e1;refine ⟨rfl,?_⟩;obtain ⟨cur',ty',hcur',hce⟩:=((r.tok _ _ hti).2 _ _ _ hl3).cells;rw [k2] at hcur';injection hcur' with hcur';injection hcur' with hcur' _ _;subst hcur';exact hce
  have hoe:olds=(cur.toList.drop o).take (xs.length * k):=by
   apply tu;intro j;by_cases hj:j < xs.length * k
   ·have h1:=hoc _ rfl j _ (ug (by omega));rw [we,cell_of_row w b (o+j) cur ty (0,0) k2] at h1;rw [ug (by omega),uw,up hj,uF,uv,h1]
   ·rw [th (by omega),th (by simp;omega)]
  have hmpos:0 < M.length * k:=pQ hM0 k0;obtain ⟨curv,tyv,frv,hcv,_⟩:=cells_at (hmcell 0 _ (ug (by omega)))
  have hsep:vb=b->vo+M.length * k<=o:=λe=>by
   subst e;rcases tz (vo+(M.length * k - 1)) o with h1 | h1
   ·omega
   ·have h2:=hmφ (M.length * k - 1) _ (ug (by omega));rw [k5 _ h1] at h2;cases h2
  have hod1:olds.drop (n * k)=(cur.toList.drop (o+n * k)).take ((xs.length - n) * k):=by
   rw [hoe,pE,tB];congr 1;omega
  by_cases hroom:xs.length+M.length<=c
  ·obtain ⟨b3,o3,cur3,ty3,hE,hcur3,hfit,hfree,g',hg',hr',hv'⟩:=row_grow_in (r1.drew) hh1' hyk hyva1 hypu hb1 hyn (by rw [htot,hRl];exact hroom);injection hE with hE;injection hE with hE1 hE2 _;subst hE1 hE2;have hcd:w.drew.heap[b]?=some (.cells cur ty (0,0)):=k2;rw [hcd] at hcur3;injection hcur3 with hcur3;injection hcur3 with hcur3 _ _;subst hcur3;have:=ins_shift L (vc:=vc) (vs:=mvs) hlt hM0 hroom hc63 k2 lo hod1 (λv hv=>(htail.one') v hv) hcv hmcell hmvl hmva.one' hsep;refine this.mono λe w' ⟨h1,h2⟩=>?_;subst h1 h2;have htot2:((xs.take n).map row).length+(ys.map row).length=xs.length+M.length:=by rw [htot,hRl]
   have hnn:((xs.take n).map row).length=n:=by rw [uz,htk]
   refine fin hg' ?_ (by rw [htot2] at hv' ⊢;exact hv');rw [hnn] at hr' ⊢;exact hr'
  ·have hroom':c < xs.length+M.length:=by omega
   have:=ins_grow L (vc:=vc) (os:=olds.take (n * k)) (cs:=olds.drop (n * k)) (vs:=mvs) (b:=b) (o:=o) (vb:=vb) (vo:=vo) (z9:=z9) (i9:=i9) hlt hM0 hnc hroom' hlim hi9 hz9 (by rw [se];omega)
    (λj v hj=>by
     rw [uw] at hj;split at hj
     ·have:=hoc _ rfl j v hj;rwa [we] at this
     ·cases hj) (by rw [sB,hol];omega) (λj v hj=>by
     rw [uF] at hj;have:=hoc _ rfl _ v hj;rwa [we,<- tM] at this) (λv hv=>(htail.one') v hv) hmcell hmvl hmva.one'
   refine this.mono λe w' ⟨h1,h2⟩=>?_;subst h1 h2;have hge:=grownCap_ge w (xs.length+M.length) c (ρ.t 9);have hgm:grownCap w (xs.length+M.length) c (ρ.t 9)<=maxLen:=grownCap_le_maxLen w _ c _ (by unfold yK at hlim;simp only [maxLen];omega);have htot2:((xs.take n).map row).length+(ys.map row).length=xs.length+M.length:=by rw [htot,hRl]
   obtain ⟨g',hg',hr',hv'⟩:=row_grow_out (C:=grownCap w (xs.length+M.length) c (ρ.t 9)) (rest:=(Builtin.zeroCells z9.cells (grownCap w (xs.length+M.length) c (ρ.t 9) - (xs.length+M.length))).toList) (e:=ρ.t 9) (r1.drew) hh1' hyk hyva1 hypu hb1 hyn hh2 (by rw [htot2];exact hge) hgm (by rw [t8,size_zeroCells,hzc9,htot2]);exact fin hg' hr' (by rw [htot2] at hv' ⊢;exact hv')
end
end Go.Vv
