/- slices.Insert on a mutable row, at elements of any width: its text is walked; after the shelf's at texts. -/
import Derived.Shelf.Spec.SlicesInsertGrow
import Derived.Test.YtfdacjmlbokckaaGreatDoorVvRd
set_option linter.all false
namespace Go.Vv
open Go Go.RowKit Go.Lib Go.Shelf Go.Proofs

def rtV:Operand→TypeId→TypeId→TypeId
 | .tmp n,τ,t=>bif [13,24,44,61,66,81,87,91].any (· == n) then τ else t
 | _,_,t=>t
def rtA (τ:TypeId):List Operand→List TypeId→List TypeId
 | x::r,t::s=>rtV x τ t::rtA τ r s
 | _,s=>s
def rtOper (τ:TypeId):Oper→Oper
 | ⟨d,.move (.tmp 2),_,p,a,g⟩=>⟨d,.move (.tmp 2),τ,p,a,g⟩
 | ⟨d,.call ⟨f,x,y⟩,t,p,a,g⟩=>⟨d,.call ⟨f,x,(rtA τ x.toList y.toList).toArray⟩,t,p,a,g⟩
 | o=>o
def rtCode (τ:TypeId):Code→Code
 | .region id ops d=>.region id (ops.toList.map (rtOper τ)).toArray d
 | .seq a b=>.seq (rtCode τ a) (rtCode τ b)
 | .cond c a b=>.cond c (rtCode τ a) (rtCode τ b)
 | .block id b=>.block id (rtCode τ b)
 | .loop b=>.loop (rtCode τ b)
 | c=>c
noncomputable def insF (ρ:Ren) (τ:TypeId) (nm:String) (ta:Array TypeId):Func :=
 { Body2.n22 ρ with name:=nm,targs:=ta,params:=#[ρ.t 24,ρ.t 3,τ],body:=(Body2.n22 ρ).body.map (rtCode τ) }
theorem insF_ntmps (ρ:Ren) (τ:TypeId) (nm:String) (ta:Array TypeId):(insF ρ τ nm ta).ntmps=95:=Body2.n22_ntmps ρ

structure InsLays (P:Program) (ρ:Ren) (τ:TypeId) (k:Nat):Prop where
 mixed:P.follows .mixedOrders=true
 f22 : ∃ nm ta, P.funcs[ρ.f 22]? = some (insF ρ τ nm ta) ∧ (nm == "runtime.NumGoroutine") = false
 f29:∀ (args:Array Value) (w:World),(callFunc (ρ.f 29) args).run P w=((Extern.SlicesOverlaps.overlaps #[τ,τ] #[ρ.t 4] args).run P w).andThen fun v w'=>.ok (.value v) w'
 t0:P.underlying (ρ.t 0)=some (TypeDesc.tuple #[])
 a0:∀ w,(isAgg (ρ.t 0)).run P w=.ok false w
 z0:∀ w,(Go.sizeOf (ρ.t 0)).run P w=.ok 1 w
 v0:∀ w,(zeroValue (ρ.t 0)).run P w=.ok (Value.tuple #[]) w
 t3:P.underlying (ρ.t 3)=some (TypeDesc.int IntKind.i64)
 a3:∀ w,(isAgg (ρ.t 3)).run P w=.ok false w
 z3:∀ w,(Go.sizeOf (ρ.t 3)).run P w=.ok 1 w
 v3:∀ w,(zeroValue (ρ.t 3)).run P w=.ok (Value.int IntKind.i64 0) w
 t4:P.underlying (ρ.t 4)=some (TypeDesc.bool)
 a4:∀ w,(isAgg (ρ.t 4)).run P w=.ok false w
 z4:∀ w,(Go.sizeOf (ρ.t 4)).run P w=.ok 1 w
 v4:∀ w,(zeroValue (ρ.t 4)).run P w=.ok (Value.bool false) w
 t24:P.underlying (ρ.t 24)=some (TypeDesc.slice (ρ.t 9))
 a24:∀ w,(isAgg (ρ.t 24)).run P w=.ok false w
 z24:∀ w,(Go.sizeOf (ρ.t 24)).run P w=.ok 1 w
 v24:∀ w,(zeroValue (ρ.t 24)).run P w=.ok (Value.slice none 0 0) w
 t23:P.underlying τ=some (TypeDesc.slice (ρ.t 9))
 a23:∀ w,(isAgg τ).run P w=.ok false w
 z23:∀ w,(Go.sizeOf τ).run P w=.ok 1 w
 v23:∀ w,(zeroValue τ).run P w=.ok (Value.slice none 0 0) w
 i9:∃ i z,P.info? (ρ.t 9)=some i∧i.zero=some z∧i.size=k∧z.cells.size=k∧i.bytes≤65536
 k0:0 < k

section
variable {P:Program} {ρ:Ren} {τ:TypeId} {k:Nat}
theorem run_copyK {w:World} {dT sT ty elem:TypeId} {i:TypeInfo} {b o dLen dCap sLen sCap n:Nat} {a:Addr} {cs:List Value} {cur:Array Value} {e':TypeId}
  (hu:P.underlying dT=some (.slice elem)) (hi:P.info? elem=some i) (hn:n=Nat.min sLen dLen) (hcl:cs.length=n * i.size)
  (hsrc:∀ j v,cs[j]?=some v→w.cell? (a.add j)=some v) (hc:w.heap[b]?=some (.cells cur e' (0,0))) (hfit:o+cs.length≤cur.size) (h1:∀ v ∈ cs,v.oneCell'=true) :
  (Builtin.copy_ #[dT,sT] ty #[.slice (some ⟨b,o,none⟩) dLen dCap,.slice (some a) sLen sCap]).run P w=.ok (goInt n) (w.setRow b (cur.toList.take o++cs++cur.toList.drop (o+cs.length)).toArray):=by
 have hl:=run_loadCells_list (P:=P) w a cs hsrc
 have hst:=run_storeCells_at P b o e' cs 0 cur w hc (by omega) h1
 simp only [Nat.add_zero] at hst
 simp [Builtin.copy_,run_underlying hu,Builtin.lenOf,Builtin.firstCells,sizeOf,typeInfo,hi,← hn,← hcl,hl,hst]

set_option maxHeartbeats 4000000 in
set_option maxRecDepth 100000 in
theorem ins_end (L:InsLays P ρ τ k) {base:Option Addr} {n c m:Nat} {xa:Option Addr} {vc:Nat} {w w1:World} {v1:Value} (hm:0 < m) (hnc:n≤c) (hc63:c≤9223372036854775807) (hnil:base=none→c=0)
  (hrun:∀ ty,(Builtin.append_ #[ρ.t 24,τ] ty #[.slice base n c,.slice xa m vc]).run P w=.ok v1 w1) :
  Calls P (ρ.f 22) #[.slice base n c,.int .i64 n,.slice xa m vc] w fun e w'=>e=.returned v1∧w'=w1:=by
 have t0:=L.t0;have a0:=L.a0;have z0:=L.z0;have v0:=L.v0;have t3:=L.t3;have a3:=L.a3;have z3:=L.z3;have v3:=L.v3;have t4:=L.t4;have a4:=L.a4;have z4:=L.z4;have v4:=L.v4;have t24:=L.t24;have a24:=L.a24;have z24:=L.z24;have v24:=L.v24;have t23:=L.t23;have a23:=L.a23;have z23:=L.z23;have v23:=L.v23;have u23:=run_underlying L.t23
 have u0:=run_underlying L.t0;have u3:=run_underlying L.t3;have u4:=run_underlying L.t4;have u24:=run_underlying L.t24
 have mixed:=L.mixed
 obtain ⟨i9,z9,hi9,hz9,hs9,hzc9,hb9⟩:=L.i9
 have zz9:∀ w,(Go.sizeOf (ρ.t 9)).run P w=.ok k w:=fun w=>by rw [← hs9];exact xg hi9
 have hz1:¬ ((m:Int)=0):=by omega
 obtain ⟨nm,ta,hf,hnm⟩:=L.f22
 go_enter hf,insF_ntmps ρ τ nm ta
 simp only [rtCode,rtOper,rtA,rtV,List.map_cons,List.map_nil,List.any_cons,List.any_nil,Nat.reduceBEq,Bool.or_false,Bool.or_true,Bool.false_or,Bool.true_or,cond_true,cond_false]
 cases base with
 | none =>
  have h0:=hnil rfl
  subst h0
  have hn0:n=0:=by omega
  subst hn0
  go_wp2_with (at_builtin;refine Lib.wpList_append_run _ rfl _ _ _ _ rfl _ _ rfl rfl _ _ (hrun _) ?_)
  all_goals (go_ret;exact ⟨rfl,rfl⟩)
 | some a =>
  obtain ⟨ab,ao,asp⟩:=a
  go_wp2_with (at_builtin;refine Lib.wpList_append_run _ rfl _ _ _ _ rfl _ _ rfl rfl _ _ (hrun _) ?_)
  all_goals (go_ret;exact ⟨rfl,rfl⟩)

theorem ins_ov (L:InsLays P ρ τ k) {w:World} {b vb o vo m vc lb cb:Nat} {cur curv:Array Value} {ty tyv:TypeId} {frv:Nat×Nat} (hc:w.heap[b]?=some (.cells cur ty (0,0))) (hcv:w.heap[vb]?=some (.cells curv tyv frv)) (h0:0 < cur.size) (h0v:0 < curv.size)
  (hsep:vb=b→vo+m * k≤o) :
  (callFunc (ρ.f 29) #[.slice (some ⟨vb,vo,none⟩) m vc,.slice (some ⟨b,o,none⟩) lb cb]).run P w=.ok (.value (.bool false)) w:=by
 rw [L.f29]
 have hfz:∀ j,w.frozen? ⟨b,j,none⟩=false:=fun j=>by simp [World.frozen?,hc]
 have hsh:w.shape? b=some (ty,cur.size):=by simp [World.shape?,hc]
 obtain ⟨kv,hkv⟩:∃ x,curv.size=x+1:=⟨curv.size - 1,by omega⟩
 have hshv:w.shape? vb=some (tyv,kv+1):=by simp [World.shape?,hcv,hkv]
 have hz0:¬ cur.size=0:=by omega
 have u24:=run_underlying L.t23
 obtain ⟨i9,z9,hi9,hz9,hs9,hzc9,hb9⟩:=L.i9
 have zz9:∀ w,(Go.sizeOf (ρ.t 9)).run P w=.ok k w:=fun w=>by rw [← hs9];exact xg hi9
 have:(Extern.SlicesOverlaps.overlaps #[τ,τ] #[ρ.t 4] #[.slice (some ⟨vb,vo,none⟩) m vc,.slice (some ⟨b,o,none⟩) lb cb]).run P w=.ok (.bool false) w:=by
  change Sem.run P (α:=Value) (do
   let some t := some τ | stuck "none"
   let .slice elem ← underlying t | stuck _
   let size ← sizeOf elem
   match (some (⟨vb,vo,none⟩:Addr):Option Addr),(some (⟨b,o,none⟩:Addr):Option Addr) with
   | some a,some b =>
    if m=0 ∨ lb=0 ∨ size=0 then pure (Value.bool false)
    else if a.block != b.block&&(← frozen a)&&(← frozen b) then unsupported .addressObserved
    else do
     if a.block != b.block then do
      noView a;noView b
      if ← mayBeOne a b then return Value.bool ((← choose _)==1)
     pure (Value.bool (a.block==b.block&&a.off < b.off+lb * size&&b.off < a.off+m * size))
   | _,_=>pure (Value.bool false)) w=_
  by_cases h1:m=0 ∨ lb=0 ∨ k=0
  ·simp [u24,zz9,h1]
  ·by_cases hb:vb=b
   ·simp_all
   ·have hnb:(vb != b)=true:=by simpa using hb
    simp [u24,zz9,h1,hb,frozen,noView,viewAt,mayBeOne,stringish,shape,Sem.run,hsh,hshv,hfz,hz0]
 simp_all
set_option maxHeartbeats 4000000 in
set_option maxRecDepth 100000 in
theorem ins_shift (L:InsLays P ρ τ k) {b o n c i vb vo m vc:Nat} {cs vs:List Value} {cur curv:Array Value} {ty tyv:TypeId} {frv:Nat×Nat} {w:World} (hi:i < n) (hm:0 < m) (hroom:n+m≤c) (hc63:c≤9223372036854775807)
  (hc:w.heap[b]?=some (.cells cur ty (0,0))) (hfit:o+c * k≤cur.size) (hcs:cs=(cur.toList.drop (o+i * k)).take ((n - i) * k)) (h1c:∀ v ∈ cs,v.oneCell'=true)
  (hcv:w.heap[vb]?=some (.cells curv tyv frv)) (hvs:∀ j v,vs[j]?=some v→w.cell? ⟨vb,vo+j,none⟩=some v) (hvl:vs.length=m * k) (h1v:∀ v ∈ vs,v.oneCell'=true) (hsep:vb=b→vo+m * k≤o) :
  Calls P (ρ.f 22) #[.slice (some ⟨b,o,none⟩) n c,.int .i64 i,.slice (some ⟨vb,vo,none⟩) m vc] w fun e w'=>e=.returned (.slice (some ⟨b,o,none⟩) (n+m) c) ∧
   w'=w.drew.setRow b (cur.toList.take (o+i * k)++(vs++cs)++cur.toList.drop (o+i * k+(vs++cs).length)).toArray:=by
 have t0:=L.t0;have a0:=L.a0;have z0:=L.z0;have v0:=L.v0;have t3:=L.t3;have a3:=L.a3;have z3:=L.z3;have v3:=L.v3;have t4:=L.t4;have a4:=L.a4;have z4:=L.z4;have v4:=L.v4;have t24:=L.t24;have a24:=L.a24;have z24:=L.z24;have v24:=L.v24;have t23:=L.t23;have a23:=L.a23;have z23:=L.z23;have v23:=L.v23;have u23:=run_underlying L.t23
 have u0:=run_underlying L.t0;have u3:=run_underlying L.t3;have u4:=run_underlying L.t4;have u24:=run_underlying L.t24
 have mixed:=L.mixed
 have k0:=L.k0
 obtain ⟨i9,z9,hi9,hz9,hs9,hzc9,hb9⟩:=L.i9
 have zz9:∀ w,(Go.sizeOf (ρ.t 9)).run P w=.ok k w:=fun w=>by rw [← hs9];exact xg hi9
 have hnk:(n+m) * k≤c * k:=Nat.mul_le_mul_right k hroom
 have hink:(i+m) * k+(n - i) * k=(n+m) * k:=by rw [← Nat.add_mul];congr 1;omega
 have hik:i * k+(n - i) * k=n * k:=by rw [← Nat.add_mul];congr 1;omega
 have himk:i * k+m * k=(i+m) * k:=by rw [← Nat.add_mul]
 have hcl:cs.length=(n - i) * k:=by rw [hcs,List.length_take,List.length_drop,Array.length_toList];omega
 have hcpos:0 < cur.size:=by
  have:1 * 1≤c * k:=Nat.mul_le_mul (by omega) k0
  omega
 have hz1:¬ ((m:Int)=0):=by omega
 have hz2:¬ ((i:Int)=(n:Int)):=by omega
 have hvpos:0 < curv.size:=by
  have h1:0 < vs.length:=by rw [hvl];exact Nat.mul_pos hm k0
  have h2:=hvs 0 _ (List.getElem?_eq_getElem h1)
  rw [cell_of_row w vb _ curv tyv frv hcv] at h2
  have:=(Array.getElem?_eq_some_iff.1 h2).1
  omega
 have hov:∀ lb cb,(callFunc (ρ.f 29) #[.slice (some ⟨vb,vo,none⟩) m vc,.slice (some ⟨b,o+(i+m) * k,none⟩) lb cb]).run P w=.ok (.value (.bool false)) w:=fun lb cb=>ins_ov L hc hcv hcpos hvpos fun h=>by have:=hsep h;omega
 have hw1:IntKind.i64.wrap ((i:Int)+(m:Int))=(i:Int)+(m:Int):=by rw [IntKind.wrap_i64];omega
 have hb1:(0:Int)≤(i:Int)+(m:Int):=by omega
 have hin:i≤n:=by omega
 have htn:((i:Int)+(m:Int)).toNat=i+m:=by omega
 have hb2:¬ (c=i+m):=by omega
 have hb3:(i:Int)≤(n:Int)+(m:Int):=by omega
 have hb4:¬ (c=i):=by omega
 obtain ⟨cur1,hcur1⟩:∃ x,x=(cur.toList.take (o+(i+m) * k)++cs++cur.toList.drop (o+(i+m) * k+cs.length)).toArray:=⟨_,rfl⟩
 have hs1:cur1.size=cur.size:=by rw [hcur1];simp;omega
 have hcd:w.drew.heap[b]?=some (.cells cur ty (0,0)):=hc
 have hcp1:∀ ty dc sc,(Builtin.copy_ #[(ρ.t 24),(ρ.t 24)] ty #[.slice (some ⟨b,o+(i+m) * k,none⟩) (n+m - (i+m)) dc,.slice (some ⟨b,o+i * k,none⟩) (n+m - i) sc]).run P w.drew=.ok (goInt (n - i:Nat)) (w.drew.setRow b cur1):=fun ty dc sc=>by
  have:=run_copyK (P:=P) (w:=w.drew) (dT:=ρ.t 24) (sT:=ρ.t 24) (ty:=ty) (i:=i9) (b:=b) (o:=o+(i+m) * k) (dLen:=n+m - (i+m)) (dCap:=dc) (sLen:=n+m - i) (sCap:=sc) (n:=n - i) (a:=⟨b,o+i * k,none⟩) (cs:=cs) (cur:=cur)
   L.t24 hi9 (by simp only [Nat.min_def];split <;> omega) (by rw [hcl,hs9]) (fun j v hj=>by
    rw [xz,cell_of_row w.drew b _ cur _ (0,0) hcd]
    rw [hcs,List.getElem?_take] at hj
    split at hj
    ·rwa [List.getElem?_drop,Array.getElem?_toList] at hj
    ·cases hj) hcd (by omega) h1c
  rw [this,hcur1]
 have hc1:(w.drew.setRow b cur1).heap[b]?=some (.cells cur1 ty (0,0)):=setRow_heap w.drew b cur cur1 ty (0,0) hcd
 obtain ⟨cur2,hcur2⟩:∃ x,x=(cur1.toList.take (o+i * k)++vs++cur1.toList.drop (o+i * k+vs.length)).toArray:=⟨_,rfl⟩
 have hvs1:∀ j v,vs[j]?=some v→(w.drew.setRow b cur1).cell? ⟨vb,vo+j,none⟩=some v:=fun j v hj=>by
  have h:=hvs j v hj
  by_cases hb:vb=b
  ·have hs:=hsep hb
   subst hb
   rw [cell_of_row _ vb _ cur1 ty (0,0) hc1]
   rw [cell_of_row w vb _ cur ty (0,0) hc] at h
   have hjl:=(List.getElem?_eq_some_iff.1 hj).1
   rw [hcur1,List.getElem?_toArray,List.append_assoc,List.getElem?_append_left (by simp;omega),List.getElem?_take,if_pos (by omega),Array.getElem?_toList]
   exact h
  ·obtain ⟨cv,hcv'⟩:∃ cv,w.heap[vb]?=some cv:=⟨_,hcv⟩
   have e:(w.drew.setRow b cur1).heap[vb]?=w.heap[vb]?:=setRow_other w.drew b vb cur1 hb
   rw [cell_of_row _ vb _ curv tyv frv (e.trans hcv)]
   rw [cell_of_row w vb _ curv tyv frv hcv] at h
   exact h
 have hcp2:∀ ty dc,(Builtin.copy_ #[(ρ.t 24),τ] ty #[.slice (some ⟨b,o+i * k,none⟩) (n+m - i) dc,.slice (some ⟨vb,vo,none⟩) m vc]).run P (w.drew.setRow b cur1)=.ok (goInt m) ((w.drew.setRow b cur1).setRow b cur2):=fun ty dc=>by
  have:=run_copyK (P:=P) (w:=w.drew.setRow b cur1) (dT:=ρ.t 24) (sT:=τ) (ty:=ty) (i:=i9) (b:=b) (o:=o+i * k) (dLen:=n+m - i) (dCap:=dc) (sLen:=m) (sCap:=vc) (n:=m) (a:=⟨vb,vo,none⟩) (cs:=vs) (cur:=cur1)
   L.t24 hi9 (by simp only [Nat.min_def];split <;> omega) (by rw [hvl,hs9]) (fun j v hj=>by rw [xz];exact hvs1 j v hj) hc1 (by omega) h1v
  rw [this,hcur2]
 have hfin:(w.drew.setRow b cur1).setRow b cur2=w.drew.setRow b (cur.toList.take (o+i * k)++(vs++cs)++cur.toList.drop (o+i * k+(vs++cs).length)).toArray:=by
  have e:cur2=(cur.toList.take (o+i * k)++(vs++cs)++cur.toList.drop (o+i * k+(vs++cs).length)).toArray:=by
   rw [hcur2,hcur1]
   congr 1
   simp only [List.append_assoc]
   congr 1
   ·rw [List.take_append_of_le_length (by simp;omega),List.take_take,Nat.min_eq_left (by omega)]
   ·congr 1
    rw [List.drop_append,List.drop_of_length_le (by simp;omega)]
    simp only [List.length_take,Array.length_toList,List.nil_append]
    rw [Nat.min_eq_left (by omega),show o+i * k+vs.length - (o+(i+m) * k)=0 by omega,List.drop_zero]
    simp only [List.length_append]
    rw [show o+i * k+(vs.length+cs.length)=o+(i+m) * k+cs.length by omega]
  rw [← e]
  unfold World.setRow
  congr 1
  apply Array.ext_getElem?
  intro j
  simp only [Array.getElem?_modify]
  by_cases hj:b=j
  ·subst hj;simp [hcd]
  ·simp [hj]
 obtain ⟨nm,ta,hf,hnm⟩:=L.f22
 clear hcur1 hcur2 hcs hcd hc1 hvs1
 go_enter hf,insF_ntmps ρ τ nm ta
 simp only [rtCode,rtOper,rtA,rtV,List.map_cons,List.map_nil,List.any_cons,List.any_nil,Nat.reduceBEq,Bool.or_false,Bool.or_true,Bool.false_or,Bool.true_or,cond_true,cond_false]
 go_wp2_with (simp only [hov])
 go_region_law_o (refine step_copy_runI rfl _ _ (ρ.t 24) (ρ.t 24) rfl _ _ (by simp [Act.eval,Act.put]) (by simp [Act.eval,Act.put]) (hcp1 _ _ _) ?_)
 go_wp2_with (at_builtin;refine wpList_copy_runI _ rfl _ _ (ρ.t 24) τ rfl _ _ rfl rfl (hcp2 _ _) ?_)
 go_ret
 exact ⟨rfl,by simp [hvl,hcl]⟩

theorem cell_lt {w:World} {b j:Nat} {v:Value} (h:w.cell? ⟨b,j,none⟩=some v):b < w.heap.size:=World.block_lt_of_cell? w ⟨b,j,none⟩ h
theorem cell_alloc {w:World} {o:Obj} {b j:Nat} {v:Value} (h:w.cell? ⟨b,j,none⟩=some v):(w.alloc o).cell? ⟨b,j,none⟩=some v:=by
 rw [World.cell?_alloc_lt w o ⟨b,j,none⟩ (cell_lt h)];exact h
set_option maxHeartbeats 4000000 in
set_option maxRecDepth 100000 in
theorem ins_grow (L:InsLays P ρ τ k) {b o n c i vb vo m vc:Nat} {os cs vs:List Value} {z9:Value} {i9:TypeInfo} {w:World} (hi:i < n) (hm:0 < m) (hnc:n≤c) (hroom:c < n+m) (hbig:n+m≤vQ)
  (hi9:P.info? (ρ.t 9)=some i9) (hz9:i9.zero=some z9)
  (hol:os.length=i * k) (hos:∀ j v,os[j]?=some v→w.cell? ⟨b,o+j,none⟩=some v) (hcl:cs.length=(n - i) * k) (hcs:∀ j v,cs[j]?=some v→w.cell? ⟨b,o+i * k+j,none⟩=some v) (h1c:∀ v ∈ cs,v.oneCell'=true)
  (hvs:∀ j v,vs[j]?=some v→w.cell? ⟨vb,vo+j,none⟩=some v) (hvl:vs.length=m * k) (h1v:∀ v ∈ vs,v.oneCell'=true) :
  Calls P (ρ.f 22) #[.slice (some ⟨b,o,none⟩) n c,.int .i64 i,.slice (some ⟨vb,vo,none⟩) m vc] w fun e w' =>
   e=.returned (.slice (some ⟨w.heap.size,0,none⟩) (n+m) (grownCap w (n+m) c (ρ.t 9))) ∧
   w'=w.drew.drew.alloc (.cells (os++(vs++cs)++(Builtin.zeroCells z9.cells (grownCap w (n+m) c (ρ.t 9) - (n+m))).toList).toArray (ρ.t 9)):=by
 have t0:=L.t0;have a0:=L.a0;have z0:=L.z0;have v0:=L.v0;have t3:=L.t3;have a3:=L.a3;have z3:=L.z3;have v3:=L.v3;have t4:=L.t4;have a4:=L.a4;have z4:=L.z4;have v4:=L.v4;have t24:=L.t24;have a24:=L.a24;have z24:=L.z24;have v24:=L.v24;have t23:=L.t23;have a23:=L.a23;have z23:=L.z23;have v23:=L.v23;have u23:=run_underlying L.t23
 have u0:=run_underlying L.t0;have u3:=run_underlying L.t3;have u4:=run_underlying L.t4;have u24:=run_underlying L.t24
 have mixed:=L.mixed
 have k0:=L.k0
 have hinf:i9.size=k∧z9.cells.size=k∧i9.bytes≤65536:=by
  obtain ⟨i9',z9',hi9',hz9',h1,h2,h3⟩:=L.i9
  simp_all
 obtain ⟨hs9,hzc9,hb9⟩:=hinf
 have zz9:∀ w,(Go.sizeOf (ρ.t 9)).run P w=.ok k w:=fun w=>by rw [← hs9];exact xg hi9
 unfold vQ at hbig
 have hz1:¬ ((m:Int)=0):=by omega
 have hz2:¬ ((i:Int)=(n:Int)):=by omega
 have hz3:(c:Int) < (n:Int)+(m:Int):=by omega
 have hik:i+(n+m - i)=n+m:=by omega
 have hkk:(n:Int)+(m:Int) - (i:Int)=((n+m - i:Nat):Int):=by omega
 have hbytes:(n+m) * i9.bytes≤140737488355328:=by
  have:=Nat.mul_le_mul hbig hb9
  omega
 have hold:(Builtin.firstCells i9.size i (.slice (some ⟨b,o,none⟩) i c)).run P w.drew=.ok os.toArray w.drew:=run_firstCells_some w.drew i9.size i ⟨b,o,none⟩ i c os (by rw [hs9,hol]) (fun j v hj=>by rw [World.cell?_drew,xz];exact hos j v hj)
 have hki:(n+m - i) * i9.bytes≤(n+m) * i9.bytes:=Nat.mul_le_mul_right _ (by omega)
 have hrz:∀ ty,(Builtin.append_ #[(ρ.t 24),(ρ.t 3)] ty #[.slice (some ⟨b,o,none⟩) i c,.int .i64 ((n:Int)+(m:Int) - (i:Int))]).run P w =
   .ok (.slice (some ⟨w.heap.size,0,none⟩) (n+m) (grownCap w (n+m) c (ρ.t 9))) (w.drew.alloc (.cells (os.toArray++Builtin.zeroCells z9.cells (n+m - i)++Builtin.zeroCells z9.cells (grownCap w (n+m) c (ρ.t 9) - (n+m))) (ρ.t 9))):=fun ty=>by
  have h:=Lib.run_append_grow_zeros w (ρ.t 24) (ρ.t 3) ty (ρ.t 9) i9 _ .i64 .i64 L.t24 L.t3 hi9 hz9 (some ⟨b,o,none⟩) i c os hold (n+m - i) (by omega) (by omega) (by omega) (by omega) (by omega) (by rw [hik];exact growslice_fits hroom hbytes)
  simp_all
 obtain ⟨G,hG⟩:∃ G,G=grownCap w (n+m) c (ρ.t 9):=⟨_,rfl⟩
 obtain ⟨ROW,hROW⟩:∃ ROW:Array Value,ROW=os.toArray++Builtin.zeroCells z9.cells (n+m - i)++Builtin.zeroCells z9.cells (G - (n+m)):=⟨_,rfl⟩
 have hGn:n+m≤G:=by rw [hG];exact grownCap_ge w _ _ _
 have hG63:G≤9223372036854775807:=by
  have:=grownCap_le_maxLen w (n+m) c (ρ.t 9) (by unfold maxLen;omega)
  rw [← hG] at this
  unfold maxLen at this
  omega
 rw [← hG] at hrz ⊢
 rw [← hROW] at hrz
 have hmk:i * k+m * k=(i+m) * k:=by grind
 have hnik:(i+m) * k+(n - i) * k=(n+m) * k:=by rw [← Nat.add_mul];congr 1;omega
 have hzk:i * k+(n+m - i) * k=(n+m) * k:=by grind
 have hGk:(n+m) * k+(G - (n+m)) * k=G * k:=by rw [← Nat.add_mul];congr 1;omega
 have hRs:ROW.size=G * k:=by rw [hROW];simp only [Array.size_append,List.size_toArray,size_zeroCells,hzc9,hol];omega
 have hW1:(w.drew.alloc (.cells ROW (ρ.t 9))).heap[w.heap.size]?=some (.cells ROW (ρ.t 9) (0,0)):=heap_alloc_new w.drew _
 obtain ⟨W1,hW⟩:∃ x,x=w.drew.alloc (.cells ROW (ρ.t 9)):=⟨_,rfl⟩
 rw [← hW] at hrz hW1
 obtain ⟨R2,hR2⟩:∃ x,x=(ROW.toList.take (i * k)++vs++ROW.toList.drop (i * k+vs.length)).toArray:=⟨_,rfl⟩
 have hR2s:R2.size=ROW.size:=by grind
 have hvs1:∀ j v,vs[j]?=some v→W1.cell? ⟨vb,vo+j,none⟩=some v:=fun j v hj=>by rw [hW];exact cell_alloc (by simp_all)
 have hcpA:∀ ty dc,(Builtin.copy_ #[(ρ.t 24),τ] ty #[.slice (some ⟨w.heap.size,i * k,none⟩) (n+m - i) dc,.slice (some ⟨vb,vo,none⟩) m vc]).run P W1=.ok (goInt m) (W1.setRow w.heap.size R2):=fun ty dc=>by
  have:=run_copyK (P:=P) (w:=W1) (dT:=ρ.t 24) (sT:=τ) (ty:=ty) (i:=i9) (b:=w.heap.size) (o:=i * k) (dLen:=n+m - i) (dCap:=dc) (sLen:=m) (sCap:=vc) (n:=m) (a:=⟨vb,vo,none⟩) (cs:=vs) (cur:=ROW)
   L.t24 hi9 (by grind) (by rw [hvl,hs9]) (fun j v hj=>by rw [xz];exact hvs1 j v hj) hW1 (by omega) h1v
  simp_all
 have hW2:(W1.setRow w.heap.size R2).heap[w.heap.size]?=some (.cells R2 (ρ.t 9) (0,0)):=setRow_heap W1 _ ROW R2 _ (0,0) hW1
 obtain ⟨W2,hWW2⟩:∃ x,x=(W1.setRow w.heap.size R2).drew:=⟨_,rfl⟩
 have hW2d:W2.heap[w.heap.size]?=some (.cells R2 (ρ.t 9) (0,0)):=by rw [hWW2];exact hW2
 obtain ⟨R3,hR3⟩:∃ x,x=(R2.toList.take ((i+m) * k)++cs++R2.toList.drop ((i+m) * k+cs.length)).toArray:=⟨_,rfl⟩
 have hcs1:∀ j v,cs[j]?=some v→W2.cell? ⟨b,o+i * k+j,none⟩=some v:=fun j v hj=>by
  have h:=hcs j v hj
  have hb:=cell_lt h
  have h2:W1.cell? ⟨b,o+i * k+j,none⟩=some v:=by rw [hW];exact cell_alloc (by simp_all)
  rw [hWW2,World.cell?_drew]
  have e:(W1.setRow w.heap.size R2).heap[b]?=W1.heap[b]?:=setRow_other W1 w.heap.size b R2 (by omega)
  have hb1:b < W1.heap.size:=cell_lt h2
  unfold World.cell? at h2 ⊢
  grind
 have hcpB:∀ ty dc sc,(Builtin.copy_ #[(ρ.t 24),(ρ.t 24)] ty #[.slice (some ⟨w.heap.size,(i+m) * k,none⟩) (n+m - (i+m)) dc,.slice (some ⟨b,o+i * k,none⟩) (n - i) sc]).run P W2=.ok (goInt (n - i:Nat)) (W2.setRow w.heap.size R3):=fun ty dc sc=>by
  have:=run_copyK (P:=P) (w:=W2) (dT:=ρ.t 24) (sT:=ρ.t 24) (ty:=ty) (i:=i9) (b:=w.heap.size) (o:=(i+m) * k) (dLen:=n+m - (i+m)) (dCap:=dc) (sLen:=n - i) (sCap:=sc) (n:=n - i) (a:=⟨b,o+i * k,none⟩) (cs:=cs) (cur:=R2)
   L.t24 hi9 (by grind) (by rw [hcl,hs9]) (fun j v hj=>by rw [xz];exact hcs1 j v hj) hW2d (by omega) h1c
  simp_all
 have hfin:W2.setRow w.heap.size R3=w.drew.drew.alloc (.cells (os++(vs++cs)++(Builtin.zeroCells z9.cells (G - (n+m))).toList).toArray (ρ.t 9)):=by
  have e:R3=(os++(vs++cs)++(Builtin.zeroCells z9.cells (G - (n+m))).toList).toArray:=by
   rw [hR3,hR2,hROW]
   congr 1
   have zl:(Builtin.zeroCells z9.cells (n+m - i)).toList.length=(n+m - i) * k:=by rw [Array.length_toList,size_zeroCells,hzc9]
   simp only [Array.toList_append,List.append_assoc]
   rw [List.take_append_of_le_length (l₁:=os) (by omega),List.take_of_length_le (l:=os) (by omega)]
   rw [← List.append_assoc os vs,List.take_append_of_le_length (l₁:=os++vs) (by simp;omega),List.take_of_length_le (l:=os++vs) (by simp;omega),List.append_assoc]
   congr 2
   congr 1
   rw [List.drop_append,List.drop_of_length_le (l:=os++vs) (by simp;omega),List.nil_append]
   rw [List.length_append,List.drop_drop]
   rw [List.drop_append,List.drop_of_length_le (l:=os) (by omega),List.nil_append]
   rw [List.drop_append,List.drop_of_length_le (by omega),List.nil_append]
   rw [show i * k+vs.length+((i+m) * k+cs.length - (os.length+vs.length)) - os.length - (Builtin.zeroCells z9.cells (n+m - i)).toList.length=0 by omega,List.drop_zero]
  rw [← e,hWW2,hW]
  unfold World.setRow World.alloc World.drew
  simp only
  congr 1
  apply Array.ext_getElem?
  intro j
  simp only [Array.getElem?_modify,Array.getElem?_push]
  by_cases hj:w.heap.size=j
  ·grind
  ·grind
 have hGi:¬ (G=i):=by omega
 have hGim:¬ (G=i+m):=by omega
 have hci:¬ (c=i):=by omega
 have hw1:IntKind.i64.wrap ((i:Int)+(m:Int))=(i:Int)+(m:Int):=by rw [IntKind.wrap_i64];omega
 have hb1:(0:Int)≤(i:Int)+(m:Int):=by omega
 have hin:i≤n:=by omega
 have htn:((i:Int)+(m:Int)).toNat=i+m:=by omega
 have hb3:(i:Int)≤(n:Int):=by omega
 obtain ⟨nm,ta,hf,hnm⟩:=L.f22
 obtain ⟨OB,hOB⟩:∃ x,x=Obj.cells (os++(vs++cs)++(Builtin.zeroCells z9.cells (G - (n+m))).toList).toArray (ρ.t 9):=⟨_,rfl⟩
 rw [← hOB] at hfin ⊢
 obtain ⟨FIN,hFIN⟩:∃ x,x=w.drew.drew.alloc OB:=⟨_,rfl⟩
 rw [← hFIN] at hfin ⊢
 obtain ⟨Wd,hWd⟩:∃ x,x=W1.setRow w.heap.size R2:=⟨_,rfl⟩
 rw [← hWd] at hcpA hWW2
 subst hWW2
 clear hkk hik hold hROW hG hRs hR2 hR3 hR2s hvs1 hcs1 hW1 hW2 hW2d hos hcs hvs hGk hnik hmk hzk hki hbytes hW hWd hOB hFIN
 go_enter hf,insF_ntmps ρ τ nm ta
 simp only [rtCode,rtOper,rtA,rtV,List.map_cons,List.map_nil,List.any_cons,List.any_nil,Nat.reduceBEq,Bool.or_false,Bool.or_true,Bool.false_or,Bool.true_or,cond_true,cond_false]
 go_wp2_with (first
  | (at_builtin;refine Lib.wpList_append_run _ rfl _ _ _ _ rfl _ _ rfl rfl _ _ (hrz _) ?_)
  | (at_builtin;refine wpList_copy_runI _ rfl _ _ (ρ.t 24) τ rfl _ _ rfl rfl (hcpA _ _) ?_))
 go_region_law_o (refine step_copy_runI rfl _ _ (ρ.t 24) (ρ.t 24) rfl (.slice (some ⟨w.heap.size,(i+m) * k,none⟩) (n+m - (i+m)) (G - (i+m))) (.slice (some ⟨b,o+i * k,none⟩) (n - i) (c - i)) (by simp [Act.eval,Act.put]) (by simp [Act.eval,Act.put]) (hcpB (ρ.t 3) (G - (i+m)) (c - i)) ?_)
 go_wp2
 go_ret
 simp_all
end
section
variable {P:Program} {w:World} {g:Gh} {h:AH} {B:Nat} {w0:World}
theorem row_grow_in (r:Rel B w0 g h w) {id q k c:Nat} {es ys:List (List AV)} {ad:Option Addr} {news:List Value} (hs:V g (.rsl id q k es.length) (.slice ad es.length c)) (hl:∀ e ∈ ys,e.length=k) (hva:VA g ys.flatten news) (hpu:ys.flatten.all AV.pure=true)
  (hb:h.blk id=some (.row q k es)) (hy:ys.length ≠ 0) (hroom:es.length+ys.length≤c) :
  ∃ b o cur ty,ad=some ⟨b,o,none⟩∧w.heap[b]?=some (.cells cur ty (0,0))∧o+c * k≤cur.size∧(∀ j,o+es.length * k≤j→g.Φ b j=none) ∧
   ∃ g',g.le g'∧Rel B w0 g' { h.put id (.row q k (es++ys)) with toks:=h.toks.set q (es.length+ys.length) } (w.setRow b (cur.toList.take (o+es.length * k)++news++cur.toList.drop (o+es.length * k+news.length)).toArray)∧V g' (.rsl id q k (es.length+ys.length)) (.slice ad (es.length+ys.length) c):=by
 obtain ⟨hσ,ti,hti,htr,htn,hlen,hpe,hrow⟩:=r.rowAt hb
 simp only [V] at hs
 obtain ⟨a',c',he,hc1,hc2,t2,ht2,hrd,hle,hcap⟩:=hs
 simp only [Value.slice.injEq] at he
 obtain ⟨rfl,_,rfl⟩:=he
 obtain rfl:ti=t2:=by simp_all
 have hcap:(es.length=0∧c=0) ∨ ∃ b o,ad=some ⟨b,o,none⟩∧ti.loc=some (b,o+es.length * k,o+c * k):=hcap.imp (fun h=>h) fun ⟨b,o,h1,h2⟩=>⟨b,o,h1,h2 htn.symm⟩
 have hnl:news.length=ys.length * k:=by rw [← hva.length,yz hl]
 have hfl:es.flatten.length=es.length * k:=yz hlen
 rcases hcap with ⟨h0,h1⟩ | ⟨b,o,rfl,hlb⟩
 ·omega
 ·obtain ⟨_,hloc⟩:=r.tok _ _ hti
  have lo:=hloc b _ _ hlb
  obtain ⟨cur,ty',hcur,hce⟩:=lo.cells
  have hmul:es.length * k+news.length≤c * k:=by rw [hnl,← Nat.add_mul];exact Nat.mul_le_mul_right _ hroom
  have hold2:VA g es.flatten ((cur.toList.drop o).take (es.length * k))∧∀ j,o≤j→g.Φ b j=none:=by
   rcases hrow with rfl | ⟨b2,o2,e2,cs,ty2,k1,k2,k3,k4,k5⟩
   ·exact ⟨by simp [VA],fun j hj=>lo.free j (by simp_all)⟩
   ·simp_all
  refine ⟨b,o,cur,ty',rfl,hcur,by omega,fun j hj=>hold2.2 j (by omega),?_⟩
  generalize hnew:(cur.toList.take (o+es.length * k)++news++cur.toList.drop (o+es.length * k+news.length)).toArray=new
  have hnsz:new.size=cur.size:=by grind
  have hlow:∀ j,j < o+es.length * k→new[j]?=cur[j]?:=fun j hj=>by
   grind
  have r1:=r.setSpare hti hlb hcur hnsz hlow
  have hheap:=setRow_heap w b cur new ty' (0,0) hcur
  have hcont:(new.toList.drop o).take ((es.length+ys.length) * k)=(cur.toList.drop o).take (es.length * k)++news:=by
   rw [← hnew]
   simp only [List.append_assoc]
   rw [List.drop_append_of_le_length (by simp;omega),List.drop_take,Nat.add_sub_cancel_left,Nat.add_mul,← hnl]
   rw [List.take_append,List.take_of_length_le (by simp;omega)]
   congr 1
   rw [List.take_append_of_le_length (by simp;omega),List.take_of_length_le (by simp;omega)]
  let T:TI:=⟨es.length+ys.length,some (b,o+(es.length+ys.length) * k,o+c * k),true⟩
  have hle2:g.le (g.setT q T):=Gh.le_setT (t':=T) hti (by grind) htr.symm
  have hT:(g.setT q T).τ[q]?=some T:=List.getElem?_set_self (List.getElem?_eq_some_iff.1 hti).1
  have r2:=r1.setRow (t':=T) (q:=id) hti (by grind) htr rfl hσ hb (es':=es++ys)
   ⟨T,hT,rfl,by simp [T],fun e he=>(List.mem_append.1 he).elim (hlen e) (hl e),by grind,
    .inr ⟨b,o,o+c * k,new,ty',by simp [T],hheap,by rw [List.length_append,hcont,List.flatten_append];exact (hold2.1.append hva).mono hle2,by rw [List.length_append,Nat.add_mul];omega,hold2.2⟩⟩
   (fun b' l e hl'=>by
    injection hl' with hl';injection hl' with e1 e2;injection e2 with e2 e3;subst e1 e2 e3
    exact ⟨lo.lo,by grind,⟨new,ty',hheap,by omega⟩,fun j hj=>lo.free j (by grind)⟩)
   (fun b' x hx=>by grind)
  refine ⟨_,hle2,r2,?_⟩
  simp only [V]
  exact ⟨some ⟨b,o,none⟩,c,rfl,hroom,hc2,T,hT,rfl,Nat.le_refl _,.inr ⟨b,o,rfl,fun _=>rfl⟩⟩
theorem row_olds (r:Rel B w0 g h w) {id q k c:Nat} {es:List (List AV)} {ad:Option Addr} (hs:V g (.rsl id q k es.length) (.slice ad es.length c)) (hb:h.blk id=some (.row q k es)) :
  ∃ olds:List Value,VA g es.flatten olds∧(∀ a,ad=some a→∀ j v,olds[j]?=some v→w.cell? (a.add j)=some v):=by
 obtain ⟨hσ,ti,hti,htr,htn,hlen,hpe,hrow⟩:=r.rowAt hb
 simp only [V] at hs
 obtain ⟨a',c',he,hc1,hc2,t2,ht2,hrd,hle,hcap⟩:=hs
 simp only [Value.slice.injEq] at he
 obtain ⟨rfl,_,rfl⟩:=he
 obtain rfl:ti=t2:=by simp_all
 have hfl:es.flatten.length=es.length * k:=yz hlen
 rcases hrow with rfl | ⟨b,o,e2,cs,ty2,k1,k2,k3,k4,k5⟩
 ·exact ⟨[],by rfl,fun a _ j v hv=>by simp at hv⟩
 ·rcases hcap with ⟨h0,_⟩ | ⟨b',o',rfl,hl'⟩
  ·grind
  ·have hl':=hl' htn.symm
   rw [k1] at hl'
   injection hl' with hl';injection hl' with e1 e2';injection e2' with e2' e3
   obtain rfl:o=o':=by omega
   subst e1
   refine ⟨_,k3,fun a ha j v hv=>?_⟩
   injection ha with ha
   subst ha
   rw [xz,cell_of_row w b (o+j) cs ty2 (0,0) k2]
   grind
theorem row_grow_out (r:Rel B w0 g h w) {id q k c C:Nat} {es ys:List (List AV)} {ad:Option Addr} {olds news rest:List Value} {e:TypeId} (hs:V g (.rsl id q k es.length) (.slice ad es.length c)) (hl:∀ e ∈ ys,e.length=k) (hva:VA g ys.flatten news) (hpu:ys.flatten.all AV.pure=true)
  (hb:h.blk id=some (.row q k es)) (hy:ys.length ≠ 0) (hov:VA g es.flatten olds) (hC:es.length+ys.length≤C) (hCm:C≤maxLen) (hr:rest.length=(C - (es.length+ys.length)) * k) :
  ∃ g',g.le g'∧Rel B w0 g' { h.put id (.row q k (es++ys)) with toks:=h.toks.set q (es.length+ys.length) } (w.drew.alloc (.cells (olds++news++rest).toArray e))∧V g' (.rsl id q k (es.length+ys.length)) (.slice (some ⟨w.heap.size,0,none⟩) (es.length+ys.length) C):=by
 obtain ⟨hσ,ti,hti,htr,htn,hlen,hpe,hrow⟩:=r.rowAt hb
 have hnl:news.length=ys.length * k:=by rw [← hva.length,yz hl]
 have hfl:es.flatten.length=es.length * k:=yz hlen
 have hol:olds.length=es.length * k:=by rw [← hov.length,hfl]
 generalize hrow':(olds++news++rest).toArray=row
 have hmul:(es.length+ys.length) * k+(C - (es.length+ys.length)) * k=C * k:=by rw [← Nat.add_mul];congr 1;omega
 have hrsz:row.size=C * k:=by grind
 have hcont:(row.toList.drop 0).take ((es.length+ys.length) * k)=olds++news:=by
  rw [← hrow',List.drop_zero]
  show (olds++news++rest).take _=_
  rw [List.take_append_of_le_length (by grind),List.take_of_length_le (by grind)]
 have hΦn:∀ j,g.Φ w.heap.size j=none:=fun j=>by
  rcases he:g.Φ w.heap.size j with _ | v
  ·rfl
  ·exact absurd (r.phi_lt he) (Nat.lt_irrefl _)
 have r1:=(r.drew).alloc0 (.cells row e)
 have hheap:(w.drew.alloc (.cells row e)).heap[w.heap.size]?=some (.cells row e (0,0)):=heap_alloc_new w.drew _
 have hsz:(es.length+ys.length) * k≤C * k:=Nat.mul_le_mul_right k hC
 have hloc:LocOk g.Φ B (w.drew.alloc (.cells row e)) w.heap.size ((es.length+ys.length) * k) (C * k) :=
  ⟨r.bsz,by simp,⟨row,e,hheap,by omega⟩,fun j _=>hΦn j⟩
 have hsig:∀ (j cc:Nat),g.σ[j]?=some (some cc)→w.heap.size ≠ cc:=fun j cc hj e=>by
  have hi':j < h.blks.length:=by rw [← r.slen];exact (List.getElem?_eq_some_iff.1 hj).1
  have:=(r.blk j cc _ hj (List.getElem?_eq_getElem hi')).2.1
  omega
 have htau:∀ (j:Nat) (tt:TI) (y:Nat×Nat),g.τ[j]?=some tt→tt.loc ≠ some (w.heap.size,y):=fun j tt y hj e=>by
  have:=((r.tok j tt hj).2 _ _ _ e).lt
  omega
 let T:TI:=⟨es.length+ys.length,some (w.heap.size,(es.length+ys.length) * k,C * k),true⟩
 have hle2:g.le (g.setT q T):=Gh.le_setT (t':=T) hti (by grind) htr.symm
 have hT:(g.setT q T).τ[q]?=some T:=List.getElem?_set_self (List.getElem?_eq_some_iff.1 hti).1
 have r2:=r1.setRow (t':=T) (q:=id) hti (by grind) htr rfl hσ hb (es':=es++ys)
  ⟨T,hT,rfl,by simp [T],fun e he=>(List.mem_append.1 he).elim (hlen e) (hl e),by grind,
   .inr ⟨w.heap.size,0,C * k,row,e,by simp [T],hheap,by rw [List.length_append,hcont,List.flatten_append];exact (hov.append hva).mono hle2,by simp_all,fun j _=>hΦn j⟩⟩
  (fun b' l e' hl'=>by grind)
  (fun b' x hx=>by injection hx with hx;injection hx with e1 _;subst e1;exact .inr ⟨htau,hsig,r.nnew (Nat.le_refl _),r.nold (Nat.le_refl _)⟩)
 refine ⟨_,hle2,r2,?_⟩
 simp only [V]
 exact ⟨some ⟨w.heap.size,0,none⟩,C,rfl,hC,hCm,T,hT,rfl,Nat.le_refl _,.inr ⟨w.heap.size,0,rfl,fun _=>by simp [T]⟩⟩
end
section
variable {P:Program} {ρ:Ren} {τ:TypeId} {k:Nat} {α:Type} {row:α→List AV}
theorem cells_at {w:World} {b j:Nat} {v:Value} (h:w.cell? ⟨b,j,none⟩=some v):∃ cs ty fr,w.heap[b]?=some (.cells cs ty fr)∧cs[j]?=some v:=by
 unfold World.cell? at h
 grind
theorem spec_insO (L:InsLays P ρ τ k) (hk:∀ x,(row x).length=k) {xs M R:List α} {z:Int} (hR:insO xs z M=some R) {a:AV} (ha:a=.sl k (M.map row) ∨ a=.osl none k (M.map row)) {h:AH} {B B':List Blk} {T T':List Nat} {i q b' t':Nat}
  (hb:B[i]?=some (.row (h.toks.length+q) k (xs.map row))) (hbl:B.length=b') (htl:T.length=t') (hB:B.set i .dead++[.row (h.toks.length+t') k (R.map row)]=B') (hT:T.set q (xs.length+1)++[R.length]=T') :
  Spec P (ρ.f 22) [.rsl (h.blks.length+i) (h.toks.length+q) k xs.length,.int .i64 z,a] (h.ext B T) (fun rr hh=>rr=.rsl (h.blks.length+b') (h.toks.length+t') k R.length∧hh=h.ext B' T'):=by
 unfold insO at hR
 split at hR
 case isFalse=>cases hR
 rename_i hc
 obtain ⟨⟨hz0,hzn⟩,hM0,hlim⟩:=hc
 injection hR with hR
 obtain ⟨n,rfl⟩:∃ n:Nat,z=n:=⟨z.toNat,by omega⟩
 have hnx:n≤xs.length:=by omega
 rw [Int.toNat_natCast] at hR
 have k0:=L.k0
 obtain ⟨nm,ta,hf22,hnm⟩:=L.f22
 refine ⟨fun vs w=>?_,fun B0 w0 _ g w vs r hv=>?_⟩
 ·have hne : ¬ nm = "runtime.NumGoroutine" := by simpa using hnm
  have hn2:(insF ρ τ nm ta).name=nm:=rfl
  have hb2:¬ (insF ρ τ nm ta).body=none:=by
   intro e
   have:(insF ρ τ nm ta).body.isSome=true:=rfl
   rw [e] at this;cases this
  simp [callFunc,hf22,hn2,hne,hb2]
 obtain ⟨vs⟩:=vs
 simp only [VL] at hv
 obtain ⟨v1,_,rfl,hV1,v2,_,rfl,hV2,v3,_,rfl,hV3,rfl⟩:=hv
 have hVs:=hV1
 simp only [V] at hV1 hV2
 obtain ⟨ad,c,rfl,hnc,hcm,_⟩:=hV1
 subst hV2
 obtain ⟨av,vc,rfl,hMv⟩:∃ av vc,v3=.slice av M.length vc∧(M.map row=[] ∨ ∃ b o,av=some ⟨b,o,none⟩∧VE g b k o (M.map row)):=by
  rcases ha with rfl | rfl
  ·simp only [V] at hV3
   obtain ⟨a1,c1,h1,_,_,h2⟩:=hV3
   simp_all
  ·simp only [V] at hV3
   obtain ⟨a1,c1,h1,_,_,h2,_⟩:=hV3
   simp_all
 obtain ⟨vb,vo,rfl,hVE⟩:=hMv.resolve_left (by intro e;rw [List.map_eq_nil_iff] at e;subst e;simp at hM0)
 obtain ⟨hMl,hVC⟩:=VE_iff.1 hVE
 obtain ⟨mvs,hmva,hmpu,hmφ⟩:=VC.toVA hVC
 have hmvl:mvs.length=M.length * k:=by rw [← hmva.length,flat_len hk]
 have hmcell:∀ j v,mvs[j]?=some v→w.cell? ⟨vb,vo+j,none⟩=some v:=fun j v hj=>r.phi _ _ _ (hmφ j v hj)
 have hblk:(h.ext B T).blk (h.blks.length+i)=some (.row (h.toks.length+q) k (xs.map row)):=by rw [xI];exact hb
 obtain ⟨hσ,ti,hti,htr,htn,hlen,hpe,hrow⟩:=r.rowAt hblk
 have hfl:(xs.map row).flatten.length=xs.length * k:=flat_len hk xs
 -- shrunk to what is ahead of the place
 have hVs':V g (.rsl (h.blks.length+i) (h.toks.length+q) k (xs.map row).length) (.slice ad (xs.map row).length c):=by simpa using hVs
 obtain ⟨g1,hg1,r1,hh1⟩:=r.shrink (n:=n) (a':=ad) hblk (by simpa using hnx) (.inl rfl) hVs'
 have e1:(h.ext B T).shr (h.blks.length+i) (h.toks.length+q) k n (xs.map row)=h.ext (B.set i .dead++[.row (h.toks.length+t') k ((xs.take n).map row)]) (T.set q (xs.length+1)++[n]):=by
  simp only [AH.shr,AH.ext,AH.put,AH.new,AH.mk.injEq,List.length_append,List.length_map,List.map_take]
  refine ⟨?_,?_⟩
  ·simp_all
  ·simp_all
 rw [e1] at r1
 have eb:(h.ext B T).blks.length=h.blks.length+b':=by rw [← hbl];simp [AH.ext]
 have et:(h.ext B T).toks.length=h.toks.length+t':=by rw [← htl];simp [AH.ext]
 rw [eb,et] at hh1
 have htk:(xs.take n).length=n:=by rw [List.length_take];omega
 have hh1':V g1 (.rsl (h.blks.length+b') (h.toks.length+t') k ((xs.take n).map row).length) (.slice ad ((xs.take n).map row).length c):=by rw [List.length_map,htk];exact hh1
 have hb1:(h.ext (B.set i .dead++[.row (h.toks.length+t') k ((xs.take n).map row)]) (T.set q (xs.length+1)++[n])).blk (h.blks.length+b')=some (.row (h.toks.length+t') k ((xs.take n).map row)):=by
  rw [xI,List.getElem?_append_right (by rw [List.length_set];omega),List.length_set,← hbl,Nat.sub_self];rfl
 have hput:∀ n2:Nat,({ (h.ext (B.set i .dead++[.row (h.toks.length+t') k ((xs.take n).map row)]) (T.set q (xs.length+1)++[n])).put (h.blks.length+b') (.row (h.toks.length+t') k (R.map row)) with
   toks:=(h.ext (B.set i .dead++[.row (h.toks.length+t') k ((xs.take n).map row)]) (T.set q (xs.length+1)++[n])).toks.set (h.toks.length+t') R.length }:AH)=h.ext B' T':=fun n2=>by
  subst hB hT
  simp only [AH.ext,AH.put,AH.mk.injEq]
  refine ⟨?_,?_⟩
  ·simp_all
  ·simp_all
 -- what comes behind
 let ys:=M++xs.drop n
 have hys:R=xs.take n++ys:=hR.symm
 have hRl:R.length=xs.length+M.length:=by rw [hys];simp [ys];omega
 have hyl:ys.length=M.length+(xs.length - n):=by simp [ys]
 have htot:((xs.take n).map row).length+(ys.map row).length=R.length:=by rw [hys];simp
 have happ:(xs.take n).map row++ys.map row=R.map row:=by rw [hys];exact List.map_append.symm
 have hyk:∀ e ∈ ys.map row,e.length=k:=fun e he=>by
  obtain ⟨x,_,rfl⟩:=List.mem_map.1 he
  exact hk x
 have hypu:(ys.map row).flatten.all AV.pure=true:=by
  have h2:((xs.drop n).map row).flatten.all AV.pure=true:=by
   grind
  grind
 have hyn:(ys.map row).length ≠ 0:=by rw [List.length_map,hyl];omega
 have hc63:c≤9223372036854775807:=by unfold maxLen at hcm;omega
 have hRm:R.length≤maxLen:=by unfold vQ at hlim;unfold maxLen;omega
 -- the tail's cells
 obtain ⟨olds,holds,hoc⟩:=row_olds r hVs' hblk
 have hol:olds.length=xs.length * k:=by rw [← holds.length,hfl]
 have hkn:n * k+(xs.length - n) * k=xs.length * k:=by rw [← Nat.add_mul];congr 1;omega
 have hhead:VA g ((xs.take n).map row).flatten (olds.take (n * k)):=by rw [← flat_take hk];exact holds.take _
 have htail:VA g ((xs.drop n).map row).flatten (olds.drop (n * k)):=by rw [← flat_drop hk];exact holds.drop _
 have hyva:VA g (ys.map row).flatten (mvs++olds.drop (n * k)):=by simp only [ys,List.map_append,List.flatten_append];exact hmva.append htail
 have hyva1:=hyva.mono hg1
 have hh2:=hhead.mono hg1
 have hnil:ad=none→c=0:=fun e=>by
  subst e
  simp only [V] at hVs
  obtain ⟨a2,c2,he,_,_,t2,ht2,_,_,hcap⟩:=hVs
  simp only [Value.slice.injEq] at he
  grind
 have fin:∀ {v:Value} {w':World} {g':Gh},g1.le g'→Rel B0 w0 g' { (h.ext (B.set i .dead++[.row (h.toks.length+t') k ((xs.take n).map row)]) (T.set q (xs.length+1)++[n])).put (h.blks.length+b') (.row (h.toks.length+t') k ((xs.take n).map row++ys.map row)) with
   toks:=(h.ext (B.set i .dead++[.row (h.toks.length+t') k ((xs.take n).map row)]) (T.set q (xs.length+1)++[n])).toks.set (h.toks.length+t') (((xs.take n).map row).length+(ys.map row).length) } w' →
   V g' (.rsl (h.blks.length+b') (h.toks.length+t') k (((xs.take n).map row).length+(ys.map row).length)) v →
   ∃ v0 rr hh g'',Ending.returned v=.returned v0∧(rr=.rsl (h.blks.length+b') (h.toks.length+t') k R.length∧hh=h.ext B' T')∧g.le g''∧Rel B0 w0 g'' hh w'∧V g'' rr v0:=fun {v w' g'} hg' hr' hv'=>by
  rw [happ,htot,hput 0] at hr'
  rw [htot] at hv'
  exact ⟨v,_,_,g',rfl,⟨rfl,rfl⟩,hg1.trans hg',hr',hv'⟩
 obtain ⟨i9,z9,hi9,hz9,hs9,hzc9,hb9⟩:=L.i9
 by_cases hend:n=xs.length
 ·-- at the end
  have hdn:xs.drop n=[]:=by rw [hend];exact List.drop_length
  have hodn:olds.drop (n * k)=[]:=by rw [List.drop_of_length_le];rw [hol,hend];exact Nat.le_refl _
  have hotn:olds.take (n * k)=olds:=List.take_of_length_le (by rw [hol,hend];exact Nat.le_refl _)
  have hnews:∀ W:World,(∀ a v,w.cell? a=some v→W.cell? a=some v)→News P i9.size M.length (.slice (some ⟨vb,vo,none⟩) M.length vc) mvs W:=fun W hW=>News.slice (by rw [hmvl,hs9]) fun j v hj=>by rw [xz];exact hW _ _ (hmcell j v hj)
  by_cases hroom:xs.length+M.length≤c
  ·obtain ⟨b,o,cur,ty,rfl,hcur,hfit,hfree,g',hg',hr',hv'⟩:=row_grow_in r1 hh1' hyk hyva1 hypu hb1 hyn (by rw [htot,hRl];exact hroom)
   rw [hodn,List.append_nil] at hr'
   have hrun:=qs (P:=P) (t:=ρ.t 24) (u:=τ) (ty:=0) L.t24 L.t23 (.inr ⟨_,rfl⟩) hi9 (hnews w fun _ _ h=>h) hmva.one' hcur (n:=xs.length) hroom (o:=o) (by rw [hs9,hmvl];have:=Nat.mul_le_mul_right k hroom;rw [Nat.add_mul] at this;omega)
   have hrun':∀ ty,(Builtin.append_ #[ρ.t 24,τ] ty #[.slice (some ⟨b,o,none⟩) xs.length c,.slice (some ⟨vb,vo,none⟩) M.length vc]).run P w=_:=fun ty=>qs (P:=P) (t:=ρ.t 24) (u:=τ) (ty:=ty) L.t24 L.t23 (.inr ⟨_,rfl⟩) hi9 (hnews w fun _ _ h=>h) hmva.one' hcur (n:=xs.length) hroom (o:=o) (by rw [hs9,hmvl];have:=Nat.mul_le_mul_right k hroom;rw [Nat.add_mul] at this;omega)
   have:=ins_end L (xa:=some ⟨vb,vo,none⟩) (vc:=vc) hM0 hnc hc63 hnil hrun'
   rw [hend]
   refine this.mono fun e w' ⟨h1,h2⟩=>?_
   subst h1 h2
   rw [hs9,← hend]
   rw [List.length_map,htk] at hr'
   have hv2:((xs.take n).map row).length+(ys.map row).length=xs.length+M.length:=by rw [htot,hRl]
   refine fin hg' ?_ (by rw [hv2] at hv' ⊢;rw [hend];exact hv')
   rw [List.length_map,htk]
   omega
  ·have hroom':c < xs.length+M.length:=by omega
   have hold:(Builtin.firstCells i9.size xs.length (.slice ad xs.length c)).run P w.drew=.ok olds.toArray w.drew:=by
    cases ad with
    | none =>
     have h0:=hnil rfl
     have hx0:xs.length=0:=by omega
     have:olds=[]:=List.eq_nil_of_length_eq_zero (by rw [hol,hx0];simp)
     subst this
     rw [hx0];exact run_firstCells_none w.drew i9.size 0 0 c
    | some a=>exact run_firstCells_some w.drew i9.size xs.length a xs.length c olds (by rw [hs9];exact hol) fun j v hj=>by rw [World.cell?_drew];exact hoc a rfl j v hj
   have hlim':(xs.length+M.length) * i9.bytes≤140737488355328:=by have:=Nat.mul_le_mul hlim hb9;unfold vQ at this;omega
   have hrun':∀ ty,(Builtin.append_ #[ρ.t 24,τ] ty #[.slice ad xs.length c,.slice (some ⟨vb,vo,none⟩) M.length vc]).run P w=_:=fun ty=>vT (P:=P) (t:=ρ.t 24) (u:=τ) (ty:=ty) L.t24 L.t23 (.inr ⟨_,rfl⟩) hi9 hz9 (hnews w fun _ _ h=>h) (hnews w.drew fun _ _ h=>h) hold hroom' (by unfold vQ at hlim;simp only [maxLen];omega) (growslice_fits hroom' hlim')
   have:=ins_end L (xa:=some ⟨vb,vo,none⟩) (vc:=vc) hM0 hnc hc63 hnil hrun'
   rw [hend]
   refine this.mono fun e w' ⟨h1,h2⟩=>?_
   subst h1 h2
   have hge:=grownCap_ge w (xs.length+M.length) c (ρ.t 9)
   have hgm:grownCap w (xs.length+M.length) c (ρ.t 9)≤maxLen:=grownCap_le_maxLen w _ c _ (by unfold vQ at hlim;simp only [maxLen];omega)
   have htot2:((xs.take n).map row).length+(ys.map row).length=xs.length+M.length:=by rw [htot,hRl]
   obtain ⟨g',hg',hr',hv'⟩:=row_grow_out (C:=grownCap w (xs.length+M.length) c (ρ.t 9)) (rest:=(Builtin.zeroCells z9.cells (grownCap w (xs.length+M.length) c (ρ.t 9) - (xs.length+M.length))).toList) (e:=ρ.t 9) r1 hh1' hyk hyva1 hypu hb1 hyn hh2 (by rw [htot2];exact hge) hgm (by rw [Array.length_toList,size_zeroCells,hzc9,htot2])
   rw [hodn,hotn,List.append_nil] at hr'
   have ew:w.drew.alloc (.cells (olds.toArray++mvs.toArray++Builtin.zeroCells z9.cells (grownCap w (xs.length+M.length) c (ρ.t 9) - (xs.length+M.length))) (ρ.t 9))=w.drew.alloc (.cells (olds++mvs++(Builtin.zeroCells z9.cells (grownCap w (xs.length+M.length) c (ρ.t 9) - (xs.length+M.length))).toList).toArray (ρ.t 9)):=by
    congr 2;apply Array.ext';simp
   rw [ew]
   exact fin hg' hr' (by rw [htot2] at hv' ⊢;exact hv')
 ·-- ahead of something
  have hlt:n < xs.length:=by omega
  have hne:xs.map row ≠ []:=by intro e;rw [List.map_eq_nil_iff] at e;subst e;simp at hlt
  obtain ⟨b,o,e2,cur,ty,k1,k2,k3,k4,k5⟩:=hrow.resolve_left hne
  rw [List.length_map] at k1 k3 k4
  obtain ⟨rfl,lo⟩:ad=some ⟨b,o,none⟩∧o+c * k≤cur.size:=by
   simp only [V] at hVs
   obtain ⟨a2,c2,he,_,_,t2,ht2,_,_,hcap⟩:=hVs
   simp only [Value.slice.injEq] at he
   obtain ⟨rfl,_,rfl⟩:=he
   obtain rfl:ti=t2:=by rw [hti] at ht2;injection ht2
   rcases hcap with ⟨h0,_⟩ | ⟨b2,o2,rfl,hl2⟩
   ·omega
   ·rw [List.length_map] at htn
    have hl2:=hl2 htn.symm
    have hl3:=hl2
    rw [k1] at hl2
    injection hl2 with hl2;injection hl2 with e1 hl2;injection hl2 with e2 _
    obtain rfl:o=o2:=by omega
    subst e1
    refine ⟨rfl,?_⟩
    obtain ⟨cur',ty',hcur',hce⟩:=((r.tok _ _ hti).2 _ _ _ hl3).cells
    rw [k2] at hcur';injection hcur' with hcur';injection hcur' with hcur' _ _;subst hcur'
    omega
  have hoe:olds=(cur.toList.drop o).take (xs.length * k):=by
   apply List.ext_getElem?
   intro j
   by_cases hj:j < xs.length * k
   ·have h1:=hoc _ rfl j _ (List.getElem?_eq_getElem (by omega))
    rw [xz,cell_of_row w b (o+j) cur ty (0,0) k2] at h1
    rw [List.getElem?_eq_getElem (by omega),List.getElem?_take,if_pos hj,List.getElem?_drop,Array.getElem?_toList,h1]
   ·rw [List.getElem?_eq_none (by omega),List.getElem?_eq_none (by simp;omega)]
  have hmpos:0 < M.length * k:=Nat.mul_pos hM0 k0
  obtain ⟨curv,tyv,frv,hcv,_⟩:=cells_at (hmcell 0 _ (List.getElem?_eq_getElem (by omega)))
  have hsep:vb=b→vo+M.length * k≤o:=fun e=>by
   subst e
   rcases Nat.lt_or_ge (vo+(M.length * k - 1)) o with h1 | h1
   ·omega
   ·have h2:=hmφ (M.length * k - 1) _ (List.getElem?_eq_getElem (by omega))
    rw [k5 _ h1] at h2;cases h2
  have hod1:olds.drop (n * k)=(cur.toList.drop (o+n * k)).take ((xs.length - n) * k):=by
   rw [hoe,List.drop_take,List.drop_drop];congr 1;omega
  by_cases hroom:xs.length+M.length≤c
  ·obtain ⟨b3,o3,cur3,ty3,hE,hcur3,hfit,hfree,g',hg',hr',hv'⟩:=row_grow_in (r1.drew) hh1' hyk hyva1 hypu hb1 hyn (by rw [htot,hRl];exact hroom)
   injection hE with hE;injection hE with hE1 hE2 _
   subst hE1 hE2
   have hcd:w.drew.heap[b]?=some (.cells cur ty (0,0)):=k2
   rw [hcd] at hcur3;injection hcur3 with hcur3;injection hcur3 with hcur3 _ _;subst hcur3
   have:=ins_shift L (vc:=vc) (vs:=mvs) hlt hM0 hroom hc63 k2 lo hod1 (fun v hv=>(htail.one') v hv) hcv hmcell hmvl hmva.one' hsep
   refine this.mono fun e w' ⟨h1,h2⟩=>?_
   subst h1 h2
   have htot2:((xs.take n).map row).length+(ys.map row).length=xs.length+M.length:=by rw [htot,hRl]
   have hnn:((xs.take n).map row).length=n:=by rw [List.length_map,htk]
   refine fin hg' ?_ (by rw [htot2] at hv' ⊢;exact hv')
   rw [hnn] at hr' ⊢
   omega
  ·have hroom':c < xs.length+M.length:=by omega
   have:=ins_grow L (vc:=vc) (os:=olds.take (n * k)) (cs:=olds.drop (n * k)) (vs:=mvs) (b:=b) (o:=o) (vb:=vb) (vo:=vo) (z9:=z9) (i9:=i9) hlt hM0 hnc hroom' hlim hi9 hz9 (by rw [List.length_take];omega)
    (fun j v hj=>by
     rw [List.getElem?_take] at hj
     split at hj
     ·have:=hoc _ rfl j v hj;rwa [xz] at this
     ·cases hj) (by rw [List.length_drop,hol];omega) (fun j v hj=>by
     rw [List.getElem?_drop] at hj
     have:=hoc _ rfl _ v hj;rwa [xz,← Nat.add_assoc] at this) (fun v hv=>(htail.one') v hv) hmcell hmvl hmva.one'
   refine this.mono fun e w' ⟨h1,h2⟩=>?_
   subst h1 h2
   have hge:=grownCap_ge w (xs.length+M.length) c (ρ.t 9)
   have hgm:grownCap w (xs.length+M.length) c (ρ.t 9)≤maxLen:=grownCap_le_maxLen w _ c _ (by unfold vQ at hlim;simp only [maxLen];omega)
   have htot2:((xs.take n).map row).length+(ys.map row).length=xs.length+M.length:=by rw [htot,hRl]
   obtain ⟨g',hg',hr',hv'⟩:=row_grow_out (C:=grownCap w (xs.length+M.length) c (ρ.t 9)) (rest:=(Builtin.zeroCells z9.cells (grownCap w (xs.length+M.length) c (ρ.t 9) - (xs.length+M.length))).toList) (e:=ρ.t 9) (r1.drew) hh1' hyk hyva1 hypu hb1 hyn hh2 (by rw [htot2];exact hge) hgm (by rw [Array.length_toList,size_zeroCells,hzc9,htot2])
   exact fin hg' hr' (by rw [htot2] at hv' ⊢;exact hv')
end
end Go.Vv
