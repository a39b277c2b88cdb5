/- Texts are sorted: slices.Sort, by the shelf's contract. -/
import Derived.Test.YtdgbnljehpacjaaGreatVvSo
import Derived.Shelf.SortG.Plain
import Derived.Shelf.SortG.SortNone
import Derived.Shelf.Spec.SlicesInsertGrow
import Derived.Test.YtdgbnljehpacjaaGreatVvRb
set_option linter.all false
namespace Go.Vv
open Go Go.RowKit Go.Lib Go.Sort Go.Shelf Go.Proofs

def sortS (L:List zu):Option (List zu):=if L.length<=lim then some (L.mergeSort λx y=>decide (x<=y)) else none
theorem sortS_perm {L R:List zu} (h:sortS L=some R):R.Perm L:=by
 unfold sortS at h;split at h
 ·injection h with h;subst h;exact pi _ _
 ·cases h
theorem sortS_len {L R:List zu} (h:sortS L=some R):R.length=L.length:=(sortS_perm h).length_eq
theorem VA.strs {g:Gh}:∀(L:List zu) (vs:List Value),VA g (L.map zN).flatten vs->vs=L.map encStr/\∀s ∈ L,s.length<=maxLen
 | [],vs,h=>by simp only [tr,rS,VA] at h;subst h;simp
 | s::r,vs,h=>by
  simp only [uz,te,rQ,VA,V] at h;obtain ⟨v,t,rfl,⟨_,rfl,c⟩,b⟩:=h;obtain ⟨e,d⟩:=VA.strs r t b;refine ⟨by rw [e];rfl,λx a=>?_⟩;rcases uQ.1 a with rfl | a
  ·exact c
  ·exact d x a
theorem VA.ofStrs {g:Gh}:∀(L:List zu),(∀s ∈ L,s.length<=maxLen)->VA g (L.map zN).flatten (L.map encStr)
 | [],_=>by simp [VA]
 | s::r,h=>by
  simp only [uz,te,rQ,VA,V];exact ⟨_,_,rfl,⟨rfl,rfl,h s (by simp)⟩,VA.ofStrs r λx a=>h x (by simp [a])⟩
theorem strs_pure (L:List zu):(L.map zN).flatten.all AV.pure=true:=by
 rw [uq];intro a b;obtain ⟨l,c,b⟩:=pF.1 b;obtain ⟨x,_,rfl⟩:=tZ.1 c;rw [ux.1 b];rfl
theorem spec_sortS {P:Program} {ρ:Ren} (L:Go.Proofs.SlLaysN.n54 P ρ) {Lx R:List zu} (u:sortS Lx=some R)
  {q:Nat} {h:AH} {B0 B':List Blk} {T:List Nat} {i:Nat} (A:B0[i]?=some (.row q 1 (Lx.map zN))) (Z:B0.set i (.row q 1 (R.map zN))=B') :
  Spec P (ρ.f 54) [.rsl (h.blks.length+i) q 1 Lx.length] (h.ext B0 T) (λrr hh=>rr=.tup []/\hh=h.ext B' T):=by
 have W:(h.ext B0 T).blk (h.blks.length+i)=some (.row q 1 (Lx.map zN)):=by rw [yb];exact A
 have v:Lx.length<=lim/\R=Lx.mergeSort λx y=>decide (x<=y):=by
  unfold sortS at u;split at u
  ·rename_i hl;injection u with u;exact ⟨hl,u.symm⟩
  ·cases u
 have z:=sortS_perm u;have n:=sortS_len u;refine ⟨λvs w=>L.f54.enters rfl vs w,λB w0 _ g w vs r hv=>?_⟩;obtain ⟨us,rfl⟩:∃us:List Value,vs=us.toArray:=⟨vs.toList,by simp⟩
 simp only [VL,V] at hv;obtain ⟨v1,s1,N,⟨a,c,rfl,X,hm,t2,H,_,_,G⟩,rfl⟩:=hv;subst N;by_cases hLx:Lx=[]
 ·subst hLx;have hR:R=[]:=uF (by simpa using n);subst hR;refine (Go.Proofs.AnyG.slices_Sort_string_none L a c w).mono ?_
  rintro e w' ⟨rfl,rfl⟩
  have S:B0=B':=by
   rw [<- Z];refine tc λj=>?_;by_cases p:j=i
   ·subst p;rw [uE (uc.1 A).1];exact A
   ·rw [u7 (λe=>p e.symm)]
  exact ⟨_,_,_,g,rfl,⟨rfl,by rw [S]⟩,Gh.le.refl g,r,by simp only [V];exact ⟨#[],rfl,by simp [VL]⟩⟩
 ·obtain ⟨_,ti,M,htr,E,Y,hpe,I⟩:=r.rowAt W;obtain rfl:ti=t2:=by rw [M] at H;injection H
  simp only [ul] at E;obtain ⟨b',o',rfl,D⟩:=G.resolve_left (λhh=>hLx (uF hh.1));have d:=D E.symm;obtain ⟨b,o,e,cells,ty,U,k2,k3,k4,k5⟩:=I.resolve_left (by simpa using hLx);simp only [ul] at U k3 k4;rw [U] at d;injection d with d;injection d with N d;injection d with e2 _;obtain rfl:o=o':=by omega
  subst N;have Q:b < w.heap.size:=(uO.1 k2).1;obtain ⟨k6,k7⟩:=VA.strs Lx _ k3;have hH:Holds encStr w b o Lx.toArray:=λj p=>by
   have K:j < Lx.length:=by simpa using p
   refine ⟨?_,frozen_of_row w b (o+j) cells ty k2⟩;rw [cell_of_row w b (o+j) cells ty (0,0) k2];have h1:=congrArg (λl=>l[j]?) k6;simp only [uw,uG,uK,sQ,ue K,uY,Nat.mul_one,K,ur] at h1;rw [h1,getElem!_pos _ j p];simp
  have k:=Go.Proofs.AnyG.slices_Sort_string L b o c Lx w hH Q (by have:=v.1;unfold lim at this;omega);rw [<- v.2] at k;refine Calls.mono k ?_
  rintro e w' ⟨rfl,m,os,rfl⟩
  let new:=putCells encStr o R.toArray cells
  have hw:grow (putRow encStr (Go.Sort.ahead w m) b o R.toArray) os=grow ((Go.Sort.ahead w m).setRow b new) os:=by
   unfold putRow;rw [mapBlock_setRow (w:=Go.Sort.ahead w m) (b:=b) _ k2]
  have J:new.size=cells.size:=by simp [new,putCells]
  have t:∀j,new[j]?=(cells[j]?).map λx=>if o<=j/\j < o+Lx.length then encStr (R.toArray[j - o]!) else x:=λj=>by
   simp only [new,putCells,Array.getElem?_mapIdx,rh,n]
  have C:(new.toList.drop o).take (Lx.length * 1)=R.map encStr:=by
   apply tc;intro j;rw [uw];split
   ·rename_i p;have F:j < R.length:=by omega
    rw [uG,uK,t,uN (by omega),uY,uv ⟨by omega,by omega⟩,uy,sQ,ue F,getElem!_pos _ j (by simpa using F)];simp
   ·rename_i p;rw [tJ];simp [n];omega
  have r2:=(r.ahead m).storeRow (es':=R.map zN) (new:=new) (o:=o) W M (by simpa using U) k2 J (λj p=>by
    have O:¬ (o<=j/\j < o+Lx.length):=by omega
    rw [t];simp only [uC O];cases cells[j]? <;> rfl) (by simp [n]) (λe he=>by obtain ⟨x,_,rfl⟩:=tZ.1 he;rfl) (strs_pure R)
   (by rw [ul,C];exact VA.ofStrs R λs hs=>k7 s (z.subset hs)) (by simpa using hLx)
  have r3:=r2.beyond (below_grow _ os);rw [hw];refine ⟨_,_,_,g,rfl,⟨rfl,?_⟩,Gh.le.refl g,r3,by simp only [V];exact ⟨#[],rfl,by simp [VL]⟩⟩;rw [ext_put,Z]
end Go.Vv
namespace Go.Vv
open Go Go.RowKit Go.Lib Go.Shelf Go.Proofs
variable {b j:Nat} {v:Value}

def rtV:Operand->TypeId->TypeId->TypeId
 | .tmp n,τ,t=>bif [13,24,44,61,66,81,87,91].any (· == n) then τ else t
 | _,_,t=>t
def rtA (τ:TypeId):List Operand->List TypeId->List TypeId
 | x::r,t::s=>rtV x τ t::rtA τ r s
 | _,s=>s
def rtOper (τ:TypeId):Oper->Oper
 | ⟨d,.move (.tmp 2),_,p,a,g⟩=>⟨d,.move (.tmp 2),τ,p,a,g⟩
 | ⟨d,.call ⟨f,x,y⟩,t,p,a,g⟩=>⟨d,.call ⟨f,x,(rtA τ x.toList y.toList).toArray⟩,t,p,a,g⟩
 | o=>o
def rtCode (τ:TypeId):Code->Code
 | .region id ops d=>.region id (ops.toList.map (rtOper τ)).toArray d
 | .seq a b=>.seq (rtCode τ a) (rtCode τ b)
 | .cond c a b=>.cond c (rtCode τ a) (rtCode τ b)
 | .block id b=>.block id (rtCode τ b)
 | .loop b=>.loop (rtCode τ b)
 | c=>c
noncomputable def insF (ρ:Ren) (τ:TypeId) (nm:String) (ta:Array TypeId):Func :=
 { Body2.n22 ρ with name:=nm,targs:=ta,params:=#[ρ.t 24,ρ.t 3,τ],body:=(Body2.n22 ρ).body.map (rtCode τ) }
theorem insF_ntmps (ρ:Ren) (τ:TypeId) (c:String) (a:Array TypeId):(insF ρ τ c a).ntmps=95:=Body2.n22_ntmps ρ

structure InsLays (P:Program) (ρ:Ren) (τ:TypeId) (k:Nat):Prop where
 mixed:P.follows .mixedOrders=true
 f22 : ∃ nm ta, P.funcs[ρ.f 22]? = some (insF ρ τ nm ta) ∧ (nm == "runtime.NumGoroutine") = false
 f29:∀(args:Array Value) (w:World),(callFunc (ρ.f 29) args).run P w=((Extern.SlicesOverlaps.overlaps #[τ,τ] #[ρ.t 4] args).run P w).andThen λv w'=>.ok (.value v) w'
 t0:P.underlying (ρ.t 0)=some (TypeDesc.tuple #[])
 a0:∀w,(isAgg (ρ.t 0)).run P w=.ok false w
 z0:∀w,(Go.sizeOf (ρ.t 0)).run P w=.ok 1 w
 v0:∀w,(zeroValue (ρ.t 0)).run P w=.ok (Value.tuple #[]) w
 t3:P.underlying (ρ.t 3)=some (TypeDesc.int IntKind.i64)
 a3:∀w,(isAgg (ρ.t 3)).run P w=.ok false w
 z3:∀w,(Go.sizeOf (ρ.t 3)).run P w=.ok 1 w
 v3:∀w,(zeroValue (ρ.t 3)).run P w=.ok (Value.int IntKind.i64 0) w
 t4:P.underlying (ρ.t 4)=some (TypeDesc.bool)
 a4:∀w,(isAgg (ρ.t 4)).run P w=.ok false w
 z4:∀w,(Go.sizeOf (ρ.t 4)).run P w=.ok 1 w
 v4:∀w,(zeroValue (ρ.t 4)).run P w=.ok (Value.bool false) w
 t24:P.underlying (ρ.t 24)=some (TypeDesc.slice (ρ.t 9))
 a24:∀w,(isAgg (ρ.t 24)).run P w=.ok false w
 z24:∀w,(Go.sizeOf (ρ.t 24)).run P w=.ok 1 w
 v24:∀w,(zeroValue (ρ.t 24)).run P w=.ok (Value.slice none 0 0) w
 t23:P.underlying τ=some (TypeDesc.slice (ρ.t 9))
 a23:∀w,(isAgg τ).run P w=.ok false w
 z23:∀w,(Go.sizeOf τ).run P w=.ok 1 w
 v23:∀w,(zeroValue τ).run P w=.ok (Value.slice none 0 0) w
 i9:∃i z,P.info? (ρ.t 9)=some i/\i.zero=some z/\i.size=k/\z.cells.size=k/\i.bytes<=65536
 k0:0 < k

section
variable {P:Program} {ρ:Ren} {τ:TypeId} {k:Nat}
theorem run_copyK {w:World} {dT sT ty c:TypeId} {i:TypeInfo} {o dLen dCap sLen sCap n:Nat} {a:Addr} {cs:List Value} {cur:Array Value} {l:TypeId}
  (r:P.underlying dT=some (.slice c)) (hi:P.info? c=some i) (s:n=Nat.min sLen dLen) (f:cs.length=n * i.size)
  (e:∀j v,cs[j]?=some v->w.cell? (a.add j)=some v) (t:w.heap[b]?=some (.cells cur l (0,0))) (m:o+cs.length<=cur.size) (p:∀v ∈ cs,v.oneCell'=true) :
  (Builtin.copy_ #[dT,sT] ty #[.slice (some ⟨b,o,none⟩) dLen dCap,.slice (some a) sLen sCap]).run P w=.ok (goInt n) (w.setRow b (cur.toList.take o++cs++cur.toList.drop (o+cs.length)).toArray):=by
 have q:=run_loadCells_list (P:=P) w a cs e;have d:=run_storeCells_at P b o l cs 0 cur w t (by omega) p;simp only [tS] at d;simp [Builtin.copy_,run_underlying r,Builtin.lenOf,Builtin.firstCells,sizeOf,typeInfo,hi,<- s,<- f,q,d]

set_option maxHeartbeats 4000000 in
set_option maxRecDepth 100000 in
theorem ins_end (L:InsLays P ρ τ k) {d:Option Addr} {n c m:Nat} {xa:Option Addr} {vc:Nat} {w r:World} {u:Value} (R:0 < m) (F:n<=c) (s:c<=9223372036854775807) (l:d=none->c=0)
  (i:∀ty,(Builtin.append_ #[ρ.t 24,τ] ty #[.slice d n c,.slice xa m vc]).run P w=.ok u r) :
  Calls P (ρ.f 22) #[.slice d n c,.int .i64 n,.slice xa m vc] w λe w'=>e=.returned u/\w'=r:=by
 have t0:=L.t0;have a0:=L.a0;have z0:=L.z0;have v0:=L.v0;have t3:=L.t3;have a3:=L.a3;have z3:=L.z3;have v3:=L.v3;have t4:=L.t4;have a4:=L.a4;have z4:=L.z4;have v4:=L.v4;have t24:=L.t24;have a24:=L.a24;have z24:=L.z24;have v24:=L.v24;have t23:=L.t23;have a23:=L.a23;have z23:=L.z23;have v23:=L.v23;have G:=run_underlying L.t23;have N:=run_underlying L.t0;have Q:=run_underlying L.t3;have O:=run_underlying L.t4;have K:=run_underlying L.t24;have mixed:=L.mixed;obtain ⟨i9,z9,q,I,o,x,A⟩:=L.i9;have z:∀w,(Go.sizeOf (ρ.t 9)).run P w=.ok k w:=λw=>by rw [<- o];exact xB q
 have C:¬ ((m:Int)=0):=by omega
 obtain ⟨y,D,E,J⟩:=L.f22
 go_enter E,insF_ntmps ρ τ y D
 simp only [rtCode,rtOper,rtA,rtV,uz,tr,rU,pY,Nat.reduceBEq,pV,pM,tj,pZ,cond_true,cond_false];cases d with
 | none =>
  have h0:=l rfl;subst h0;have p:n=0:=by omega
  subst p
  go_wp2_with (at_builtin;refine Lib.wpList_append_run _ rfl _ _ _ _ rfl _ _ rfl rfl _ _ (i _) ?_)
  all_goals (go_ret;exact ⟨rfl,rfl⟩)
 | some a =>
  obtain ⟨ab,M,H⟩:=a
  go_wp2_with (at_builtin;refine Lib.wpList_append_run _ rfl _ _ _ _ rfl _ _ rfl rfl _ _ (i _) ?_)
  all_goals (go_ret;exact ⟨rfl,rfl⟩)

theorem ins_ov (L:InsLays P ρ τ k) {w:World} {b vb o vo m vc lb cb:Nat} {cur curv:Array Value} {ty tyv:TypeId} {frv:Nat×Nat} (hc:w.heap[b]?=some (.cells cur ty (0,0))) (hcv:w.heap[vb]?=some (.cells curv tyv frv)) (h0:0 < cur.size) (h0v:0 < curv.size)
  (hsep:vb=b->vo+m * k<=o) :
  (callFunc (ρ.f 29) #[.slice (some ⟨vb,vo,none⟩) m vc,.slice (some ⟨b,o,none⟩) lb cb]).run P w=.ok (.value (.bool false)) w:=by
 rw [L.f29];have hfz:∀j,w.frozen? ⟨b,j,none⟩=false:=λj=>by simp [World.frozen?,hc]
 have hsh:w.shape? b=some (ty,cur.size):=by simp [World.shape?,hc]
 obtain ⟨kv,hkv⟩:∃x,curv.size=x+1:=⟨curv.size - 1,by omega⟩
 have hshv:w.shape? vb=some (tyv,kv+1):=by simp [World.shape?,hcv,hkv]
 have hz0:¬ cur.size=0:=by omega
 have u24:=run_underlying L.t23;obtain ⟨i9,z9,hi9,hz9,hs9,hzc9,hb9⟩:=L.i9;have zz9:∀w,(Go.sizeOf (ρ.t 9)).run P w=.ok k w:=λw=>by rw [<- hs9];exact xB hi9
 have:(Extern.SlicesOverlaps.overlaps #[τ,τ] #[ρ.t 4] #[.slice (some ⟨vb,vo,none⟩) m vc,.slice (some ⟨b,o,none⟩) lb cb]).run P w=.ok (.bool false) w:=by
  change Sem.run P (α:=Value) (do
   let some t := some τ | stuck "none"
   let .slice elem <- underlying t | stuck _
   let size <- sizeOf elem
   match (some (⟨vb,vo,none⟩:Addr):Option Addr),(some (⟨b,o,none⟩:Addr):Option Addr) with
   | some a,some b =>
    if m=0 \/ lb=0 \/ size=0 then pure (Value.bool false)
    else if a.block != b.block&&(<- frozen a)&&(<- frozen b) then unsupported .addressObserved
    else do
     if a.block != b.block then do
      noView a;noView b
      if <- mayBeOne a b then return Value.bool ((<- choose _)==1)
     pure (Value.bool (a.block==b.block&&a.off < b.off+lb * size&&b.off < a.off+m * size))
   | _,_=>pure (Value.bool false)) w=_
  by_cases h1:m=0 \/ lb=0 \/ k=0
  ·simp [u24,zz9,h1]
  ·by_cases hb:vb=b
   ·simp_all
   ·have hnb:(vb != b)=true:=by simpa using hb
    simp [u24,zz9,h1,hb,frozen,noView,viewAt,mayBeOne,stringish,shape,Sem.run,hsh,hshv,hfz,hz0]
 simp_all
set_option maxHeartbeats 4000000 in
set_option maxRecDepth 100000 in
theorem ins_shift (L:InsLays P ρ τ k) {b o n c i vb vo m vc:Nat} {cs vs:List Value} {cur p:Array Value} {ty A:TypeId} {z:Nat×Nat} {w:World} (hi:i < n) (hm:0 < m) (F:n+m<=c) (X:c<=9223372036854775807)
  (T:w.heap[b]?=some (.cells cur ty (0,0))) (hfit:o+c * k<=cur.size) (H:cs=(cur.toList.drop (o+i * k)).take ((n - i) * k)) (V:∀v ∈ cs,v.oneCell'=true)
  (s:w.heap[vb]?=some (.cells p A z)) (Q:∀j v,vs[j]?=some v->w.cell? ⟨vb,vo+j,none⟩=some v) (K:vs.length=m * k) (W:∀v ∈ vs,v.oneCell'=true) (D:vb=b->vo+m * k<=o) :
  Calls P (ρ.f 22) #[.slice (some ⟨b,o,none⟩) n c,.int .i64 i,.slice (some ⟨vb,vo,none⟩) m vc] w λe w'=>e=.returned (.slice (some ⟨b,o,none⟩) (n+m) c) /\
   w'=w.drew.setRow b (cur.toList.take (o+i * k)++(vs++cs)++cur.toList.drop (o+i * k+(vs++cs).length)).toArray:=by
 have t0:=L.t0;have a0:=L.a0;have z0:=L.z0;have v0:=L.v0;have t3:=L.t3;have a3:=L.a3;have z3:=L.z3;have v3:=L.v3;have t4:=L.t4;have a4:=L.a4;have z4:=L.z4;have v4:=L.v4;have t24:=L.t24;have a24:=L.a24;have z24:=L.z24;have v24:=L.v24;have t23:=L.t23;have a23:=L.a23;have z23:=L.z23;have v23:=L.v23;have u23:=run_underlying L.t23;have u0:=run_underlying L.t0;have u3:=run_underlying L.t3;have u4:=run_underlying L.t4;have u24:=run_underlying L.t24;have mixed:=L.mixed;have k0:=L.k0;obtain ⟨i9,z9,I,hz9,M,Y,hb9⟩:=L.i9;have zz9:∀w,(Go.sizeOf (ρ.t 9)).run P w=.ok k w:=λw=>by rw [<- M];exact xB I
 have hnk:(n+m) * k<=c * k:=tg k F;have hink:(i+m) * k+(n - i) * k=(n+m) * k:=by rw [<- tu];congr 1;omega
 have hik:i * k+(n - i) * k=n * k:=by rw [<- tu];congr 1;omega
 have himk:i * k+m * k=(i+m) * k:=by rw [<- tu]
 have S:cs.length=(n - i) * k:=by rw [H,th,sZ,sG];omega
 have G:0 < cur.size:=by
  have:1 * 1<=c * k:=sL (by omega) k0;omega
 have hz1:¬ ((m:Int)=0):=by omega
 have hz2:¬ ((i:Int)=(n:Int)):=by omega
 have E:0 < p.size:=by
  have h1:0 < vs.length:=by rw [K];exact rV hm k0
  have h2:=Q 0 _ (ue h1);rw [cell_of_row w vb _ p A z s] at h2;have:=(uO.1 h2).1;omega
 have U:∀lb cb,(callFunc (ρ.f 29) #[.slice (some ⟨vb,vo,none⟩) m vc,.slice (some ⟨b,o+(i+m) * k,none⟩) lb cb]).run P w=.ok (.value (.bool false)) w:=λlb cb=>ins_ov L T s G E λh=>by have:=D h;omega
 have hw1:IntKind.i64.wrap ((i:Int)+(m:Int))=(i:Int)+(m:Int):=by rw [IntKind.wrap_i64];omega
 have hb1:(0:Int)<=(i:Int)+(m:Int):=by omega
 have hin:i<=n:=by omega
 have htn:((i:Int)+(m:Int)).toNat=i+m:=by omega
 have hb2:¬ (c=i+m):=by omega
 have hb3:(i:Int)<=(n:Int)+(m:Int):=by omega
 have hb4:¬ (c=i):=by omega
 obtain ⟨d,l⟩:∃x,x=(cur.toList.take (o+(i+m) * k)++cs++cur.toList.drop (o+(i+m) * k+cs.length)).toArray:=⟨_,rfl⟩
 have hs1:d.size=cur.size:=by rw [l];simp;omega
 have y:w.drew.heap[b]?=some (.cells cur ty (0,0)):=T;have R:∀ty J sc,(Builtin.copy_ #[(ρ.t 24),(ρ.t 24)] ty #[.slice (some ⟨b,o+(i+m) * k,none⟩) (n+m - (i+m)) J,.slice (some ⟨b,o+i * k,none⟩) (n+m - i) sc]).run P w.drew=.ok (goInt (n - i:Nat)) (w.drew.setRow b d):=λty J sc=>by
  have:=run_copyK (P:=P) (w:=w.drew) (dT:=ρ.t 24) (sT:=ρ.t 24) (ty:=ty) (i:=i9) (b:=b) (o:=o+(i+m) * k) (dLen:=n+m - (i+m)) (dCap:=J) (sLen:=n+m - i) (sCap:=sc) (n:=n - i) (a:=⟨b,o+i * k,none⟩) (cs:=cs) (cur:=cur)
   L.t24 I (by simp only [Nat.min_def];split <;> omega) (by rw [S,M]) (λj v r=>by
    rw [x6,cell_of_row w.drew b _ cur _ (0,0) y];rw [H,uw] at r;split at r
    ·rwa [uG,uK] at r
    ·cases r) y (by omega) V
  rw [this,l]
 have N:(w.drew.setRow b d).heap[b]?=some (.cells d ty (0,0)):=setRow_heap w.drew b cur d ty (0,0) y;obtain ⟨u,q⟩:∃x,x=(d.toList.take (o+i * k)++vs++d.toList.drop (o+i * k+vs.length)).toArray:=⟨_,rfl⟩
 have C:∀j v,vs[j]?=some v->(w.drew.setRow b d).cell? ⟨vb,vo+j,none⟩=some v:=λj v r=>by
  have h:=Q j v r;by_cases hb:vb=b
  ·have hs:=D hb;subst hb;rw [cell_of_row _ vb _ d ty (0,0) N];rw [cell_of_row w vb _ cur ty (0,0) T] at h;have hjl:=(uc.1 r).1;rw [l,sM,uB,un (by simp;omega),uw,uv (by omega),uK];exact h
  ·obtain ⟨cv,Z⟩:∃cv,w.heap[vb]?=some cv:=⟨_,s⟩
   have e:(w.drew.setRow b d).heap[vb]?=w.heap[vb]?:=setRow_other w.drew b vb d hb;rw [cell_of_row _ vb _ p A z (e.trans s)];rw [cell_of_row w vb _ p A z s] at h;exact h
 have O:∀ty J,(Builtin.copy_ #[(ρ.t 24),τ] ty #[.slice (some ⟨b,o+i * k,none⟩) (n+m - i) J,.slice (some ⟨vb,vo,none⟩) m vc]).run P (w.drew.setRow b d)=.ok (goInt m) ((w.drew.setRow b d).setRow b u):=λty J=>by
  have:=run_copyK (P:=P) (w:=w.drew.setRow b d) (dT:=ρ.t 24) (sT:=τ) (ty:=ty) (i:=i9) (b:=b) (o:=o+i * k) (dLen:=n+m - i) (dCap:=J) (sLen:=m) (sCap:=vc) (n:=m) (a:=⟨vb,vo,none⟩) (cs:=vs) (cur:=d)
   L.t24 I (by simp only [Nat.min_def];split <;> omega) (by rw [K,M]) (λj v r=>by rw [x6];exact C j v r) N (by omega) W
  rw [this,q]
 have hfin:(w.drew.setRow b d).setRow b u=w.drew.setRow b (cur.toList.take (o+i * k)++(vs++cs)++cur.toList.drop (o+i * k+(vs++cs).length)).toArray:=by
  have e:u=(cur.toList.take (o+i * k)++(vs++cs)++cur.toList.drop (o+i * k+(vs++cs).length)).toArray:=by
   rw [q,l];congr 1;simp only [uB];congr 1
   ·rw [u2 (by simp;omega),pQ,ra (by omega)]
   ·congr 1;rw [s5,tp (by simp;omega)];simp only [th,sG,uR];rw [ra (by omega),show o+i * k+vs.length - (o+(i+m) * k)=0 by omega,sf];simp only [uo];rw [show o+i * k+(vs.length+cs.length)=o+(i+m) * k+cs.length by omega]
  rw [<- e];unfold World.setRow;congr 1;apply rF;intro j;simp only [rd];by_cases r:b=j
  ·subst r;simp [y]
  ·simp [r]
 obtain ⟨nm,ta,hf,hnm⟩:=L.f22;clear l q H y N C
 go_enter hf,insF_ntmps ρ τ nm ta
 simp only [rtCode,rtOper,rtA,rtV,uz,tr,rU,pY,Nat.reduceBEq,pV,pM,tj,pZ,cond_true,cond_false]
 go_wp2_with (simp only [U])
 go_region_law_o (refine step_copy_runI rfl _ _ (ρ.t 24) (ρ.t 24) rfl _ _ (by simp [Act.eval,Act.put]) (by simp [Act.eval,Act.put]) (R _ _ _) ?_)
 go_wp2_with (at_builtin;refine wpList_copy_runI _ rfl _ _ (ρ.t 24) τ rfl _ _ rfl rfl (O _ _) ?_)
 go_ret
 exact ⟨rfl,by simp [K,S]⟩

theorem cell_lt {w:World} (h:w.cell? ⟨b,j,none⟩=some v):b < w.heap.size:=World.block_lt_of_cell? w ⟨b,j,none⟩ h
theorem cell_alloc {w:World} {o:Obj} (h:w.cell? ⟨b,j,none⟩=some v):(w.alloc o).cell? ⟨b,j,none⟩=some v:=by
 rw [World.cell?_alloc_lt w o ⟨b,j,none⟩ (cell_lt h)];exact h
set_option maxHeartbeats 4000000 in
set_option maxRecDepth 100000 in
theorem ins_grow (L:InsLays P ρ τ k) {b o n c i vb vo m vc:Nat} {os cs vs:List Value} {z9:Value} {i9:TypeInfo} {w:World} (hi:i < n) (hm:0 < m) (hnc:n<=c) (M:c < n+m) (K:n+m<=lim)
  (s:P.info? (ρ.t 9)=some i9) (hz9:i9.zero=some z9)
  (S:os.length=i * k) (V:∀j v,os[j]?=some v->w.cell? ⟨b,o+j,none⟩=some v) (hcl:cs.length=(n - i) * k) (U:∀j v,cs[j]?=some v->w.cell? ⟨b,o+i * k+j,none⟩=some v) (h1c:∀v ∈ cs,v.oneCell'=true)
  (hvs:∀j v,vs[j]?=some v->w.cell? ⟨vb,vo+j,none⟩=some v) (hvl:vs.length=m * k) (h1v:∀v ∈ vs,v.oneCell'=true) :
  Calls P (ρ.f 22) #[.slice (some ⟨b,o,none⟩) n c,.int .i64 i,.slice (some ⟨vb,vo,none⟩) m vc] w λe w' =>
   e=.returned (.slice (some ⟨w.heap.size,0,none⟩) (n+m) (grownCap w (n+m) c (ρ.t 9))) /\
   w'=w.drew.drew.alloc (.cells (os++(vs++cs)++(Builtin.zeroCells z9.cells (grownCap w (n+m) c (ρ.t 9) - (n+m))).toList).toArray (ρ.t 9)):=by
 have t0:=L.t0;have a0:=L.a0;have z0:=L.z0;have v0:=L.v0;have t3:=L.t3;have a3:=L.a3;have z3:=L.z3;have v3:=L.v3;have t4:=L.t4;have a4:=L.a4;have z4:=L.z4;have v4:=L.v4;have t24:=L.t24;have a24:=L.a24;have z24:=L.z24;have v24:=L.v24;have t23:=L.t23;have a23:=L.a23;have z23:=L.z23;have v23:=L.v23;have u23:=run_underlying L.t23;have u0:=run_underlying L.t0;have u3:=run_underlying L.t3;have u4:=run_underlying L.t4;have u24:=run_underlying L.t24;have mixed:=L.mixed;have k0:=L.k0;have hinf:i9.size=k/\z9.cells.size=k/\i9.bytes<=65536:=by
  obtain ⟨i9',z9',hi9',hz9',h1,h2,h3⟩:=L.i9
  simp_all
 obtain ⟨y,D,hb9⟩:=hinf;have zz9:∀w,(Go.sizeOf (ρ.t 9)).run P w=.ok k w:=λw=>by rw [<- y];exact xB s
 unfold lim at K;have hz1:¬ ((m:Int)=0):=by omega
 have hz2:¬ ((i:Int)=(n:Int)):=by omega
 have hz3:(c:Int) < (n:Int)+(m:Int):=by omega
 have hik:i+(n+m - i)=n+m:=by omega
 have hkk:(n:Int)+(m:Int) - (i:Int)=((n+m - i:Nat):Int):=by omega
 have q:(n+m) * i9.bytes<=140737488355328:=by
  have:=sL K hb9;omega
 have I:(Builtin.firstCells i9.size i (.slice (some ⟨b,o,none⟩) i c)).run P w.drew=.ok os.toArray w.drew:=run_firstCells_some w.drew i9.size i ⟨b,o,none⟩ i c os (by rw [y,S]) (λj v r=>by rw [World.cell?_drew,x6];exact V j v r);have hki:(n+m - i) * i9.bytes<=(n+m) * i9.bytes:=tg _ (by omega);have z:∀ty,(Builtin.append_ #[(ρ.t 24),(ρ.t 3)] ty #[.slice (some ⟨b,o,none⟩) i c,.int .i64 ((n:Int)+(m:Int) - (i:Int))]).run P w =
   .ok (.slice (some ⟨w.heap.size,0,none⟩) (n+m) (grownCap w (n+m) c (ρ.t 9))) (w.drew.alloc (.cells (os.toArray++Builtin.zeroCells z9.cells (n+m - i)++Builtin.zeroCells z9.cells (grownCap w (n+m) c (ρ.t 9) - (n+m))) (ρ.t 9))):=λty=>by
  have h:=Lib.run_append_grow_zeros w (ρ.t 24) (ρ.t 3) ty (ρ.t 9) i9 _ .i64 .i64 L.t24 L.t3 s hz9 (some ⟨b,o,none⟩) i c os I (n+m - i) (by omega) (by omega) (by omega) (by omega) (by omega) (by rw [hik];exact growslice_fits M q)
  simp_all
 obtain ⟨G,hG⟩:∃G,G=grownCap w (n+m) c (ρ.t 9):=⟨_,rfl⟩
 obtain ⟨ROW,p⟩:∃ROW:Array Value,ROW=os.toArray++Builtin.zeroCells z9.cells (n+m - i)++Builtin.zeroCells z9.cells (G - (n+m)):=⟨_,rfl⟩
 have hGn:n+m<=G:=by rw [hG];exact grownCap_ge w _ _ _
 have hG63:G<=9223372036854775807:=by
  have:=grownCap_le_maxLen w (n+m) c (ρ.t 9) (by unfold maxLen;omega);rw [<- hG] at this;unfold maxLen at this;omega
 rw [<- hG] at z ⊢;rw [<- p] at z;have hmk:i * k+m * k=(i+m) * k:=by grind
 have T:(i+m) * k+(n - i) * k=(n+m) * k:=by rw [<- tu];congr 1;omega
 have hzk:i * k+(n+m - i) * k=(n+m) * k:=by grind
 have hGk:(n+m) * k+(G - (n+m)) * k=G * k:=by rw [<- tu];congr 1;omega
 have hRs:ROW.size=G * k:=by rw [p];simp only [rg,rh,size_zeroCells,D,S];omega
 have u:(w.drew.alloc (.cells ROW (ρ.t 9))).heap[w.heap.size]?=some (.cells ROW (ρ.t 9) (0,0)):=heap_alloc_new w.drew _;obtain ⟨W1,hW⟩:∃x,x=w.drew.alloc (.cells ROW (ρ.t 9)):=⟨_,rfl⟩
 rw [<- hW] at z u;obtain ⟨R2,X⟩:∃x,x=(ROW.toList.take (i * k)++vs++ROW.toList.drop (i * k+vs.length)).toArray:=⟨_,rfl⟩
 have R:R2.size=ROW.size:=by grind
 have A:∀j v,vs[j]?=some v->W1.cell? ⟨vb,vo+j,none⟩=some v:=λj v r=>by rw [hW];exact cell_alloc (by simp_all)
 have E:∀ty N,(Builtin.copy_ #[(ρ.t 24),τ] ty #[.slice (some ⟨w.heap.size,i * k,none⟩) (n+m - i) N,.slice (some ⟨vb,vo,none⟩) m vc]).run P W1=.ok (goInt m) (W1.setRow w.heap.size R2):=λty N=>by
  have:=run_copyK (P:=P) (w:=W1) (dT:=ρ.t 24) (sT:=τ) (ty:=ty) (i:=i9) (b:=w.heap.size) (o:=i * k) (dLen:=n+m - i) (dCap:=N) (sLen:=m) (sCap:=vc) (n:=m) (a:=⟨vb,vo,none⟩) (cs:=vs) (cur:=ROW)
   L.t24 s (by grind) (by rw [hvl,y]) (λj v r=>by rw [x6];exact A j v r) u (by omega) h1v
  simp_all
 have Y:(W1.setRow w.heap.size R2).heap[w.heap.size]?=some (.cells R2 (ρ.t 9) (0,0)):=setRow_heap W1 _ ROW R2 _ (0,0) u;obtain ⟨W2,d⟩:∃x,x=(W1.setRow w.heap.size R2).drew:=⟨_,rfl⟩
 have H:W2.heap[w.heap.size]?=some (.cells R2 (ρ.t 9) (0,0)):=by rw [d];exact Y
 obtain ⟨R3,O⟩:∃x,x=(R2.toList.take ((i+m) * k)++cs++R2.toList.drop ((i+m) * k+cs.length)).toArray:=⟨_,rfl⟩
 have C:∀j v,cs[j]?=some v->W2.cell? ⟨b,o+i * k+j,none⟩=some v:=λj v r=>by
  have h:=U j v r;have hb:=cell_lt h;have h2:W1.cell? ⟨b,o+i * k+j,none⟩=some v:=by rw [hW];exact cell_alloc (by simp_all)
  rw [d,World.cell?_drew];have e:(W1.setRow w.heap.size R2).heap[b]?=W1.heap[b]?:=setRow_other W1 w.heap.size b R2 (by omega);have hb1:b < W1.heap.size:=cell_lt h2;unfold World.cell? at h2 ⊢
  grind
 have W:∀ty N sc,(Builtin.copy_ #[(ρ.t 24),(ρ.t 24)] ty #[.slice (some ⟨w.heap.size,(i+m) * k,none⟩) (n+m - (i+m)) N,.slice (some ⟨b,o+i * k,none⟩) (n - i) sc]).run P W2=.ok (goInt (n - i:Nat)) (W2.setRow w.heap.size R3):=λty N sc=>by
  have:=run_copyK (P:=P) (w:=W2) (dT:=ρ.t 24) (sT:=ρ.t 24) (ty:=ty) (i:=i9) (b:=w.heap.size) (o:=(i+m) * k) (dLen:=n+m - (i+m)) (dCap:=N) (sLen:=n - i) (sCap:=sc) (n:=n - i) (a:=⟨b,o+i * k,none⟩) (cs:=cs) (cur:=R2)
   L.t24 s (by grind) (by rw [hcl,y]) (λj v r=>by rw [x6];exact C j v r) H (by omega) h1c
  simp_all
 have F:W2.setRow w.heap.size R3=w.drew.drew.alloc (.cells (os++(vs++cs)++(Builtin.zeroCells z9.cells (G - (n+m))).toList).toArray (ρ.t 9)):=by
  have e:R3=(os++(vs++cs)++(Builtin.zeroCells z9.cells (G - (n+m))).toList).toArray:=by
   rw [O,X,p];congr 1;have zl:(Builtin.zeroCells z9.cells (n+m - i)).toList.length=(n+m - i) * k:=by rw [sG,size_zeroCells,D]
   simp only [tK,uB];rw [u2 (l₁:=os) (by omega),uM (l:=os) (by omega)];rw [<- uB os vs,u2 (l₁:=os++vs) (by simp;omega),uM (l:=os++vs) (by simp;omega),uB];congr 2;congr 1;rw [s5,tp (l:=os++vs) (by simp;omega),uR];rw [uo,tB];rw [s5,tp (l:=os) (by omega),uR];rw [s5,tp (by omega),uR];rw [show i * k+vs.length+((i+m) * k+cs.length - (os.length+vs.length)) - os.length - (Builtin.zeroCells z9.cells (n+m - i)).toList.length=0 by omega,sf]
  rw [<- e,d,hW];unfold World.setRow World.alloc World.drew;simp only;congr 1;apply rF;intro j;simp only [rd,pf];by_cases r:w.heap.size=j
  ·grind
  ·grind
 have hGi:¬ (G=i):=by omega
 have hGim:¬ (G=i+m):=by omega
 have hci:¬ (c=i):=by omega
 have hw1:IntKind.i64.wrap ((i:Int)+(m:Int))=(i:Int)+(m:Int):=by rw [IntKind.wrap_i64];omega
 have hb1:(0:Int)<=(i:Int)+(m:Int):=by omega
 have hin:i<=n:=by omega
 have htn:((i:Int)+(m:Int)).toNat=i+m:=by omega
 have hb3:(i:Int)<=(n:Int):=by omega
 obtain ⟨nm,ta,hf,hnm⟩:=L.f22;obtain ⟨OB,Z⟩:∃x,x=Obj.cells (os++(vs++cs)++(Builtin.zeroCells z9.cells (G - (n+m))).toList).toArray (ρ.t 9):=⟨_,rfl⟩
 rw [<- Z] at F ⊢;obtain ⟨FIN,J⟩:∃x,x=w.drew.drew.alloc OB:=⟨_,rfl⟩
 rw [<- J] at F ⊢;obtain ⟨Wd,Q⟩:∃x,x=W1.setRow w.heap.size R2:=⟨_,rfl⟩
 rw [<- Q] at E d;subst d;clear hkk hik I p hG hRs X O R A C u Y H V U hvs hGk T hmk hzk hki q hW Q Z J
 go_enter hf,insF_ntmps ρ τ nm ta
 simp only [rtCode,rtOper,rtA,rtV,uz,tr,rU,pY,Nat.reduceBEq,pV,pM,tj,pZ,cond_true,cond_false]
 go_wp2_with (first
  | (at_builtin;refine Lib.wpList_append_run _ rfl _ _ _ _ rfl _ _ rfl rfl _ _ (z _) ?_)
  | (at_builtin;refine wpList_copy_runI _ rfl _ _ (ρ.t 24) τ rfl _ _ rfl rfl (E _ _) ?_))
 go_region_law_o (refine step_copy_runI rfl _ _ (ρ.t 24) (ρ.t 24) rfl (.slice (some ⟨w.heap.size,(i+m) * k,none⟩) (n+m - (i+m)) (G - (i+m))) (.slice (some ⟨b,o+i * k,none⟩) (n - i) (c - i)) (by simp [Act.eval,Act.put]) (by simp [Act.eval,Act.put]) (W (ρ.t 3) (G - (i+m)) (c - i)) ?_)
 go_wp2
 go_ret
 simp_all
end
section
variable {P:Program} {w:World} {g:Gh} {h:AH} {B:Nat} {w0:World}
theorem row_grow_in (r:Rel B w0 g h w) {id q k c:Nat} {es f:List (List AV)} {L:Option Addr} {a:List Value} (hs:V g (.rsl id q k es.length) (.slice L es.length c)) (Y:∀e ∈ f,e.length=k) (F:VA g f.flatten a) (hpu:f.flatten.all AV.pure=true)
  (S:h.blk id=some (.row q k es)) (hy:f.length ≠ 0) (n:es.length+f.length<=c) :
  ∃b o cur ty,L=some ⟨b,o,none⟩/\w.heap[b]?=some (.cells cur ty (0,0))/\o+c * k<=cur.size/\(∀j,o+es.length * k<=j->g.Φ b j=none) /\
   ∃g',g.le g'/\Rel B w0 g' { h.put id (.row q k (es++f)) with toks:=h.toks.set q (es.length+f.length) } (w.setRow b (cur.toList.take (o+es.length * k)++a++cur.toList.drop (o+es.length * k+a.length)).toArray)/\V g' (.rsl id q k (es.length+f.length)) (.slice L (es.length+f.length) c):=by
 obtain ⟨R,W,s,D,N,u,hpe,G⟩:=r.rowAt S;simp only [V] at hs;obtain ⟨a',c',M,hc1,Q,t2,ht2,hrd,hle,i⟩:=hs;simp only [Value.slice.injEq] at M;obtain ⟨rfl,_,rfl⟩:=M;obtain rfl:W=t2:=by simp_all
 have i:(es.length=0/\c=0) \/ ∃b o,L=some ⟨b,o,none⟩/\W.loc=some (b,o+es.length * k,o+c * k):=i.imp (λh=>h) λ⟨b,o,Z,h2⟩=>⟨b,o,Z,h2 N.symm⟩
 have I:a.length=f.length * k:=by rw [<- F.length,yJ Y]
 have hfl:es.flatten.length=es.length * k:=yJ u;rcases i with ⟨h0,Z⟩ | ⟨b,o,rfl,J⟩
 ·omega
 ·obtain ⟨_,E⟩:=r.tok _ _ s;have lo:=E b _ _ J;obtain ⟨cur,t,p,hce⟩:=lo.cells;have X:es.length * k+a.length<=c * k:=by rw [I,<- tu];exact tg _ n
  have d:VA g es.flatten ((cur.toList.drop o).take (es.length * k))/\∀j,o<=j->g.Φ b j=none:=by
   rcases G with rfl | ⟨b2,o2,K,cs,ty2,k1,k2,k3,k4,k5⟩
   ·exact ⟨by simp [VA],λj O=>lo.free j (by simp_all)⟩
   ·simp_all
  refine ⟨b,o,cur,t,rfl,p,by omega,λj O=>d.2 j (by omega),?_⟩;generalize hnew:(cur.toList.take (o+es.length * k)++a++cur.toList.drop (o+es.length * k+a.length)).toArray=new;have H:new.size=cur.size:=by grind
  have C:∀j,j < o+es.length * k->new[j]?=cur[j]?:=λj O=>by
   grind
  have r1:=r.setSpare s J p H C;have m:=setRow_heap w b cur new t (0,0) p;have z:(new.toList.drop o).take ((es.length+f.length) * k)=(cur.toList.drop o).take (es.length * k)++a:=by
   rw [<- hnew];simp only [uB];rw [sD (by simp;omega),pm,uy,tu,<- I];rw [tX,uM (by simp;omega)];congr 1;rw [u2 (by simp;omega),uM (by simp;omega)]
  let T:TI:=⟨es.length+f.length,some (b,o+(es.length+f.length) * k,o+c * k),true⟩
  have y:g.le (g.setT q T):=Gh.le_setT (t':=T) s (by grind) D.symm;have U:(g.setT q T).τ[q]?=some T:=uE (uc.1 s).1;have r2:=r1.setRow (t':=T) (q:=id) s (by grind) D rfl R S (es':=es++f)
   ⟨T,U,rfl,by simp [T],λe M=>(uD.1 M).elim (u e) (Y e),by grind,
    .inr ⟨b,o,o+c * k,new,t,by simp [T],m,by rw [uo,z,sn];exact (d.1.append F).mono y,by rw [uo,tu];omega,d.2⟩⟩
   (λb' l e A=>by
    injection A with A;injection A with e1 K;injection K with K e3;subst e1 K e3;exact ⟨lo.lo,by grind,⟨new,t,m,by omega⟩,λj O=>lo.free j (by grind)⟩)
   (λb' x hx=>by grind)
  refine ⟨_,y,r2,?_⟩;simp only [V];exact ⟨some ⟨b,o,none⟩,c,rfl,n,Q,T,U,rfl,uh _,.inr ⟨b,o,rfl,λ_=>rfl⟩⟩
theorem row_olds (r:Rel B w0 g h w) {id q k c:Nat} {es:List (List AV)} {s:Option Addr} (hs:V g (.rsl id q k es.length) (.slice s es.length c)) (z:h.blk id=some (.row q k es)) :
  ∃e:List Value,VA g es.flatten e/\(∀a,s=some a->∀j v,e[j]?=some v->w.cell? (a.add j)=some v):=by
 obtain ⟨L,J,E,F,n,l,A,m⟩:=r.rowAt z;simp only [V] at hs;obtain ⟨a',Q,u,O,G,y,H,N,M,i⟩:=hs;simp only [Value.slice.injEq] at u;obtain ⟨rfl,_,rfl⟩:=u;obtain rfl:J=y:=by simp_all
 have D:es.flatten.length=es.length * k:=yJ l;rcases m with rfl | ⟨b,o,U,cs,ty2,x,k2,C,S,T⟩
 ·exact ⟨[],by rfl,λa _ j v t=>by simp at t⟩
 ·rcases i with ⟨h0,_⟩ | ⟨R,I,rfl,d⟩
  ·grind
  ·have d:=d n.symm;rw [x] at d;injection d with d;injection d with K f;injection f with f W;obtain rfl:o=I:=by omega
   subst K;refine ⟨_,C,λa p j v t=>?_⟩;injection p with p;subst p;rw [x6,cell_of_row w b (o+j) cs ty2 (0,0) k2]
   grind
theorem row_grow_out (r:Rel B w0 g h w) {id q k c C:Nat} {es f:List (List AV)} {ad:Option Addr} {a d rest:List Value} {e:TypeId} (hs:V g (.rsl id q k es.length) (.slice ad es.length c)) (W:∀e ∈ f,e.length=k) (A:VA g f.flatten d) (hpu:f.flatten.all AV.pure=true)
  (O:h.blk id=some (.row q k es)) (hy:f.length ≠ 0) (u:VA g es.flatten a) (N:es.length+f.length<=C) (I:C<=maxLen) (hr:rest.length=(C - (es.length+f.length)) * k) :
  ∃g',g.le g'/\Rel B w0 g' { h.put id (.row q k (es++f)) with toks:=h.toks.set q (es.length+f.length) } (w.drew.alloc (.cells (a++d++rest).toArray e))/\V g' (.rsl id q k (es.length+f.length)) (.slice (some ⟨w.heap.size,0,none⟩) (es.length+f.length) C):=by
 obtain ⟨L,ti,p,D,htn,m,hpe,X⟩:=r.rowAt O;have hnl:d.length=f.length * k:=by rw [<- A.length,yJ W]
 have J:es.flatten.length=es.length * k:=yJ m;have Z:a.length=es.length * k:=by rw [<- u.length,J]
 generalize hrow':(a++d++rest).toArray=row;have U:(es.length+f.length) * k+(C - (es.length+f.length)) * k=C * k:=by rw [<- tu];congr 1;omega
 have S:row.size=C * k:=by grind
 have s:(row.toList.drop 0).take ((es.length+f.length) * k)=a++d:=by
  rw [<- hrow',sf];show (a++d++rest).take _=_;rw [u2 (by grind),uM (by grind)]
 have o:∀j,g.Φ w.heap.size j=none:=λj=>by
  rcases M:g.Φ w.heap.size j with _ | v
  ·rfl
  ·exact absurd (r.phi_lt M) (tW _)
 have Y:=(r.drew).alloc0 (.cells row e);have i:(w.drew.alloc (.cells row e)).heap[w.heap.size]?=some (.cells row e (0,0)):=heap_alloc_new w.drew _;have hsz:(es.length+f.length) * k<=C * k:=tg k N;have R:LocOk g.Φ B (w.drew.alloc (.cells row e)) w.heap.size ((es.length+f.length) * k) (C * k) :=
  ⟨r.bsz,by simp,⟨row,e,i,by omega⟩,λj _=>o j⟩
 have z:∀(j E:Nat),g.σ[j]?=some (some E)->w.heap.size ≠ E:=λj E G e=>by
  have H:j < h.blks.length:=by rw [<- r.slen];exact (uc.1 G).1
  have:=(r.blk j E _ G (ue H)).2.1;omega
 have t:∀(j:Nat) (F:TI) (y:Nat×Nat),g.τ[j]?=some F->F.loc ≠ some (w.heap.size,y):=λj F y G e=>by
  have:=((r.tok j F G).2 _ _ _ e).lt;omega
 let T:TI:=⟨es.length+f.length,some (w.heap.size,(es.length+f.length) * k,C * k),true⟩
 have n:g.le (g.setT q T):=Gh.le_setT (t':=T) p (by grind) D.symm;have Q:(g.setT q T).τ[q]?=some T:=uE (uc.1 p).1;have r2:=Y.setRow (t':=T) (q:=id) p (by grind) D rfl L O (es':=es++f)
  ⟨T,Q,rfl,by simp [T],λe M=>(uD.1 M).elim (m e) (W e),by grind,
   .inr ⟨w.heap.size,0,C * k,row,e,by simp [T],i,by rw [uo,s,sn];exact (u.append A).mono n,by simp_all,λj _=>o j⟩⟩
  (λb' l e' hl'=>by grind)
  (λb' x K=>by injection K with K;injection K with e1 _;subst e1;exact .inr ⟨t,z,r.nnew (uh _),r.nold (uh _)⟩)
 refine ⟨_,n,r2,?_⟩;simp only [V];exact ⟨some ⟨w.heap.size,0,none⟩,C,rfl,N,I,T,Q,rfl,uh _,.inr ⟨w.heap.size,0,rfl,λ_=>by simp [T]⟩⟩
end
section
variable {P:Program} {ρ:Ren} {τ:TypeId} {k:Nat} {α:Type} {row:α->List AV}
theorem cells_at {w:World} (h:w.cell? ⟨b,j,none⟩=some v):∃cs ty fr,w.heap[b]?=some (.cells cs ty fr)/\cs[j]?=some v:=by
 unfold World.cell? at h
 grind
theorem spec_insO (L:InsLays P ρ τ k) (hk:∀x,(row x).length=k) {xs M R:List α} {z:Int} (hR:insO xs z M=some R) {a:AV} (ha:a=.sl k (M.map row) \/ a=.osl none k (M.map row)) {h:AH} {B B':List Blk} {T T':List Nat} {i q b' t':Nat}
  (hb:B[i]?=some (.row (h.toks.length+q) k (xs.map row))) (hbl:B.length=b') (htl:T.length=t') (hB:B.set i .dead++[.row (h.toks.length+t') k (R.map row)]=B') (hT:T.set q (xs.length+1)++[R.length]=T') :
  Spec P (ρ.f 22) [.rsl (h.blks.length+i) (h.toks.length+q) k xs.length,.int .i64 z,a] (h.ext B T) (λrr hh=>rr=.rsl (h.blks.length+b') (h.toks.length+t') k R.length/\hh=h.ext B' T'):=by
 unfold insO at hR;split at hR
 case isFalse=>cases hR
 rename_i hc;obtain ⟨⟨hz0,hzn⟩,hM0,hlim⟩:=hc;injection hR with hR;obtain ⟨n,rfl⟩:∃n:Nat,z=n:=⟨z.toNat,by omega⟩
 have hnx:n<=xs.length:=by omega
 rw [ut] at hR;have k0:=L.k0;obtain ⟨nm,ta,hf22,hnm⟩:=L.f22;refine ⟨λvs w=>?_,λB0 w0 _ g w vs r hv=>?_⟩
 ·have hne : ¬ nm = "runtime.NumGoroutine" := by simpa using hnm
  have hn2:(insF ρ τ nm ta).name=nm:=rfl;have hb2:¬ (insF ρ τ nm ta).body=none:=by
   intro e;have:(insF ρ τ nm ta).body.isSome=true:=rfl;rw [e] at this;cases this
  simp [callFunc,hf22,hn2,hne,hb2]
 obtain ⟨vs⟩:=vs;simp only [VL] at hv;obtain ⟨v1,_,rfl,hV1,v2,_,rfl,hV2,v3,_,rfl,hV3,rfl⟩:=hv;have hVs:=hV1;simp only [V] at hV1 hV2;obtain ⟨ad,c,rfl,hnc,hcm,_⟩:=hV1;subst hV2;obtain ⟨av,vc,rfl,hMv⟩:∃av vc,v3=.slice av M.length vc/\(M.map row=[] \/ ∃b o,av=some ⟨b,o,none⟩/\VE g b k o (M.map row)):=by
  rcases ha with rfl | rfl
  ·simp only [V] at hV3;obtain ⟨a1,c1,h1,_,_,h2⟩:=hV3
   simp_all
  ·simp only [V] at hV3;obtain ⟨a1,c1,h1,_,_,h2,_⟩:=hV3
   simp_all
 obtain ⟨vb,vo,rfl,hVE⟩:=hMv.resolve_left (by intro e;rw [List.map_eq_nil_iff] at e;subst e;simp at hM0);obtain ⟨hMl,hVC⟩:=VE_iff.1 hVE;obtain ⟨mvs,hmva,hmpu,hmφ⟩:=VC.toVA hVC;have hmvl:mvs.length=M.length * k:=by rw [<- hmva.length,flat_len hk]
 have hmcell:∀j v,mvs[j]?=some v->w.cell? ⟨vb,vo+j,none⟩=some v:=λj v hj=>r.phi _ _ _ (hmφ j v hj);have hblk:(h.ext B T).blk (h.blks.length+i)=some (.row (h.toks.length+q) k (xs.map row)):=by rw [yb];exact hb
 obtain ⟨hσ,ti,hti,htr,htn,hlen,hpe,hrow⟩:=r.rowAt hblk;have hfl:(xs.map row).flatten.length=xs.length * k:=flat_len hk xs
 -- shrunk to what is ahead of the place
 have hVs':V g (.rsl (h.blks.length+i) (h.toks.length+q) k (xs.map row).length) (.slice ad (xs.map row).length c):=by simpa using hVs
 obtain ⟨g1,hg1,r1,hh1⟩:=r.shrink (n:=n) (a':=ad) hblk (by simpa using hnx) (.inl rfl) hVs';have e1:(h.ext B T).shr (h.blks.length+i) (h.toks.length+q) k n (xs.map row)=h.ext (B.set i .dead++[.row (h.toks.length+t') k ((xs.take n).map row)]) (T.set q (xs.length+1)++[n]):=by
  simp only [AH.shr,AH.ext,AH.put,AH.new,AH.mk.injEq,uo,ul,pB];refine ⟨?_,?_⟩
  ·simp_all
  ·simp_all
 rw [e1] at r1;have eb:(h.ext B T).blks.length=h.blks.length+b':=by rw [<- hbl];simp [AH.ext]
 have et:(h.ext B T).toks.length=h.toks.length+t':=by rw [<- htl];simp [AH.ext]
 rw [eb,et] at hh1;have htk:(xs.take n).length=n:=by rw [th];omega
 have hh1':V g1 (.rsl (h.blks.length+b') (h.toks.length+t') k ((xs.take n).map row).length) (.slice ad ((xs.take n).map row).length c):=by rw [ul,htk];exact hh1
 have hb1:(h.ext (B.set i .dead++[.row (h.toks.length+t') k ((xs.take n).map row)]) (T.set q (xs.length+1)++[n])).blk (h.blks.length+b')=some (.row (h.toks.length+t') k ((xs.take n).map row)):=by
  rw [yb,um (by rw [uI];omega),uI,<- hbl,p2];rfl
 have hput:∀n2:Nat,({ (h.ext (B.set i .dead++[.row (h.toks.length+t') k ((xs.take n).map row)]) (T.set q (xs.length+1)++[n])).put (h.blks.length+b') (.row (h.toks.length+t') k (R.map row)) with
   toks:=(h.ext (B.set i .dead++[.row (h.toks.length+t') k ((xs.take n).map row)]) (T.set q (xs.length+1)++[n])).toks.set (h.toks.length+t') R.length }:AH)=h.ext B' T':=λn2=>by
  subst hB hT;simp only [AH.ext,AH.put,AH.mk.injEq];refine ⟨?_,?_⟩
  ·simp_all
  ·simp_all
 -- what comes behind
 let ys:=M++xs.drop n
 have hys:R=xs.take n++ys:=hR.symm;have hRl:R.length=xs.length+M.length:=by rw [hys];simp [ys];omega
 have hyl:ys.length=M.length+(xs.length - n):=by simp [ys]
 have htot:((xs.take n).map row).length+(ys.map row).length=R.length:=by rw [hys];simp
 have happ:(xs.take n).map row++ys.map row=R.map row:=by rw [hys];exact tE.symm
 have hyk:∀e ∈ ys.map row,e.length=k:=λe he=>by
  obtain ⟨x,_,rfl⟩:=tZ.1 he;exact hk x
 have hypu:(ys.map row).flatten.all AV.pure=true:=by
  have h2:((xs.drop n).map row).flatten.all AV.pure=true:=by
   grind
  grind
 have hyn:(ys.map row).length ≠ 0:=by rw [ul,hyl];omega
 have hc63:c<=9223372036854775807:=by unfold maxLen at hcm;omega
 have hRm:R.length<=maxLen:=by unfold lim at hlim;unfold maxLen;omega
 -- the tail's cells
 obtain ⟨olds,holds,hoc⟩:=row_olds r hVs' hblk;have hol:olds.length=xs.length * k:=by rw [<- holds.length,hfl]
 have hkn:n * k+(xs.length - n) * k=xs.length * k:=by rw [<- tu];congr 1;omega
 have hhead:VA g ((xs.take n).map row).flatten (olds.take (n * k)):=by rw [<- flat_take hk];exact holds.take _
 have htail:VA g ((xs.drop n).map row).flatten (olds.drop (n * k)):=by rw [<- flat_drop hk];exact holds.drop _
 have hyva:VA g (ys.map row).flatten (mvs++olds.drop (n * k)):=by simp only [ys,tE,sn];exact hmva.append htail
 have hyva1:=hyva.mono hg1;have hh2:=hhead.mono hg1;have hnil:ad=none->c=0:=λe=>by
  subst e;simp only [V] at hVs;obtain ⟨a2,c2,he,_,_,t2,ht2,_,_,hcap⟩:=hVs;simp only [Value.slice.injEq] at he
  grind
 have fin:∀{v:Value} {w':World} {g':Gh},g1.le g'->Rel B0 w0 g' { (h.ext (B.set i .dead++[.row (h.toks.length+t') k ((xs.take n).map row)]) (T.set q (xs.length+1)++[n])).put (h.blks.length+b') (.row (h.toks.length+t') k ((xs.take n).map row++ys.map row)) with
   toks:=(h.ext (B.set i .dead++[.row (h.toks.length+t') k ((xs.take n).map row)]) (T.set q (xs.length+1)++[n])).toks.set (h.toks.length+t') (((xs.take n).map row).length+(ys.map row).length) } w' ->
   V g' (.rsl (h.blks.length+b') (h.toks.length+t') k (((xs.take n).map row).length+(ys.map row).length)) v ->
   ∃v0 rr hh g'',Ending.returned v=.returned v0/\(rr=.rsl (h.blks.length+b') (h.toks.length+t') k R.length/\hh=h.ext B' T')/\g.le g''/\Rel B0 w0 g'' hh w'/\V g'' rr v0:=λ{v w' g'} hg' hr' hv'=>by
  rw [happ,htot,hput 0] at hr';rw [htot] at hv';exact ⟨v,_,_,g',rfl,⟨rfl,rfl⟩,hg1.trans hg',hr',hv'⟩
 obtain ⟨i9,z9,hi9,hz9,hs9,hzc9,hb9⟩:=L.i9;by_cases hend:n=xs.length
 ·-- at the end
  have hdn:xs.drop n=[]:=by rw [hend];exact List.drop_length
  have hodn:olds.drop (n * k)=[]:=by rw [tp];rw [hol,hend];exact uh _
  have hotn:olds.take (n * k)=olds:=uM (by rw [hol,hend];exact uh _);have hnews:∀W:World,(∀a v,w.cell? a=some v->W.cell? a=some v)->News P i9.size M.length (.slice (some ⟨vb,vo,none⟩) M.length vc) mvs W:=λW hW=>News.slice (by rw [hmvl,hs9]) λj v hj=>by rw [x6];exact hW _ _ (hmcell j v hj)
  by_cases hroom:xs.length+M.length<=c
  ·obtain ⟨b,o,cur,ty,rfl,hcur,hfit,hfree,g',hg',hr',hv'⟩:=row_grow_in r1 hh1' hyk hyva1 hypu hb1 hyn (by rw [htot,hRl];exact hroom);rw [hodn,sq] at hr';have hrun:=run_append_in (P:=P) (t:=ρ.t 24) (u:=τ) (ty:=0) L.t24 L.t23 (.inr ⟨_,rfl⟩) hi9 (hnews w λ_ _ h=>h) hmva.one' hcur (n:=xs.length) hroom (o:=o) (by rw [hs9,hmvl];have:=tg k hroom;rw [tu] at this;omega);have hrun':∀ty,(Builtin.append_ #[ρ.t 24,τ] ty #[.slice (some ⟨b,o,none⟩) xs.length c,.slice (some ⟨vb,vo,none⟩) M.length vc]).run P w=_:=λty=>run_append_in (P:=P) (t:=ρ.t 24) (u:=τ) (ty:=ty) L.t24 L.t23 (.inr ⟨_,rfl⟩) hi9 (hnews w λ_ _ h=>h) hmva.one' hcur (n:=xs.length) hroom (o:=o) (by rw [hs9,hmvl];have:=tg k hroom;rw [tu] at this;omega);have:=ins_end L (xa:=some ⟨vb,vo,none⟩) (vc:=vc) hM0 hnc hc63 hnil hrun';rw [hend];refine this.mono λe w' ⟨h1,h2⟩=>?_;subst h1 h2;rw [hs9,<- hend];rw [ul,htk] at hr';have hv2:((xs.take n).map row).length+(ys.map row).length=xs.length+M.length:=by rw [htot,hRl]
   refine fin hg' ?_ (by rw [hv2] at hv' ⊢;rw [hend];exact hv');rw [ul,htk];omega
  ·have hroom':c < xs.length+M.length:=by omega
   have hold:(Builtin.firstCells i9.size xs.length (.slice ad xs.length c)).run P w.drew=.ok olds.toArray w.drew:=by
    cases ad with
    | none =>
     have h0:=hnil rfl;have hx0:xs.length=0:=by omega
     have:olds=[]:=uF (by rw [hol,hx0];simp);subst this;rw [hx0];exact run_firstCells_none w.drew i9.size 0 0 c
    | some a=>exact run_firstCells_some w.drew i9.size xs.length a xs.length c olds (by rw [hs9];exact hol) λj v hj=>by rw [World.cell?_drew];exact hoc a rfl j v hj
   have hlim':(xs.length+M.length) * i9.bytes<=140737488355328:=by have:=sL hlim hb9;unfold lim at this;omega
   have hrun':∀ty,(Builtin.append_ #[ρ.t 24,τ] ty #[.slice ad xs.length c,.slice (some ⟨vb,vo,none⟩) M.length vc]).run P w=_:=λty=>qC (P:=P) (t:=ρ.t 24) (u:=τ) (ty:=ty) L.t24 L.t23 (.inr ⟨_,rfl⟩) hi9 hz9 (hnews w λ_ _ h=>h) (hnews w.drew λ_ _ h=>h) hold hroom' (by unfold lim at hlim;simp only [maxLen];omega) (growslice_fits hroom' hlim');have:=ins_end L (xa:=some ⟨vb,vo,none⟩) (vc:=vc) hM0 hnc hc63 hnil hrun';rw [hend];refine this.mono λe w' ⟨h1,h2⟩=>?_;subst h1 h2;have hge:=grownCap_ge w (xs.length+M.length) c (ρ.t 9);have hgm:grownCap w (xs.length+M.length) c (ρ.t 9)<=maxLen:=grownCap_le_maxLen w _ c _ (by unfold lim at hlim;simp only [maxLen];omega);have htot2:((xs.take n).map row).length+(ys.map row).length=xs.length+M.length:=by rw [htot,hRl]
   obtain ⟨g',hg',hr',hv'⟩:=row_grow_out (C:=grownCap w (xs.length+M.length) c (ρ.t 9)) (rest:=(Builtin.zeroCells z9.cells (grownCap w (xs.length+M.length) c (ρ.t 9) - (xs.length+M.length))).toList) (e:=ρ.t 9) r1 hh1' hyk hyva1 hypu hb1 hyn hh2 (by rw [htot2];exact hge) hgm (by rw [sG,size_zeroCells,hzc9,htot2]);rw [hodn,hotn,sq] at hr';have ew:w.drew.alloc (.cells (olds.toArray++mvs.toArray++Builtin.zeroCells z9.cells (grownCap w (xs.length+M.length) c (ρ.t 9) - (xs.length+M.length))) (ρ.t 9))=w.drew.alloc (.cells (olds++mvs++(Builtin.zeroCells z9.cells (grownCap w (xs.length+M.length) c (ρ.t 9) - (xs.length+M.length))).toList).toArray (ρ.t 9)):=by
    congr 2;apply pk;simp
   rw [ew];exact fin hg' hr' (by rw [htot2] at hv' ⊢;exact hv')
 ·-- ahead of something
  have hlt:n < xs.length:=by omega
  have hne:xs.map row ≠ []:=by intro e;rw [List.map_eq_nil_iff] at e;subst e;simp at hlt
  obtain ⟨b,o,e2,cur,ty,k1,k2,k3,k4,k5⟩:=hrow.resolve_left hne;rw [ul] at k1 k3 k4;obtain ⟨rfl,lo⟩:ad=some ⟨b,o,none⟩/\o+c * k<=cur.size:=by
   simp only [V] at hVs;obtain ⟨a2,c2,he,_,_,t2,ht2,_,_,hcap⟩:=hVs;simp only [Value.slice.injEq] at he;obtain ⟨rfl,_,rfl⟩:=he;obtain rfl:ti=t2:=by rw [hti] at ht2;injection ht2
   rcases hcap with ⟨h0,_⟩ | ⟨b2,o2,rfl,hl2⟩
   ·omega
   ·rw [ul] at htn;have hl2:=hl2 htn.symm;have hl3:=hl2;rw [k1] at hl2;injection hl2 with hl2;injection hl2 with e1 hl2;injection hl2 with e2 _;obtain rfl:o=o2:=by omega
    subst e1;refine ⟨rfl,?_⟩;obtain ⟨cur',ty',hcur',hce⟩:=((r.tok _ _ hti).2 _ _ _ hl3).cells;rw [k2] at hcur';injection hcur' with hcur';injection hcur' with hcur' _ _;subst hcur';omega
  have hoe:olds=(cur.toList.drop o).take (xs.length * k):=by
   apply tc;intro j;by_cases hj:j < xs.length * k
   ·have h1:=hoc _ rfl j _ (ue (by omega));rw [x6,cell_of_row w b (o+j) cur ty (0,0) k2] at h1;rw [ue (by omega),uw,uv hj,uG,uK,h1]
   ·rw [tJ (by omega),tJ (by simp;omega)]
  have hmpos:0 < M.length * k:=rV hM0 k0;obtain ⟨curv,tyv,frv,hcv,_⟩:=cells_at (hmcell 0 _ (ue (by omega)))
  have hsep:vb=b->vo+M.length * k<=o:=λe=>by
   subst e;rcases sB (vo+(M.length * k - 1)) o with h1 | h1
   ·omega
   ·have h2:=hmφ (M.length * k - 1) _ (ue (by omega));rw [k5 _ h1] at h2;cases h2
  have hod1:olds.drop (n * k)=(cur.toList.drop (o+n * k)).take ((xs.length - n) * k):=by
   rw [hoe,pm,tB];congr 1;omega
  by_cases hroom:xs.length+M.length<=c
  ·obtain ⟨b3,o3,cur3,ty3,hE,hcur3,hfit,hfree,g',hg',hr',hv'⟩:=row_grow_in (r1.drew) hh1' hyk hyva1 hypu hb1 hyn (by rw [htot,hRl];exact hroom);injection hE with hE;injection hE with hE1 hE2 _;subst hE1 hE2;have hcd:w.drew.heap[b]?=some (.cells cur ty (0,0)):=k2;rw [hcd] at hcur3;injection hcur3 with hcur3;injection hcur3 with hcur3 _ _;subst hcur3;have:=ins_shift L (vc:=vc) (vs:=mvs) hlt hM0 hroom hc63 k2 lo hod1 (λv hv=>(htail.one') v hv) hcv hmcell hmvl hmva.one' hsep;refine this.mono λe w' ⟨h1,h2⟩=>?_;subst h1 h2;have htot2:((xs.take n).map row).length+(ys.map row).length=xs.length+M.length:=by rw [htot,hRl]
   have hnn:((xs.take n).map row).length=n:=by rw [ul,htk]
   refine fin hg' ?_ (by rw [htot2] at hv' ⊢;exact hv');rw [hnn] at hr' ⊢;omega
  ·have hroom':c < xs.length+M.length:=by omega
   have:=ins_grow L (vc:=vc) (os:=olds.take (n * k)) (cs:=olds.drop (n * k)) (vs:=mvs) (b:=b) (o:=o) (vb:=vb) (vo:=vo) (z9:=z9) (i9:=i9) hlt hM0 hnc hroom' hlim hi9 hz9 (by rw [th];omega)
    (λj v hj=>by
     rw [uw] at hj;split at hj
     ·have:=hoc _ rfl j v hj;rwa [x6] at this
     ·cases hj) (by rw [sZ,hol];omega) (λj v hj=>by
     rw [uG] at hj;have:=hoc _ rfl _ v hj;rwa [x6,<- rb] at this) (λv hv=>(htail.one') v hv) hmcell hmvl hmva.one'
   refine this.mono λe w' ⟨h1,h2⟩=>?_;subst h1 h2;have hge:=grownCap_ge w (xs.length+M.length) c (ρ.t 9);have hgm:grownCap w (xs.length+M.length) c (ρ.t 9)<=maxLen:=grownCap_le_maxLen w _ c _ (by unfold lim at hlim;simp only [maxLen];omega);have htot2:((xs.take n).map row).length+(ys.map row).length=xs.length+M.length:=by rw [htot,hRl]
   obtain ⟨g',hg',hr',hv'⟩:=row_grow_out (C:=grownCap w (xs.length+M.length) c (ρ.t 9)) (rest:=(Builtin.zeroCells z9.cells (grownCap w (xs.length+M.length) c (ρ.t 9) - (xs.length+M.length))).toList) (e:=ρ.t 9) (r1.drew) hh1' hyk hyva1 hypu hb1 hyn hh2 (by rw [htot2];exact hge) hgm (by rw [sG,size_zeroCells,hzc9,htot2]);exact fin hg' hr' (by rw [htot2] at hv' ⊢;exact hv')
end
end Go.Vv
namespace Go.Vv
open Go Go.RowKit
variable {Le L L2 B:List Blk} {Me M M2 T:List Nat} {c:Call} {k k2 off:Nat} {es:List (List AV)} {cs:List AV} {d:TypeDesc} {e t u:TypeId} {x y:Operand} {v:AV} {kd:IntKind} {name:String} {f:FuncId}
theorem wk_reB {h:AH} {env:List AV} {L1:List Blk} {jb o jr c m n q:Nat} (hle1:Le.length<=q) (hle2:Me.length<=c) (hcm:c<=m) (hjq:jb < q) (hqr:q<=jr) (hc:L[jb]?=some (.cells cs)) (hco:cs[o]?=some (.rsl (h.blks.length+jr) (h.toks.length+m) k n)) (hr:L[jr]?=some (.row (h.toks.length+m) k es)) (S:M[m]?=some n)
  (R:zD (h.blks.length+q) (h.toks.length+c) env=true) (hL1:(L.set jb (.cells (cs.set o .opq))).take q=L1) (hb:L1.all (λb=>b.low (h.blks.length+q) (h.toks.length+c))=true)
  (hL2:(L.take q).set jb (.cells (cs.set o (.rsl (h.blks.length+q) (h.toks.length+c) k n)))++[.row (h.toks.length+c) k es]=L2) (hM2:M.take c++[n]=M2):wk (h.ext Le Me) env (h.ext L M) env (h.ext L2 M2):=λB0 w0 w w1 g1 g vs Y hg r hv=>by
 subst hL1 hL2 hM2;have F:(h.ext L M).blks[h.blks.length+jb]?=some (.cells cs):=by
  simp only [AH.ext];rw [um (by omega),uy];exact hc
 have hr':(h.ext L M).blk (h.blks.length+jr)=some (.row (h.toks.length+m) k es):=by rw [yb];exact hr
 have hjb:jb < L.length:=(uc.1 hc).1;have hjr:jr < L.length:=(uc.1 hr).1;have hm:m < M.length:=(uc.1 S).1;have hsl:h.blks.length+jb < g.σ.length:=by rw [r.slen];exact (uc.1 F).1
 obtain ⟨x,hx⟩:∃x,g.σ[h.blks.length+jb]?=some x:=⟨_,ue hsl⟩
 cases x with
 | none=>exact (r.row _ _ hx F).elim
 | some c0 =>
  obtain ⟨_,_,⟨us,t,k1,k2⟩,_⟩:=r.blk _ c0 _ hx F;obtain ⟨v,X,hV⟩:=k2.toVL.get o _ hco;simp only [V] at hV;obtain ⟨a,cc,rfl,h1,h2,p,E,O⟩:=hV;obtain ⟨A,U⟩:=r.tok _ _ E;have hn:p.n=n:=by
   simp only [AH.ext] at A;rw [um (by omega),uy,S] at A;injection A with A;exact A.symm
  subst hn;obtain ⟨_,t2,ht2,e1,e2,e3,e4,e5⟩:=r.rowAt hr';obtain rfl:p=t2:=by simp_all
  -- the box without it
  have hva1:VA g (cs.set o .opq) us.toList:=VA.mk (VL.setE k2.toVL o _ λu D=>by
   rw [X] at D;injection D with D;subst D;simp only [V];rfl) (by
   rw [uq];intro a K;rcases sr K with K | rfl
   ·have:=k2.ones;rw [uq] at this;exact this a K
   ·rfl)
  have r2:=r.putObj (k':=.cells (cs.set o .opq)) hx F (by simp) rfl rfl rfl rfl (λ_ _=>rfl) ⟨us,t,k1,hva1⟩;have e2':(h.ext L M).put (h.blks.length+jb) (.cells (cs.set o .opq))=h.ext (L.set jb (.cells (cs.set o .opq))) M:=by
   simp only [AH.ext,AH.put];rw [sO _ _ (by omega),uy]
  rw [e2'] at r2
  -- the cut
  have N:∀(i:Nat) (b:Blk),i < h.blks.length+q->(h.ext (L.set jb (.cells (cs.set o .opq))) M).blks[i]?=some b->b.low (h.blks.length+q) (h.toks.length+c)=true:=by
   intro i b hi C;simp only [AH.ext] at C;rcases sB i h.blks.length with G | G
   ·rw [un G] at C;have hb1:(h.ext Le Me).blks[i]?=some b:=by simp only [AH.ext];rw [un G];exact C
    have:=Y.isLow hb1;rw [Y.slen,Y.tlen] at this;simp only [AH.ext,uo] at this;exact Blk.low_up (by omega) (by omega) b this
   ·rw [um G] at C;rw [uq] at hb;refine hb b (uW (i:=i - h.blks.length) ?_);rw [uw,uv (by omega)];exact C
  have r3:=r2.cut (h.blks.length+q) (h.toks.length+c) N;have e3':(h.ext (L.set jb (.cells (cs.set o .opq))) M).cut (h.blks.length+q) (h.toks.length+c)=h.ext ((L.set jb (.cells (cs.set o .opq))).take q) (M.take c):=by
   simp only [AH.cut,AH.ext,tX,uy];rw [uM (l:=h.blks) (by omega),uM (l:=h.toks) (by omega)]
  rw [e3'] at r3;have Z:g1.le (g.cut (h.blks.length+q) (h.toks.length+c)):=Gh.le_cut2 hg (by rw [Y.slen];simp only [AH.ext,uo];omega) (by rw [Y.tlen];simp only [AH.ext,uo];omega)
  -- the row
  have s:(g.cut (h.blks.length+q) (h.toks.length+c)).τ.length=h.toks.length+c:=by
   rw [r3.tlen];simp only [AH.ext,uo,th];omega
  have hlenS:(g.cut (h.blks.length+q) (h.toks.length+c)).σ.length=h.blks.length+q:=by
   rw [r3.slen];simp only [AH.ext,uo,th,uI];omega
  have z:=(Gh.le_addT (g.cut (h.blks.length+q) (h.toks.length+c)) p).trans (Gh.le_addS _ none);have hT:(((g.cut (h.blks.length+q) (h.toks.length+c)).addT p).addS none).τ[h.toks.length+c]?=some p:=by
   simp only [Gh.addT,Gh.addS];rw [um (pX s),s,p2];rfl
  have r4:=r3.newRowT p k es U (λb x G=>⟨λj u y hj D=>by
   have hj1:j < h.toks.length+c:=by
    have:=(uc.1 hj).1;simp only [Gh.cut,th] at this;omega
   have:=r.tinj _ _ _ _ b _ _ (take_sub hj) E D G;omega,λj c' hj=>r.sep j c' _ p b _ (take_sub hj) E G,r.ntok E G,r.otok E G⟩)
   ⟨p,by rw [s];exact hT,e1,e2,e3,e4,e5.imp (λh=>h) λ⟨b,o,e,cs,ty,k1,k2,k3,k4,k5⟩=>⟨b,o,e,cs,ty,k1,k2,(VA.cut _ _ (wM e4) k3).mono z,k4,k5⟩⟩
  rw [s] at r4;have Q:(((g.cut (h.blks.length+q) (h.toks.length+c)).addT p).addS none).σ[h.blks.length+jb]?=some (some c0):=z.sig _ _ (xY (by omega) hx);generalize hH:(({ h.ext ((L.set jb (.cells (cs.set o .opq))).take q) (M.take c) with toks:=(h.ext ((L.set jb (.cells (cs.set o .opq))).take q) (M.take c)).toks++[p.n] }:AH).new (.row (h.toks.length+c) k es))=H4 at r4;have W:H4=h.ext ((L.set jb (.cells (cs.set o .opq))).take q++[.row (h.toks.length+c) k es]) (M.take c++[p.n]):=by
   rw [<- hH];simp [AH.ext,AH.new,uB]
  have hk4:H4.blks[h.blks.length+jb]?=some (.cells (cs.set o .opq)):=by
   rw [W];simp only [AH.ext];rw [um (by omega),uy,un (by rw [th,uI];omega),uw,uv hjq,uE hjb]
  obtain ⟨_,_,⟨J,t',I,k2'⟩,_⟩:=r4.blk _ c0 _ Q hk4;have hus:J=us:=by rw [k1] at I;simp only [ui,Obj.cells.injEq] at I;exact I.1.symm
  subst hus;have hva4:VA (((g.cut (h.blks.length+q) (h.toks.length+c)).addT p).addS none) (cs.set o (.rsl (h.blks.length+q) (h.toks.length+c) k p.n)) J.toList:=VA.mk (by
   have:=VL.setE k2'.toVL o (.rsl (h.blks.length+q) (h.toks.length+c) k p.n) λu D=>by
    rw [X] at D;injection D with D;subst D;simp only [V];exact ⟨a,cc,rfl,h1,h2,p,hT,O⟩
   rw [p3] at this;exact this) (by
   rw [uq];intro a K;rcases sr K with K | rfl
   ·have:=k2.ones;rw [uq] at this;exact this a K
   ·rfl)
  have r5:=r4.putObj (k':=.cells (cs.set o (.rsl (h.blks.length+q) (h.toks.length+c) k p.n))) Q hk4 (by simp) rfl rfl rfl rfl (λ_ _=>rfl) ⟨J,t',I,hva4⟩;refine ⟨_,Z.trans z,?_,VL.mono z _ _ (VL.cut _ _ R hv),λ_ h=>h⟩;refine Eq.subst (motive:=λH=>Rel _ _ _ H w) ?_ r5;rw [W];simp only [AH.ext,AH.put,AH.mk.injEq,tQ];rw [sO _ _ (by omega),uy,rZ _ _ (by rw [th,uI];omega)];congr 2;rw [List.take_set,p3]
theorem wk_reS {h:AH} {env F:List AV} {d jr c m n q:Nat} (hle1:Le.length<=q) (hle2:Me.length<=c) (hcm:c<=m) (hqr:q<=jr) (he:yx env (.tmp d)=some (.rsl (h.blks.length+jr) (h.toks.length+m) k n)) (hr:L[jr]?=some (.row (h.toks.length+m) k es)) (N:M[m]?=some n)
  (K:zD (h.blks.length+q) (h.toks.length+c) (env.set d .any)=true) (hb:(L.take q).all (λb=>b.low (h.blks.length+q) (h.toks.length+c))=true)
  (hE:env.set d (.rsl (h.blks.length+q) (h.toks.length+c) k n)=F) (Z:L.take q++[.row (h.toks.length+c) k es]=L2) (hM2:M.take c++[n]=M2):wk (h.ext Le Me) env (h.ext L M) F (h.ext L2 M2):=λB0 w0 w w1 g1 g vs R hg r hv=>by
 subst hE Z hM2;have he:env[d]?=some (.rsl (h.blks.length+jr) (h.toks.length+m) k n):=he;have W:(h.ext L M).blk (h.blks.length+jr)=some (.row (h.toks.length+m) k es):=by rw [yb];exact hr
 have hjr:jr < L.length:=(uc.1 hr).1;have hm:m < M.length:=(uc.1 N).1;obtain ⟨v,hvd,hV⟩:=hv.get d _ he;simp only [V] at hV;obtain ⟨a,cc,rfl,h1,h2,D,C,J⟩:=hV;obtain ⟨s,O⟩:=r.tok _ _ C;have hn:D.n=n:=by
  simp only [AH.ext] at s;rw [um (by omega),uy,N] at s;injection s with s;exact s.symm
 subst hn;obtain ⟨_,t2,ht2,e1,e2,e3,e4,e5⟩:=r.rowAt W;obtain rfl:D=t2:=by simp_all
 have I:∀(i:Nat) (b:Blk),i < h.blks.length+q->(h.ext L M).blks[i]?=some b->b.low (h.blks.length+q) (h.toks.length+c)=true:=by
  intro i b hi z;simp only [AH.ext] at z;rcases sB i h.blks.length with E | E
  ·rw [un E] at z;have hb1:(h.ext Le Me).blks[i]?=some b:=by simp only [AH.ext];rw [un E];exact z
   have:=R.isLow hb1;rw [R.slen,R.tlen] at this;simp only [AH.ext,uo] at this;exact Blk.low_up (by omega) (by omega) b this
  ·rw [um E] at z;rw [uq] at hb;refine hb b (uW (i:=i - h.blks.length) ?_);rw [uw,uv (by omega)];exact z
 have r3:=r.cut (h.blks.length+q) (h.toks.length+c) I;have X:(h.ext L M).cut (h.blks.length+q) (h.toks.length+c)=h.ext (L.take q) (M.take c):=by
  simp only [AH.cut,AH.ext,tX,uy];rw [uM (l:=h.blks) (by omega),uM (l:=h.toks) (by omega)]
 rw [X] at r3;have S:g1.le (g.cut (h.blks.length+q) (h.toks.length+c)):=Gh.le_cut2 hg (by rw [R.slen];simp only [AH.ext,uo];omega) (by rw [R.tlen];simp only [AH.ext,uo];omega);have p:(g.cut (h.blks.length+q) (h.toks.length+c)).τ.length=h.toks.length+c:=by
  rw [r3.tlen];simp only [AH.ext,uo,th];omega
 have A:=(Gh.le_addT (g.cut (h.blks.length+q) (h.toks.length+c)) D).trans (Gh.le_addS _ none);have hT:(((g.cut (h.blks.length+q) (h.toks.length+c)).addT D).addS none).τ[h.toks.length+c]?=some D:=by
  simp only [Gh.addT,Gh.addS];rw [um (pX p),p,p2];rfl
 have r4:=r3.newRowT D k es O (λb x E=>⟨λj u y U G=>by
  have hj1:j < h.toks.length+c:=by
   have:=(uc.1 U).1;simp only [Gh.cut,th] at this;omega
  have:=r.tinj _ _ _ _ b _ _ (take_sub U) C G E;omega,λj c' U=>r.sep j c' _ D b _ (take_sub U) C E,r.ntok C E,r.otok C E⟩)
  ⟨D,by rw [p];exact hT,e1,e2,e3,e4,e5.imp (λh=>h) λ⟨b,o,e,cs,ty,k1,k2,k3,k4,k5⟩=>⟨b,o,e,cs,ty,k1,k2,(VA.cut _ _ (wM e4) k3).mono A,k4,k5⟩⟩
 rw [p] at r4;have Y:VL g (env.set d .any) vs:=VL.setE hv d .any λ_ _=>by simp only [V]
 have Q:=VL.setE (VL.mono A _ _ (VL.cut _ _ K Y)) d (.rsl (h.blks.length+q) (h.toks.length+c) k D.n) λu G=>by
  rw [hvd] at G;injection G with G;subst G;simp only [V];exact ⟨a,cc,rfl,h1,h2,D,hT,J⟩
 rw [p3] at Q;refine ⟨_,S.trans A,?_,Q,λ_ h=>h⟩;refine Eq.subst (motive:=λH=>Rel _ _ _ H w) ?_ r4;simp [AH.ext,AH.new,uB]
theorem vJ {h:AH} {K:AV->AH->Prop} {A e:AV} {b:Nat} {a:List (List AV)} (H:HdS h B b a A) (I:e.low h.blks.length h.toks.length=true)
  (G:K (.tup [.rsl h.blks.length h.toks.length b a.length,e]) (h.ext [.row h.toks.length b a] [a.length])):finK h K (.tup [A,e]) (h.ext B T):=by
 refine wm (λB0 w0 w J N g vs E F r C=>?_) G;simp only [VL] at C;obtain ⟨v,_,rfl,D,rfl⟩:=C;simp only [V,VL] at D;obtain ⟨us,rfl,u,_,p,j,z,_,rfl,m,rfl⟩:=D;obtain ⟨g',q,l,n,s,i⟩:=rows1 E F r H j;refine ⟨g',q,l,?_,i⟩;simp only [VL,V];exact ⟨_,_,rfl,⟨us,rfl,u,_,p,by simpa only [V] using n,z,_,rfl,s e z I m,rfl⟩,rfl⟩
theorem ldC_arr1 {α:Type} {row:α->AV} {L:List α} {i:Int} {y:α} (a:zQ L i=some y) (b:L.map row=cs):ldC false 1 (0+i.toNat * 1) cs=some (row y):=by
 obtain ⟨h0,a⟩:=idxF a;subst b;simp only [ldC,tA,Nat.mul_one];simp [a]
theorem r_loopWE {P:Program} {Q:Exit->List AV->AH->Prop} {env:List AV} {h:AH} {ρ σ:Type} {body:Code} {f:σ->Option (Out ρ σ)} {m:σ} {rest:σ->Option ρ} {i:ρ} (U:σ->List (Nat×AV)) (H:σ->AH) (a:lp (zZ f m) rest=some i) {E:σ->List AV}
  (F:∀s,wg env (U s)=E s) (h0:wk h env h (E m) (H m))
  (hs:∀n s g,f s=some g->konN f n rest g=some i->vK P body (loopQ (λb A=>∃j,lp (wI f n j) rest=some i/\wk h b A (E j) (H j)) Q) (E s) (H s)) :
  vK P (.loop body) Q env h:=by
 obtain ⟨D,z⟩:∃n,lp (wI f n m) rest=some i:=by
  obtain ⟨g,l,w⟩:=lpF a;obtain ⟨n,G⟩:=loopW_is l
  grind
 refine r_loop2 (σ:=Nat×σ) (λp=>E p.2) (λp=>H p.2) (λp=>lp (wI f p.1 p.2) rest=some i) (λp=>p.1) (D,m) h0 z ?_
 rintro ⟨n,s⟩ a
 cases n with
 | zero=>simp [wI,lp] at a
 | succ n =>
  obtain ⟨g,l,w⟩:∃g,f s=some g/\konN f n rest g=some i:=by
   simp only [wI] at a;split at a
   ·cases a
   ·rename_i r q;exact ⟨.ret r,q,a⟩
   ·rename_i r q;exact ⟨.brk r,q,a⟩
   ·rename_i r q;exact ⟨.nxt r,q,a⟩
  refine wZ ?_ _ _ _ (hs n s g l w);intro x b A C;cases x with
  | normal =>
   obtain ⟨j,l,w⟩:=C;exact ⟨(n,j),l,by omega,.inr w⟩
  | _=>exact C

section
variable {P:Program} {o:Oper} {env:List AV} {h:AH}
def notI:TypeDesc->Bool
 | .interface _=>false
 | _=>true
theorem notI_agg (h:yp d=true):notI d=true:=by
 cases d <;> first | rfl | cases h
theorem b_mkI {a a':AV} (g:o.op=.makeInterface t x) (l:Ty P t d k) (hd:notI d=true) (n:yx env x=some a) (b:tyfix P t a=a'):xQ P o env h=some [(.iface t a',h)]:=by
 obtain ⟨j,i⟩:=zM n;have m:=l.u;unfold xQ;simp only [g,j,ur,m,i,b];cases d <;> first | rfl | cases hd
theorem b_tyA (a:o.op=.typeAssert x u t true) (j:Ty P t d k) (hd:notI d=true) (l:yx env x=some (.iface t v)):xQ P o env h=some [(.tup [v,.bool true],h)]:=by
 obtain ⟨g,b⟩:=zM l;have i:=j.u;unfold xQ;simp only [a,g,ur,i,b];cases d <;> first | (simp;done) | (simp [notI] at hd)
theorem b_cap (i:o.op=.call c) (p:c.callee=.builtin .cap) (j:c.args=#[x]) (b:c.argTypes=#[t]) (n:El P t e k) {a:AV} (q:yx env x=some a) (g:tyfix P t a=.osl none k2 es):xQ P o env h=some [(.int .i64 (es.length:Int),h)]:=by
 obtain ⟨m,l⟩:=zM q;unfold xQ;simp only [i,p,j,b,m,ur,n.u,l,g]
theorem b_cut0 (b:o.op=.slice t x none (some y) none) (a:El P t e k2) (p:yx env x=some (.osl none k [])) (g:yx env y=some (.int kd 0)):xQ P o env h=some [(.osl none k [],h)]:=by
 obtain ⟨m,j⟩:=zM p;obtain ⟨n,l⟩:=zM g;obtain ⟨i,hi,_⟩:=a.i;simp [xQ,b,m,j,n,l,a.u,hi]
def rcB (P:Program) (t:TypeId) (name:String):Option (FuncId×Bool):=match P.info? t with
 | some i=>match i.methods.toList.find? (λm=>m.name==name) with
  | some m=>if m.path.isEmpty then m.func else none
  | none=>none
 | none=>none
theorem rc_p (a:rcB P t name=some (f,true)) (j:Ty P t (.pointer e) k):aRecv P h t v name=some (f,v):=by
 unfold rcB at a;unfold aRecv;split at a
 ·split at a
  ·split at a
   ·rename_i _ i hi _ m g b;simp only [hi,g,b,ur,a,j.u]
   ·cases a
  ·cases a
 ·cases a
theorem rc_v {id:Nat} {x g:AV} (a:rcB P t name=some (f,false)) (s:Ty P t (.pointer e) k) (hd:Ty P e d k2) (r:qZ h (yp d) k2 (.ptr id off)=some x) (n:tyfix P e x=g):aRecv P h t (.ptr id off) name=some (f,g):=by
 unfold rcB at a;unfold aRecv;obtain ⟨j,q,b⟩:=hd.i;split at a
 ·split at a
  ·split at a
   ·rename_i _ i hi _ m p l;simp only [hi,p,l,ur,a,s.u,hd.u,q,b,r,uY,n]
   ·cases a
  ·cases a
 ·cases a
theorem ld_ext {j:Nat} {b:Bool} (a:L[j]?=some (.cells cs)) (g:ldC b k off cs=some v):qZ (h.ext L M) b k (.ptr (h.blks.length+j) off)=some v:=by
 simp only [qZ,yb,a];exact g
theorem vz {b:AV} {g:FuncId} {l:List (TypeId×AV)} {args:List AV} (j:o.op=.call c) (w:c.callee=.invoke x name) (z:yx env x=some (.iface t v)) (q:aRecv P h t v name=some (g,b))
  (m:argo env c.args.toList c.argTypes.toList=some l) (n:Fx P l args):zt P o env h=.call g (b::args):=by
 obtain ⟨r,p⟩:=zM z;obtain ⟨C,A,s⟩:=argo_ok (P:=P) m;have i:c.args.all yr=true:=by grind
 have a:(c.args.size==c.argTypes.size)=true:=by simp_all
 simp only [zt,j,i,a,tf,ur,w,r,p,s,q,<- n.eq];simp
theorem b_zeros {α:Type} {row:α->List AV} {B':List Blk} {T':List Nat} {d:α} {q t':Nat} {C:IntKind} {n:Int} {z:List AV} {a:AV} (K:o.op=.call c) (X:c.callee=.builtin .append) (V:c.args=#[x,y]) (p:c.argTypes=#[t,u]) (r:El P t e k) (Q:Ty P u (.int C) k2) (I:xl P e=some z) (b:xy z=some (row d))
  (A:(row d).length=k) (S:yx env x=some a) (J:tyfix P t a=.osl none k []) (O:yx env y=some (.int kd n)) (s:0 < n/\n<=(lim:Int)) (g:B.length=q) (l:T.length=t') (W:B++[.row (h.toks.length+t') k ((List.replicate n.toNat d).map row)]=B') (E:T++[n.toNat]=T') :
  xQ P o env (h.ext B T)=some [(.rsl (h.blks.length+q) (h.toks.length+t') k n.toNat,h.ext B' T')]:=by
 obtain ⟨F,w⟩:=zM S;obtain ⟨R,D⟩:=zM O;obtain ⟨j,H,U,G,N,_⟩:=r.i;subst g l W E;have m:z.length=k:=by rw [<- qt b,A]
 simp only [xQ,K,X,V,p,F,w,R,D,tf,ur,r.u,Q.u,I,H,J];rw [uv ⟨⟨U,m,G⟩,N,s.1,s.2⟩,b];simp [AH.ext,AH.new,uB]
end
end Go.Vv
