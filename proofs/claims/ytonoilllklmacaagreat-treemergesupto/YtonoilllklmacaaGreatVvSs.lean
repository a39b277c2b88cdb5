/- Texts are sorted: slices.Sort, by the shelf's contract. -/
import Derived.Test.YtonoilllklmacaaGreatVvSo
import Derived.Shelf.SortG.Plain
import Derived.Shelf.SortG.SortNone
import Derived.Shelf.Spec.SlicesInsertGrow
import Derived.Test.YtonoilllklmacaaGreatVvRb
set_option linter.all false
namespace Go.Vv
open Go Go.RowKit Go.Lib Go.Sort Go.Shelf Go.Proofs

def sortS (L:List zx):Option (List zx):=if L.length<=lim then some (L.mergeSort λx y=>decide (x<=y)) else none
theorem sortS_perm {L R:List zx} (h:sortS L=some R):R.Perm L:=by
 unfold sortS at h;split at h
 ·injection h with h;subst h;exact pb _ _
 ·cases h
theorem sortS_len {L R:List zx} (h:sortS L=some R):R.length=L.length:=(sortS_perm h).length_eq
theorem VA.strs {g:Gh}:∀(L:List zx) (vs:List Value),VA g (L.map zW).flatten vs->vs=L.map encStr/\∀s ∈ L,s.length<=maxLen
 | [],vs,h=>by simp only [tr,rP,VA] at h;subst h;simp
 | s::r,vs,h=>by
  simp only [uw,uU,rN,VA,V] at h;obtain ⟨v,t,rfl,⟨_,rfl,c⟩,b⟩:=h;obtain ⟨e,d⟩:=VA.strs r t b;refine ⟨by rw [e];rfl,λx a=>?_⟩;rcases uP.1 a with rfl | a
  ·exact c
  ·exact d x a
theorem VA.ofStrs {g:Gh}:∀(L:List zx),(∀s ∈ L,s.length<=maxLen)->VA g (L.map zW).flatten (L.map encStr)
 | [],_=>by simp [VA]
 | s::r,h=>by
  simp only [uw,uU,rN,VA,V];exact ⟨_,_,rfl,⟨rfl,rfl,h s (by simp)⟩,VA.ofStrs r λx a=>h x (by simp [a])⟩
theorem strs_pure (L:List zx):(L.map zW).flatten.all AV.pure=true:=by
 rw [ur];intro a b;obtain ⟨l,c,b⟩:=pB.1 b;obtain ⟨x,_,rfl⟩:=tz.1 c;rw [uE.1 b];rfl
theorem spec_sortS {P:Program} {ρ:Ren} (L:Go.Proofs.SlLaysN.n54 P ρ) {Lx R:List zx} (u:sortS Lx=some R)
  {q:Nat} {h:AH} {B0 B':List Blk} {T:List Nat} {i:Nat} (A:B0[i]?=some (.row q 1 (Lx.map zW))) (Z:B0.set i (.row q 1 (R.map zW))=B') :
  Spec P (ρ.f 54) [.rsl (h.blks.length+i) q 1 Lx.length] (h.ext B0 T) (λrr hh=>rr=.tup []/\hh=h.ext B' T):=by
 have W:(h.ext B0 T).blk (h.blks.length+i)=some (.row q 1 (Lx.map zW)):=by rw [yy];exact A
 have v:Lx.length<=lim/\R=Lx.mergeSort λx y=>decide (x<=y):=by
  unfold sortS at u;split at u
  ·rename_i hl;injection u with u;exact ⟨hl,u.symm⟩
  ·cases u
 have z:=sortS_perm u;have n:=sortS_len u;refine ⟨λvs w=>L.f54.enters rfl vs w,λB w0 _ g w vs r hv=>?_⟩;obtain ⟨us,rfl⟩:∃us:List Value,vs=us.toArray:=⟨vs.toList,by simp⟩
 simp only [VL,V] at hv;obtain ⟨v1,s1,N,⟨a,c,rfl,X,hm,t2,H,_,_,G⟩,rfl⟩:=hv;subst N;by_cases hLx:Lx=[]
 ·subst hLx;have hR:R=[]:=uH (by simpa using n);subst hR;refine (Go.Proofs.AnyG.slices_Sort_string_none L a c w).mono ?_
  rintro e w' ⟨rfl,rfl⟩
  have S:B0=B':=by
   rw [<- Z];refine uZ λj=>?_;by_cases p:j=i
   ·subst p;rw [uD (uc.1 A).1];exact A
   ·rw [uR (λe=>p e.symm)]
  exact ⟨_,_,_,g,rfl,⟨rfl,by rw [S]⟩,Gh.le.refl g,r,by simp only [V];exact ⟨#[],rfl,by simp [VL]⟩⟩
 ·obtain ⟨_,ti,M,htr,E,Y,hpe,I⟩:=r.rowAt W;obtain rfl:ti=t2:=by rw [M] at H;injection H
  simp only [ul] at E;obtain ⟨b',o',rfl,D⟩:=G.resolve_left (λhh=>hLx (uH hh.1));have d:=D E.symm;obtain ⟨b,o,e,cells,ty,U,k2,k3,k4,k5⟩:=I.resolve_left (by simpa using hLx);simp only [ul] at U k3 k4;rw [U] at d;injection d with d;injection d with N d;injection d with e2 _;obtain rfl:o=o':=by omega
  subst N;have Q:b < w.heap.size:=(uN.1 k2).1;obtain ⟨k6,k7⟩:=VA.strs Lx _ k3;have hH:Holds encStr w b o Lx.toArray:=λj p=>by
   have K:j < Lx.length:=by simpa using p
   refine ⟨?_,frozen_of_row w b (o+j) cells ty k2⟩;rw [cell_of_row w b (o+j) cells ty (0,0) k2];have h1:=congrArg (λl=>l[j]?) k6;simp only [uu,uB,uF,sn,uh K,uY,Nat.mul_one,K,ut] at h1;rw [h1,getElem!_pos _ j p];simp
  have k:=Go.Proofs.AnyG.slices_Sort_string L b o c Lx w hH Q (by have:=v.1;unfold lim at this;omega);rw [<- v.2] at k;refine Calls.mono k ?_
  rintro e w' ⟨rfl,m,os,rfl⟩
  let new:=putCells encStr o R.toArray cells
  have hw:grow (putRow encStr (Go.Sort.ahead w m) b o R.toArray) os=grow ((Go.Sort.ahead w m).setRow b new) os:=by
   unfold putRow;rw [mapBlock_setRow (w:=Go.Sort.ahead w m) (b:=b) _ k2]
  have J:new.size=cells.size:=by simp [new,putCells]
  have t:∀j,new[j]?=(cells[j]?).map λx=>if o<=j/\j < o+Lx.length then encStr (R.toArray[j - o]!) else x:=λj=>by
   simp only [new,putCells,Array.getElem?_mapIdx,s8,n]
  have C:(new.toList.drop o).take (Lx.length * 1)=R.map encStr:=by
   apply uZ;intro j;rw [uu];split
   ·rename_i p;have F:j < R.length:=by omega
    rw [uB,uF,t,uO (by omega),uY,uz ⟨by omega,by omega⟩,uv,sn,uh F,getElem!_pos _ j (by simpa using F)];simp
   ·rename_i p;rw [tF];simp [n];omega
  have r2:=(r.ahead m).storeRow (es':=R.map zW) (new:=new) (o:=o) W M (by simpa using U) k2 J (λj p=>by
    have O:¬ (o<=j/\j < o+Lx.length):=by omega
    rw [t];simp only [uM O];cases cells[j]? <;> rfl) (by simp [n]) (λe he=>by obtain ⟨x,_,rfl⟩:=tz.1 he;rfl) (strs_pure R)
   (by rw [ul,C];exact VA.ofStrs R λs hs=>k7 s (z.subset hs)) (by simpa using hLx)
  have r3:=r2.beyond (below_grow _ os);rw [hw];refine ⟨_,_,_,g,rfl,⟨rfl,?_⟩,Gh.le.refl g,r3,by simp only [V];exact ⟨#[],rfl,by simp [VL]⟩⟩;rw [ext_put,Z]
end Go.Vv
namespace Go.Vv
open Go Go.RowKit Go.Lib Go.Shelf Go.Proofs
variable {b j:Nat}

def rtV:Operand->TypeId->TypeId->TypeId
 | .tmp n,τ,t=>bif [13,24,44,61,66,81,87,91].any (· == n) then τ else t
 | _,_,t=>t
def rtA (τ:TypeId):List Operand->List TypeId->List TypeId
 | x::r,t::s=>rtV x τ t::rtA τ r s
 | _,s=>s
def rtOper (τ:TypeId):Oper->Oper
 | ⟨d,.move (.tmp 2),_,p,a,g⟩=>⟨d,.move (.tmp 2),τ,p,a,g⟩
 | ⟨d,.call ⟨f,x,y⟩,t,p,a,g⟩=>⟨d,.call ⟨f,x,(rtA τ x.toList y.toList).toArray⟩,t,p,a,g⟩
 | o=>o
def rtCode (τ:TypeId):Code->Code
 | .region id ops d=>.region id (ops.toList.map (rtOper τ)).toArray d
 | .seq a b=>.seq (rtCode τ a) (rtCode τ b)
 | .cond c a b=>.cond c (rtCode τ a) (rtCode τ b)
 | .block id b=>.block id (rtCode τ b)
 | .loop b=>.loop (rtCode τ b)
 | c=>c
noncomputable def insF (ρ:Ren) (τ:TypeId) (nm:String) (ta:Array TypeId):Func :=
 { Body2.n22 ρ with name:=nm,targs:=ta,params:=#[ρ.t 24,ρ.t 3,τ],body:=(Body2.n22 ρ).body.map (rtCode τ) }
theorem insF_ntmps (ρ:Ren) (τ:TypeId) (c:String) (a:Array TypeId):(insF ρ τ c a).ntmps=95:=Body2.n22_ntmps ρ

structure InsLays (P:Program) (ρ:Ren) (τ:TypeId) (k:Nat):Prop where
 mixed:P.follows .mixedOrders=true
 f22 : ∃ nm ta, P.funcs[ρ.f 22]? = some (insF ρ τ nm ta) ∧ (nm == "runtime.NumGoroutine") = false
 f29:∀(args:Array Value) (w:World),(callFunc (ρ.f 29) args).run P w=((Extern.SlicesOverlaps.overlaps #[τ,τ] #[ρ.t 4] args).run P w).andThen λv w'=>.ok (.value v) w'
 t0:P.underlying (ρ.t 0)=some (TypeDesc.tuple #[])
 a0:∀w,(isAgg (ρ.t 0)).run P w=.ok false w
 z0:∀w,(Go.sizeOf (ρ.t 0)).run P w=.ok 1 w
 v0:∀w,(zeroValue (ρ.t 0)).run P w=.ok (Value.tuple #[]) w
 t3:P.underlying (ρ.t 3)=some (TypeDesc.int IntKind.i64)
 a3:∀w,(isAgg (ρ.t 3)).run P w=.ok false w
 z3:∀w,(Go.sizeOf (ρ.t 3)).run P w=.ok 1 w
 v3:∀w,(zeroValue (ρ.t 3)).run P w=.ok (Value.int IntKind.i64 0) w
 t4:P.underlying (ρ.t 4)=some (TypeDesc.bool)
 a4:∀w,(isAgg (ρ.t 4)).run P w=.ok false w
 z4:∀w,(Go.sizeOf (ρ.t 4)).run P w=.ok 1 w
 v4:∀w,(zeroValue (ρ.t 4)).run P w=.ok (Value.bool false) w
 t24:P.underlying (ρ.t 24)=some (TypeDesc.slice (ρ.t 9))
 a24:∀w,(isAgg (ρ.t 24)).run P w=.ok false w
 z24:∀w,(Go.sizeOf (ρ.t 24)).run P w=.ok 1 w
 v24:∀w,(zeroValue (ρ.t 24)).run P w=.ok (Value.slice none 0 0) w
 t23:P.underlying τ=some (TypeDesc.slice (ρ.t 9))
 a23:∀w,(isAgg τ).run P w=.ok false w
 z23:∀w,(Go.sizeOf τ).run P w=.ok 1 w
 v23:∀w,(zeroValue τ).run P w=.ok (Value.slice none 0 0) w
 i9:∃i z,P.info? (ρ.t 9)=some i/\i.zero=some z/\i.size=k/\z.cells.size=k/\i.bytes<=65536
 k0:0 < k

section
variable {P:Program} {ρ:Ren} {τ:TypeId} {k:Nat}
theorem run_copyK {w:World} {dT sT ty c:TypeId} {i:TypeInfo} {o dLen dCap sLen sCap n:Nat} {a:Addr} {cs:List Value} {cur:Array Value} {l:TypeId}
  (q:P.underlying dT=some (.slice c)) (hi:P.info? c=some i) (r:n=Nat.min sLen dLen) (f:cs.length=n * i.size)
  (e:∀j v,cs[j]?=some v->w.cell? (a.add j)=some v) (hc:w.heap[b]?=some (.cells cur l (0,0))) (hfit:o+cs.length<=cur.size) (m:∀v ∈ cs,v.oneCell'=true) :
  (Builtin.copy_ #[dT,sT] ty #[.slice (some ⟨b,o,none⟩) dLen dCap,.slice (some a) sLen sCap]).run P w=.ok (goInt n) (w.setRow b (cur.toList.take o++cs++cur.toList.drop (o+cs.length)).toArray):=by
 have p:=run_loadCells_list (P:=P) w a cs e;have d:=run_storeCells_at P b o l cs 0 cur w hc (by omega) m;simp only [tL] at d;simp [Builtin.copy_,run_underlying q,Builtin.lenOf,Builtin.firstCells,sizeOf,typeInfo,hi,<- r,<- f,p,d]

set_option maxHeartbeats 4000000 in
set_option maxRecDepth 100000 in
theorem ins_end (L:InsLays P ρ τ k) {d:Option Addr} {n c m:Nat} {xa:Option Addr} {vc:Nat} {w r:World} {u:Value} (Q:0 < m) (E:n<=c) (s:c<=9223372036854775807) (l:d=none->c=0)
  (i:∀ty,(Builtin.append_ #[ρ.t 24,τ] ty #[.slice d n c,.slice xa m vc]).run P w=.ok u r) :
  Calls P (ρ.f 22) #[.slice d n c,.int .i64 n,.slice xa m vc] w λe w'=>e=.returned u/\w'=r:=by
 have t0:=L.t0;have a0:=L.a0;have z0:=L.z0;have v0:=L.v0;have t3:=L.t3;have a3:=L.a3;have z3:=L.z3;have v3:=L.v3;have t4:=L.t4;have a4:=L.a4;have z4:=L.z4;have v4:=L.v4;have t24:=L.t24;have a24:=L.a24;have z24:=L.z24;have v24:=L.v24;have t23:=L.t23;have a23:=L.a23;have z23:=L.z23;have v23:=L.v23;have F:=run_underlying L.t23;have M:=run_underlying L.t0;have O:=run_underlying L.t3;have N:=run_underlying L.t4;have J:=run_underlying L.t24;have mixed:=L.mixed;obtain ⟨i9,z9,q,H,o,v,z⟩:=L.i9;have y:∀w,(Go.sizeOf (ρ.t 9)).run P w=.ok k w:=λw=>by rw [<- o];exact xy q
 have A:¬ ((m:Int)=0):=by omega
 obtain ⟨x,C,D,I⟩:=L.f22
 go_enter D,insF_ntmps ρ τ x C
 simp only [rtCode,rtOper,rtA,rtV,uw,tr,pU,pX,Nat.reduceBEq,pV,pL,tg,pY,cond_true,cond_false];cases d with
 | none =>
  have h0:=l rfl;subst h0;have p:n=0:=by omega
  subst p
  go_wp2_with (at_builtin;refine Lib.wpList_append_run _ rfl _ _ _ _ rfl _ _ rfl rfl _ _ (i _) ?_)
  all_goals (go_ret;exact ⟨rfl,rfl⟩)
 | some a =>
  obtain ⟨ab,K,G⟩:=a
  go_wp2_with (at_builtin;refine Lib.wpList_append_run _ rfl _ _ _ _ rfl _ _ rfl rfl _ _ (i _) ?_)
  all_goals (go_ret;exact ⟨rfl,rfl⟩)

theorem ins_ov (L:InsLays P ρ τ k) {w:World} {b vb o vo m vc lb cb:Nat} {cur curv:Array Value} {ty tyv:TypeId} {frv:Nat×Nat} (hc:w.heap[b]?=some (.cells cur ty (0,0))) (hcv:w.heap[vb]?=some (.cells curv tyv frv)) (h0:0 < cur.size) (h0v:0 < curv.size)
  (hsep:vb=b->vo+m * k<=o) :
  (callFunc (ρ.f 29) #[.slice (some ⟨vb,vo,none⟩) m vc,.slice (some ⟨b,o,none⟩) lb cb]).run P w=.ok (.value (.bool false)) w:=by
 rw [L.f29];have hfz:∀j,w.frozen? ⟨b,j,none⟩=false:=λj=>by simp [World.frozen?,hc]
 have hsh:w.shape? b=some (ty,cur.size):=by simp [World.shape?,hc]
 obtain ⟨kv,hkv⟩:∃x,curv.size=x+1:=⟨curv.size - 1,by omega⟩
 have hshv:w.shape? vb=some (tyv,kv+1):=by simp [World.shape?,hcv,hkv]
 have hz0:¬ cur.size=0:=by omega
 have u24:=run_underlying L.t23;obtain ⟨i9,z9,hi9,hz9,hs9,hzc9,hb9⟩:=L.i9;have zz9:∀w,(Go.sizeOf (ρ.t 9)).run P w=.ok k w:=λw=>by rw [<- hs9];exact xy hi9
 have:(Extern.SlicesOverlaps.overlaps #[τ,τ] #[ρ.t 4] #[.slice (some ⟨vb,vo,none⟩) m vc,.slice (some ⟨b,o,none⟩) lb cb]).run P w=.ok (.bool false) w:=by
  change Sem.run P (α:=Value) (do
   let some t := some τ | stuck "none"
   let .slice elem <- underlying t | stuck _
   let size <- sizeOf elem
   match (some (⟨vb,vo,none⟩:Addr):Option Addr),(some (⟨b,o,none⟩:Addr):Option Addr) with
   | some a,some b =>
    if m=0 \/ lb=0 \/ size=0 then pure (Value.bool false)
    else if a.block != b.block&&(<- frozen a)&&(<- frozen b) then unsupported .addressObserved
    else do
     if a.block != b.block then do
      noView a;noView b
      if <- mayBeOne a b then return Value.bool ((<- choose _)==1)
     pure (Value.bool (a.block==b.block&&a.off < b.off+lb * size&&b.off < a.off+m * size))
   | _,_=>pure (Value.bool false)) w=_
  by_cases h1:m=0 \/ lb=0 \/ k=0
  ·simp [u24,zz9,h1]
  ·by_cases hb:vb=b
   ·simp_all
   ·have hnb:(vb != b)=true:=by simpa using hb
    simp [u24,zz9,h1,hb,frozen,noView,viewAt,mayBeOne,stringish,shape,Sem.run,hsh,hshv,hfz,hz0]
 simp_all
set_option maxHeartbeats 4000000 in
set_option maxRecDepth 100000 in
theorem ins_shift (L:InsLays P ρ τ k) {b o n c i vb vo m vc:Nat} {cs vs:List Value} {cur p:Array Value} {ty A:TypeId} {z:Nat×Nat} {w:World} (hi:i < n) (hm:0 < m) (F:n+m<=c) (W:c<=9223372036854775807)
  (hc:w.heap[b]?=some (.cells cur ty (0,0))) (hfit:o+c * k<=cur.size) (H:cs=(cur.toList.drop (o+i * k)).take ((n - i) * k)) (U:∀v ∈ cs,v.oneCell'=true)
  (s:w.heap[vb]?=some (.cells p A z)) (Q:∀j v,vs[j]?=some v->w.cell? ⟨vb,vo+j,none⟩=some v) (K:vs.length=m * k) (V:∀v ∈ vs,v.oneCell'=true) (D:vb=b->vo+m * k<=o) :
  Calls P (ρ.f 22) #[.slice (some ⟨b,o,none⟩) n c,.int .i64 i,.slice (some ⟨vb,vo,none⟩) m vc] w λe w'=>e=.returned (.slice (some ⟨b,o,none⟩) (n+m) c) /\
   w'=w.drew.setRow b (cur.toList.take (o+i * k)++(vs++cs)++cur.toList.drop (o+i * k+(vs++cs).length)).toArray:=by
 have t0:=L.t0;have a0:=L.a0;have z0:=L.z0;have v0:=L.v0;have t3:=L.t3;have a3:=L.a3;have z3:=L.z3;have v3:=L.v3;have t4:=L.t4;have a4:=L.a4;have z4:=L.z4;have v4:=L.v4;have t24:=L.t24;have a24:=L.a24;have z24:=L.z24;have v24:=L.v24;have t23:=L.t23;have a23:=L.a23;have z23:=L.z23;have v23:=L.v23;have u23:=run_underlying L.t23;have u0:=run_underlying L.t0;have u3:=run_underlying L.t3;have u4:=run_underlying L.t4;have u24:=run_underlying L.t24;have mixed:=L.mixed;have k0:=L.k0;obtain ⟨i9,z9,I,hz9,M,X,hb9⟩:=L.i9;have zz9:∀w,(Go.sizeOf (ρ.t 9)).run P w=.ok k w:=λw=>by rw [<- M];exact xy I
 have hnk:(n+m) * k<=c * k:=u7 k F;have hink:(i+m) * k+(n - i) * k=(n+m) * k:=by rw [<- te];congr 1;omega
 have hik:i * k+(n - i) * k=n * k:=by rw [<- te];congr 1;omega
 have himk:i * k+m * k=(i+m) * k:=by rw [<- te]
 have S:cs.length=(n - i) * k:=by rw [H,tq,rg,sx];omega
 have G:0 < cur.size:=by
  have:1 * 1<=c * k:=sB (by omega) k0;omega
 have hz1:¬ ((m:Int)=0):=by omega
 have hz2:¬ ((i:Int)=(n:Int)):=by omega
 have E:0 < p.size:=by
  have h1:0 < vs.length:=by rw [K];exact rV hm k0
  have Z:=Q 0 _ (uh h1);rw [cell_of_row w vb _ p A z s] at Z;have:=(uN.1 Z).1;omega
 have T:∀lb cb,(callFunc (ρ.f 29) #[.slice (some ⟨vb,vo,none⟩) m vc,.slice (some ⟨b,o+(i+m) * k,none⟩) lb cb]).run P w=.ok (.value (.bool false)) w:=λlb cb=>ins_ov L hc s G E λh=>by have:=D h;omega
 have hw1:IntKind.i64.wrap ((i:Int)+(m:Int))=(i:Int)+(m:Int):=by rw [IntKind.wrap_i64];omega
 have hb1:(0:Int)<=(i:Int)+(m:Int):=by omega
 have hin:i<=n:=by omega
 have htn:((i:Int)+(m:Int)).toNat=i+m:=by omega
 have hb2:¬ (c=i+m):=by omega
 have hb3:(i:Int)<=(n:Int)+(m:Int):=by omega
 have hb4:¬ (c=i):=by omega
 obtain ⟨d,l⟩:∃x,x=(cur.toList.take (o+(i+m) * k)++cs++cur.toList.drop (o+(i+m) * k+cs.length)).toArray:=⟨_,rfl⟩
 have hs1:d.size=cur.size:=by rw [l];simp;omega
 have y:w.drew.heap[b]?=some (.cells cur ty (0,0)):=hc;have R:∀ty J sc,(Builtin.copy_ #[(ρ.t 24),(ρ.t 24)] ty #[.slice (some ⟨b,o+(i+m) * k,none⟩) (n+m - (i+m)) J,.slice (some ⟨b,o+i * k,none⟩) (n+m - i) sc]).run P w.drew=.ok (goInt (n - i:Nat)) (w.drew.setRow b d):=λty J sc=>by
  have:=run_copyK (P:=P) (w:=w.drew) (dT:=ρ.t 24) (sT:=ρ.t 24) (ty:=ty) (i:=i9) (b:=b) (o:=o+(i+m) * k) (dLen:=n+m - (i+m)) (dCap:=J) (sLen:=n+m - i) (sCap:=sc) (n:=n - i) (a:=⟨b,o+i * k,none⟩) (cs:=cs) (cur:=cur)
   L.t24 I (by simp only [Nat.min_def];split <;> omega) (by rw [S,M]) (λj v r=>by
    rw [wi,cell_of_row w.drew b _ cur _ (0,0) y];rw [H,uu] at r;split at r
    ·rwa [uB,uF] at r
    ·cases r) y (by omega) U
  rw [this,l]
 have N:(w.drew.setRow b d).heap[b]?=some (.cells d ty (0,0)):=setRow_heap w.drew b cur d ty (0,0) y;obtain ⟨u,q⟩:∃x,x=(d.toList.take (o+i * k)++vs++d.toList.drop (o+i * k+vs.length)).toArray:=⟨_,rfl⟩
 have C:∀j v,vs[j]?=some v->(w.drew.setRow b d).cell? ⟨vb,vo+j,none⟩=some v:=λj v r=>by
  have h:=Q j v r;by_cases hb:vb=b
  ·have hs:=D hb;subst hb;rw [cell_of_row _ vb _ d ty (0,0) N];rw [cell_of_row w vb _ cur ty (0,0) hc] at h;have hjl:=(uc.1 r).1;rw [l,sD,uC,un (by simp;omega),uu,uz (by omega),uF];exact h
  ·obtain ⟨cv,Y⟩:∃cv,w.heap[vb]?=some cv:=⟨_,s⟩
   have e:(w.drew.setRow b d).heap[vb]?=w.heap[vb]?:=setRow_other w.drew b vb d hb;rw [cell_of_row _ vb _ p A z (e.trans s)];rw [cell_of_row w vb _ p A z s] at h;exact h
 have O:∀ty J,(Builtin.copy_ #[(ρ.t 24),τ] ty #[.slice (some ⟨b,o+i * k,none⟩) (n+m - i) J,.slice (some ⟨vb,vo,none⟩) m vc]).run P (w.drew.setRow b d)=.ok (goInt m) ((w.drew.setRow b d).setRow b u):=λty J=>by
  have:=run_copyK (P:=P) (w:=w.drew.setRow b d) (dT:=ρ.t 24) (sT:=τ) (ty:=ty) (i:=i9) (b:=b) (o:=o+i * k) (dLen:=n+m - i) (dCap:=J) (sLen:=m) (sCap:=vc) (n:=m) (a:=⟨vb,vo,none⟩) (cs:=vs) (cur:=d)
   L.t24 I (by simp only [Nat.min_def];split <;> omega) (by rw [K,M]) (λj v r=>by rw [wi];exact C j v r) N (by omega) V
  rw [this,q]
 have hfin:(w.drew.setRow b d).setRow b u=w.drew.setRow b (cur.toList.take (o+i * k)++(vs++cs)++cur.toList.drop (o+i * k+(vs++cs).length)).toArray:=by
  have e:u=(cur.toList.take (o+i * k)++(vs++cs)++cur.toList.drop (o+i * k+(vs++cs).length)).toArray:=by
   rw [q,l];congr 1;simp only [uC];congr 1
   ·rw [uV (by simp;omega),pP,sX (by omega)]
   ·congr 1;rw [sS,tj (by simp;omega)];simp only [tq,sx,uI];rw [sX (by omega),show o+i * k+vs.length - (o+(i+m) * k)=0 by omega,sa];simp only [uq];rw [show o+i * k+(vs.length+cs.length)=o+(i+m) * k+cs.length by omega]
  rw [<- e];unfold World.setRow;congr 1;apply pn;intro j;simp only [s5];by_cases r:b=j
  ·subst r;simp [y]
  ·simp [r]
 obtain ⟨nm,ta,hf,hnm⟩:=L.f22;clear l q H y N C
 go_enter hf,insF_ntmps ρ τ nm ta
 simp only [rtCode,rtOper,rtA,rtV,uw,tr,pU,pX,Nat.reduceBEq,pV,pL,tg,pY,cond_true,cond_false]
 go_wp2_with (simp only [T])
 go_region_law_o (refine step_copy_runI rfl _ _ (ρ.t 24) (ρ.t 24) rfl _ _ (by simp [Act.eval,Act.put]) (by simp [Act.eval,Act.put]) (R _ _ _) ?_)
 go_wp2_with (at_builtin;refine wpList_copy_runI _ rfl _ _ (ρ.t 24) τ rfl _ _ rfl rfl (O _ _) ?_)
 go_ret
 exact ⟨rfl,by simp [K,S]⟩

theorem cell_lt {w:World} {v:Value} (h:w.cell? ⟨b,j,none⟩=some v):b < w.heap.size:=World.block_lt_of_cell? w ⟨b,j,none⟩ h
theorem cell_alloc {w:World} {o:Obj} {v:Value} (h:w.cell? ⟨b,j,none⟩=some v):(w.alloc o).cell? ⟨b,j,none⟩=some v:=by
 rw [World.cell?_alloc_lt w o ⟨b,j,none⟩ (cell_lt h)];exact h
set_option maxHeartbeats 4000000 in
set_option maxRecDepth 100000 in
theorem ins_grow (L:InsLays P ρ τ k) {b o n c i vb vo m vc:Nat} {os cs vs:List Value} {z9:Value} {i9:TypeInfo} {w:World} (hi:i < n) (hm:0 < m) (hnc:n<=c) (M:c < n+m) (K:n+m<=lim)
  (s:P.info? (ρ.t 9)=some i9) (hz9:i9.zero=some z9)
  (hol:os.length=i * k) (U:∀j v,os[j]?=some v->w.cell? ⟨b,o+j,none⟩=some v) (hcl:cs.length=(n - i) * k) (T:∀j v,cs[j]?=some v->w.cell? ⟨b,o+i * k+j,none⟩=some v) (h1c:∀v ∈ cs,v.oneCell'=true)
  (hvs:∀j v,vs[j]?=some v->w.cell? ⟨vb,vo+j,none⟩=some v) (hvl:vs.length=m * k) (h1v:∀v ∈ vs,v.oneCell'=true) :
  Calls P (ρ.f 22) #[.slice (some ⟨b,o,none⟩) n c,.int .i64 i,.slice (some ⟨vb,vo,none⟩) m vc] w λe w' =>
   e=.returned (.slice (some ⟨w.heap.size,0,none⟩) (n+m) (grownCap w (n+m) c (ρ.t 9))) /\
   w'=w.drew.drew.alloc (.cells (os++(vs++cs)++(Builtin.zeroCells z9.cells (grownCap w (n+m) c (ρ.t 9) - (n+m))).toList).toArray (ρ.t 9)):=by
 have t0:=L.t0;have a0:=L.a0;have z0:=L.z0;have v0:=L.v0;have t3:=L.t3;have a3:=L.a3;have z3:=L.z3;have v3:=L.v3;have t4:=L.t4;have a4:=L.a4;have z4:=L.z4;have v4:=L.v4;have t24:=L.t24;have a24:=L.a24;have z24:=L.z24;have v24:=L.v24;have t23:=L.t23;have a23:=L.a23;have z23:=L.z23;have v23:=L.v23;have u23:=run_underlying L.t23;have u0:=run_underlying L.t0;have u3:=run_underlying L.t3;have u4:=run_underlying L.t4;have u24:=run_underlying L.t24;have mixed:=L.mixed;have k0:=L.k0;have Z:i9.size=k/\z9.cells.size=k/\i9.bytes<=65536:=by
  obtain ⟨i9',z9',hi9',hz9',h1,h2,h3⟩:=L.i9
  simp_all
 obtain ⟨y,D,hb9⟩:=Z;have zz9:∀w,(Go.sizeOf (ρ.t 9)).run P w=.ok k w:=λw=>by rw [<- y];exact xy s
 unfold lim at K;have hz1:¬ ((m:Int)=0):=by omega
 have hz2:¬ ((i:Int)=(n:Int)):=by omega
 have hz3:(c:Int) < (n:Int)+(m:Int):=by omega
 have hik:i+(n+m - i)=n+m:=by omega
 have hkk:(n:Int)+(m:Int) - (i:Int)=((n+m - i:Nat):Int):=by omega
 have q:(n+m) * i9.bytes<=140737488355328:=by
  have:=sB K hb9;omega
 have I:(Builtin.firstCells i9.size i (.slice (some ⟨b,o,none⟩) i c)).run P w.drew=.ok os.toArray w.drew:=run_firstCells_some w.drew i9.size i ⟨b,o,none⟩ i c os (by rw [y,hol]) (λj v r=>by rw [World.cell?_drew,wi];exact U j v r);have hki:(n+m - i) * i9.bytes<=(n+m) * i9.bytes:=u7 _ (by omega);have z:∀ty,(Builtin.append_ #[(ρ.t 24),(ρ.t 3)] ty #[.slice (some ⟨b,o,none⟩) i c,.int .i64 ((n:Int)+(m:Int) - (i:Int))]).run P w =
   .ok (.slice (some ⟨w.heap.size,0,none⟩) (n+m) (grownCap w (n+m) c (ρ.t 9))) (w.drew.alloc (.cells (os.toArray++Builtin.zeroCells z9.cells (n+m - i)++Builtin.zeroCells z9.cells (grownCap w (n+m) c (ρ.t 9) - (n+m))) (ρ.t 9))):=λty=>by
  have h:=Lib.run_append_grow_zeros w (ρ.t 24) (ρ.t 3) ty (ρ.t 9) i9 _ .i64 .i64 L.t24 L.t3 s hz9 (some ⟨b,o,none⟩) i c os I (n+m - i) (by omega) (by omega) (by omega) (by omega) (by omega) (by rw [hik];exact growslice_fits M q)
  simp_all
 obtain ⟨G,hG⟩:∃G,G=grownCap w (n+m) c (ρ.t 9):=⟨_,rfl⟩
 obtain ⟨ROW,p⟩:∃ROW:Array Value,ROW=os.toArray++Builtin.zeroCells z9.cells (n+m - i)++Builtin.zeroCells z9.cells (G - (n+m)):=⟨_,rfl⟩
 have hGn:n+m<=G:=by rw [hG];exact grownCap_ge w _ _ _
 have hG63:G<=9223372036854775807:=by
  have:=grownCap_le_maxLen w (n+m) c (ρ.t 9) (by unfold maxLen;omega);rw [<- hG] at this;unfold maxLen at this;omega
 rw [<- hG] at z ⊢;rw [<- p] at z;have hmk:i * k+m * k=(i+m) * k:=by grind
 have S:(i+m) * k+(n - i) * k=(n+m) * k:=by rw [<- te];congr 1;omega
 have hzk:i * k+(n+m - i) * k=(n+m) * k:=by grind
 have hGk:(n+m) * k+(G - (n+m)) * k=G * k:=by rw [<- te];congr 1;omega
 have hRs:ROW.size=G * k:=by rw [p];simp only [s7,s8,size_zeroCells,D,hol];omega
 have u:(w.drew.alloc (.cells ROW (ρ.t 9))).heap[w.heap.size]?=some (.cells ROW (ρ.t 9) (0,0)):=heap_alloc_new w.drew _;obtain ⟨W1,hW⟩:∃x,x=w.drew.alloc (.cells ROW (ρ.t 9)):=⟨_,rfl⟩
 rw [<- hW] at z u;obtain ⟨R2,W⟩:∃x,x=(ROW.toList.take (i * k)++vs++ROW.toList.drop (i * k+vs.length)).toArray:=⟨_,rfl⟩
 have R:R2.size=ROW.size:=by grind
 have A:∀j v,vs[j]?=some v->W1.cell? ⟨vb,vo+j,none⟩=some v:=λj v r=>by rw [hW];exact cell_alloc (by simp_all)
 have E:∀ty N,(Builtin.copy_ #[(ρ.t 24),τ] ty #[.slice (some ⟨w.heap.size,i * k,none⟩) (n+m - i) N,.slice (some ⟨vb,vo,none⟩) m vc]).run P W1=.ok (goInt m) (W1.setRow w.heap.size R2):=λty N=>by
  have:=run_copyK (P:=P) (w:=W1) (dT:=ρ.t 24) (sT:=τ) (ty:=ty) (i:=i9) (b:=w.heap.size) (o:=i * k) (dLen:=n+m - i) (dCap:=N) (sLen:=m) (sCap:=vc) (n:=m) (a:=⟨vb,vo,none⟩) (cs:=vs) (cur:=ROW)
   L.t24 s (by grind) (by rw [hvl,y]) (λj v r=>by rw [wi];exact A j v r) u (by omega) h1v
  simp_all
 have X:(W1.setRow w.heap.size R2).heap[w.heap.size]?=some (.cells R2 (ρ.t 9) (0,0)):=setRow_heap W1 _ ROW R2 _ (0,0) u;obtain ⟨W2,d⟩:∃x,x=(W1.setRow w.heap.size R2).drew:=⟨_,rfl⟩
 have H:W2.heap[w.heap.size]?=some (.cells R2 (ρ.t 9) (0,0)):=by rw [d];exact X
 obtain ⟨R3,O⟩:∃x,x=(R2.toList.take ((i+m) * k)++cs++R2.toList.drop ((i+m) * k+cs.length)).toArray:=⟨_,rfl⟩
 have C:∀j v,cs[j]?=some v->W2.cell? ⟨b,o+i * k+j,none⟩=some v:=λj v r=>by
  have h:=T j v r;have hb:=cell_lt h;have h2:W1.cell? ⟨b,o+i * k+j,none⟩=some v:=by rw [hW];exact cell_alloc (by simp_all)
  rw [d,World.cell?_drew];have e:(W1.setRow w.heap.size R2).heap[b]?=W1.heap[b]?:=setRow_other W1 w.heap.size b R2 (by omega);have hb1:b < W1.heap.size:=cell_lt h2;unfold World.cell? at h2 ⊢
  grind
 have V:∀ty N sc,(Builtin.copy_ #[(ρ.t 24),(ρ.t 24)] ty #[.slice (some ⟨w.heap.size,(i+m) * k,none⟩) (n+m - (i+m)) N,.slice (some ⟨b,o+i * k,none⟩) (n - i) sc]).run P W2=.ok (goInt (n - i:Nat)) (W2.setRow w.heap.size R3):=λty N sc=>by
  have:=run_copyK (P:=P) (w:=W2) (dT:=ρ.t 24) (sT:=ρ.t 24) (ty:=ty) (i:=i9) (b:=w.heap.size) (o:=(i+m) * k) (dLen:=n+m - (i+m)) (dCap:=N) (sLen:=n - i) (sCap:=sc) (n:=n - i) (a:=⟨b,o+i * k,none⟩) (cs:=cs) (cur:=R2)
   L.t24 s (by grind) (by rw [hcl,y]) (λj v r=>by rw [wi];exact C j v r) H (by omega) h1c
  simp_all
 have F:W2.setRow w.heap.size R3=w.drew.drew.alloc (.cells (os++(vs++cs)++(Builtin.zeroCells z9.cells (G - (n+m))).toList).toArray (ρ.t 9)):=by
  have e:R3=(os++(vs++cs)++(Builtin.zeroCells z9.cells (G - (n+m))).toList).toArray:=by
   rw [O,W,p];congr 1;have zl:(Builtin.zeroCells z9.cells (n+m - i)).toList.length=(n+m - i) * k:=by rw [sx,size_zeroCells,D]
   simp only [tw,uC];rw [uV (l₁:=os) (by omega),uK (l:=os) (by omega)];rw [<- uC os vs,uV (l₁:=os++vs) (by simp;omega),uK (l:=os++vs) (by simp;omega),uC];congr 2;congr 1;rw [sS,tj (l:=os++vs) (by simp;omega),uI];rw [uq,tn];rw [sS,tj (l:=os) (by omega),uI];rw [sS,tj (by omega),uI];rw [show i * k+vs.length+((i+m) * k+cs.length - (os.length+vs.length)) - os.length - (Builtin.zeroCells z9.cells (n+m - i)).toList.length=0 by omega,sa]
  rw [<- e,d,hW];unfold World.setRow World.alloc World.drew;simp only;congr 1;apply pn;intro j;simp only [s5,r8];by_cases r:w.heap.size=j
  ·grind
  ·grind
 have hGi:¬ (G=i):=by omega
 have hGim:¬ (G=i+m):=by omega
 have hci:¬ (c=i):=by omega
 have hw1:IntKind.i64.wrap ((i:Int)+(m:Int))=(i:Int)+(m:Int):=by rw [IntKind.wrap_i64];omega
 have hb1:(0:Int)<=(i:Int)+(m:Int):=by omega
 have hin:i<=n:=by omega
 have htn:((i:Int)+(m:Int)).toNat=i+m:=by omega
 have hb3:(i:Int)<=(n:Int):=by omega
 obtain ⟨nm,ta,hf,hnm⟩:=L.f22;obtain ⟨OB,Y⟩:∃x,x=Obj.cells (os++(vs++cs)++(Builtin.zeroCells z9.cells (G - (n+m))).toList).toArray (ρ.t 9):=⟨_,rfl⟩
 rw [<- Y] at F ⊢;obtain ⟨FIN,J⟩:∃x,x=w.drew.drew.alloc OB:=⟨_,rfl⟩
 rw [<- J] at F ⊢;obtain ⟨Wd,Q⟩:∃x,x=W1.setRow w.heap.size R2:=⟨_,rfl⟩
 rw [<- Q] at E d;subst d;clear hkk hik I p hG hRs W O R A C u X H U T hvs hGk S hmk hzk hki q hW Q Y J
 go_enter hf,insF_ntmps ρ τ nm ta
 simp only [rtCode,rtOper,rtA,rtV,uw,tr,pU,pX,Nat.reduceBEq,pV,pL,tg,pY,cond_true,cond_false]
 go_wp2_with (first
  | (at_builtin;refine Lib.wpList_append_run _ rfl _ _ _ _ rfl _ _ rfl rfl _ _ (z _) ?_)
  | (at_builtin;refine wpList_copy_runI _ rfl _ _ (ρ.t 24) τ rfl _ _ rfl rfl (E _ _) ?_))
 go_region_law_o (refine step_copy_runI rfl _ _ (ρ.t 24) (ρ.t 24) rfl (.slice (some ⟨w.heap.size,(i+m) * k,none⟩) (n+m - (i+m)) (G - (i+m))) (.slice (some ⟨b,o+i * k,none⟩) (n - i) (c - i)) (by simp [Act.eval,Act.put]) (by simp [Act.eval,Act.put]) (V (ρ.t 3) (G - (i+m)) (c - i)) ?_)
 go_wp2
 go_ret
 simp_all
end
section
variable {P:Program} {w:World} {g:Gh} {h:AH} {B:Nat} {w0:World}
theorem row_grow_in (r:Rel B w0 g h w) {id q k c:Nat} {es f:List (List AV)} {K:Option Addr} {a:List Value} (hs:V g (.rsl id q k es.length) (.slice K es.length c)) (X:∀e ∈ f,e.length=k) (E:VA g f.flatten a) (hpu:f.flatten.all AV.pure=true)
  (R:h.blk id=some (.row q k es)) (hy:f.length ≠ 0) (n:es.length+f.length<=c) :
  ∃b o cur ty,K=some ⟨b,o,none⟩/\w.heap[b]?=some (.cells cur ty (0,0))/\o+c * k<=cur.size/\(∀j,o+es.length * k<=j->g.Φ b j=none) /\
   ∃g',g.le g'/\Rel B w0 g' { h.put id (.row q k (es++f)) with toks:=h.toks.set q (es.length+f.length) } (w.setRow b (cur.toList.take (o+es.length * k)++a++cur.toList.drop (o+es.length * k+a.length)).toArray)/\V g' (.rsl id q k (es.length+f.length)) (.slice K (es.length+f.length) c):=by
 obtain ⟨Q,U,s,C,M,u,hpe,F⟩:=r.rowAt R;simp only [V] at hs;obtain ⟨a',c',L,hc1,O,t2,ht2,hrd,hle,i⟩:=hs;simp only [Value.slice.injEq] at L;obtain ⟨rfl,_,rfl⟩:=L;obtain rfl:U=t2:=by simp_all
 have i:(es.length=0/\c=0) \/ ∃b o,K=some ⟨b,o,none⟩/\U.loc=some (b,o+es.length * k,o+c * k):=i.imp (λh=>h) λ⟨b,o,Y,h2⟩=>⟨b,o,Y,h2 M.symm⟩
 have H:a.length=f.length * k:=by rw [<- E.length,yT X]
 have hfl:es.flatten.length=es.length * k:=yT u;rcases i with ⟨h0,Y⟩ | ⟨b,o,rfl,I⟩
 ·omega
 ·obtain ⟨_,D⟩:=r.tok _ _ s;have lo:=D b _ _ I;obtain ⟨cur,t,p,hce⟩:=lo.cells;have W:es.length * k+a.length<=c * k:=by rw [H,<- te];exact u7 _ n
  have d:VA g es.flatten ((cur.toList.drop o).take (es.length * k))/\∀j,o<=j->g.Φ b j=none:=by
   rcases F with rfl | ⟨b2,o2,J,cs,ty2,k1,k2,k3,k4,k5⟩
   ·exact ⟨by simp [VA],λj N=>lo.free j (by simp_all)⟩
   ·simp_all
  refine ⟨b,o,cur,t,rfl,p,by omega,λj N=>d.2 j (by omega),?_⟩;generalize hnew:(cur.toList.take (o+es.length * k)++a++cur.toList.drop (o+es.length * k+a.length)).toArray=new;have G:new.size=cur.size:=by grind
  have A:∀j,j < o+es.length * k->new[j]?=cur[j]?:=λj N=>by
   grind
  have r1:=r.setSpare s I p G A;have m:=setRow_heap w b cur new t (0,0) p;have y:(new.toList.drop o).take ((es.length+f.length) * k)=(cur.toList.drop o).take (es.length * k)++a:=by
   rw [<- hnew];simp only [uC];rw [sm (by simp;omega),pi,uv,te,<- H];rw [tV,uK (by simp;omega)];congr 1;rw [uV (by simp;omega),uK (by simp;omega)]
  let T:TI:=⟨es.length+f.length,some (b,o+(es.length+f.length) * k,o+c * k),true⟩
  have v:g.le (g.setT q T):=Gh.le_setT (t':=T) s (by grind) C.symm;have S:(g.setT q T).τ[q]?=some T:=uD (uc.1 s).1;have r2:=r1.setRow (t':=T) (q:=id) s (by grind) C rfl Q R (es':=es++f)
   ⟨T,S,rfl,by simp [T],λe L=>(uG.1 L).elim (u e) (X e),by grind,
    .inr ⟨b,o,o+c * k,new,t,by simp [T],m,by rw [uq,y,sf];exact (d.1.append E).mono v,by rw [uq,te];omega,d.2⟩⟩
   (λb' l e z=>by
    injection z with z;injection z with Z J;injection J with J e3;subst Z J e3;exact ⟨lo.lo,by grind,⟨new,t,m,by omega⟩,λj N=>lo.free j (by grind)⟩)
   (λb' x hx=>by grind)
  refine ⟨_,v,r2,?_⟩;simp only [V];exact ⟨some ⟨b,o,none⟩,c,rfl,n,O,T,S,rfl,ug _,.inr ⟨b,o,rfl,λ_=>rfl⟩⟩
theorem row_olds (r:Rel B w0 g h w) {id q k c:Nat} {es:List (List AV)} {s:Option Addr} (hs:V g (.rsl id q k es.length) (.slice s es.length c)) (z:h.blk id=some (.row q k es)) :
  ∃e:List Value,VA g es.flatten e/\(∀a,s=some a->∀j v,e[j]?=some v->w.cell? (a.add j)=some v):=by
 obtain ⟨L,J,E,F,n,l,A,m⟩:=r.rowAt z;simp only [V] at hs;obtain ⟨a',Q,u,O,G,y,H,N,M,i⟩:=hs;simp only [Value.slice.injEq] at u;obtain ⟨rfl,_,rfl⟩:=u;obtain rfl:J=y:=by simp_all
 have D:es.flatten.length=es.length * k:=yT l;rcases m with rfl | ⟨b,o,U,cs,ty2,x,k2,C,S,T⟩
 ·exact ⟨[],by rfl,λa _ j v t=>by simp at t⟩
 ·rcases i with ⟨h0,_⟩ | ⟨R,I,rfl,d⟩
  ·grind
  ·have d:=d n.symm;rw [x] at d;injection d with d;injection d with K f;injection f with f W;obtain rfl:o=I:=by omega
   subst K;refine ⟨_,C,λa p j v t=>?_⟩;injection p with p;subst p;rw [wi,cell_of_row w b (o+j) cs ty2 (0,0) k2]
   grind
theorem row_grow_out (r:Rel B w0 g h w) {id q k c C:Nat} {es f:List (List AV)} {ad:Option Addr} {a d rest:List Value} {e:TypeId} (hs:V g (.rsl id q k es.length) (.slice ad es.length c)) (W:∀e ∈ f,e.length=k) (A:VA g f.flatten d) (hpu:f.flatten.all AV.pure=true)
  (O:h.blk id=some (.row q k es)) (hy:f.length ≠ 0) (u:VA g es.flatten a) (N:es.length+f.length<=C) (I:C<=maxLen) (hr:rest.length=(C - (es.length+f.length)) * k) :
  ∃g',g.le g'/\Rel B w0 g' { h.put id (.row q k (es++f)) with toks:=h.toks.set q (es.length+f.length) } (w.drew.alloc (.cells (a++d++rest).toArray e))/\V g' (.rsl id q k (es.length+f.length)) (.slice (some ⟨w.heap.size,0,none⟩) (es.length+f.length) C):=by
 obtain ⟨L,ti,p,D,htn,m,hpe,X⟩:=r.rowAt O;have hnl:d.length=f.length * k:=by rw [<- A.length,yT W]
 have J:es.flatten.length=es.length * k:=yT m;have hol:a.length=es.length * k:=by rw [<- u.length,J]
 generalize hrow':(a++d++rest).toArray=row;have U:(es.length+f.length) * k+(C - (es.length+f.length)) * k=C * k:=by rw [<- te];congr 1;omega
 have S:row.size=C * k:=by grind
 have s:(row.toList.drop 0).take ((es.length+f.length) * k)=a++d:=by
  rw [<- hrow',sa];show (a++d++rest).take _=_;rw [uV (by grind),uK (by grind)]
 have o:∀j,g.Φ w.heap.size j=none:=λj=>by
  rcases M:g.Φ w.heap.size j with _ | v
  ·rfl
  ·exact absurd (r.phi_lt M) (tQ _)
 have Y:=(r.drew).alloc0 (.cells row e);have i:(w.drew.alloc (.cells row e)).heap[w.heap.size]?=some (.cells row e (0,0)):=heap_alloc_new w.drew _;have hsz:(es.length+f.length) * k<=C * k:=u7 k N;have R:LocOk g.Φ B (w.drew.alloc (.cells row e)) w.heap.size ((es.length+f.length) * k) (C * k) :=
  ⟨r.bsz,by simp,⟨row,e,i,by omega⟩,λj _=>o j⟩
 have z:∀(j E:Nat),g.σ[j]?=some (some E)->w.heap.size ≠ E:=λj E G e=>by
  have H:j < h.blks.length:=by rw [<- r.slen];exact (uc.1 G).1
  have:=(r.blk j E _ G (uh H)).2.1;omega
 have t:∀(j:Nat) (F:TI) (y:Nat×Nat),g.τ[j]?=some F->F.loc ≠ some (w.heap.size,y):=λj F y G e=>by
  have:=((r.tok j F G).2 _ _ _ e).lt;omega
 let T:TI:=⟨es.length+f.length,some (w.heap.size,(es.length+f.length) * k,C * k),true⟩
 have n:g.le (g.setT q T):=Gh.le_setT (t':=T) p (by grind) D.symm;have Q:(g.setT q T).τ[q]?=some T:=uD (uc.1 p).1;have r2:=Y.setRow (t':=T) (q:=id) p (by grind) D rfl L O (es':=es++f)
  ⟨T,Q,rfl,by simp [T],λe M=>(uG.1 M).elim (m e) (W e),by grind,
   .inr ⟨w.heap.size,0,C * k,row,e,by simp [T],i,by rw [uq,s,sf];exact (u.append A).mono n,by simp_all,λj _=>o j⟩⟩
  (λZ l e' hl'=>by grind)
  (λZ x K=>by injection K with K;injection K with e1 _;subst e1;exact .inr ⟨t,z,r.nnew (ug _),r.nold (ug _)⟩)
 refine ⟨_,n,r2,?_⟩;simp only [V];exact ⟨some ⟨w.heap.size,0,none⟩,C,rfl,N,I,T,Q,rfl,ug _,.inr ⟨w.heap.size,0,rfl,λ_=>by simp [T]⟩⟩
end
section
variable {P:Program} {ρ:Ren} {τ:TypeId} {k:Nat} {α:Type} {row:α->List AV}
theorem cells_at {w:World} {v:Value} (h:w.cell? ⟨b,j,none⟩=some v):∃cs ty fr,w.heap[b]?=some (.cells cs ty fr)/\cs[j]?=some v:=by
 unfold World.cell? at h
 grind
theorem spec_insO (L:InsLays P ρ τ k) (hk:∀x,(row x).length=k) {xs M R:List α} {z:Int} (hR:insO xs z M=some R) {a:AV} (ha:a=.sl k (M.map row) \/ a=.osl none k (M.map row)) {h:AH} {B B':List Blk} {T T':List Nat} {i q b' t':Nat}
  (hb:B[i]?=some (.row (h.toks.length+q) k (xs.map row))) (hbl:B.length=b') (htl:T.length=t') (hB:B.set i .dead++[.row (h.toks.length+t') k (R.map row)]=B') (hT:T.set q (xs.length+1)++[R.length]=T') :
  Spec P (ρ.f 22) [.rsl (h.blks.length+i) (h.toks.length+q) k xs.length,.int .i64 z,a] (h.ext B T) (λrr hh=>rr=.rsl (h.blks.length+b') (h.toks.length+t') k R.length/\hh=h.ext B' T'):=by
 unfold insO at hR;split at hR
 case isFalse=>cases hR
 rename_i hc;obtain ⟨⟨hz0,hzn⟩,hM0,hlim⟩:=hc;injection hR with hR;obtain ⟨n,rfl⟩:∃n:Nat,z=n:=⟨z.toNat,by omega⟩
 have hnx:n<=xs.length:=by omega
 rw [uy] at hR;have k0:=L.k0;obtain ⟨nm,ta,hf22,hnm⟩:=L.f22;refine ⟨λvs w=>?_,λB0 w0 _ g w vs r hv=>?_⟩
 ·have hne : ¬ nm = "runtime.NumGoroutine" := by simpa using hnm
  have hn2:(insF ρ τ nm ta).name=nm:=rfl;have hb2:¬ (insF ρ τ nm ta).body=none:=by
   intro e;have:(insF ρ τ nm ta).body.isSome=true:=rfl;rw [e] at this;cases this
  simp [callFunc,hf22,hn2,hne,hb2]
 obtain ⟨vs⟩:=vs;simp only [VL] at hv;obtain ⟨v1,_,rfl,hV1,v2,_,rfl,hV2,v3,_,rfl,hV3,rfl⟩:=hv;have hVs:=hV1;simp only [V] at hV1 hV2;obtain ⟨ad,c,rfl,hnc,hcm,_⟩:=hV1;subst hV2;obtain ⟨av,vc,rfl,hMv⟩:∃av vc,v3=.slice av M.length vc/\(M.map row=[] \/ ∃b o,av=some ⟨b,o,none⟩/\VE g b k o (M.map row)):=by
  rcases ha with rfl | rfl
  ·simp only [V] at hV3;obtain ⟨a1,c1,h1,_,_,h2⟩:=hV3
   simp_all
  ·simp only [V] at hV3;obtain ⟨a1,c1,h1,_,_,h2,_⟩:=hV3
   simp_all
 obtain ⟨vb,vo,rfl,hVE⟩:=hMv.resolve_left (by intro e;rw [pc] at e;subst e;simp at hM0);obtain ⟨hMl,hVC⟩:=VE_iff.1 hVE;obtain ⟨mvs,hmva,hmpu,hmφ⟩:=VC.toVA hVC;have hmvl:mvs.length=M.length * k:=by rw [<- hmva.length,flat_len hk]
 have hmcell:∀j v,mvs[j]?=some v->w.cell? ⟨vb,vo+j,none⟩=some v:=λj v hj=>r.phi _ _ _ (hmφ j v hj);have hblk:(h.ext B T).blk (h.blks.length+i)=some (.row (h.toks.length+q) k (xs.map row)):=by rw [yy];exact hb
 obtain ⟨hσ,ti,hti,htr,htn,hlen,hpe,hrow⟩:=r.rowAt hblk;have hfl:(xs.map row).flatten.length=xs.length * k:=flat_len hk xs
 -- shrunk to what is ahead of the place
 have hVs':V g (.rsl (h.blks.length+i) (h.toks.length+q) k (xs.map row).length) (.slice ad (xs.map row).length c):=by simpa using hVs
 obtain ⟨g1,hg1,r1,hh1⟩:=r.shrink (n:=n) (a':=ad) hblk (by simpa using hnx) (.inl rfl) hVs';have e1:(h.ext B T).shr (h.blks.length+i) (h.toks.length+q) k n (xs.map row)=h.ext (B.set i .dead++[.row (h.toks.length+t') k ((xs.take n).map row)]) (T.set q (xs.length+1)++[n]):=by
  simp only [AH.shr,AH.ext,AH.put,AH.new,AH.mk.injEq,uq,ul,pu];refine ⟨?_,?_⟩
  ·simp_all
  ·simp_all
 rw [e1] at r1;have eb:(h.ext B T).blks.length=h.blks.length+b':=by rw [<- hbl];simp [AH.ext]
 have et:(h.ext B T).toks.length=h.toks.length+t':=by rw [<- htl];simp [AH.ext]
 rw [eb,et] at hh1;have htk:(xs.take n).length=n:=by rw [tq];omega
 have hh1':V g1 (.rsl (h.blks.length+b') (h.toks.length+t') k ((xs.take n).map row).length) (.slice ad ((xs.take n).map row).length c):=by rw [ul,htk];exact hh1
 have hb1:(h.ext (B.set i .dead++[.row (h.toks.length+t') k ((xs.take n).map row)]) (T.set q (xs.length+1)++[n])).blk (h.blks.length+b')=some (.row (h.toks.length+t') k ((xs.take n).map row)):=by
  rw [yy,uj (by rw [uQ];omega),uQ,<- hbl,Nat.sub_self];rfl
 have hput:∀n2:Nat,({ (h.ext (B.set i .dead++[.row (h.toks.length+t') k ((xs.take n).map row)]) (T.set q (xs.length+1)++[n])).put (h.blks.length+b') (.row (h.toks.length+t') k (R.map row)) with
   toks:=(h.ext (B.set i .dead++[.row (h.toks.length+t') k ((xs.take n).map row)]) (T.set q (xs.length+1)++[n])).toks.set (h.toks.length+t') R.length }:AH)=h.ext B' T':=λn2=>by
  subst hB hT;simp only [AH.ext,AH.put,AH.mk.injEq];refine ⟨?_,?_⟩
  ·simp_all
  ·simp_all
 -- what comes behind
 let ys:=M++xs.drop n
 have hys:R=xs.take n++ys:=hR.symm;have hRl:R.length=xs.length+M.length:=by rw [hys];simp [ys];omega
 have hyl:ys.length=M.length+(xs.length - n):=by simp [ys]
 have htot:((xs.take n).map row).length+(ys.map row).length=R.length:=by rw [hys];simp
 have happ:(xs.take n).map row++ys.map row=R.map row:=by rw [hys];exact tN.symm
 have hyk:∀e ∈ ys.map row,e.length=k:=λe he=>by
  obtain ⟨x,_,rfl⟩:=tz.1 he;exact hk x
 have hypu:(ys.map row).flatten.all AV.pure=true:=by
  have h2:((xs.drop n).map row).flatten.all AV.pure=true:=by
   grind
  grind
 have hyn:(ys.map row).length ≠ 0:=by rw [ul,hyl];omega
 have hc63:c<=9223372036854775807:=by unfold maxLen at hcm;omega
 have hRm:R.length<=maxLen:=by unfold lim at hlim;unfold maxLen;omega
 -- the tail's cells
 obtain ⟨olds,holds,hoc⟩:=row_olds r hVs' hblk;have hol:olds.length=xs.length * k:=by rw [<- holds.length,hfl]
 have hkn:n * k+(xs.length - n) * k=xs.length * k:=by rw [<- te];congr 1;omega
 have hhead:VA g ((xs.take n).map row).flatten (olds.take (n * k)):=by rw [<- flat_take hk];exact holds.take _
 have htail:VA g ((xs.drop n).map row).flatten (olds.drop (n * k)):=by rw [<- flat_drop hk];exact holds.drop _
 have hyva:VA g (ys.map row).flatten (mvs++olds.drop (n * k)):=by simp only [ys,tN,sf];exact hmva.append htail
 have hyva1:=hyva.mono hg1;have hh2:=hhead.mono hg1;have hnil:ad=none->c=0:=λe=>by
  subst e;simp only [V] at hVs;obtain ⟨a2,c2,he,_,_,t2,ht2,_,_,hcap⟩:=hVs;simp only [Value.slice.injEq] at he
  grind
 have fin:∀{v:Value} {w':World} {g':Gh},g1.le g'->Rel B0 w0 g' { (h.ext (B.set i .dead++[.row (h.toks.length+t') k ((xs.take n).map row)]) (T.set q (xs.length+1)++[n])).put (h.blks.length+b') (.row (h.toks.length+t') k ((xs.take n).map row++ys.map row)) with
   toks:=(h.ext (B.set i .dead++[.row (h.toks.length+t') k ((xs.take n).map row)]) (T.set q (xs.length+1)++[n])).toks.set (h.toks.length+t') (((xs.take n).map row).length+(ys.map row).length) } w' ->
   V g' (.rsl (h.blks.length+b') (h.toks.length+t') k (((xs.take n).map row).length+(ys.map row).length)) v ->
   ∃v0 rr hh g'',Ending.returned v=.returned v0/\(rr=.rsl (h.blks.length+b') (h.toks.length+t') k R.length/\hh=h.ext B' T')/\g.le g''/\Rel B0 w0 g'' hh w'/\V g'' rr v0:=λ{v w' g'} hg' hr' hv'=>by
  rw [happ,htot,hput 0] at hr';rw [htot] at hv';exact ⟨v,_,_,g',rfl,⟨rfl,rfl⟩,hg1.trans hg',hr',hv'⟩
 obtain ⟨i9,z9,hi9,hz9,hs9,hzc9,hb9⟩:=L.i9;by_cases hend:n=xs.length
 ·-- at the end
  have hdn:xs.drop n=[]:=by rw [hend];exact List.drop_length
  have hodn:olds.drop (n * k)=[]:=by rw [tj];rw [hol,hend];exact ug _
  have hotn:olds.take (n * k)=olds:=uK (by rw [hol,hend];exact ug _);have hnews:∀W:World,(∀a v,w.cell? a=some v->W.cell? a=some v)->News P i9.size M.length (.slice (some ⟨vb,vo,none⟩) M.length vc) mvs W:=λW hW=>News.slice (by rw [hmvl,hs9]) λj v hj=>by rw [wi];exact hW _ _ (hmcell j v hj)
  by_cases hroom:xs.length+M.length<=c
  ·obtain ⟨b,o,cur,ty,rfl,hcur,hfit,hfree,g',hg',hr',hv'⟩:=row_grow_in r1 hh1' hyk hyva1 hypu hb1 hyn (by rw [htot,hRl];exact hroom);rw [hodn,sY] at hr';have hrun:=run_append_in (P:=P) (t:=ρ.t 24) (u:=τ) (ty:=0) L.t24 L.t23 (.inr ⟨_,rfl⟩) hi9 (hnews w λ_ _ h=>h) hmva.one' hcur (n:=xs.length) hroom (o:=o) (by rw [hs9,hmvl];have:=u7 k hroom;rw [te] at this;omega);have hrun':∀ty,(Builtin.append_ #[ρ.t 24,τ] ty #[.slice (some ⟨b,o,none⟩) xs.length c,.slice (some ⟨vb,vo,none⟩) M.length vc]).run P w=_:=λty=>run_append_in (P:=P) (t:=ρ.t 24) (u:=τ) (ty:=ty) L.t24 L.t23 (.inr ⟨_,rfl⟩) hi9 (hnews w λ_ _ h=>h) hmva.one' hcur (n:=xs.length) hroom (o:=o) (by rw [hs9,hmvl];have:=u7 k hroom;rw [te] at this;omega);have:=ins_end L (xa:=some ⟨vb,vo,none⟩) (vc:=vc) hM0 hnc hc63 hnil hrun';rw [hend];refine this.mono λe w' ⟨h1,h2⟩=>?_;subst h1 h2;rw [hs9,<- hend];rw [ul,htk] at hr';have hv2:((xs.take n).map row).length+(ys.map row).length=xs.length+M.length:=by rw [htot,hRl]
   refine fin hg' ?_ (by rw [hv2] at hv' ⊢;rw [hend];exact hv');rw [ul,htk];omega
  ·have hroom':c < xs.length+M.length:=by omega
   have hold:(Builtin.firstCells i9.size xs.length (.slice ad xs.length c)).run P w.drew=.ok olds.toArray w.drew:=by
    cases ad with
    | none =>
     have h0:=hnil rfl;have hx0:xs.length=0:=by omega
     have:olds=[]:=uH (by rw [hol,hx0];simp);subst this;rw [hx0];exact run_firstCells_none w.drew i9.size 0 0 c
    | some a=>exact run_firstCells_some w.drew i9.size xs.length a xs.length c olds (by rw [hs9];exact hol) λj v hj=>by rw [World.cell?_drew];exact hoc a rfl j v hj
   have hlim':(xs.length+M.length) * i9.bytes<=140737488355328:=by have:=sB hlim hb9;unfold lim at this;omega
   have hrun':∀ty,(Builtin.append_ #[ρ.t 24,τ] ty #[.slice ad xs.length c,.slice (some ⟨vb,vo,none⟩) M.length vc]).run P w=_:=λty=>run_append_out (P:=P) (t:=ρ.t 24) (u:=τ) (ty:=ty) L.t24 L.t23 (.inr ⟨_,rfl⟩) hi9 hz9 (hnews w λ_ _ h=>h) (hnews w.drew λ_ _ h=>h) hold hroom' (by unfold lim at hlim;simp only [maxLen];omega) (growslice_fits hroom' hlim');have:=ins_end L (xa:=some ⟨vb,vo,none⟩) (vc:=vc) hM0 hnc hc63 hnil hrun';rw [hend];refine this.mono λe w' ⟨h1,h2⟩=>?_;subst h1 h2;have hge:=grownCap_ge w (xs.length+M.length) c (ρ.t 9);have hgm:grownCap w (xs.length+M.length) c (ρ.t 9)<=maxLen:=grownCap_le_maxLen w _ c _ (by unfold lim at hlim;simp only [maxLen];omega);have htot2:((xs.take n).map row).length+(ys.map row).length=xs.length+M.length:=by rw [htot,hRl]
   obtain ⟨g',hg',hr',hv'⟩:=row_grow_out (C:=grownCap w (xs.length+M.length) c (ρ.t 9)) (rest:=(Builtin.zeroCells z9.cells (grownCap w (xs.length+M.length) c (ρ.t 9) - (xs.length+M.length))).toList) (e:=ρ.t 9) r1 hh1' hyk hyva1 hypu hb1 hyn hh2 (by rw [htot2];exact hge) hgm (by rw [sx,size_zeroCells,hzc9,htot2]);rw [hodn,hotn,sY] at hr';have ew:w.drew.alloc (.cells (olds.toArray++mvs.toArray++Builtin.zeroCells z9.cells (grownCap w (xs.length+M.length) c (ρ.t 9) - (xs.length+M.length))) (ρ.t 9))=w.drew.alloc (.cells (olds++mvs++(Builtin.zeroCells z9.cells (grownCap w (xs.length+M.length) c (ρ.t 9) - (xs.length+M.length))).toList).toArray (ρ.t 9)):=by
    congr 2;apply ph;simp
   rw [ew];exact fin hg' hr' (by rw [htot2] at hv' ⊢;exact hv')
 ·-- ahead of something
  have hlt:n < xs.length:=by omega
  have hne:xs.map row ≠ []:=by intro e;rw [pc] at e;subst e;simp at hlt
  obtain ⟨b,o,e2,cur,ty,k1,k2,k3,k4,k5⟩:=hrow.resolve_left hne;rw [ul] at k1 k3 k4;obtain ⟨rfl,lo⟩:ad=some ⟨b,o,none⟩/\o+c * k<=cur.size:=by
   simp only [V] at hVs;obtain ⟨a2,c2,he,_,_,t2,ht2,_,_,hcap⟩:=hVs;simp only [Value.slice.injEq] at he;obtain ⟨rfl,_,rfl⟩:=he;obtain rfl:ti=t2:=by rw [hti] at ht2;injection ht2
   rcases hcap with ⟨h0,_⟩ | ⟨b2,o2,rfl,hl2⟩
   ·omega
   ·rw [ul] at htn;have hl2:=hl2 htn.symm;have hl3:=hl2;rw [k1] at hl2;injection hl2 with hl2;injection hl2 with e1 hl2;injection hl2 with e2 _;obtain rfl:o=o2:=by omega
    subst e1;refine ⟨rfl,?_⟩;obtain ⟨cur',ty',hcur',hce⟩:=((r.tok _ _ hti).2 _ _ _ hl3).cells;rw [k2] at hcur';injection hcur' with hcur';injection hcur' with hcur' _ _;subst hcur';omega
  have hoe:olds=(cur.toList.drop o).take (xs.length * k):=by
   apply uZ;intro j;by_cases hj:j < xs.length * k
   ·have h1:=hoc _ rfl j _ (uh (by omega));rw [wi,cell_of_row w b (o+j) cur ty (0,0) k2] at h1;rw [uh (by omega),uu,uz hj,uB,uF,h1]
   ·rw [tF (by omega),tF (by simp;omega)]
  have hmpos:0 < M.length * k:=rV hM0 k0;obtain ⟨curv,tyv,frv,hcv,_⟩:=cells_at (hmcell 0 _ (uh (by omega)))
  have hsep:vb=b->vo+M.length * k<=o:=λe=>by
   subst e;rcases sy (vo+(M.length * k - 1)) o with h1 | h1
   ·omega
   ·have h2:=hmφ (M.length * k - 1) _ (uh (by omega));rw [k5 _ h1] at h2;cases h2
  have hod1:olds.drop (n * k)=(cur.toList.drop (o+n * k)).take ((xs.length - n) * k):=by
   rw [hoe,pi,tn];congr 1;omega
  by_cases hroom:xs.length+M.length<=c
  ·obtain ⟨b3,o3,cur3,ty3,hE,hcur3,hfit,hfree,g',hg',hr',hv'⟩:=row_grow_in (r1.drew) hh1' hyk hyva1 hypu hb1 hyn (by rw [htot,hRl];exact hroom);injection hE with hE;injection hE with hE1 hE2 _;subst hE1 hE2;have hcd:w.drew.heap[b]?=some (.cells cur ty (0,0)):=k2;rw [hcd] at hcur3;injection hcur3 with hcur3;injection hcur3 with hcur3 _ _;subst hcur3;have:=ins_shift L (vc:=vc) (vs:=mvs) hlt hM0 hroom hc63 k2 lo hod1 (λv hv=>(htail.one') v hv) hcv hmcell hmvl hmva.one' hsep;refine this.mono λe w' ⟨h1,h2⟩=>?_;subst h1 h2;have htot2:((xs.take n).map row).length+(ys.map row).length=xs.length+M.length:=by rw [htot,hRl]
   have hnn:((xs.take n).map row).length=n:=by rw [ul,htk]
   refine fin hg' ?_ (by rw [htot2] at hv' ⊢;exact hv');rw [hnn] at hr' ⊢;omega
  ·have hroom':c < xs.length+M.length:=by omega
   have:=ins_grow L (vc:=vc) (os:=olds.take (n * k)) (cs:=olds.drop (n * k)) (vs:=mvs) (b:=b) (o:=o) (vb:=vb) (vo:=vo) (z9:=z9) (i9:=i9) hlt hM0 hnc hroom' hlim hi9 hz9 (by rw [tq];omega)
    (λj v hj=>by
     rw [uu] at hj;split at hj
     ·have:=hoc _ rfl j v hj;rwa [wi] at this
     ·cases hj) (by rw [rg,hol];omega) (λj v hj=>by
     rw [uB] at hj;have:=hoc _ rfl _ v hj;rwa [wi,<- sZ] at this) (λv hv=>(htail.one') v hv) hmcell hmvl hmva.one'
   refine this.mono λe w' ⟨h1,h2⟩=>?_;subst h1 h2;have hge:=grownCap_ge w (xs.length+M.length) c (ρ.t 9);have hgm:grownCap w (xs.length+M.length) c (ρ.t 9)<=maxLen:=grownCap_le_maxLen w _ c _ (by unfold lim at hlim;simp only [maxLen];omega);have htot2:((xs.take n).map row).length+(ys.map row).length=xs.length+M.length:=by rw [htot,hRl]
   obtain ⟨g',hg',hr',hv'⟩:=row_grow_out (C:=grownCap w (xs.length+M.length) c (ρ.t 9)) (rest:=(Builtin.zeroCells z9.cells (grownCap w (xs.length+M.length) c (ρ.t 9) - (xs.length+M.length))).toList) (e:=ρ.t 9) (r1.drew) hh1' hyk hyva1 hypu hb1 hyn hh2 (by rw [htot2];exact hge) hgm (by rw [sx,size_zeroCells,hzc9,htot2]);exact fin hg' hr' (by rw [htot2] at hv' ⊢;exact hv')
end
end Go.Vv
namespace Go.Vv
open Go Go.RowKit
variable {c:Call} {k k2:Nat} {es:List (List AV)} {cs:List AV} {t e:TypeId} {x y:Operand} {kd:IntKind}
theorem wk_reB {h:AH} {env:List AV} {Le L L1 L2:List Blk} {Me M M2:List Nat} {jb o T c m n q:Nat} (hle1:Le.length<=q) (hle2:Me.length<=c) (hcm:c<=m) (hjq:jb < q) (hqr:q<=T) (hc:L[jb]?=some (.cells cs)) (hco:cs[o]?=some (.rsl (h.blks.length+T) (h.toks.length+m) k n)) (hr:L[T]?=some (.row (h.toks.length+m) k es)) (O:M[m]?=some n)
  (N:zR (h.blks.length+q) (h.toks.length+c) env=true) (hL1:(L.set jb (.cells (cs.set o .opq))).take q=L1) (hb:L1.all (λb=>b.low (h.blks.length+q) (h.toks.length+c))=true)
  (hL2:(L.take q).set jb (.cells (cs.set o (.rsl (h.blks.length+q) (h.toks.length+c) k n)))++[.row (h.toks.length+c) k es]=L2) (hM2:M.take c++[n]=M2):wk (h.ext Le Me) env (h.ext L M) env (h.ext L2 M2):=λB0 w0 w w1 g1 g vs U hg r hv=>by
 subst hL1 hL2 hM2;have C:(h.ext L M).blks[h.blks.length+jb]?=some (.cells cs):=by
  simp only [AH.ext];rw [uj (by omega),uv];exact hc
 have hr':(h.ext L M).blk (h.blks.length+T)=some (.row (h.toks.length+m) k es):=by rw [yy];exact hr
 have hjb:jb < L.length:=(uc.1 hc).1;have hjr:T < L.length:=(uc.1 hr).1;have hm:m < M.length:=(uc.1 O).1;have hsl:h.blks.length+jb < g.σ.length:=by rw [r.slen];exact (uc.1 C).1
 obtain ⟨x,hx⟩:∃x,g.σ[h.blks.length+jb]?=some x:=⟨_,uh hsl⟩
 cases x with
 | none=>exact (r.row _ _ hx C).elim
 | some c0 =>
  obtain ⟨_,_,⟨us,t,k1,k2⟩,_⟩:=r.blk _ c0 _ hx C;obtain ⟨v,S,hV⟩:=k2.toVL.get o _ hco;simp only [V] at hV;obtain ⟨a,cc,rfl,h1,h2,d,B,J⟩:=hV;obtain ⟨s,Q⟩:=r.tok _ _ B;have hn:d.n=n:=by
   simp only [AH.ext] at s;rw [uj (by omega),uv,O] at s;injection s with s;exact s.symm
  subst hn;obtain ⟨_,t2,ht2,e1,e2,e3,e4,e5⟩:=r.rowAt hr';obtain rfl:d=t2:=by simp_all
  -- the box without it
  have Z:VA g (cs.set o .opq) us.toList:=VA.mk (VL.setE k2.toVL o _ λu A=>by
   rw [S] at A;injection A with A;subst A;simp only [V];rfl) (by
   rw [ur];intro a G;rcases sg G with G | rfl
   ·have:=k2.ones;rw [ur] at this;exact this a G
   ·rfl)
  have r2:=r.putObj (k':=.cells (cs.set o .opq)) hx C (by simp) rfl rfl rfl rfl (λ_ _=>rfl) ⟨us,t,k1,Z⟩;have e2':(h.ext L M).put (h.blks.length+jb) (.cells (cs.set o .opq))=h.ext (L.set jb (.cells (cs.set o .opq))) M:=by
   simp only [AH.ext,AH.put];rw [sF _ _ (by omega),uv]
  rw [e2'] at r2
  -- the cut
  have I:∀(i:Nat) (b:Blk),i < h.blks.length+q->(h.ext (L.set jb (.cells (cs.set o .opq))) M).blks[i]?=some b->b.low (h.blks.length+q) (h.toks.length+c)=true:=by
   intro i b hi z;simp only [AH.ext] at z;rcases sy i h.blks.length with D | D
   ·rw [un D] at z;have hb1:(h.ext Le Me).blks[i]?=some b:=by simp only [AH.ext];rw [un D];exact z
    have:=U.isLow hb1;rw [U.slen,U.tlen] at this;simp only [AH.ext,uq] at this;exact Blk.low_up (by omega) (by omega) b this
   ·rw [uj D] at z;rw [ur] at hb;refine hb b (uX (i:=i - h.blks.length) ?_);rw [uu,uz (by omega)];exact z
  have r3:=r2.cut (h.blks.length+q) (h.toks.length+c) I;have e3':(h.ext (L.set jb (.cells (cs.set o .opq))) M).cut (h.blks.length+q) (h.toks.length+c)=h.ext ((L.set jb (.cells (cs.set o .opq))).take q) (M.take c):=by
   simp only [AH.cut,AH.ext,tV,uv];rw [uK (l:=h.blks) (by omega),uK (l:=h.toks) (by omega)]
  rw [e3'] at r3;have W:g1.le (g.cut (h.blks.length+q) (h.toks.length+c)):=Gh.le_cut2 hg (by rw [U.slen];simp only [AH.ext,uq];omega) (by rw [U.tlen];simp only [AH.ext,uq];omega)
  -- the row
  have f:(g.cut (h.blks.length+q) (h.toks.length+c)).τ.length=h.toks.length+c:=by
   rw [r3.tlen];simp only [AH.ext,uq,tq];omega
  have hlenS:(g.cut (h.blks.length+q) (h.toks.length+c)).σ.length=h.blks.length+q:=by
   rw [r3.slen];simp only [AH.ext,uq,tq,uQ];omega
  have p:=(Gh.le_addT (g.cut (h.blks.length+q) (h.toks.length+c)) d).trans (Gh.le_addS _ none);have hT:(((g.cut (h.blks.length+q) (h.toks.length+c)).addT d).addS none).τ[h.toks.length+c]?=some d:=by
   simp only [Gh.addT,Gh.addS];rw [uj (Nat.le_of_eq f),f,Nat.sub_self];rfl
  have r4:=r3.newRowT d k es Q (λb x D=>⟨λj u y hj A=>by
   have hj1:j < h.toks.length+c:=by
    have:=(uc.1 hj).1;simp only [Gh.cut,tq] at this;omega
   have:=r.tinj _ _ _ _ b _ _ (take_sub hj) B A D;omega,λj c' hj=>r.sep j c' _ d b _ (take_sub hj) B D,r.ntok B D,r.otok B D⟩)
   ⟨d,by rw [f];exact hT,e1,e2,e3,e4,e5.imp (λh=>h) λ⟨b,o,e,cs,ty,k1,k2,k3,k4,k5⟩=>⟨b,o,e,cs,ty,k1,k2,(VA.cut _ _ (vW e4) k3).mono p,k4,k5⟩⟩
  rw [f] at r4;have K:(((g.cut (h.blks.length+q) (h.toks.length+c)).addT d).addS none).σ[h.blks.length+jb]?=some (some c0):=p.sig _ _ (x9 (by omega) hx);generalize hH:(({ h.ext ((L.set jb (.cells (cs.set o .opq))).take q) (M.take c) with toks:=(h.ext ((L.set jb (.cells (cs.set o .opq))).take q) (M.take c)).toks++[d.n] }:AH).new (.row (h.toks.length+c) k es))=H4 at r4;have R:H4=h.ext ((L.set jb (.cells (cs.set o .opq))).take q++[.row (h.toks.length+c) k es]) (M.take c++[d.n]):=by
   rw [<- hH];simp [AH.ext,AH.new,uC]
  have Y:H4.blks[h.blks.length+jb]?=some (.cells (cs.set o .opq)):=by
   rw [R];simp only [AH.ext];rw [uj (by omega),uv,un (by rw [tq,uQ];omega),uu,uz hjq,uD hjb]
  obtain ⟨_,_,⟨F,t',E,k2'⟩,_⟩:=r4.blk _ c0 _ K Y;have hus:F=us:=by rw [k1] at E;simp only [ui,Obj.cells.injEq] at E;exact E.1.symm
  subst hus;have X:VA (((g.cut (h.blks.length+q) (h.toks.length+c)).addT d).addS none) (cs.set o (.rsl (h.blks.length+q) (h.toks.length+c) k d.n)) F.toList:=VA.mk (by
   have:=VL.setE k2'.toVL o (.rsl (h.blks.length+q) (h.toks.length+c) k d.n) λu A=>by
    rw [S] at A;injection A with A;subst A;simp only [V];exact ⟨a,cc,rfl,h1,h2,d,hT,J⟩
   rw [List.set_set] at this;exact this) (by
   rw [ur];intro a G;rcases sg G with G | rfl
   ·have:=k2.ones;rw [ur] at this;exact this a G
   ·rfl)
  have r5:=r4.putObj (k':=.cells (cs.set o (.rsl (h.blks.length+q) (h.toks.length+c) k d.n))) K Y (by simp) rfl rfl rfl rfl (λ_ _=>rfl) ⟨F,t',E,X⟩;refine ⟨_,W.trans p,?_,VL.mono p _ _ (VL.cut _ _ N hv),λ_ h=>h⟩;refine Eq.subst (motive:=λH=>Rel _ _ _ H w) ?_ r5;rw [R];simp only [AH.ext,AH.put,AH.mk.injEq,tM];rw [sF _ _ (by omega),uv,rX _ _ (by rw [tq,uQ];omega)];congr 2;rw [List.take_set,List.set_set]
theorem ldC_arr1 {α:Type} {row:α->AV} {L:List α} {i:Int} {y:α} (a:yB L i=some y) (hc:L.map row=cs):ldC false 1 (0+i.toNat * 1) cs=some (row y):=by
 obtain ⟨h0,a⟩:=idxF a;subst hc;simp only [ldC,tx,Nat.mul_one];simp [a]
section
variable {P:Program} {o:Oper} {env:List AV} {h:AH}
def notI:TypeDesc->Bool
 | .interface _=>false
 | _=>true
theorem b_mkI {a a':AV} {d:TypeDesc} (f:o.op=.makeInterface t x) (j:Ty P t d k) (hd:notI d=true) (m:yu env x=some a) (b:tyfix P t a=a'):wd P o env h=some [(.iface t a',h)]:=by
 obtain ⟨i,g⟩:=zX m;have l:=j.u;unfold wd;simp only [f,i,ut,l,g,b];cases d <;> first | rfl | cases hd
theorem b_cap (f:o.op=.call c) (hc:c.callee=.builtin .cap) (g:c.args=#[x]) (b:c.argTypes=#[t]) (l:El P t e k) {a:AV} (m:yu env x=some a) (d:tyfix P t a=.osl none k2 es):wd P o env h=some [(.int .i64 (es.length:Int),h)]:=by
 obtain ⟨j,i⟩:=zX m;unfold wd;simp only [f,hc,g,b,j,ut,l.u,i,d]
theorem b_cut0 (b:o.op=.slice t x none (some y) none) (a:El P t e k2) (m:yu env x=some (.osl none k [])) (d:yu env y=some (.int kd 0)):wd P o env h=some [(.osl none k [],h)]:=by
 obtain ⟨j,f⟩:=zX m;obtain ⟨l,g⟩:=zX d;obtain ⟨i,hi,_⟩:=a.i;simp [wd,b,j,f,l,g,a.u,hi]
theorem s_callI {name:String} {v b:AV} {g:FuncId} {l:List (TypeId×AV)} {args:List AV} (m:o.op=.call c) (hc:c.callee=.invoke x name) (q:yu env x=some (.iface t v)) (p:aRecv P h t v name=some (g,b))
  (n:argo env c.args.toList c.argTypes.toList=some l) (r:Fx P l args):zF P o env h=.call g (b::args):=by
 obtain ⟨i,f⟩:=zX q;obtain ⟨u,s,j⟩:=argo_ok (P:=P) n;have d:c.args.all yv=true:=by grind
 have a:(c.args.size==c.argTypes.size)=true:=by simp_all
 simp only [zF,m,d,a,uT,ut,hc,i,f,j,p,<- r.eq];simp
theorem b_zeros {α:Type} {row:α->List AV} {B B':List Blk} {T T':List Nat} {d:α} {u:TypeId} {p t':Nat} {w:IntKind} {n:Int} {z:List AV} {a:AV} (I:o.op=.call c) (hc:c.callee=.builtin .append) (Q:c.args=#[x,y]) (m:c.argTypes=#[t,u]) (q:El P t e k) (L:Ty P u (.int w) k2) (G:xl P e=some z) (b:xB z=some (row d))
  (v:(row d).length=k) (N:yu env x=some a) (H:tyfix P t a=.osl none k []) (K:yu env y=some (.int kd n)) (r:0 < n/\n<=(lim:Int)) (f:B.length=p) (g:T.length=t') (R:B++[.row (h.toks.length+t') k ((List.replicate n.toNat d).map row)]=B') (C:T++[n.toNat]=T') :
  wd P o env (h.ext B T)=some [(.rsl (h.blks.length+p) (h.toks.length+t') k n.toNat,h.ext B' T')]:=by
 obtain ⟨D,s⟩:=zX N;obtain ⟨M,A⟩:=zX K;obtain ⟨j,F,O,E,J,_⟩:=q.i;subst f g R C;have l:z.length=k:=by rw [<- qS b,v]
 simp only [wd,I,hc,Q,m,D,s,M,A,uT,ut,q.u,L.u,G,F,H];rw [uz ⟨⟨O,l,E⟩,J,r.1,r.2⟩,b];simp [AH.ext,AH.new,uC]
end
end Go.Vv
