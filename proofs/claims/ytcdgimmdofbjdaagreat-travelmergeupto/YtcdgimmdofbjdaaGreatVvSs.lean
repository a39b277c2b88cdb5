/- Texts are sorted: slices.Sort, by the shelf's contract. -/
import Derived.Test.YtcdgimmdofbjdaaGreatVvSo
import Derived.Shelf.SortG.Plain
import Derived.Shelf.SortG.SortNone
import Derived.Shelf.Spec.SlicesInsertGrow
import Derived.Test.YtcdgimmdofbjdaaGreatVvPt
set_option linter.all false
open Option renaming some→aa
open Option renaming none→ac
namespace Go.Vv
open Go Go.RowKit Go.Lib Go.Sort Go.Shelf Go.Proofs

def aR(L:List zp):Option (List zp):=if L.length<=lim then aa (L.mergeSort λx y=>decide (x<=y))else ac
theorem zd9{L R:List zp}(h:aR L=aa R):R.Perm L:=by
 unfold aR at h;split at h
 ·injection h with h;subst h;exact hJ _ _
 ·cases h
theorem nh{L R:List zp}(h:aR L=aa R):R.length=L.length:=(zd9 h).length_eq
theorem VA.strs{g:Gh}:∀(L:List zp)(vs:List Value),VA g (L.map yl).flatten vs->vs=L.map encStr/\∀s∈L,s.length<=maxLen
 |[],vs,h=>by simp only[l9,iT,VA]at h;subst h;simp
 |s::r,vs,h=>by
  simp only[m4,lO,ic,VA,V]at h;obtain⟨v,t,rfl,⟨_,rfl,c⟩,b⟩:=h;obtain⟨e,d⟩:=VA.strs r t b;refine⟨by rw[e];rfl,λx a=>?_⟩;rcases lx.1 a with rfl|a
  ·exact c
  ·exact d x a
theorem VA.az{g:Gh}:∀(L:List zp),(∀s∈L,s.length<=maxLen)->VA g (L.map yl).flatten (L.map encStr)
 |[],_=>by simp[VA]
 |s::r,h=>by
  simp only[m4,lO,ic,VA,V];exact⟨_,_,rfl,⟨rfl,rfl,h s (by simp)⟩,VA.az r λx a=>h x (by simp[a])⟩
theorem zlN(L:List zp):(L.map yl).flatten.all AV.pure=true:=by
 rw[oB];intro a b;obtain⟨l,c,b⟩:=gw.1 b;obtain⟨x,_,rfl⟩:=lH.1 c;rw[la.1 b];rfl
theorem zd6{P:Program}{ρ:Ren}(L:Go.Proofs.SlLaysN.n54 P ρ){Lx R:List zp}(u:aR Lx=aa R)
  {q:Nat} {h:AH} {B0 B':List q6} {T:List Nat} {i:Nat} (A:B0[i]?=aa (.row q 1 (Lx.map yl))) (Y:B0.set i (.row q 1 (R.map yl))=B') :
  Spec P (ρ.f 54) [.fo (h.zh.length+i) q 1 Lx.length] (h.ext B0 T) (λrr hh=>rr=.fl []/\hh=h.ext B' T):=by
 have U:(h.ext B0 T).g7 (h.zh.length+i)=aa (.row q 1 (Lx.map yl)):=by rw[zX];exact A
 have v:Lx.length<=lim/\R=Lx.mergeSort λx y=>decide (x<=y):=by
  unfold aR at u;split at u
  ·rename_i hl;injection u with u;exact⟨hl,u.symm⟩
  ·cases u
 have z:=zd9 u;have n:=nh u;refine⟨λvs w=>L.f54.enters rfl vs w,λB w0 _ g w vs r Z=>?_⟩;obtain⟨us,rfl⟩:∃us:List Value,vs=us.toArray:=⟨vs.toList,by simp⟩
 simp only[VL,V]at Z;obtain⟨v1,s1,N,⟨a,c,rfl,W,hm,t2,H,_,_,G⟩,rfl⟩:=Z;subst N;by_cases hLx:Lx=[]
 ·subst hLx;have hR:R=[]:=lA (by simpa using n);subst hR;refine(Go.Proofs.AnyG.slices_Sort_string_none L a c w).mono ?_
  rintro e w' ⟨rfl,rfl⟩
  have S:B0=B':=by
   rw[<- Y];refine lT λj=>?_;by_cases p:j=i
   ·subst p;rw[li (tu.1 A).1];exact A
   ·rw[lR (λe=>p e.symm)]
  exact⟨_,_,_,g,rfl,⟨rfl,by rw[S]⟩,Gh.le.refl g,r,by simp only[V];exact⟨#[],rfl,by simp[VL]⟩⟩
 ·obtain⟨_,ti,M,htr,E,X,hpe,I⟩:=r.rowAt U;obtain rfl:ti=t2:=by rw[M]at H;injection H
  simp only[oa]at E;obtain⟨b',o',rfl,D⟩:=G.resolve_left (λhh=>hLx (lA hh.1));have d:=D E.symm;obtain⟨b,o,e,cells,ty,k1,k2,k3,k4,k5⟩:=I.resolve_left (by simpa using hLx);simp only[oa]at k1 k3 k4;rw[k1]at d;injection d with d;injection d with N d;injection d with e2 _;obtain rfl:o=o':=by omega
  subst N;have Q:b<w.heap.size:=(l5.1 k2).1;obtain⟨k6,k7⟩:=VA.strs Lx _ k3;have hH:Holds encStr w b o Lx.toArray:=λj p=>by
   have K:j<Lx.length:=by simpa using p
   refine⟨?_,frozen_of_row w b (o+j) cells ty k2⟩;rw[cell_of_row w b (o+j) cells ty (0,0) k2];have h1:=congrArg (λl=>l[j]?) k6;simp only[ml,lj,lr,ie,rk K,lK,Nat.mul_one,K,oS]at h1;rw[h1,getElem!_pos _ j p];simp
  have k:=Go.Proofs.AnyG.slices_Sort_string L b o c Lx w hH Q (by have:=v.1;unfold lim at this;omega);rw[<- v.2]at k;refine Calls.mono k ?_
  rintro e w' ⟨rfl,m,os,rfl⟩
  let new:=putCells encStr o R.toArray cells
  have hw:grow (putRow encStr (Go.Sort.ahead w m) b o R.toArray) os=grow ((Go.Sort.ahead w m).setRow b new) os:=by
   unfold putRow;rw[mQ (w:=Go.Sort.ahead w m) (b:=b) _ k2]
  have J:new.size=cells.size:=by simp[new,putCells]
  have t:∀j,new[j]?=(cells[j]?).map λx=>if o<=j/\j<o+Lx.length then encStr (R.toArray[j-o]!)else x:=λj=>by
   simp only[new,putCells,Array.getElem?_mapIdx,iM,n]
  have C:(new.toList.drop o).take (Lx.length*1)=R.map encStr:=by
   apply lT;intro j;rw[ml];split
   ·rename_i p;have F:j<R.length:=by omega
    rw[lj,lr,t,lE (by omega),lK,nK ⟨by omega,by omega⟩,m3,ie,rk F,getElem!_pos _ j (by simpa using F)];simp
   ·rename_i p;rw[kL];simp[n];omega
  have r2:=(r.ahead m).dh (es':=R.map yl) (new:=new) (o:=o) U M (by simpa using k1) k2 J (λj p=>by
    have O:¬(o<=j/\j<o+Lx.length):=by omega
    rw[t];simp only[n4 O];cases cells[j]?<;>rfl) (by simp[n]) (λe he=>by obtain⟨x,_,rfl⟩:=lH.1 he;rfl) (zlN R)
   (by rw[oa,C];exact VA.az R λs hs=>k7 s (z.subset hs)) (by simpa using hLx)
  have r3:=r2.beyond (zbF _ os);rw[hw];refine⟨_,_,_,g,rfl,⟨rfl,?_⟩,Gh.le.refl g,r3,by simp only[V];exact⟨#[],rfl,by simp[VL]⟩⟩;rw[vU,Y]
end Go.Vv
namespace Go.Vv
open Go Go.RowKit Go.Lib Go.Shelf Go.Proofs
variable{b j:Nat}{v:Value}

def rtV:Operand->TypeId->TypeId->TypeId
 |.tmp n,τ,t=>bif [13,24,44,61,66,81,87,91].any (· == n)then τ else t
 |_,_,t=>t
def rtA(τ:TypeId):List Operand->List TypeId->List TypeId
 |x::r,t::s=>rtV x τ t::rtA τ r s
 |_,s=>s
def zjA(τ:TypeId):Oper->Oper
 |⟨d,.move (.tmp 2),_,p,a,g⟩=>⟨d,.move (.tmp 2),τ,p,a,g⟩
 |⟨d,.call ⟨f,x,y⟩,t,p,a,g⟩=>⟨d,.call ⟨f,x,(rtA τ x.toList y.toList).toArray⟩,t,p,a,g⟩
 |o=>o
def oW(τ:TypeId):Code->Code
 |.region id ops d=>.region id (ops.toList.map (zjA τ)).toArray d
 |.seq a b=>.seq (oW τ a) (oW τ b)
 |.cond c a b=>.cond c (oW τ a) (oW τ b)
 |.block id b=>.block id (oW τ b)
 |.loop b=>.loop (oW τ b)
 |c=>c
noncomputable def ztY(ρ:Ren)(τ:TypeId)(nm:String)(ta:Array TypeId):Func :=
 { Body2.n22 ρ with name:=nm,targs:=ta,params:=#[ρ.t 24,ρ.t 3,τ],body:=(Body2.n22 ρ).body.map (oW τ) }
theorem zbv(ρ:Ren)(τ:TypeId)(c:String)(a:Array TypeId):(ztY ρ τ c a).ntmps=95:=Body2.n22_ntmps ρ

structure eC(P:Program)(ρ:Ren)(τ:TypeId)(k:Nat):Prop where
 mixed:P.follows .mixedOrders=true
 f22 : ∃ nm ta, P.funcs[ρ.f 22]? = aa (ztY ρ τ nm ta)∧(nm == "runtime.NumGoroutine") = false
 f29:∀(args:Array Value)(w:World),(callFunc (ρ.f 29) args).run P w=((Extern.SlicesOverlaps.overlaps #[τ,τ] #[ρ.t 4] args).run P w).andThen λv w'=>.ok (.value v) w'
 t0:P.underlying (ρ.t 0)=aa (TypeDesc.tuple #[])
 a0:∀w,(isAgg (ρ.t 0)).run P w=.ok false w
 z0:∀w,(Go.sizeOf (ρ.t 0)).run P w=.ok 1 w
 v0:∀w,(zeroValue (ρ.t 0)).run P w=.ok (Value.tuple #[]) w
 t3:P.underlying (ρ.t 3)=aa (TypeDesc.int IntKind.i64)
 a3:∀w,(isAgg (ρ.t 3)).run P w=.ok false w
 z3:∀w,(Go.sizeOf (ρ.t 3)).run P w=.ok 1 w
 v3:∀w,(zeroValue (ρ.t 3)).run P w=.ok (Value.int IntKind.i64 0) w
 t4:P.underlying (ρ.t 4)=aa (TypeDesc.bool)
 a4:∀w,(isAgg (ρ.t 4)).run P w=.ok false w
 z4:∀w,(Go.sizeOf (ρ.t 4)).run P w=.ok 1 w
 v4:∀w,(zeroValue (ρ.t 4)).run P w=.ok (Value.bool false) w
 t24:P.underlying (ρ.t 24)=aa (TypeDesc.slice (ρ.t 9))
 a24:∀w,(isAgg (ρ.t 24)).run P w=.ok false w
 z24:∀w,(Go.sizeOf (ρ.t 24)).run P w=.ok 1 w
 v24:∀w,(zeroValue (ρ.t 24)).run P w=.ok (Value.slice ac 0 0) w
 t23:P.underlying τ=aa (TypeDesc.slice (ρ.t 9))
 a23:∀w,(isAgg τ).run P w=.ok false w
 z23:∀w,(Go.sizeOf τ).run P w=.ok 1 w
 v23:∀w,(zeroValue τ).run P w=.ok (Value.slice ac 0 0) w
 i9:∃i z,P.info? (ρ.t 9)=aa i/\i.zero=aa z/\i.size=k/\z.cells.size=k/\i.bytes<=65536
 k0:0<k

section
variable{P:Program}{ρ:Ren}{τ:TypeId}{k:Nat}
theorem zaL{w:World}{dT sT ty c:TypeId}{i:TypeInfo}{o dLen dCap sLen sCap n:Nat}{a:Addr}{cs:List Value}{cur:Array Value}{l:TypeId}
  (r:P.underlying dT=aa (.slice c)) (hi:P.info? c=aa i) (s:n=Nat.min sLen dLen) (f:cs.length=n*i.size)
  (e:∀j v,cs[j]?=aa v->w.cell? (a.add j)=aa v) (t:w.heap[b]?=aa (.cells cur l (0,0))) (m:o+cs.length<=cur.size) (p:∀v∈cs,v.oneCell'=true) :
  (Builtin.copy_ #[dT,sT] ty #[.slice (aa ⟨b,o,ac⟩) dLen dCap,.slice (aa a) sLen sCap]).run P w=.ok (goInt n) (w.setRow b (cur.toList.take o++cs++cur.toList.drop (o+cs.length)).toArray):=by
 have q:=run_loadCells_list (P:=P) w a cs e;have d:=run_storeCells_at P b o l cs 0 cur w t (by omega) p;simp only[ja]at d;simp[Builtin.copy_,run_underlying r,Builtin.lenOf,Builtin.firstCells,sizeOf,typeInfo,hi,<- s,<- f,q,d]

set_option maxHeartbeats 4000000 in
set_option maxRecDepth 100000 in
theorem zm2(L:eC P ρ τ k){base:Option Addr}{n c m:Nat}{xa:Option Addr}{vc:Nat}{w q:World}{s:Value}(Q:0<m)(E:n<=c)(r:c<=9223372036854775807)(i:base=ac->c=0)
  (d:∀ty,(Builtin.append_ #[ρ.t 24,τ] ty #[.slice base n c,.slice xa m vc]).run P w=.ok s q) :
  Calls P (ρ.f 22) #[.slice base n c,.int .i64 n,.slice xa m vc] w λe w'=>e=.returned s/\w'=q:=by
 have t0:=L.t0;have a0:=L.a0;have z0:=L.z0;have v0:=L.v0;have t3:=L.t3;have a3:=L.a3;have z3:=L.z3;have v3:=L.v3;have t4:=L.t4;have a4:=L.a4;have z4:=L.z4;have v4:=L.v4;have t24:=L.t24;have a24:=L.a24;have z24:=L.z24;have v24:=L.v24;have t23:=L.t23;have a23:=L.a23;have z23:=L.z23;have v23:=L.v23;have F:=run_underlying L.t23;have M:=run_underlying L.t0;have O:=run_underlying L.t3;have N:=run_underlying L.t4;have J:=run_underlying L.t24;have mixed:=L.mixed;obtain⟨i9,z9,p,H,l,u,z⟩:=L.i9;have y:∀w,(Go.sizeOf (ρ.t 9)).run P w=.ok k w:=λw=>by rw[<- l];exact wF p
 have A:¬((m:Int)=0):=by omega
 obtain⟨x,C,D,I⟩:=L.f22
 go_enter D,zbv ρ τ x C
 simp only[oW,zjA,rtA,rtV,m4,l9,iV,gR,Nat.reduceBEq,ia,im,lM,gG,cond_true,cond_false];cases base with
 |none =>
  have h0:=i rfl;subst h0;have o:n=0:=by omega
  subst o
  go_wp2_with (at_builtin;refine Lib.wpList_append_run _ rfl _ _ _ _ rfl _ _ rfl rfl _ _ (d _) ?_)
  all_goals (go_ret;exact⟨rfl,rfl⟩)
 |some a =>
  obtain⟨ab,K,G⟩:=a
  go_wp2_with (at_builtin;refine Lib.wpList_append_run _ rfl _ _ _ _ rfl _ _ rfl rfl _ _ (d _) ?_)
  all_goals (go_ret;exact⟨rfl,rfl⟩)

theorem ztV(L:eC P ρ τ k){w:World}{b vb o vo m vc lb cb:Nat}{cur curv:Array Value}{ty tyv:TypeId}{frv:Nat×Nat}(hc:w.heap[b]?=aa (.cells cur ty (0,0)))(hcv:w.heap[vb]?=aa (.cells curv tyv frv))(h0:0<cur.size)(h0v:0<curv.size)
  (hsep:vb=b->vo+m*k<=o) :
  (callFunc (ρ.f 29) #[.slice (aa ⟨vb,vo,ac⟩) m vc,.slice (aa ⟨b,o,ac⟩) lb cb]).run P w=.ok (.value (.bool false)) w:=by
 rw[L.f29];have hfz:∀j,w.frozen? ⟨b,j,ac⟩=false:=λj=>by simp[World.frozen?,hc]
 have hsh:w.shape? b=aa (ty,cur.size):=by simp[World.shape?,hc]
 obtain⟨kv,hkv⟩:∃x,curv.size=x+1:=⟨curv.size-1,by omega⟩
 have hshv:w.shape? vb=aa (tyv,kv+1):=by simp[World.shape?,hcv,hkv]
 have hz0:¬cur.size=0:=by omega
 have u24:=run_underlying L.t23;obtain⟨i9,z9,hi9,hz9,hs9,hzc9,hb9⟩:=L.i9;have zz9:∀w,(Go.sizeOf (ρ.t 9)).run P w=.ok k w:=λw=>by rw[<- hs9];exact wF hi9
 have:(Extern.SlicesOverlaps.overlaps #[τ,τ] #[ρ.t 4] #[.slice (aa ⟨vb,vo,ac⟩) m vc,.slice (aa ⟨b,o,ac⟩) lb cb]).run P w=.ok (.bool false) w:=by
  change Sem.run P (α:=Value) (do
   let aa t := aa τ|stuck "none"
   let .slice elem <- underlying t|stuck _
   let size <- sizeOf elem
   match (aa (⟨vb,vo,ac⟩:Addr):Option Addr),(aa (⟨b,o,ac⟩:Addr):Option Addr)with
   |some a,aa b =>
    if m=0 \/ lb=0 \/ size=0 then pure (Value.bool false)
    else if a.block != b.block&&(<- frozen a)&&(<- frozen b)then unsupported .addressObserved
    else do
     if a.block != b.block then do
      noView a;noView b
      if <- mayBeOne a b then return Value.bool ((<- choose _)==1)
     pure (Value.bool (a.block==b.block&&a.off<b.off+lb*size&&b.off<a.off+m*size))
   |_,_=>pure (Value.bool false)) w=_
  by_cases h1:m=0 \/ lb=0 \/ k=0
  ·simp[u24,zz9,h1]
  ·by_cases hb:vb=b
   ·simp_all
   ·have hnb:(vb != b)=true:=by simpa using hb
    simp[u24,zz9,h1,hb,frozen,noView,viewAt,mayBeOne,stringish,shape,Sem.run,hsh,hshv,hfz,hz0]
 simp_all
set_option maxHeartbeats 4000000 in
set_option maxRecDepth 100000 in
theorem zm0(L:eC P ρ τ k){b o n c i vb vo m vc:Nat}{cs vs:List Value}{cur p:Array Value}{ty A:TypeId}{z:Nat×Nat}{w:World}(hi:i<n)(hm:0<m)(F:n+m<=c)(X:c<=9223372036854775807)
  (T:w.heap[b]?=aa (.cells cur ty (0,0))) (hfit:o+c*k<=cur.size) (H:cs=(cur.toList.drop (o+i*k)).take ((n-i)*k)) (V:∀v∈cs,v.oneCell'=true)
  (s:w.heap[vb]?=aa (.cells p A z)) (Q:∀j v,vs[j]?=aa v->w.cell? ⟨vb,vo+j,ac⟩=aa v) (K:vs.length=m*k) (W:∀v∈vs,v.oneCell'=true) (D:vb=b->vo+m*k<=o) :
  Calls P (ρ.f 22) #[.slice (aa ⟨b,o,ac⟩) n c,.int .i64 i,.slice (aa ⟨vb,vo,ac⟩) m vc] w λe w'=>e=.returned (.slice (aa ⟨b,o,ac⟩) (n+m) c) /\
   w'=w.drew.setRow b (cur.toList.take (o+i*k)++(vs++cs)++cur.toList.drop (o+i*k+(vs++cs).length)).toArray:=by
 have t0:=L.t0;have a0:=L.a0;have z0:=L.z0;have v0:=L.v0;have t3:=L.t3;have a3:=L.a3;have z3:=L.z3;have v3:=L.v3;have t4:=L.t4;have a4:=L.a4;have z4:=L.z4;have v4:=L.v4;have t24:=L.t24;have a24:=L.a24;have z24:=L.z24;have v24:=L.v24;have t23:=L.t23;have a23:=L.a23;have z23:=L.z23;have v23:=L.v23;have u23:=run_underlying L.t23;have u0:=run_underlying L.t0;have u3:=run_underlying L.t3;have u4:=run_underlying L.t4;have u24:=run_underlying L.t24;have mixed:=L.mixed;have k0:=L.k0;obtain⟨i9,z9,I,hz9,M,Y,hb9⟩:=L.i9;have zz9:∀w,(Go.sizeOf (ρ.t 9)).run P w=.ok k w:=λw=>by rw[<- M];exact wF I
 have hnk:(n+m)*k<=c*k:=lY k F;have hink:(i+m)*k+(n-i)*k=(n+m)*k:=by rw[<- ka];congr 1;omega
 have hik:i*k+(n-i)*k=n*k:=by rw[<- ka];congr 1;omega
 have himk:i*k+m*k=(i+m)*k:=by rw[<- ka]
 have S:cs.length=(n-i)*k:=by rw[H,ke,jC,jz];omega
 have G:0<cur.size:=by
  have:1*1<=c*k:=j0 (by omega) k0;omega
 have hz1:¬((m:Int)=0):=by omega
 have hz2:¬((i:Int)=(n:Int)):=by omega
 have E:0<p.size:=by
  have h1:0<vs.length:=by rw[K];exact iW hm k0
  have h2:=Q 0 _ (rk h1);rw[cell_of_row w vb _ p A z s]at h2;have:=(l5.1 h2).1;omega
 have U:∀lb cb,(callFunc (ρ.f 29) #[.slice (aa ⟨vb,vo,ac⟩) m vc,.slice (aa ⟨b,o+(i+m)*k,ac⟩) lb cb]).run P w=.ok (.value (.bool false)) w:=λlb cb=>ztV L T s G E λh=>by have:=D h;omega
 have hw1:IntKind.i64.wrap ((i:Int)+(m:Int))=(i:Int)+(m:Int):=by rw[IntKind.wrap_i64];omega
 have hb1:(0:Int)<=(i:Int)+(m:Int):=by omega
 have hin:i<=n:=by omega
 have htn:((i:Int)+(m:Int)).toNat=i+m:=by omega
 have hb2:¬(c=i+m):=by omega
 have hb3:(i:Int)<=(n:Int)+(m:Int):=by omega
 have hb4:¬(c=i):=by omega
 obtain⟨d,l⟩:∃x,x=(cur.toList.take (o+(i+m)*k)++cs++cur.toList.drop (o+(i+m)*k+cs.length)).toArray:=⟨_,rfl⟩
 have hs1:d.size=cur.size:=by rw[l];simp;omega
 have y:w.drew.heap[b]?=aa (.cells cur ty (0,0)):=T;have R:∀ty J sc,(Builtin.copy_ #[(ρ.t 24),(ρ.t 24)] ty #[.slice (aa ⟨b,o+(i+m)*k,ac⟩) (n+m-(i+m)) J,.slice (aa ⟨b,o+i*k,ac⟩) (n+m-i) sc]).run P w.drew=.ok (goInt (n-i:Nat)) (w.drew.setRow b d):=λty J sc=>by
  have:=zaL (P:=P) (w:=w.drew) (dT:=ρ.t 24) (sT:=ρ.t 24) (ty:=ty) (i:=i9) (b:=b) (o:=o+(i+m)*k) (dLen:=n+m-(i+m)) (dCap:=J) (sLen:=n+m-i) (sCap:=sc) (n:=n-i) (a:=⟨b,o+i*k,ac⟩) (cs:=cs) (cur:=cur)
   L.t24 I (by simp only[Nat.min_def];split<;>omega) (by rw[S,M]) (λj v r=>by
    rw[vm,cell_of_row w.drew b _ cur _ (0,0) y];rw[H,ml]at r;split at r
    ·rwa[lj,lr]at r
    ·cases r) y (by omega) V
  rw[this,l]
 have N:(w.drew.setRow b d).heap[b]?=aa (.cells d ty (0,0)):=setRow_heap w.drew b cur d ty (0,0) y;obtain⟨u,q⟩:∃x,x=(d.toList.take (o+i*k)++vs++d.toList.drop (o+i*k+vs.length)).toArray:=⟨_,rfl⟩
 have C:∀j v,vs[j]?=aa v->(w.drew.setRow b d).cell? ⟨vb,vo+j,ac⟩=aa v:=λj v r=>by
  have h:=Q j v r;by_cases hb:vb=b
  ·have hs:=D hb;subst hb;rw[cell_of_row _ vb _ d ty (0,0) N];rw[cell_of_row w vb _ cur ty (0,0) T]at h;have hjl:=(tu.1 r).1;rw[l,jH,lf,ol (by simp;omega),ml,nK (by omega),lr];exact h
  ·obtain⟨cv,Z⟩:∃cv,w.heap[vb]?=aa cv:=⟨_,s⟩
   have e:(w.drew.setRow b d).heap[vb]?=w.heap[vb]?:=setRow_other w.drew b vb d hb;rw[cell_of_row _ vb _ p A z (e.trans s)];rw[cell_of_row w vb _ p A z s]at h;exact h
 have O:∀ty J,(Builtin.copy_ #[(ρ.t 24),τ] ty #[.slice (aa ⟨b,o+i*k,ac⟩) (n+m-i) J,.slice (aa ⟨vb,vo,ac⟩) m vc]).run P (w.drew.setRow b d)=.ok (goInt m) ((w.drew.setRow b d).setRow b u):=λty J=>by
  have:=zaL (P:=P) (w:=w.drew.setRow b d) (dT:=ρ.t 24) (sT:=τ) (ty:=ty) (i:=i9) (b:=b) (o:=o+i*k) (dLen:=n+m-i) (dCap:=J) (sLen:=m) (sCap:=vc) (n:=m) (a:=⟨vb,vo,ac⟩) (cs:=vs) (cur:=d)
   L.t24 I (by simp only[Nat.min_def];split<;>omega) (by rw[K,M]) (λj v r=>by rw[vm];exact C j v r) N (by omega) W
  rw[this,q]
 have hfin:(w.drew.setRow b d).setRow b u=w.drew.setRow b (cur.toList.take (o+i*k)++(vs++cs)++cur.toList.drop (o+i*k+(vs++cs).length)).toArray:=by
  have e:u=(cur.toList.take (o+i*k)++(vs++cs)++cur.toList.drop (o+i*k+(vs++cs).length)).toArray:=by
   rw[q,l];congr 1;simp only[lf];congr 1
   ·rw[lU (by simp;omega),List.take_take,j9 (by omega)]
   ·congr 1;rw[jD,lW (by simp;omega)];simp only[ke,jz,ll];rw[j9 (by omega),show o+i*k+vs.length-(o+(i+m)*k)=0 by omega,kZ];simp only[oA];rw[show o+i*k+(vs.length+cs.length)=o+(i+m)*k+cs.length by omega]
  rw[<- e];unfold World.setRow;congr 1;apply iF;intro j;simp only[ib];by_cases r:b=j
  ·subst r;simp[y]
  ·simp[r]
 obtain⟨nm,ta,hf,hnm⟩:=L.f22;clear l q H y N C
 go_enter hf,zbv ρ τ nm ta
 simp only[oW,zjA,rtA,rtV,m4,l9,iV,gR,Nat.reduceBEq,ia,im,lM,gG,cond_true,cond_false]
 go_wp2_with (simp only[U])
 go_region_law_o (refine step_copy_runI rfl _ _ (ρ.t 24) (ρ.t 24) rfl _ _ (by simp[Act.eval,Act.put]) (by simp[Act.eval,Act.put]) (R _ _ _) ?_)
 go_wp2_with (at_builtin;refine wpList_copy_runI _ rfl _ _ (ρ.t 24) τ rfl _ _ rfl rfl (O _ _) ?_)
 go_ret
 exact⟨rfl,by simp[K,S]⟩

theorem zi5{w:World}(h:w.cell? ⟨b,j,ac⟩=aa v):b<w.heap.size:=World.block_lt_of_cell? w ⟨b,j,ac⟩ h
theorem zeV{w:World}{o:Obj}(h:w.cell? ⟨b,j,ac⟩=aa v):(w.alloc o).cell? ⟨b,j,ac⟩=aa v:=by
 rw[World.cell?_alloc_lt w o ⟨b,j,ac⟩ (zi5 h)];exact h
set_option maxHeartbeats 4000000 in
set_option maxRecDepth 100000 in
theorem zo3(L:eC P ρ τ k){b o n c i vb vo m vc:Nat}{os cs vs:List Value}{z9:Value}{i9:TypeInfo}{w:World}(hi:i<n)(hm:0<m)(hnc:n<=c)(M:c<n+m)(K:n+m<=lim)
  (s:P.info? (ρ.t 9)=aa i9) (hz9:i9.zero=aa z9)
  (S:os.length=i*k) (V:∀j v,os[j]?=aa v->w.cell? ⟨b,o+j,ac⟩=aa v) (hcl:cs.length=(n-i)*k) (U:∀j v,cs[j]?=aa v->w.cell? ⟨b,o+i*k+j,ac⟩=aa v) (h1c:∀v∈cs,v.oneCell'=true)
  (hvs:∀j v,vs[j]?=aa v->w.cell? ⟨vb,vo+j,ac⟩=aa v) (hvl:vs.length=m*k) (h1v:∀v∈vs,v.oneCell'=true) :
  Calls P (ρ.f 22) #[.slice (aa ⟨b,o,ac⟩) n c,.int .i64 i,.slice (aa ⟨vb,vo,ac⟩) m vc] w λe w' =>
   e=.returned (.slice (aa ⟨w.heap.size,0,ac⟩) (n+m) (grownCap w (n+m) c (ρ.t 9))) /\
   w'=w.drew.drew.alloc (.cells (os++(vs++cs)++(Builtin.zeroCells z9.cells (grownCap w (n+m) c (ρ.t 9)-(n+m))).toList).toArray (ρ.t 9)):=by
 have t0:=L.t0;have a0:=L.a0;have z0:=L.z0;have v0:=L.v0;have t3:=L.t3;have a3:=L.a3;have z3:=L.z3;have v3:=L.v3;have t4:=L.t4;have a4:=L.a4;have z4:=L.z4;have v4:=L.v4;have t24:=L.t24;have a24:=L.a24;have z24:=L.z24;have v24:=L.v24;have t23:=L.t23;have a23:=L.a23;have z23:=L.z23;have v23:=L.v23;have u23:=run_underlying L.t23;have u0:=run_underlying L.t0;have u3:=run_underlying L.t3;have u4:=run_underlying L.t4;have u24:=run_underlying L.t24;have mixed:=L.mixed;have k0:=L.k0;have hinf:i9.size=k/\z9.cells.size=k/\i9.bytes<=65536:=by
  obtain⟨i9',z9',hi9',hz9',h1,h2,h3⟩:=L.i9
  simp_all
 obtain⟨y,D,hb9⟩:=hinf;have zz9:∀w,(Go.sizeOf (ρ.t 9)).run P w=.ok k w:=λw=>by rw[<- y];exact wF s
 unfold lim at K;have hz1:¬((m:Int)=0):=by omega
 have hz2:¬((i:Int)=(n:Int)):=by omega
 have hz3:(c:Int)<(n:Int)+(m:Int):=by omega
 have hik:i+(n+m-i)=n+m:=by omega
 have hkk:(n:Int)+(m:Int)-(i:Int)=((n+m-i:Nat):Int):=by omega
 have q:(n+m)*i9.bytes<=140737488355328:=by
  have:=j0 K hb9;omega
 have I:(Builtin.firstCells i9.size i (.slice (aa ⟨b,o,ac⟩) i c)).run P w.drew=.ok os.toArray w.drew:=run_firstCells_some w.drew i9.size i ⟨b,o,ac⟩ i c os (by rw[y,S]) (λj v r=>by rw[World.cell?_drew,vm];exact V j v r);have hki:(n+m-i)*i9.bytes<=(n+m)*i9.bytes:=lY _ (by omega);have z:∀ty,(Builtin.append_ #[(ρ.t 24),(ρ.t 3)] ty #[.slice (aa ⟨b,o,ac⟩) i c,.int .i64 ((n:Int)+(m:Int)-(i:Int))]).run P w =
   .ok (.slice (aa ⟨w.heap.size,0,ac⟩) (n+m) (grownCap w (n+m) c (ρ.t 9))) (w.drew.alloc (.cells (os.toArray++Builtin.zeroCells z9.cells (n+m-i)++Builtin.zeroCells z9.cells (grownCap w (n+m) c (ρ.t 9)-(n+m))) (ρ.t 9))):=λty=>by
  have h:=Lib.run_append_grow_zeros w (ρ.t 24) (ρ.t 3) ty (ρ.t 9) i9 _ .i64 .i64 L.t24 L.t3 s hz9 (aa ⟨b,o,ac⟩) i c os I (n+m-i) (by omega) (by omega) (by omega) (by omega) (by omega) (by rw[hik];exact growslice_fits M q)
  simp_all
 obtain⟨G,hG⟩:∃G,G=grownCap w (n+m) c (ρ.t 9):=⟨_,rfl⟩
 obtain⟨ROW,p⟩:∃ROW:Array Value,ROW=os.toArray++Builtin.zeroCells z9.cells (n+m-i)++Builtin.zeroCells z9.cells (G-(n+m)):=⟨_,rfl⟩
 have hGn:n+m<=G:=by rw[hG];exact grownCap_ge w _ _ _
 have hG63:G<=9223372036854775807:=by
  have:=grownCap_le_maxLen w (n+m) c (ρ.t 9) (by unfold maxLen;omega);rw[<- hG]at this;unfold maxLen at this;omega
 rw[<- hG]at z ⊢;rw[<- p]at z;have hmk:i*k+m*k=(i+m)*k:=by grind
 have T:(i+m)*k+(n-i)*k=(n+m)*k:=by rw[<- ka];congr 1;omega
 have hzk:i*k+(n+m-i)*k=(n+m)*k:=by grind
 have hGk:(n+m)*k+(G-(n+m))*k=G*k:=by rw[<- ka];congr 1;omega
 have hRs:ROW.size=G*k:=by rw[p];simp only[iL,iM,size_zeroCells,D,S];omega
 have u:(w.drew.alloc (.cells ROW (ρ.t 9))).heap[w.heap.size]?=aa (.cells ROW (ρ.t 9) (0,0)):=heap_alloc_new w.drew _;obtain⟨W1,hW⟩:∃x,x=w.drew.alloc (.cells ROW (ρ.t 9)):=⟨_,rfl⟩
 rw[<- hW]at z u;obtain⟨R2,X⟩:∃x,x=(ROW.toList.take (i*k)++vs++ROW.toList.drop (i*k+vs.length)).toArray:=⟨_,rfl⟩
 have R:R2.size=ROW.size:=by grind
 have A:∀j v,vs[j]?=aa v->W1.cell? ⟨vb,vo+j,ac⟩=aa v:=λj v r=>by rw[hW];exact zeV (by simp_all)
 have E:∀ty N,(Builtin.copy_ #[(ρ.t 24),τ] ty #[.slice (aa ⟨w.heap.size,i*k,ac⟩) (n+m-i) N,.slice (aa ⟨vb,vo,ac⟩) m vc]).run P W1=.ok (goInt m) (W1.setRow w.heap.size R2):=λty N=>by
  have:=zaL (P:=P) (w:=W1) (dT:=ρ.t 24) (sT:=τ) (ty:=ty) (i:=i9) (b:=w.heap.size) (o:=i*k) (dLen:=n+m-i) (dCap:=N) (sLen:=m) (sCap:=vc) (n:=m) (a:=⟨vb,vo,ac⟩) (cs:=vs) (cur:=ROW)
   L.t24 s (by grind) (by rw[hvl,y]) (λj v r=>by rw[vm];exact A j v r) u (by omega) h1v
  simp_all
 have Y:(W1.setRow w.heap.size R2).heap[w.heap.size]?=aa (.cells R2 (ρ.t 9) (0,0)):=setRow_heap W1 _ ROW R2 _ (0,0) u;obtain⟨W2,d⟩:∃x,x=(W1.setRow w.heap.size R2).drew:=⟨_,rfl⟩
 have H:W2.heap[w.heap.size]?=aa (.cells R2 (ρ.t 9) (0,0)):=by rw[d];exact Y
 obtain⟨R3,O⟩:∃x,x=(R2.toList.take ((i+m)*k)++cs++R2.toList.drop ((i+m)*k+cs.length)).toArray:=⟨_,rfl⟩
 have C:∀j v,cs[j]?=aa v->W2.cell? ⟨b,o+i*k+j,ac⟩=aa v:=λj v r=>by
  have h:=U j v r;have hb:=zi5 h;have h2:W1.cell? ⟨b,o+i*k+j,ac⟩=aa v:=by rw[hW];exact zeV (by simp_all)
  rw[d,World.cell?_drew];have e:(W1.setRow w.heap.size R2).heap[b]?=W1.heap[b]?:=setRow_other W1 w.heap.size b R2 (by omega);have hb1:b<W1.heap.size:=zi5 h2;unfold World.cell? at h2 ⊢
  grind
 have W:∀ty N sc,(Builtin.copy_ #[(ρ.t 24),(ρ.t 24)] ty #[.slice (aa ⟨w.heap.size,(i+m)*k,ac⟩) (n+m-(i+m)) N,.slice (aa ⟨b,o+i*k,ac⟩) (n-i) sc]).run P W2=.ok (goInt (n-i:Nat)) (W2.setRow w.heap.size R3):=λty N sc=>by
  have:=zaL (P:=P) (w:=W2) (dT:=ρ.t 24) (sT:=ρ.t 24) (ty:=ty) (i:=i9) (b:=w.heap.size) (o:=(i+m)*k) (dLen:=n+m-(i+m)) (dCap:=N) (sLen:=n-i) (sCap:=sc) (n:=n-i) (a:=⟨b,o+i*k,ac⟩) (cs:=cs) (cur:=R2)
   L.t24 s (by grind) (by rw[hcl,y]) (λj v r=>by rw[vm];exact C j v r) H (by omega) h1c
  simp_all
 have F:W2.setRow w.heap.size R3=w.drew.drew.alloc (.cells (os++(vs++cs)++(Builtin.zeroCells z9.cells (G-(n+m))).toList).toArray (ρ.t 9)):=by
  have e:R3=(os++(vs++cs)++(Builtin.zeroCells z9.cells (G-(n+m))).toList).toArray:=by
   rw[O,X,p];congr 1;have zl:(Builtin.zeroCells z9.cells (n+m-i)).toList.length=(n+m-i)*k:=by rw[jz,size_zeroCells,D]
   simp only[kU,lf];rw[lU (l₁:=os) (by omega),lh (l:=os) (by omega)];rw[<- lf os vs,lU (l₁:=os++vs) (by simp;omega),lh (l:=os++vs) (by simp;omega),lf];congr 2;congr 1;rw[jD,lW (l:=os++vs) (by simp;omega),ll];rw[oA,kf];rw[jD,lW (l:=os) (by omega),ll];rw[jD,lW (by omega),ll];rw[show i*k+vs.length+((i+m)*k+cs.length-(os.length+vs.length))-os.length-(Builtin.zeroCells z9.cells (n+m-i)).toList.length=0 by omega,kZ]
  rw[<- e,d,hW];unfold World.setRow World.alloc World.drew;simp only;congr 1;apply iF;intro j;simp only[ib,i6];by_cases r:w.heap.size=j
  ·grind
  ·grind
 have hGi:¬(G=i):=by omega
 have hGim:¬(G=i+m):=by omega
 have hci:¬(c=i):=by omega
 have hw1:IntKind.i64.wrap ((i:Int)+(m:Int))=(i:Int)+(m:Int):=by rw[IntKind.wrap_i64];omega
 have hb1:(0:Int)<=(i:Int)+(m:Int):=by omega
 have hin:i<=n:=by omega
 have htn:((i:Int)+(m:Int)).toNat=i+m:=by omega
 have hb3:(i:Int)<=(n:Int):=by omega
 obtain⟨nm,ta,hf,hnm⟩:=L.f22;obtain⟨OB,Z⟩:∃x,x=Obj.cells (os++(vs++cs)++(Builtin.zeroCells z9.cells (G-(n+m))).toList).toArray (ρ.t 9):=⟨_,rfl⟩
 rw[<- Z]at F ⊢;obtain⟨FIN,J⟩:∃x,x=w.drew.drew.alloc OB:=⟨_,rfl⟩
 rw[<- J]at F ⊢;obtain⟨Wd,Q⟩:∃x,x=W1.setRow w.heap.size R2:=⟨_,rfl⟩
 rw[<- Q]at E d;subst d;clear hkk hik I p hG hRs X O R A C u Y H V U hvs hGk T hmk hzk hki q hW Q Z J
 go_enter hf,zbv ρ τ nm ta
 simp only[oW,zjA,rtA,rtV,m4,l9,iV,gR,Nat.reduceBEq,ia,im,lM,gG,cond_true,cond_false]
 go_wp2_with (first
  |(at_builtin;refine Lib.wpList_append_run _ rfl _ _ _ _ rfl _ _ rfl rfl _ _ (z _) ?_)
  |(at_builtin;refine wpList_copy_runI _ rfl _ _ (ρ.t 24) τ rfl _ _ rfl rfl (E _ _) ?_))
 go_region_law_o (refine step_copy_runI rfl _ _ (ρ.t 24) (ρ.t 24) rfl (.slice (aa ⟨w.heap.size,(i+m)*k,ac⟩) (n+m-(i+m)) (G-(i+m))) (.slice (aa ⟨b,o+i*k,ac⟩) (n-i) (c-i)) (by simp[Act.eval,Act.put]) (by simp[Act.eval,Act.put]) (W (ρ.t 3) (G-(i+m)) (c-i)) ?_)
 go_wp2
 go_ret
 simp_all
end
section
variable{P:Program}{w:World}{g:Gh}{h:AH}{B:Nat}{w0:World}
theorem zcN(r:Rel B w0 g h w){id q k c:Nat}{es f:List (List AV)}{L:Option Addr}{a:List Value}(hs:V g (.fo id q k es.length) (.slice L es.length c))(Y:∀e∈f,e.length=k)(F:VA g f.flatten a)(hpu:f.flatten.all AV.pure=true)
  (S:h.g7 id=aa (.row q k es)) (hy:f.length≠0) (n:es.length+f.length<=c) :
  ∃b o cur ty,L=aa ⟨b,o,ac⟩/\w.heap[b]?=aa (.cells cur ty (0,0))/\o+c*k<=cur.size/\(∀j,o+es.length*k<=j->g.Φ b j=ac) /\
   ∃g',g.le g'/\Rel B w0 g' { h.put id (.row q k (es++f))with zs:=h.zs.set q (es.length+f.length) } (w.setRow b (cur.toList.take (o+es.length*k)++a++cur.toList.drop (o+es.length*k+a.length)).toArray)/\V g' (.fo id q k (es.length+f.length)) (.slice L (es.length+f.length) c):=by
 obtain⟨R,W,s,D,N,u,hpe,G⟩:=r.rowAt S;simp only[V]at hs;obtain⟨a',c',M,hc1,Q,t2,ht2,hrd,hle,i⟩:=hs;simp only[Value.slice.injEq]at M;obtain⟨rfl,_,rfl⟩:=M;obtain rfl:W=t2:=by simp_all
 have i:(es.length=0/\c=0) \/ ∃b o,L=aa ⟨b,o,ac⟩/\W.loc=aa (b,o+es.length*k,o+c*k):=i.imp (λh=>h) λ⟨b,o,Z,h2⟩=>⟨b,o,Z,h2 N.symm⟩
 have I:a.length=f.length*k:=by rw[<- F.length,xg Y]
 have hfl:es.flatten.length=es.length*k:=xg u;rcases i with⟨h0,Z⟩|⟨b,o,rfl,J⟩
 ·omega
 ·obtain⟨_,E⟩:=r.tok _ _ s;have lo:=E b _ _ J;obtain⟨cur,t,p,hce⟩:=lo.cells;have X:es.length*k+a.length<=c*k:=by rw[I,<- ka];exact lY _ n
  have d:VA g es.flatten ((cur.toList.drop o).take (es.length*k))/\∀j,o<=j->g.Φ b j=ac:=by
   rcases G with rfl|⟨b2,o2,K,cs,cA,k1,k2,k3,k4,k5⟩
   ·exact⟨by simp[VA],λj O=>lo.free j (by simp_all)⟩
   ·simp_all
  refine⟨b,o,cur,t,rfl,p,by omega,λj O=>d.2 j (by omega),?_⟩;generalize hnew:(cur.toList.take (o+es.length*k)++a++cur.toList.drop (o+es.length*k+a.length)).toArray=new;have H:new.size=cur.size:=by grind
  have C:∀j,j<o+es.length*k->new[j]?=cur[j]?:=λj O=>by
   grind
  have r1:=r.dX s J p H C;have m:=setRow_heap w b cur new t (0,0) p;have z:(new.toList.drop o).take ((es.length+f.length)*k)=(cur.toList.drop o).take (es.length*k)++a:=by
   rw[<- hnew];simp only[lf];rw[jv (by simp;omega),hZ,m3,ka,<- I];rw[kx,lh (by simp;omega)];congr 1;rw[lU (by simp;omega),lh (by simp;omega)]
  let T:TI:=⟨es.length+f.length,aa (b,o+(es.length+f.length)*k,o+c*k),true⟩
  have y:g.le (g.fy q T):=Gh.fU (t':=T) s (by grind) D.symm;have U:(g.fy q T).τ[q]?=aa T:=li (tu.1 s).1;have r2:=r1.setRow (t':=T) (q:=id) s (by grind) D rfl R S (es':=es++f)
   ⟨T,U,rfl,by simp[T],λe M=>(ma.1 M).elim (u e) (Y e),by grind,
    .inr ⟨b,o,o+c*k,new,t,by simp[T],m,by rw[oA,z,jl];exact(d.1.append F).mono y,by rw[oA,ka];omega,d.2⟩⟩
   (λb' l e A=>by
    injection A with A;injection A with e1 K;injection K with K e3;subst e1 K e3;exact⟨lo.lo,by grind,⟨new,t,m,by omega⟩,λj O=>lo.free j (by grind)⟩)
   (λb' x hx=>by grind)
  refine⟨_,y,r2,?_⟩;simp only[V];exact⟨aa ⟨b,o,ac⟩,c,rfl,n,Q,T,U,rfl,ob _,.inr ⟨b,o,rfl,λ_=>rfl⟩⟩
theorem zom(r:Rel B w0 g h w){id q k c:Nat}{es:List (List AV)}{s:Option Addr}(hs:V g (.fo id q k es.length) (.slice s es.length c))(y:h.g7 id=aa (.row q k es)) :
  ∃e:List Value,VA g es.flatten e/\(∀a,s=aa a->∀j v,e[j]?=aa v->w.cell? (a.add j)=aa v):=by
 obtain⟨J,H,C,D,n,l,z,m⟩:=r.rowAt y;simp only[V]at hs;obtain⟨a',N,u,M,E,x,F,L,K,i⟩:=hs;simp only[Value.slice.injEq]at u;obtain⟨rfl,_,rfl⟩:=u;obtain rfl:H=x:=by simp_all
 have A:es.flatten.length=es.length*k:=xg l;rcases m with rfl|⟨b,o,S,cs,cA,k1,k2,k3,Q,R⟩
 ·exact⟨[],by rfl,λa _ j v t=>by simp at t⟩
 ·rcases i with⟨h0,_⟩|⟨O,G,rfl,d⟩
  ·grind
  ·have d:=d n.symm;rw[k1]at d;injection d with d;injection d with I f;injection f with f T;obtain rfl:o=G:=by omega
   subst I;refine⟨_,k3,λa p j v t=>?_⟩;injection p with p;subst p;rw[vm,cell_of_row w b (o+j) cs cA (0,0) k2]
   grind
theorem zbN(r:Rel B w0 g h w){id q k c C:Nat}{es f:List (List AV)}{ad:Option Addr}{a d rest:List Value}{e:TypeId}(hs:V g (.fo id q k es.length) (.slice ad es.length c))(W:∀e∈f,e.length=k)(A:VA g f.flatten d)(hpu:f.flatten.all AV.pure=true)
  (O:h.g7 id=aa (.row q k es)) (hy:f.length≠0) (u:VA g es.flatten a) (N:es.length+f.length<=C) (I:C<=maxLen) (hr:rest.length=(C-(es.length+f.length))*k) :
  ∃g',g.le g'/\Rel B w0 g' { h.put id (.row q k (es++f))with zs:=h.zs.set q (es.length+f.length) } (w.drew.alloc (.cells (a++d++rest).toArray e))/\V g' (.fo id q k (es.length+f.length)) (.slice (aa ⟨w.heap.size,0,ac⟩) (es.length+f.length) C):=by
 obtain⟨L,ti,p,D,htn,m,hpe,X⟩:=r.rowAt O;have hnl:d.length=f.length*k:=by rw[<- A.length,xg W]
 have J:es.flatten.length=es.length*k:=xg m;have Z:a.length=es.length*k:=by rw[<- u.length,J]
 generalize hrow':(a++d++rest).toArray=row;have U:(es.length+f.length)*k+(C-(es.length+f.length))*k=C*k:=by rw[<- ka];congr 1;omega
 have S:row.size=C*k:=by grind
 have s:(row.toList.drop 0).take ((es.length+f.length)*k)=a++d:=by
  rw[<- hrow',kZ];show(a++d++rest).take _=_;rw[lU (by grind),lh (by grind)]
 have o:∀j,g.Φ w.heap.size j=ac:=λj=>by
  rcases M:g.Φ w.heap.size j with _|v
  ·rfl
  ·exact absurd (r.em M) (ji _)
 have Y:=(r.drew).eS (.cells row e);have i:(w.drew.alloc (.cells row e)).heap[w.heap.size]?=aa (.cells row e (0,0)):=heap_alloc_new w.drew _;have hsz:(es.length+f.length)*k<=C*k:=lY k N;have R:ed g.Φ B (w.drew.alloc (.cells row e)) w.heap.size ((es.length+f.length)*k) (C*k) :=
  ⟨r.dA,by simp,⟨row,e,i,by omega⟩,λj _=>o j⟩
 have z:∀(j E:Nat),g.σ[j]?=aa (aa E)->w.heap.size≠E:=λj E G e=>by
  have H:j<h.zh.length:=by rw[<- r.fi];exact(tu.1 G).1
  have:=(r.g7 j E _ G (rk H)).2.1;omega
 have t:∀(j:Nat)(F:TI) (y:Nat×Nat),g.τ[j]?=aa F->F.loc≠aa (w.heap.size,y):=λj F y G e=>by
  have:=((r.tok j F G).2 _ _ _ e).lt;omega
 let T:TI:=⟨es.length+f.length,aa (w.heap.size,(es.length+f.length)*k,C*k),true⟩
 have n:g.le (g.fy q T):=Gh.fU (t':=T) p (by grind) D.symm;have Q:(g.fy q T).τ[q]?=aa T:=li (tu.1 p).1;have r2:=Y.setRow (t':=T) (q:=id) p (by grind) D rfl L O (es':=es++f)
  ⟨T,Q,rfl,by simp[T],λe M=>(ma.1 M).elim (m e) (W e),by grind,
   .inr ⟨w.heap.size,0,C*k,row,e,by simp[T],i,by rw[oA,s,jl];exact(u.append A).mono n,by simp_all,λj _=>o j⟩⟩
  (λb' l e' hl'=>by grind)
  (λb' x K=>by injection K with K;injection K with e1 _;subst e1;exact .inr ⟨t,z⟩)
 refine⟨_,n,r2,?_⟩;simp only[V];exact⟨aa ⟨w.heap.size,0,ac⟩,C,rfl,N,I,T,Q,rfl,ob _,.inr ⟨w.heap.size,0,rfl,λ_=>by simp[T]⟩⟩
end
section
variable{P:Program}{ρ:Ren}{τ:TypeId}{k:Nat}{α:Type}{row:α->List AV}
theorem zpu{w:World}(h:w.cell? ⟨b,j,ac⟩=aa v):∃cs ty fr,w.heap[b]?=aa (.cells cs ty fr)/\cs[j]?=aa v:=by
 unfold World.cell? at h
 grind
theorem nf(L:eC P ρ τ k)(hk:∀x,(row x).length=k){xs M R:List α}{z:Int}(hR:cS xs z M=aa R){a:AV}(ha:a=.sl k (M.map row) \/ a=.gW ac k (M.map row)){h:AH}{B B':List q6}{T T':List Nat}{i q b' t':Nat}
  (hb:B[i]?=aa (.row (h.zs.length+q) k (xs.map row))) (hbl:B.length=b') (htl:T.length=t') (hB:B.set i .dead++[.row (h.zs.length+t') k (R.map row)]=B') (hT:T.set q (xs.length+1)++[R.length]=T') :
  Spec P (ρ.f 22) [.fo (h.zh.length+i) (h.zs.length+q) k xs.length,.int .i64 z,a] (h.ext B T) (λrr hh=>rr=.fo (h.zh.length+b') (h.zs.length+t') k R.length/\hh=h.ext B' T'):=by
 unfold cS at hR;split at hR
 case isFalse=>cases hR
 rename_i hc;obtain⟨⟨hz0,hzn⟩,hM0,hlim⟩:=hc;injection hR with hR;obtain⟨n,rfl⟩:∃n:Nat,z=n:=⟨z.toNat,by omega⟩
 have hnx:n<=xs.length:=by omega
 rw[o5]at hR;have k0:=L.k0;obtain⟨nm,ta,hf22,hnm⟩:=L.f22;refine⟨λvs w=>?_,λB0 w0 _ g w vs r hv=>?_⟩
 ·have hne : ¬nm = "runtime.NumGoroutine" := by simpa using hnm
  have hn2:(ztY ρ τ nm ta).name=nm:=rfl;have hb2:¬(ztY ρ τ nm ta).body=ac:=by
   intro e;have:(ztY ρ τ nm ta).body.isSome=true:=rfl;rw[e]at this;cases this
  simp[callFunc,hf22,hn2,hne,hb2]
 obtain⟨vs⟩:=vs;simp only[VL]at hv;obtain⟨v1,_,rfl,hV1,v2,_,rfl,hV2,v3,_,rfl,hV3,rfl⟩:=hv;have hVs:=hV1;simp only[V]at hV1 hV2;obtain⟨ad,c,rfl,hnc,hcm,_⟩:=hV1;subst hV2;obtain⟨av,vc,rfl,hMv⟩:∃av vc,v3=.slice av M.length vc/\(M.map row=[] \/ ∃b o,av=aa ⟨b,o,ac⟩/\VE g b k o (M.map row)):=by
  rcases ha with rfl|rfl
  ·simp only[V]at hV3;obtain⟨a1,c1,h1,_,_,h2⟩:=hV3
   simp_all
  ·simp only[V]at hV3;obtain⟨a1,c1,h1,_,_,h2,_⟩:=hV3
   simp_all
 obtain⟨vb,vo,rfl,hVE⟩:=hMv.resolve_left (by intro e;rw[iv]at e;subst e;simp at hM0);obtain⟨hMl,hVC⟩:=eo.1 hVE;obtain⟨mvs,hmva,hmpu,hmφ⟩:=VC.aq hVC;have hmvl:mvs.length=M.length*k:=by rw[<- hmva.length,p9 hk]
 have hmcell:∀j v,mvs[j]?=aa v->w.cell? ⟨vb,vo+j,ac⟩=aa v:=λj v hj=>r.eK _ _ _ (hmφ j v hj);have hblk:(h.ext B T).g7 (h.zh.length+i)=aa (.row (h.zs.length+q) k (xs.map row)):=by rw[zX];exact hb
 obtain⟨hσ,ti,hti,htr,htn,hlen,hpe,hrow⟩:=r.rowAt hblk;have hfl:(xs.map row).flatten.length=xs.length*k:=p9 hk xs
 -- shrunk to what is ahead of the place
 have hVs':V g (.fo (h.zh.length+i) (h.zs.length+q) k (xs.map row).length) (.slice ad (xs.map row).length c):=by simpa using hVs
 obtain⟨g1,hg1,r1,hh1⟩:=r.shrink (n:=n) (a':=ad) hblk (by simpa using hnx) (.inl rfl) hVs';have e1:(h.ext B T).shr (h.zh.length+i) (h.zs.length+q) k n (xs.map row)=h.ext (B.set i .dead++[.row (h.zs.length+t') k ((xs.take n).map row)]) (T.set q (xs.length+1)++[n]):=by
  simp only[AH.shr,AH.ext,AH.put,AH.new,AH.mk.injEq,oA,oa,gq];refine⟨?_,?_⟩
  ·simp_all
  ·simp_all
 rw[e1]at r1;have eb:(h.ext B T).zh.length=h.zh.length+b':=by rw[<- hbl];simp[AH.ext]
 have et:(h.ext B T).zs.length=h.zs.length+t':=by rw[<- htl];simp[AH.ext]
 rw[eb,et]at hh1;have htk:(xs.take n).length=n:=by rw[ke];omega
 have hh1':V g1 (.fo (h.zh.length+b') (h.zs.length+t') k ((xs.take n).map row).length) (.slice ad ((xs.take n).map row).length c):=by rw[oa,htk];exact hh1
 have hb1:(h.ext (B.set i .dead++[.row (h.zs.length+t') k ((xs.take n).map row)]) (T.set q (xs.length+1)++[n])).g7 (h.zh.length+b')=aa (.row (h.zs.length+t') k ((xs.take n).map row)):=by
  rw[zX,pa (by rw[lm];omega),lm,<- hbl,hP];rfl
 have hput:∀n2:Nat,({ (h.ext (B.set i .dead++[.row (h.zs.length+t') k ((xs.take n).map row)]) (T.set q (xs.length+1)++[n])).put (h.zh.length+b') (.row (h.zs.length+t') k (R.map row))with
   zs:=(h.ext (B.set i .dead++[.row (h.zs.length+t') k ((xs.take n).map row)]) (T.set q (xs.length+1)++[n])).zs.set (h.zs.length+t') R.length }:AH)=h.ext B' T':=λn2=>by
  subst hB hT;simp only[AH.ext,AH.put,AH.mk.injEq];refine⟨?_,?_⟩
  ·simp_all
  ·simp_all
 -- what comes behind
 let ys:=M++xs.drop n
 have hys:R=xs.take n++ys:=hR.symm;have hRl:R.length=xs.length+M.length:=by rw[hys];simp[ys];omega
 have hyl:ys.length=M.length+(xs.length-n):=by simp[ys]
 have htot:((xs.take n).map row).length+(ys.map row).length=R.length:=by rw[hys];simp
 have happ:(xs.take n).map row++ys.map row=R.map row:=by rw[hys];exact lZ.symm
 have hyk:∀e∈ys.map row,e.length=k:=λe he=>by
  obtain⟨x,_,rfl⟩:=lH.1 he;exact hk x
 have hypu:(ys.map row).flatten.all AV.pure=true:=by
  have h2:((xs.drop n).map row).flatten.all AV.pure=true:=by
   grind
  grind
 have hyn:(ys.map row).length≠0:=by rw[oa,hyl];omega
 have hc63:c<=9223372036854775807:=by unfold maxLen at hcm;omega
 have hRm:R.length<=maxLen:=by unfold lim at hlim;unfold maxLen;omega
 -- the tail's cells
 obtain⟨olds,holds,hoc⟩:=zom r hVs' hblk;have hol:olds.length=xs.length*k:=by rw[<- holds.length,hfl]
 have hkn:n*k+(xs.length-n)*k=xs.length*k:=by rw[<- ka];congr 1;omega
 have hhead:VA g ((xs.take n).map row).flatten (olds.take (n*k)):=by rw[<- zdn hk];exact holds.take _
 have htail:VA g ((xs.drop n).map row).flatten (olds.drop (n*k)):=by rw[<- zdo hk];exact holds.drop _
 have hyva:VA g (ys.map row).flatten (mvs++olds.drop (n*k)):=by simp only[ys,lZ,jl];exact hmva.append htail
 have hyva1:=hyva.mono hg1;have hh2:=hhead.mono hg1;have hnil:ad=ac->c=0:=λe=>by
  subst e;simp only[V]at hVs;obtain⟨a2,c2,he,_,_,t2,ht2,_,_,hcap⟩:=hVs;simp only[Value.slice.injEq]at he
  grind
 have fin:∀{v:Value}{w':World} {g':Gh},g1.le g'->Rel B0 w0 g' { (h.ext (B.set i .dead++[.row (h.zs.length+t') k ((xs.take n).map row)]) (T.set q (xs.length+1)++[n])).put (h.zh.length+b') (.row (h.zs.length+t') k ((xs.take n).map row++ys.map row))with
   zs:=(h.ext (B.set i .dead++[.row (h.zs.length+t') k ((xs.take n).map row)]) (T.set q (xs.length+1)++[n])).zs.set (h.zs.length+t') (((xs.take n).map row).length+(ys.map row).length) } w' ->
   V g' (.fo (h.zh.length+b') (h.zs.length+t') k (((xs.take n).map row).length+(ys.map row).length)) v ->
   ∃v0 rr hh g'',Ending.returned v=.returned v0/\(rr=.fo (h.zh.length+b') (h.zs.length+t') k R.length/\hh=h.ext B' T')/\g.le g''/\Rel B0 w0 g'' hh w'/\V g'' rr v0:=λ{v w' g'} hg' hr' hv'=>by
  rw[happ,htot,hput 0]at hr';rw[htot]at hv';exact⟨v,_,_,g',rfl,⟨rfl,rfl⟩,hg1.trans hg',hr',hv'⟩
 obtain⟨i9,z9,hi9,hz9,hs9,hzc9,hb9⟩:=L.i9;by_cases hend:n=xs.length
 ·-- at the end
  have hdn:xs.drop n=[]:=by rw[hend];exact List.drop_length
  have hodn:olds.drop (n*k)=[]:=by rw[lW];rw[hol,hend];exact ob _
  have hotn:olds.take (n*k)=olds:=lh (by rw[hol,hend];exact ob _);have hnews:∀W:World,(∀a v,w.cell? a=aa v->W.cell? a=aa v)->dw P i9.size M.length (.slice (aa ⟨vb,vo,ac⟩) M.length vc) mvs W:=λW hW=>dw.slice (by rw[hmvl,hs9]) λj v hj=>by rw[vm];exact hW _ _ (hmcell j v hj)
  by_cases hroom:xs.length+M.length<=c
  ·obtain⟨b,o,cur,ty,rfl,hcur,hfit,hfree,g',hg',hr',hv'⟩:=zcN r1 hh1' hyk hyva1 hypu hb1 hyn (by rw[htot,hRl];exact hroom);rw[hodn,ko]at hr';have hrun:=rx (P:=P) (t:=ρ.t 24) (u:=τ) (ty:=0) L.t24 L.t23 (.inr ⟨_,rfl⟩) hi9 (hnews w λ_ _ h=>h) hmva.dC hcur (n:=xs.length) hroom (o:=o) (by rw[hs9,hmvl];have:=lY k hroom;rw[ka]at this;omega);have hrun':∀ty,(Builtin.append_ #[ρ.t 24,τ] ty #[.slice (aa ⟨b,o,ac⟩) xs.length c,.slice (aa ⟨vb,vo,ac⟩) M.length vc]).run P w=_:=λty=>rx (P:=P) (t:=ρ.t 24) (u:=τ) (ty:=ty) L.t24 L.t23 (.inr ⟨_,rfl⟩) hi9 (hnews w λ_ _ h=>h) hmva.dC hcur (n:=xs.length) hroom (o:=o) (by rw[hs9,hmvl];have:=lY k hroom;rw[ka]at this;omega);have:=zm2 L (xa:=aa ⟨vb,vo,ac⟩) (vc:=vc) hM0 hnc hc63 hnil hrun';rw[hend];refine this.mono λe w' ⟨h1,h2⟩=>?_;subst h1 h2;rw[hs9,<- hend];rw[oa,htk]at hr';have hv2:((xs.take n).map row).length+(ys.map row).length=xs.length+M.length:=by rw[htot,hRl]
   refine fin hg' ?_ (by rw[hv2]at hv' ⊢;rw[hend];exact hv');rw[oa,htk];omega
  ·have hroom':c<xs.length+M.length:=by omega
   have hold:(Builtin.firstCells i9.size xs.length (.slice ad xs.length c)).run P w.drew=.ok olds.toArray w.drew:=by
    cases ad with
    |none =>
     have h0:=hnil rfl;have hx0:xs.length=0:=by omega
     have:olds=[]:=lA (by rw[hol,hx0];simp);subst this;rw[hx0];exact run_firstCells_none w.drew i9.size 0 0 c
    |some a=>exact run_firstCells_some w.drew i9.size xs.length a xs.length c olds (by rw[hs9];exact hol) λj v hj=>by rw[World.cell?_drew];exact hoc a rfl j v hj
   have hlim':(xs.length+M.length)*i9.bytes<=140737488355328:=by have:=j0 hlim hb9;unfold lim at this;omega
   have hrun':∀ty,(Builtin.append_ #[ρ.t 24,τ] ty #[.slice ad xs.length c,.slice (aa ⟨vb,vo,ac⟩) M.length vc]).run P w=_:=λty=>pP (P:=P) (t:=ρ.t 24) (u:=τ) (ty:=ty) L.t24 L.t23 (.inr ⟨_,rfl⟩) hi9 hz9 (hnews w λ_ _ h=>h) (hnews w.drew λ_ _ h=>h) hold hroom' (by unfold lim at hlim;simp only[maxLen];omega) (growslice_fits hroom' hlim');have:=zm2 L (xa:=aa ⟨vb,vo,ac⟩) (vc:=vc) hM0 hnc hc63 hnil hrun';rw[hend];refine this.mono λe w' ⟨h1,h2⟩=>?_;subst h1 h2;have hge:=grownCap_ge w (xs.length+M.length) c (ρ.t 9);have hgm:grownCap w (xs.length+M.length) c (ρ.t 9)<=maxLen:=grownCap_le_maxLen w _ c _ (by unfold lim at hlim;simp only[maxLen];omega);have htot2:((xs.take n).map row).length+(ys.map row).length=xs.length+M.length:=by rw[htot,hRl]
   obtain⟨g',hg',hr',hv'⟩:=zbN (C:=grownCap w (xs.length+M.length) c (ρ.t 9)) (rest:=(Builtin.zeroCells z9.cells (grownCap w (xs.length+M.length) c (ρ.t 9)-(xs.length+M.length))).toList) (e:=ρ.t 9) r1 hh1' hyk hyva1 hypu hb1 hyn hh2 (by rw[htot2];exact hge) hgm (by rw[jz,size_zeroCells,hzc9,htot2]);rw[hodn,hotn,ko]at hr';have ew:w.drew.alloc (.cells (olds.toArray++mvs.toArray++Builtin.zeroCells z9.cells (grownCap w (xs.length+M.length) c (ρ.t 9)-(xs.length+M.length))) (ρ.t 9))=w.drew.alloc (.cells (olds++mvs++(Builtin.zeroCells z9.cells (grownCap w (xs.length+M.length) c (ρ.t 9)-(xs.length+M.length))).toList).toArray (ρ.t 9)):=by
    congr 2;apply gE;simp
   rw[ew];exact fin hg' hr' (by rw[htot2]at hv' ⊢;exact hv')
 ·-- ahead of something
  have hlt:n<xs.length:=by omega
  have hne:xs.map row≠[]:=by intro e;rw[iv]at e;subst e;simp at hlt
  obtain⟨b,o,e2,cur,ty,k1,k2,k3,k4,k5⟩:=hrow.resolve_left hne;rw[oa]at k1 k3 k4;obtain⟨rfl,lo⟩:ad=aa ⟨b,o,ac⟩/\o+c*k<=cur.size:=by
   simp only[V]at hVs;obtain⟨a2,c2,he,_,_,t2,ht2,_,_,hcap⟩:=hVs;simp only[Value.slice.injEq]at he;obtain⟨rfl,_,rfl⟩:=he;obtain rfl:ti=t2:=by rw[hti]at ht2;injection ht2
   rcases hcap with⟨h0,_⟩|⟨b2,o2,rfl,hl2⟩
   ·omega
   ·rw[oa]at htn;have hl2:=hl2 htn.symm;have hl3:=hl2;rw[k1]at hl2;injection hl2 with hl2;injection hl2 with e1 hl2;injection hl2 with e2 _;obtain rfl:o=o2:=by omega
    subst e1;refine⟨rfl,?_⟩;obtain⟨cur',ty',hcur',hce⟩:=((r.tok _ _ hti).2 _ _ _ hl3).cells;rw[k2]at hcur';injection hcur' with hcur';injection hcur' with hcur' _ _;subst hcur';omega
  have hoe:olds=(cur.toList.drop o).take (xs.length*k):=by
   apply lT;intro j;by_cases hj:j<xs.length*k
   ·have h1:=hoc _ rfl j _ (rk (by omega));rw[vm,cell_of_row w b (o+j) cur ty (0,0) k2]at h1;rw[rk (by omega),ml,nK hj,lj,lr,h1]
   ·rw[kL (by omega),kL (by simp;omega)]
  have hmpos:0<M.length*k:=iW hM0 k0;obtain⟨curv,tyv,frv,hcv,_⟩:=zpu (hmcell 0 _ (rk (by omega)));have hsep:vb=b->vo+M.length*k<=o:=λe=>by
   subst e;rcases kR (vo+(M.length*k-1)) o with h1|h1
   ·omega
   ·have h2:=hmφ (M.length*k-1) _ (rk (by omega));rw[k5 _ h1]at h2;cases h2
  have hod1:olds.drop (n*k)=(cur.toList.drop (o+n*k)).take ((xs.length-n)*k):=by
   rw[hoe,hZ,kf];congr 1;omega
  by_cases hroom:xs.length+M.length<=c
  ·obtain⟨b3,o3,cur3,ap,hE,hcur3,hfit,hfree,g',hg',hr',hv'⟩:=zcN (r1.drew) hh1' hyk hyva1 hypu hb1 hyn (by rw[htot,hRl];exact hroom);injection hE with hE;injection hE with hE1 hE2 _;subst hE1 hE2;have hcd:w.drew.heap[b]?=aa (.cells cur ty (0,0)):=k2;rw[hcd]at hcur3;injection hcur3 with hcur3;injection hcur3 with hcur3 _ _;subst hcur3;have:=zm0 L (vc:=vc) (vs:=mvs) hlt hM0 hroom hc63 k2 lo hod1 (λv hv=>(htail.dC) v hv) hcv hmcell hmvl hmva.dC hsep;refine this.mono λe w' ⟨h1,h2⟩=>?_;subst h1 h2;have htot2:((xs.take n).map row).length+(ys.map row).length=xs.length+M.length:=by rw[htot,hRl]
   have hnn:((xs.take n).map row).length=n:=by rw[oa,htk]
   refine fin hg' ?_ (by rw[htot2]at hv' ⊢;exact hv');rw[hnn]at hr' ⊢;omega
  ·have hroom':c<xs.length+M.length:=by omega
   have:=zo3 L (vc:=vc) (os:=olds.take (n*k)) (cs:=olds.drop (n*k)) (vs:=mvs) (b:=b) (o:=o) (vb:=vb) (vo:=vo) (z9:=z9) (i9:=i9) hlt hM0 hnc hroom' hlim hi9 hz9 (by rw[ke];omega)
    (λj v hj=>by
     rw[ml]at hj;split at hj
     ·have:=hoc _ rfl j v hj;rwa[vm]at this
     ·cases hj) (by rw[jC,hol];omega) (λj v hj=>by
     rw[lj]at hj;have:=hoc _ rfl _ v hj;rwa[vm,<- jA]at this) (λv hv=>(htail.dC) v hv) hmcell hmvl hmva.dC
   refine this.mono λe w' ⟨h1,h2⟩=>?_;subst h1 h2;have hge:=grownCap_ge w (xs.length+M.length) c (ρ.t 9);have hgm:grownCap w (xs.length+M.length) c (ρ.t 9)<=maxLen:=grownCap_le_maxLen w _ c _ (by unfold lim at hlim;simp only[maxLen];omega);have htot2:((xs.take n).map row).length+(ys.map row).length=xs.length+M.length:=by rw[htot,hRl]
   obtain⟨g',hg',hr',hv'⟩:=zbN (C:=grownCap w (xs.length+M.length) c (ρ.t 9)) (rest:=(Builtin.zeroCells z9.cells (grownCap w (xs.length+M.length) c (ρ.t 9)-(xs.length+M.length))).toList) (e:=ρ.t 9) (r1.drew) hh1' hyk hyva1 hypu hb1 hyn hh2 (by rw[htot2];exact hge) hgm (by rw[jz,size_zeroCells,hzc9,htot2]);exact fin hg' hr' (by rw[htot2]at hv' ⊢;exact hv')
end
end Go.Vv
namespace Go.Vv
open Go Go.RowKit
variable{Le L L2 B:List q6}{Me M M2 T:List Nat}{c:Call}{es:List (List AV)}{cs:List AV}{d:TypeDesc}{e t u:TypeId}{x y:Operand}{v:AV}{kd:IntKind}{name:String}{f:FuncId}{off:Nat}
theorem zsw{h:AH}{env:List AV}{L1:List q6}{jb o jr c m k n q:Nat}(hle1:Le.length<=q)(hle2:Me.length<=c)(hcm:c<=m)(hjq:jb<q)(hqr:q<=jr)(hc:L[jb]?=aa (.cells cs))(hco:cs[o]?=aa (.fo (h.zh.length+jr) (h.zs.length+m) k n))(hr:L[jr]?=aa (.row (h.zs.length+m) k es))(S:M[m]?=aa n)
  (R:zB (h.zh.length+q) (h.zs.length+c) env=true) (hL1:(L.set jb (.cells (cs.set o .ct))).take q=L1) (hb:L1.all (λb=>b.low (h.zh.length+q) (h.zs.length+c))=true)
  (hL2:(L.take q).set jb (.cells (cs.set o (.fo (h.zh.length+q) (h.zs.length+c) k n)))++[.row (h.zs.length+c) k es]=L2) (hM2:M.take c++[n]=M2):wk (h.ext Le Me) env (h.ext L M) env (h.ext L2 M2):=λB0 w0 w w1 g1 g vs Y hg r hv=>by
 subst hL1 hL2 hM2;have E:(h.ext L M).zh[h.zh.length+jb]?=aa (.cells cs):=by
  simp only[AH.ext];rw[pa (by omega),m3];exact hc
 have hr':(h.ext L M).g7 (h.zh.length+jr)=aa (.row (h.zs.length+m) k es):=by rw[zX];exact hr
 have hjb:jb<L.length:=(tu.1 hc).1;have hjr:jr<L.length:=(tu.1 hr).1;have hm:m<M.length:=(tu.1 S).1;have hsl:h.zh.length+jb<g.σ.length:=by rw[r.fi];exact(tu.1 E).1
 obtain⟨x,hx⟩:∃x,g.σ[h.zh.length+jb]?=aa x:=⟨_,rk hsl⟩
 cases x with
 |none=>exact(r.row _ _ hx E).elim
 |some c0 =>
  obtain⟨_,_,⟨us,t,k1,k2⟩,_⟩:=r.g7 _ c0 _ hx E;obtain⟨v,X,hV⟩:=k2.f8.get o _ hco;simp only[V]at hV;obtain⟨a,cc,rfl,h1,h2,p,K,O⟩:=hV;obtain⟨A,U⟩:=r.tok _ _ K;have hn:p.n=n:=by
   simp only[AH.ext]at A;rw[pa (by omega),m3,S]at A;injection A with A;exact A.symm
  subst hn;obtain⟨_,t2,ht2,e1,e2,e3,e4,e5⟩:=r.rowAt hr';obtain rfl:p=t2:=by simp_all
  -- the box without it
  have hva1:VA g (cs.set o .ct) us.toList:=VA.mk (VL.dY k2.f8 o _ λu D=>by
   rw[X]at D;injection D with D;subst D;simp only[V];rfl) (by
   rw[oB];intro a J;rcases jn J with J|rfl
   ·have:=k2.dj;rw[oB]at this;exact this a J
   ·rfl)
  have r2:=r.putObj (k':=.cells (cs.set o .ct)) hx E (by simp) rfl rfl rfl rfl (λ_ _=>rfl) ⟨us,t,k1,hva1⟩;have e2':(h.ext L M).put (h.zh.length+jb) (.cells (cs.set o .ct))=h.ext (L.set jb (.cells (cs.set o .ct))) M:=by
   simp only[AH.ext,AH.put];rw[jg _ _ (by omega),m3]
  rw[e2']at r2
  -- the cut
  have N:∀(i:Nat)(b:q6),i<h.zh.length+q->(h.ext (L.set jb (.cells (cs.set o .ct))) M).zh[i]?=aa b->b.low (h.zh.length+q) (h.zs.length+c)=true:=by
   intro i b hi C;simp only[AH.ext]at C;rcases kR i h.zh.length with I|I
   ·rw[ol I]at C;have hb1:(h.ext Le Me).zh[i]?=aa b:=by simp only[AH.ext];rw[ol I];exact C
    have:=Y.fJ hb1;rw[Y.fi,Y.fA]at this;simp only[AH.ext,oA]at this;exact q6.fY (by omega) (by omega) b this
   ·rw[pa I]at C;rw[oB]at hb;refine hb b (lc (i:=i-h.zh.length) ?_);rw[ml,nK (by omega)];exact C
  have r3:=r2.cut (h.zh.length+q) (h.zs.length+c) N;have e3':(h.ext (L.set jb (.cells (cs.set o .ct))) M).cut (h.zh.length+q) (h.zs.length+c)=h.ext ((L.set jb (.cells (cs.set o .ct))).take q) (M.take c):=by
   simp only[AH.cut,AH.ext,kx,m3];rw[lh (l:=h.zh) (by omega),lh (l:=h.zs) (by omega)]
  rw[e3']at r3;have Z:g1.le (g.cut (h.zh.length+q) (h.zs.length+c)):=Gh.dm hg (by rw[Y.fi];simp only[AH.ext,oA];omega) (by rw[Y.fA];simp only[AH.ext,oA];omega)
  -- the row
  have s:(g.cut (h.zh.length+q) (h.zs.length+c)).τ.length=h.zs.length+c:=by
   rw[r3.fA];simp only[AH.ext,oA,ke];omega
  have hlenS:(g.cut (h.zh.length+q) (h.zs.length+c)).σ.length=h.zh.length+q:=by
   rw[r3.fi];simp only[AH.ext,oA,ke,lm];omega
  have z:=(Gh.fu (g.cut (h.zh.length+q) (h.zs.length+c)) p).trans (Gh.fd _ ac);have hT:(((g.cut (h.zh.length+q) (h.zs.length+c)).fI p).ft ac).τ[h.zs.length+c]?=aa p:=by
   simp only[Gh.fI,Gh.ft];rw[pa (gQ s),s,hP];rfl
  have r4:=r3.ey p k es U (λb x I=>⟨λj u y hj D=>by
   have hj1:j<h.zs.length+c:=by
    have:=(tu.1 hj).1;simp only[Gh.cut,ke]at this;omega
   have:=r.fS _ _ _ _ b _ _ (zca hj) K D I;omega,λj c' hj=>r.sep j c' _ p b _ (zca hj) K I⟩)
   ⟨p,by rw[s];exact hT,e1,e2,e3,e4,e5.imp (λh=>h) λ⟨b,o,e,cs,ty,k1,k2,k3,k4,k5⟩=>⟨b,o,e,cs,ty,k1,k2,(VA.cut _ _ (qu e4) k3).mono z,k4,k5⟩⟩
  rw[s]at r4;have Q:(((g.cut (h.zh.length+q) (h.zs.length+c)).fI p).ft ac).σ[h.zh.length+jb]?=aa (aa c0):=z.sig _ _ (wK (by omega) hx);generalize hH:(({ h.ext ((L.set jb (.cells (cs.set o .ct))).take q) (M.take c)with zs:=(h.ext ((L.set jb (.cells (cs.set o .ct))).take q) (M.take c)).zs++[p.n] }:AH).new (.row (h.zs.length+c) k es))=H4 at r4;have W:H4=h.ext ((L.set jb (.cells (cs.set o .ct))).take q++[.row (h.zs.length+c) k es]) (M.take c++[p.n]):=by
   rw[<- hH];simp[AH.ext,AH.new,lf]
  have hk4:H4.zh[h.zh.length+jb]?=aa (.cells (cs.set o .ct)):=by
   rw[W];simp only[AH.ext];rw[pa (by omega),m3,ol (by rw[ke,lm];omega),ml,nK hjq,li hjb]
  obtain⟨_,_,⟨G,t',F,k2'⟩,_⟩:=r4.g7 _ c0 _ Q hk4;have hus:G=us:=by rw[k1]at F;simp only[p5,Obj.cells.injEq]at F;exact F.1.symm
  subst hus;have hva4:VA (((g.cut (h.zh.length+q) (h.zs.length+c)).fI p).ft ac) (cs.set o (.fo (h.zh.length+q) (h.zs.length+c) k p.n)) G.toList:=VA.mk (by
   have:=VL.dY k2'.f8 o (.fo (h.zh.length+q) (h.zs.length+c) k p.n) λu D=>by
    rw[X]at D;injection D with D;subst D;simp only[V];exact⟨a,cc,rfl,h1,h2,p,hT,O⟩
   rw[gS]at this;exact this) (by
   rw[oB];intro a J;rcases jn J with J|rfl
   ·have:=k2.dj;rw[oB]at this;exact this a J
   ·rfl)
  have r5:=r4.putObj (k':=.cells (cs.set o (.fo (h.zh.length+q) (h.zs.length+c) k p.n))) Q hk4 (by simp) rfl rfl rfl rfl (λ_ _=>rfl) ⟨G,t',F,hva4⟩;refine⟨_,Z.trans z,?_,VL.mono z _ _ (VL.cut _ _ R hv),λ_ h=>h⟩;refine Eq.subst (motive:=λH=>Rel _ _ _ H w) ?_ r5;rw[W];simp only[AH.ext,AH.put,AH.mk.injEq,kA];rw[jg _ _ (by omega),m3,ij _ _ (by rw[ke,lm];omega)];congr 2;rw[List.take_set,gS]
theorem zsv{h:AH}{env C:List AV}{d jr c m k n q:Nat}(hle1:Le.length<=q)(hle2:Me.length<=c)(hcm:c<=m)(hqr:q<=jr)(he:yy env (.tmp d)=aa (.fo (h.zh.length+jr) (h.zs.length+m) k n))(hr:L[jr]?=aa (.row (h.zs.length+m) k es))(W:M[m]?=aa n)
  (I:zB (h.zh.length+q) (h.zs.length+c) (env.set d .any)=true) (hb:(L.take q).all (λb=>b.low (h.zh.length+q) (h.zs.length+c))=true)
  (hE:env.set d (.fo (h.zh.length+q) (h.zs.length+c) k n)=C) (Y:L.take q++[.row (h.zs.length+c) k es]=L2) (hM2:M.take c++[n]=M2):wk (h.ext Le Me) env (h.ext L M) C (h.ext L2 M2):=λB0 w0 w w1 g1 g vs N hg r hv=>by
 subst hE Y hM2;have he:env[d]?=aa (.fo (h.zh.length+jr) (h.zs.length+m) k n):=he;have Q:(h.ext L M).g7 (h.zh.length+jr)=aa (.row (h.zs.length+m) k es):=by rw[zX];exact hr
 have hjr:jr<L.length:=(tu.1 hr).1;have hm:m<M.length:=(tu.1 W).1;obtain⟨v,hvd,hV⟩:=hv.get d _ he;simp only[V]at hV;obtain⟨a,cc,rfl,h1,h2,A,E,hcap⟩:=hV;obtain⟨R,J⟩:=r.tok _ _ E;have hn:A.n=n:=by
  simp only[AH.ext]at R
  simp_all
 subst hn;obtain⟨_,t2,ht2,e1,e2,e3,e4,e5⟩:=r.rowAt Q;obtain rfl:A=t2:=by simp_all
 have G:∀(i:Nat)(b:q6),i<h.zh.length+q->(h.ext L M).zh[i]?=aa b->b.low (h.zh.length+q) (h.zs.length+c)=true:=by
  intro i b hi z;simp only[AH.ext]at z;rcases kR i h.zh.length with D|D
  ·rw[ol D]at z;have hb1:(h.ext Le Me).zh[i]?=aa b:=by simp only[AH.ext];rw[ol D];exact z
   have:=N.fJ hb1;rw[N.fi,N.fA]at this;simp only[AH.ext,oA]at this;exact q6.fY (by omega) (by omega) b this
  ·rw[pa D]at z;rw[oB]at hb;refine hb b (lc (i:=i-h.zh.length) ?_)
   grind
 have Z:=r.cut (h.zh.length+q) (h.zs.length+c) G;have U:(h.ext L M).cut (h.zh.length+q) (h.zs.length+c)=h.ext (L.take q) (M.take c):=by
  simp only[AH.cut,AH.ext,kx,m3];rw[lh (l:=h.zh) (by omega),lh (l:=h.zs) (by omega)]
 rw[U]at Z;have O:g1.le (g.cut (h.zh.length+q) (h.zs.length+c)):=Gh.dm hg (by rw[N.fi];simp only[AH.ext,oA];omega) (by rw[N.fA];simp only[AH.ext,oA];omega);have p:(g.cut (h.zh.length+q) (h.zs.length+c)).τ.length=h.zs.length+c:=by
  rw[Z.fA];simp only[AH.ext,oA,ke];omega
 have s:=(Gh.fu (g.cut (h.zh.length+q) (h.zs.length+c)) A).trans (Gh.fd _ ac);have hT:(((g.cut (h.zh.length+q) (h.zs.length+c)).fI A).ft ac).τ[h.zs.length+c]?=aa A:=by
  simp only[Gh.fI,Gh.ft];rw[pa (gQ p),p,hP];rfl
 have r4:=Z.ey A k es J (λb x D=>⟨λj u y S F=>by
  have hj1:j<h.zs.length+c:=by
   grind
  have:=r.fS _ _ _ _ b _ _ (zca S) E F D;omega,λj c' S=>r.sep j c' _ A b _ (zca S) E D⟩)
  ⟨A,by simp_all,e1,e2,e3,e4,e5.imp (λh=>h) λ⟨b,o,e,cs,ty,k1,k2,k3,k4,k5⟩=>⟨b,o,e,cs,ty,k1,k2,(VA.cut _ _ (qu e4) k3).mono s,k4,k5⟩⟩
 rw[p]at r4;have X:VL g (env.set d .any) vs:=VL.dY hv d .any λ_ _=>by simp only[V]
 have K:=VL.dY (VL.mono s _ _ (VL.cut _ _ I X)) d (.fo (h.zh.length+q) (h.zs.length+c) k A.n) λu F=>by
  rw[hvd]at F;injection F with F;subst F;simp only[V]
  grind
 rw[gS]at K;refine⟨_,O.trans s,?_,K,λ_ h=>h⟩;refine Eq.subst (motive:=λH=>Rel _ _ _ H w) ?_ r4;simp[AH.ext,AH.new,lf]
theorem nP{h:AH}{K:AV->AH->Prop}{s e:AV}{k1:Nat}{a:List (List AV)}(F:HdS h B k1 a s)(G:e.low h.zh.length h.zs.length=true)
  (E:K (.fl [.fo h.zh.length h.zs.length k1 a.length,e]) (h.ext [.row h.zs.length k1 a] [a.length])):nQ h K (.fl [s,e]) (h.ext B T):=by
 refine wv (λB0 w0 w H I g vs C D r z=>?_) E;simp only[VL]at z;obtain⟨v,_,rfl,A,rfl⟩:=z;simp only[V,VL]at A;obtain⟨us,rfl,u,_,m,i,q,_,rfl,k,rfl⟩:=A;obtain⟨g',n,j,l,p,b⟩:=zsG C D r F i;refine⟨g',n,j,?_,b⟩;simp only[VL,V];exact⟨_,_,rfl,⟨us,rfl,u,_,m,by simpa only[V]using l,q,_,rfl,p e q G k,rfl⟩,rfl⟩
theorem zoZ{α:Type}{row:α->AV}{L:List α}{i:Int}{y:α}(a:zR L i=aa y)(b:L.map row=cs):cj false 1 (0+i.toNat*1) cs=aa (row y):=by
 obtain⟨h0,a⟩:=zsm a;subst b;simp only[cj,l8,Nat.mul_one];simp[a]
theorem zos{P:Program}{Q:Exit->List AV->AH->Prop}{env:List AV}{h:AH}{ρ σ:Type}{body:Code}{f:σ->Option (Out ρ σ)}{l:σ}{rest:σ->Option ρ}{i:ρ}(U:σ->List (Nat×AV))(H:σ->AH)(a:lp (ya f l) rest=aa i){E:σ->List AV}
  (D:∀s,bi env (U s)=E s) (h0:wk h env h (E l) (H l))
  (hs:∀n s g,f s=aa g->zuG f n rest g=aa i->vi P body (sn (λb z=>∃j,lp (qi f n j) rest=aa i/\wk h b z (E j) (H j)) Q) (E s) (H s)) :
  vi P (.loop body) Q env h:=by
 obtain⟨C,w⟩:∃n,lp (qi f n l) rest=aa i:=by
  obtain⟨g,k,q⟩:=lpF a;obtain⟨n,F⟩:=zaU k
  grind
 refine zij (σ:=Nat×σ) (λp=>E p.2) (λp=>H p.2) (λp=>lp (qi f p.1 p.2) rest=aa i) (λp=>p.1) (C,l) h0 w ?_
 rintro⟨n,s⟩ a
 cases n with
 |zero=>simp[qi,lp]at a
 |succ n =>
  obtain⟨g,k,q⟩:∃g,f s=aa g/\zuG f n rest g=aa i:=by
   simp only[qi]at a;split at a
   ·cases a
   ·rename_i r m;exact⟨.ret r,m,a⟩
   ·rename_i r m;exact⟨.brk r,m,a⟩
   ·rename_i r m;exact⟨.gV r,m,a⟩
  refine vJ ?_ _ _ _ (hs n s g k q);intro x b z A;cases x with
  |normal =>
   obtain⟨j,k,q⟩:=A;exact⟨(n,j),k,by omega,.inr q⟩
  |_=>exact A

section
variable{P:Program}{o:Oper}{env:List AV}{h:AH}
def zuF:TypeDesc->Bool
 |.interface _=>false
 |_=>true
theorem zcm(h:yd d=true):zuF d=true:=by
 cases d<;>first|rfl|cases h
theorem zhM{a a':AV}{k:Nat}(g:o.op=.makeInterface t x)(l:Ty P t d k)(hd:zuF d=true)(n:yy env x=aa a)(b:w5 P t a=a'):xN P o env h=aa [(.iface t a',h)]:=by
 obtain⟨j,i⟩:=zF n;have m:=l.u;unfold xN;simp only[g,j,oS,m,i,b];cases d<;>first|rfl|cases hd
theorem zuq{k:Nat}(a:o.op=.typeAssert x u t true)(j:Ty P t d k)(hd:zuF d=true)(l:yy env x=aa (.iface t v)):xN P o env h=aa [(.fl [v,.bool true],h)]:=by
 obtain⟨g,b⟩:=zF l;have i:=j.u;unfold xN;simp only[a,g,oS,i,b];cases d<;>first|(simp;done)|(simp[zuF]at hd)
theorem zpE{k k2:Nat}(i:o.op=.call c)(p:c.callee=.builtin .cap)(j:c.args=#[x])(b:c.argTypes=#[t])(n:El P t e k){a:AV}(q:yy env x=aa a)(g:w5 P t a=.gW ac k2 es):xN P o env h=aa [(.int .i64 (es.length:Int),h)]:=by
 obtain⟨m,l⟩:=zF q;unfold xN;simp only[i,p,j,b,m,oS,n.u,l,g]
theorem zqo{k k2:Nat}(b:o.op=.slice t x ac (aa y) ac)(a:El P t e k2)(p:yy env x=aa (.gW ac k []))(g:yy env y=aa (.int kd 0)):xN P o env h=aa [(.gW ac k [],h)]:=by
 obtain⟨m,j⟩:=zF p;obtain⟨n,l⟩:=zF g;obtain⟨i,hi,_⟩:=a.i;simp[xN,b,m,j,n,l,a.u,hi]
def rcB(P:Program)(t:TypeId)(name:String):Option (FuncId×Bool):=match P.info? t with
 |some i=>match i.methods.toList.find? (λm=>m.name==name)with
  |some m=>if m.path.isEmpty then m.func else ac
  |none=>ac
 |none=>ac
theorem zxt{k:Nat}(a:rcB P t name=aa (f,true))(j:Ty P t (.pointer e) k):zhV P h t v name=aa (f,v):=by
 unfold rcB at a;unfold zhV;split at a
 ·split at a
  ·split at a
   ·rename_i _ i hi _ m g b;simp only[hi,g,b,oS,a,j.u]
   ·cases a
  ·cases a
 ·cases a
theorem b9{k k2 id:Nat}{x g:AV}(a:rcB P t name=aa (f,false))(p:Ty P t (.pointer e) k)(hd:Ty P e d k2)(s:sJ h (yd d) k2 (.ptr id off)=aa x)(n:w5 P e x=g):zhV P h t (.ptr id off) name=aa (f,g):=by
 unfold rcB at a;unfold zhV;obtain⟨j,r,b⟩:=hd.i;split at a
 ·split at a
  ·split at a
   ·rename_i _ i hi _ m q l;simp only[hi,q,l,oS,a,p.u,hd.u,r,b,s,lK,n]
   ·cases a
  ·cases a
 ·cases a
theorem p6{j k:Nat}{b:Bool}(a:L[j]?=aa (.cells cs))(g:cj b k off cs=aa v):sJ (h.ext L M) b k (.ptr (h.zh.length+j) off)=aa v:=by
 simp only[sJ,zX,a];exact g
theorem uw{b:AV}{g:FuncId}{l:List (TypeId×AV)}{args:List AV}(j:o.op=.call c)(s:c.callee=.invoke x name)(w:yy env x=aa (.iface t v))(p:zhV P h t v name=aa (g,b))
  (k:oz env c.args.toList c.argTypes.toList=aa l) (m:Fx P l args):zj P o env h=.call g (b::args):=by
 obtain⟨q,n⟩:=zF w;obtain⟨A,z,r⟩:=zgq (P:=P) k;have i:c.args.all yo=true:=by grind
 have a:(c.args.size==c.argTypes.size)=true:=by simp_all
 simp only[zj,j,i,a,lB,oS,s,q,n,r,p,<- m.eq];simp
theorem znP{α:Type}{row:α->List AV}{B':List q6}{T':List Nat}{d:α}{k k2 q t':Nat}{C:IntKind}{n:Int}{z:List AV}{a:AV}(K:o.op=.call c)(X:c.callee=.builtin .append)(V:c.args=#[x,y])(p:c.argTypes=#[t,u])(r:El P t e k)(Q:Ty P u (.int C) k2)(I:yY P e=aa z)(b:xO z=aa (row d))
  (A:(row d).length=k) (S:yy env x=aa a) (J:w5 P t a=.gW ac k []) (O:yy env y=aa (.int kd n)) (s:0<n/\n<=(lim:Int)) (g:B.length=q) (l:T.length=t') (W:B++[.row (h.zs.length+t') k ((List.replicate n.toNat d).map row)]=B') (E:T++[n.toNat]=T') :
  xN P o env (h.ext B T)=aa [(.fo (h.zh.length+q) (h.zs.length+t') k n.toNat,h.ext B' T')]:=by
 obtain⟨F,w⟩:=zF S;obtain⟨R,D⟩:=zF O;obtain⟨j,H,U,G,N,_⟩:=r.i;subst g l W E;have m:z.length=k:=by rw[<- tW b,A]
 simp only[xN,K,X,V,p,F,w,R,D,lB,oS,r.u,Q.u,I,H,J];rw[nK ⟨⟨U,m,G⟩,N,s.1,s.2⟩,b];simp[AH.ext,AH.new,lf]
end
end Go.Vv
namespace Go.Vv
open Go Go.RowKit
theorem VE.lift{g g':Gh}(d:g.le g'){a:Option Addr}{c k:Nat}{es:List (List AV)}(f:es.length<=c)(e:c<=maxLen)(h:es=[] \/ ∃b o,a=aa ⟨b,o,ac⟩/\VE g b k o es):es=[] \/ ∃b o,a=aa ⟨b,o,ac⟩/\VE g' b k o es:=by
 have:=V.mono d (.sl k es) (.slice a es.length c) (by simp only[V];exact⟨a,c,rfl,f,e,h⟩);simp only[V]at this
 grind
theorem zqt{h:AH}{env:List AV}{Le L L1:List q6}{Me M M1:List Nat}{c q:Nat}(s:Le.length<=q)(p:Me.length<=c)(e:zB (h.zh.length+q) (h.zs.length+c) env=true)(k:L.take q=L1)
  (o:L1.all (λb=>b.low (h.zh.length+q) (h.zs.length+c))=true) (j:M.take c=M1):wk (h.ext Le Me) env (h.ext L M) env (h.ext L1 M1):=λB0 w0 w x y g vs d t r v=>by
 subst k j;have n:=r.cut (h.zh.length+q) (h.zs.length+c) λi b hi a=>by
  simp only[AH.ext]at a;rcases kR i h.zh.length with f|f
  ·rw[ol f]at a;have m:(h.ext Le Me).zh[i]?=aa b:=by simp only[AH.ext];rw[ol f];exact a
   have:=d.fJ m;rw[d.fi,d.fA]at this;simp only[AH.ext,oA]at this;exact q6.fY (by omega) (by omega) b this
  ·rw[pa f]at a;rw[oB]at o;refine o b (lc (i:=i-h.zh.length) ?_)
   grind
 have u:(h.ext L M).cut (h.zh.length+q) (h.zs.length+c)=h.ext (L.take q) (M.take c):=by
  simp only[AH.cut,AH.ext,kx,m3];rw[lh (l:=h.zh) (by omega),lh (l:=h.zs) (by omega)]
 rw[u]at n;exact⟨_,Gh.dm t (by rw[d.fi];simp only[AH.ext,oA];omega) (by rw[d.fA];simp only[AH.ext,oA];omega),n,VL.cut _ _ e v,λ_ h=>h⟩
end Go.Vv
