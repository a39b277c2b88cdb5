/- Pools: maps whose number is not told ahead, each by its place in the pool; what an operation comes to on them. -/
import Derived.Test.YthnmdghfecoafaaGreatVvRw
import Derived.OrdersIn
import Derived.CallsIn
import Derived.RangeFuncRecord
set_option linter.all false
namespace Go.Vv
open Go Go.RowKit Go.Lib
variable {α:Type} {i:Nat}

def zG {α:Type} (m:List (Option α)):List α:=m.filterMap id
def vT {α:Type}:List (Option α)->Nat->Option α->List (Option α)
 | [],_,_=>[]
 | none::r,j,x=>none::vT r j x
 | some _::r,0,x=>x::r
 | some y::r,j+1,x=>some y::vT r j x
def pget (h:AH):AV->Option (Nat×Nat×List (Option (AV×AV)))
 | .imap id q=>match h.blk id with
  | some (.pool ms)=>(ms[q]?).map λm=>(id,q,m)
  | _=>none
 | _=>none
def pput (h:AH) (id q:Nat) (m:List (Option (AV×AV))):AH:=match h.blk id with
 | some (.pool ms)=>h.put id (.pool (ms.set q m))
 | _=>h
def pcand (seen:List Nat) (p:Option α×Nat):Option (α×Nat):=match p.1 with
 | some e=>if seen.contains p.2 then none else some (e,p.2)
 | none=>none
def pnextAlts (h:AH) (it id q n:Nat) (seen:List Nat) (m:List (Option (AV×AV))):List (AV×AH) :=
 match m.zipIdx.filterMap (pcand seen) with
 | []=>[(.tup [.bool false],h)]
 | p::r=>(p::r).map λp=>(.tup [.bool true,p.1.1,p.1.2],h.put it (.pmiter id q n (seen++[p.2])))
def pPut (P:Program) (h:AH) (kt:TypeId) (m k x:AV):Option AH :=
 if xq P kt k k=some true then (match pget h m with
  | some (id,q,es)=>match qV P kt k (zG es) 0 with
   | some (some (i,_))=>some (pput h id q (vT es i (some (k,x.zcl))))
   | some none=>some (pput h id q (es++[some (k,x.zcl)]))
   | none=>none
  | none=>none) else none
def AV.isNilm:AV->Bool
 | .nilm=>true
 | _=>false
def pDel (P:Program) (h:AH) (kt:TypeId) (m k:AV):Option AH :=
 if xq P kt k k=some true then (if m.isNilm then some h else match pget h m with
  | some (id,q,es)=>match qV P kt k (zG es) 0 with
   | some (some (i,_))=>some (pput h id q (vT es i none))
   | some none=>some h
   | none=>none
  | none=>none) else none
def xD (P:Program) (o:Oper) (env:List AV) (h:AH) (n:Nat):Option (List (AV×AH)) :=
 match o.op with
 | .makeMap _ none=>match h.blk n with
  | some (.pool ms)=>some [(.imap n ms.length,h.put n (.pool (ms++[[]])))]
  | _=>none
 | .lookup t x k ok=>if yf x&&yf k then (match P.underlying t with
  | some (.map kt et)=>if xq P kt (ev env k) (ev env k)=some true then (match pget h (ev env x) with
   | some (_,_,es)=>match qV P kt (ev env k) (zG es) 0,vS P et with
    | some (some (_,v)),_=>some [(va ok v true,h)]
    | some none,some z=>some [(va ok z false,h)]
    | _,_=>none
   | none=>none) else none
  | _=>none) else none
 | .mapUpdate t m k x | .insert t m k x=>if yf m&&yf k&&yf x then (match P.underlying t with
  | some (.map kt _)=>(pPut P h kt (ev env m) (ev env k) (ev env x)).map λh'=>[(aundef,h')]
  | _=>none) else none
 | .call c=>match c.callee,c.argTypes.toList,c.args.toList with
  | .builtin .len,[t],[x]=>if yf x then (match P.underlying t with
   | some (.map _ _)=>if (ev env x).isNilm then some [(.int .i64 0,h)] else match pget h (ev env x) with
    | some (_,_,es)=>some [(.int .i64 (zG es).length,h)]
    | none=>none
   | _=>none) else none
  | .builtin .delete,t::_,[x,k]=>if yf x&&yf k then (match P.underlying t with
   | some (.map kt _)=>(pDel P h kt (ev env x) (ev env k)).map λh'=>[(.tup [],h')]
   | _=>none) else none
  | _,_,_=>none
 | .range t x=>if yf x then (match P.underlying t with
  | some (.map _ _)=>match pget h (ev env x) with
   | some (id,q,es)=>some [(.ptr h.blks.length 0,h.new (.pmiter id q es.length []))]
   | none=>none
  | _=>none) else none
 | .next x false=>if yf x then (match ev env x with
  | .ptr it 0=>match h.blk it with
   | some (.pmiter id q n seen)=>match pget h (.imap id q) with
    | some (_,_,es)=>if es.length=n then some (pnextAlts h it id q n seen es) else none
    | none=>none
   | _=>none
  | _=>none) else none
 | .entry x=>if yf x then (match ev env x with
  | .ptr it 0=>match h.blk it with
   | some (.pmiter id q n seen)=>match pget h (.imap id q),seen.getLast? with
    | some (_,_,es),some i=>if es.length=n then (match es[i]? with
     | some (some e)=>some [(.tup [e.1,e.2],h)]
     | _=>none) else none
    | _,_=>none
   | _=>none
  | _=>none) else none
 | _=>none

section
variable {P:Program} {w:World} {g:Gh} {h:AH} {B:Nat} {w0:World}
theorem xg {r:List (Option α)}:zG (none::r)=zG r:=rfl
theorem yT {x:α} {r:List (Option α)}:zG (some x::r)=x::zG r:=rfl
theorem tset_len {α:Type}:∀(m:List (Option α)) (j:Nat) (x:Option α),(vT m j x).length=m.length
 | [],_,_=>rfl
 | none::r,j,x=>by simp [vT,tset_len r j x]
 | some _::r,0,x=>rfl
 | some _::r,j+1,x=>by simp [vT,tset_len r j x]
theorem MTE.toME:∀{i:Nat} {m:List (Option (AV×AV))} {es:List MapEntry},MTE g i m es->ME g (zG m) es
 | _,[],_,h=>by simp only [MTE] at h;simp only [zG,r7,ME];exact h
 | i,none::r,_,h=>by simp only [MTE] at h;rw [xg];exact MTE.toME h
 | i,some (k,x)::r,_,h=>by
  simp only [MTE] at h;obtain ⟨e,s,rfl,_,b,a,c⟩:=h;rw [yT];simp only [ME];exact ⟨e,s,rfl,b,a,MTE.toME c⟩
theorem MTE.push:∀{i:Nat} {m:List (Option (AV×AV))} {es:List MapEntry} {k x:AV} {e:MapEntry},MTE g i m es->V g k e.key->V g x e.val->e.born=i+m.length->MTE g i (m++[some (k,x)]) (es++[e])
 | i,[],_,k,x,e,h,hk,hx,hb=>by
  simp only [MTE] at h;subst h;simp only [uV,MTE];exact ⟨e,[],rfl,by simpa using hb,hk,hx,rfl⟩
 | i,none::r,_,k,x,e,h,hk,hx,hb=>by
  simp only [MTE] at h;simp only [tj,MTE];exact h.push hk hx (by simp only [ul] at hb;omega)
 | i,some (k0,x0)::r,_,k,x,e,h,hk,hx,hb=>by
  simp only [MTE] at h;obtain ⟨d,s,rfl,h0,b,a,c⟩:=h;simp only [tj,MTE];exact ⟨d,s++[e],rfl,h0,b,a,c.push hk hx (by simp only [ul] at hb;omega)⟩
theorem MTE.putAt:∀{i:Nat} {m:List (Option (AV×AV))} {es:List MapEntry} (j:Nat) {k x:AV} {e a:MapEntry},MTE g i m es->es[j]?=some e->a.born=e.born->V g k a.key->V g x a.val->MTE g i (vT m j (some (k,x))) (es.set j a)
 | i,[],_,j,k,x,e,a,h,hj,_,_,_=>by
  simp only [MTE] at h;subst h;simp at hj
 | i,none::r,_,j,k,x,e,a,h,hj,hb,hk,hx=>by
  simp only [MTE] at h;simp only [vT,MTE];exact h.putAt j hj hb hk hx
 | i,some (k0,x0)::r,_,0,k,x,e,a,h,hj,hb,hk,hx=>by
  simp only [MTE] at h;obtain ⟨c,s,rfl,h0,f,d,b⟩:=h;simp only [sH,uf] at hj;subst hj;simp only [vT,MTE,uh];exact ⟨a,s,rfl,hb.trans h0,hk,hx,b⟩
 | i,some (k0,x0)::r,_,j+1,k,x,e,a,h,hj,hb,hk,hx=>by
  simp only [MTE] at h;obtain ⟨c,s,rfl,h0,f,d,b⟩:=h;simp only [sI] at hj;simp only [vT,MTE,ug];exact ⟨c,_,rfl,h0,f,d,b.putAt j hj hb hk hx⟩
theorem MTE.delAt:∀{i:Nat} {m:List (Option (AV×AV))} {es:List MapEntry} (j:Nat),MTE g i m es->MTE g i (vT m j none) (es.eraseIdx j)
 | i,[],_,j,h=>by
  simp only [MTE] at h;subst h;simp [vT,MTE]
 | i,none::r,_,j,h=>by
  simp only [MTE] at h;simp only [vT,MTE];exact h.delAt j
 | i,some (k0,x0)::r,_,0,h=>by
  simp only [MTE] at h;obtain ⟨b,s,rfl,h0,d,c,a⟩:=h;simp only [vT,MTE,List.eraseIdx_cons_zero];exact a
 | i,some (k0,x0)::r,_,j+1,h=>by
  simp only [MTE] at h;obtain ⟨b,s,rfl,h0,d,c,a⟩:=h;simp only [vT,MTE,List.eraseIdx_cons_succ];exact ⟨b,_,rfl,h0,d,c,a.delAt j⟩
theorem MTE.at:∀{i:Nat} {m:List (Option (AV×AV))} {es:List MapEntry},MTE g i m es->∀e ∈ es,∃j p,m[j]?=some (some p)/\e.born=i+j/\V g p.1 e.key/\V g p.2 e.val
 | i,[],_,h,e,a=>by
  simp only [MTE] at h;subst h;simp at a
 | i,none::r,_,h,e,a=>by
  simp only [MTE] at h;obtain ⟨j,p,b,d,c⟩:=MTE.at h e a;exact ⟨j+1,p,by simpa using b,by omega,c⟩
 | i,some (k0,x0)::r,_,h,e,a=>by
  simp only [MTE] at h;obtain ⟨f,s,rfl,h0,b,d,c⟩:=h;rcases ux.1 a with rfl | a
  ·exact ⟨0,(k0,x0),rfl,by simpa using h0,b,d⟩
  ·obtain ⟨j,p,b,d,c⟩:=MTE.at c e a;exact ⟨j+1,p,by simpa using b,by omega,c⟩
theorem MTE.ex:∀{i:Nat} {m:List (Option (AV×AV))} {es:List MapEntry},MTE g i m es->∀(j:Nat) (p:AV×AV),m[j]?=some (some p)->∃e ∈ es,e.born=i+j
 | i,[],_,h,j,p,hj=>by simp at hj
 | i,none::r,_,h,0,p,hj=>by simp at hj
 | i,none::r,_,h,j+1,p,hj=>by
  simp only [MTE] at h;obtain ⟨e,a,b⟩:=MTE.ex h j p (by simpa using hj);exact ⟨e,a,by omega⟩
 | i,some (k0,x0)::r,_,h,0,p,hj=>by
  simp only [MTE] at h;obtain ⟨c,s,rfl,h0,a,b,d⟩:=h;exact ⟨c,by simp,by simpa using h0⟩
 | i,some (k0,x0)::r,_,h,j+1,p,hj=>by
  simp only [MTE] at h;obtain ⟨c,s,rfl,h0,a,b,d⟩:=h;obtain ⟨e,a,b⟩:=MTE.ex d j p (by simpa using hj);exact ⟨e,by simp [a],by omega⟩

theorem MTE.nodup:∀{i:Nat} {m:List (Option (AV×AV))} {es:List MapEntry},MTE g i m es->(es.map (·.born)).Nodup
 | i,[],_,h=>by
  simp only [MTE] at h;subst h;simp
 | i,none::r,_,h=>by
  simp only [MTE] at h;exact MTE.nodup h
 | i,some (k0,x0)::r,_,h=>by
  simp only [MTE] at h;obtain ⟨c,s,rfl,h0,f,d,a⟩:=h;simp only [uw,pI,u6,not_exists,not_and];refine ⟨λe b k=>?_,MTE.nodup a⟩;obtain ⟨j,p,_,l,_⟩:=MTE.at a e b;omega
theorem MTE.find {m:List (Option (AV×AV))} {es:List MapEntry} (h:MTE g i m es) {j:Nat} {p:AV×AV} (b:m[j]?=some (some p)):∃e ∈ es,e.born=i+j/\V g p.1 e.key/\V g p.2 e.val:=by
 obtain ⟨e,c,f⟩:=h.ex j p b;obtain ⟨d,n,a,l,k⟩:=h.at e c;obtain rfl:d=j:=by omega
 rw [b] at a;injection a with a;injection a with a;subst a;exact ⟨e,c,f,k⟩
theorem Rel.poolAt (r:Rel B w0 g h w) {id:Nat} {ms:List (List (Option (AV×AV)))} (b:h.blks[id]?=some (.pool ms)):g.σ[id]?=some none/\PoolOk g w id ms:=by
 have d:id < g.σ.length:=by rw [r.slen];exact (ua.1 b).1
 rcases a:g.σ[id] with _ | c
 ·have a:g.σ[id]?=some none:=by rw [ui d,a]
  exact ⟨a,r.row _ _ a b⟩
 ·exact (r.blk id c _ (by simp_all) b).2.2.1.elim
theorem Rel.poolPut (r:Rel B w0 g h w) {id q c:Nat} {ms:List (List (Option (AV×AV)))} {m':List (Option (AV×AV))} {ents:Array MapEntry} (m:h.blks[id]?=some (.pool ms)) (C:g.N c=some (.own id q)) (hm:MTE g 0 m' ents.toList) :
  Rel B w0 g (h.put id (.pool (ms.set q m'))) { w with heap:=w.heap.setIfInBounds c (.map ents m'.length) }:=by
 obtain ⟨S,H⟩:=r.poolAt m;obtain ⟨hB,p,K,E,F⟩:=r.nb c _ C;have U:id < h.blks.length:=(ua.1 m).1;have d:∀b,b ≠ c->(w.heap.setIfInBounds c (.map ents m'.length))[b]?=w.heap[b]?:=λb m=>by
  rw [Array.getElem?_setIfInBounds,te (Ne.symm m)]
 have n:∀(j:Nat) (x:Blk),(h.blks.set id (.pool (ms.set q m')))[j]?=some x->(j=id/\x=.pool (ms.set q m')) \/ (j ≠ id/\h.blks[j]?=some x):=by
  grind
 have T:=H.2 c q C;refine ⟨⟨r.below.os,r.below.tape,r.below.output,by simpa using r.below.size,λb m=>(d b (by omega)).trans (r.below.block b m)⟩,by simpa using r.bsz,λb j v e=>?_,by simp [AH.put,r.slen],λi x k f z=>?_,r.tlen,λi t G=>?_,r.sinj,r.tinj,r.sep,λx f=>?_,λi k hi z=>?_,λi j t k k' es es' hi R=>?_,
  λb x m=>?_,λb m=>⟨by simpa using (r.ob b m).1,(r.ob b m).2⟩,r.oa⟩
 ·have u:b ≠ c:=by rintro rfl;rw [F] at e;cases e
  exact (World.cell?_of_block (w:=w) (a:=⟨b,j,none⟩) (d b u)).trans (r.phi b j v e)
 ·rcases n i k z with ⟨rfl,rfl⟩ | ⟨_,z⟩
  ·rw [S] at f;cases f
  ·obtain ⟨O,L,Z,X⟩:=r.blk i x k f z;exact ⟨O,by simpa using L,Z.mono (Gh.le.refl g) (d x (by rintro rfl;exact p.1 i f)),X⟩
 ·obtain ⟨O,L⟩:=r.tok i t G;exact ⟨O,λb l e I=>(L b l e I).mono (by simp) (d b (by rintro rfl;exact p.2.2 i t _ G I)) λ_ _=>rfl⟩
 ·exact ⟨(r.dfr x f).1,(d x (by rintro rfl;exact p.2.1 f)).trans (r.dfr x f).2.1,(r.dfr x f).2.2⟩
 ·rcases n i k z with ⟨rfl,rfl⟩ | ⟨u,z⟩
  ·refine ⟨λD x f=>?_,λM D A=>by simpa using H.2 M D A⟩;by_cases hqq:D=q
   ·subst hqq;rw [uz T] at f;injection f with f;subst f;obtain ⟨Q,s,J,_⟩:=H.1 D _ (ui T);refine ⟨c,C,λM A=>(J M A).trans (J c C).symm,ents,?_,hm⟩;show (w.heap.setIfInBounds c (.map ents m'.length))[c]?=_;rw [Array.getElem?_setIfInBounds_self_of_lt E]
   ·rw [uR (Ne.symm hqq)] at f;obtain ⟨Q,s,J,y,W,Y⟩:=H.1 D _ f;refine ⟨Q,s,J,y,(d Q ?_).trans W,Y⟩
    rintro rfl
    rw [C] at s;injection s with s;injection s with _ s;exact hqq s.symm
  ·refine (r.row i k hi z).mono (Gh.le.refl g) ⟨λ_ _ h=>h,λb D o=>d b ?_⟩ (λ_ _ h _=>h) (λV t b x G _ I=>⟨d b (by rintro rfl;exact p.2.2 V t _ G I),λ_=>rfl⟩)
   rintro rfl
   rw [C] at o;injection o with o;injection o with o _;exact u o.symm
 ·rcases n i _ hi with ⟨_,e⟩ | ⟨_,hi⟩
  ·cases e
  ·rcases n j _ R with ⟨_,e⟩ | ⟨_,R⟩
   ·cases e
   ·exact r.rinj _ _ _ _ _ _ _ hi R
 ·by_cases hbc:b=c
  ·subst hbc;rw [C] at m;injection m with m;subst m;exact ⟨hB,p,K,by simpa using E,F⟩
  ·exact (r.nb b x m).mono (ue _) (by simp) λ_ _ ha=>⟨d b hbc,ha,λh=>h⟩
theorem Rel.poolNew (r:Rel B w0 g h w) {id:Nat} {ms:List (List (Option (AV×AV)))} (A:h.blks[id]?=some (.pool ms)) :
  g.le (g.addN w.heap.size (.own id ms.length))/\Rel B w0 (g.addN w.heap.size (.own id ms.length)) (h.put id (.pool (ms++[[]]))) (w.alloc (.map #[] 0)):=by
 obtain ⟨K,G⟩:=r.poolAt A;have Y:g.N w.heap.size=none:=r.nnew (ue _);have n:=Gh.le_addN (.own id ms.length) Y;have z:id < h.blks.length:=(ua.1 A).1;have f:=r.alloc0 (.map #[] 0);have l:∀(j:Nat) (x:Blk),(h.blks.set id (.pool (ms++[[]])))[j]?=some x->(j=id/\x=.pool (ms++[[]])) \/ (j ≠ id/\h.blks[j]?=some x):=by
  grind
 have H:∀j,g.Φ w.heap.size j=none:=λj=>by
  rcases he:g.Φ w.heap.size j with _ | v
  ·rfl
  ·exact absurd (r.phi_lt he) (tu _)
 have E:Apart g w.heap.size:=⟨λi hi=>by
   have I:i < h.blks.length:=by rw [<- r.slen];exact (ua.1 hi).1
   have:=(r.blk i _ _ hi (ui I)).2.1;omega,λo=>tu _ (r.dfr_lt o),λi t x Q I=>by
   have:=((r.tok i t Q).2 _ x.1 x.2 I).lt;omega⟩
 refine ⟨n,f.below,f.bsz,f.phi,by simp [AH.put,Gh.addN,r.slen],λi x k y s=>?_,f.tlen,f.tok,f.sinj,f.tinj,f.sep,f.dfr,λi k hi s=>?_,λi j t k k' es es' hi J=>?_,λb x a=>?_,λb a=>?_,f.oa⟩
 ·rcases l i k s with ⟨rfl,rfl⟩ | ⟨_,s⟩
  ·have y:g.σ[i]?=some (some x):=y;rw [K] at y;cases y
  ·obtain ⟨U,O,V,S⟩:=f.blk i x k y s;exact ⟨U,O,V.mono n rfl,S⟩
 ·rcases l i k s with ⟨rfl,rfl⟩ | ⟨p,s⟩
  ·have C:PoolOk g (w.alloc (.map #[] 0)) i ms:=G.mono (Gh.le.refl g).lv ⟨λ_ _ h=>h,λb q A=>Below.heap_alloc w _ b (r.nlt A)⟩;refine ⟨λq m u=>?_,λc q o=>?_⟩
   ·by_cases hq:q < ms.length
    ·rw [uo hq] at u;obtain ⟨c,M,W,ents,R,T⟩:=C.1 q m u;refine ⟨c,n.new _ _ M,λL d=>?_,ents,R,MTE.monoV n.lv _ _ _ T⟩;simp only [Gh.addN] at d;split at d
     ·injection d with d;injection d with _ d;omega
     ·exact W L d
    ·rw [un (by omega)] at u;have F:q=ms.length:=by
      have:=(ua.1 u).1;simp at this;omega
     subst F;simp only [pC,sH,uf] at u;subst u;refine ⟨w.heap.size,by simp [Gh.addN],λL d=>?_,#[],heap_alloc_new w _,by simp [MTE]⟩;simp only [Gh.addN] at d;split at d
     ·assumption
     ·have:=G.2 _ _ d;omega
   ·simp only [Gh.addN] at o;split at o
    ·injection o with o;injection o with _ o;simp;omega
    ·have:=G.2 _ _ o;simp;omega
  ·refine (f.row i k hi s).mono n ⟨λb Z a=>?_,λ_ _ _=>rfl⟩ (λ_ _ h _=>h) (λ_ _ _ _ _ _ _=>⟨rfl,λ_=>rfl⟩);simp only [Gh.addN] at a;split at a
   ·injection a with a;injection a with a _;exact absurd a.symm p
   ·exact a
 ·rcases l i _ hi with ⟨_,e⟩ | ⟨_,hi⟩
  ·cases e
  ·rcases l j _ J with ⟨_,e⟩ | ⟨_,J⟩
   ·cases e
   ·exact r.rinj _ _ _ _ _ _ _ hi J
 ·simp only [Gh.addN] at a;split at a
  ·rename_i D;injection a with a;subst a D;exact ⟨r.bsz,E,by rw [show (g.addN w.heap.size (.own id ms.length)).σ=g.σ from rfl,r.slen];exact z,by simp,H⟩
  ·exact (f.nb b x a).mono (ue _) (ue _) λ_ _ X=>⟨rfl,X,λh=>h⟩
 ·have p:b ≠ w.heap.size:=by
   rintro rfl
   exact absurd (r.ob _ a).1 (tu _)
  have:=f.ob b a;simp only [Gh.addN,p,uJ];exact this
theorem Rel.poolMake (r:Rel B w0 g h w):Rel B w0 (g.addS none) (h.new (.pool [])) w :=
 r.adoptN (.pool []) ⟨λq m a=>by simp at a,λc q b=>absurd (r.nb c _ b).2.2.1 (tu _)⟩ (λ_ _ _ e=>by cases e)
theorem qf (r:Rel B w0 g h w) {m:AV} {mv:Value} {id q:Nat} {es:List (Option (AV×AV))} (k:V g m mv) (a:pget h m=some (id,q,es)) :
  ∃c ms ents,m=.imap id q/\mv=.map (some c)/\h.blks[id]?=some (.pool ms)/\ms[q]?=some es/\g.N c=some (.own id q)/\w.heap[c]?=some (.map ents es.length)/\MTE g 0 es ents.toList/\c < w.heap.size:=by
 unfold pget at a;split at a
 ·rename_i n t;split at a
  ·rename_i ms f;rw [tf] at a;obtain ⟨v,j,e⟩:=a;simp only [tD] at e;obtain ⟨rfl,rfl,rfl⟩:=e;simp only [V] at k;obtain ⟨c,b,rfl⟩:=k;obtain ⟨_,d⟩:=r.poolAt f;obtain ⟨u,s,o,ents,l,p⟩:=d.1 _ _ j;obtain rfl:=o c b;exact ⟨_,ms,ents,rfl,rfl,f,j,b,l,p,r.nlt b⟩
  ·cases a
 ·cases a
theorem pput_eq {id q:Nat} {ms:List (List (Option (AV×AV)))} {m:List (Option (AV×AV))} (a:h.blks[id]?=some (.pool ms)):pput h id q m=h.put id (.pool (ms.set q m)):=by
 unfold pput;rw [show h.blk id=some (.pool ms) from a]
theorem plookup_sound (r:Rel B w0 g h w) {t p y:TypeId} {ok:Bool} {m k v:AV} {mv kv:Value} {id q:Nat} {es:List (Option (AV×AV))} (s:P.underlying t=some (.map p y)) (L:V g m mv) (o:V g k kv) (a:xq P p k k=some true) (I:pget h m=some (id,q,es))
  (n:(match qV P p k (zG es) 0,vS P y with
    | some (some (_,v)),_=>some (va ok v true)
    | some none,some z=>some (va ok z false)
    | _,_=>none)=some v):∃u,(Instr.lookup t mv kv ok).run P w=.ok u w/\V g v u:=by
 obtain ⟨c,ms,ents,_,rfl,_,_,_,D,f,_⟩:=qf r L I;have A:=λb=>key_ok (w:=w) o a b;have l:∀{x:AV} {u:Value} (b:Bool),V g x u->V g (va ok x b) (if ok then .tuple #[u,.bool b] else u):=λ{x u} b C=>by
  unfold va;cases ok
  ·exact C
  ·simp only [ur,V];exact ⟨_,rfl,by simp only [VL];exact ⟨_,_,rfl,C,_,_,rfl,by simp only [V],rfl⟩⟩
 split at n
 ·rename_i j x d;cases n;obtain ⟨e,M,_,N,K,G⟩:=wB (w:=w) o f.toME d (vI a);exact ⟨_,by simp [Instr.lookup,run_underlying s,MapKept.run_getObj_map D,A,G],l true K⟩
 ·rename_i z d H;cases n;have J:=wB (w:=w) o f.toME d (vI a);obtain ⟨u,F,E⟩:=aZeroM_sound (w:=w) (g:=g) H;exact ⟨_,by simp [Instr.lookup,run_underlying s,MapKept.run_getObj_map D,A,J,F],l false E⟩
 ·cases n
theorem pmapPut_sound (r:Rel B w0 g h w) {t y H:TypeId} {m k x:AV} {h':AH} {mv kv o:Value} (v:P.underlying t=some (.map y H)) (K:V g m mv) (l:V g k kv) (C:V g x o) (f:pPut P h y m k x=some h') :
  ∃w',(Instr.mapUpdate t mv kv o).run P w=.ok () w'/\Rel B w0 g h' w':=by
 unfold pPut at f;split at f
 case isFalse=>cases f
 rename_i a;have A:=λb=>key_ok (w:=w) l a b;split at f
 ·rename_i id q es I;obtain ⟨c,ms,ents,_,rfl,p,M,D,s,d,E⟩:=qf r K I;split at f
  ·rename_i j L n;cases f;obtain ⟨e,z,_,F,N,G⟩:=wB (w:=w) l d.toME n (vI a);have hs:=keeps_run (P:=P) (w:=w) (key_same l l a).2;have u:ents[j]?=some e:=by simp_all
   refine ⟨{ w with heap:=w.heap.setIfInBounds c (.map (ents.modify j λe=>{ e with key:=kv,val:=o }) es.length) },?_,?_⟩
   ·simp [Instr.mapUpdate,run_underlying v,MapKept.run_getObj_map s,A,G,u,F,hs,MapKept.run_setObj_map _ s]
   ·rw [pput_eq p];have:=r.poolPut (m':=vT es j (some (k,x.zcl))) (ents:=ents.modify j λe=>{ e with key:=kv,val:=o }) p D (by
     rw [modify_list z];exact d.putAt j z rfl l C.zcl)
    rw [tset_len] at this;exact this
  ·rename_i n;cases f;have J:=wB (w:=w) l d.toME n (vI a);refine ⟨{ w with heap:=w.heap.setIfInBounds c (.map (ents.push { key:=kv,val:=o,born:=es.length }) (es.length+1)) },?_,?_⟩
   ·simp [Instr.mapUpdate,run_underlying v,MapKept.run_getObj_map s,A,J,MapKept.run_setObj_map _ s]
   ·rw [pput_eq p];have:=r.poolPut (m':=es++[some (k,x.zcl)]) (ents:=ents.push { key:=kv,val:=o,born:=es.length }) p D (by
     rw [pi];exact d.push l C.zcl (by simp))
    simpa using this
  ·cases f
 ·cases f
theorem erase_list {a:Array α}:(a.eraseIdxIfInBounds i).toList=a.toList.eraseIdx i:=by
 unfold Array.eraseIdxIfInBounds;split
 ·simp
 ·rw [List.eraseIdx_of_length_le (by simpa using Nat.le_of_not_lt ‹_›)]
theorem pdel_sound (r:Rel B w0 g h w) {t y C:TypeId} {ts:Array TypeId} {ty:TypeId} {m k:AV} {h':AH} {mv kv:Value} (l:ts[0]?=some t) (p:P.underlying t=some (.map y C)) (v:V g m mv) (s:V g k kv) (a:pDel P h y m k=some h') :
  ∃w',(Builtin.delete_ ts ty #[mv,kv]).run P w=.ok (.tuple #[]) w'/\Rel B w0 g h' w':=by
 unfold pDel at a;split at a
 case isFalse=>cases a
 rename_i d;have u:=λb=>key_ok (w:=w) s d b;split at a
 ·rename_i F;have:m=.nilm:=by cases m <;> first | rfl | cases F
  subst this;simp only [V] at v;subst v;cases a;exact ⟨w,by simp [Builtin.delete_,l,run_underlying p,u],r⟩
 split at a
 ·rename_i id q es D;obtain ⟨c,ms,ents,_,rfl,x,I,G,o,f,z⟩:=qf r v D;split at a
  ·rename_i j H n;cases a;obtain ⟨e,J,_,K,L,A⟩:=wB (w:=w) s f.toME n (vI d);refine ⟨{ w with heap:=w.heap.setIfInBounds c (.map (ents.eraseIdxIfInBounds j) es.length) },?_,?_⟩
   ·simp [Builtin.delete_,l,run_underlying p,MapKept.run_getObj_map o,u,A,MapKept.run_setObj_map _ o]
   ·rw [pput_eq x];have:=r.poolPut (m':=vT es j none) (ents:=ents.eraseIdxIfInBounds j) x G (by
     rw [erase_list];exact f.delAt j)
    rw [tset_len] at this;exact this
  ·rename_i n;cases a;have E:=wB (w:=w) s f.toME n (vI d);refine ⟨w,?_,r⟩;have:=set_same (w:=w) o;simp [Builtin.delete_,l,run_underlying p,MapKept.run_getObj_map o,u,E,MapKept.run_setObj_map _ o,this]
  ·cases a
 ·cases a
theorem pnext_ne {m:List (Option (AV×AV))} {seen:List Nat} {p:AV×AV} (a:m[i]?=some (some p)) (hs:i ∉ seen) :
  (p,i) ∈ m.zipIdx.filterMap (pcand seen):=by
 rw [r8];exact ⟨(some p,i),tH.2 a,by simp [pcand,hs]⟩
theorem pfits (r:Rel B w0 g h w) {a:Act} {env:List AV} (F:VL g env a.tmps.toList) {o:Oper} {n:Nat} {l:List (AV×AH)} (d:xD P o env h n=some l):∃p ∈ l,wT P B w0 g a o w p.1 p.2:=by
 unfold xD at d;split at d
 ·-- makeMap
  rename_i t D;split at d
  ·rename_i ms hb;simp only [uf] at d;subst d;obtain ⟨hle,r'⟩:=r.poolNew hb;refine ⟨_,up.2 rfl,.map (some w.heap.size),_,_,.inl ?_,hle,r',?_⟩
   ·simp [execOp,D,run_makeMap]
   ·simp only [V];exact ⟨_,by simp [Gh.addN],rfl⟩
  ·cases d
 ·-- lookup
  rename_i t x k ok D;split at d
  ·rename_i f;simp only [ud] at f;split at d
   ·rename_i kt et Q;split at d
    ·rename_i hkk;split at d
     ·rename_i id q es N;have key:∀v,(match qV P kt (ev env k) (zG es) 0,vS P et with
        | some (some (_,v)),_=>some (va ok v true)
        | some none,some z=>some (va ok z false)
        | _,_=>none)=some v->wT P B w0 g a o w v h:=λv hv=>by
       obtain ⟨u,K,h2⟩:=plookup_sound r Q (V.ev F f.1) (V.ev F f.2) hkk N hv;exact ⟨u,w,g,.inl (by simp [execOp,D,K]),Gh.le.refl g,r,h2⟩
      split at d
      ·rename_i K;simp only [uf] at d;subst d;exact ⟨_,up.2 rfl,key _ (by simp [K])⟩
      ·rename_i K h2;simp only [uf] at d;subst d;exact ⟨_,up.2 rfl,key _ (by simp [K,h2])⟩
      ·cases d
     ·cases d
    ·cases d
   ·cases d
  ·cases d
 ·-- mapUpdate
  rename_i t m k x D;split at d
  ·rename_i f;simp only [ud] at f;split at d
   ·rename_i kt et Q;rw [tf] at d;obtain ⟨h',hs,rfl⟩:=d;obtain ⟨w',K,h3⟩:=pmapPut_sound r Q (V.ev F f.1.1) (V.ev F f.1.2) (V.ev F f.2) hs;exact ⟨_,up.2 rfl,undef,w',g,.inr ⟨by simp [execOp,D,K],rfl⟩,Gh.le.refl g,h3,V.ofUndef⟩
   ·cases d
  ·cases d
 ·-- insert
  rename_i t m k x D;split at d
  ·rename_i f;simp only [ud] at f;split at d
   ·rename_i kt et Q;rw [tf] at d;obtain ⟨h',hs,rfl⟩:=d;obtain ⟨w',K,h3⟩:=pmapPut_sound r Q (V.ev F f.1.1) (V.ev F f.1.2) (V.ev F f.2) hs;exact ⟨_,up.2 rfl,undef,w',g,.inr ⟨by simp [execOp,D,K],rfl⟩,Gh.le.refl g,h3,V.ofUndef⟩
   ·cases d
  ·cases d
 ·-- call
  rename_i c D;split at d
  ·rename_i t x H X hxa0;have T:c.argTypes=#[t]:=by grind
   have R:c.args=#[x]:=by grind
   split at d
   ·rename_i f;split at d
    ·rename_i kt et Q;split at d
     ·rename_i hn;simp only [uf] at d;subst d;have M:=V.ev F f;have:ev env x=.nilm:=by
       generalize ev env x=y at hn;cases y <;> first | rfl | cases hn
      rw [this] at M;simp only [V] at M;refine ⟨_,up.2 rfl,.int .i64 0,w,g,.inl ?_,Gh.le.refl g,r,by simp only [V]⟩;simp only [execOp,D,resolve,H,Sem.run_bind,Sem.run_pure,Result.andThen_ok,invoke,T,R];simp [builtin,M,Builtin.len_,run_underlying Q,goInt]
     split at d
     ·rename_i id q es N;simp only [uf] at d;subst d;obtain ⟨c0,ms,ents,_,hv0,_,_,_,G,C,_⟩:=qf r (V.ev F f) N;refine ⟨_,up.2 rfl,.int .i64 (zG es).length,w,g,.inl ?_,Gh.le.refl g,r,by simp only [V]⟩;have hsz:ents.size=(zG es).length:=by have:=C.toME.len;simpa using this
      simp only [execOp,D,resolve,H,Sem.run_bind,Sem.run_pure,Result.andThen_ok,invoke,T,R];simp [builtin,hv0,Builtin.len_,run_underlying Q,MapKept.run_getObj_map G,hsz,goInt]
     ·cases d
    ·cases d
   ·cases d
  ·rename_i t ts x k H X hxa0;have T:c.argTypes[0]?=some t:=by rw [<- uC,X];rfl
   have R:c.args=#[x,k]:=by grind
   split at d
   ·rename_i f;simp only [ud] at f;split at d
    ·rename_i kt et Q;rw [tf] at d;obtain ⟨h',hs,rfl⟩:=d;obtain ⟨w',K,h3⟩:=pdel_sound (ty:=o.type) r T Q (V.ev F f.1) (V.ev F f.2) hs;refine ⟨_,up.2 rfl,.tuple #[],w',g,.inl ?_,Gh.le.refl g,h3,by simp [V,VL]⟩;simp only [execOp,D,resolve,H,Sem.run_bind,Sem.run_pure,Result.andThen_ok,invoke,R];simp [builtin,K]
    ·cases d
   ·cases d
  ·cases d
 ·-- range
  rename_i t x D;split at d
  ·rename_i f;split at d
   ·rename_i kt et ht;split at d
    ·rename_i id q es N;simp only [uf] at d;subst d;refine ⟨_,up.2 rfl,?_⟩;obtain ⟨c,ms,ents,_,J,_,_,hN,G,C,_⟩:=qf r (V.ev F f) N;refine ⟨.pointer (some ⟨w.heap.size,0,none⟩),w.alloc (.mapIter (some c) es.length #[] es.length),g.addS w.heap.size,.inl ?_,g.le_addS _,r.newBlk _ _ ?_,?_⟩
     ·simp [execOp,D,J,run_range_map w t kt et c ents _ ht G]
     ·exact ⟨c,(g.le_addS _).new _ _ hN,heap_alloc_new w _⟩
     ·have hsl:=r.slen;simp only [V,Gh.addS]
      simp_all
    ·cases d
   ·cases d
  ·cases d
 ·-- next
  rename_i x D;split at d
  ·rename_i f;have M:=V.ev F f;split at d
   ·rename_i it hx;rw [hx] at M;simp only [V] at M;obtain ⟨Y,S,J⟩:=M;split at d
    ·rename_i id q n seen hb;split at d
     ·rename_i es N;split at d
      ·rename_i hn;simp only [uf] at d;obtain ⟨_,hltI,⟨O,U,I⟩,_⟩:=r.blk it Y _ S hb;obtain ⟨c0,ms,ents,_,s,_,_,hN,G,C,_⟩:=qf (mv:=.map (some O)) r (by simp only [V];exact ⟨O,U,rfl⟩) N;injection s with s;injection s with s;subst s;have hold:∀x ∈ ents.toList,x.born < n:=λx hx=>by
        obtain ⟨j,p,K,h2,_⟩:=C.at x hx;have:=(ua.1 K).1;omega
       rcases run_next_at (P:=P) w o.type Y O n n seen.toArray ents es.length I G hold (ue _) with ⟨h0,E⟩ | ⟨e,L,w1,hw1,E⟩
       ·have hnil:es.zipIdx.filterMap (pcand seen)=[]:=by
         rw [rd]
         rintro ⟨p,i⟩ N
         have hp':=tH.1 N;cases p with
         | none=>rfl
         | some p =>
          obtain ⟨e,Z,he2⟩:=C.ex i p hp';simp only [u5] at he2;have:¬ e ∈ leftOf ents seen.toArray:=by
           simp_all
          simp only [leftOf,Array.mem_filter,not_and,tP,pj] at this;have h5:=this (by simpa using Z);rw [he2] at h5
          simp_all [pcand]
        rw [pnextAlts,hnil] at d;subst d;refine ⟨_,up.2 rfl,.tuple #[.bool false],w,g,.inl ?_,Gh.le.refl g,r,by simp [V,VL]⟩;simp [execOp,D,J,E]
       ·simp only [leftOf,Array.toList_filter,u7] at L;obtain ⟨i,p,hi,A,hk,hv⟩:=C.at e L.1;simp only [u5] at A;have hns:i ∉ seen:=by
         have:=L.2;rw [A] at this;simpa using this
        have W:=pnext_ne hi hns;have r1:=r.drewO hw1;have hit1:w1.heap[Y]?=some (.mapIter (some O) n seen.toArray n):=by rcases hw1 with rfl | rfl <;> exact I
        have r2:Rel B w0 g (h.put it (.pmiter id q n (seen++[i]))) (w1.putObj Y (.mapIter (some O) n (seen.toArray.push e.born) n)) :=
         r1.putObj S hb (by simp) rfl rfl rfl World.putObj_size (λb hb'=>World.putObj_heap_other hb') ⟨O,U,by
          rw [World.putObj_heap_same (by grind),A];simp⟩
        have hal:((.tup [.bool true,p.1,p.2],h.put it (.pmiter id q n (seen++[i]))):AV×AH) ∈ pnextAlts h it id q n seen es:=by
         unfold pnextAlts;split
         ·rename_i h0;rw [h0] at W;cases W
         ·rename_i p0 r0 h0;rw [h0] at W;exact u6.2 ⟨(p,i),W,rfl⟩
        subst d;refine ⟨_,hal,.tuple #[.bool true,e.key,e.val],_,g,.inl ?_,Gh.le.refl g,r2,?_⟩
        ·simp only [execOp,D,J,Sem.run_bind,E,Result.andThen_ok,Sem.run_pure];rw [setBlock_eq,hn]
        ·simp only [V,VL];exact ⟨_,rfl,_,_,rfl,rfl,_,_,rfl,hk,_,_,rfl,hv,rfl⟩
      ·cases d
     ·cases d
    ·cases d
   ·cases d
  ·cases d
 ·-- entry
  rename_i x D;split at d
  ·rename_i f;have M:=V.ev F f;split at d
   ·rename_i it hx;rw [hx] at M;simp only [V] at M;obtain ⟨Y,S,J⟩:=M;split at d
    ·rename_i id q n seen hb;split at d
     ·rename_i es i N hlast;split at d
      ·rename_i hn;split at d
       case h_2=>cases d
       rename_i p hpi;simp only [uf] at d;subst d;refine ⟨_,up.2 rfl,?_⟩;obtain ⟨_,hltI,⟨O,U,I⟩,_⟩:=r.blk it Y _ S hb;obtain ⟨c0,ms,ents,_,s,_,_,hN,G,C,_⟩:=qf (mv:=.map (some O)) r (by simp only [V];exact ⟨O,U,rfl⟩) N;injection s with s;injection s with s;subst s;obtain ⟨e,Z,A,hk,hv⟩:=C.find hpi;simp only [u5] at A;have hseen:seen.toArray=seen.dropLast.toArray.push e.born:=by
        grind
       rw [hseen] at I;have E:=run_entry_at (P:=P) w Y O n seen.dropLast.toArray ents es.length e (by rw [<- hn] at I;rw [<- hn];exact I) G (by simpa using Z) C.nodup;refine ⟨.tuple #[e.key,e.val],w,g,.inl ?_,Gh.le.refl g,r,?_⟩
       ·simp [execOp,D,J,E]
       ·simp only [V,VL];exact ⟨_,rfl,_,_,rfl,hk,_,_,rfl,hv,rfl⟩
      ·cases d
     ·cases d
    ·cases d
   ·cases d
  ·cases d
 ·cases d
end
end Go.Vv
namespace Go.Vv
open Go Go.RowKit
def laid (_:Program) (_:World):Prop:=True
theorem laid_below {P:Program} {B:Nat} {w0 w:World} (_:laid P w0) (_:w0.heap.size<=B) (_:Below B w0 w):laid P w:=trivial
end Go.Vv
namespace Go.Vv
open Go Go.RowKit Go.Lib
variable {o:Oper} {env:List AV} {h:AH} {K:AV->AH->Prop} {ops:Array Oper} {Q:List AV->AH->Prop} {rest:List Oper} {a:Act} {w:World} {next:Act->World->Prop}

class GOk (P:Program) (B:Nat) (w0:World):Prop where
 sh:w0.ShapedOpen P
 sz:w0.heap.size<=B
 lay:laid P w0
def Spec (P:Program) (f:FuncId) (args:List AV) (h:AH) (K:AV->AH->Prop):Prop :=
 (∀(vs:Array Value) (w:World),(callFunc f vs).run P w=.ok (.enter f vs) w) /\
 ∀(B:Nat) (w0:World) [GOk P B w0] (g:Gh) (w:World) (vs:Array Value),Rel B w0 g h w->VL g args vs.toList ->
  Calls P f vs w λe w'=>∃v r h' g',e=.returned v/\K r h'/\g.le g'/\Rel B w0 g' h' w'/\V g' r v

def SpecY (P:Program) (id:Nat) (args:List AV) (h:AH) (K:AV->AH->Prop):Prop :=
 ∀(B:Nat) (w0:World) [GOk P B w0] (g:Gh) (w:World) (vs:Array Value) (c:Nat),Rel B w0 g h w->VL g args vs.toList->g.σ[id]?=some c ->
  ∃fn tmps assign body,(Instr.yield c vs).run P w=.ok (.round c fn tmps assign body) w /\
   ∀n,RoundIn Fence.wide n P c fn tmps assign body w λe w'=>∃v r h' g',e=.returned v/\K r h'/\g.le g'/\Rel B w0 g' h' w'/\V g' r v

theorem Spec.mono {P:Program} {f:FuncId} {args:List AV} {h:AH} {K K':AV->AH->Prop} (s:Spec P f args h K) (c:∀r h',K r h'->K' r h'):Spec P f args h K' :=
 ⟨s.1,λB w0 _ g w vs r i=>(s.2 B w0 g w vs r i).mono λ_ _ ⟨v,x,h',g',d,b,e⟩=>⟨v,x,h',g',d,c _ _ b,e⟩⟩

theorem SpecY.mono {P:Program} {id:Nat} {args:List AV} {h:AH} {K K':AV->AH->Prop} (s:SpecY P id args h K) (e:∀r h',K r h'->K' r h'):SpecY P id args h K' :=
 λB w0 _ g w vs c r i j=>by
  obtain ⟨fn,tmps,assign,body,d,b⟩:=s B w0 g w vs c r i j;exact ⟨fn,tmps,assign,body,d,λn=>(b n).mono λ_ _ ⟨v,x,h',g',d,b,f⟩=>⟨v,x,h',g',d,e _ _ b,f⟩⟩

def aG (ops:Array Oper) (o:Oper) (env:List AV):Option Bool :=
 match o.guard with
 | none=>some true
 | some (j,want)=>match (ops[j]?).bind (·.dst) with
  | none=>some false
  | some d=>match env[d]? with
   | none=>some false
   | some (.bool b)=>some (b==want)
   | some (.tup [])=>some false
   | some _=>none

def rwp (P:Program) (h:AH) (r:Res) (K:AV->AH->Prop):Prop :=
 match r with
 | .ok v h'=>K v h'
 | .len n v h'=>n<=maxLen->K v h'
 | .call f args=>Spec P f args h K
 | .round id args=>SpecY P id args h K
 | .any S=>∀v h',S v h'->K v h'
 | .fail=>False
def gwp (b:Option Bool) (act:(AV->AH->Prop)->Prop) (h:AH) (K:AV->AH->Prop):Prop :=
 match b with
 | some true=>act K
 | some false=>K aundef h
 | none=>False
def swk (env:List AV) (h:AH) (env':List AV) (h':AH):Prop:=∀(B:Nat) (w0 w:World) (g:Gh) (vs:List Value),Rel B w0 g h w->VL g env vs->∃g',g.le g'/\Rel B w0 g' h' w/\VL g' env' vs
theorem swk.refl (env:List AV) (h:AH):swk env h env h:=λ_ _ _ g _ r b=>⟨g,Gh.le.refl g,r,b⟩
theorem swk.trans {env c d:List AV} {h h' i:AH} (a:swk env h c h') (b:swk c h' d i):swk env h d i:=λB w0 w g vs r s=>by
 obtain ⟨m,j,k,e⟩:=a B w0 w g vs r s;obtain ⟨l,q,p,f⟩:=b B w0 w m vs k e;exact ⟨l,j.trans q,p,f⟩
def cstep (P:Program) (o:Oper) (env:List AV) (h:AH) (l:List (AV×AH)):Prop:=xT P o env h=some l \/ ∃n,xD P o env h n=some l
def bwp (P:Program) (o:Oper) (env:List AV) (h:AH) (K:AV->AH->Prop):Prop:=(∃l,cstep P o env h l/\∀p ∈ l,K p.1 p.2) \/ ∃k ys,anew P o env=some (k,ys)/\K (.nsl k ys) h
theorem bwp_mono {P:Program} {K':AV->AH->Prop} (b:∀v h',K v h'->K' v h'):bwp P o env h K->bwp P o env h K'
 | .inl ⟨l,hl,hp⟩=>.inl ⟨l,hl,λp hi=>b _ _ (hp p hi)⟩
 | .inr ⟨k,ys,hn,hp⟩=>.inr ⟨k,ys,hn,b _ _ hp⟩
def zJ (P:Program) (ops:Array Oper) (Q:List AV->AH->Prop):List Oper->List AV->AH->Prop
 | [],env,h=>Q env h
 | o::rest,env,h=>∃env2 h2,swk env h env2 h2/\gwp (aG ops o env2) (λK=>rwp P h2 (zB P o env2 h2) K \/ bwp P o env2 h2 K) h2 λv h'=>zJ P ops Q rest (setd env2 o.dst v) h'
theorem vA {P:Program} (c:gwp (aG ops o env) (rwp P h (zB P o env h)) h λv h'=>zJ P ops Q rest (setd env o.dst v) h') :
  zJ P ops Q (o::rest) env h:=⟨env,h,swk.refl _ _,by
   cases hb:aG ops o env with
   | none=>rw [hb] at c;exact c
   | some b =>
    rw [hb] at c;cases b with
    | true=>exact .inl c
    | false=>exact c⟩
theorem awpOps_consB {P:Program} (c:aG ops o env=some true) (b:∃l,xT P o env h=some l/\∀p ∈ l,zJ P ops Q rest (setd env o.dst p.1) p.2) :
  zJ P ops Q (o::rest) env h:=⟨env,h,swk.refl _ _,by rw [c];exact .inr (.inl (b.imp λ_ h=>⟨.inl h.1,h.2⟩))⟩
theorem awpOps_consP {P:Program} (n:Nat) (c:aG ops o env=some true) (b:∃l,xD P o env h n=some l/\∀p ∈ l,zJ P ops Q rest (setd env o.dst p.1) p.2) :
  zJ P ops Q (o::rest) env h:=⟨env,h,swk.refl _ _,by rw [c];exact .inr (.inl (b.imp λ_ h=>⟨.inr ⟨n,h.1⟩,h.2⟩))⟩
theorem ops_swk {P:Program} {b:List AV} {c:AH} (hs:swk env h b c) (e:zJ P ops Q (o::rest) b c):zJ P ops Q (o::rest) env h:=by
 obtain ⟨g,i,d,f⟩:=e;exact ⟨g,i,hs.trans d,f⟩

def isEff:Op->Bool
 | .move _ | .assign _ | .pick _ _ _ | .build _ _ | .nilCheck _ | .binOp _ _ _ _ _ | .unOp _ _ _ | .convert _ _ _ | .makeFunc _ _ _ | .slice _ _ _ _ _ | .fieldAddr _ _ _ | .field _ _ _ | .indexAddr _ _ _ | .index _ _ _ | .extract _ _
 | .load _ _ | .buildSlice _ _ _ | .makeInterface _ _ | .typeAssert _ _ _ _=>false
 | .call { callee:=.builtin .len,.. }=>false
 | _=>true
def isRd:Op->Bool
 | .load _ _=>true
 | _=>false
def effN (Ns:List Nat) (i:Nat) (op:Op):Bool:=isEff op&&!Ns.contains i
def cmpb (b:Array Nat) (i j:Nat):Bool:=(b.getD j 0).testBit i || (b.getD i 0).testBit j
def drawOk (ops:Array Oper) (Ns:List Nat):Bool :=
 let b:=Region.before ops
 (ops.toList.zipIdx.all λ(o,i)=>o.after.all (λe=>!Region.binds .any e || decide (e.on < i)) &&
  ops.toList.zipIdx.all λ(o',j)=>i==j || cmpb b i j ||
   ((match o.dst with
    | some d=>!(o'.looksAt ops).contains d&&o'.dst != some d
    | none=>true)&&!(effN Ns i o.op&&effN Ns j o'.op)))
def anch (ops:Array Oper) (Ns:List Nat) (i:Nat):Bool :=
 let b:=Region.before ops
 ops.toList.zipIdx.all λ(o,j)=>i==j || !isRd o.op || Ns.contains j || cmpb b i j
def AR (P:Program) (ops:Array Oper) (o:Oper) (env:List AV) (h:AH) (v:AV) (h':AH):Prop :=
 match aG ops o env with
 | some true=>match zB P o env h with
  | .ok v1 h1=>v=v1/\h'=h1
  | .len _ v1 h1=>v=v1/\h'=h1
  | .call f args=>Spec P f args h λr h1=>r=v/\h1=h'
  | .round id args=>SpecY P id args h λr h1=>r=v/\h1=h'
  | .any _=>False
  | .fail=>False
 | some false=>v=aundef/\h'=h
 | none=>False
def FOk (b:Nat) (Ns:List Nat) (F:Nat->AH->Prop) (h:AH):Prop:=∀n,Ns.contains n=true->b.testBit n=false->F n h
def dstep (P:Program) (o:Oper) (env:List AV) (h:AH) (l:List (AV×AH)):Prop:=xT P o env h=some l \/ isEff o.op=true/\∃n,xD P o env h n=some l
theorem dstep.c {P:Program} {l:List (AV×AH)} (hd:dstep P o env h l):cstep P o env h l:=hd.imp (λh=>h) λh=>h.2
def ARN (P:Program) (ops:Array Oper) (Ns:List Nat) (F:Nat->AH->Prop) (i:Nat) (o:Oper) (env:List AV) (h:AH) (v:AV) (h':AH):Prop :=
 (Ns.contains i=false/\AR P ops o env h v h') \/
 (Ns.contains i=true/\aG ops o env=some true/\h'=h /\
  ((∃f args,(∀h2,zB P o env h2=.call f args)/\∀h2,F i h2->Spec P f args h2 λr hh=>r=v/\hh=h2) \/ ∀h2,F i h2->zB P o env h2=.ok v h2)) \/
 (Ns.contains i=false/\bdraw o.op=true/\aG ops o env=some true/\dstep P o env h [(v,h')]) \/
 (Ns.contains i=true/\aG ops o env=some false/\v=aundef/\h'=h)
def zW (P:Program) (ops:Array Oper) (Ns:List Nat) (F:Nat->AH->Prop) (Q:List AV->AH->Prop):Nat->List Oper->List AV->AH->Prop
 | _,[],env,h=>Q env h
 | i,o::rest,env,h=>∃v h',ARN P ops Ns F i o env h v h'/\(anch ops Ns i=true \/ h'.blks=h.blks)/\(h'=h \/ FOk ((Region.before ops).getD i 0) Ns F h')/\zW P ops Ns F Q (i+1) rest (setd env o.dst v) h'

def awpAny (P:Program) (ops:Array Oper) (Q:List AV->AH->Prop):Nat->Array Bool->List AV->AH->Prop
 | 0,listed,env,h=>Region.ready .any ops listed=[]/\Q env h
 | m+1,listed,env,h=>(Region.ready .any ops listed=[]->Q env h)/\∀i ∈ Region.ready .any ops listed,∀o,ops[i]?=some o ->
   gwp (aG ops o env) (λK=>rwp P h (zB P o env h) K \/ bwp P o env h K) h λv h'=>awpAny P ops Q m (listed.setIfInBounds i true) (setd env o.dst v) h'

def wk (hd:AH) (env:List AV) (h:AH) (env':List AV) (h':AH):Prop:=∀(B:Nat) (w0 w w1:World) (g1 g:Gh) (vs:List Value),Rel B w0 g1 hd w1 ->
 g1.le g->Rel B w0 g h w->VL g env vs->∃g',g1.le g'/\Rel B w0 g' h' w/\VL g' env' vs/\∀c,c ∈ g.δ->c ∈ g'.δ

def noRF:Code->Bool
 | .seq a b=>noRF a&&noRF b
 | .cond _ a b=>noRF a&&noRF b
 | .block _ a=>noRF a
 | .loop a=>noRF a
 | .rangeFunc _ _ _ _=>false
 | _=>true

def vB (P:Program):Code->(Exit->List AV->AH->Prop)->List AV->AH->Prop
 | .skip,Q,env,h=>Q .normal env h
 | .label _,Q,env,h=>Q .normal env h
 | .region _ ops draw,Q,env,h=>match draw with
  | true=>(∃Ns F,(P.follows .mixedOrders=true/\drawOk ops Ns=true)/\(∀n,F n h)/\zW P ops Ns F (Q .normal) 0 ops.toList env h) \/
    (P.follows .mixedOrders=true/\awpAny P ops (Q .normal) ops.size (Array.replicate ops.size false) env h)
  | false=>zJ P ops (Q .normal) ops.toList env h
 | .seq a b,Q,env,h=>vB P a (λx env' h'=>match x with
  | .normal=>∃env2 h2,wk h env' h' env2 h2/\vB P b Q env2 h2
  | x=>Q x env' h') env h
 | .cond c t e,Q,env,h=>yf c=true/\match ev env c with
  | .bool b=>if b then vB P t Q env h else vB P e Q env h
  | _=>False
 | .block id body,Q,env,h=>vB P body (λx env h=>match x with
  | .exit id'=>if id'=id then Q .normal env h else Q (.exit id') env h
  | x=>Q x env h) env h
 | .loop body,Q,env,h=>∃I:Nat->List AV->AH->Prop,(∃n env2 h2,wk h env h env2 h2/\I n env2 h2)/\∀n env1 h1,I n env1 h1->vB P body (λx env' h'=>match x with
  | .normal=>∃m env2 h2,m < n/\(wk h1 env' h' env2 h2 \/ wk h env' h' env2 h2)/\I m env2 h2
  | x=>Q x env' h') env1 h1
 | .exit id,Q,env,h=>Q (.exit id) env h
 | .ret,Q,env,h=>Q .ret env h
 | .rangeFunc f ps assign body,Q,env,h=>yf f=true/\noRF assign=true/\noRF body=true/\∃env2 h2,wk h env h env2 h2/\match ev env2 f with
  | .fn (.func f) first caps=>Spec P f (first++[.yld h2.blks.length]++caps) (h2.new (.loop .ready none env2 ps assign body)) λ_ h'=>∃st pe env' ps' a' b',h'.blk h2.blks.length=some (.loop st pe env' ps' a' b')/\st ≠ .busy/\match pe with
   | none=>Q .normal env2 (h'.put h2.blks.length .dead)
   | some .ret=>Q .ret env2 (h'.put h2.blks.length .dead)
   | some (.exit i)=>Q (.exit i) env2 (h'.put h2.blks.length .dead)
   | _=>False
  | _=>False
 | _,_,_,_=>False

def WF (ro:Option Nat):Fence:={ Fence.wide with round:=ro }

section
variable {P:Program} {B:Nat} {w0:World} {g0:Gh} {D:List Deferred} {ro:Option Nat} {n:Nat} [GOk P B w0]

def St (B:Nat) (w0:World) (g0:Gh) (D:List Deferred) (env:List AV) (h:AH) (a:Act) (w:World):Prop:=∃g,g0.le g/\Rel B w0 g h w/\VL g env a.tmps.toList/\a.defers=D

theorem VL.setd {g:Gh} {env:List AV} {a:Act} (b:VL g env a.tmps.toList) (d:Option Tmp) {v:AV} {u:Value} (c:V g v u):VL g (setd env d v) (a.put d u).tmps.toList:=by
 cases d with
 | none=>exact b
 | some d=>simp only [Vv.setd,Act.put,sY];exact VL.set b d v u c
theorem wK (a:Act) (d:Option Tmp) (u:Value):(a.put d u).defers=a.defers:=by cases d <;> rfl

theorem vr {g:Gh} (k:VL g env a.tmps.toList) {b:Bool} (c:aG ops o env=some b):Region.wanted o (yielded ops a.tmps)=b:=by
 unfold aG at c;split at c
 ·rename_i l;cases c;simp [Region.wanted,l]
 ·rename_i j e l;have p:Region.wanted o (yielded ops a.tmps)=(yielded ops a.tmps j==some e):=by simp [Region.wanted,l]
  rw [p];split at c
  ·rename_i hd;cases c;simp [yielded,hd]
  ·rename_i d hd;unfold yielded;rw [hd,uc];split at c
   ·rename_i i;cases c;have:a.tmps[d]?=none:=by
     have m:env.length<=d:=by simp_all
     rw [pD];rw [k.length] at m;simpa using m
    simp [this]
   ·rename_i r i;cases c;obtain ⟨u,q,f⟩:=k.get _ _ i;simp only [V] at f;subst f
    simp_all
   ·rename_i i;cases c;obtain ⟨u,q,f⟩:=k.get _ _ i;simp only [V] at f
    grind
   ·cases c

theorem not_defer (b:zB P o env h ≠ .fail):∀c,o.op ≠ .defer c:=by
 intro c d;exact b (by simp only [zB,d])

theorem callsIn_of {f:FuncId} {args:Array Value} {R:Ending->World->Prop} (h:Calls P f args w R):CallsIn (WF ro) n P f args w R:=callsIn_wide (n:=n).2 h

theorem step_sound {Q:Exit->Act->World->Prop}
  (hs:St B w0 g0 D env h a w) (j:rwp P h (zB P o env h) K)
  (y:∀v h' u w',K v h'->(∃g',g0.le g'/\Rel B w0 g' h' w'/\VL g' env a.tmps.toList/\V g' v u)->next (a.put o.dst u) w'):o.wpIn (WF ro) n P a w next Q:=by
 obtain ⟨g,t,r,s,I⟩:=hs;have b:=astep_fits (P:=P) r s o;have z:∀c,o.op ≠ .defer c:=by
  refine not_defer (P:=P) (env:=env) (h:=h) λe=>?_;rw [e] at j;exact j
 refine ⟨λ_ _=>trivial,?_⟩;rw [Oper.semAt_eq (WF ro).round a.eval o z];have ok:∀v h',wT P B w0 g a o w v h'->K v h'->o.uponIn (WF ro) n P a next Q ((execOp a.eval o).run P w):=by
  rintro v h' ⟨u,w',g',d,i,l,q⟩ p
  rcases d with d | ⟨d,rfl⟩
  ·rw [d,Oper.uponIn_value];exact y v h' u w' p ⟨g',t.trans i,l,s.mono i,q⟩
  ·rw [d,Oper.uponIn_skip];exact y v h' undef w' p ⟨g',t.trans i,l,s.mono i,q⟩
 cases hst:zB P o env h with
 | ok v h'=>rw [hst] at b j;exact ok v h' b j
 | len m v h'=>rw [hst] at b j;exact ok v h' b.2 (j b.1)
 | call f args =>
  rw [hst] at b j;obtain ⟨vs,d,k⟩:=b;rw [d,j.1 vs w,Oper.uponIn_enter];refine ⟨λh=>by simp [WF,Fence.wide] at h,callsIn_of ((j.2 B w0 g w vs r k).mono ?_)⟩
  rintro e w' ⟨v,x,h',g',rfl,p,i,l,q⟩
  exact y x h' v w' p ⟨g',t.trans i,l,s.mono i,q⟩
 | round id args =>
  rw [hst] at b j;obtain ⟨c,vs,H,d,k⟩:=b;obtain ⟨fn,tmps,assign,body,C,E⟩:=j B w0 g w vs c r k H;rw [d,C,Oper.uponIn_round];refine ⟨λh=>by simp [WF,Fence.wide] at h,RoundIn.mono (F:=WF ro) (E _) ?_⟩
  rintro e w' ⟨v,x,h',g',rfl,p,i,l,q⟩
  exact y x h' v w' p ⟨g',t.trans i,l,s.mono i,q⟩
 | any S =>
  rw [hst] at b j;obtain ⟨v,h',G,A⟩:=b;exact ok v h' A (j v h' G)
 | fail=>rw [hst] at j;exact j.elim

omit [GOk P B w0] in
theorem bstep_sound {Q:Exit->Act->World->Prop}
  (hs:St B w0 g0 D env h a w) (y:bwp P o env h K)
  (t:∀v h' u w',K v h'->(∃g',g0.le g'/\Rel B w0 g' h' w'/\VL g' env a.tmps.toList/\V g' v u)->next (a.put o.dst u) w'):o.wpIn (WF ro) n P a w next Q:=by
 obtain ⟨g,s,r,i,z⟩:=hs;rcases y with ⟨l,e,k⟩ | ⟨A,C,e,k⟩
 ·have f:∀c,o.op ≠ .defer c:=λc x=>by
   rcases e with e | ⟨n,e⟩
   ·simp [xT,x] at e
   ·simp [xD,x] at e
  obtain ⟨p,m,u,w',g',b,d,j,q⟩:∃p ∈ l,wT P B w0 g a o w p.1 p.2:=by
   rcases e with e | ⟨n,e⟩
   ·exact bfits r i e
   ·exact pfits r i e
  refine ⟨λ_ _=>trivial,?_⟩;rw [Oper.semAt_eq (WF ro).round a.eval o f];rcases b with b | ⟨b,rfl⟩
  ·rw [b,Oper.uponIn_value];exact t _ _ u w' (k p m) ⟨g',s.trans d,j,i.mono d,q⟩
  ·rw [b,Oper.uponIn_skip];exact t _ _ undef w' (k p m) ⟨g',s.trans d,j,i.mono d,q⟩
 ·have f:∀c,o.op ≠ .defer c:=λc x=>by simp [anew,x] at e
  obtain ⟨u,w',g',b,d,j,q⟩:=new_fits r i e;refine ⟨λ_ _=>trivial,?_⟩;rw [Oper.semAt_eq (WF ro).round a.eval o f];rcases b with b | ⟨b,rfl⟩
  ·rw [b,Oper.uponIn_value];exact t _ _ u w' k ⟨g',s.trans d,j,i.mono d,q⟩
  ·rw [b,Oper.uponIn_skip];exact t _ _ undef w' k ⟨g',s.trans d,j,i.mono d,q⟩

theorem ops_sound {ops:Array Oper} {Q:Exit->Act->World->Prop} {QA:List AV->AH->Prop} (j:∀env h a w,QA env h->St B w0 g0 D env h a w->Q .normal a w) :
  ∀(rest:List Oper) (k:Nat) (env:List AV) (h:AH) (a:Act) (w:World),ops.toList.drop k=rest->zJ P ops QA rest env h->St B w0 g0 D env h a w->wpOpsIn (WF ro) n P ops Q (List.range' k rest.length) a w
 | [],k,env,h,a,w,_,c,hs=>j env h a w c hs
 | o::rest,k,env,h,a,w,hd,c,hs=>by
  have F:ops[k]?=some o:=by
   rw [<- uC];have:=congrArg (·[0]?) hd
   grind
  have f:ops.toList.drop (k+1)=rest:=by
   rw [<- tG,hd];rfl
  simp only [ul,List.range'_succ,wpOpsIn,F];obtain ⟨env,h,p,c⟩:=c;obtain ⟨x,q,A,i,l⟩:=hs;obtain ⟨g,m,r,s⟩:=p _ _ _ _ _ A i;have t:=q.trans m;have hs:St B w0 g0 D env h a w:=⟨g,t,r,s,l⟩
  cases hb:aG ops o env with
  | none=>rw [hb] at c;exact c.elim
  | some b =>
   have d:=vr s hb;rw [hb] at c;rw [d];cases b with
   | true =>
    simp only [gwp] at c;simp only [ur];have e:∀v h' u w',zJ P ops QA rest (setd env o.dst v) h'->(∃g',g0.le g'/\Rel B w0 g' h' w'/\VL g' env a.tmps.toList/\V g' v u)->wpOpsIn (WF ro) n P ops Q (List.range' (k+1) rest.length) (a.put o.dst u) w':=λv h' u w' C ⟨g',E,y,G,z⟩ =>
     ops_sound j rest (k+1) _ h' _ w' f C ⟨g',E,y,G.setd o.dst z,by rw [wK];exact l⟩
    rcases c with c | c
    ·exact step_sound hs c e
    ·exact bstep_sound hs c e
   | false =>
    simp only [gwp] at c;simp only [um,uJ];exact ⟨λ_ _=>trivial,ops_sound j rest (k+1) _ h _ w f c ⟨g,t,r,s.setd o.dst V.ofUndef,by rw [wK];exact l⟩⟩

theorem any_sound {ops:Array Oper} {Q:Exit->Act->World->Prop} {QA:List AV->AH->Prop} (k:∀env h a w,QA env h->St B w0 g0 D env h a w->Q .normal a w) :
  ∀(m:Nat) (c:Array Bool) (env:List AV) (h:AH) (a:Act) (w:World),awpAny P ops QA m c env h->St B w0 g0 D env h a w->wpAnyIn (WF ro) n P .any ops Q m c a w
 | 0,c,env,h,a,w,d,hs=>⟨d.1,k env h a w d.2 hs⟩
 | m+1,c,env,h,a,w,d,hs=>by
  refine ⟨λe=>k env h a w (d.1 e) hs,λi hi=>?_⟩;unfold wpOpIn;cases ho:ops[i]? with
  | none =>
   exfalso;unfold Region.ready at hi
   simp_all
  | some o =>
   have d:=d.2 i hi o ho;simp only;obtain ⟨g,q,r,p,l⟩:=hs;have hs:St B w0 g0 D env h a w:=⟨g,q,r,p,l⟩
   cases hb:aG ops o env with
   | none=>rw [hb] at d;exact d.elim
   | some b =>
    have f:=vr p hb;rw [hb] at d;rw [f];cases b with
    | true =>
     simp only [gwp] at d;simp only [ur];have j:∀v h' u w',awpAny P ops QA m (c.setIfInBounds i true) (setd env o.dst v) h'->(∃g',g0.le g'/\Rel B w0 g' h' w'/\VL g' env a.tmps.toList/\V g' v u)->wpAnyIn (WF ro) n P .any ops Q m (c.setIfInBounds i true) (a.put o.dst u) w':=λv h' u w' x ⟨g',y,s,z,t⟩ =>
      any_sound k m _ _ h' _ w' x ⟨g',y,s,z.setd o.dst t,by rw [wK];exact l⟩
     rcases d with d | d
     ·exact step_sound hs d j
     ·exact bstep_sound hs d j
    | false =>
     simp only [gwp] at d;simp only [um,uJ];exact ⟨λ_ _=>trivial,any_sound k m _ _ h _ w d ⟨g,q,r,p.setd o.dst V.ofUndef,by rw [wK];exact l⟩⟩
end
end Go.Vv
namespace Go.Vv
open Go Go.RowKit Go.Lib
variable {ops:Array Oper} {o:Oper} {env env':List AV} {P:Program} {h:AH}

def befF (acc:Array Nat) (o:Oper):Array Nat:=acc.push (o.after.foldl (λs e=>if Region.binds .any e then s ||| 2 ^ e.on ||| acc.getD e.on 0 else s) 0)
theorem before_eq (ops:Array Oper):Region.before ops=ops.toList.foldl befF #[]:=by
 unfold Region.before;rw [<- rt];rfl
theorem bef_size:∀(l:List Oper) (a:Array Nat),(l.foldl befF a).size=a.size+l.length
 | [],a=>by simp
 | o::r,a=>by simp only [sy,bef_size r,befF,Array.size_push,ul];omega
theorem bef_keep:∀(l:List Oper) (a:Array Nat) (j:Nat),j < a.size->(l.foldl befF a).getD j 0=a.getD j 0
 | [],a,j,_=>rfl
 | o::r,a,j,h=>by
  simp only [sy];rw [bef_keep r _ j (by simp [befF];omega)];simp [befF,tp,rT,Nat.ne_of_lt h]
theorem edges_bit (a:Array Nat) (w:Nat):∀(es:List Edge) (s:Nat),(es.foldl (λs e=>if Region.binds .any e then s ||| 2 ^ e.on ||| a.getD e.on 0 else s) s).testBit w=true ->
  s.testBit w=true \/ ∃e ∈ es,Region.binds .any e=true/\(e.on=w \/ (a.getD e.on 0).testBit w=true)
 | [],s,h=>.inl h
 | e::r,s,h=>by
  simp only [sy] at h;rcases edges_bit a w r _ h with h | ⟨c,b,d,hh⟩
  ·grind
  ·grind
theorem before_spec {i w:Nat} (hi:ops[i]?=some o) (h:((Region.before ops).getD i 0).testBit w=true) :
  ∃e ∈ o.after,Region.binds .any e=true/\(e.on=w \/ (e.on < i/\((Region.before ops).getD e.on 0).testBit w=true)):=by
 have k:ops.toList[i]?=some o:=by simp_all
 obtain ⟨c,_⟩:=ua.1 k;have a:ops.toList=ops.toList.take i++o::ops.toList.drop (i+1):=by
  have:=sN c
  simp_all
 generalize hA:(ops.toList.take i).foldl befF #[]=acc;have b:acc.size=i:=by rw [<- hA,bef_size];simp at c ⊢;omega
 have j:Region.before ops=(ops.toList.drop (i+1)).foldl befF (befF acc o):=by
  rw [before_eq]
  conv=>lhs;rw [a]
  grind
 have f:(Region.before ops).getD i 0=o.after.foldl (λs e=>if Region.binds .any e then s ||| 2 ^ e.on ||| acc.getD e.on 0 else s) 0:=by
  rw [j,bef_keep _ _ _ (by simp [befF,b])];subst b;simp [befF,tp]
 rw [f,<- rt] at h;rcases edges_bit acc w o.after.toList 0 h with h | ⟨e,l,g,hh⟩
 ·grind
 ·refine ⟨e,by grind,g,hh.imp id λhh=>?_⟩;have d:e.on < i:=by
   grind
  refine ⟨d,?_⟩;rw [j,bef_keep _ _ _ (by simp [befF,b];omega)];have:(befF acc o).getD e.on 0=acc.getD e.on 0:=by simp [befF,tp,rT,b,Nat.ne_of_lt d]
  grind

theorem ev_congr {x:Operand} (h:∀t,x=.tmp t->env[t]?=env'[t]?):ev env x=ev env' x:=by
 cases x with
 | tmp t=>simp only [ev,uP,h t rfl]
 | _=>rfl
theorem looks_op {t:Tmp} (h:Operand.tmp t ∈ o.op.operands):t ∈ o.looksAt ops:=by
 unfold Oper.looksAt;refine uK.2 (.inl (r8.2 ⟨.tmp t,by simpa using h,rfl⟩))
theorem looks_guard {j:Nat} {b:Bool} {d:Tmp} (a:o.guard=some (j,b)) (hd:(ops[j]?).bind (·.dst)=some d):d ∈ o.looksAt ops:=by
 unfold Oper.looksAt
 simp_all
theorem aG_congr (h:∀t ∈ o.looksAt ops,env[t]?=env'[t]?):aG ops o env=aG ops o env':=by
 unfold aG;split
 ·rfl
 ·rename_i j a b;split
  ·rfl
  ·rename_i d hd;rw [h d (looks_guard b hd)]

theorem aParts_congr {d:TypeDesc} {parts:Array (Nat×Operand)} (h:∀p ∈ parts.toList,ev env p.2=ev env' p.2):xj P d env parts=xj P d env' parts:=by
 unfold xj;exact sj λp a=>by rw [h p a]

theorem astep_congr (e:∀x ∈ o.op.operands,ev env x=ev env' x):zB P o env h=zB P o env' h:=by
 unfold zB;cases ho:o.op <;> rw [ho] at e <;> simp only [Op.operands] at e ⊢
 case move x=>rw [e x (by simp)]
 case assign x=>rw [e x (by simp)]
 case pick c a b=>rw [e c (by simp),e a (by simp),e b (by simp)]
 case box t x=>rw [e x (by simp)]
 case build t parts =>
  have g:∀d,xj P d env parts=xj P d env' parts:=λd=>aParts_congr λp g=>e p.2 (by grind)
  simp_all
 case buildSlice t n parts =>
  have g:∀d,xj P d env parts=xj P d env' parts:=λd=>aParts_congr λp g=>e p.2 (by grind)
  simp_all
 case load t x=>rw [e x (by simp)]
 case store t x y=>rw [e x (by simp),e y (by simp)]
 case nilCheck x=>rw [e x (by simp)]
 case binOp op t x y yt=>rw [e x (by simp),e y (by simp)]
 case unOp op t x=>rw [e x (by simp)]
 case convert s t x=>rw [e x (by simp)]
 case makeFunc f a b =>
  have k:a.toList.map (ev env)=a.toList.map (ev env'):=sj λx q=>e x (by simp_all);have j:b.toList.map (ev env)=b.toList.map (ev env'):=sj λx q=>e x (by simp_all)
  grind
 case slice t x lo hi mx =>
  have k:lo.map (ev env)=lo.map (ev env'):=by cases lo with | none=>rfl | some y=>simp [e y (by simp)]
  have j:hi.map (ev env)=hi.map (ev env'):=by cases hi with | none=>rfl | some y=>simp [e y (by simp)]
  have u:mx.map (ev env)=mx.map (ev env'):=by cases mx with | none=>rfl | some y=>simp [e y (by simp)]
  simp_all
 case fieldAddr t x f=>rw [e x (by simp)]
 case field t x f=>rw [e x (by simp)]
 case indexAddr t x i=>rw [e x (by simp),e i (by simp)]
 case index t x i=>rw [e x (by simp),e i (by simp)]
 case extract x i=>rw [e x (by simp)]
 case range t x=>rw [e x (by simp)]
 case next x s=>rw [e x (by simp)]
 case lookup t x i ok=>rw [e x (by simp),e i (by simp)]
 case mapEntry t x i=>rw [e x (by simp),e i (by simp)]
 case entryStore t x i y=>rw [e x (by simp),e i (by simp),e y (by simp)]
 case mapUpdate t x i y=>rw [e x (by simp),e i (by simp),e y (by simp)]
 case makeMap t r=>cases r <;> rfl
 case call c =>
  have k:c.args.toList.map (ev env)=c.args.toList.map (ev env'):=sj λx q=>e x (by simp [Call.operands];exact .inr (by simp_all));have j:(c.args.toList.zip c.argTypes.toList).map (λp=>tyfix P p.2 (ev env p.1))=(c.args.toList.zip c.argTypes.toList).map (λp=>tyfix P p.2 (ev env' p.1)) :=
   sj λp g=>by rw [e p.1 (by simp [Call.operands];exact .inr (by simpa using (List.of_mem_zip g).1))]
  rw [k,j];split
  ·split
   ·rfl
   ·rename_i f l;rw [e f (by simp [Call.operands,l])]
   ·rename_i x m l;rw [e x (by simp [Call.operands,l])]
  ·rfl

theorem bstep_congr (a:∀x ∈ o.op.operands,ev env x=ev env' x):xT P o env h=xT P o env' h:=by
 unfold xT;cases ho:o.op <;> rw [ho] at a <;> simp only [Op.operands] at a ⊢
 case range t x=>rw [a x (by simp)]
 case next x s=>cases s <;> simp only;rw [a x (by simp)]
 case entry x=>rw [a x (by simp)]
 case buildSlice t n parts =>
  have b:∀d,xj P d env parts=xj P d env' parts:=λd=>aParts_congr λp b=>a p.2 (by grind)
  simp_all
 case convert s t x=>rw [a x (by simp)]
 case makeInterface t x=>rw [a x (by simp)]
 case typeAssert x u t ok=>rw [a x (by simp)]
 case slice t x lo hi mx =>
  split <;> first | rfl | skip
  all_goals (rename_i h0;try (cases h0))
  all_goals first
   | rfl
   | (rename_i y;rw [a x (by simp),a y (by simp)])
 case insert t m k x =>
  have:zB P { o with op:=.mapUpdate t m k x } env h=zB P { o with op:=.mapUpdate t m k x } env' h:=astep_congr λy e=>a y (by simpa [Op.operands] using e);rw [this]
 case call c =>
  have f:∀x ∈ c.args.toList,ev env x=ev env' x:=λx g=>a x (by simp [Call.operands];exact .inr (by simp_all));split
  ·simp_all
  ·simp_all
  ·simp_all
  ·simp_all
  ·rfl
theorem pstep_congr {n:Nat} (a:∀x ∈ o.op.operands,ev env x=ev env' x):xD P o env h n=xD P o env' h n:=by
 unfold xD;cases ho:o.op <;> rw [ho] at a <;> simp only [Op.operands] at a ⊢
 case makeMap t r=>cases r <;> rfl
 case range t x=>rw [a x (by simp)]
 case next x s=>cases s <;> simp only;rw [a x (by simp)]
 case entry x=>rw [a x (by simp)]
 case lookup t x i ok=>rw [a x (by simp),a i (by simp)]
 case mapUpdate t m k x=>rw [a m (by simp),a k (by simp),a x (by simp)]
 case insert t m k x=>rw [a m (by simp),a k (by simp),a x (by simp)]
 case call c =>
  have b:∀x ∈ c.args.toList,ev env x=ev env' x:=λx d=>a x (by simp [Call.operands];exact .inr (by simp_all));split
  ·simp_all
  ·simp_all
  ·rfl
theorem bstep_still {h':AH} {v:AV} (d:isEff o.op=false) (hd:bdraw o.op=true) (a:xT P o env h=some [(v,h')]):h'=h/\∀e,xT P o env e=some [(v,e)]:=by
 unfold xT at a ⊢;cases ho:o.op <;> rw [ho] at d a hd <;> simp only [isEff,bdraw,reduceCtorEq] at d a hd ⊢
 case convert s t x =>
  by_cases b:yf x=true
  ·simp only [b,ur] at a ⊢;cases h1:convX P s t (ev env x) with
   | some l =>
    simp only [h1,uf,rp,tD,tT] at a ⊢;obtain ⟨rfl,rfl⟩:=a;exact ⟨rfl,λ_=>rfl⟩
   | none =>
    simp only [h1] at a ⊢;cases e:convBy P s t (ev env x) with
    | some l =>
     simp only [e,uf,rp,tD,tT] at a ⊢;obtain ⟨rfl,rfl⟩:=a;exact ⟨rfl,λ_=>rfl⟩
    | none=>simp only [e] at a;cases a
  ·simp only [b] at a;cases a
 case makeInterface t x =>
  grind
 case typeAssert x u t ok =>
  split at a
  ·rename_i b;split at a
   ·cases a
   ·split at a
    ·simp_all
    ·grind
   ·cases a
  ·cases a
 case call c =>
  grind
theorem aLoad_blks {a:AH} (c:a.blks=h.blks) (b:Bool) (n:Nat) (p:AV):aLoad a b n p=aLoad h b n p:=by
 unfold aLoad AH.blk;rw [c]

theorem astep_still (d:isEff o.op=false) :
  (∃x:Option AV,∀a:AH,(isRd o.op=true->a.blks=h.blks)->zB P o env a=oo a x) \/ (∃n v,∀a:AH,zB P o env a=.len n v a) \/ (∀a:AH,(∃S,zB P o env a=.any S) \/ zB P o env a=.fail):=by
 cases ho:o.op <;> rw [ho] at d <;> simp only [isEff,reduceCtorEq] at d <;> simp only [zB,ho]
 case call c =>
  obtain ⟨callee,a5,ts⟩:=c;cases callee with
  | value f=>simp at d
  | invoke x m=>simp at d
  | builtin b =>
   cases b <;> simp only [reduceCtorEq] at d;simp only [qd];split
   ·split
    ·split
     ·split
      ·simp_all
      ·simp_all
     ·split
      ·simp_all
      ·simp_all
     ·grind
     ·simp_all
    ·simp_all
    ·simp_all
    ·simp_all
    ·simp_all
   ·simp_all
 case binOp op t x y u =>
  split
  ·cases hq:aNilq P op t h (ev env x) (ev env y) with
   | none =>
    have g:∀a,aNilq P op t a (ev env x) (ev env y)=none:=by
     intro a;unfold aNilq at hq ⊢;split at hq
     ·grind
     ·grind
     ·rfl
    exact .inl ⟨_,λa _=>by rw [g a]⟩
   | some S =>
    refine .inr (.inr λa=>?_);have:∃S',aNilq P op t a (ev env x) (ev env y)=some S':=by
     unfold aNilq at hq ⊢
     grind
    grind
  ·simp_all
 case load t x =>
  split
  ·exact .inl ⟨_,λa e=>by rw [aLoad_blks (e rfl)]⟩
  ·simp_all
 all_goals
  (repeat' split) <;> first
   | exact .inl ⟨none,λ_ _=>rfl⟩
   | exact .inl ⟨some _,λ_ _=>rfl⟩
   | exact .inl ⟨_,λ_ _=>rfl⟩
end Go.Vv
