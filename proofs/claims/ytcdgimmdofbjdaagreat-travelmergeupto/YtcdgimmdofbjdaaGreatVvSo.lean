/- Rows are sorted: slices.SortFunc, by the shelf's contract. -/
import Derived.Test.YtcdgimmdofbjdaaGreatVvSh
import Derived.Test.YtcdgimmdofbjdaaGreatVvDr
import Derived.ChangeAgain
import Derived.Shelf.SlSortCmp.WholeK
import Derived.Shelf.SlSortCmp.NoneTotal
set_option linter.all false
open Option renaming some→aa
namespace Go.Vv
open Go Go.RowKit Go.Lib Go.Sort Go.Shelf
variable{P:Program}{ρ:Ren}
section
variable{α:Type}{row:α->List AV}{k:Nat}
theorem zbZ{β:Type}{enc:α->List β}(b:∀x,(enc x).length=k):∀(L:List α)(t:Nat),t<L.length*k->(L.map enc).flatten[t]?=(L[t / k]?).bind λx=>(enc x)[t % k]?
 |[],t,h=>by simp at h
 |x::r,t,h=>by
  have c:0<k:=by
   grind
  simp only[m4,lO];by_cases a:t<k
  ·rw[ol (by simp_all),Nat.div_eq_of_lt a,gu a];rfl
  ·have a:k<=t:=by omega
   rw[pa (by simp_all),b x];simp only[nr,ju]at h;rw[zbZ b r (t-k) (by omega)];obtain⟨s,rfl⟩:∃s,t=s+k:=⟨t-k,by omega⟩
   simp_all
theorem zbY{β:Type}{enc:α->List β}(a:∀x,(enc x).length=k):∀L:List α,(L.map enc).flatten.length=L.length*k
 |[]=>by simp
 |x::r=>by simp only[m4,lO,oA,nr,zbY a r,a x,ju];omega
theorem zeC[Inhabited α]{enc:α->List Value}(b:∀x,(enc x).length=k)(d:Array α):(flatK enc k d).toList=(d.toList.map enc).flatten:=by
 apply lT;intro t;by_cases ht:t<d.size*k
 ·have a:0<k:=by
   grind
  have hd:t / k<d.size:=by rw[Nat.div_lt_iff_lt_mul a];exact ht
  rw[zbZ b d.toList t (by omega),lr,lr,lE (by simp_all),lE hd];have c:t % k<(enc d[t / k]).length:=by rw[b];exact Nat.mod_lt _ a
  rw[tb,rk c];have:=get_flatK enc k d t ht
  grind
 ·rw[kL (by simp;omega),kL (by rw[zbY b];simp;omega)]
theorem mQ{w:World}{b:Nat}{cur:Array Value}{ty:TypeId}{fr:Nat×Nat}(f:Array Value->Array Value)(a:w.heap[b]?=aa (.cells cur ty fr)):mapBlock w b f=w.setRow b (f cur):=by
 unfold mapBlock World.setRow;congr 1;apply iF;intro i;simp only[ib];by_cases hi:b=i
 ·subst hi;simp[a,onCells]
 ·simp[hi]
theorem VA.parts{g:Gh}(b:∀x,(row x).length=k):∀(L:List α)(vs:List Value),VA g (L.map row).flatten vs->∃ds:List (α×List Value),ds.map (·.1)=L/\(ds.map (·.2)).flatten=vs/\∀p∈ds,VA g (row p.1) p.2
 |[],vs,h=>by simp only[l9,iT,VA]at h;subst h;exact⟨[],rfl,rfl,by simp⟩
 |x::r,vs,h=>by
  simp only[m4,lO]at h;have d:=VA.take (row x).length h;have a:=VA.drop (row x).length h;rw[hY]at d;rw[jZ]at a;obtain⟨ds,c,e,i⟩:=VA.parts b r _ a;refine⟨(x,vs.take (row x).length)::ds,by simp[c],by simp[e],λp f=>?_⟩
  grind
theorem VA.join{g:Gh}:∀(ds:List (α×List Value)),(∀p∈ds,VA g (row p.1) p.2)->VA g ((ds.map (·.1)).map row).flatten (ds.map (·.2)).flatten
 |[],_=>by simp[VA]
 |p::r,h=>by
  simp only[m4,lO];exact(h p (by simp)).append (VA.join r λq a=>h q (by simp[a]))
end
section
variable{B:Nat}{w0 w:World}{g:Gh}{h:AH}
theorem Rel.ahead(r:Rel B w0 g h w):∀n,Rel B w0 g h (Go.Sort.ahead w n)
 |0=>r
 |n+1=>by rw[<- ahead_drew];exact(Rel.ahead r n).drew
theorem zbF(w:World)(os:Array Obj):Go.RowKit.Below w.heap.size w (grow w os) :=
 ⟨rfl,rfl,rfl,by simp[grow],λk a=>by simp only[grow];rw[gi a]⟩
end
structure c9{α:Type}(L:List α)(cf:α->α->Int):Prop where
 irrefl:∀x,x∈L->¬cf x x<0
 trans:∀x y z,x∈L->y∈L->z∈L->cf x y<0->cf y z<0->cf x z<0
 ntrans:∀x y z,x∈L->y∈L->z∈L->¬cf x y<0->¬cf y z<0->¬cf x z<0
def bd{α:Type}(P:Program)(gf:Nat)(row:α->List AV)(L:List α)(cf:α->α->Int):Prop :=
 ∀(gz:Gh)(W:World) (x y:α) (vx vy:List Value),GOk P W.heap.size W->gz.σ=[]->gz.τ=[]->x∈L->y∈L->(∀b j v,gz.Φ b j=aa v->W.cell? ⟨b,j,none⟩=aa v)->VA gz (row x) vx->VA gz (row y) vy ->
  Calls P gf #[.agg vx.toArray,.agg vy.toArray] W λe w'=>e=.returned (.int .i64 (cf x y))/\∃q os',w'=grow (W.drewN q) os'

theorem zf0{w w':World}(h:Below w.heap.size w w')(hd:w.drawn<=w'.drawn):∃q e,w'=grow (w.drewN q) e:=by
 refine⟨w'.drawn-w.drawn,w'.heap.extract w.heap.size w'.heap.size,?_⟩;obtain⟨a,d,c,e,b⟩:=w';have f:e=w.os:=h.os;have j:d=w.tape:=h.tape;have i:b=w.output:=h.output;have hs:w.heap.size<=a.size:=h.size;have m:∀k,k<w.heap.size->a[k]?=w.heap[k]?:=h.block;have hd:w.drawn<=c:=hd;subst f j i;have l:a=w.heap++a.extract w.heap.size a.size:=by
  grind
 simp only[grow,World.drewN];rw[<- l];congr 1;omega
theorem bd.zzs{α:Type}{o:Nat}{row:α->List AV}{L:List α}{cf:α->α->Int}(K:∀x,(row x).all AV.pure=true)
  (F:∀x y,x∈L->y∈L->Spec P o [.agg (row x),.agg (row y)] h0 (λr h=>r=.int .i64 (cf x y)/\h=h0)):bd P o row L cf:=by
 intro s W x y n p z d f E C a l m;haveI:=z;obtain⟨Φ,σ,τ,δ⟩:=s;simp only at d f a;subst d f;have r:Rel W.heap.size W ⟨Φ,[],[],[]⟩ h0 W:=⟨Below.refl _ _,ob _,a,rfl,λi c k h _=>by simp at h,rfl,λi t h=>by simp at h,λi j c h _=>by simp at h,λi j t t' b x y h _=>by simp at h,λi c j t b x h _=>by simp at h,
  λc h=>by simp at h,λi k h=>by simp at h,λi j t k k' M I h=>by simp[h0]at h⟩
 have A:VA (⟨Φ,[],[],[]⟩:Gh) (row x) n:=VA.fm (g:=⟨Φ,[],[],δ⟩) (g':=⟨Φ,[],[],[]⟩) ⟨λ_ _ _ h=>h,λ_ _ h=>h,λ_ t h=>⟨t,h,ob _,λ_=>rfl,rfl⟩⟩ _ _ l;have D:VA (⟨Φ,[],[],[]⟩:Gh) (row y) p:=VA.fm (g:=⟨Φ,[],[],δ⟩) (g':=⟨Φ,[],[],[]⟩) ⟨λ_ _ _ h=>h,λ_ _ h=>h,λ_ t h=>⟨t,h,ob _,λ_=>rfl,rfl⟩⟩ _ _ m;have G:=(F x y E C).2 W.heap.size W ⟨Φ,[],[],[]⟩ W #[.agg n.toArray,.agg p.toArray] r (by
  simp only[VL,V];exact⟨_,_,rfl,⟨_,rfl,A⟩,_,_,rfl,⟨_,rfl,D⟩,rfl⟩)
 refine(zi6 G λe w' ⟨v,_,_,_,h,_⟩=>⟨v,h⟩).mono ?_
 rintro e w' ⟨⟨v,J,H,g',rfl,⟨rfl,rfl⟩,_,u,q⟩,hd⟩
 simp only[V]at q;subst q;exact⟨rfl,zf0 u.below hd⟩
theorem zlR(L:Go.Proofs.SlLaysF0.n6 P ρ){k:Nat}(aE:∀w,(isAgg (ρ.t 24)).run P w=.ok true w)(zE:∀w,(Go.sizeOf (ρ.t 24)).run P w=.ok k w)
  {α:Type} {row:α->List AV} (hk:∀x,(row x).length=k) {Lx:List α} {cf:α->α->Int} {X:Nat} (eg:∀args w,(callFunc X args).run P w=.ok (.enter X args) w) (hO:c9 Lx cf) (hc:bd P X row Lx cf)
  {id q:Nat} {h:AH} (hb:h.g7 id=aa (.row q k (Lx.map row))) (hlim:Lx.length<=lim) :
  Spec P (ρ.f 6) [.fo id q k Lx.length,.fn (.func X) [] []] h (λrr hh=>rr=.fl []/\∃L':List α,L'.Perm Lx/\L'.Pairwise (λa b=>¬cf b a<0)/\hh=h.put id (.row q k (L'.map row))):=by
 refine⟨λvs w=>L.f6.enters rfl vs w,λB w0 _ g w vs r H=>?_⟩;obtain⟨us,rfl⟩:∃us:List Value,vs=us.toArray:=⟨vs.toList,by simp⟩
 simp only[VL,V]at H;obtain⟨v1,s1,Z,⟨a,c,rfl,hcap,hm,t2,ht2,_,_,hloc⟩,v2,s2,rfl,⟨fs,cs,rfl,hfs,hcs⟩,rfl⟩:=H;have hfs:fs=#[]:=by cases fs;simp_all
 have hcs:cs=#[]:=by cases cs;simp_all
 subst hfs hcs;subst Z;have hput:h.put id (.row q k (Lx.map row))=h:=by
  cases h with
  |mk BL T =>
   simp only[AH.put,AH.mk.injEq,kA];refine lT λj=>?_;by_cases s:j=id
   ·subst s;rw[li (tu.1 hb).1];exact hb.symm
   ·rw[lR (λe=>s e.symm)]
 by_cases hLx:Lx=[]
 ·subst hLx;refine(Go.Proofs.AnyF.slices_SortFunc_none L a c _ w).mono ?_
  rintro e w' ⟨rfl,rfl⟩
  exact⟨_,_,h,g,rfl,⟨rfl,[],.nil,.nil,hput.symm⟩,Gh.le.refl g,r,by simp only[V];exact⟨#[],rfl,by simp[VL]⟩⟩
 ·obtain⟨_,ti,W,htr,Y,hlen,hpe,hrow⟩:=r.rowAt hb;obtain rfl:ti=t2:=by rw[W]at ht2;injection ht2
  simp only[oa]at Y;obtain⟨b',o',rfl,S⟩:=hloc.resolve_left (λhh=>hLx (lA hh.1));have l:=S Y.symm;obtain⟨b,o,e,cells,ty,k1,k2,k3,k4,k5⟩:=hrow.resolve_left (by simpa using hLx);simp only[oa]at k1 k3 k4;rw[k1]at l;injection l with l;injection l with Z l;injection l with e2 _;obtain rfl:o=o':=by omega
  subst Z;have hbw:b<w.heap.size:=(l5.1 k2).1;have k3z:VA (g.cut 0 0) (Lx.map row).flatten ((cells.toList.drop o).take (Lx.length*k)):=VA.cut _ _ (qu hpe) k3;obtain⟨ds,d1,d2,d3⟩:=VA.parts hk Lx _ k3z
  let A:Type:={ p:α×List Value // p.1∈Lx/\VA (g.cut 0 0) (row p.1) p.2 }
  have hmem:∀p∈ds,p.1∈Lx/\VA (g.cut 0 0) (row p.1) p.2:=λp hp=>⟨by rw[<- d1];exact lH.2 ⟨p,hp,rfl⟩,d3 p hp⟩
  let R:List A:=ds.attach.map λp=>⟨p.1,hmem p.1 p.2⟩
  have da1:R.map (λx:A=>x.1)=ds:=by
   simp only[R,kY,ig];exact List.attach_map_subtype_val ds
  have K:R.length=Lx.length:=by rw[<- d1];simp[R]
  haveI:Inhabited A:=⟨R[0]'(by rw[K];exact jX.2 hLx)⟩
  let enc:A->List Value:=λx=>x.1.2
  have F:∀x:A,(enc x).length=k:=λx=>by rw[<- x.2.2.length,hk]
  let d:Array A:=R.toArray
  have u:d.size=Lx.length:=by simp[d,K]
  have Q:(flatK enc k d).toList=(cells.toList.drop o).take (Lx.length*k):=by
   rw[zeC F,<- d2,<- da1];simp[d,enc,ig]
  have hH:HoldsK enc k w b o d:=λj s=>by
   refine⟨?_,frozen_of_row w b (o+j) cells ty k2⟩;rw[cell_of_row w b (o+j) cells ty (0,0) k2];have C:(flatK enc k d).toList[j]?=aa ((flatK enc k d)[j]!):=by rw[lr,lE s,getElem!_pos _ j s]
   rw[Q,ml]at C;split at C
   ·simp_all
   ·cases C
  let J:A->A->Int:=λx y=>cf x.1.1 y.1.1
  have hO':SWO (Go.Proofs.ltOf J):=⟨λx=>by simpa[Go.Proofs.ltOf]using hO.irrefl _ x.2.1,λx y z C h2=>by
   simp only[Go.Proofs.ltOf,so]at C h2 ⊢;exact hO.trans _ _ _ x.2.1 y.2.1 z.2.1 C h2,λx y z C h2=>by
   simp only[Go.Proofs.ltOf,iI]at C h2 ⊢;exact hO.ntrans _ _ _ x.2.1 y.2.1 z.2.1 C h2⟩
  have hcmp:Go.Proofs.CmpLays P X #[] enc k J b o d.size w:=λm os dk hs x y=>by
   have:=hc (g.cut 0 0) (Go.Proofs.sortWorldK enc k w b o m dk os) x.1.1 y.1.1 _ _ (zna (B:=B) (w0:=w0) (r.below.trans ?_)) (by simp[Gh.cut]) (by simp[Gh.cut]) x.2.1 y.2.1 (λI j v H=>?_) x.2.2 y.2.2
   ·simpa using this
   ·have hBb:B<=b:=((r.tok _ _ W).2 _ _ _ k1).lo;refine⟨rfl,rfl,rfl,by simp[Go.Proofs.sortWorldK,grow,Go.Sort.putRowK,Go.Sort.putRow,mapBlock,Go.Sort.ahead],λi hi=>?_⟩;have hne:b≠i:=by omega
    have hil:i<w.heap.size:=o4 hi r.dA;simp only[Go.Proofs.sortWorldK,grow,Go.Sort.putRowK,Go.Sort.putRow,mapBlock,Go.Sort.ahead];rw[gi (by simpa using hil),ib,n4 hne]
   ·have H:g.Φ I j=aa v:=H;have G:=r.eK I j v H;have hb2:=r.em H;by_cases hbb:I=b
    ·subst hbb;have s:j<o:=by
      rcases kR j o with s|s
      ·exact s
      ·rw[k5 j s]at H;cases H
     have hbp:I<(Go.Sort.putRow _root_.id (Go.Sort.ahead w m) I o (flatK enc k dk)).heap.size:=by simpa[Go.Sort.putRow,mapBlock,Go.Sort.ahead]using hb2
     have Z:(Go.Proofs.sortWorldK enc k w I o m dk os).cell? ⟨I,j,none⟩=(Go.Sort.putRow _root_.id (Go.Sort.ahead w m) I o (flatK enc k dk)).cell? ⟨I,j,none⟩:=(zbF _ os).cell (p:=⟨I,j,none⟩) hbp;rw[Z,cell?_putRow_other _root_.id _ _ _ _ _ (.inr (.inl s))];exact G
    ·rw[Go.Proofs.cell?_sortWorldK_other enc k w b o m dk os ⟨I,j,none⟩ hbb hb2];exact G
  have E:=Go.Proofs.AnyQ.slices_SortFunc L k aE zE enc F (λx v H=>x.2.2.dC v H) J hO' X #[] b o c d w eg hcmp hH hbw (by rw[u];unfold lim at hlim;omega);rw[u]at E;refine Calls.mono E ?_
  rintro e w' ⟨rfl,n,m,os,D,M,rfl⟩
  have N:n.size=Lx.length:=D.1.trans u
  let new:=putCells _root_.id o (flatK enc k n) cells
  have hFs:(flatK enc k n).size=Lx.length*k:=by rw[size_flatK,N]
  have hw:Go.Proofs.sortWorldK enc k w b o m n os=grow ((Go.Sort.ahead w m).setRow b new) os:=by
   unfold Go.Proofs.sortWorldK putRowK putRow;rw[mQ (w:=Go.Sort.ahead w m) (b:=b) _ k2]
  have hnsz:new.size=cells.size:=by simp[new,putCells]
  have hget:∀j,new[j]?=(cells[j]?).map λx=>if o<=j/\j<o+Lx.length*k then(flatK enc k n)[j-o]! else x:=λj=>by
   simp only[new,putCells,Array.getElem?_mapIdx,hFs];rfl
  have O:(new.toList.drop o).take (Lx.length*k)=(flatK enc k n).toList:=by
   apply lT;intro j;rw[ml]
   grind
  have hva:VA g ((n.toList.map (λx:A=>x.1.1)).map row).flatten (flatK enc k n).toList:=by
   rw[zeC F];have hlv:(g.cut 0 0).lv g:=⟨λ_ _ _ e=>e,λi c e=>by simp[Gh.cut]at e,λi t e=>by simp[Gh.cut]at e⟩
   have:=VA.join (g:=g) (row:=row) (n.toList.map (λx:A=>x.1)) (λp hp=>by
    obtain⟨x,_,rfl⟩:=lH.1 hp;exact VA.fm hlv _ _ x.2.2)
   simpa[ig,enc]using this
  have U:∀e∈(n.toList.map (λx:A=>x.1.1)).map row,e.length=k:=λe he=>by
   obtain⟨x,_,rfl⟩:=lH.1 he;exact hk x
  have hpu:(((n.toList.map (λx:A=>x.1.1)).map row).flatten).all AV.pure=true:=by
   rw[oB]at hpe ⊢;intro a ha
   grind
  have r2:=(r.ahead m).dh (es':=(n.toList.map (λx:A=>x.1.1)).map row) (new:=new) (o:=o) hb W (by simpa using k1) k2 hnsz (λj s=>by
    have hno:¬(o<=j/\j<o+Lx.length*k):=by omega
    rw[hget];simp only[n4 hno];cases cells[j]?<;>rfl) (by simp[N]) U hpu
   (by rw[oa,O];exact hva) (by simpa using hLx)
  have r3:=r2.beyond (zbF _ os);rw[hw];have hpm:(n.toList.map (λx:A=>x.1.1)).Perm Lx:=by
   have C:=D.2.2;have x1:n.extract 0 Lx.length=n:=by rw[<- N];simp
   have x2:d.extract 0 Lx.length=d:=by rw[<- u];simp
   rw[x1,x2]at C;have:=C.map (λx:A=>x.1.1);have e2:d.toList.map (λx:A=>x.1.1)=Lx:=by
    have e3:d.toList.map (λx:A=>x.1.1)=(R.map (λx:A=>x.1)).map (·.1):=by simp[d,ig]
    exact e3.trans ((congrArg (List.map (·.1)) da1).trans d1)
   rwa[e2]at this
  refine⟨_,_,_,g,rfl,⟨rfl,_,hpm,?_,rfl⟩,Gh.le.refl g,r3,by simp only[V];exact⟨#[],rfl,by simp[VL]⟩⟩;rw[lF];intro i j hi s hij;simp only[oa,jz]at hi s;have:=M i j (lV _) hij (by omega);rw[getElem!_pos n j s,getElem!_pos n i hi]at this;simpa[Go.Proofs.ltOf,J]using this
def pc{α:Type}(cf:α->α->Int)(L L':List α):Prop:=L'.Perm L/\L'.Pairwise λa b=>¬cf b a<0
open Classical in
noncomputable def zh8{α:Type}(cf:α->α->Int)(L:List α):Option (List α) :=
 if h:c9 L cf/\L.length<=lim/\∃L',pc cf L L'/\∀M,pc cf L M->M=L' then aa (Classical.choose h.2.2)else none
theorem zjr{α:Type}{cf:α->α->Int}{L R:List α}(h:zh8 cf L=aa R):c9 L cf/\L.length<=lim/\pc cf L R/\∀M,pc cf L M->M=R:=by
 unfold zh8 at h;split at h
 ·grind
 ·cases h
theorem zjq{α:Type}{cf:α->α->Int}{L R:List α}(c:c9 L cf)(a:L.length<=lim)(d:pc cf L R)(b:∀M,pc cf L M->M=R):zh8 cf L=aa R:=by
 have e:c9 L cf/\L.length<=lim/\∃L',pc cf L L'/\∀M,pc cf L M->M=L':=⟨c,a,R,d,b⟩
 unfold zh8
 grind
theorem pM{α:Type}{cf:α->α->Int}:∀{M R:List α},M.Perm R->M.Pairwise (λa b=>¬cf b a<0)->R.Pairwise (λa b=>¬cf b a<0)->(∀x y,x∈M->y∈M->¬cf x y<0->¬cf y x<0->x=y)->M=R
 |[],R,hp,_,_,_=>by simp_all
 |x::M,[],hp,_,_,_=>by simp_all
 |x::M,y::R,hp,hm,hr,hs=>by
  have c:x=y:=by
   have f:x∈y::R:=hp.subset (by simp);have d:y∈x::M:=hp.symm.subset (by simp);rcases lx.1 f with e|f
   ·exact e
   ·rcases lx.1 d with e|d
    ·simp_all
    ·have m:=(ld.1 hm).1 y d;have l:=(ld.1 hr).1 x f
     grind
  subst c;rw[pM ((List.perm_cons x).1 hp) (ld.1 hm).2 (ld.1 hr).2 λa b i j=>hs a b (by simp[i]) (by simp[j])]
theorem zkN(L:Go.Proofs.SlLaysF0.n6 P ρ){k:Nat}(d:∀w,(isAgg (ρ.t 24)).run P w=.ok true w)(l:∀w,(Go.sizeOf (ρ.t 24)).run P w=.ok k w)
  {α:Type} {row:α->List AV} (m:∀x,(row x).length=k) {Lx R:List α} {cf:α->α->Int} {b:Nat} (p:∀args w,(callFunc b args).run P w=.ok (.enter b args) w) (v:bd P b row Lx cf) (a:zh8 cf Lx=aa R)
  {q:Nat} {h:AH} {B B':List q6} {T:List Nat} {i:Nat} (j:B[i]?=aa (.row q k (Lx.map row))) (u:B.set i (.row q k (R.map row))=B') :
  Spec P (ρ.f 6) [.fo (h.zh.length+i) q k Lx.length,.fn (.func b) [] []] (h.ext B T) (λc hh=>c=.fl []/\hh=h.ext B' T):=by
 obtain⟨o,e,_,n⟩:=zjr a;refine(zlR L d l m p o v (id:=h.zh.length+i) (by rw[zX];exact j) e).mono ?_
 rintro c hh ⟨rfl,L',s,r,rfl⟩
 obtain rfl:=n L' ⟨s,r⟩;exact⟨rfl,by rw[vU,u]⟩
open Classical in
noncomputable def qT{α:Type}(c:α->α->Option Int)(L:List α):Option (List α):=if ∀x∈L,∀y∈L,(c x y).isSome=true then zh8 (λx y=>(c x y).getD 0) L else none
theorem zjp{α:Type}{c:α->α->Option Int}{L R:List α}(h:qT c L=aa R):(∀x∈L,∀y∈L,(c x y).isSome=true)/\zh8 (λx y=>(c x y).getD 0) L=aa R:=by
 unfold qT at h
 simp_all
theorem qK{α:Type}{c:α->α->Option Int}{L R:List α}(h:qT c L=aa R):R.length=L.length:=(zjr (zjp h).2).2.2.1.1.length_eq
theorem nR{f : FuncId}{fn : Func}{c : Code}(hf : P.funcs[f]? = aa fn)(hb : fn.body = aa c)(hname : (fn.name == "runtime.NumGoroutine") = false) : ∀ args w, (callFunc f args).run P w = .ok (.enter f args) w := fun args w => by
 have hn : ¬fn.name = "runtime.NumGoroutine" := by simp_all
 simp[callFunc,hf,hb,hn]
theorem pL(L:Go.Proofs.SlLaysF0.n6 P ρ){k:Nat}(d:∀w,(isAgg (ρ.t 24)).run P w=.ok true w)(l:∀w,(Go.sizeOf (ρ.t 24)).run P w=.ok k w)
  {α:Type} {row:α->List AV} (m:∀x,(row x).length=k) (s:∀x,(row x).all AV.pure=true) {Lx R:List α} {c:α->α->Option Int} {b:Nat} (o:∀args w,(callFunc b args).run P w=.ok (.enter b args) w)
  (D:∀x y v,c x y=aa v->Spec P b [.agg (row x),.agg (row y)] h0 (λr h=>r=.int .i64 v/\h=h0)) (a:qT c Lx=aa R)
  {q:Nat} {h:AH} {B B':List q6} {T:List Nat} {i:Nat} (j:B[i]?=aa (.row q k (Lx.map row))) (A:B.set i (.row q k (R.map row))=B') :
  Spec P (ρ.f 6) [.fo (h.zh.length+i) q k Lx.length,.fn (.func b) [] []] (h.ext B T) (λp hh=>p=.fl []/\hh=h.ext B' T):=by
 obtain⟨n,e⟩:=zjp a;refine zkN L d l m o (bd.zzs s λx y z u=>?_) e j A;obtain⟨v,C⟩:=iy.1 (n x z y u)
 simp_all
end Go.Vv
