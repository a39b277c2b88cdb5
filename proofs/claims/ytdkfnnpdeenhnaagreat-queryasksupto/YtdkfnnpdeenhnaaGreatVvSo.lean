/- Rows are sorted: slices.SortFunc, by the shelf's contract. -/
import Derived.Test.YtdkfnnpdeenhnaaGreatVvRo
import Derived.Test.YtdkfnnpdeenhnaaGreatVvDr
import Derived.ChangeAgain
import Derived.Shelf.SlSortCmp.WholeK
import Derived.Shelf.SlSortCmp.NoneTotal
namespace Go.Vv
open Go Go.RowKit Go.Lib Go.Sort Go.Shelf
section
variable {α:Type} {row:α->List AV} {k:Nat}
theorem flat_getElem {d:Type} {enc:α->List d} (b:∀x,(enc x).length=k):∀(L:List α) (t:Nat),t < L.length * k->(L.map enc).flatten[t]?=(L[t / k]?).bind λx=>(enc x)[t % k]?
 | [],t,h=>by simp at h
 | x::r,t,h=>by
  have c:0 < k:=by
   rcases Nat.eq_zero_or_pos k with h0 | h0
   ·subst h0;simp at h
   ·exact h0
  simp only [List.map_cons,List.flatten_cons];by_cases a:t < k
  ·rw [List.getElem?_append_left (by rw [b x];exact a),Nat.div_eq_of_lt a,Nat.mod_eq_of_lt a];rfl
  ·have a:k<=t:=by omega
   rw [List.getElem?_append_right (by rw [b x];exact a),b x];simp only [List.length_cons,Nat.succ_mul] at h;rw [flat_getElem b r (t - k) (by omega)];obtain ⟨s,rfl⟩:∃s,t=s+k:=⟨t - k,by omega⟩
   rw [Nat.add_sub_cancel,Nat.add_div_right s c,Nat.add_mod_right];rfl
theorem flatten_len' {b:Type} {enc:α->List b} (a:∀x,(enc x).length=k):∀L:List α,(L.map enc).flatten.length=L.length * k
 | []=>by simp
 | x::r=>by simp only [List.map_cons,List.flatten_cons,List.length_append,List.length_cons,flatten_len' a r,a x,Nat.succ_mul];omega
theorem flatK_list [Inhabited α] {enc:α->List Value} (b:∀x,(enc x).length=k) (d:Array α):(flatK enc k d).toList=(d.toList.map enc).flatten:=by
 apply List.ext_getElem?;intro t;by_cases ht:t < d.size * k
 ·have a:0 < k:=by
   rcases Nat.eq_zero_or_pos k with h0 | h0
   ·subst h0;simp at ht
   ·exact h0
  have hd:t / k < d.size:=by rw [Nat.div_lt_iff_lt_mul a];exact ht
  rw [flat_getElem b d.toList t (by simpa using ht),Array.getElem?_toList,Array.getElem?_toList,Array.getElem?_eq_getElem (by simpa using ht),Array.getElem?_eq_getElem hd];have c:t % k < (enc d[t / k]).length:=by rw [b];exact Nat.mod_lt _ a
  rw [Option.bind_some,List.getElem?_eq_getElem c];have:=get_flatK enc k d t ht;rw [getElem!_pos (flatK enc k d) t (by simpa using ht),getElem!_pos d (t / k) hd,getElem!_pos (enc d[t / k]) (t % k) c] at this;rw [this]
 ·rw [List.getElem?_eq_none (by simp;omega),List.getElem?_eq_none (by rw [flatten_len' b];simp;omega)]
theorem mapBlock_setRow {w:World} {b:Nat} {cur:Array Value} {ty:TypeId} {fr:Nat×Nat} (f:Array Value->Array Value) (a:w.heap[b]?=some (.cells cur ty fr)):mapBlock w b f=w.setRow b (f cur):=by
 unfold mapBlock World.setRow;congr 1;apply Array.ext_getElem?;intro i;simp only [Array.getElem?_modify];by_cases hi:b=i
 ·subst hi;simp [a,onCells]
 ·simp [hi]
theorem VA.parts {g:Gh} (f:∀x,(row x).length=k):∀(L:List α) (vs:List Value),VA g (L.map row).flatten vs->∃ds:List (α×List Value),ds.map (·.1)=L/\(ds.map (·.2)).flatten=vs/\∀p ∈ ds,VA g (row p.1) p.2
 | [],vs,h=>by simp only [List.map_nil,List.flatten_nil,VA] at h;subst h;exact ⟨[],rfl,rfl,by simp⟩
 | x::r,vs,h=>by
  simp only [List.map_cons,List.flatten_cons] at h;have b:=VA.take (row x).length h;have c:=VA.drop (row x).length h;rw [List.take_left] at b;rw [List.drop_left] at c;obtain ⟨ds,e,i,d⟩:=VA.parts f r _ c;refine ⟨(x,vs.take (row x).length)::ds,by simp [e],by simp [i],λp a=>?_⟩;rcases List.mem_cons.1 a with rfl | a
  ·exact b
  ·exact d p a
theorem VA.join {g:Gh}:∀(ds:List (α×List Value)),(∀p ∈ ds,VA g (row p.1) p.2)->VA g ((ds.map (·.1)).map row).flatten (ds.map (·.2)).flatten
 | [],_=>by simp [VA]
 | p::r,h=>by
  simp only [List.map_cons,List.flatten_cons];exact (h p (by simp)).append (VA.join r λq a=>h q (by simp [a]))
end
section
variable {B:Nat} {w0 w:World} {g:Gh} {h:AH}
theorem Rel.ahead (r:Rel B w0 g h w):∀n,Rel B w0 g h (Go.Sort.ahead w n)
 | 0=>r
 | n+1=>by rw [<- ahead_drew];exact (Rel.ahead r n).drew
theorem below_grow (w:World) (os:Array Obj):Go.RowKit.Below w.heap.size w (grow w os) :=
 ⟨rfl,rfl,rfl,by simp [grow],λk a=>by simp only [grow];rw [Array.getElem?_append_left a]⟩
end
structure SwoOn {α:Type} (L:List α) (cf:α->α->Int):Prop where
 irrefl:∀x,x ∈ L->¬ cf x x < 0
 trans:∀x y z,x ∈ L->y ∈ L->z ∈ L->cf x y < 0->cf y z < 0->cf x z < 0
 ntrans:∀x y z,x ∈ L->y ∈ L->z ∈ L->¬ cf x y < 0->¬ cf y z < 0->¬ cf x z < 0
def CmpOk {α:Type} (P:Program) (gf:Nat) (row:α->List AV) (L:List α) (cf:α->α->Int):Prop :=
 ∀(gz:Gh) (W:World) (x y:α) (vx vy:List Value),W.ShapedOpen P->gz.σ=[]->gz.τ=[]->x ∈ L->y ∈ L->(∀b j v,gz.Φ b j=some v->W.cell? ⟨b,j,none⟩=some v)->VA gz (row x) vx->VA gz (row y) vy ->
  Calls P gf #[.agg vx.toArray,.agg vy.toArray] W λe w'=>e=.returned (.int .i64 (cf x y))/\∃q os',w'=grow (W.drewN q) os'

theorem ShapedOpen.below {P:Program} {B:Nat} {w0 W:World} [a:GOk P B w0] (h:Below B w0 W):W.ShapedOpen P :=
 World.ShapedOpen.keptBut (may:=λ_=>False) a.sh ((h.mono a.sz).frame _) (λ_ h=>h.elim)
theorem grow_of_below {w w':World} (h:Below w.heap.size w w') (hd:w.drawn<=w'.drawn):∃q e,w'=grow (w.drewN q) e:=by
 refine ⟨w'.drawn - w.drawn,w'.heap.extract w.heap.size w'.heap.size,?_⟩;obtain ⟨a,d,c,e,b⟩:=w';have l:e=w.os:=h.os;have m:d=w.tape:=h.tape;have f:b=w.output:=h.output;have hs:w.heap.size<=a.size:=h.size;have j:∀k,k < w.heap.size->a[k]?=w.heap[k]?:=h.block;have hd:w.drawn<=c:=hd;subst l m f;have i:a=w.heap++a.extract w.heap.size a.size:=by
  apply Array.ext_getElem?;intro k;by_cases hk:k < w.heap.size
  ·rw [Array.getElem?_append_left hk];exact j k hk
  ·rw [Array.getElem?_append_right (by omega),Array.getElem?_extract];by_cases hk2:k < a.size
   ·rw [if_pos (by omega)];congr 1;omega
   ·rw [if_neg (by omega),Array.getElem?_eq_none (by omega)]
 simp only [grow,World.drewN];rw [<- i];congr 1;omega
theorem CmpOk.of_spec {α:Type} {P:Program} {p:Nat} {row:α->List AV} {L:List α} {cf:α->α->Int} (M:∀x,(row x).all AV.pure=true)
  (z:∀x y,x ∈ L->y ∈ L->Spec P p [.agg (row x),.agg (row y)] h0 (λr h=>r=.int .i64 (cf x y)/\h=h0)):CmpOk P p row L cf:=by
 intro F W x y q n C d f E u a m l;haveI:GOk P W.heap.size W:=⟨C,Nat.le_refl _⟩
 obtain ⟨Φ,σ,τ,δ⟩:=F;simp only at d f a;subst d f;have r:Rel W.heap.size W ⟨Φ,[],[],[]⟩ h0 W:=⟨Below.refl _ _,Nat.le_refl _,a,rfl,λi c k h _=>by simp at h,rfl,λi t h=>by simp at h,λi j c h _=>by simp at h,λi j t t' b x y h _=>by simp at h,λi c j t b x h _=>by simp at h,
  λc h=>by simp at h,λi k h=>by simp at h,λi j t k H N J h=>by simp [h0] at h⟩
 have s:VA (⟨Φ,[],[],[]⟩:Gh) (row x) q:=VA.monoV (g:=⟨Φ,[],[],δ⟩) (g':=⟨Φ,[],[],[]⟩) ⟨λ_ _ _ h=>h,λ_ _ h=>h,λ_ t h=>⟨t,h,Nat.le_refl _,λ_=>rfl,rfl⟩⟩ _ _ m;have D:VA (⟨Φ,[],[],[]⟩:Gh) (row y) n:=VA.monoV (g:=⟨Φ,[],[],δ⟩) (g':=⟨Φ,[],[],[]⟩) ⟨λ_ _ _ h=>h,λ_ _ h=>h,λ_ t h=>⟨t,h,Nat.le_refl _,λ_=>rfl,rfl⟩⟩ _ _ l;have G:=(z x y E u).2 W.heap.size W ⟨Φ,[],[],[]⟩ W #[.agg q.toArray,.agg n.toArray] r (by
  simp only [VL,V];exact ⟨_,_,rfl,⟨_,rfl,s⟩,_,_,rfl,⟨_,rfl,D⟩,rfl⟩)
 refine (calls_drawn G λe w' ⟨v,_,_,_,h,_⟩=>⟨v,h⟩).mono ?_
 rintro e w' ⟨⟨v,I,K,g',rfl,⟨rfl,rfl⟩,_,A,o⟩,hd⟩
 simp only [V] at o;subst o;exact ⟨rfl,grow_of_below A.below hd⟩
theorem spec_sort {P:Program} {ρ:Ren} (L:Go.Proofs.SlLaysF0.n6 P ρ) {k:Nat} (aE:∀w,(isAgg (ρ.t 24)).run P w=.ok true w) (zE:∀w,(Go.sizeOf (ρ.t 24)).run P w=.ok k w)
  {α:Type} {row:α->List AV} (hk:∀x,(row x).length=k) {Lx:List α} {cf:α->α->Int} {gf:Nat} (eg:∀args w,(callFunc gf args).run P w=.ok (.enter gf args) w) (hO:SwoOn Lx cf) (hc:CmpOk P gf row Lx cf)
  {id q:Nat} {h:AH} (hb:h.blk id=some (.row q k (Lx.map row))) (hlim:Lx.length<=yg) :
  Spec P (ρ.f 6) [.rsl id q k Lx.length,.fn (.func gf) [] []] h (λrr hh=>rr=.tup []/\∃L':List α,L'.Perm Lx/\L'.Pairwise (λa b=>¬ cf b a < 0)/\hh=h.put id (.row q k (L'.map row))):=by
 refine ⟨λvs w=>L.f6.enters rfl vs w,λB w0 _ g w vs r H=>?_⟩;obtain ⟨us,rfl⟩:∃us:List Value,vs=us.toArray:=⟨vs.toList,by simp⟩
 simp only [VL,V] at H;obtain ⟨v1,s1,e1,⟨a,c,rfl,hcap,hm,t2,ht2,_,_,hloc⟩,v2,s2,rfl,⟨fs,cs,rfl,hfs,hcs⟩,rfl⟩:=H;have hfs:fs=#[]:=by cases fs;simp_all
 have hcs:cs=#[]:=by cases cs;simp_all
 subst hfs hcs;subst e1;have hput:h.put id (.row q k (Lx.map row))=h:=by
  cases h with
  | mk BL T =>
   simp only [AH.put,AH.mk.injEq,and_true];refine List.ext_getElem? λj=>?_;by_cases u:j=id
   ·subst u;rw [List.getElem?_set_self (List.getElem?_eq_some_iff.1 hb).1];exact hb.symm
   ·rw [List.getElem?_set_ne (λe=>u e.symm)]
 by_cases hLx:Lx=[]
 ·subst hLx;refine (Go.Proofs.AnyF.slices_SortFunc_none L a c _ w).mono ?_
  rintro e w' ⟨rfl,rfl⟩
  exact ⟨_,_,h,g,rfl,⟨rfl,[],.nil,.nil,hput.symm⟩,Gh.le.refl g,r,by simp only [V];exact ⟨#[],rfl,by simp [VL]⟩⟩
 ·obtain ⟨_,ti,X,htr,htn,hlen,U,hrow⟩:=r.rowAt hb;obtain rfl:ti=t2:=by rw [X] at ht2;injection ht2
  simp only [List.length_map] at htn;obtain ⟨b',o',rfl,hloc2⟩:=hloc.resolve_left (λhh=>hLx (List.eq_nil_of_length_eq_zero hh.1));have n:=hloc2 htn.symm;obtain ⟨b,o,e,cells,ty,k1,k2,k3,k4,k5⟩:=hrow.resolve_left (by simpa using hLx);simp only [List.length_map] at k1 k3 k4;rw [k1] at n;injection n with n;injection n with e1 n;injection n with e2 _;obtain rfl:o=o':=by omega
  subst e1;have hbw:b < w.heap.size:=(Array.getElem?_eq_some_iff.1 k2).1;have k3z:VA (g.cut 0 0) (Lx.map row).flatten ((cells.toList.drop o).take (Lx.length * k)):=VA.cut _ _ (wW U) k3;obtain ⟨ds,d1,d2,d3⟩:=VA.parts hk Lx _ k3z
  let A:Type:={ p:α×List Value // p.1 ∈ Lx/\VA (g.cut 0 0) (row p.1) p.2 }
  have hmem:∀p ∈ ds,p.1 ∈ Lx/\VA (g.cut 0 0) (row p.1) p.2:=λp hp=>⟨by rw [<- d1];exact List.mem_map.2 ⟨p,hp,rfl⟩,d3 p hp⟩
  let Q:List A:=ds.attach.map λp=>⟨p.1,hmem p.1 p.2⟩
  have da1:Q.map (λx:A=>x.1)=ds:=by
   simp only [Q,List.map_map,Function.comp_def];exact List.attach_map_subtype_val ds
  have N:Q.length=Lx.length:=by rw [<- d1];simp [Q]
  haveI:Inhabited A:=⟨Q[0]'(by rw [N];exact List.length_pos_iff.2 hLx)⟩
  let enc:A->List Value:=λx=>x.1.2
  have G:∀x:A,(enc x).length=k:=λx=>by rw [<- x.2.2.length,hk]
  let d:Array A:=Q.toArray
  have D:d.size=Lx.length:=by simp [d,N]
  have Y:(flatK enc k d).toList=(cells.toList.drop o).take (Lx.length * k):=by
   rw [flatK_list G,<- d2,<- da1];simp [d,enc,Function.comp_def]
  have hH:HoldsK enc k w b o d:=λj u=>by
   refine ⟨?_,frozen_of_row w b (o+j) cells ty k2⟩;rw [cell_of_row w b (o+j) cells ty (0,0) k2];have C:(flatK enc k d).toList[j]?=some ((flatK enc k d)[j]!):=by rw [Array.getElem?_toList,Array.getElem?_eq_getElem u,getElem!_pos _ j u]
   rw [Y,List.getElem?_take] at C;split at C
   ·rw [List.getElem?_drop,Array.getElem?_toList] at C;exact C
   ·cases C
  let K:A->A->Int:=λx y=>cf x.1.1 y.1.1
  have hO':SWO (Go.Proofs.ltOf K):=⟨λx=>by simpa [Go.Proofs.ltOf] using hO.irrefl _ x.2.1,λx y z C h2=>by
   simp only [Go.Proofs.ltOf,decide_eq_true_eq] at C h2 ⊢;exact hO.trans _ _ _ x.2.1 y.2.1 z.2.1 C h2,λx y z C h2=>by
   simp only [Go.Proofs.ltOf,decide_eq_false_iff_not] at C h2 ⊢;exact hO.ntrans _ _ _ x.2.1 y.2.1 z.2.1 C h2⟩
  have hcmp:Go.Proofs.CmpLays P gf #[] enc k K b o d.size w:=λm os dk hs x y=>by
   have:=hc (g.cut 0 0) (Go.Proofs.sortWorldK enc k w b o m dk os) x.1.1 y.1.1 _ _ (ShapedOpen.below (B:=B) (w0:=w0) (r.below.trans ?_)) (by simp [Gh.cut]) (by simp [Gh.cut]) x.2.1 y.2.1 (λE j v H=>?_) x.2.2 y.2.2
   ·simpa using this
   ·have hBb:B<=b:=((r.tok _ _ X).2 _ _ _ k1).lo;refine ⟨rfl,rfl,rfl,by simp [Go.Proofs.sortWorldK,grow,Go.Sort.putRowK,Go.Sort.putRow,mapBlock,Go.Sort.ahead],λi hi=>?_⟩;have hne:b ≠ i:=by omega
    have hil:i < w.heap.size:=Nat.lt_of_lt_of_le hi r.bsz;simp only [Go.Proofs.sortWorldK,grow,Go.Sort.putRowK,Go.Sort.putRow,mapBlock,Go.Sort.ahead];rw [Array.getElem?_append_left (by simpa using hil),Array.getElem?_modify,if_neg hne]
   ·have H:g.Φ E j=some v:=H;have I:=r.phi E j v H;have hb2:=r.phi_lt H;by_cases hbb:E=b
    ·subst hbb;have u:j < o:=by
      rcases Nat.lt_or_ge j o with u | u
      ·exact u
      ·rw [k5 j u] at H;cases H
     have hbp:E < (Go.Sort.putRow _root_.id (Go.Sort.ahead w m) E o (flatK enc k dk)).heap.size:=by simpa [Go.Sort.putRow,mapBlock,Go.Sort.ahead] using hb2
     have e1:(Go.Proofs.sortWorldK enc k w E o m dk os).cell? ⟨E,j,none⟩=(Go.Sort.putRow _root_.id (Go.Sort.ahead w m) E o (flatK enc k dk)).cell? ⟨E,j,none⟩:=(below_grow _ os).cell (p:=⟨E,j,none⟩) hbp;rw [e1,cell?_putRow_other _root_.id _ _ _ _ _ (.inr (.inl u))];exact I
    ·rw [Go.Proofs.cell?_sortWorldK_other enc k w b o m dk os ⟨E,j,none⟩ hbb hb2];exact I
  have F:=Go.Proofs.AnyQ.slices_SortFunc L k aE zE enc G (λx v H=>x.2.2.one' v H) K hO' gf #[] b o c d w eg hcmp hH hbw (by rw [D];unfold yg at hlim;omega);rw [D] at F;refine Calls.mono F ?_
  rintro e w' ⟨rfl,s,m,os,J,R,rfl⟩
  have O:s.size=Lx.length:=J.1.trans D
  let new:=putCells _root_.id o (flatK enc k s) cells
  have S:(flatK enc k s).size=Lx.length * k:=by rw [size_flatK,O]
  have hw:Go.Proofs.sortWorldK enc k w b o m s os=grow ((Go.Sort.ahead w m).setRow b new) os:=by
   unfold Go.Proofs.sortWorldK putRowK putRow;rw [mapBlock_setRow (w:=Go.Sort.ahead w m) (b:=b) _ k2]
  have hnsz:new.size=cells.size:=by simp [new,putCells]
  have M:∀j,new[j]?=(cells[j]?).map λx=>if o<=j/\j < o+Lx.length * k then (flatK enc k s)[j - o]! else x:=λj=>by
   simp only [new,putCells,Array.getElem?_mapIdx,S];rfl
  have W:(new.toList.drop o).take (Lx.length * k)=(flatK enc k s).toList:=by
   apply List.ext_getElem?;intro j;rw [List.getElem?_take];split
   ·rename_i u;have hjs:j < (flatK enc k s).size:=by rw [S];exact u
    rw [List.getElem?_drop,Array.getElem?_toList,M,Array.getElem?_eq_getElem (by omega),Option.map_some,if_pos ⟨by omega,by omega⟩,Nat.add_sub_cancel_left,Array.getElem?_toList,Array.getElem?_eq_getElem hjs,getElem!_pos _ j hjs]
   ·rename_i u;rw [List.getElem?_eq_none];simp [S];omega
  have hva:VA g ((s.toList.map (λx:A=>x.1.1)).map row).flatten (flatK enc k s).toList:=by
   rw [flatK_list G];have hlv:(g.cut 0 0).lv g:=⟨λ_ _ _ e=>e,λi c e=>by simp [Gh.cut] at e,λi t e=>by simp [Gh.cut] at e⟩
   have:=VA.join (g:=g) (row:=row) (s.toList.map (λx:A=>x.1)) (λp hp=>by
    obtain ⟨x,_,rfl⟩:=List.mem_map.1 hp;exact VA.monoV hlv _ _ x.2.2)
   simpa [Function.comp_def,enc] using this
  have Z:∀e ∈ (s.toList.map (λx:A=>x.1.1)).map row,e.length=k:=λe he=>by
   obtain ⟨x,_,rfl⟩:=List.mem_map.1 he;exact hk x
  have hpu:(((s.toList.map (λx:A=>x.1.1)).map row).flatten).all AV.pure=true:=by
   rw [List.all_eq_true] at U ⊢;intro a ha;obtain ⟨l,hl,ha⟩:=List.mem_flatten.1 ha;obtain ⟨x,hx,rfl⟩:=List.mem_map.1 hl;obtain ⟨y,_,rfl⟩:=List.mem_map.1 hx;exact U a (List.mem_flatten.2 ⟨_,List.mem_map.2 ⟨_,y.2.1,rfl⟩,ha⟩)
  have r2:=(r.ahead m).storeRow (es':=(s.toList.map (λx:A=>x.1.1)).map row) (new:=new) (o:=o) hb X (by simpa using k1) k2 hnsz (λj u=>by
    have hno:¬ (o<=j/\j < o+Lx.length * k):=by omega
    rw [M];simp only [if_neg hno];cases cells[j]? <;> rfl) (by simp [O]) Z hpu
   (by rw [List.length_map,W];exact hva) (by simpa using hLx)
  have r3:=r2.beyond (below_grow _ os);rw [hw];have hpm:(s.toList.map (λx:A=>x.1.1)).Perm Lx:=by
   have C:=J.2.2;have x1:s.extract 0 Lx.length=s:=by rw [<- O];simp
   have x2:d.extract 0 Lx.length=d:=by rw [<- D];simp
   rw [x1,x2] at C;have:=C.map (λx:A=>x.1.1);have e2:d.toList.map (λx:A=>x.1.1)=Lx:=by
    have e3:d.toList.map (λx:A=>x.1.1)=(Q.map (λx:A=>x.1)).map (·.1):=by simp [d,Function.comp_def]
    exact e3.trans ((congrArg (List.map (·.1)) da1).trans d1)
   rwa [e2] at this
  refine ⟨_,_,_,g,rfl,⟨rfl,_,hpm,?_,rfl⟩,Gh.le.refl g,r3,by simp only [V];exact ⟨#[],rfl,by simp [VL]⟩⟩;rw [List.pairwise_iff_getElem];intro i j hi u hij;simp only [List.length_map,Array.length_toList] at hi u;have:=R i j (Nat.zero_le _) hij (by omega);rw [getElem!_pos s j u,getElem!_pos s i hi] at this;simpa [Go.Proofs.ltOf,K] using this
def SortedOf {α:Type} (cf:α->α->Int) (L L':List α):Prop:=L'.Perm L/\L'.Pairwise λa b=>¬ cf b a < 0
open Classical in
noncomputable def sortF {α:Type} (cf:α->α->Int) (L:List α):Option (List α) :=
 if h:SwoOn L cf/\L.length<=yg/\∃L',SortedOf cf L L'/\∀M,SortedOf cf L M->M=L' then some (Classical.choose h.2.2) else none
theorem sortF_is {α:Type} {cf:α->α->Int} {L R:List α} (h:sortF cf L=some R):SwoOn L cf/\L.length<=yg/\SortedOf cf L R/\∀M,SortedOf cf L M->M=R:=by
 unfold sortF at h;split at h
 ·rename_i a;injection h with h;subst h;exact ⟨a.1,a.2.1,Classical.choose_spec a.2.2⟩
 ·cases h
theorem sorted_one {α:Type} {cf:α->α->Int}:∀{M R:List α},M.Perm R->M.Pairwise (λa b=>¬ cf b a < 0)->R.Pairwise (λa b=>¬ cf b a < 0)->(∀x y,x ∈ M->y ∈ M->¬ cf x y < 0->¬ cf y x < 0->x=y)->M=R
 | [],R,hp,_,_,_=>by have:=hp.symm.eq_nil;rw [this]
 | x::M,[],hp,_,_,_=>by have:=hp.eq_nil;cases this
 | x::M,y::R,hp,hm,hr,hs=>by
  have d:x=y:=by
   have f:x ∈ y::R:=hp.subset (by simp);have c:y ∈ x::M:=hp.symm.subset (by simp);rcases List.mem_cons.1 f with e | f
   ·exact e
   ·rcases List.mem_cons.1 c with e | c
    ·exact e.symm
    ·have i:=(List.pairwise_cons.1 hm).1 y c;have m:=(List.pairwise_cons.1 hr).1 x f;exact hs x y (by simp) (by simp [c]) m i
  subst d;rw [sorted_one ((List.perm_cons x).1 hp) (List.pairwise_cons.1 hm).2 (List.pairwise_cons.1 hr).2 λa b l j=>hs a b (by simp [l]) (by simp [j])]
theorem spec_sortF {P:Program} {ρ:Ren} (L:Go.Proofs.SlLaysF0.n6 P ρ) {k:Nat} (j:∀w,(isAgg (ρ.t 24)).run P w=.ok true w) (d:∀w,(Go.sizeOf (ρ.t 24)).run P w=.ok k w)
  {α:Type} {row:α->List AV} (v:∀x,(row x).length=k) {Lx R:List α} {cf:α->α->Int} {a:Nat} (o:∀args w,(callFunc a args).run P w=.ok (.enter a args) w) (u:CmpOk P a row Lx cf) (e:sortF cf Lx=some R)
  {q:Nat} {h:AH} {B B':List Blk} {T:List Nat} {i:Nat} (c:B[i]?=some (.row q k (Lx.map row))) (l:B.set i (.row q k (R.map row))=B') :
  Spec P (ρ.f 6) [.rsl (h.blks.length+i) q k Lx.length,.fn (.func a) [] []] (h.ext B T) (λb hh=>b=.tup []/\hh=h.ext B' T):=by
 obtain ⟨r,n,_,p⟩:=sortF_is e;refine (spec_sort L j d v o r u (id:=h.blks.length+i) (by rw [zQ];exact c) n).mono ?_
 rintro b hh ⟨rfl,L',s,m,rfl⟩
 obtain rfl:=p L' ⟨s,m⟩;exact ⟨rfl,by rw [vz,l]⟩
open Classical in
noncomputable def sortO {α:Type} (c:α->α->Option Int) (L:List α):Option (List α):=if ∀x ∈ L,∀y ∈ L,(c x y).isSome=true then sortF (λx y=>(c x y).getD 0) L else none
theorem sortO_is {α:Type} {c:α->α->Option Int} {L R:List α} (h:sortO c L=some R):(∀x ∈ L,∀y ∈ L,(c x y).isSome=true)/\sortF (λx y=>(c x y).getD 0) L=some R:=by
 unfold sortO at h;split at h
 ·rename_i h0;exact ⟨h0,h⟩
 ·cases h
theorem spec_sortO {P:Program} {ρ:Ren} (L:Go.Proofs.SlLaysF0.n6 P ρ) {k:Nat} (n:∀w,(isAgg (ρ.t 24)).run P w=.ok true w) (l:∀w,(Go.sizeOf (ρ.t 24)).run P w=.ok k w)
  {α:Type} {row:α->List AV} (D:∀x,(row x).length=k) (e:∀x,(row x).all AV.pure=true) {Lx R:List α} {c:α->α->Option Int} {a:Nat} (z:∀args w,(callFunc a args).run P w=.ok (.enter a args) w)
  (s:∀x y v,c x y=some v->Spec P a [.agg (row x),.agg (row y)] h0 (λr h=>r=.int .i64 v/\h=h0)) (m:sortO c Lx=some R)
  {q:Nat} {h:AH} {B B':List Blk} {T:List Nat} {i:Nat} (d:B[i]?=some (.row q k (Lx.map row))) (o:B.set i (.row q k (R.map row))=B') :
  Spec P (ρ.f 6) [.rsl (h.blks.length+i) q k Lx.length,.fn (.func a) [] []] (h.ext B T) (λj hh=>j=.tup []/\hh=h.ext B' T):=by
 obtain ⟨C,u⟩:=sortO_is m;refine spec_sortF L n l D z (CmpOk.of_spec e λx y A p=>?_) u d o;obtain ⟨v,b⟩:=Option.isSome_iff_exists.1 (C x A y p);have:=s x y v b;rw [b];exact this
end Go.Vv
