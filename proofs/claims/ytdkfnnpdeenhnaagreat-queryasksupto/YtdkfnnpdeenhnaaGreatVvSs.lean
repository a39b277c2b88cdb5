/- Texts are sorted: slices.Sort, by the shelf's contract. -/
import Derived.Test.YtdkfnnpdeenhnaaGreatVvSo
import Derived.Shelf.SortG.Plain
import Derived.Shelf.SortG.SortNone
namespace Go.Vv
open Go Go.RowKit Go.Lib Go.Sort Go.Shelf Go.Proofs

def sortS (L:List ze):Option (List ze):=if L.length<=yg then some (L.mergeSort λx y=>decide (x<=y)) else none
theorem sortS_perm {L R:List ze} (h:sortS L=some R):R.Perm L:=by
 unfold sortS at h;split at h
 ·injection h with h;subst h;exact List.mergeSort_perm _ _
 ·cases h
theorem sortS_len {L R:List ze} (h:sortS L=some R):R.length=L.length:=(sortS_perm h).length_eq
theorem VA.strs {g:Gh}:∀(L:List ze) (vs:List Value),VA g (L.map zd).flatten vs->vs=L.map encStr/\∀s ∈ L,s.length<=maxLen
 | [],vs,h=>by simp only [List.map_nil,List.flatten_nil,VA] at h;subst h;simp
 | s::r,vs,h=>by
  simp only [List.map_cons,List.flatten_cons,List.singleton_append,VA,V] at h;obtain ⟨v,t,rfl,⟨_,rfl,b⟩,c⟩:=h;obtain ⟨e,d⟩:=VA.strs r t c;refine ⟨by rw [e];rfl,λx a=>?_⟩;rcases List.mem_cons.1 a with rfl | a
  ·exact b
  ·exact d x a
theorem VA.ofStrs {g:Gh}:∀(L:List ze),(∀s ∈ L,s.length<=maxLen)->VA g (L.map zd).flatten (L.map encStr)
 | [],_=>by simp [VA]
 | s::r,h=>by
  simp only [List.map_cons,List.flatten_cons,List.singleton_append,VA,V];exact ⟨_,_,rfl,⟨rfl,rfl,h s (by simp)⟩,VA.ofStrs r λx a=>h x (by simp [a])⟩
theorem strs_pure (L:List ze):(L.map zd).flatten.all AV.pure=true:=by
 rw [List.all_eq_true];intro a b;obtain ⟨l,c,b⟩:=List.mem_flatten.1 b;obtain ⟨x,_,rfl⟩:=List.mem_map.1 c;rw [List.mem_singleton.1 b];rfl
theorem spec_sortS {P:Program} {ρ:Ren} (L:Go.Proofs.SlLaysN.n54 P ρ) {Lx R:List ze} (v:sortS Lx=some R)
  {q:Nat} {h:AH} {B0 B':List Blk} {T:List Nat} {i:Nat} (z:B0[i]?=some (.row q 1 (Lx.map zd))) (Y:B0.set i (.row q 1 (R.map zd))=B') :
  Spec P (ρ.f 54) [.rsl (h.blks.length+i) q 1 Lx.length] (h.ext B0 T) (λrr hh=>rr=.tup []/\hh=h.ext B' T):=by
 have hb:(h.ext B0 T).blk (h.blks.length+i)=some (.row q 1 (Lx.map zd)):=by rw [zQ];exact z
 have p:Lx.length<=yg/\R=Lx.mergeSort λx y=>decide (x<=y):=by
  unfold sortS at v;split at v
  ·rename_i hl;injection v with v;exact ⟨hl,v.symm⟩
  ·cases v
 have D:=sortS_perm v;have n:=sortS_len v;refine ⟨λvs w=>L.f54.enters rfl vs w,λB w0 _ g w vs r hv=>?_⟩;obtain ⟨us,rfl⟩:∃us:List Value,vs=us.toArray:=⟨vs.toList,by simp⟩
 simp only [VL,V] at hv;obtain ⟨v1,s1,W,⟨a,c,rfl,X,hm,t2,J,_,_,I⟩,rfl⟩:=hv;subst W;by_cases hLx:Lx=[]
 ·subst hLx;have hR:R=[]:=List.eq_nil_of_length_eq_zero (by simpa using n);subst hR;refine (Go.Proofs.AnyG.slices_Sort_string_none L a c w).mono ?_
  rintro e w' ⟨rfl,rfl⟩
  have Q:B0=B':=by
   rw [<- Y];refine List.ext_getElem? λj=>?_;by_cases u:j=i
   ·subst u;rw [List.getElem?_set_self (List.getElem?_eq_some_iff.1 z).1];exact z
   ·rw [List.getElem?_set_ne (λe=>u e.symm)]
  exact ⟨_,_,_,g,rfl,⟨rfl,by rw [Q]⟩,Gh.le.refl g,r,by simp only [V];exact ⟨#[],rfl,by simp [VL]⟩⟩
 ·obtain ⟨_,ti,M,htr,N,Z,hpe,K⟩:=r.rowAt hb;obtain rfl:ti=t2:=by rw [M] at J;injection J
  simp only [List.length_map] at N;obtain ⟨b',o',rfl,C⟩:=I.resolve_left (λhh=>hLx (List.eq_nil_of_length_eq_zero hh.1));have d:=C N.symm;obtain ⟨b,o,e,cells,ty,O,G,k3,k4,k5⟩:=K.resolve_left (by simpa using hLx);simp only [List.length_map] at O k3 k4;rw [O] at d;injection d with d;injection d with W d;injection d with e2 _;obtain rfl:o=o':=by omega
  subst W;have S:b < w.heap.size:=(Array.getElem?_eq_some_iff.1 G).1;obtain ⟨k6,k7⟩:=VA.strs Lx _ k3;have hH:Holds encStr w b o Lx.toArray:=λj u=>by
   have H:j < Lx.length:=by simpa using u
   refine ⟨?_,frozen_of_row w b (o+j) cells ty G⟩;rw [cell_of_row w b (o+j) cells ty (0,0) G];have h1:=congrArg (λl=>l[j]?) k6;simp only [List.getElem?_take,List.getElem?_drop,Array.getElem?_toList,List.getElem?_map,List.getElem?_eq_getElem H,Option.map_some,Nat.mul_one,H,if_true] at h1;rw [h1,getElem!_pos _ j u];simp
  have k:=Go.Proofs.AnyG.slices_Sort_string L b o c Lx w hH S (by have:=p.1;unfold yg at this;omega);rw [<- p.2] at k;refine Calls.mono k ?_
  rintro e w' ⟨rfl,m,os,rfl⟩
  let new:=putCells encStr o R.toArray cells
  have hw:grow (putRow encStr (Go.Sort.ahead w m) b o R.toArray) os=grow ((Go.Sort.ahead w m).setRow b new) os:=by
   unfold putRow;rw [mapBlock_setRow (w:=Go.Sort.ahead w m) (b:=b) _ G]
  have E:new.size=cells.size:=by simp [new,putCells]
  have t:∀j,new[j]?=(cells[j]?).map λx=>if o<=j/\j < o+Lx.length then encStr (R.toArray[j - o]!) else x:=λj=>by
   simp only [new,putCells,Array.getElem?_mapIdx,List.size_toArray,n]
  have A:(new.toList.drop o).take (Lx.length * 1)=R.map encStr:=by
   apply List.ext_getElem?;intro j;rw [List.getElem?_take];split
   ·rename_i u;have F:j < R.length:=by omega
    rw [List.getElem?_drop,Array.getElem?_toList,t,Array.getElem?_eq_getElem (by omega),Option.map_some,if_pos ⟨by omega,by omega⟩,Nat.add_sub_cancel_left,List.getElem?_map,List.getElem?_eq_getElem F,getElem!_pos _ j (by simpa using F)];simp
   ·rename_i u;rw [List.getElem?_eq_none];simp [n];omega
  have r2:=(r.ahead m).storeRow (es':=R.map zd) (new:=new) (o:=o) hb M (by simpa using O) G E (λj u=>by
    have U:¬ (o<=j/\j < o+Lx.length):=by omega
    rw [t];simp only [if_neg U];cases cells[j]? <;> rfl) (by simp [n]) (λe he=>by obtain ⟨x,_,rfl⟩:=List.mem_map.1 he;rfl) (strs_pure R)
   (by rw [List.length_map,A];exact VA.ofStrs R λs hs=>k7 s (D.subset hs)) (by simpa using hLx)
  have r3:=r2.beyond (below_grow _ os);rw [hw];refine ⟨_,_,_,g,rfl,⟨rfl,?_⟩,Gh.le.refl g,r3,by simp only [V];exact ⟨#[],rfl,by simp [VL]⟩⟩;rw [vz,Y]
end Go.Vv
