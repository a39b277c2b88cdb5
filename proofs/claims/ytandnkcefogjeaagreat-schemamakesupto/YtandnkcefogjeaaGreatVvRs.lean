/- A mutable row is cleared from a place on. -/
import Derived.Test.YtandnkcefogjeaaGreatVvRw
import Derived.Test.YtandnkcefogjeaaGreatVvK
namespace Go.Vv
open Go Go.RowKit Go.Lib
section
variable {P:Program} {w:World} {g:Gh} {h:AH} {B:Nat} {w0:World}
theorem row_write (r:Rel B w0 g h w) {id q k p:Nat} {es:List (List AV)} (F:h.blk id=some (.row q k es)) (v:es ≠ []) {t:TI} {b I:Nat} (G:g.τ[q]?=some t) (m:rowPt t b I es.length k p) {us:List Value} {vs:List AV}
  (i:VA g vs us) (C:vs.all AV.pure=true) (D:p+us.length<=es.flatten.length) :
  ∃w',(storeCells ⟨b,I,none⟩ us).run P w=.ok () w'/\Rel B w0 g (h.put id (.row q k (rows k es.length (yG es.flatten p vs)))) w':=by
 obtain ⟨U,K,m⟩:=m;obtain ⟨_,Q,s,V,A,n,u,y⟩:=r.rowAt F;obtain rfl:Q=t:=by rw [s] at G;injection G
 obtain ⟨c,S,rfl,a⟩:=m A.symm;have z:es.flatten.length=es.length * k:=yJ n;have N:vs.length=us.length:=i.length;obtain ⟨W,L,e2,cs,ty2,f,H,T,Y,X⟩:=y.resolve_left v;rw [a] at f;injection f with f;injection f with O f;injection f with f _;obtain rfl:c=L:=by omega
 subst O;have d:=run_storeCells_at P b (c+p) ty2 us 0 cs w H (by omega) i.one';simp only [Nat.add_zero] at d;generalize hnew:(cs.toList.take (c+p)++us++cs.toList.drop (c+p+us.length)).toArray=new at d;have x:(yG es.flatten p vs).length=es.length * k:=by unfold yG;rw [List.length_append,List.length_append,List.length_take,List.length_drop,z];omega
 obtain ⟨E,R,J⟩:=rows_flat (k:=k) es.length (yG es.flatten p vs) x;have M:cs.toList.length=cs.size:=by simp
 refine ⟨w.setRow b new,d,r.storeRow (e:=S) (cur:=cs) (ty:=ty2) (o:=c) F s a H (by rw [<- hnew];simp;omega) (λj Z=>?_) R J ?_ ?_ v⟩
 ·rw [<- hnew,List.getElem?_toArray,List.append_assoc,List.getElem?_append_left (by simp;omega),List.getElem?_take,if_pos (by omega),Array.getElem?_toList]
 ·rw [E];unfold yG;simp only [List.all_append,Bool.and_eq_true];exact ⟨⟨all_take _ u,C⟩,all_drop _ u⟩
 ·rw [E];have l:(new.toList.drop c).take (es.length * k)=((cs.toList.drop c).take (es.length * k)).take p++us++((cs.toList.drop c).take (es.length * k)).drop (p+us.length):=by
   rw [<- hnew];apply List.ext_getElem?;intro j;by_cases h1:j < p
   ·rw [List.getElem?_take,if_pos (by omega),List.getElem?_drop,List.append_assoc,List.getElem?_append_left (by simp;omega),List.getElem?_take,if_pos (by omega)];rw [List.append_assoc,List.getElem?_append_left (by simp;omega),List.getElem?_take,if_pos h1,List.getElem?_take,if_pos (by omega),List.getElem?_drop]
   ·by_cases h2:j < p+us.length
    ·rw [List.getElem?_take,if_pos (by omega),List.getElem?_drop,List.append_assoc,List.getElem?_append_right (by simp;omega),List.getElem?_append_left (by simp;omega)];rw [List.append_assoc,List.getElem?_append_right (by simp;omega),List.getElem?_append_left (by simp;omega)];congr 1;simp;omega
    ·by_cases h3:j < es.length * k
     ·rw [List.getElem?_take,if_pos h3,List.getElem?_drop,List.getElem?_append_right (by simp;omega),List.getElem?_drop];rw [List.getElem?_append_right (by simp;omega),List.getElem?_drop,List.getElem?_take,if_pos (by simp;omega),List.getElem?_drop];congr 1;simp;omega
     ·rw [List.getElem?_take,if_neg h3,List.getElem?_eq_none];simp;omega
  rw [l];exact splice_VA (off:=p) T i
def zsuf (z:List AV) (n i:Nat):List AV:=(List.replicate (n - i) z).flatten
def AH.clr (h:AH) (id tk k i:Nat) (es:List (List AV)) (z:List AV):AH:=h.put id (.row tk k (rows k es.length (yG es.flatten (i * k) (zsuf z es.length i))))
theorem put_same {h:AH} {id:Nat} {b:Blk} (a:h.blk id=some b):h.put id b=h:=by
 cases h with
 | mk B T =>
  simp only [AH.put,AH.mk.injEq,and_true];refine List.ext_getElem? λj=>?_;by_cases hj:j=id
  ·subst hj;rw [List.getElem?_set_self (List.getElem?_eq_some_iff.1 a).1];exact a.symm
  ·rw [List.getElem?_set_ne (λe=>hj e.symm)]
theorem clear_sound (r:Rel B w0 g h w) {t e ty:TypeId} {id u k n i:Nat} {es:List (List AV)} {z p:List AV} {x:Value} (M:P.underlying t=some (.slice e)) (hz:xq P e=some z) (Y:xI z=some p) (G:z.length=k) (hkp:0 < k) (C:h.blk id=some (.row u k es)) (hn:es.length=n)
  (U:V g (.rsuf id u k n i) x):∃w',(Builtin.clear_ #[t] ty #[x]).run P w=.ok (.tuple #[]) w'/\Rel B w0 g (h.clr id u k i es p) w':=by
 subst hn;simp only [V] at U;obtain ⟨a,c,rfl,hin,t2,E,h3⟩:=U;obtain ⟨_,ti,Z,htr,htn,f,hpe,X⟩:=r.rowAt C;have s:es.flatten.length=es.length * k:=yJ f;rcases h3 with h0 | ⟨b,q,rfl,Q⟩
 ·have hi:i=es.length:=by omega
  subst hi;have J:h.clr id u k es.length es p=h:=by
   unfold AH.clr zsuf;have:yG es.flatten (es.length * k) (List.replicate (es.length - es.length) p).flatten=es.flatten:=by
    simp [yG,<- s]
   rw [this];have O:rows k es.length es.flatten=es:=by
    have:∀(l:List (List AV)),(∀e ∈ l,e.length=k)->rows k l.length l.flatten=l:=by
     intro l
     induction l with
     | nil=>intro _;rfl
     | cons x r ih =>
      intro j;simp only [List.length_cons,rows,List.flatten_cons];rw [List.take_left' (j x List.mem_cons_self),List.drop_left' (j x List.mem_cons_self),ih λe K=>j e (List.mem_cons_of_mem _ K)]
    exact this es f
   rw [O];exact put_same C
  rw [J];refine ⟨w,?_,r⟩;rw [h0];cases a <;> simp [Builtin.clear_,run_underlying M]
 ·by_cases h0:es.length - i=0
  ·-- as above
   have hi:i=es.length:=by omega
   subst hi;have J:h.clr id u k es.length es p=h:=by
    unfold AH.clr zsuf;have:yG es.flatten (es.length * k) (List.replicate (es.length - es.length) p).flatten=es.flatten:=by
     simp [yG,<- s]
    rw [this];have O:rows k es.length es.flatten=es:=by
     have:∀(l:List (List AV)),(∀e ∈ l,e.length=k)->rows k l.length l.flatten=l:=by
      intro l
      induction l with
      | nil=>intro _;rfl
      | cons x r ih =>
       intro j;simp only [List.length_cons,rows,List.flatten_cons];rw [List.take_left' (j x List.mem_cons_self),List.drop_left' (j x List.mem_cons_self),ih λe K=>j e (List.mem_cons_of_mem _ K)]
     exact this es f
    rw [O];exact put_same C
   rw [J];refine ⟨w,?_,r⟩;rw [h0];simp [Builtin.clear_,run_underlying M]
  ·have N:es ≠ []:=by rintro rfl;simp at h0
   obtain ⟨iz,o,L,S,y⟩:=zeroC_sound (g:=g) hz;have A:VA g p o.cells.toList:=clean_sound y Y;have I:o.cells.size=k:=by rw [<- G,y.length];rfl
   have v:∀w,(zeroValue e).run P w=.ok o w:=λw=>by simp [zeroValue,typeInfo,L,S]
   have d:(Builtin.zeroCells o.cells (es.length - i)).toList=(List.replicate (es.length - i) o.cells.toList).flatten:=by
    unfold Builtin.zeroCells;rw [Array.toList_map,Array.toList_range];exact range_rep o.cells (es.length - i)
   have H:VA g (zsuf p es.length i) (Builtin.zeroCells o.cells (es.length - i)).toList:=by
    rw [d];exact VA.flatten A _
   have F:(Builtin.zeroCells o.cells (es.length - i)).toList.length=(es.length - i) * k:=by
    rw [d];simp [I]
   have T:i * k+(es.length - i) * k=es.length * k:=by rw [<- Nat.add_mul];congr 1;omega
   obtain ⟨w',W,h2⟩:=row_write (P:=P) r C N E Q H (by
    unfold zsuf;rw [List.all_eq_true];intro a D;obtain ⟨l,j,D⟩:=List.mem_flatten.1 D;rw [List.eq_of_mem_replicate j] at D;have:=clean_pure Y;rw [List.all_eq_true] at this;exact this a D) (by rw [F,s];omega)
   refine ⟨w',?_,h2⟩;have R:∃m,es.length - i=m+1:=⟨es.length - i - 1,by omega⟩
   obtain ⟨m,hm⟩:=R;rw [hm] at W ⊢;simp only [Builtin.clear_];simp [run_underlying M,v,W]
end
end Go.Vv
