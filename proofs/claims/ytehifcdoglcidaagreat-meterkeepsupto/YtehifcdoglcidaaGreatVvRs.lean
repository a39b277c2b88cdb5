/- A mutable row is cleared from a place on. -/
import Derived.Test.YtehifcdoglcidaaGreatVvRw
import Derived.Test.YtehifcdoglcidaaGreatVvK
namespace Go.Vv
open Go Go.RowKit Go.Lib
section
variable {P:Program} {w:World} {g:Gh} {h:AH} {B:Nat} {w0:World}
theorem row_write (r:Rel B w0 g h w) {id q k p:Nat} {es:List (List AV)} (H:h.blk id=some (.row q k es)) (u:es ≠ []) {t:TI} {b D:Nat} (G:g.τ[q]?=some t) (m:rowPt t b D es.length k p) {us:List Value} {vs:List AV}
  (d:VA g vs us) (z:vs.all AV.pure=true) (I:p+us.length<=es.flatten.length) :
  ∃w',(storeCells ⟨b,D,none⟩ us).run P w=.ok () w'/\Rel B w0 g (h.put id (.row q k (rows k es.length (yy es.flatten p vs)))) w':=by
 obtain ⟨K,M,m⟩:=m;obtain ⟨_,J,s,L,A,y,n,v⟩:=r.rowAt H;obtain rfl:J=t:=by rw [s] at G;injection G
 obtain ⟨c,V,rfl,a⟩:=m A.symm;have C:es.flatten.length=es.length * k:=yC y;have R:vs.length=us.length:=d.length;obtain ⟨Z,Q,e2,cs,ty2,l,F,T,Y,X⟩:=v.resolve_left u;rw [a] at l;injection l with l;injection l with N l;injection l with l _;obtain rfl:c=Q:=by omega
 subst N;have i:=run_storeCells_at P b (c+p) ty2 us 0 cs w F (by omega) d.one';simp only [Nat.add_zero] at i;generalize hnew:(cs.toList.take (c+p)++us++cs.toList.drop (c+p+us.length)).toArray=new at i;have x:(yy es.flatten p vs).length=es.length * k:=by unfold yy;rw [List.length_append,List.length_append,List.length_take,List.length_drop,C];omega
 obtain ⟨E,O,S⟩:=rows_flat (k:=k) es.length (yy es.flatten p vs) x;have U:cs.toList.length=cs.size:=by simp
 refine ⟨w.setRow b new,i,r.storeRow (e:=V) (cur:=cs) (ty:=ty2) (o:=c) H s a F (by rw [<- hnew];simp;omega) (λj W=>?_) O S ?_ ?_ u⟩
 ·rw [<- hnew,List.getElem?_toArray,List.append_assoc,List.getElem?_append_left (by simp;omega),List.getElem?_take,if_pos (by omega),Array.getElem?_toList]
 ·rw [E];unfold yy;simp only [List.all_append,Bool.and_eq_true];exact ⟨⟨all_take _ n,z⟩,all_drop _ n⟩
 ·rw [E];have f:(new.toList.drop c).take (es.length * k)=((cs.toList.drop c).take (es.length * k)).take p++us++((cs.toList.drop c).take (es.length * k)).drop (p+us.length):=by
   rw [<- hnew];apply List.ext_getElem?;intro j;by_cases h1:j < p
   ·rw [List.getElem?_take,if_pos (by omega),List.getElem?_drop,List.append_assoc,List.getElem?_append_left (by simp;omega),List.getElem?_take,if_pos (by omega)];rw [List.append_assoc,List.getElem?_append_left (by simp;omega),List.getElem?_take,if_pos h1,List.getElem?_take,if_pos (by omega),List.getElem?_drop]
   ·by_cases h2:j < p+us.length
    ·rw [List.getElem?_take,if_pos (by omega),List.getElem?_drop,List.append_assoc,List.getElem?_append_right (by simp;omega),List.getElem?_append_left (by simp;omega)];rw [List.append_assoc,List.getElem?_append_right (by simp;omega),List.getElem?_append_left (by simp;omega)];congr 1;simp;omega
    ·by_cases h3:j < es.length * k
     ·rw [List.getElem?_take,if_pos h3,List.getElem?_drop,List.getElem?_append_right (by simp;omega),List.getElem?_drop];rw [List.getElem?_append_right (by simp;omega),List.getElem?_drop,List.getElem?_take,if_pos (by simp;omega),List.getElem?_drop];congr 1;simp;omega
     ·rw [List.getElem?_take,if_neg h3,List.getElem?_eq_none];simp;omega
  rw [f];exact splice_VA (off:=p) T d
def zsuf (z:List AV) (n i:Nat):List AV:=(List.replicate (n - i) z).flatten
def AH.clr (h:AH) (id tk k i:Nat) (es:List (List AV)) (z:List AV):AH:=h.put id (.row tk k (rows k es.length (yy es.flatten (i * k) (zsuf z es.length i))))
theorem put_same {h:AH} {id:Nat} {b:Blk} (a:h.blk id=some b):h.put id b=h:=by
 cases h with
 | mk B T =>
  simp only [AH.put,AH.mk.injEq,and_true];refine List.ext_getElem? λj=>?_;by_cases hj:j=id
  ·subst hj;rw [List.getElem?_set_self (List.getElem?_eq_some_iff.1 a).1];exact a.symm
  ·rw [List.getElem?_set_ne (λe=>hj e.symm)]
theorem clear_sound (r:Rel B w0 g h w) {t e ty:TypeId} {id y k n i:Nat} {es:List (List AV)} {z p:List AV} {x:Value} (F:P.underlying t=some (.slice e)) (hz:xk P e=some z) (X:xD z=some p) (S:z.length=k) (hkp:0 < k) (C:h.blk id=some (.row y k es)) (hn:es.length=n)
  (T:V g (.rsuf id y k n i) x):∃w',(Builtin.clear_ #[t] ty #[x]).run P w=.ok (.tuple #[]) w'/\Rel B w0 g (h.clr id y k i es p) w':=by
 subst hn;simp only [V] at T;obtain ⟨a,c,rfl,hin,t2,J,h3⟩:=T;obtain ⟨_,ti,hti,htr,htn,f,Z,W⟩:=r.rowAt C;have s:es.flatten.length=es.length * k:=yC f;rcases h3 with h0 | ⟨b,q,rfl,R⟩
 ·have hi:i=es.length:=by omega
  subst hi;have H:h.clr id y k es.length es p=h:=by
   unfold AH.clr zsuf;have:yy es.flatten (es.length * k) (List.replicate (es.length - es.length) p).flatten=es.flatten:=by
    simp [yy,<- s]
   rw [this];have O:rows k es.length es.flatten=es:=by
    have:∀(l:List (List AV)),(∀e ∈ l,e.length=k)->rows k l.length l.flatten=l:=by
     intro l
     induction l with
     | nil=>intro _;rfl
     | cons x r ih =>
      intro j;simp only [List.length_cons,rows,List.flatten_cons];rw [List.take_left' (j x List.mem_cons_self),List.drop_left' (j x List.mem_cons_self),ih λe Q=>j e (List.mem_cons_of_mem _ Q)]
    exact this es f
   rw [O];exact put_same C
  rw [H];refine ⟨w,?_,r⟩;rw [h0];cases a <;> simp [Builtin.clear_,run_underlying F]
 ·by_cases h0:es.length - i=0
  ·-- as above
   have hi:i=es.length:=by omega
   subst hi;have H:h.clr id y k es.length es p=h:=by
    unfold AH.clr zsuf;have:yy es.flatten (es.length * k) (List.replicate (es.length - es.length) p).flatten=es.flatten:=by
     simp [yy,<- s]
    rw [this];have O:rows k es.length es.flatten=es:=by
     have:∀(l:List (List AV)),(∀e ∈ l,e.length=k)->rows k l.length l.flatten=l:=by
      intro l
      induction l with
      | nil=>intro _;rfl
      | cons x r ih =>
       intro j;simp only [List.length_cons,rows,List.flatten_cons];rw [List.take_left' (j x List.mem_cons_self),List.drop_left' (j x List.mem_cons_self),ih λe Q=>j e (List.mem_cons_of_mem _ Q)]
     exact this es f
    rw [O];exact put_same C
   rw [H];refine ⟨w,?_,r⟩;rw [h0];simp [Builtin.clear_,run_underlying F]
  ·have G:es ≠ []:=by rintro rfl;simp at h0
   obtain ⟨iz,o,K,M,u⟩:=qS (g:=g) hz;have v:VA g p o.cells.toList:=clean_sound u X;have N:o.cells.size=k:=by rw [<- S,u.length];rfl
   have A:∀w,(zeroValue e).run P w=.ok o w:=λw=>by simp [zeroValue,typeInfo,K,M]
   have d:(Builtin.zeroCells o.cells (es.length - i)).toList=(List.replicate (es.length - i) o.cells.toList).flatten:=by
    unfold Builtin.zeroCells;rw [Array.toList_map,Array.toList_range];exact range_rep o.cells (es.length - i)
   have E:VA g (zsuf p es.length i) (Builtin.zeroCells o.cells (es.length - i)).toList:=by
    rw [d];exact VA.flatten v _
   have L:(Builtin.zeroCells o.cells (es.length - i)).toList.length=(es.length - i) * k:=by
    rw [d];simp [N]
   have Y:i * k+(es.length - i) * k=es.length * k:=by rw [<- Nat.add_mul];congr 1;omega
   obtain ⟨w',U,h2⟩:=row_write (P:=P) r C G J R E (by
    unfold zsuf;rw [List.all_eq_true];intro a D;obtain ⟨l,j,D⟩:=List.mem_flatten.1 D;rw [List.eq_of_mem_replicate j] at D;have:=clean_pure X;rw [List.all_eq_true] at this;exact this a D) (by rw [L,s];omega)
   refine ⟨w',?_,h2⟩;have I:∃m,es.length - i=m+1:=⟨es.length - i - 1,by omega⟩
   obtain ⟨m,hm⟩:=I;rw [hm] at U ⊢;simp only [Builtin.clear_];simp [run_underlying F,A,U]
end
end Go.Vv
