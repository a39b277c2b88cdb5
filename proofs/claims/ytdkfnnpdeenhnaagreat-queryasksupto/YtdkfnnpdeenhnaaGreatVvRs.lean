/- A mutable row is cleared from a place on. -/
import Derived.Test.YtdkfnnpdeenhnaaGreatVvRw
import Derived.Test.YtdkfnnpdeenhnaaGreatVvK
namespace Go.Vv
open Go Go.RowKit Go.Lib
section
variable {P:Program} {w:World} {g:Gh} {h:AH} {B:Nat} {w0:World}
theorem row_write (r:Rel B w0 g h w) {id q k p:Nat} {es:List (List AV)} (D:h.blk id=some (.row q k es)) (s:es ≠ []) {t:TI} {b E:Nat} (I:g.τ[q]?=some t) (m:rowPt t b E es.length k p) {us:List Value} {vs:List AV}
  (l:VA g vs us) (A:vs.all AV.pure=true) (G:p+us.length<=es.flatten.length) :
  ∃w',(storeCells ⟨b,E,none⟩ us).run P w=.ok () w'/\Rel B w0 g (h.put id (.row q k (rows k es.length (ye es.flatten p vs)))) w':=by
 obtain ⟨K,N,m⟩:=m;obtain ⟨_,M,v,V,C,x,y,n⟩:=r.rowAt D;obtain rfl:M=t:=by rw [v] at I;injection I
 obtain ⟨c,J,rfl,a⟩:=m C.symm;have z:es.flatten.length=es.length * k:=yc x;have S:vs.length=us.length:=l.length;obtain ⟨W,L,Z,cs,ty2,d,H,O,k4,Y⟩:=n.resolve_left s;rw [a] at d;injection d with d;injection d with U d;injection d with d _;obtain rfl:c=L:=by omega
 subst U;have i:=run_storeCells_at P b (c+p) ty2 us 0 cs w H (by omega) l.one';simp only [Nat.add_zero] at i;generalize hnew:(cs.toList.take (c+p)++us++cs.toList.drop (c+p+us.length)).toArray=new at i;have u:(ye es.flatten p vs).length=es.length * k:=by unfold ye;rw [List.length_append,List.length_append,List.length_take,List.length_drop,z];omega
 obtain ⟨F,Q,R⟩:=rows_flat (k:=k) es.length (ye es.flatten p vs) u;have T:cs.toList.length=cs.size:=by simp
 refine ⟨w.setRow b new,i,r.storeRow (e:=J) (cur:=cs) (ty:=ty2) (o:=c) D v a H (by rw [<- hnew];simp;omega) (λj X=>?_) Q R ?_ ?_ s⟩
 ·rw [<- hnew,List.getElem?_toArray,List.append_assoc,List.getElem?_append_left (by simp;omega),List.getElem?_take,if_pos (by omega),Array.getElem?_toList]
 ·rw [F];unfold ye;simp only [List.all_append,Bool.and_eq_true];exact ⟨⟨all_take _ y,A⟩,all_drop _ y⟩
 ·rw [F];have f:(new.toList.drop c).take (es.length * k)=((cs.toList.drop c).take (es.length * k)).take p++us++((cs.toList.drop c).take (es.length * k)).drop (p+us.length):=by
   rw [<- hnew];apply List.ext_getElem?;intro j;by_cases h1:j < p
   ·rw [List.getElem?_take,if_pos (by omega),List.getElem?_drop,List.append_assoc,List.getElem?_append_left (by simp;omega),List.getElem?_take,if_pos (by omega)];rw [List.append_assoc,List.getElem?_append_left (by simp;omega),List.getElem?_take,if_pos h1,List.getElem?_take,if_pos (by omega),List.getElem?_drop]
   ·by_cases h2:j < p+us.length
    ·rw [List.getElem?_take,if_pos (by omega),List.getElem?_drop,List.append_assoc,List.getElem?_append_right (by simp;omega),List.getElem?_append_left (by simp;omega)];rw [List.append_assoc,List.getElem?_append_right (by simp;omega),List.getElem?_append_left (by simp;omega)];congr 1;simp;omega
    ·by_cases h3:j < es.length * k
     ·rw [List.getElem?_take,if_pos h3,List.getElem?_drop,List.getElem?_append_right (by simp;omega),List.getElem?_drop];rw [List.getElem?_append_right (by simp;omega),List.getElem?_drop,List.getElem?_take,if_pos (by simp;omega),List.getElem?_drop];congr 1;simp;omega
     ·rw [List.getElem?_take,if_neg h3,List.getElem?_eq_none];simp;omega
  rw [f];exact splice_VA (off:=p) O l
def zsuf (z:List AV) (n i:Nat):List AV:=(List.replicate (n - i) z).flatten
def AH.clr (h:AH) (id tk k i:Nat) (es:List (List AV)) (z:List AV):AH:=h.put id (.row tk k (rows k es.length (ye es.flatten (i * k) (zsuf z es.length i))))
theorem put_same {h:AH} {id:Nat} {b:Blk} (a:h.blk id=some b):h.put id b=h:=by
 cases h with
 | mk B T =>
  simp only [AH.put,AH.mk.injEq,and_true];refine List.ext_getElem? λj=>?_;by_cases hj:j=id
  ·subst hj;rw [List.getElem?_set_self (List.getElem?_eq_some_iff.1 a).1];exact a.symm
  ·rw [List.getElem?_set_ne (λe=>hj e.symm)]
theorem clear_sound (r:Rel B w0 g h w) {t e ty:TypeId} {id y k n i:Nat} {es:List (List AV)} {z p:List AV} {x:Value} (N:P.underlying t=some (.slice e)) (hz:xc P e=some z) (Y:yA z=some p) (E:z.length=k) (hkp:0 < k) (C:h.blk id=some (.row y k es)) (hn:es.length=n)
  (U:V g (.rsuf id y k n i) x):∃w',(Builtin.clear_ #[t] ty #[x]).run P w=.ok (.tuple #[]) w'/\Rel B w0 g (h.clr id y k i es p) w':=by
 subst hn;simp only [V] at U;obtain ⟨a,c,rfl,hin,t2,L,h3⟩:=U;obtain ⟨_,ti,hti,htr,htn,f,Z,T⟩:=r.rowAt C;have s:es.flatten.length=es.length * k:=yc f;rcases h3 with h0 | ⟨b,q,rfl,S⟩
 ·have hi:i=es.length:=by omega
  subst hi;have Q:h.clr id y k es.length es p=h:=by
   unfold AH.clr zsuf;have:ye es.flatten (es.length * k) (List.replicate (es.length - es.length) p).flatten=es.flatten:=by
    simp [ye,<- s]
   rw [this];have K:rows k es.length es.flatten=es:=by
    have:∀(l:List (List AV)),(∀e ∈ l,e.length=k)->rows k l.length l.flatten=l:=by
     intro l
     induction l with
     | nil=>intro _;rfl
     | cons x r ih =>
      intro j;simp only [List.length_cons,rows,List.flatten_cons];rw [List.take_left' (j x List.mem_cons_self),List.drop_left' (j x List.mem_cons_self),ih λe G=>j e (List.mem_cons_of_mem _ G)]
    exact this es f
   rw [K];exact put_same C
  rw [Q];refine ⟨w,?_,r⟩;rw [h0];cases a <;> simp [Builtin.clear_,run_underlying N]
 ·by_cases h0:es.length - i=0
  ·-- as above
   have hi:i=es.length:=by omega
   subst hi;have Q:h.clr id y k es.length es p=h:=by
    unfold AH.clr zsuf;have:ye es.flatten (es.length * k) (List.replicate (es.length - es.length) p).flatten=es.flatten:=by
     simp [ye,<- s]
    rw [this];have K:rows k es.length es.flatten=es:=by
     have:∀(l:List (List AV)),(∀e ∈ l,e.length=k)->rows k l.length l.flatten=l:=by
      intro l
      induction l with
      | nil=>intro _;rfl
      | cons x r ih =>
       intro j;simp only [List.length_cons,rows,List.flatten_cons];rw [List.take_left' (j x List.mem_cons_self),List.drop_left' (j x List.mem_cons_self),ih λe G=>j e (List.mem_cons_of_mem _ G)]
     exact this es f
    rw [K];exact put_same C
   rw [Q];refine ⟨w,?_,r⟩;rw [h0];simp [Builtin.clear_,run_underlying N]
  ·have F:es ≠ []:=by rintro rfl;simp at h0
   obtain ⟨iz,o,H,I,A⟩:=wD (g:=g) hz;have u:VA g p o.cells.toList:=vL A Y;have M:o.cells.size=k:=by rw [<- E,A.length];rfl
   have v:∀w,(zeroValue e).run P w=.ok o w:=λw=>by simp [zeroValue,typeInfo,H,I]
   have d:(Builtin.zeroCells o.cells (es.length - i)).toList=(List.replicate (es.length - i) o.cells.toList).flatten:=by
    unfold Builtin.zeroCells;rw [Array.toList_map,Array.toList_range];exact range_rep o.cells (es.length - i)
   have O:VA g (zsuf p es.length i) (Builtin.zeroCells o.cells (es.length - i)).toList:=by
    rw [d];exact VA.flatten u _
   have R:(Builtin.zeroCells o.cells (es.length - i)).toList.length=(es.length - i) * k:=by
    rw [d];simp [M]
   have W:i * k+(es.length - i) * k=es.length * k:=by rw [<- Nat.add_mul];congr 1;omega
   obtain ⟨w',X,h2⟩:=row_write (P:=P) r C F L S O (by
    unfold zsuf;rw [List.all_eq_true];intro a D;obtain ⟨l,j,D⟩:=List.mem_flatten.1 D;rw [List.eq_of_mem_replicate j] at D;have:=qD Y;rw [List.all_eq_true] at this;exact this a D) (by rw [R,s];omega)
   refine ⟨w',?_,h2⟩;have J:∃m,es.length - i=m+1:=⟨es.length - i - 1,by omega⟩
   obtain ⟨m,hm⟩:=J;rw [hm] at X ⊢;simp only [Builtin.clear_];simp [run_underlying N,v,X]
end
end Go.Vv
