/- A mutable row is cleared from a place on. -/
import Derived.Test.YtbaclapbinkedaaVvRw
import Derived.Test.YtbaclapbinkedaaVvK
namespace Go.Vv
open Go Go.RowKit Go.Lib
section
variable {P:Program} {w:World} {g:Gh} {h:AH} {B:Nat} {w0:World}
theorem row_write (r:Rel B w0 g h w) {id q k p:Nat} {es:List (List AV)} (hb:h.blk id=some (.row q k es)) (hes:es ≠ []) {t:TI} {b qo:Nat} (ht:g.τ[q]?=some t) (hpt:rowPt t b qo es.length k p) {us:List Value} {vs:List AV}
  (hus:VA g vs us) (hpu:vs.all AV.pure=true) (hfit:p+us.length≤es.flatten.length) :
  ∃ w',(storeCells ⟨b,qo,none⟩ us).run P w=.ok () w'∧Rel B w0 g (h.put id (.row q k (rows k es.length (xJ es.flatten p vs)))) w':=by
 obtain ⟨hrd,hle,hpt⟩:=hpt
 obtain ⟨_,ti,hti,htr,htn,hlen,hpe,hrow⟩:=r.rowAt hb
 obtain rfl:ti=t:=by rw [hti] at ht;injection ht
 obtain ⟨o',e',rfl,hloc⟩:=hpt htn.symm
 have hfl:es.flatten.length=es.length * k:=xO hlen
 have hvl:vs.length=us.length:=hus.length
 obtain ⟨b2,o2,e2,cs,ty2,k1,k2,k3,k4,k5⟩:=hrow.resolve_left hes
 rw [hloc] at k1;injection k1 with k1;injection k1 with e1 k1;injection k1 with k1 _
 obtain rfl:o'=o2:=by omega
 subst e1
 have hst:=run_storeCells_at P b (o'+p) ty2 us 0 cs w k2 (by omega) hus.one'
 simp only [Nat.add_zero] at hst
 generalize hnew:(cs.toList.take (o'+p)++us++cs.toList.drop (o'+p+us.length)).toArray=new at hst
 have hspl:(xJ es.flatten p vs).length=es.length * k:=by unfold xJ;rw [List.length_append,List.length_append,List.length_take,List.length_drop,hfl];omega
 obtain ⟨f1,f2,f3⟩:=rows_flat (k:=k) es.length (xJ es.flatten p vs) hspl
 have hcl:cs.toList.length=cs.size:=by simp
 refine ⟨w.setRow b new,hst,r.storeRow (e:=e') (cur:=cs) (ty:=ty2) (o:=o') hb hti hloc k2 (by rw [← hnew];simp;omega) (fun j hj=>?_) f2 f3 ?_ ?_ hes⟩
 ·rw [← hnew,List.getElem?_toArray,List.append_assoc,List.getElem?_append_left (by simp;omega),List.getElem?_take,if_pos (by omega),Array.getElem?_toList]
 ·rw [f1];unfold xJ
  simp only [List.all_append,Bool.and_eq_true]
  exact ⟨⟨all_take _ hpe,hpu⟩,all_drop _ hpe⟩
 ·rw [f1]
  have hcont:(new.toList.drop o').take (es.length * k)=((cs.toList.drop o').take (es.length * k)).take p++us++((cs.toList.drop o').take (es.length * k)).drop (p+us.length):=by
   rw [← hnew]
   apply List.ext_getElem?
   intro j
   by_cases h1:j < p
   ·rw [List.getElem?_take,if_pos (by omega),List.getElem?_drop,List.append_assoc,List.getElem?_append_left (by simp;omega),List.getElem?_take,if_pos (by omega)]
    rw [List.append_assoc,List.getElem?_append_left (by simp;omega),List.getElem?_take,if_pos h1,List.getElem?_take,if_pos (by omega),List.getElem?_drop]
   ·by_cases h2:j < p+us.length
    ·rw [List.getElem?_take,if_pos (by omega),List.getElem?_drop,List.append_assoc,List.getElem?_append_right (by simp;omega),List.getElem?_append_left (by simp;omega)]
     rw [List.append_assoc,List.getElem?_append_right (by simp;omega),List.getElem?_append_left (by simp;omega)]
     congr 1;simp;omega
    ·by_cases h3:j < es.length * k
     ·rw [List.getElem?_take,if_pos h3,List.getElem?_drop,List.getElem?_append_right (by simp;omega),List.getElem?_drop]
      rw [List.getElem?_append_right (by simp;omega),List.getElem?_drop,List.getElem?_take,if_pos (by simp;omega),List.getElem?_drop]
      congr 1;simp;omega
     ·rw [List.getElem?_take,if_neg h3,List.getElem?_eq_none]
      simp;omega
  rw [hcont]
  exact splice_VA (off:=p) k3 hus
def zsuf (z:List AV) (n i:Nat):List AV:=(List.replicate (n - i) z).flatten
def AH.clr (h:AH) (id tk k i:Nat) (es:List (List AV)) (z:List AV):AH:=h.put id (.row tk k (rows k es.length (xJ es.flatten (i * k) (zsuf z es.length i))))
theorem put_same {h:AH} {id:Nat} {b:Blk} (hb:h.blk id=some b):h.put id b=h:=by
 cases h with
 | mk B T =>
  simp only [AH.put,AH.mk.injEq,and_true]
  refine List.ext_getElem? fun j=>?_
  by_cases hj:j=id
  ·subst hj;rw [List.getElem?_set_self (List.getElem?_eq_some_iff.1 hb).1];exact hb.symm
  ·rw [List.getElem?_set_ne (fun e=>hj e.symm)]
theorem clear_sound (r:Rel B w0 g h w) {t e ty:TypeId} {id tk k n i:Nat} {es:List (List AV)} {z z':List AV} {x:Value} (ht:P.underlying t=some (.slice e)) (hz:wy P e=some z) (hc:wr z=some z') (hzl:z.length=k) (hkp:0 < k) (hb:h.blk id=some (.row tk k es)) (hn:es.length=n)
  (hx:V g (.rsuf id tk k n i) x):∃ w',(Builtin.clear_ #[t] ty #[x]).run P w=.ok (.tuple #[]) w'∧Rel B w0 g (h.clr id tk k i es z') w':=by
 subst hn
 simp only [V] at hx
 obtain ⟨a,c,rfl,hin,t2,ht2,h3⟩:=hx
 obtain ⟨_,ti,hti,htr,htn,hlen,hpe,hrow⟩:=r.rowAt hb
 have hfl:es.flatten.length=es.length * k:=xO hlen
 rcases h3 with h0 | ⟨b,q,rfl,hpt⟩
 ·have hi:i=es.length:=by omega
  subst hi
  have e1:h.clr id tk k es.length es z'=h:=by
   unfold AH.clr zsuf
   have:xJ es.flatten (es.length * k) (List.replicate (es.length - es.length) z').flatten=es.flatten:=by
    simp [xJ,← hfl]
   rw [this]
   have e2:rows k es.length es.flatten=es:=by
    have:∀ (l:List (List AV)),(∀ e ∈ l,e.length=k)→rows k l.length l.flatten=l:=by
     intro l
     induction l with
     | nil=>intro _;rfl
     | cons x r ih =>
      intro hl
      simp only [List.length_cons,rows,List.flatten_cons]
      rw [List.take_left' (hl x List.mem_cons_self),List.drop_left' (hl x List.mem_cons_self),ih fun e he=>hl e (List.mem_cons_of_mem _ he)]
    exact this es hlen
   rw [e2];exact put_same hb
  rw [e1]
  refine ⟨w,?_,r⟩
  rw [h0]
  cases a <;> simp [Builtin.clear_,run_underlying ht]
 ·by_cases h0:es.length - i=0
  ·-- as above
   have hi:i=es.length:=by omega
   subst hi
   have e1:h.clr id tk k es.length es z'=h:=by
    unfold AH.clr zsuf
    have:xJ es.flatten (es.length * k) (List.replicate (es.length - es.length) z').flatten=es.flatten:=by
     simp [xJ,← hfl]
    rw [this]
    have e2:rows k es.length es.flatten=es:=by
     have:∀ (l:List (List AV)),(∀ e ∈ l,e.length=k)→rows k l.length l.flatten=l:=by
      intro l
      induction l with
      | nil=>intro _;rfl
      | cons x r ih =>
       intro hl
       simp only [List.length_cons,rows,List.flatten_cons]
       rw [List.take_left' (hl x List.mem_cons_self),List.drop_left' (hl x List.mem_cons_self),ih fun e he=>hl e (List.mem_cons_of_mem _ he)]
     exact this es hlen
    rw [e2];exact put_same hb
   rw [e1]
   refine ⟨w,?_,r⟩
   rw [h0]
   simp [Builtin.clear_,run_underlying ht]
  ·have hes:es ≠ []:=by rintro rfl;simp at h0
   obtain ⟨iz,zv,hiz,hzv,hva⟩:=qB (g:=g) hz
   have hva':VA g z' zv.cells.toList:=clean_sound hva hc
   have hzs:zv.cells.size=k:=by rw [← hzl,hva.length];rfl
   have hrun:∀ w,(zeroValue e).run P w=.ok zv w:=fun w=>by simp [zeroValue,typeInfo,hiz,hzv]
   have hcells:(Builtin.zeroCells zv.cells (es.length - i)).toList=(List.replicate (es.length - i) zv.cells.toList).flatten:=by
    unfold Builtin.zeroCells
    rw [Array.toList_map,Array.toList_range]
    exact range_rep zv.cells (es.length - i)
   have hus:VA g (zsuf z' es.length i) (Builtin.zeroCells zv.cells (es.length - i)).toList:=by
    rw [hcells];exact VA.flatten hva' _
   have hul:(Builtin.zeroCells zv.cells (es.length - i)).toList.length=(es.length - i) * k:=by
    rw [hcells];simp [hzs]
   have hsum:i * k+(es.length - i) * k=es.length * k:=by rw [← Nat.add_mul];congr 1;omega
   obtain ⟨w',h1,h2⟩:=row_write (P:=P) r hb hes ht2 hpt hus (by
    unfold zsuf
    rw [List.all_eq_true]
    intro a ha
    obtain ⟨l,hl,ha⟩:=List.mem_flatten.1 ha
    rw [List.eq_of_mem_replicate hl] at ha
    have:=clean_pure hc
    rw [List.all_eq_true] at this
    exact this a ha) (by rw [hul,hfl];omega)
   refine ⟨w',?_,h2⟩
   have hne:∃ m,es.length - i=m+1:=⟨es.length - i - 1,by omega⟩
   obtain ⟨m,hm⟩:=hne
   rw [hm] at h1 ⊢
   simp only [Builtin.clear_]
   simp [run_underlying ht,hrun,h1]
end
end Go.Vv
