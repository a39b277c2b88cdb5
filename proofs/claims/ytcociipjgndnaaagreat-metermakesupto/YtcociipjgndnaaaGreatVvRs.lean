/- A mutable row is cleared from a place on. -/
import Derived.Test.YtcociipjgndnaaaGreatVvRw
import Derived.Test.YtcociipjgndnaaaGreatVvK
namespace Go.Vv
open Go Go.RowKit Go.Lib
section
variable {P:Program} {w:World} {g:Gh} {h:AH} {B:Nat} {w0:World}
theorem row_write (r:Rel B w0 g h w) {id q k p:Nat} {es:List (List AV)} (E:h.blk id=some (.row q k es)) (v:es ≠ []) {t:TI} {b H:Nat} (G:g.τ[q]?=some t) (m:rowPt t b H es.length k p) {us:List Value} {vs:List AV}
  (f:VA g vs us) (z:vs.all AV.pure=true) (F:p+us.length<=es.flatten.length) :
  ∃w',(storeCells ⟨b,H,none⟩ us).run P w=.ok () w'/\Rel B w0 g (h.put id (.row q k (rows k es.length (yX es.flatten p vs)))) w':=by
 obtain ⟨Q,S,m⟩:=m;obtain ⟨_,J,y,U,C,u,n,s⟩:=r.rowAt E;obtain rfl:J=t:=by rw [y] at G;injection G
 obtain ⟨c,M,rfl,a⟩:=m C.symm;have A:es.flatten.length=es.length * k:=yN u;have V:vs.length=us.length:=f.length;obtain ⟨X,N,Z,cs,ty2,d,D,T,W,k5⟩:=s.resolve_left v;rw [a] at d;injection d with d;injection d with K d;injection d with d _;obtain rfl:c=N:=by omega
 subst K;have l:=run_storeCells_at P b (c+p) ty2 us 0 cs w D (by omega) f.one';simp only [sA] at l;generalize hnew:(cs.toList.take (c+p)++us++cs.toList.drop (c+p+us.length)).toArray=new at l;have x:(yX es.flatten p vs).length=es.length * k:=by unfold yX;rw [uo,uo,se,sB,A];omega
 obtain ⟨I,R,L⟩:=rows_flat (k:=k) es.length (yX es.flatten p vs) x;have O:cs.toList.length=cs.size:=by simp
 refine ⟨w.setRow b new,l,r.storeRow (e:=M) (cur:=cs) (ty:=ty2) (o:=c) E y a D (by rw [<- hnew];simp;omega) (λj Y=>?_) R L ?_ ?_ v⟩
 ·rw [<- hnew,sE,uy,uj (by simp;omega),uw,up (by omega),uv]
 ·rw [I];unfold yX;simp only [tD,ud];exact ⟨⟨all_take _ n,z⟩,all_drop _ n⟩
 ·rw [I];have i:(new.toList.drop c).take (es.length * k)=((cs.toList.drop c).take (es.length * k)).take p++us++((cs.toList.drop c).take (es.length * k)).drop (p+us.length):=by
   rw [<- hnew];apply tu;intro j;by_cases h1:j < p
   ·rw [uw,up (by omega),uF,uy,uj (by simp;omega),uw,up (by omega)];rw [uy,uj (by simp;omega),uw,up h1,uw,up (by omega),uF]
   ·by_cases h2:j < p+us.length
    ·rw [uw,up (by omega),uF,uy,ui (by simp;omega),uj (by simp;omega)];rw [uy,ui (by simp;omega),uj (by simp;omega)];congr 1;simp;omega
    ·by_cases h3:j < es.length * k
     ·rw [uw,up h3,uF,ui (by simp;omega),uF];rw [ui (by simp;omega),uF,uw,up (by simp;omega),uF];congr 1;simp;omega
     ·rw [uw,uu h3,th];simp;omega
  rw [i];exact splice_VA (off:=p) T f
def zsuf (z:List AV) (n i:Nat):List AV:=(List.replicate (n - i) z).flatten
def AH.clr (h:AH) (id tk k i:Nat) (es:List (List AV)) (z:List AV):AH:=h.put id (.row tk k (rows k es.length (yX es.flatten (i * k) (zsuf z es.length i))))
theorem put_same {h:AH} {id:Nat} {b:Blk} (a:h.blk id=some b):h.put id b=h:=by
 cases h with
 | mk B T =>
  simp only [AH.put,AH.mk.injEq,tW];refine tu λj=>?_;by_cases hj:j=id
  ·subst hj;rw [uA (uc.1 a).1];exact a.symm
  ·rw [uK (λe=>hj e.symm)]
theorem clear_sound (r:Rel B w0 g h w) {t e ty:TypeId} {id A k n i:Nat} {es:List (List AV)} {z o:List AV} {x:Value} (I:P.underlying t=some (.slice e)) (hz:xD P e=some z) (Y:x5 z=some o) (E:z.length=k) (hkp:0 < k) (C:h.blk id=some (.row A k es)) (hn:es.length=n)
  (U:V g (.rsuf id A k n i) x):∃w',(Builtin.clear_ #[t] ty #[x]).run P w=.ok (.tuple #[]) w'/\Rel B w0 g (h.clr id A k i es o) w':=by
 subst hn;simp only [V] at U;obtain ⟨a,c,rfl,hin,t2,R,h3⟩:=U;obtain ⟨_,ti,hti,htr,htn,f,Z,T⟩:=r.rowAt C;have s:es.flatten.length=es.length * k:=yN f;rcases h3 with h0 | ⟨b,q,rfl,N⟩
 ·have hi:i=es.length:=by omega
  subst hi;have J:h.clr id A k es.length es o=h:=by
   unfold AH.clr zsuf;have:yX es.flatten (es.length * k) (List.replicate (es.length - es.length) o).flatten=es.flatten:=by
    simp [yX,<- s]
   rw [this];have M:rows k es.length es.flatten=es:=by
    have:∀(l:List (List AV)),(∀e ∈ l,e.length=k)->rows k l.length l.flatten=l:=by
     intro l
     induction l with
     | nil=>intro _;rfl
     | cons x r ih =>
      intro j;simp only [uk,rows,tq];rw [ol (j x tY),py (j x tY),ih λe H=>j e (tJ _ H)]
    exact this es f
   rw [M];exact put_same C
  rw [J];refine ⟨w,?_,r⟩;rw [h0];cases a <;> simp [Builtin.clear_,run_underlying I]
 ·by_cases h0:es.length - i=0
  ·-- as above
   have hi:i=es.length:=by omega
   subst hi;have J:h.clr id A k es.length es o=h:=by
    unfold AH.clr zsuf;have:yX es.flatten (es.length * k) (List.replicate (es.length - es.length) o).flatten=es.flatten:=by
     simp [yX,<- s]
    rw [this];have M:rows k es.length es.flatten=es:=by
     have:∀(l:List (List AV)),(∀e ∈ l,e.length=k)->rows k l.length l.flatten=l:=by
      intro l
      induction l with
      | nil=>intro _;rfl
      | cons x r ih =>
       intro j;simp only [uk,rows,tq];rw [ol (j x tY),py (j x tY),ih λe H=>j e (tJ _ H)]
     exact this es f
    rw [M];exact put_same C
   rw [J];refine ⟨w,?_,r⟩;rw [h0];simp [Builtin.clear_,run_underlying I]
  ·have K:es ≠ []:=by rintro rfl;simp at h0
   obtain ⟨iz,p,S,O,v⟩:=qA (g:=g) hz;have u:VA g o p.cells.toList:=clean_sound v Y;have F:p.cells.size=k:=by rw [<- E,v.length];rfl
   have y:∀w,(zeroValue e).run P w=.ok p w:=λw=>by simp [zeroValue,typeInfo,S,O]
   have d:(Builtin.zeroCells p.cells (es.length - i)).toList=(List.replicate (es.length - i) p.cells.toList).flatten:=by
    unfold Builtin.zeroCells;rw [rM,rZ];exact range_rep p.cells (es.length - i)
   have L:VA g (zsuf o es.length i) (Builtin.zeroCells p.cells (es.length - i)).toList:=by
    rw [d];exact VA.flatten u _
   have Q:(Builtin.zeroCells p.cells (es.length - i)).toList.length=(es.length - i) * k:=by
    rw [d];simp [F]
   have X:i * k+(es.length - i) * k=es.length * k:=by rw [<- tb];congr 1;omega
   obtain ⟨w',W,h2⟩:=row_write (P:=P) r C K R N L (by
    unfold zsuf;rw [ux];intro a D;obtain ⟨l,j,D⟩:=p4.1 D;rw [List.eq_of_mem_replicate j] at D;have:=clean_pure Y;rw [ux] at this;exact this a D) (by rw [Q,s];omega)
   refine ⟨w',?_,h2⟩;have G:∃m,es.length - i=m+1:=⟨es.length - i - 1,by omega⟩
   obtain ⟨m,hm⟩:=G;rw [hm] at W ⊢;simp only [Builtin.clear_];simp [run_underlying I,y,W]
end
end Go.Vv
