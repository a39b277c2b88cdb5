/- Appending, over the model's own append. -/
import Derived.Test.YtdkfnnpdeenhnaaGreatVvD
import Derived.Lib.AppendStr
namespace Go.Vv
open Go Go.RowKit Go.Lib
section
variable {g:Gh}
theorem VC.toVA {b:Nat}:∀{o:Nat} {c:List AV},VC g b o c->∃vs:List Value,VA g c vs/\c.all AV.pure=true/\∀j u,vs[j]?=some u->g.Φ b (o+j)=some u
 | _,[],_=>⟨[],by simp only [VA],rfl,by simp⟩
 | o,a::r,h=>by
  simp only [VC] at h;obtain ⟨⟨v,h0,e,l⟩,i⟩:=h;obtain ⟨vs,f,k,m⟩:=VC.toVA i;refine ⟨v::vs,by simp only [VA];exact ⟨v,vs,rfl,⟨AV.one_of_pure e,l⟩,f⟩,by simp [e,k],λj u d=>?_⟩;cases j with
  | zero=>simp at d;subst d;exact h0
  | succ j =>
   rw [show o+(j+1)=o+1+j by omega];exact m j u (by simpa using d)
theorem VC.ofVA {b:Nat}:∀{o:Nat} {c:List AV} {vs:List Value},VA g c vs->c.all AV.pure=true->(∀j u,vs[j]?=some u->g.Φ b (o+j)=some u)->VC g b o c
 | _,[],_,_,_,_=>by simp only [VC]
 | o,a::r,vs,h,hp,k=>by
  simp only [VA] at h;obtain ⟨v,s,rfl,⟨h0,d⟩,f⟩:=h;simp only [List.all_cons,Bool.and_eq_true] at hp;simp only [VC];refine ⟨⟨v,by simpa using k 0 v rfl,hp.1,d⟩,VC.ofVA (o:=o+1) f hp.2 λj u e=>?_⟩;rw [show o+1+j=o+(j+1) by omega];exact k (j+1) u (by simpa using e)
theorem VE_iff {b k:Nat}:∀{o:Nat} {es:List (List AV)},VE g b k o es ↔ (∀e ∈ es,e.length=k)/\VC g b o es.flatten
 | o,[]=>by simp [VE,VC]
 | o,e::r=>by
  simp only [VE,VE_iff (es:=r),List.flatten_cons,List.mem_cons,forall_eq_or_imp];constructor
  ·rintro ⟨⟨a,f⟩,d,c⟩
   exact ⟨⟨a,d⟩,VC.append f (by rw [a];exact c)⟩
  ·rintro ⟨⟨a,d⟩,c⟩
   refine ⟨⟨a,?_⟩,d,?_⟩
   ·have:=VC.take e.length c;rwa [List.take_left] at this
   ·have:=VC.drop e.length c;rwa [List.drop_left,a] at this
theorem VA.one':∀{d:List AV} {vs:List Value},VA g d vs->∀u ∈ vs,u.oneCell'=true
 | [],_,h,u,c=>by simp only [VA] at h;subst h;cases c
 | a::r,_,h,u,c=>by
  simp only [VA] at h;obtain ⟨v,s,rfl,⟨h0,b⟩,e⟩:=h;rcases List.mem_cons.1 c with rfl | c
  ·cases a <;> simp only [V] at b <;> first
    | exact b
    | (subst b;rfl)
    | (obtain ⟨rfl,_⟩:=b;rfl)
    | (obtain ⟨_,_,rfl⟩:=b;rfl)
    | (obtain ⟨_,_,rfl,_⟩:=b;rfl)
    | (obtain ⟨_,_,_,rfl,_⟩:=b;rfl)
    | (obtain ⟨_,rfl,_⟩:=b;rfl)
    | (obtain ⟨_,_,_,rfl,_⟩:=b;rfl)
    | (simp [AV.one] at h0;done)
  ·exact VA.one' e u c
theorem VA.length {a:List AV} {vs:List Value} (h:VA g a vs):a.length=vs.length:=h.toVL.length
theorem yc {k:Nat}:∀{es:List (List AV)},(∀e ∈ es,e.length=k)->es.flatten.length=es.length * k
 | [],_=>by simp
 | e::r,h=>by
  simp only [List.flatten_cons,List.length_append,List.length_cons];rw [yc (es:=r) (λx a=>h x (by simp [a])),h e (by simp),Nat.succ_mul];omega
end
section
variable {P:Program} {w:World}
structure News (P:Program) (size m:Nat) (x:Value) (news:List Value) (w:World):Prop where
 len:(Builtin.lenOf x).run P w=.ok m w
 cells:(Builtin.firstCells size m x).run P w=.ok news.toArray w

theorem News.slice {size m c:Nat} {b:Addr} {a:List Value} (d:a.length=m * size) (h:∀j v,a[j]?=some v->w.cell? (b.add j)=some v):News P size m (.slice (some b) m c) a w :=
 ⟨rfl,run_firstCells_some w size m b m c a d h⟩
theorem News.str {size:Nat} {s:ByteArray}:News P size s.size (.string s) (strCells s) w:=⟨rfl,run_firstCells_string w size s⟩

def NotInt (d:TypeDesc):Prop:=d=.string \/ ∃e,d=.slice e

theorem vt {t u ty e:TypeId} {q:TypeDesc} {i:TypeInfo} (s:P.underlying t=some (.slice e)) (y:P.underlying u=some q) (l:NotInt q) (hi:P.info? e=some i)
  {b o n m c:Nat} {x:Value} {a:List Value} (r:News P i.size m x a w) (v:∀u ∈ a,u.oneCell'=true) {cur:Array Value} {p:TypeId} (z:w.heap[b]?=some (.cells cur p (0,0)))
  (d:n+m<=c) (j:o+n * i.size+a.length<=cur.size) :
  (Builtin.append_ #[t,u] ty #[.slice (some ⟨b,o,none⟩) n c,x]).run P w =
   .ok (.slice (some ⟨b,o,none⟩) (n+m) c) (w.setRow b (cur.toList.take (o+n * i.size)++a++cur.toList.drop (o+n * i.size+a.length)).toArray):=by
 have k:=run_storeCells_at P b (o+n * i.size) p a 0 cur w z (by simpa using j) v;simp only [Nat.add_zero] at k;have f:(⟨b,o,none⟩:Addr).add (n * i.size)=⟨b,o+n * i.size,none⟩:=by unfold Addr.add;split <;> simp_all
 rcases l with rfl | ⟨_,rfl⟩ <;> simp [Builtin.append_,run_underlying s,run_underlying y,sizeOf,typeInfo,hi,r.len,d,r.cells,f,k]

theorem qk {t u ty e:TypeId} {o:TypeDesc} {i:TypeInfo} {z:Value} (y:P.underlying t=some (.slice e)) (D:P.underlying u=some o) (j:NotInt o) (hi:P.info? e=some i) (r:i.zero=some z)
  {n m c:Nat} {a:Option Addr} {x:Value} {d b:List Value} (v:News P i.size m x b w) (k:News P i.size m x b w.drew) (C:(Builtin.firstCells i.size n (.slice a n c)).run P w.drew=.ok d.toArray w.drew)
  (l:c < n+m) (f:n+m<=maxLen) (p:Builtin.nextslicecap (n+m) c * i.bytes<=281474976710656) :
  (Builtin.append_ #[t,u] ty #[.slice a n c,x]).run P w =
   .ok (.slice (some ⟨w.heap.size,0,none⟩) (n+m) (grownCap w (n+m) c e))
    (w.drew.alloc (.cells (d.toArray++b.toArray++Builtin.zeroCells z.cells (grownCap w (n+m) c e - (n+m))) e)):=by
 have A:¬ (n+m<=c):=by omega
 have s:¬ (9223372036854775807 < ((n:Int)+(m:Int))):=by simp only [maxLen] at f;omega
 have q:¬ (281474976710656 < Builtin.nextslicecap (n+m) c * i.bytes):=by omega
 rcases j with rfl | ⟨_,rfl⟩ <;> simp [Builtin.append_,run_underlying y,run_underlying D,sizeOf,typeInfo,zeroValue,hi,r,v.len,A,s,q,C,k.cells,newRow,grownCap,Question.forced] <;> (congr 2;apply Array.ext';simp [List.append_assoc])
end
section
variable {P:Program} {w:World} {g:Gh} {h:AH} {B:Nat} {w0:World}

theorem append_row (r:Rel B w0 g h w) {t u ty e:TypeId} {du:TypeDesc} {i:TypeInfo} {z:Value} (ht:P.underlying t=some (.slice e)) (hu:P.underlying u=some du) (hdu:NotInt du) (hi:P.info? e=some i) (hz:i.zero=some z)
  (hzs:z.cells.size=i.size) (hby:i.bytes<=65536) {id q n:Nat} {es:List (List AV)} {sv x:Value} (hs:V g (.rsl id q i.size n) sv) {ys:List (List AV)} {news:List Value} (hl:∀e ∈ ys,e.length=i.size) (hva:VA g ys.flatten news) (hpu:ys.flatten.all AV.pure=true)
  (hn:∀W:World,(∀a v,w.cell? a=some v->W.cell? a=some v)->News P i.size ys.length x news W) (hb:h.blk id=some (.row q i.size es)) (hesn:es.length=n) (htok:h.toks[q]?=some n) (hlim:n+ys.length<=yg) (hy:ys.length ≠ 0) :
  ∃v w' g',(Builtin.append_ #[t,u] ty #[sv,x]).run P w=.ok v w'/\g.le g'/\Rel B w0 g' { h.put id (.row q i.size (es++ys)) with toks:=h.toks.set q (n+ys.length) } w'/\V g' (.rsl id q i.size (n+ys.length)) v:=by
 have hn0:=hn w λ_ _ h=>h;subst hesn;unfold yg at hlim;obtain ⟨hσ,ti,hti,htr,htn,hlen,hpe,hrow⟩:=r.rowAt hb;simp only [V] at hs;obtain ⟨a,c,rfl,hc1,hc2,t2,ht2,hrd,hle,hcap⟩:=hs;obtain rfl:ti=t2:=by rw [hti] at ht2;injection ht2
 have hcap:(es.length=0/\c=0) \/ ∃b o,a=some ⟨b,o,none⟩/\ti.loc=some (b,o+es.length * i.size,o+c * i.size):=hcap.imp (λh=>h) λ⟨b,o,h1,h2⟩=>⟨b,o,h1,h2 htn.symm⟩
 have hnl:news.length=ys.length * i.size:=by rw [<- hva.length,yc hl]
 have hfl:es.flatten.length=es.length * i.size:=yc hlen
 -- the row's cells
 obtain ⟨olds,hov,hold⟩:∃olds:List Value,VA g es.flatten olds/\(Builtin.firstCells i.size es.length (.slice a es.length c)).run P w.drew=.ok olds.toArray w.drew:=by
  rcases hrow with rfl | ⟨b,o,e2,cs,ty2,k1,k2,k3,k4,k5⟩
  ·refine ⟨[],by simp only [List.flatten_nil,VA],?_⟩;cases a with
   | none=>simp [Builtin.firstCells]
   | some ad=>simp [Builtin.firstCells,loadCells,loadCellsFrom]
  ·rcases hcap with ⟨h0,_⟩ | ⟨b',o',rfl,hl'⟩
   ·have:es=[]:=List.eq_nil_of_length_eq_zero h0;subst this;refine ⟨[],by simp only [List.flatten_nil,VA],?_⟩;cases a with
    | none=>simp [Builtin.firstCells]
    | some ad=>simp [Builtin.firstCells,loadCells,loadCellsFrom]
   ·rw [k1] at hl';injection hl' with hl';injection hl' with e1 e2';injection e2' with e2' e3;obtain rfl:o=o':=by omega
    subst e1;refine ⟨_,k3,run_firstCells_some w.drew i.size es.length ⟨b,o,none⟩ es.length c _ (by rw [<- k3.length,hfl]) λj v hv=>?_⟩;rw [World.cell?_drew];have hadd:(⟨b,o,none⟩:Addr).add j=⟨b,o+j,none⟩:=by unfold Addr.add;split <;> simp_all
    rw [hadd,cell_of_row w b (o+j) cs ty2 (0,0) k2];rw [List.getElem?_take] at hv;split at hv
    ·rw [List.getElem?_drop,Array.getElem?_toList] at hv;exact hv
    ·cases hv
 have hol:olds.length=es.length * i.size:=by rw [<- hov.length,hfl]
 by_cases hroom:es.length+ys.length<=c
 ·-- in place
  rcases hcap with ⟨h0,h1⟩ | ⟨b,o,rfl,hlb⟩
  ·omega
  ·obtain ⟨_,hloc⟩:=r.tok _ _ hti;have lo:=hloc b _ _ hlb;obtain ⟨cur,ty',hcur,hce⟩:=lo.cells;have hmul:es.length * i.size+news.length<=c * i.size:=by rw [hnl,<- Nat.add_mul];exact Nat.mul_le_mul_right _ hroom
   have hrun:=vt (ty:=ty) ht hu hdu hi hn0 hva.one' hcur hroom (o:=o) (by omega);have hold2:VA g es.flatten ((cur.toList.drop o).take (es.length * i.size))/\∀j,o<=j->g.Φ b j=none:=by
    rcases hrow with rfl | ⟨b2,o2,e2,cs,ty2,k1,k2,k3,k4,k5⟩
    ·exact ⟨by simp [VA],λj hj=>lo.free j (by simpa using hj)⟩
    ·rw [k1] at hlb;injection hlb with hl';injection hl' with e1 e2';injection e2' with e2' e3;obtain rfl:o2=o:=by omega
     subst e1;rw [hcur] at k2;injection k2 with k2;injection k2 with k2 _ _;subst k2;exact ⟨k3,k5⟩
   generalize hnew:(cur.toList.take (o+es.length * i.size)++news++cur.toList.drop (o+es.length * i.size+news.length)).toArray=new at hrun;have hfit:o+es.length * i.size+news.length<=cur.size:=by omega
   have hnsz:new.size=cur.size:=by rw [<- hnew];simp;omega
   have hlow:∀j,j < o+es.length * i.size->new[j]?=cur[j]?:=λj hj=>by
    rw [<- hnew,List.getElem?_toArray,List.append_assoc,List.getElem?_append_left (by simp;omega),List.getElem?_take,if_pos hj,Array.getElem?_toList]
   have r1:=r.setSpare hti hlb hcur hnsz hlow;have hheap:=setRow_heap w b cur new ty' (0,0) hcur;have hcont:(new.toList.drop o).take ((es.length+ys.length) * i.size)=(cur.toList.drop o).take (es.length * i.size)++news:=by
    rw [<- hnew];simp only [List.append_assoc];rw [List.drop_append_of_le_length (by simp;omega),List.drop_take,Nat.add_sub_cancel_left,Nat.add_mul,<- hnl];rw [List.take_append,List.take_of_length_le (by simp;omega)];congr 1;rw [List.take_append_of_le_length (by simp;omega),List.take_of_length_le (by simp;omega)]
   let T:TI:=⟨es.length+ys.length,some (b,o+(es.length+ys.length) * i.size,o+c * i.size),true⟩
   have hle2:g.le (g.setT q T):=Gh.le_setT (t':=T) hti (by show ti.n < es.length+ys.length;omega) htr.symm;have hT:(g.setT q T).τ[q]?=some T:=List.getElem?_set_self (List.getElem?_eq_some_iff.1 hti).1;have r2:=r1.setRow (t':=T) (q:=id) hti (by show ti.n < es.length+ys.length;omega) htr rfl hσ hb (es':=es++ys)
    ⟨T,hT,rfl,by simp [T],λe he=>(List.mem_append.1 he).elim (hlen e) (hl e),by rw [List.flatten_append,List.all_append,hpe,hpu];rfl,
     .inr ⟨b,o,o+c * i.size,new,ty',by simp [T],hheap,by rw [List.length_append,hcont,List.flatten_append];exact (hold2.1.append hva).mono hle2,by rw [List.length_append,Nat.add_mul];omega,hold2.2⟩⟩
    (λb' l e hl'=>by
     injection hl' with hl';injection hl' with e1 e2;injection e2 with e2 e3;subst e1 e2 e3;exact ⟨lo.lo,by simpa using lo.lt,⟨new,ty',hheap,by omega⟩,λj hj=>lo.free j (by rw [Nat.add_mul] at hj;omega)⟩)
    (λb' x hx=>by injection hx with hx;injection hx with e1 _;subst e1;exact .inl ⟨_,hlb⟩)
   refine ⟨_,_,_,hrun,hle2,r2,?_⟩;simp only [V];exact ⟨some ⟨b,o,none⟩,c,rfl,hroom,hc2,T,hT,rfl,Nat.le_refl _,.inr ⟨b,o,rfl,λ_=>rfl⟩⟩
 ·-- a new row
  have hroom':c < es.length+ys.length:=by omega
  have hrun:=qk (ty:=ty) ht hu hdu hi hz hn0 (hn w.drew λ_ _ h=>h) hold hroom' (by simp only [maxLen];omega)
   (growslice_fits hroom' (by have:=Nat.mul_le_mul hlim hby;omega))
  have hge:=grownCap_ge w (es.length+ys.length) c e;have hcm:grownCap w (es.length+ys.length) c e<=maxLen:=grownCap_le_maxLen w _ c e (by simp only [maxLen];omega);generalize hC:grownCap w (es.length+ys.length) c e=C at hrun hge hcm;generalize hrow':olds.toArray++news.toArray++Builtin.zeroCells z.cells (C - (es.length+ys.length))=row at hrun;have hrsz:row.size=C * i.size:=by
   rw [<- hrow'];simp only [Array.size_append,List.size_toArray,size_zeroCells,hzs,hol,hnl,<- Nat.add_mul];congr 1;omega
  have hcont:(row.toList.drop 0).take ((es.length+ys.length) * i.size)=olds++news:=by
   rw [<- hrow',List.drop_zero,Array.toList_append,Array.toList_append];rw [List.take_append_of_le_length (by simp [hol,hnl,Nat.add_mul])];rw [List.take_of_length_le (by simp [hol,hnl,Nat.add_mul])]
  have hΦn:∀j,g.Φ w.heap.size j=none:=λj=>by
   rcases he:g.Φ w.heap.size j with _ | v
   ·rfl
   ·exact absurd (r.phi_lt he) (Nat.lt_irrefl _)
  have r1:=(r.drew).alloc0 (.cells row e);have hheap:(w.drew.alloc (.cells row e)).heap[w.heap.size]?=some (.cells row e (0,0)):=heap_alloc_new w.drew _;have hloc:LocOk g.Φ B (w.drew.alloc (.cells row e)) w.heap.size ((es.length+ys.length) * i.size) (C * i.size) :=
   ⟨r.bsz,by simp,⟨row,e,hheap,by omega⟩,λj _=>hΦn j⟩
  have hsig:∀(j cc:Nat),g.σ[j]?=some (some cc)->w.heap.size ≠ cc:=λj cc hj e=>by
   have hi':j < h.blks.length:=by rw [<- r.slen];exact (List.getElem?_eq_some_iff.1 hj).1
   have:=(r.blk j cc _ hj (List.getElem?_eq_getElem hi')).2.1;omega
  have htau:∀(j:Nat) (tt:TI) (y:Nat×Nat),g.τ[j]?=some tt->tt.loc ≠ some (w.heap.size,y):=λj tt y hj e=>by
   have:=((r.tok j tt hj).2 _ _ _ e).lt;omega
  let T:TI:=⟨es.length+ys.length,some (w.heap.size,(es.length+ys.length) * i.size,C * i.size),true⟩
  have hle2:g.le (g.setT q T):=Gh.le_setT (t':=T) hti (by show ti.n < es.length+ys.length;omega) htr.symm;have hT:(g.setT q T).τ[q]?=some T:=List.getElem?_set_self (List.getElem?_eq_some_iff.1 hti).1;have r2:=r1.setRow (t':=T) (q:=id) hti (by show ti.n < es.length+ys.length;omega) htr rfl hσ hb (es':=es++ys)
   ⟨T,hT,rfl,by simp [T],λe he=>(List.mem_append.1 he).elim (hlen e) (hl e),by rw [List.flatten_append,List.all_append,hpe,hpu];rfl,
    .inr ⟨w.heap.size,0,C * i.size,row,e,by simp [T],hheap,by rw [List.length_append,hcont,List.flatten_append];exact (hov.append hva).mono hle2,by rw [List.length_append,hrsz];simpa using Nat.mul_le_mul_right i.size hge,λj _=>hΦn j⟩⟩
   (λb' l e' hl'=>by injection hl' with hl';injection hl' with e1 e2;injection e2 with e2 e3;subst e1 e2 e3;exact hloc)
   (λb' x hx=>by injection hx with hx;injection hx with e1 _;subst e1;exact .inr ⟨htau,hsig⟩)
  refine ⟨_,_,_,hrun,hle2,r2,?_⟩;simp only [V];exact ⟨some ⟨w.heap.size,0,none⟩,C,rfl,hge,hcm,T,hT,rfl,Nat.le_refl _,.inr ⟨w.heap.size,0,rfl,λ_=>by simp [T]⟩⟩

theorem append_sound (r:Rel B w0 g h w) {t u ty e:TypeId} {du:TypeDesc} {i:TypeInfo} {z:Value} (ht:P.underlying t=some (.slice e)) (hu:P.underlying u=some du) (U:NotInt du) (hi:P.info? e=some i) (hz:i.zero=some z)
  (hzs:z.cells.size=i.size) (hby:i.bytes<=65536) {s s':AV} {sv x:Value} (hs:V g s sv) {G:List (List AV)} {k:List Value} (hl:∀e ∈ G,e.length=i.size) (hva:VA g G.flatten k) (hpu:G.flatten.all AV.pure=true)
  (hn:∀W:World,(∀a v,w.cell? a=some v->W.cell? a=some v)->News P i.size G.length x k W) {h':AH} (H:vY h i.size s G=some (s',h')) :
  ∃v w' g',(Builtin.append_ #[t,u] ty #[sv,x]).run P w=.ok v w'/\g.le g'/\Rel B w0 g' h' w'/\V g' s' v:=by
 have hn0:=hn w λ_ _ h=>h;unfold vY at H;split at H
 ·rename_i q k' es;simp only [V] at hs;obtain ⟨a,c,rfl,hc1,hc2,hes,hq⟩:=hs;have hnl:k.length=G.length * i.size:=by rw [<- hva.length,yc hl]
  split at H
  ·-- nothing to append
   rename_i Q;have hne:k=[]:=List.eq_nil_of_length_eq_zero (by rw [hnl,Q];simp);subst hne;have J:=hn0.len;have I:=hn0.cells;rw [Q] at J I;have A:(Builtin.append_ #[t,u] ty #[.slice a es.length c,x]).run P w=.ok (.slice a es.length c) w:=by
    cases a with
    | none=>rcases U with rfl | ⟨_,rfl⟩ <;> simp [Builtin.append_,run_underlying ht,run_underlying hu,sizeOf,typeInfo,hi,J,I] <;> omega
    | some ad=>rcases U with rfl | ⟨_,rfl⟩ <;> simp [Builtin.append_,run_underlying ht,run_underlying hu,sizeOf,typeInfo,hi,J,I,storeCells] <;> omega
   cases q with
   | none =>
    injection H with H;injection H with D p;subst D p;simp only at hq;refine ⟨.slice a es.length c,w,g.addT ⟨es.length,none,false⟩,A,g.le_addT _,r.addTok ⟨es.length,none,false⟩ (λ_ _ _ h=>by cases h) (λ_ _ h=>by cases h),?_⟩;simp only [V];refine ⟨a,c,rfl,hc1,hc2,hes.imp id λ⟨b,o,e,hh⟩=>⟨b,o,e,hh.mono (g.le_addT _) _ _ _ _⟩,⟨es.length,none,false⟩,?_,rfl,Nat.le_refl _,λ_=>.inl hq⟩;simp only [Gh.addT];rw [<- r.tlen,List.getElem?_append_right (Nat.le_refl _)];simp
   | some id =>
    injection H with H;injection H with D p;subst D p;exact ⟨.slice a es.length c,w,g,A,Gh.le.refl g,r,by simp only [V];exact ⟨a,c,rfl,hc1,hc2,hes,hq⟩⟩
  ·rename_i Q;split at H
   ·rename_i hk;obtain ⟨rfl,hlim⟩:=hk;unfold yg at hlim;split at H
    ·rename_i id h2 d;injection H with H;injection H with D p;subst D p
     -- the two ways
     by_cases hroom:es.length+G.length<=c
     ·-- in place: there is a token
      unfold AH.grow at d;split at d
      ·simp only at hq;omega
      ·rename_i id';split at d
       ·rename_i R;injection d with d;injection d with D p;subst D p;simp only at hq;obtain ⟨ti,F,hrf,hle,hcap⟩:=hq;obtain ⟨htn,Y⟩:=r.tok _ _ F;have hnn:es.length=ti.n:=by rw [R] at htn;injection htn
        rcases hcap hnn with hcc | ⟨b,o,rfl,hlb⟩
        ·omega
        ·have lo:=Y b _ _ hlb;obtain ⟨cur,ty',hcur,hce⟩:=lo.cells;have hmul:es.length * i.size+k.length<=c * i.size:=by rw [hnl,<- Nat.add_mul];exact Nat.mul_le_mul_right _ hroom
         have A:=vt (ty:=ty) ht hu U hi hn0 hva.one' hcur hroom (o:=o) (by omega);have S:VE g b i.size o es:=by
          rcases hes with rfl | ⟨b',o',D,hh⟩
          ·simp only [VE]
          ·injection D with D;injection D with D p;subst D p;exact hh
         generalize hnew:(cur.toList.take (o+es.length * i.size)++k++cur.toList.drop (o+es.length * i.size+k.length)).toArray=new at A;have hfit:o+es.length * i.size+k.length<=cur.size:=by omega
         have hnsz:new.size=cur.size:=by rw [<- hnew];simp;omega
         have hlow:∀j,j < o+es.length * i.size->new[j]?=cur[j]?:=λj m=>by
          rw [<- hnew,List.getElem?_toArray,List.append_assoc,List.getElem?_append_left (by simp;omega),List.getElem?_take,if_pos m,Array.getElem?_toList]
         have hmid:∀j v,k[j]?=some v->new[o+es.length * i.size+j]?=some v:=λj v L=>by
          have m:j < k.length:=(List.getElem?_eq_some_iff.1 L).1;rw [<- hnew,List.getElem?_toArray,List.append_assoc,List.getElem?_append_right (by simp;omega),List.getElem?_append_left (by simp;omega)];rw [<- L];congr 1;simp;omega
         have r1:=r.setSpare F hlb hcur hnsz hlow;have K:=setRow_heap w b cur new ty' (0,0) hcur
         -- the token
         have r2:=r1.setTok (t':=⟨es.length+G.length,some (b,o+(es.length+G.length) * i.size,o+c * i.size),false⟩) F (by show ti.n < es.length+G.length;omega) hrf rfl
          (λb' l e E=>by
           injection E with E;injection E with D p;injection p with p e3;subst D p e3;exact ⟨lo.lo,by simpa using lo.lt,⟨new,ty',K,by omega⟩,λj m=>lo.free j (by rw [Nat.add_mul] at m;omega)⟩)
          (λb' x hx=>by injection hx with hx;injection hx with D _;subst D;exact .inl ⟨_,hlb⟩)
         -- the promise
         have r3:=r2.vow (b:=b) (f:=λj=>if o+es.length * i.size<=j/\j < o+(es.length+G.length) * i.size then new[j]? else none)
          (λj v L=>by
           split at L
           ·rw [cell_of_row _ b j new ty' (0,0) K];exact L
           ·cases L)
          (λj cc hcj _=>(r.sep j cc _ ti b _ hcj F hlb).symm)
          (λj tt l e m O=>by
           by_cases hjid:j=id'
           ·subst hjid;simp only [Gh.setT] at m;rw [List.getElem?_set_self (List.getElem?_eq_some_iff.1 F).1] at m;injection m with m;subst m;injection O with O;injection O with D p;injection p with p e3;subst p e3;exact ⟨rfl,λjj hjj=>by rw [if_neg (by omega)]⟩
           ·simp only [Gh.setT] at m;rw [List.getElem?_set_ne (λe=>hjid e.symm)] at m;exact absurd (r.tinj _ _ _ _ b _ _ m F O hlb) hjid)
         have hle2:=Gh.le_setT (t':=⟨es.length+G.length,some (b,o+(es.length+G.length) * i.size,o+c * i.size),false⟩) F (by show ti.n < es.length+G.length;omega) hrf.symm;have N:=hle2.trans (Gh.le_vow (g.setT id' ⟨es.length+G.length,some (b,o+(es.length+G.length) * i.size,o+c * i.size),false⟩) b
          (λj=>if o+es.length * i.size<=j/\j < o+(es.length+G.length) * i.size then new[j]? else none))
         refine ⟨_,_,_,A,N,r3,?_⟩;simp only [V];refine ⟨some ⟨b,o,none⟩,c,by simp,by simpa using hroom,hc2,.inr ⟨b,o,rfl,?_⟩,_,List.getElem?_set_self (List.getElem?_eq_some_iff.1 F).1,rfl,by simp,λ_=>.inr ⟨b,o,rfl,by simp⟩⟩;refine VE.append (S.mono N _ _ _ _) (VE_iff.2 ⟨hl,VC.ofVA (hva.mono N _ _) hpu λj v L=>?_⟩);have m:j < k.length:=(List.getElem?_eq_some_iff.1 L).1;simp only [Gh.vow,Gh.setT,if_true];rw [lo.free _ (by omega),if_pos ⟨by omega,by rw [Nat.add_mul];omega⟩];exact hmid j v L
       ·cases d
     ·-- a new row
      have Z:c < es.length+G.length:=by omega
      have hfl:es.flatten.length=es.length * i.size:=by
       rcases hes with rfl | ⟨b,o,_,S⟩
       ·simp
       ·exact yc (VE_iff.1 S).1
      obtain ⟨M,⟨hov,hopu⟩,hold⟩:∃M:List Value,(VA g es.flatten M/\es.flatten.all AV.pure=true)/\(Builtin.firstCells i.size es.length (.slice a es.length c)).run P w.drew=.ok M.toArray w.drew:=by
       rcases hes with rfl | ⟨b,o,rfl,S⟩
       ·refine ⟨[],⟨by simp only [List.flatten_nil,VA],rfl⟩,?_⟩;cases a with
        | none=>simp [Builtin.firstCells]
        | some ad=>simp [Builtin.firstCells,loadCells,loadCellsFrom]
       ·obtain ⟨us,hus,hup,hΦ⟩:=VC.toVA (VE_iff.1 S).2;refine ⟨us,⟨hus,hup⟩,run_firstCells_some w.drew i.size es.length ⟨b,o,none⟩ es.length c us (by rw [<- hus.length,hfl]) λj v L=>?_⟩;rw [World.cell?_drew];have hadd:(⟨b,o,none⟩:Addr).add j=⟨b,o+j,none⟩:=by unfold Addr.add;split <;> simp_all
        rw [hadd];exact r.phi _ _ _ (hΦ j v L)
      have hol:M.length=es.length * i.size:=by rw [<- hov.length,hfl]
      have A:=qk (ty:=ty) ht hu U hi hz hn0 (hn w.drew λ_ _ h=>h) hold Z (by simp only [maxLen];omega)
       (growslice_fits Z (by have:=Nat.mul_le_mul hlim hby;omega))
      have hge:=grownCap_ge w (es.length+G.length) c e;have hcm:grownCap w (es.length+G.length) c e<=maxLen:=grownCap_le_maxLen w _ c e (by simp only [maxLen];omega);generalize hC:grownCap w (es.length+G.length) c e=C at A hge hcm;generalize hrow:M.toArray++k.toArray++Builtin.zeroCells z.cells (C - (es.length+G.length))=row at A;have hrsz:row.size=C * i.size:=by
       rw [<- hrow];simp only [Array.size_append,List.size_toArray,size_zeroCells,hzs,hol,hnl,<- Nat.add_mul];congr 1;omega
      have hrl:∀j v,(M++k)[j]?=some v->row[j]?=some v:=λj v L=>by
       rw [<- hrow,<- Array.getElem?_toList];simp only [Array.toList_append];rw [List.getElem?_append_left (by simpa using (List.getElem?_eq_some_iff.1 L).1)];exact L
      have hbl:∀j v,g.Φ w.heap.size j=some v->False:=λj v L=>absurd (r.phi_lt L) (Nat.lt_irrefl _);have hΦn:∀j,g.Φ w.heap.size j=none:=λj=>by
       rcases he:g.Φ w.heap.size j with _ | v
       ·rfl
       ·exact (hbl j v he).elim
      have r1:=(r.drew).alloc0 (.cells row e);have K:(w.drew.alloc (.cells row e)).heap[w.heap.size]?=some (.cells row e (0,0)):=heap_alloc_new w.drew _;have Y:LocOk g.Φ B (w.drew.alloc (.cells row e)) w.heap.size ((es.length+G.length) * i.size) (C * i.size) :=
       ⟨r.bsz,by simp,⟨row,e,K,by omega⟩,λj _=>hΦn j⟩
      have hsig:∀(j cc:Nat),g.σ[j]?=some (some cc)->w.heap.size ≠ cc:=λj cc m e=>by
       have hi':j < h.blks.length:=by rw [<- r.slen];exact (List.getElem?_eq_some_iff.1 m).1
       have:=(r.blk j cc _ m (List.getElem?_eq_getElem hi')).2.1;omega
      have X:∀(j:Nat) (tt:TI) (y:Nat×Nat),g.τ[j]?=some tt->tt.loc ≠ some (w.heap.size,y):=λj tt y m e=>by
       have:=((r.tok j tt m).2 _ _ _ e).lt;omega
      let T:TI:=⟨es.length+G.length,some (w.heap.size,(es.length+G.length) * i.size,C * i.size),false⟩
      have R:∃g2,g.le g2/\Rel B w0 g2 h2 (w.drew.alloc (.cells row e))/\g2.τ[id]?=some T/\g2.Φ=g.Φ/\(∀(j:Nat) (tt:TI) (l e':Nat),g2.τ[j]?=some tt->tt.loc=some (w.heap.size,l,e')->tt=T)/\g2.σ=g.σ:=by
       unfold AH.grow at d;split at d
       ·injection d with d;injection d with D p;subst D p;refine ⟨g.addT T,g.le_addT T,r1.addTok T (λb l e' E=>?_) (λb x hx=>?_),?_,rfl,λj tt l e' m E=>?_,rfl⟩
        ·injection E with E;injection E with D p;injection p with p e3;subst D p e3;exact Y
        ·injection hx with hx;injection hx with D _;subst D;exact ⟨X,hsig⟩
        ·simp only [Gh.addT];rw [<- r.tlen,List.getElem?_append_right (Nat.le_refl _)];simp
        ·simp only [Gh.addT] at m;rcases Nat.lt_or_ge j g.τ.length with hjl | hjl
         ·rw [List.getElem?_append_left hjl] at m;exact absurd E (X _ _ _ m)
         ·rw [List.getElem?_append_right hjl] at m;have:=List.mem_of_getElem? m;simpa using this
       ·rename_i id';split at d
        ·rename_i R;injection d with d;injection d with D p;subst D p;simp only at hq;obtain ⟨ti,F,hrf,hle,_⟩:=hq;have hti':=F;obtain ⟨htn,_⟩:=r.tok _ _ F;have hnn:es.length=ti.n:=by rw [R] at htn;injection htn
         refine ⟨g.setT id' T,Gh.le_setT (t':=T) F (by show ti.n < es.length+G.length;omega) hrf.symm,r1.setTok F (by show ti.n < es.length+G.length;omega) hrf rfl (λb l e' E=>?_) (λb x hx=>?_),?_,rfl,λj tt l e' m E=>?_,rfl⟩
         ·injection E with E;injection E with D p;injection p with p e3;subst D p e3;exact Y
         ·injection hx with hx;injection hx with D _;subst D;exact .inr ⟨X,hsig⟩
         ·exact List.getElem?_set_self (List.getElem?_eq_some_iff.1 F).1
         ·simp only [Gh.setT] at m;by_cases hjid:j=id'
          ·subst hjid;rw [List.getElem?_set_self (List.getElem?_eq_some_iff.1 F).1] at m;injection m with m;exact m.symm
          ·rw [List.getElem?_set_ne (λe=>hjid e.symm)] at m;exact absurd E (X _ _ _ m)
        ·cases d
      obtain ⟨g2,hg2,r2,hT,hΦ2,hT2,hσ2⟩:=R;have r3:=r2.vow (b:=w.heap.size) (f:=λj=>if j < (es.length+G.length) * i.size then row[j]? else none)
       (λj v L=>by
        split at L
        ·rw [cell_of_row _ _ j row e (0,0) K];exact L
        ·cases L)
       (λj cc hcj _ e=>hsig j cc (by rw [<- hσ2];exact hcj) e.symm)
       (λj tt l e' m O=>by
        have:=hT2 j tt l e' m O;subst this;injection O with O;injection O with _ p;injection p with p _;subst p;exact ⟨rfl,λjj hjj=>by rw [if_neg (by omega)]⟩)
      have N:=hg2.trans (g2.le_vow w.heap.size λj=>if j < (es.length+G.length) * i.size then row[j]? else none);refine ⟨_,_,_,A,N,r3,?_⟩;simp only [V];refine ⟨some ⟨w.heap.size,0,none⟩,C,by simp,by simpa using hge,hcm,.inr ⟨w.heap.size,0,rfl,?_⟩,T,hT,rfl,by simp [T],λ_=>.inr ⟨w.heap.size,0,rfl,by simp [T]⟩⟩;refine VE_iff.2 ⟨?_,?_⟩
      ·intro e he;rcases List.mem_append.1 he with he | he
       ·rcases hes with rfl | ⟨b,o,_,S⟩
        ·cases he
        ·exact (VE_iff.1 S).1 e he
       ·exact hl e he
      ·rw [List.flatten_append];refine VC.ofVA (VA.mono N _ _ (hov.append hva)) (by rw [List.all_append,hopu,hpu];rfl) λj v L=>?_;have m:j < (M++k).length:=(List.getElem?_eq_some_iff.1 L).1;simp only [Gh.vow,if_true,hΦ2,hΦn,Nat.zero_add];rw [if_pos (by rw [Nat.add_mul];simp at m;omega)];exact hrl j v L
    ·cases H
   ·cases H
 ·rename_i id q k' n;split at H
  ·rename_i Q;injection H with H;injection H with D p;subst D p;have hs':=hs;simp only [V] at hs;obtain ⟨a,c,rfl,hc1,hc2,hq⟩:=hs;have hnl:k.length=G.length * i.size:=by rw [<- hva.length,yc hl]
   have hne:k=[]:=List.eq_nil_of_length_eq_zero (by rw [hnl,Q];simp);subst hne;have J:=hn0.len;have I:=hn0.cells;rw [Q] at J I;have A:(Builtin.append_ #[t,u] ty #[.slice a n c,x]).run P w=.ok (.slice a n c) w:=by
    cases a with
    | none=>rcases U with rfl | ⟨_,rfl⟩ <;> simp [Builtin.append_,run_underlying ht,run_underlying hu,sizeOf,typeInfo,hi,J,I] <;> omega
    | some ad=>rcases U with rfl | ⟨_,rfl⟩ <;> simp [Builtin.append_,run_underlying ht,run_underlying hu,sizeOf,typeInfo,hi,J,I,storeCells] <;> omega
   exact ⟨_,w,g,A,Gh.le.refl g,r,hs'⟩
  ·rename_i Q;split at H
   ·rename_i t' k'' es hb;split at H
    ·rename_i hc;obtain ⟨⟨rfl,rfl,rfl⟩,h1,h2,h3⟩:=hc;injection H with H;injection H with D p;subst D p;exact append_row r ht hu U hi hz hzs hby hs hl hva hpu hn hb h1 h2 h3 Q
    ·cases H
   ·cases H
 ·cases H
end
end Go.Vv
