/- Appending, over the model's own append. -/
import Derived.Test.YtbaclapbinkedaaVvD
import Derived.Lib.AppendStr
namespace Go.Vv
open Go Go.RowKit Go.Lib
section
variable {g:Gh}
theorem VC.toVA {b:Nat}:∀ {o:Nat} {as:List AV},VC g b o as→∃ vs:List Value,VA g as vs∧as.all AV.pure=true∧∀ j u,vs[j]?=some u→g.Φ b (o+j)=some u
 | _,[],_=>⟨[],by simp only [VA],rfl,by simp⟩
 | o,a::r,h=>by
  simp only [VC] at h
  obtain ⟨⟨v,h0,h1,h2⟩,h3⟩:=h
  obtain ⟨vs,k1,kp,k2⟩:=VC.toVA h3
  refine ⟨v::vs,by simp only [VA];exact ⟨v,vs,rfl,⟨AV.one_of_pure h1,h2⟩,k1⟩,by simp [h1,kp],fun j u hu=>?_⟩
  cases j with
  | zero=>simp at hu;subst hu;exact h0
  | succ j =>
   rw [show o+(j+1)=o+1+j by omega]
   exact k2 j u (by simpa using hu)
theorem VC.ofVA {b:Nat}:∀ {o:Nat} {as:List AV} {vs:List Value},VA g as vs→as.all AV.pure=true→(∀ j u,vs[j]?=some u→g.Φ b (o+j)=some u)→VC g b o as
 | _,[],_,_,_,_=>by simp only [VC]
 | o,a::r,vs,h,hp,k=>by
  simp only [VA] at h
  obtain ⟨v,s,rfl,⟨h0,h1⟩,h2⟩:=h
  simp only [List.all_cons,Bool.and_eq_true] at hp
  simp only [VC]
  refine ⟨⟨v,by simpa using k 0 v rfl,hp.1,h1⟩,VC.ofVA (o:=o+1) h2 hp.2 fun j u hu=>?_⟩
  rw [show o+1+j=o+(j+1) by omega]
  exact k (j+1) u (by simpa using hu)
theorem VE_iff {b k:Nat}:∀ {o:Nat} {es:List (List AV)},VE g b k o es ↔ (∀ e ∈ es,e.length=k)∧VC g b o es.flatten
 | o,[]=>by simp [VE,VC]
 | o,e::r=>by
  simp only [VE,VE_iff (es:=r),List.flatten_cons,List.mem_cons,forall_eq_or_imp]
  constructor
  ·rintro ⟨⟨h1,h2⟩,h3,h4⟩
   exact ⟨⟨h1,h3⟩,VC.append h2 (by rw [h1];exact h4)⟩
  ·rintro ⟨⟨h1,h3⟩,h4⟩
   refine ⟨⟨h1,?_⟩,h3,?_⟩
   ·have:=VC.take e.length h4;rwa [List.take_left] at this
   ·have:=VC.drop e.length h4;rwa [List.drop_left,h1] at this
theorem VA.one':∀ {as:List AV} {vs:List Value},VA g as vs→∀ u ∈ vs,u.oneCell'=true
 | [],_,h,u,hu=>by simp only [VA] at h;subst h;cases hu
 | a::r,_,h,u,hu=>by
  simp only [VA] at h
  obtain ⟨v,s,rfl,⟨h0,h1⟩,h2⟩:=h
  rcases List.mem_cons.1 hu with rfl | hu
  ·cases a <;> simp only [V] at h1 <;> first
    | exact h1
    | (subst h1;rfl)
    | (obtain ⟨rfl,_⟩:=h1;rfl)
    | (obtain ⟨_,_,rfl⟩:=h1;rfl)
    | (obtain ⟨_,_,rfl,_⟩:=h1;rfl)
    | (obtain ⟨_,_,_,rfl,_⟩:=h1;rfl)
    | (obtain ⟨_,rfl,_⟩:=h1;rfl)
    | (obtain ⟨_,_,_,rfl,_⟩:=h1;rfl)
    | (simp [AV.one] at h0;done)
  ·exact VA.one' h2 u hu
theorem VA.length {as:List AV} {vs:List Value} (h:VA g as vs):as.length=vs.length:=h.toVL.length
theorem xO {k:Nat}:∀ {es:List (List AV)},(∀ e ∈ es,e.length=k)→es.flatten.length=es.length * k
 | [],_=>by simp
 | e::r,h=>by
  simp only [List.flatten_cons,List.length_append,List.length_cons]
  rw [xO (es:=r) (fun x hx=>h x (by simp [hx])),h e (by simp),Nat.succ_mul];omega
end
section
variable {P:Program} {w:World}
structure News (P:Program) (size m:Nat) (x:Value) (news:List Value) (w:World):Prop where
 len:(Builtin.lenOf x).run P w=.ok m w
 cells:(Builtin.firstCells size m x).run P w=.ok news.toArray w

theorem News.slice {size m c:Nat} {b:Addr} {news:List Value} (hl:news.length=m * size) (h:∀ j v,news[j]?=some v→w.cell? (b.add j)=some v):News P size m (.slice (some b) m c) news w :=
 ⟨rfl,run_firstCells_some w size m b m c news hl h⟩
theorem News.str {size:Nat} {s:ByteArray}:News P size s.size (.string s) (strCells s) w:=⟨rfl,run_firstCells_string w size s⟩

def NotInt (d:TypeDesc):Prop:=d=.string ∨ ∃ e,d=.slice e

theorem run_append_in {t u ty e:TypeId} {du:TypeDesc} {i:TypeInfo} (ht:P.underlying t=some (.slice e)) (hu:P.underlying u=some du) (hdu:NotInt du) (hi:P.info? e=some i)
  {b o n m c:Nat} {x:Value} {news:List Value} (hn:News P i.size m x news w) (h1:∀ u ∈ news,u.oneCell'=true) {cur:Array Value} {e':TypeId} (hc:w.heap[b]?=some (.cells cur e' (0,0)))
  (hroom:n+m≤c) (hfit:o+n * i.size+news.length≤cur.size) :
  (Builtin.append_ #[t,u] ty #[.slice (some ⟨b,o,none⟩) n c,x]).run P w =
   .ok (.slice (some ⟨b,o,none⟩) (n+m) c) (w.setRow b (cur.toList.take (o+n * i.size)++news++cur.toList.drop (o+n * i.size+news.length)).toArray):=by
 have hst:=run_storeCells_at P b (o+n * i.size) e' news 0 cur w hc (by simpa using hfit) h1
 simp only [Nat.add_zero] at hst
 have hadd:(⟨b,o,none⟩:Addr).add (n * i.size)=⟨b,o+n * i.size,none⟩:=by unfold Addr.add;split <;> simp_all
 rcases hdu with rfl | ⟨_,rfl⟩ <;> simp [Builtin.append_,run_underlying ht,run_underlying hu,sizeOf,typeInfo,hi,hn.len,hroom,hn.cells,hadd,hst]

theorem run_append_out {t u ty e:TypeId} {du:TypeDesc} {i:TypeInfo} {z:Value} (ht:P.underlying t=some (.slice e)) (hu:P.underlying u=some du) (hdu:NotInt du) (hi:P.info? e=some i) (hz:i.zero=some z)
  {n m c:Nat} {a:Option Addr} {x:Value} {olds news:List Value} (hn:News P i.size m x news w) (hn':News P i.size m x news w.drew) (ho:(Builtin.firstCells i.size n (.slice a n c)).run P w.drew=.ok olds.toArray w.drew)
  (hroom:c < n+m) (h63:n+m≤maxLen) (hfit:Builtin.nextslicecap (n+m) c * i.bytes≤281474976710656) :
  (Builtin.append_ #[t,u] ty #[.slice a n c,x]).run P w =
   .ok (.slice (some ⟨w.heap.size,0,none⟩) (n+m) (grownCap w (n+m) c e))
    (w.drew.alloc (.cells (olds.toArray++news.toArray++Builtin.zeroCells z.cells (grownCap w (n+m) c e - (n+m))) e)):=by
 have h1:¬ (n+m≤c):=by omega
 have h2:¬ (9223372036854775807 < ((n:Int)+(m:Int))):=by simp only [maxLen] at h63;omega
 have h3:¬ (281474976710656 < Builtin.nextslicecap (n+m) c * i.bytes):=by omega
 rcases hdu with rfl | ⟨_,rfl⟩ <;> simp [Builtin.append_,run_underlying ht,run_underlying hu,sizeOf,typeInfo,zeroValue,hi,hz,hn.len,h1,h2,h3,ho,hn'.cells,newRow,grownCap,Question.forced] <;> (congr 2;apply Array.ext';simp [List.append_assoc])
end
section
variable {P:Program} {w:World} {g:Gh} {h:AH} {B:Nat} {w0:World}

theorem append_row (r:Rel B w0 g h w) {t u ty e:TypeId} {du:TypeDesc} {i:TypeInfo} {z:Value} (ht:P.underlying t=some (.slice e)) (hu:P.underlying u=some du) (hdu:NotInt du) (hi:P.info? e=some i) (hz:i.zero=some z)
  (hzs:z.cells.size=i.size) (hby:i.bytes≤65536) {id q n:Nat} {es:List (List AV)} {sv x:Value} (hs:V g (.rsl id q i.size n) sv) {ys:List (List AV)} {news:List Value} (hl:∀ e ∈ ys,e.length=i.size) (hva:VA g ys.flatten news) (hpu:ys.flatten.all AV.pure=true)
  (hn:∀ W:World,(∀ a v,w.cell? a=some v→W.cell? a=some v)→News P i.size ys.length x news W) (hb:h.blk id=some (.row q i.size es)) (hesn:es.length=n) (htok:h.toks[q]?=some n) (hlim:n+ys.length≤qM) (hy:ys.length ≠ 0) :
  ∃ v w' g',(Builtin.append_ #[t,u] ty #[sv,x]).run P w=.ok v w'∧g.le g'∧Rel B w0 g' { h.put id (.row q i.size (es++ys)) with toks:=h.toks.set q (n+ys.length) } w'∧V g' (.rsl id q i.size (n+ys.length)) v:=by
 have hn0:=hn w fun _ _ h=>h
 subst hesn
 unfold qM at hlim
 obtain ⟨hσ,ti,hti,htr,htn,hlen,hpe,hrow⟩:=r.rowAt hb
 simp only [V] at hs
 obtain ⟨a,c,rfl,hc1,hc2,t2,ht2,hrd,hle,hcap⟩:=hs
 obtain rfl:ti=t2:=by rw [hti] at ht2;injection ht2
 have hcap:(es.length=0∧c=0) ∨ ∃ b o,a=some ⟨b,o,none⟩∧ti.loc=some (b,o+es.length * i.size,o+c * i.size):=hcap.imp (fun h=>h) fun ⟨b,o,h1,h2⟩=>⟨b,o,h1,h2 htn.symm⟩
 have hnl:news.length=ys.length * i.size:=by rw [← hva.length,xO hl]
 have hfl:es.flatten.length=es.length * i.size:=xO hlen
 -- the row's cells
 obtain ⟨olds,hov,hold⟩:∃ olds:List Value,VA g es.flatten olds∧(Builtin.firstCells i.size es.length (.slice a es.length c)).run P w.drew=.ok olds.toArray w.drew:=by
  rcases hrow with rfl | ⟨b,o,e2,cs,ty2,k1,k2,k3,k4,k5⟩
  ·refine ⟨[],by simp only [List.flatten_nil,VA],?_⟩
   cases a with
   | none=>simp [Builtin.firstCells]
   | some ad=>simp [Builtin.firstCells,loadCells,loadCellsFrom]
  ·rcases hcap with ⟨h0,_⟩ | ⟨b',o',rfl,hl'⟩
   ·have:es=[]:=List.eq_nil_of_length_eq_zero h0
    subst this
    refine ⟨[],by simp only [List.flatten_nil,VA],?_⟩
    cases a with
    | none=>simp [Builtin.firstCells]
    | some ad=>simp [Builtin.firstCells,loadCells,loadCellsFrom]
   ·rw [k1] at hl'
    injection hl' with hl';injection hl' with e1 e2';injection e2' with e2' e3
    obtain rfl:o=o':=by omega
    subst e1
    refine ⟨_,k3,run_firstCells_some w.drew i.size es.length ⟨b,o,none⟩ es.length c _ (by rw [← k3.length,hfl]) fun j v hv=>?_⟩
    rw [World.cell?_drew]
    have hadd:(⟨b,o,none⟩:Addr).add j=⟨b,o+j,none⟩:=by unfold Addr.add;split <;> simp_all
    rw [hadd,cell_of_row w b (o+j) cs ty2 (0,0) k2]
    rw [List.getElem?_take] at hv
    split at hv
    ·rw [List.getElem?_drop,Array.getElem?_toList] at hv;exact hv
    ·cases hv
 have hol:olds.length=es.length * i.size:=by rw [← hov.length,hfl]
 by_cases hroom:es.length+ys.length≤c
 ·-- in place
  rcases hcap with ⟨h0,h1⟩ | ⟨b,o,rfl,hlb⟩
  ·omega
  ·obtain ⟨_,hloc⟩:=r.tok _ _ hti
   have lo:=hloc b _ _ hlb
   obtain ⟨cur,ty',hcur,hce⟩:=lo.cells
   have hmul:es.length * i.size+news.length≤c * i.size:=by rw [hnl,← Nat.add_mul];exact Nat.mul_le_mul_right _ hroom
   have hrun:=run_append_in (ty:=ty) ht hu hdu hi hn0 hva.one' hcur hroom (o:=o) (by omega)
   have hold2:VA g es.flatten ((cur.toList.drop o).take (es.length * i.size))∧∀ j,o≤j→g.Φ b j=none:=by
    rcases hrow with rfl | ⟨b2,o2,e2,cs,ty2,k1,k2,k3,k4,k5⟩
    ·exact ⟨by simp [VA],fun j hj=>lo.free j (by simpa using hj)⟩
    ·rw [k1] at hlb
     injection hlb with hl';injection hl' with e1 e2';injection e2' with e2' e3
     obtain rfl:o2=o:=by omega
     subst e1
     rw [hcur] at k2;injection k2 with k2;injection k2 with k2 _ _;subst k2
     exact ⟨k3,k5⟩
   generalize hnew:(cur.toList.take (o+es.length * i.size)++news++cur.toList.drop (o+es.length * i.size+news.length)).toArray=new at hrun
   have hfit:o+es.length * i.size+news.length≤cur.size:=by omega
   have hnsz:new.size=cur.size:=by rw [← hnew];simp;omega
   have hlow:∀ j,j < o+es.length * i.size→new[j]?=cur[j]?:=fun j hj=>by
    rw [← hnew,List.getElem?_toArray,List.append_assoc,List.getElem?_append_left (by simp;omega),List.getElem?_take,if_pos hj,Array.getElem?_toList]
   have r1:=r.setSpare hti hlb hcur hnsz hlow
   have hheap:=setRow_heap w b cur new ty' (0,0) hcur
   have hcont:(new.toList.drop o).take ((es.length+ys.length) * i.size)=(cur.toList.drop o).take (es.length * i.size)++news:=by
    rw [← hnew]
    simp only [List.append_assoc]
    rw [List.drop_append_of_le_length (by simp;omega),List.drop_take,Nat.add_sub_cancel_left,Nat.add_mul,← hnl]
    rw [List.take_append,List.take_of_length_le (by simp;omega)]
    congr 1
    rw [List.take_append_of_le_length (by simp;omega),List.take_of_length_le (by simp;omega)]
   let T:TI:=⟨es.length+ys.length,some (b,o+(es.length+ys.length) * i.size,o+c * i.size),true⟩
   have hle2:g.le (g.setT q T):=Gh.le_setT (t':=T) hti (by show ti.n < es.length+ys.length;omega) htr.symm
   have hT:(g.setT q T).τ[q]?=some T:=List.getElem?_set_self (List.getElem?_eq_some_iff.1 hti).1
   have r2:=r1.setRow (t':=T) (q:=id) hti (by show ti.n < es.length+ys.length;omega) htr rfl hσ hb (es':=es++ys)
    ⟨T,hT,rfl,by simp [T],fun e he=>(List.mem_append.1 he).elim (hlen e) (hl e),by rw [List.flatten_append,List.all_append,hpe,hpu];rfl,
     .inr ⟨b,o,o+c * i.size,new,ty',by simp [T],hheap,by rw [List.length_append,hcont,List.flatten_append];exact (hold2.1.append hva).mono hle2,by rw [List.length_append,Nat.add_mul];omega,hold2.2⟩⟩
    (fun b' l e hl'=>by
     injection hl' with hl';injection hl' with e1 e2;injection e2 with e2 e3;subst e1 e2 e3
     exact ⟨lo.lo,by simpa using lo.lt,⟨new,ty',hheap,by omega⟩,fun j hj=>lo.free j (by rw [Nat.add_mul] at hj;omega)⟩)
    (fun b' x hx=>by injection hx with hx;injection hx with e1 _;subst e1;exact .inl ⟨_,hlb⟩)
   refine ⟨_,_,_,hrun,hle2,r2,?_⟩
   simp only [V]
   exact ⟨some ⟨b,o,none⟩,c,rfl,hroom,hc2,T,hT,rfl,Nat.le_refl _,.inr ⟨b,o,rfl,fun _=>rfl⟩⟩
 ·-- a new row
  have hroom':c < es.length+ys.length:=by omega
  have hrun:=run_append_out (ty:=ty) ht hu hdu hi hz hn0 (hn w.drew fun _ _ h=>h) hold hroom' (by simp only [maxLen];omega)
   (growslice_fits hroom' (by have:=Nat.mul_le_mul hlim hby;omega))
  have hge:=grownCap_ge w (es.length+ys.length) c e
  have hcm:grownCap w (es.length+ys.length) c e≤maxLen:=grownCap_le_maxLen w _ c e (by simp only [maxLen];omega)
  generalize hC:grownCap w (es.length+ys.length) c e=C at hrun hge hcm
  generalize hrow':olds.toArray++news.toArray++Builtin.zeroCells z.cells (C - (es.length+ys.length))=row at hrun
  have hrsz:row.size=C * i.size:=by
   rw [← hrow']
   simp only [Array.size_append,List.size_toArray,size_zeroCells,hzs,hol,hnl,← Nat.add_mul]
   congr 1;omega
  have hcont:(row.toList.drop 0).take ((es.length+ys.length) * i.size)=olds++news:=by
   rw [← hrow',List.drop_zero,Array.toList_append,Array.toList_append]
   rw [List.take_append_of_le_length (by simp [hol,hnl,Nat.add_mul])]
   rw [List.take_of_length_le (by simp [hol,hnl,Nat.add_mul])]
  have hΦn:∀ j,g.Φ w.heap.size j=none:=fun j=>by
   rcases he:g.Φ w.heap.size j with _ | v
   ·rfl
   ·exact absurd (r.phi_lt he) (Nat.lt_irrefl _)
  have r1:=(r.drew).alloc0 (.cells row e)
  have hheap:(w.drew.alloc (.cells row e)).heap[w.heap.size]?=some (.cells row e (0,0)):=heap_alloc_new w.drew _
  have hloc:LocOk g.Φ B (w.drew.alloc (.cells row e)) w.heap.size ((es.length+ys.length) * i.size) (C * i.size) :=
   ⟨r.bsz,by simp,⟨row,e,hheap,by omega⟩,fun j _=>hΦn j⟩
  have hsig:∀ (j cc:Nat),g.σ[j]?=some (some cc)→w.heap.size ≠ cc:=fun j cc hj e=>by
   have hi':j < h.blks.length:=by rw [← r.slen];exact (List.getElem?_eq_some_iff.1 hj).1
   have:=(r.blk j cc _ hj (List.getElem?_eq_getElem hi')).2.1
   omega
  have htau:∀ (j:Nat) (tt:TI) (y:Nat×Nat),g.τ[j]?=some tt→tt.loc ≠ some (w.heap.size,y):=fun j tt y hj e=>by
   have:=((r.tok j tt hj).2 _ _ _ e).lt
   omega
  let T:TI:=⟨es.length+ys.length,some (w.heap.size,(es.length+ys.length) * i.size,C * i.size),true⟩
  have hle2:g.le (g.setT q T):=Gh.le_setT (t':=T) hti (by show ti.n < es.length+ys.length;omega) htr.symm
  have hT:(g.setT q T).τ[q]?=some T:=List.getElem?_set_self (List.getElem?_eq_some_iff.1 hti).1
  have r2:=r1.setRow (t':=T) (q:=id) hti (by show ti.n < es.length+ys.length;omega) htr rfl hσ hb (es':=es++ys)
   ⟨T,hT,rfl,by simp [T],fun e he=>(List.mem_append.1 he).elim (hlen e) (hl e),by rw [List.flatten_append,List.all_append,hpe,hpu];rfl,
    .inr ⟨w.heap.size,0,C * i.size,row,e,by simp [T],hheap,by rw [List.length_append,hcont,List.flatten_append];exact (hov.append hva).mono hle2,by rw [List.length_append,hrsz];simpa using Nat.mul_le_mul_right i.size hge,fun j _=>hΦn j⟩⟩
   (fun b' l e' hl'=>by injection hl' with hl';injection hl' with e1 e2;injection e2 with e2 e3;subst e1 e2 e3;exact hloc)
   (fun b' x hx=>by injection hx with hx;injection hx with e1 _;subst e1;exact .inr ⟨htau,hsig,r.nnew (Nat.le_refl _)⟩)
  refine ⟨_,_,_,hrun,hle2,r2,?_⟩
  simp only [V]
  exact ⟨some ⟨w.heap.size,0,none⟩,C,rfl,hge,hcm,T,hT,rfl,Nat.le_refl _,.inr ⟨w.heap.size,0,rfl,fun _=>by simp [T]⟩⟩

theorem append_sound (r:Rel B w0 g h w) {t u ty e:TypeId} {du:TypeDesc} {i:TypeInfo} {z:Value} (ht:P.underlying t=some (.slice e)) (hu:P.underlying u=some du) (hdu:NotInt du) (hi:P.info? e=some i) (hz:i.zero=some z)
  (hzs:z.cells.size=i.size) (hby:i.bytes≤65536) {s s':AV} {sv x:Value} (hs:V g s sv) {ys:List (List AV)} {news:List Value} (hl:∀ e ∈ ys,e.length=i.size) (hva:VA g ys.flatten news) (hpu:ys.flatten.all AV.pure=true)
  (hn:∀ W:World,(∀ a v,w.cell? a=some v→W.cell? a=some v)→News P i.size ys.length x news W) {h':AH} (ha:aAppend h i.size s ys=some (s',h')) :
  ∃ v w' g',(Builtin.append_ #[t,u] ty #[sv,x]).run P w=.ok v w'∧g.le g'∧Rel B w0 g' h' w'∧V g' s' v:=by
 have hn0:=hn w fun _ _ h=>h
 unfold aAppend at ha
 split at ha
 ·rename_i q k' es
  simp only [V] at hs
  obtain ⟨a,c,rfl,hc1,hc2,hes,hq⟩:=hs
  have hnl:news.length=ys.length * i.size:=by rw [← hva.length,xO hl]
  split at ha
  ·-- nothing to append
   rename_i hy0
   have hne:news=[]:=List.eq_nil_of_length_eq_zero (by rw [hnl,hy0];simp)
   subst hne
   have hlen:=hn0.len
   have hcel:=hn0.cells
   rw [hy0] at hlen hcel
   have hrun:(Builtin.append_ #[t,u] ty #[.slice a es.length c,x]).run P w=.ok (.slice a es.length c) w:=by
    cases a with
    | none=>rcases hdu with rfl | ⟨_,rfl⟩ <;> simp [Builtin.append_,run_underlying ht,run_underlying hu,sizeOf,typeInfo,hi,hlen,hcel] <;> omega
    | some ad=>rcases hdu with rfl | ⟨_,rfl⟩ <;> simp [Builtin.append_,run_underlying ht,run_underlying hu,sizeOf,typeInfo,hi,hlen,hcel,storeCells] <;> omega
   cases q with
   | none =>
    injection ha with ha
    injection ha with e1 e2
    subst e1 e2
    simp only at hq
    refine ⟨.slice a es.length c,w,g.addT ⟨es.length,none,false⟩,hrun,g.le_addT _,r.addTok ⟨es.length,none,false⟩ (fun _ _ _ h=>by cases h) (fun _ _ h=>by cases h),?_⟩
    simp only [V]
    refine ⟨a,c,rfl,hc1,hc2,hes.imp id fun ⟨b,o,e,hh⟩=>⟨b,o,e,hh.mono (g.le_addT _) _ _ _ _⟩,⟨es.length,none,false⟩,?_,rfl,Nat.le_refl _,fun _=>.inl hq⟩
    simp only [Gh.addT];rw [← r.tlen,List.getElem?_append_right (Nat.le_refl _)];simp
   | some id =>
    injection ha with ha
    injection ha with e1 e2
    subst e1 e2
    exact ⟨.slice a es.length c,w,g,hrun,Gh.le.refl g,r,by simp only [V];exact ⟨a,c,rfl,hc1,hc2,hes,hq⟩⟩
  ·rename_i hy0
   split at ha
   ·rename_i hk
    obtain ⟨rfl,hlim⟩:=hk
    unfold qM at hlim
    split at ha
    ·rename_i id h2 hgrow
     injection ha with ha
     injection ha with e1 e2
     subst e1 e2
     -- the two ways
     by_cases hroom:es.length+ys.length≤c
     ·-- in place: there is a token
      unfold AH.grow at hgrow
      split at hgrow
      ·simp only at hq;omega
      ·rename_i id'
       split at hgrow
       ·rename_i htok
        injection hgrow with hgrow
        injection hgrow with e1 e2
        subst e1 e2
        simp only at hq
        obtain ⟨ti,hti,hrf,hle,hcap⟩:=hq
        obtain ⟨htn,hloc⟩:=r.tok _ _ hti
        have hnn:es.length=ti.n:=by rw [htok] at htn;injection htn
        rcases hcap hnn with hcc | ⟨b,o,rfl,hlb⟩
        ·omega
        ·have lo:=hloc b _ _ hlb
         obtain ⟨cur,ty',hcur,hce⟩:=lo.cells
         have hmul:es.length * i.size+news.length≤c * i.size:=by rw [hnl,← Nat.add_mul];exact Nat.mul_le_mul_right _ hroom
         have hrun:=run_append_in (ty:=ty) ht hu hdu hi hn0 hva.one' hcur hroom (o:=o) (by omega)
         have hve:VE g b i.size o es:=by
          rcases hes with rfl | ⟨b',o',e1,hh⟩
          ·simp only [VE]
          ·injection e1 with e1;injection e1 with e1 e2;subst e1 e2;exact hh
         generalize hnew:(cur.toList.take (o+es.length * i.size)++news++cur.toList.drop (o+es.length * i.size+news.length)).toArray=new at hrun
         have hfit:o+es.length * i.size+news.length≤cur.size:=by omega
         have hnsz:new.size=cur.size:=by rw [← hnew];simp;omega
         have hlow:∀ j,j < o+es.length * i.size→new[j]?=cur[j]?:=fun j hj=>by
          rw [← hnew,List.getElem?_toArray,List.append_assoc,List.getElem?_append_left (by simp;omega),List.getElem?_take,if_pos hj,Array.getElem?_toList]
         have hmid:∀ j v,news[j]?=some v→new[o+es.length * i.size+j]?=some v:=fun j v hv=>by
          have hj:j < news.length:=(List.getElem?_eq_some_iff.1 hv).1
          rw [← hnew,List.getElem?_toArray,List.append_assoc,List.getElem?_append_right (by simp;omega),List.getElem?_append_left (by simp;omega)]
          rw [← hv];congr 1;simp;omega
         have r1:=r.setSpare hti hlb hcur hnsz hlow
         have hheap:=setRow_heap w b cur new ty' (0,0) hcur
         -- the token
         have r2:=r1.setTok (t':=⟨es.length+ys.length,some (b,o+(es.length+ys.length) * i.size,o+c * i.size),false⟩) hti (by show ti.n < es.length+ys.length;omega) hrf rfl
          (fun b' l e hl'=>by
           injection hl' with hl';injection hl' with e1 e2;injection e2 with e2 e3;subst e1 e2 e3
           exact ⟨lo.lo,by simpa using lo.lt,⟨new,ty',hheap,by omega⟩,fun j hj=>lo.free j (by rw [Nat.add_mul] at hj;omega)⟩)
          (fun b' x hx=>by injection hx with hx;injection hx with e1 _;subst e1;exact .inl ⟨_,hlb⟩)
         -- the promise
         have r3:=r2.vow (b:=b) (f:=fun j=>if o+es.length * i.size≤j∧j < o+(es.length+ys.length) * i.size then new[j]? else none)
          (fun j v hv=>by
           split at hv
           ·rw [cell_of_row _ b j new ty' (0,0) hheap];exact hv
           ·cases hv)
          (fun j cc hcj _=>(r.sep j cc _ ti b _ hcj hti hlb).symm)
          (fun j tt l e hj hlj=>by
           by_cases hjid:j=id'
           ·subst hjid
            simp only [Gh.setT] at hj
            rw [List.getElem?_set_self (List.getElem?_eq_some_iff.1 hti).1] at hj
            injection hj with hj;subst hj
            injection hlj with hlj;injection hlj with e1 e2;injection e2 with e2 e3;subst e2 e3
            exact ⟨rfl,fun jj hjj=>by rw [if_neg (by omega)]⟩
           ·simp only [Gh.setT] at hj
            rw [List.getElem?_set_ne (fun e=>hjid e.symm)] at hj
            exact absurd (r.tinj _ _ _ _ b _ _ hj hti hlj hlb) hjid)
          (r.ntok hti hlb)
         have hle2:=Gh.le_setT (t':=⟨es.length+ys.length,some (b,o+(es.length+ys.length) * i.size,o+c * i.size),false⟩) hti (by show ti.n < es.length+ys.length;omega) hrf.symm
         have hle3:=hle2.trans (Gh.le_vow (g.setT id' ⟨es.length+ys.length,some (b,o+(es.length+ys.length) * i.size,o+c * i.size),false⟩) b
          (fun j=>if o+es.length * i.size≤j∧j < o+(es.length+ys.length) * i.size then new[j]? else none))
         refine ⟨_,_,_,hrun,hle3,r3,?_⟩
         simp only [V]
         refine ⟨some ⟨b,o,none⟩,c,by simp,by simpa using hroom,hc2,.inr ⟨b,o,rfl,?_⟩,_,List.getElem?_set_self (List.getElem?_eq_some_iff.1 hti).1,rfl,by simp,fun _=>.inr ⟨b,o,rfl,by simp⟩⟩
         refine VE.append (hve.mono hle3 _ _ _ _) (VE_iff.2 ⟨hl,VC.ofVA (hva.mono hle3 _ _) hpu fun j v hv=>?_⟩)
         have hj:j < news.length:=(List.getElem?_eq_some_iff.1 hv).1
         simp only [Gh.vow,Gh.setT,if_true]
         rw [lo.free _ (by omega),if_pos ⟨by omega,by rw [Nat.add_mul];omega⟩]
         exact hmid j v hv
       ·cases hgrow
     ·-- a new row
      have hroom':c < es.length+ys.length:=by omega
      have hfl:es.flatten.length=es.length * i.size:=by
       rcases hes with rfl | ⟨b,o,_,hve⟩
       ·simp
       ·exact xO (VE_iff.1 hve).1
      obtain ⟨olds,⟨hov,hopu⟩,hold⟩:∃ olds:List Value,(VA g es.flatten olds∧es.flatten.all AV.pure=true)∧(Builtin.firstCells i.size es.length (.slice a es.length c)).run P w.drew=.ok olds.toArray w.drew:=by
       rcases hes with rfl | ⟨b,o,rfl,hve⟩
       ·refine ⟨[],⟨by simp only [List.flatten_nil,VA],rfl⟩,?_⟩
        cases a with
        | none=>simp [Builtin.firstCells]
        | some ad=>simp [Builtin.firstCells,loadCells,loadCellsFrom]
       ·obtain ⟨us,hus,hup,hΦ⟩:=VC.toVA (VE_iff.1 hve).2
        refine ⟨us,⟨hus,hup⟩,run_firstCells_some w.drew i.size es.length ⟨b,o,none⟩ es.length c us (by rw [← hus.length,hfl]) fun j v hv=>?_⟩
        rw [World.cell?_drew]
        have hadd:(⟨b,o,none⟩:Addr).add j=⟨b,o+j,none⟩:=by unfold Addr.add;split <;> simp_all
        rw [hadd];exact r.phi _ _ _ (hΦ j v hv)
      have hol:olds.length=es.length * i.size:=by rw [← hov.length,hfl]
      have hrun:=run_append_out (ty:=ty) ht hu hdu hi hz hn0 (hn w.drew fun _ _ h=>h) hold hroom' (by simp only [maxLen];omega)
       (growslice_fits hroom' (by have:=Nat.mul_le_mul hlim hby;omega))
      have hge:=grownCap_ge w (es.length+ys.length) c e
      have hcm:grownCap w (es.length+ys.length) c e≤maxLen:=grownCap_le_maxLen w _ c e (by simp only [maxLen];omega)
      generalize hC:grownCap w (es.length+ys.length) c e=C at hrun hge hcm
      generalize hrow:olds.toArray++news.toArray++Builtin.zeroCells z.cells (C - (es.length+ys.length))=row at hrun
      have hrsz:row.size=C * i.size:=by
       rw [← hrow]
       simp only [Array.size_append,List.size_toArray,size_zeroCells,hzs,hol,hnl,← Nat.add_mul]
       congr 1;omega
      have hrl:∀ j v,(olds++news)[j]?=some v→row[j]?=some v:=fun j v hv=>by
       rw [← hrow,← Array.getElem?_toList]
       simp only [Array.toList_append]
       rw [List.getElem?_append_left (by simpa using (List.getElem?_eq_some_iff.1 hv).1)]
       exact hv
      have hbl:∀ j v,g.Φ w.heap.size j=some v→False:=fun j v hv=>absurd (r.phi_lt hv) (Nat.lt_irrefl _)
      have hΦn:∀ j,g.Φ w.heap.size j=none:=fun j=>by
       rcases he:g.Φ w.heap.size j with _ | v
       ·rfl
       ·exact (hbl j v he).elim
      have r1:=(r.drew).alloc0 (.cells row e)
      have hheap:(w.drew.alloc (.cells row e)).heap[w.heap.size]?=some (.cells row e (0,0)):=heap_alloc_new w.drew _
      have hloc:LocOk g.Φ B (w.drew.alloc (.cells row e)) w.heap.size ((es.length+ys.length) * i.size) (C * i.size) :=
       ⟨r.bsz,by simp,⟨row,e,hheap,by omega⟩,fun j _=>hΦn j⟩
      have hsig:∀ (j cc:Nat),g.σ[j]?=some (some cc)→w.heap.size ≠ cc:=fun j cc hj e=>by
       have hi':j < h.blks.length:=by rw [← r.slen];exact (List.getElem?_eq_some_iff.1 hj).1
       have:=(r.blk j cc _ hj (List.getElem?_eq_getElem hi')).2.1
       omega
      have htau:∀ (j:Nat) (tt:TI) (y:Nat×Nat),g.τ[j]?=some tt→tt.loc ≠ some (w.heap.size,y):=fun j tt y hj e=>by
       have:=((r.tok j tt hj).2 _ _ _ e).lt
       omega
      let T:TI:=⟨es.length+ys.length,some (w.heap.size,(es.length+ys.length) * i.size,C * i.size),false⟩
      have htok:∃ g2,g.le g2∧Rel B w0 g2 h2 (w.drew.alloc (.cells row e))∧g2.τ[id]?=some T∧g2.Φ=g.Φ∧(∀ (j:Nat) (tt:TI) (l e':Nat),g2.τ[j]?=some tt→tt.loc=some (w.heap.size,l,e')→tt=T)∧g2.σ=g.σ:=by
       unfold AH.grow at hgrow
       split at hgrow
       ·injection hgrow with hgrow
        injection hgrow with e1 e2
        subst e1 e2
        refine ⟨g.addT T,g.le_addT T,r1.addTok T (fun b l e' hl'=>?_) (fun b x hx=>?_),?_,rfl,fun j tt l e' hj hl'=>?_,rfl⟩
        ·injection hl' with hl';injection hl' with e1 e2;injection e2 with e2 e3;subst e1 e2 e3;exact hloc
        ·injection hx with hx;injection hx with e1 _;subst e1;exact ⟨htau,hsig,r.nnew (Nat.le_refl _)⟩
        ·simp only [Gh.addT];rw [← r.tlen,List.getElem?_append_right (Nat.le_refl _)];simp
        ·simp only [Gh.addT] at hj
         rcases Nat.lt_or_ge j g.τ.length with hjl | hjl
         ·rw [List.getElem?_append_left hjl] at hj;exact absurd hl' (htau _ _ _ hj)
         ·rw [List.getElem?_append_right hjl] at hj
          have:=List.mem_of_getElem? hj
          simpa using this
       ·rename_i id'
        split at hgrow
        ·rename_i htok
         injection hgrow with hgrow
         injection hgrow with e1 e2
         subst e1 e2
         simp only at hq
         obtain ⟨ti,hti,hrf,hle,_⟩:=hq
         have hti':=hti
         obtain ⟨htn,_⟩:=r.tok _ _ hti
         have hnn:es.length=ti.n:=by rw [htok] at htn;injection htn
         refine ⟨g.setT id' T,Gh.le_setT (t':=T) hti (by show ti.n < es.length+ys.length;omega) hrf.symm,r1.setTok hti (by show ti.n < es.length+ys.length;omega) hrf rfl (fun b l e' hl'=>?_) (fun b x hx=>?_),?_,rfl,fun j tt l e' hj hl'=>?_,rfl⟩
         ·injection hl' with hl';injection hl' with e1 e2;injection e2 with e2 e3;subst e1 e2 e3;exact hloc
         ·injection hx with hx;injection hx with e1 _;subst e1;exact .inr ⟨htau,hsig,r.nnew (Nat.le_refl _)⟩
         ·exact List.getElem?_set_self (List.getElem?_eq_some_iff.1 hti).1
         ·simp only [Gh.setT] at hj
          by_cases hjid:j=id'
          ·subst hjid
           rw [List.getElem?_set_self (List.getElem?_eq_some_iff.1 hti).1] at hj
           injection hj with hj;exact hj.symm
          ·rw [List.getElem?_set_ne (fun e=>hjid e.symm)] at hj
           exact absurd hl' (htau _ _ _ hj)
        ·cases hgrow
      obtain ⟨g2,hg2,r2,hT,hΦ2,hT2,hσ2⟩:=htok
      have r3:=r2.vow (b:=w.heap.size) (f:=fun j=>if j < (es.length+ys.length) * i.size then row[j]? else none)
       (fun j v hv=>by
        split at hv
        ·rw [cell_of_row _ _ j row e (0,0) hheap];exact hv
        ·cases hv)
       (fun j cc hcj _ e=>hsig j cc (by rw [← hσ2];exact hcj) e.symm)
       (fun j tt l e' hj hlj=>by
        have:=hT2 j tt l e' hj hlj
        subst this
        injection hlj with hlj;injection hlj with _ e2;injection e2 with e2 _;subst e2
        exact ⟨rfl,fun jj hjj=>by rw [if_neg (by omega)]⟩)
       (r2.ntok hT rfl)
      have hle3:=hg2.trans (g2.le_vow w.heap.size fun j=>if j < (es.length+ys.length) * i.size then row[j]? else none)
      refine ⟨_,_,_,hrun,hle3,r3,?_⟩
      simp only [V]
      refine ⟨some ⟨w.heap.size,0,none⟩,C,by simp,by simpa using hge,hcm,.inr ⟨w.heap.size,0,rfl,?_⟩,T,hT,rfl,by simp [T],fun _=>.inr ⟨w.heap.size,0,rfl,by simp [T]⟩⟩
      refine VE_iff.2 ⟨?_,?_⟩
      ·intro e he
       rcases List.mem_append.1 he with he | he
       ·rcases hes with rfl | ⟨b,o,_,hve⟩
        ·cases he
        ·exact (VE_iff.1 hve).1 e he
       ·exact hl e he
      ·rw [List.flatten_append]
       refine VC.ofVA (VA.mono hle3 _ _ (hov.append hva)) (by rw [List.all_append,hopu,hpu];rfl) fun j v hv=>?_
       have hj:j < (olds++news).length:=(List.getElem?_eq_some_iff.1 hv).1
       simp only [Gh.vow,if_true,hΦ2,hΦn,Nat.zero_add]
       rw [if_pos (by rw [Nat.add_mul];simp at hj;omega)]
       exact hrl j v hv
    ·cases ha
   ·cases ha
 ·rename_i id q k' n
  split at ha
  ·rename_i hy0
   injection ha with ha
   injection ha with e1 e2
   subst e1 e2
   have hs':=hs
   simp only [V] at hs
   obtain ⟨a,c,rfl,hc1,hc2,hq⟩:=hs
   have hnl:news.length=ys.length * i.size:=by rw [← hva.length,xO hl]
   have hne:news=[]:=List.eq_nil_of_length_eq_zero (by rw [hnl,hy0];simp)
   subst hne
   have hlen:=hn0.len
   have hcel:=hn0.cells
   rw [hy0] at hlen hcel
   have hrun:(Builtin.append_ #[t,u] ty #[.slice a n c,x]).run P w=.ok (.slice a n c) w:=by
    cases a with
    | none=>rcases hdu with rfl | ⟨_,rfl⟩ <;> simp [Builtin.append_,run_underlying ht,run_underlying hu,sizeOf,typeInfo,hi,hlen,hcel] <;> omega
    | some ad=>rcases hdu with rfl | ⟨_,rfl⟩ <;> simp [Builtin.append_,run_underlying ht,run_underlying hu,sizeOf,typeInfo,hi,hlen,hcel,storeCells] <;> omega
   exact ⟨_,w,g,hrun,Gh.le.refl g,r,hs'⟩
  ·rename_i hy0
   split at ha
   ·rename_i t' k'' es hb
    split at ha
    ·rename_i hc
     obtain ⟨⟨rfl,rfl,rfl⟩,h1,h2,h3⟩:=hc
     injection ha with ha
     injection ha with e1 e2
     subst e1 e2
     exact append_row r ht hu hdu hi hz hzs hby hs hl hva hpu hn hb h1 h2 h3 hy0
    ·cases ha
   ·cases ha
 ·cases ha
theorem append_new (r:Rel B w0 g h w) {t u ty e:TypeId} {du:TypeDesc} {i:TypeInfo} {z:Value} (ht:P.underlying t=some (.slice e)) (hu:P.underlying u=some du) (hdu:NotInt du) (hi:P.info? e=some i) (hz:i.zero=some z)
  (hzs:z.cells.size=i.size) (hby:i.bytes≤65536) {sv x:Value} (hs:V g (.osl none i.size []) sv) {ys:List (List AV)} {news:List Value} (hl:∀ e ∈ ys,e.length=i.size) (hva:VA g ys.flatten news) (hpu:ys.flatten.all AV.pure=true)
  (hn:∀ W:World,(∀ a v,w.cell? a=some v→W.cell? a=some v)→News P i.size ys.length x news W) (hlim:ys.length≤qM) :
  ∃ v w' g',(Builtin.append_ #[t,u] ty #[sv,x]).run P w=.ok v w'∧g.le g'∧Rel B w0 g' h w'∧V g' (.nsl i.size ys) v:=by
 have hn0:=hn w fun _ _ h=>h
 simp only [V] at hs
 obtain ⟨a,c,rfl,hc1,hc2,_,hc0⟩:=hs
 simp only [List.length_nil] at hc0
 subst hc0
 have hnl:news.length=ys.length * i.size:=by rw [← hva.length,xO hl]
 by_cases hy0:ys.length=0
 ·have hne:news=[]:=List.eq_nil_of_length_eq_zero (by rw [hnl,hy0];simp)
  have hye:ys=[]:=List.eq_nil_of_length_eq_zero hy0
  subst hne
  have hlen:=hn0.len
  have hcel:=hn0.cells
  rw [hy0] at hlen hcel
  have hrun:(Builtin.append_ #[t,u] ty #[.slice a ([]:List (List AV)).length 0,x]).run P w=.ok (.slice a 0 0) w:=by
   cases a with
   | none=>rcases hdu with rfl | ⟨_,rfl⟩ <;> simp [Builtin.append_,run_underlying ht,run_underlying hu,sizeOf,typeInfo,hi,hlen,hcel]
   | some ad=>rcases hdu with rfl | ⟨_,rfl⟩ <;> simp [Builtin.append_,run_underlying ht,run_underlying hu,sizeOf,typeInfo,hi,hlen,hcel,storeCells]
  refine ⟨_,w,g,hrun,Gh.le.refl g,r,?_⟩
  subst hye
  simp only [V]
  exact ⟨a,0,rfl,Nat.le_refl _,hc2,.inl trivial⟩
 ·have hroom':0 < ([]:List (List AV)).length+ys.length:=by simp;omega
  have hold:(Builtin.firstCells i.size ([]:List (List AV)).length (.slice a ([]:List (List AV)).length 0)).run P w.drew=.ok ([]:List Value).toArray w.drew:=by
   cases a with
   | none=>simp [Builtin.firstCells]
   | some ad=>simp [Builtin.firstCells,loadCells,loadCellsFrom]
  unfold qM at hlim
  have hrun:=run_append_out (ty:=ty) ht hu hdu hi hz hn0 (hn w.drew fun _ _ h=>h) hold hroom' (by simp only [maxLen,List.length_nil];omega)
   (growslice_fits hroom' (by have:=Nat.mul_le_mul hlim hby;simp only [List.length_nil,Nat.zero_add];omega))
  have hge:=grownCap_ge w (([]:List (List AV)).length+ys.length) 0 e
  have hcm:grownCap w (([]:List (List AV)).length+ys.length) 0 e≤maxLen:=grownCap_le_maxLen w _ 0 e (by simp only [maxLen,List.length_nil];omega)
  generalize hC:grownCap w (([]:List (List AV)).length+ys.length) 0 e=C at hrun hge hcm
  simp only [List.length_nil,Nat.zero_add] at hge hcm hrun
  generalize hrow:([]:List Value).toArray++news.toArray++Builtin.zeroCells z.cells (C - ys.length)=row at hrun
  have hrsz:row.size=C * i.size:=by
   rw [← hrow]
   simp only [Array.size_append,List.size_toArray,size_zeroCells,hzs,hnl,List.length_nil,Nat.zero_add,← Nat.add_mul]
   congr 1;omega
  have hrl:∀ j v,news[j]?=some v→row[j]?=some v:=fun j v hv=>by
   rw [← hrow,← Array.getElem?_toList]
   simp only [Array.toList_append,List.nil_append]
   rw [List.getElem?_append_left (by simpa using (List.getElem?_eq_some_iff.1 hv).1)]
   exact hv
  have hΦn:∀ j,g.Φ w.heap.size j=none:=fun j=>by
   rcases he:g.Φ w.heap.size j with _ | v
   ·rfl
   ·exact absurd (r.phi_lt he) (Nat.lt_irrefl _)
  have r1:=(r.drew).alloc0 (.cells row e)
  have hheap:(w.drew.alloc (.cells row e)).heap[w.heap.size]?=some (.cells row e (0,0)):=heap_alloc_new w.drew _
  have hN:g.N w.heap.size=none:=r.nnew (Nat.le_refl _)
  have hsig:∀ (j cc:Nat),g.σ[j]?=some (some cc)→w.heap.size ≠ cc:=fun j cc hj e=>by
   have hi':j < h.blks.length:=by rw [← r.slen];exact (List.getElem?_eq_some_iff.1 hj).1
   have:=(r.blk j cc _ hj (List.getElem?_eq_getElem hi')).2.1
   omega
  have htau:∀ (j:Nat) (tt:TI) (y:Nat×Nat),g.τ[j]?=some tt→tt.loc ≠ some (w.heap.size,y):=fun j tt y hj e=>by
   have:=((r.tok j tt hj).2 _ _ _ e).lt
   omega
  have r3:=r1.vow (b:=w.heap.size) (f:=fun j=>if j < ys.length * i.size then row[j]? else none)
   (fun j v hv=>by
    split at hv
    ·rw [cell_of_row _ _ j row e (0,0) hheap];exact hv
    ·cases hv)
   (fun j cc hcj _ e=>hsig j cc hcj e.symm)
   (fun j tt l e' hj hlj=>absurd hlj (htau _ _ _ hj)) hN
  have r4:=r3.mark (b:=w.heap.size) (r.nnew (Nat.le_refl _)) r.bsz hheap ⟨fun j hj=>hsig j _ hj rfl,fun hc=>Nat.lt_irrefl _ (r.dfr_lt hc),fun j tt y hj hl=>htau j tt y hj hl⟩ (r.nold (Nat.le_refl _))
  have hle4:=(g.le_vow w.heap.size fun j=>if j < ys.length * i.size then row[j]? else none).trans (Gh.le_addN (.new row.size) (r.nnew (Nat.le_refl _)))
  refine ⟨_,_,_,hrun,hle4,r4,?_⟩
  simp only [V]
  refine ⟨some ⟨w.heap.size,0,none⟩,C,rfl,hge,hcm,.inr ⟨w.heap.size,0,rfl,VE_iff.2 ⟨hl,?_⟩,row.size,by simp [Gh.addN]⟩⟩
  refine VC.ofVA (VA.mono hle4 _ _ hva) hpu fun j v hv=>?_
  have hj:j < news.length:=(List.getElem?_eq_some_iff.1 hv).1
  simp only [Gh.addN,Gh.vow,if_true,hΦn,Nat.zero_add]
  rw [if_pos (by omega)]
  exact hrl j v hv
end
end Go.Vv
