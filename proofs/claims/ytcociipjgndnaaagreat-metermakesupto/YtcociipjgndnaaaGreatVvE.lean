/- Appending, over the model's own append. -/
import Derived.Test.YtcociipjgndnaaaGreatVvD
import Derived.Lib.AppendStr
namespace Go.Vv
open Go Go.RowKit Go.Lib
section
variable {g:Gh}
theorem VC.toVA {b:Nat}:∀{o:Nat} {d:List AV},VC g b o d->∃vs:List Value,VA g d vs/\d.all AV.pure=true/\∀j u,vs[j]?=some u->g.Φ b (o+j)=some u
 | _,[],_=>⟨[],by simp only [VA],rfl,by simp⟩
 | o,a::r,h=>by
  simp only [VC] at h;obtain ⟨⟨v,h0,e,f⟩,l⟩:=h;obtain ⟨vs,i,m,k⟩:=VC.toVA l;refine ⟨v::vs,by simp only [VA];exact ⟨v,vs,rfl,⟨AV.one_of_pure e,f⟩,i⟩,by simp [e,m],λj u c=>?_⟩;cases j with
  | zero=>simp at c;subst c;exact h0
  | succ j =>
   rw [show o+(j+1)=o+1+j by omega];exact k j u (by simpa using c)
theorem VC.ofVA {b:Nat}:∀{o:Nat} {c:List AV} {vs:List Value},VA g c vs->c.all AV.pure=true->(∀j u,vs[j]?=some u->g.Φ b (o+j)=some u)->VC g b o c
 | _,[],_,_,_,_=>by simp only [VC]
 | o,a::r,vs,h,hp,k=>by
  simp only [VA] at h;obtain ⟨v,s,rfl,⟨h0,f⟩,d⟩:=h;simp only [tc,ud] at hp;simp only [VC];refine ⟨⟨v,by simpa using k 0 v rfl,hp.1,f⟩,VC.ofVA (o:=o+1) d hp.2 λj u e=>?_⟩;rw [show o+1+j=o+(j+1) by omega];exact k (j+1) u (by simpa using e)
theorem VE_iff {b k:Nat}:∀{o:Nat} {es:List (List AV)},VE g b k o es ↔ (∀e ∈ es,e.length=k)/\VC g b o es.flatten
 | o,[]=>by simp [VE,VC]
 | o,e::r=>by
  simp only [VE,VE_iff (es:=r),tq,uD,forall_eq_or_imp];constructor
  ·rintro ⟨⟨a,f⟩,d,c⟩
   exact ⟨⟨a,d⟩,VC.append f (by rw [a];exact c)⟩
  ·rintro ⟨⟨a,d⟩,c⟩
   refine ⟨⟨a,?_⟩,d,?_⟩
   ·have:=VC.take e.length c;rwa [pD] at this
   ·have:=VC.drop e.length c;rwa [sO,a] at this
theorem VA.one':∀{e:List AV} {vs:List Value},VA g e vs->∀u ∈ vs,u.oneCell'=true
 | [],_,h,u,c=>by simp only [VA] at h;subst h;cases c
 | a::r,_,h,u,c=>by
  simp only [VA] at h;obtain ⟨v,s,rfl,⟨h0,b⟩,d⟩:=h;rcases uD.1 c with rfl | c
  ·cases a <;> simp only [V] at b <;> first
    | exact b
    | (subst b;rfl)
    | (obtain ⟨rfl,_⟩:=b;rfl)
    | (obtain ⟨_,_,rfl⟩:=b;rfl)
    | (obtain ⟨_,_,rfl,_⟩:=b;rfl)
    | (obtain ⟨_,_,_,rfl,_⟩:=b;rfl)
    | (obtain ⟨_,rfl,_⟩:=b;rfl)
    | (obtain ⟨_,_,_,rfl,_⟩:=b;rfl)
    | (simp [AV.one] at h0;done)
  ·exact VA.one' d u c
theorem VA.length {a:List AV} {vs:List Value} (h:VA g a vs):a.length=vs.length:=h.toVL.length
theorem yN {k:Nat}:∀{es:List (List AV)},(∀e ∈ es,e.length=k)->es.flatten.length=es.length * k
 | [],_=>by simp
 | e::r,h=>by
  simp only [tq,uo,uk];rw [yN (es:=r) (λx a=>h x (by simp [a])),h e (by simp),sn];omega
end
section
variable {P:Program} {w:World}
structure News (P:Program) (size m:Nat) (x:Value) (news:List Value) (w:World):Prop where
 len:(Builtin.lenOf x).run P w=.ok m w
 cells:(Builtin.firstCells size m x).run P w=.ok news.toArray w

theorem News.slice {size m c:Nat} {b:Addr} {a:List Value} (d:a.length=m * size) (h:∀j v,a[j]?=some v->w.cell? (b.add j)=some v):News P size m (.slice (some b) m c) a w :=
 ⟨rfl,run_firstCells_some w size m b m c a d h⟩
theorem News.str {size:Nat} {s:ByteArray}:News P size s.size (.string s) (strCells s) w:=⟨rfl,run_firstCells_string w size s⟩

def NotInt (d:TypeDesc):Prop:=d=.string \/ ∃e,d=.slice e

theorem run_append_in {t u ty e:TypeId} {r:TypeDesc} {i:TypeInfo} (s:P.underlying t=some (.slice e)) (v:P.underlying u=some r) (l:NotInt r) (hi:P.info? e=some i)
  {b o n m c:Nat} {x:Value} {a:List Value} (p:News P i.size m x a w) (z:∀u ∈ a,u.oneCell'=true) {cur:Array Value} {q:TypeId} (y:w.heap[b]?=some (.cells cur q (0,0)))
  (d:n+m<=c) (f:o+n * i.size+a.length<=cur.size) :
  (Builtin.append_ #[t,u] ty #[.slice (some ⟨b,o,none⟩) n c,x]).run P w =
   .ok (.slice (some ⟨b,o,none⟩) (n+m) c) (w.setRow b (cur.toList.take (o+n * i.size)++a++cur.toList.drop (o+n * i.size+a.length)).toArray):=by
 have k:=run_storeCells_at P b (o+n * i.size) q a 0 cur w y (by simpa using f) z;simp only [sA] at k;have j:(⟨b,o,none⟩:Addr).add (n * i.size)=⟨b,o+n * i.size,none⟩:=by unfold Addr.add;split <;> simp_all
 rcases l with rfl | ⟨_,rfl⟩ <;> simp [Builtin.append_,run_underlying s,run_underlying v,sizeOf,typeInfo,hi,p.len,d,p.cells,j,k]

theorem qV {t u ty e:TypeId} {p:TypeDesc} {i:TypeInfo} {z:Value} (r:P.underlying t=some (.slice e)) (A:P.underlying u=some p) (j:NotInt p) (hi:P.info? e=some i) (D:i.zero=some z)
  {n m c:Nat} {a:Option Addr} {x:Value} {d b:List Value} (q:News P i.size m x b w) (k:News P i.size m x b w.drew) (C:(Builtin.firstCells i.size n (.slice a n c)).run P w.drew=.ok d.toArray w.drew)
  (f:c < n+m) (l:n+m<=maxLen) (o:Builtin.nextslicecap (n+m) c * i.bytes<=281474976710656) :
  (Builtin.append_ #[t,u] ty #[.slice a n c,x]).run P w =
   .ok (.slice (some ⟨w.heap.size,0,none⟩) (n+m) (grownCap w (n+m) c e))
    (w.drew.alloc (.cells (d.toArray++b.toArray++Builtin.zeroCells z.cells (grownCap w (n+m) c e - (n+m))) e)):=by
 have v:¬ (n+m<=c):=by omega
 have s:¬ (9223372036854775807 < ((n:Int)+(m:Int))):=by simp only [maxLen] at l;omega
 have y:¬ (281474976710656 < Builtin.nextslicecap (n+m) c * i.bytes):=by omega
 rcases j with rfl | ⟨_,rfl⟩ <;> simp [Builtin.append_,run_underlying r,run_underlying A,sizeOf,typeInfo,zeroValue,hi,D,q.len,v,s,y,C,k.cells,newRow,grownCap,Question.forced] <;> (congr 2;apply sD;simp [uy])
end
section
variable {P:Program} {w:World} {g:Gh} {h:AH} {B:Nat} {w0:World}

theorem append_row (r:Rel B w0 g h w) {t u ty e:TypeId} {du:TypeDesc} {i:TypeInfo} {z:Value} (ht:P.underlying t=some (.slice e)) (hu:P.underlying u=some du) (hdu:NotInt du) (hi:P.info? e=some i) (hz:i.zero=some z)
  (hzs:z.cells.size=i.size) (hby:i.bytes<=65536) {id q n:Nat} {es:List (List AV)} {sv x:Value} (hs:V g (.rsl id q i.size n) sv) {ys:List (List AV)} {news:List Value} (hl:∀e ∈ ys,e.length=i.size) (hva:VA g ys.flatten news) (hpu:ys.flatten.all AV.pure=true)
  (hn:∀W:World,(∀a v,w.cell? a=some v->W.cell? a=some v)->News P i.size ys.length x news W) (hb:h.blk id=some (.row q i.size es)) (hesn:es.length=n) (htok:h.toks[q]?=some n) (hlim:n+ys.length<=yK) (hy:ys.length ≠ 0) :
  ∃v w' g',(Builtin.append_ #[t,u] ty #[sv,x]).run P w=.ok v w'/\g.le g'/\Rel B w0 g' { h.put id (.row q i.size (es++ys)) with toks:=h.toks.set q (n+ys.length) } w'/\V g' (.rsl id q i.size (n+ys.length)) v:=by
 have hn0:=hn w λ_ _ h=>h;subst hesn;unfold yK at hlim;obtain ⟨hσ,ti,hti,htr,htn,hlen,hpe,hrow⟩:=r.rowAt hb;simp only [V] at hs;obtain ⟨a,c,rfl,hc1,hc2,t2,ht2,hrd,hle,hcap⟩:=hs;obtain rfl:ti=t2:=by rw [hti] at ht2;injection ht2
 have hcap:(es.length=0/\c=0) \/ ∃b o,a=some ⟨b,o,none⟩/\ti.loc=some (b,o+es.length * i.size,o+c * i.size):=hcap.imp (λh=>h) λ⟨b,o,h1,h2⟩=>⟨b,o,h1,h2 htn.symm⟩
 have hnl:news.length=ys.length * i.size:=by rw [<- hva.length,yN hl]
 have hfl:es.flatten.length=es.length * i.size:=yN hlen
 -- the row's cells
 obtain ⟨olds,hov,hold⟩:∃olds:List Value,VA g es.flatten olds/\(Builtin.firstCells i.size es.length (.slice a es.length c)).run P w.drew=.ok olds.toArray w.drew:=by
  rcases hrow with rfl | ⟨b,o,e2,cs,ty2,k1,k2,k3,k4,k5⟩
  ·refine ⟨[],by simp only [sW,VA],?_⟩;cases a with
   | none=>simp [Builtin.firstCells]
   | some ad=>simp [Builtin.firstCells,loadCells,loadCellsFrom]
  ·rcases hcap with ⟨h0,_⟩ | ⟨b',o',rfl,hl'⟩
   ·have:es=[]:=uP h0;subst this;refine ⟨[],by simp only [sW,VA],?_⟩;cases a with
    | none=>simp [Builtin.firstCells]
    | some ad=>simp [Builtin.firstCells,loadCells,loadCellsFrom]
   ·rw [k1] at hl';injection hl' with hl';injection hl' with e1 e2';injection e2' with e2' e3;obtain rfl:o=o':=by omega
    subst e1;refine ⟨_,k3,run_firstCells_some w.drew i.size es.length ⟨b,o,none⟩ es.length c _ (by rw [<- k3.length,hfl]) λj v hv=>?_⟩;rw [World.cell?_drew];have hadd:(⟨b,o,none⟩:Addr).add j=⟨b,o+j,none⟩:=by unfold Addr.add;split <;> simp_all
    rw [hadd,cell_of_row w b (o+j) cs ty2 (0,0) k2];rw [uw] at hv;split at hv
    ·rw [uF,uv] at hv;exact hv
    ·cases hv
 have hol:olds.length=es.length * i.size:=by rw [<- hov.length,hfl]
 by_cases hroom:es.length+ys.length<=c
 ·-- in place
  rcases hcap with ⟨h0,h1⟩ | ⟨b,o,rfl,hlb⟩
  ·omega
  ·obtain ⟨_,hloc⟩:=r.tok _ _ hti;have lo:=hloc b _ _ hlb;obtain ⟨cur,ty',hcur,hce⟩:=lo.cells;have hmul:es.length * i.size+news.length<=c * i.size:=by rw [hnl,<- tb];exact tw _ hroom
   have hrun:=run_append_in (ty:=ty) ht hu hdu hi hn0 hva.one' hcur hroom (o:=o) (by omega);have hold2:VA g es.flatten ((cur.toList.drop o).take (es.length * i.size))/\∀j,o<=j->g.Φ b j=none:=by
    rcases hrow with rfl | ⟨b2,o2,e2,cs,ty2,k1,k2,k3,k4,k5⟩
    ·exact ⟨by simp [VA],λj hj=>lo.free j (by simpa using hj)⟩
    ·rw [k1] at hlb;injection hlb with hl';injection hl' with e1 e2';injection e2' with e2' e3;obtain rfl:o2=o:=by omega
     subst e1;rw [hcur] at k2;injection k2 with k2;injection k2 with k2 _ _;subst k2;exact ⟨k3,k5⟩
   generalize hnew:(cur.toList.take (o+es.length * i.size)++news++cur.toList.drop (o+es.length * i.size+news.length)).toArray=new at hrun;have hfit:o+es.length * i.size+news.length<=cur.size:=by omega
   have hnsz:new.size=cur.size:=by rw [<- hnew];simp;omega
   have hlow:∀j,j < o+es.length * i.size->new[j]?=cur[j]?:=λj hj=>by
    rw [<- hnew,sE,uy,uj (by simp;omega),uw,up hj,uv]
   have r1:=r.setSpare hti hlb hcur hnsz hlow;have hheap:=setRow_heap w b cur new ty' (0,0) hcur;have hcont:(new.toList.drop o).take ((es.length+ys.length) * i.size)=(cur.toList.drop o).take (es.length * i.size)++news:=by
    rw [<- hnew];simp only [uy];rw [sY (by simp;omega),pE,uq,tb,<- hnl];rw [sd,uM (by simp;omega)];congr 1;rw [uY (by simp;omega),uM (by simp;omega)]
   let T:TI:=⟨es.length+ys.length,some (b,o+(es.length+ys.length) * i.size,o+c * i.size),true⟩
   have hle2:g.le (g.setT q T):=Gh.le_setT (t':=T) hti (by show ti.n < es.length+ys.length;omega) htr.symm;have hT:(g.setT q T).τ[q]?=some T:=uA (uc.1 hti).1;have r2:=r1.setRow (t':=T) (q:=id) hti (by show ti.n < es.length+ys.length;omega) htr rfl hσ hb (es':=es++ys)
    ⟨T,hT,rfl,by simp [T],λe he=>(uR.1 he).elim (hlen e) (hl e),by rw [tO,tD,hpe,hpu];rfl,
     .inr ⟨b,o,o+c * i.size,new,ty',by simp [T],hheap,by rw [uo,hcont,tO];exact (hold2.1.append hva).mono hle2,by rw [uo,tb];omega,hold2.2⟩⟩
    (λb' l e hl'=>by
     injection hl' with hl';injection hl' with e1 e2;injection e2 with e2 e3;subst e1 e2 e3;exact ⟨lo.lo,by simpa using lo.lt,⟨new,ty',hheap,by omega⟩,λj hj=>lo.free j (by rw [tb] at hj;omega)⟩)
    (λb' x hx=>by injection hx with hx;injection hx with e1 _;subst e1;exact .inl ⟨_,hlb⟩)
   refine ⟨_,_,_,hrun,hle2,r2,?_⟩;simp only [V];exact ⟨some ⟨b,o,none⟩,c,rfl,hroom,hc2,T,hT,rfl,uh _,.inr ⟨b,o,rfl,λ_=>rfl⟩⟩
 ·-- a new row
  have hroom':c < es.length+ys.length:=by omega
  have hrun:=qV (ty:=ty) ht hu hdu hi hz hn0 (hn w.drew λ_ _ h=>h) hold hroom' (by simp only [maxLen];omega)
   (growslice_fits hroom' (by have:=rJ hlim hby;omega))
  have hge:=grownCap_ge w (es.length+ys.length) c e;have hcm:grownCap w (es.length+ys.length) c e<=maxLen:=grownCap_le_maxLen w _ c e (by simp only [maxLen];omega);generalize hC:grownCap w (es.length+ys.length) c e=C at hrun hge hcm;generalize hrow':olds.toArray++news.toArray++Builtin.zeroCells z.cells (C - (es.length+ys.length))=row at hrun;have hrsz:row.size=C * i.size:=by
   rw [<- hrow'];simp only [ph,rI,size_zeroCells,hzs,hol,hnl,<- tb];congr 1;omega
  have hcont:(row.toList.drop 0).take ((es.length+ys.length) * i.size)=olds++news:=by
   rw [<- hrow',sq,t7,t7];rw [uY (by simp [hol,hnl,tb])];rw [uM (by simp [hol,hnl,tb])]
  have hΦn:∀j,g.Φ w.heap.size j=none:=λj=>by
   rcases he:g.Φ w.heap.size j with _ | v
   ·rfl
   ·exact absurd (r.phi_lt he) (sH _)
  have r1:=(r.drew).alloc0 (.cells row e);have hheap:(w.drew.alloc (.cells row e)).heap[w.heap.size]?=some (.cells row e (0,0)):=heap_alloc_new w.drew _;have hloc:LocOk g.Φ B (w.drew.alloc (.cells row e)) w.heap.size ((es.length+ys.length) * i.size) (C * i.size) :=
   ⟨r.bsz,by simp,⟨row,e,hheap,by omega⟩,λj _=>hΦn j⟩
  have hsig:∀(j cc:Nat),g.σ[j]?=some (some cc)->w.heap.size ≠ cc:=λj cc hj e=>by
   have hi':j < h.blks.length:=by rw [<- r.slen];exact (uc.1 hj).1
   have:=(r.blk j cc _ hj (ug hi')).2.1;omega
  have htau:∀(j:Nat) (tt:TI) (y:Nat×Nat),g.τ[j]?=some tt->tt.loc ≠ some (w.heap.size,y):=λj tt y hj e=>by
   have:=((r.tok j tt hj).2 _ _ _ e).lt;omega
  let T:TI:=⟨es.length+ys.length,some (w.heap.size,(es.length+ys.length) * i.size,C * i.size),true⟩
  have hle2:g.le (g.setT q T):=Gh.le_setT (t':=T) hti (by show ti.n < es.length+ys.length;omega) htr.symm;have hT:(g.setT q T).τ[q]?=some T:=uA (uc.1 hti).1;have r2:=r1.setRow (t':=T) (q:=id) hti (by show ti.n < es.length+ys.length;omega) htr rfl hσ hb (es':=es++ys)
   ⟨T,hT,rfl,by simp [T],λe he=>(uR.1 he).elim (hlen e) (hl e),by rw [tO,tD,hpe,hpu];rfl,
    .inr ⟨w.heap.size,0,C * i.size,row,e,by simp [T],hheap,by rw [uo,hcont,tO];exact (hov.append hva).mono hle2,by rw [uo,hrsz];simpa using tw i.size hge,λj _=>hΦn j⟩⟩
   (λb' l e' hl'=>by injection hl' with hl';injection hl' with e1 e2;injection e2 with e2 e3;subst e1 e2 e3;exact hloc)
   (λb' x hx=>by injection hx with hx;injection hx with e1 _;subst e1;exact .inr ⟨htau,hsig,r.nnew (uh _)⟩)
  refine ⟨_,_,_,hrun,hle2,r2,?_⟩;simp only [V];exact ⟨some ⟨w.heap.size,0,none⟩,C,rfl,hge,hcm,T,hT,rfl,uh _,.inr ⟨w.heap.size,0,rfl,λ_=>by simp [T]⟩⟩

theorem append_sound (r:Rel B w0 g h w) {t u ty e:TypeId} {du:TypeDesc} {i:TypeInfo} {z:Value} (ht:P.underlying t=some (.slice e)) (hu:P.underlying u=some du) (S:NotInt du) (hi:P.info? e=some i) (hz:i.zero=some z)
  (hzs:z.cells.size=i.size) (hby:i.bytes<=65536) {s s':AV} {sv x:Value} (hs:V g s sv) {G:List (List AV)} {k:List Value} (hl:∀e ∈ G,e.length=i.size) (hva:VA g G.flatten k) (hpu:G.flatten.all AV.pure=true)
  (hn:∀W:World,(∀a v,w.cell? a=some v->W.cell? a=some v)->News P i.size G.length x k W) {h':AH} (H:aAppend h i.size s G=some (s',h')) :
  ∃v w' g',(Builtin.append_ #[t,u] ty #[sv,x]).run P w=.ok v w'/\g.le g'/\Rel B w0 g' h' w'/\V g' s' v:=by
 have hn0:=hn w λ_ _ h=>h;unfold aAppend at H;split at H
 ·rename_i q k' es;simp only [V] at hs;obtain ⟨a,c,rfl,hc1,hc2,hes,hq⟩:=hs;have hnl:k.length=G.length * i.size:=by rw [<- hva.length,yN hl]
  split at H
  ·-- nothing to append
   rename_i Q;have hne:k=[]:=uP (by rw [hnl,Q];simp);subst hne;have I:=hn0.len;have J:=hn0.cells;rw [Q] at I J;have A:(Builtin.append_ #[t,u] ty #[.slice a es.length c,x]).run P w=.ok (.slice a es.length c) w:=by
    cases a with
    | none=>rcases S with rfl | ⟨_,rfl⟩ <;> simp [Builtin.append_,run_underlying ht,run_underlying hu,sizeOf,typeInfo,hi,I,J] <;> omega
    | some ad=>rcases S with rfl | ⟨_,rfl⟩ <;> simp [Builtin.append_,run_underlying ht,run_underlying hu,sizeOf,typeInfo,hi,I,J,storeCells] <;> omega
   cases q with
   | none =>
    injection H with H;injection H with D m;subst D m;simp only at hq;refine ⟨.slice a es.length c,w,g.addT ⟨es.length,none,false⟩,A,g.le_addT _,r.addTok ⟨es.length,none,false⟩ (λ_ _ _ h=>by cases h) (λ_ _ h=>by cases h),?_⟩;simp only [V];refine ⟨a,c,rfl,hc1,hc2,hes.imp id λ⟨b,o,e,hh⟩=>⟨b,o,e,hh.mono (g.le_addT _) _ _ _ _⟩,⟨es.length,none,false⟩,?_,rfl,uh _,λ_=>.inl hq⟩;simp only [Gh.addT];rw [<- r.tlen,ui (uh _)];simp
   | some id =>
    injection H with H;injection H with D m;subst D m;exact ⟨.slice a es.length c,w,g,A,Gh.le.refl g,r,by simp only [V];exact ⟨a,c,rfl,hc1,hc2,hes,hq⟩⟩
  ·rename_i Q;split at H
   ·rename_i hk;obtain ⟨rfl,hlim⟩:=hk;unfold yK at hlim;split at H
    ·rename_i id h2 d;injection H with H;injection H with D m;subst D m
     -- the two ways
     by_cases hroom:es.length+G.length<=c
     ·-- in place: there is a token
      unfold AH.grow at d;split at d
      ·simp only at hq;omega
      ·rename_i id';split at d
       ·rename_i R;injection d with d;injection d with D m;subst D m;simp only at hq;obtain ⟨ti,E,hrf,hle,hcap⟩:=hq;obtain ⟨htn,X⟩:=r.tok _ _ E;have hnn:es.length=ti.n:=by rw [R] at htn;injection htn
        rcases hcap hnn with hcc | ⟨b,o,rfl,hlb⟩
        ·omega
        ·have lo:=X b _ _ hlb;obtain ⟨cur,ty',hcur,hce⟩:=lo.cells;have hmul:es.length * i.size+k.length<=c * i.size:=by rw [hnl,<- tb];exact tw _ hroom
         have A:=run_append_in (ty:=ty) ht hu S hi hn0 hva.one' hcur hroom (o:=o) (by omega);have U:VE g b i.size o es:=by
          rcases hes with rfl | ⟨b',o',D,hh⟩
          ·simp only [VE]
          ·injection D with D;injection D with D m;subst D m;exact hh
         generalize hnew:(cur.toList.take (o+es.length * i.size)++k++cur.toList.drop (o+es.length * i.size+k.length)).toArray=new at A;have hfit:o+es.length * i.size+k.length<=cur.size:=by omega
         have hnsz:new.size=cur.size:=by rw [<- hnew];simp;omega
         have hlow:∀j,j < o+es.length * i.size->new[j]?=cur[j]?:=λj p=>by
          rw [<- hnew,sE,uy,uj (by simp;omega),uw,up p,uv]
         have hmid:∀j v,k[j]?=some v->new[o+es.length * i.size+j]?=some v:=λj v M=>by
          have p:j < k.length:=(uc.1 M).1;rw [<- hnew,sE,uy,ui (by simp;omega),uj (by simp;omega)];rw [<- M];congr 1;simp;omega
         have r1:=r.setSpare E hlb hcur hnsz hlow;have L:=setRow_heap w b cur new ty' (0,0) hcur
         -- the token
         have r2:=r1.setTok (t':=⟨es.length+G.length,some (b,o+(es.length+G.length) * i.size,o+c * i.size),false⟩) E (by show ti.n < es.length+G.length;omega) hrf rfl
          (λb' l e F=>by
           injection F with F;injection F with D m;injection m with m e3;subst D m e3;exact ⟨lo.lo,by simpa using lo.lt,⟨new,ty',L,by omega⟩,λj p=>lo.free j (by rw [tb] at p;omega)⟩)
          (λb' x hx=>by injection hx with hx;injection hx with D _;subst D;exact .inl ⟨_,hlb⟩)
         -- the promise
         have r3:=r2.vow (b:=b) (f:=λj=>if o+es.length * i.size<=j/\j < o+(es.length+G.length) * i.size then new[j]? else none)
          (λj v M=>by
           split at M
           ·rw [cell_of_row _ b j new ty' (0,0) L];exact M
           ·cases M)
          (λj cc hcj _=>(r.sep j cc _ ti b _ hcj E hlb).symm)
          (λj tt l e p O=>by
           by_cases hjid:j=id'
           ·subst hjid;simp only [Gh.setT] at p;rw [uA (uc.1 E).1] at p;injection p with p;subst p;injection O with O;injection O with D m;injection m with m e3;subst m e3;exact ⟨rfl,λjj hjj=>by rw [uu (by omega)]⟩
           ·simp only [Gh.setT] at p;rw [uK (λe=>hjid e.symm)] at p;exact absurd (r.tinj _ _ _ _ b _ _ p E O hlb) hjid)
          (r.ntok E hlb)
         have hle2:=Gh.le_setT (t':=⟨es.length+G.length,some (b,o+(es.length+G.length) * i.size,o+c * i.size),false⟩) E (by show ti.n < es.length+G.length;omega) hrf.symm;have N:=hle2.trans (Gh.le_vow (g.setT id' ⟨es.length+G.length,some (b,o+(es.length+G.length) * i.size,o+c * i.size),false⟩) b
          (λj=>if o+es.length * i.size<=j/\j < o+(es.length+G.length) * i.size then new[j]? else none))
         refine ⟨_,_,_,A,N,r3,?_⟩;simp only [V];refine ⟨some ⟨b,o,none⟩,c,by simp,by simpa using hroom,hc2,.inr ⟨b,o,rfl,?_⟩,_,uA (uc.1 E).1,rfl,by simp,λ_=>.inr ⟨b,o,rfl,by simp⟩⟩;refine VE.append (U.mono N _ _ _ _) (VE_iff.2 ⟨hl,VC.ofVA (hva.mono N _ _) hpu λj v M=>?_⟩);have p:j < k.length:=(uc.1 M).1;simp only [Gh.vow,Gh.setT,ut];rw [lo.free _ (by omega),up ⟨by omega,by rw [tb];omega⟩];exact hmid j v M
       ·cases d
     ·-- a new row
      have Z:c < es.length+G.length:=by omega
      have hfl:es.flatten.length=es.length * i.size:=by
       rcases hes with rfl | ⟨b,o,_,U⟩
       ·simp
       ·exact yN (VE_iff.1 U).1
      obtain ⟨K,⟨hov,hopu⟩,hold⟩:∃K:List Value,(VA g es.flatten K/\es.flatten.all AV.pure=true)/\(Builtin.firstCells i.size es.length (.slice a es.length c)).run P w.drew=.ok K.toArray w.drew:=by
       rcases hes with rfl | ⟨b,o,rfl,U⟩
       ·refine ⟨[],⟨by simp only [sW,VA],rfl⟩,?_⟩;cases a with
        | none=>simp [Builtin.firstCells]
        | some ad=>simp [Builtin.firstCells,loadCells,loadCellsFrom]
       ·obtain ⟨us,hus,hup,hΦ⟩:=VC.toVA (VE_iff.1 U).2;refine ⟨us,⟨hus,hup⟩,run_firstCells_some w.drew i.size es.length ⟨b,o,none⟩ es.length c us (by rw [<- hus.length,hfl]) λj v M=>?_⟩;rw [World.cell?_drew];have hadd:(⟨b,o,none⟩:Addr).add j=⟨b,o+j,none⟩:=by unfold Addr.add;split <;> simp_all
        rw [hadd];exact r.phi _ _ _ (hΦ j v M)
      have hol:K.length=es.length * i.size:=by rw [<- hov.length,hfl]
      have A:=qV (ty:=ty) ht hu S hi hz hn0 (hn w.drew λ_ _ h=>h) hold Z (by simp only [maxLen];omega)
       (growslice_fits Z (by have:=rJ hlim hby;omega))
      have hge:=grownCap_ge w (es.length+G.length) c e;have hcm:grownCap w (es.length+G.length) c e<=maxLen:=grownCap_le_maxLen w _ c e (by simp only [maxLen];omega);generalize hC:grownCap w (es.length+G.length) c e=C at A hge hcm;generalize hrow:K.toArray++k.toArray++Builtin.zeroCells z.cells (C - (es.length+G.length))=row at A;have hrsz:row.size=C * i.size:=by
       rw [<- hrow];simp only [ph,rI,size_zeroCells,hzs,hol,hnl,<- tb];congr 1;omega
      have hrl:∀j v,(K++k)[j]?=some v->row[j]?=some v:=λj v M=>by
       rw [<- hrow,<- uv];simp only [t7];rw [uj (by simpa using (uc.1 M).1)];exact M
      have hbl:∀j v,g.Φ w.heap.size j=some v->False:=λj v M=>absurd (r.phi_lt M) (sH _);have hΦn:∀j,g.Φ w.heap.size j=none:=λj=>by
       rcases he:g.Φ w.heap.size j with _ | v
       ·rfl
       ·exact (hbl j v he).elim
      have r1:=(r.drew).alloc0 (.cells row e);have L:(w.drew.alloc (.cells row e)).heap[w.heap.size]?=some (.cells row e (0,0)):=heap_alloc_new w.drew _;have X:LocOk g.Φ B (w.drew.alloc (.cells row e)) w.heap.size ((es.length+G.length) * i.size) (C * i.size) :=
       ⟨r.bsz,by simp,⟨row,e,L,by omega⟩,λj _=>hΦn j⟩
      have hsig:∀(j cc:Nat),g.σ[j]?=some (some cc)->w.heap.size ≠ cc:=λj cc p e=>by
       have hi':j < h.blks.length:=by rw [<- r.slen];exact (uc.1 p).1
       have:=(r.blk j cc _ p (ug hi')).2.1;omega
      have Y:∀(j:Nat) (tt:TI) (y:Nat×Nat),g.τ[j]?=some tt->tt.loc ≠ some (w.heap.size,y):=λj tt y p e=>by
       have:=((r.tok j tt p).2 _ _ _ e).lt;omega
      let T:TI:=⟨es.length+G.length,some (w.heap.size,(es.length+G.length) * i.size,C * i.size),false⟩
      have R:∃g2,g.le g2/\Rel B w0 g2 h2 (w.drew.alloc (.cells row e))/\g2.τ[id]?=some T/\g2.Φ=g.Φ/\(∀(j:Nat) (tt:TI) (l e':Nat),g2.τ[j]?=some tt->tt.loc=some (w.heap.size,l,e')->tt=T)/\g2.σ=g.σ:=by
       unfold AH.grow at d;split at d
       ·injection d with d;injection d with D m;subst D m;refine ⟨g.addT T,g.le_addT T,r1.addTok T (λb l e' F=>?_) (λb x hx=>?_),?_,rfl,λj tt l e' p F=>?_,rfl⟩
        ·injection F with F;injection F with D m;injection m with m e3;subst D m e3;exact X
        ·injection hx with hx;injection hx with D _;subst D;exact ⟨Y,hsig,r.nnew (uh _)⟩
        ·simp only [Gh.addT];rw [<- r.tlen,ui (uh _)];simp
        ·simp only [Gh.addT] at p;rcases tz j g.τ.length with hjl | hjl
         ·rw [uj hjl] at p;exact absurd F (Y _ _ _ p)
         ·rw [ui hjl] at p;have:=uN p;simpa using this
       ·rename_i id';split at d
        ·rename_i R;injection d with d;injection d with D m;subst D m;simp only at hq;obtain ⟨ti,E,hrf,hle,_⟩:=hq;have hti':=E;obtain ⟨htn,_⟩:=r.tok _ _ E;have hnn:es.length=ti.n:=by rw [R] at htn;injection htn
         refine ⟨g.setT id' T,Gh.le_setT (t':=T) E (by show ti.n < es.length+G.length;omega) hrf.symm,r1.setTok E (by show ti.n < es.length+G.length;omega) hrf rfl (λb l e' F=>?_) (λb x hx=>?_),?_,rfl,λj tt l e' p F=>?_,rfl⟩
         ·injection F with F;injection F with D m;injection m with m e3;subst D m e3;exact X
         ·injection hx with hx;injection hx with D _;subst D;exact .inr ⟨Y,hsig,r.nnew (uh _)⟩
         ·exact uA (uc.1 E).1
         ·simp only [Gh.setT] at p;by_cases hjid:j=id'
          ·subst hjid;rw [uA (uc.1 E).1] at p;injection p with p;exact p.symm
          ·rw [uK (λe=>hjid e.symm)] at p;exact absurd F (Y _ _ _ p)
        ·cases d
      obtain ⟨g2,hg2,r2,hT,hΦ2,hT2,hσ2⟩:=R;have r3:=r2.vow (b:=w.heap.size) (f:=λj=>if j < (es.length+G.length) * i.size then row[j]? else none)
       (λj v M=>by
        split at M
        ·rw [cell_of_row _ _ j row e (0,0) L];exact M
        ·cases M)
       (λj cc hcj _ e=>hsig j cc (by rw [<- hσ2];exact hcj) e.symm)
       (λj tt l e' p O=>by
        have:=hT2 j tt l e' p O;subst this;injection O with O;injection O with _ m;injection m with m _;subst m;exact ⟨rfl,λjj hjj=>by rw [uu (by omega)]⟩)
       (r2.ntok hT rfl)
      have N:=hg2.trans (g2.le_vow w.heap.size λj=>if j < (es.length+G.length) * i.size then row[j]? else none);refine ⟨_,_,_,A,N,r3,?_⟩;simp only [V];refine ⟨some ⟨w.heap.size,0,none⟩,C,by simp,by simpa using hge,hcm,.inr ⟨w.heap.size,0,rfl,?_⟩,T,hT,rfl,by simp [T],λ_=>.inr ⟨w.heap.size,0,rfl,by simp [T]⟩⟩;refine VE_iff.2 ⟨?_,?_⟩
      ·intro e he;rcases uR.1 he with he | he
       ·rcases hes with rfl | ⟨b,o,_,U⟩
        ·cases he
        ·exact (VE_iff.1 U).1 e he
       ·exact hl e he
      ·rw [tO];refine VC.ofVA (VA.mono N _ _ (hov.append hva)) (by rw [tD,hopu,hpu];rfl) λj v M=>?_;have p:j < (K++k).length:=(uc.1 M).1;simp only [Gh.vow,ut,hΦ2,hΦn,uZ];rw [up (by rw [tb];simp at p;omega)];exact hrl j v M
    ·cases H
   ·cases H
 ·rename_i id q k' n;split at H
  ·rename_i Q;injection H with H;injection H with D m;subst D m;have hs':=hs;simp only [V] at hs;obtain ⟨a,c,rfl,hc1,hc2,hq⟩:=hs;have hnl:k.length=G.length * i.size:=by rw [<- hva.length,yN hl]
   have hne:k=[]:=uP (by rw [hnl,Q];simp);subst hne;have I:=hn0.len;have J:=hn0.cells;rw [Q] at I J;have A:(Builtin.append_ #[t,u] ty #[.slice a n c,x]).run P w=.ok (.slice a n c) w:=by
    cases a with
    | none=>rcases S with rfl | ⟨_,rfl⟩ <;> simp [Builtin.append_,run_underlying ht,run_underlying hu,sizeOf,typeInfo,hi,I,J] <;> omega
    | some ad=>rcases S with rfl | ⟨_,rfl⟩ <;> simp [Builtin.append_,run_underlying ht,run_underlying hu,sizeOf,typeInfo,hi,I,J,storeCells] <;> omega
   exact ⟨_,w,g,A,Gh.le.refl g,r,hs'⟩
  ·rename_i Q;split at H
   ·rename_i t' k'' es hb;split at H
    ·rename_i hc;obtain ⟨⟨rfl,rfl,rfl⟩,h1,h2,h3⟩:=hc;injection H with H;injection H with D m;subst D m;exact append_row r ht hu S hi hz hzs hby hs hl hva hpu hn hb h1 h2 h3 Q
    ·cases H
   ·cases H
 ·cases H
theorem append_new (r:Rel B w0 g h w) {t u ty e:TypeId} {du:TypeDesc} {i:TypeInfo} {z:Value} (ht:P.underlying t=some (.slice e)) (hu:P.underlying u=some du) (J:NotInt du) (hi:P.info? e=some i) (hz:i.zero=some z)
  (Z:z.cells.size=i.size) (hby:i.bytes<=65536) {sv x:Value} (hs:V g (.osl none i.size []) sv) {m:List (List AV)} {d:List Value} (U:∀e ∈ m,e.length=i.size) (Q:VA g m.flatten d) (X:m.flatten.all AV.pure=true)
  (hn:∀W:World,(∀a v,w.cell? a=some v->W.cell? a=some v)->News P i.size m.length x d W) (E:m.length<=yK) :
  ∃v w' g',(Builtin.append_ #[t,u] ty #[sv,x]).run P w=.ok v w'/\g.le g'/\Rel B w0 g' h w'/\V g' (.nsl i.size m) v:=by
 have L:=hn w λ_ _ h=>h;simp only [V] at hs;obtain ⟨a,c,rfl,hc1,hc2,_,S⟩:=hs;simp only [uV] at S;subst S;have R:d.length=m.length * i.size:=by rw [<- Q.length,yN U]
 by_cases hy0:m.length=0
 ·have hne:d=[]:=uP (by rw [R,hy0];simp);have hye:m=[]:=uP hy0;subst hne;have p:=L.len;have s:=L.cells;rw [hy0] at p s;have k:(Builtin.append_ #[t,u] ty #[.slice a ([]:List (List AV)).length 0,x]).run P w=.ok (.slice a 0 0) w:=by
   cases a with
   | none=>rcases J with rfl | ⟨_,rfl⟩ <;> simp [Builtin.append_,run_underlying ht,run_underlying hu,sizeOf,typeInfo,hi,p,s]
   | some ad=>rcases J with rfl | ⟨_,rfl⟩ <;> simp [Builtin.append_,run_underlying ht,run_underlying hu,sizeOf,typeInfo,hi,p,s,storeCells]
  refine ⟨_,w,g,k,Gh.le.refl g,r,?_⟩;subst hye;simp only [V];exact ⟨a,0,rfl,uh _,hc2,.inl trivial⟩
 ·have n:0 < ([]:List (List AV)).length+m.length:=by simp;omega
  have O:(Builtin.firstCells i.size ([]:List (List AV)).length (.slice a ([]:List (List AV)).length 0)).run P w.drew=.ok ([]:List Value).toArray w.drew:=by
   cases a with
   | none=>simp [Builtin.firstCells]
   | some ad=>simp [Builtin.firstCells,loadCells,loadCellsFrom]
  unfold yK at E;have k:=qV (ty:=ty) ht hu J hi hz L (hn w.drew λ_ _ h=>h) O n (by simp only [maxLen,uV];omega)
   (growslice_fits n (by have:=rJ E hby;simp only [uV,uZ];omega))
  have H:=grownCap_ge w (([]:List (List AV)).length+m.length) 0 e;have K:grownCap w (([]:List (List AV)).length+m.length) 0 e<=maxLen:=grownCap_le_maxLen w _ 0 e (by simp only [maxLen,uV];omega);generalize hC:grownCap w (([]:List (List AV)).length+m.length) 0 e=C at k H K;simp only [uV,uZ] at H K k;generalize hrow:([]:List Value).toArray++d.toArray++Builtin.zeroCells z.cells (C - m.length)=row at k;have hrsz:row.size=C * i.size:=by
   rw [<- hrow];simp only [ph,rI,size_zeroCells,Z,R,uV,uZ,<- tb];congr 1;omega
  have hrl:∀j v,d[j]?=some v->row[j]?=some v:=λj v A=>by
   rw [<- hrow,<- uv];simp only [t7,u6];rw [uj (by simpa using (uc.1 A).1)];exact A
  have T:∀j,g.Φ w.heap.size j=none:=λj=>by
   rcases he:g.Φ w.heap.size j with _ | v
   ·rfl
   ·exact absurd (r.phi_lt he) (sH _)
  have r1:=(r.drew).alloc0 (.cells row e);have o:(w.drew.alloc (.cells row e)).heap[w.heap.size]?=some (.cells row e (0,0)):=heap_alloc_new w.drew _;have hN:g.N w.heap.size=none:=r.nnew (uh _);have F:∀(j M:Nat),g.σ[j]?=some (some M)->w.heap.size ≠ M:=λj M q e=>by
   have hi':j < h.blks.length:=by rw [<- r.slen];exact (uc.1 q).1
   have:=(r.blk j M _ q (ug hi')).2.1;omega
  have D:∀(j:Nat) (I:TI) (y:Nat×Nat),g.τ[j]?=some I->I.loc ≠ some (w.heap.size,y):=λj I y q e=>by
   have:=((r.tok j I q).2 _ _ _ e).lt;omega
  have r3:=r1.vow (b:=w.heap.size) (f:=λj=>if j < m.length * i.size then row[j]? else none)
   (λj v A=>by
    split at A
    ·rw [cell_of_row _ _ j row e (0,0) o];exact A
    ·cases A)
   (λj M Y _ e=>F j M Y e.symm)
   (λj I l e' q hlj=>absurd hlj (D _ _ _ q)) hN
  have r4:=r3.mark (b:=w.heap.size) (r.nnew (uh _)) r.bsz o ⟨λj q=>F j _ q rfl,λhc=>sH _ (r.dfr_lt hc),λj I y q U=>D j I y q U⟩ (r.nold (uh _));have G:=(g.le_vow w.heap.size λj=>if j < m.length * i.size then row[j]? else none).trans (Gh.le_addN (.new row.size) (r.nnew (uh _)));refine ⟨_,_,_,k,G,r4,?_⟩;simp only [V];refine ⟨some ⟨w.heap.size,0,none⟩,C,rfl,H,K,.inr ⟨w.heap.size,0,rfl,VE_iff.2 ⟨U,?_⟩,row.size,by simp [Gh.addN]⟩⟩;refine VC.ofVA (VA.mono G _ _ Q) X λj v A=>?_;have q:j < d.length:=(uc.1 A).1;simp only [Gh.addN,Gh.vow,ut,T,uZ];rw [up (by omega)];exact hrl j v A
end
end Go.Vv
