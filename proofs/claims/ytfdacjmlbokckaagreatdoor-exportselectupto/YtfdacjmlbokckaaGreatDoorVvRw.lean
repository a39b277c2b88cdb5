/- Mutable rows: how one begins, and how it is cut. -/
import Derived.Test.YtfdacjmlbokckaaGreatDoorVvF
import Derived.Test.YtfdacjmlbokckaaGreatDoorVvMp
import Derived.Maps.RangeRun
import Derived.RangeFuncRecord
import Derived.Laws.IdiomStrings
import Derived.Lib.ItoaMem
import Derived.Lib.AppendIntMem
set_option linter.all false
namespace Go.Vv
open Go Go.RowKit
section
variable {B:Nat} {w0 w:World} {g:Gh} {h:AH}
theorem Rel.adoptN (r:Rel B w0 g h w) (k:Blk) (hk:RowB (g.addS none) w k) (hn:∀ t k1 es,k=.row t k1 es→∀ (i k2:Nat) (es2:List (List AV)),h.blks[i]? ≠ some (.row t k2 es2)) :
  Rel B w0 (g.addS none) (h.new k) w:=by
 have key:∀ (i:Nat) (x:Blk),(h.blks++[k])[i]?=some x→(h.blks[i]?=some x∧i < h.blks.length) ∨ (i=h.blks.length∧x=k):=by
  grind
 refine ⟨r.below,r.bsz,r.phi,by simp [Gh.addS,AH.new,r.slen],fun i c q hc hq=>?_,r.tlen,r.tok,fun i j c hi hj=>?_,r.tinj,fun i c j t b x hi hj hx=>?_,fun c hc=>⟨(r.dfr c hc).1,(r.dfr c hc).2.1,fun i hi=>?_⟩,
  fun i q hi hq=>?_,fun i j t k1 k2 es es' hi hj=>?_,fun b x hb=>(r.nb b x hb).mono fun _ _ ha=>⟨rfl,⟨fun i hi=>(addS_get hi).elim (fun hi=>ha.1 i hi) (fun he=>nomatch he.2),ha.2⟩,fun h=>h⟩,r.ob,fun b hb=>⟨fun i hi=>(addS_get hi).elim (fun hi=>(r.oa b hb).1 i hi) (fun he=>nomatch he.2),(r.oa b hb).2⟩⟩
 ·rcases addS_get hc with hc | ⟨_,he⟩
  ·have hl:i < h.blks.length:=by rw [← r.slen];exact (List.getElem?_eq_some_iff.1 hc).1
   rcases key i q hq with ⟨hq,_⟩ | ⟨rfl,_⟩
   ·obtain ⟨h1,h2,h3,h4⟩:=r.blk i c q hc hq
    exact ⟨h1,h2,h3.mono (g.le_addS _) rfl,h4⟩
   ·omega
  ·cases he
 ·rcases addS_get hi with hi | ⟨_,he⟩
  ·rcases addS_get hj with hj | ⟨_,he⟩
   ·exact r.sinj i j c hi hj
   ·cases he
  ·cases he
 ·rcases addS_get hi with hi | ⟨_,he⟩
  ·exact r.sep i c j t b x hi hj hx
  ·cases he
 ·rcases addS_get hi with hi | ⟨_,he⟩
  ·exact (r.dfr c hc).2.2 i hi
  ·cases he
 ·rcases key i q hq with ⟨hq,hl⟩ | ⟨_,rfl⟩
  ·rcases addS_get hi with hi | ⟨e,_⟩
   ·exact (r.row i q hi hq).mono (g.le_addS _) (fun _ _ h _=>h) (fun _ _ _ _ _ _ _=>⟨rfl,fun _=>rfl⟩)
   ·rw [r.slen] at e;omega
  ·exact hk
 ·rcases key i _ hi with ⟨hi1,_⟩ | ⟨rfl,e1⟩ <;> rcases key j _ hj with ⟨hj1,_⟩ | ⟨rfl,e2⟩
  ·exact r.rinj _ _ _ _ _ _ _ hi1 hj1
  ·grind
  ·grind
  ·rfl
theorem Rel.row_lt (r:Rel B w0 g h w) {i t k:Nat} {es:List (List AV)} (hk:h.blks[i]?=some (.row t k es)):t < g.τ.length:=by
 obtain ⟨_,u,hu,_⟩:=r.rowAt hk
 grind
theorem Rel.newRowT (r:Rel B w0 g h w) (t:TI) (k:Nat) (es:List (List AV)) (hloc:∀ b l e,t.loc=some (b,l,e)→LocOk g.Φ B w b l e)
  (hd:∀ b x,t.loc=some (b,x)→(∀ (j:Nat) (u:TI) (y:Nat×Nat),g.τ[j]?=some u→u.loc ≠ some (b,y))∧(∀ (j c:Nat),g.σ[j]?=some (some c)→b ≠ c)∧g.N b=none∧¬ g.O b)
  (hrow:RowOk ((g.addT t).addS none) w g.τ.length k es) :
  Rel B w0 ((g.addT t).addS none) (({ h with toks:=h.toks++[t.n] }:AH).new (.row g.τ.length k es)) w:=by
 refine (r.addTok t hloc hd).adoptN _ hrow fun t' k1 es1 e i k2 es2 hi=>?_
 injection e with e1 _ _
 subst e1
 exact Nat.lt_irrefl _ (r.row_lt hi)

theorem Rel.setRowG (r:Rel B w0 g h w) {i q k:Nat} {t t':TI} {es:List (List AV)} {nb:Blk} (hi:g.τ[i]?=some t) (hn:t.n < t'.n) (hf:t.row=true) (hf':t'.row=true)
  (hq:g.σ[q]?=some none) (hb:h.blks[q]?=some (.row i k es)) (hrow:RowB (g.setT i t') w nb) (hnb:∀ t k es,nb=.row t k es→t=i)
  (hloc:∀ b l e,t'.loc=some (b,l,e)→LocOk g.Φ B w b l e)
  (hd:∀ b x,t'.loc=some (b,x)→(∃ y,t.loc=some (b,y)) ∨ ((∀ (j:Nat) (u:TI) (y:Nat×Nat),g.τ[j]?=some u→u.loc ≠ some (b,y))∧(∀ (j c:Nat),g.σ[j]?=some (some c)→b ≠ c)∧g.N b=none∧¬ g.O b)) :
  Rel B w0 (g.setT i t') { h.put q nb with toks:=h.toks.set i t'.n } w:=by
 have hlt:i < g.τ.length:=(List.getElem?_eq_some_iff.1 hi).1
 have hle:=Gh.le_setT hi hn (hf'.trans hf.symm)
 have key:∀ (j:Nat) (u:TI),(g.setT i t').τ[j]?=some u→(j=i∧u=t') ∨ (j ≠ i∧g.τ[j]?=some u):=by
  intro j u e
  simp only [Gh.setT] at e
  grind
 have hql:q < h.blks.length:=(List.getElem?_eq_some_iff.1 hb).1
 have bkey:∀ (j:Nat) (b:Blk),(h.blks.set q nb)[j]?=some b→(j=q∧b=nb) ∨ (j ≠ q∧h.blks[j]?=some b):=by
  grind
 refine ⟨r.below,r.bsz,r.phi,by simp [AH.put,Gh.setT,r.slen],fun i' c b hc hk=>?_,by simp [Gh.setT,r.tlen],fun j u hu=>?_,r.sinj,fun j j' u u' b x y hj hj' hx hy=>?_,fun j c j' u b x hc hu hx=>?_,r.dfr,
  fun j b hj hk=>?_,fun j1 j2 t1 k1 k2 e1 e2 hj1 hj2=>?_,fun b x hb=>?_,r.ob,fun b hb=>?_⟩
 rotate_right
 rotate_right
 ·exact (r.nb b x hb).mono fun _ _ ha=>⟨rfl,⟨ha.1,ha.2.1,fun j u y hu hl=>by
    rcases key j u hu with ⟨rfl,rfl⟩ | ⟨_,hu⟩
    ·rcases hd b y hl with ⟨z,hz⟩ | ⟨_,_,h3,_⟩
     ·exact ha.2.2 _ _ z hi hz
     ·have hb:g.N b=some x:=hb
      grind
    ·exact ha.2.2 j u y hu hl⟩,fun h=>h⟩
 ·have ha:=r.oa b hb
  refine ⟨ha.1,ha.2.1,fun j u y hu hl=>?_⟩
  rcases key j u hu with ⟨rfl,rfl⟩ | ⟨_,hu⟩
  ·rcases hd b y hl with ⟨z,hz⟩ | ⟨_,_,_,h3⟩
   ·exact ha.2.2 _ _ z hi hz
   ·exact h3 hb
  ·exact ha.2.2 j u y hu hl
 ·have hc:g.σ[i']?=some (some c):=hc
  rcases bkey i' b hk with ⟨rfl,rfl⟩ | ⟨hne,hk⟩
  ·simp_all
  ·obtain ⟨h1,h2,h3,h4⟩:=r.blk i' c b hc hk
   exact ⟨h1,h2,h3.mono hle rfl,h4⟩
 ·rcases key j u hu with ⟨rfl,rfl⟩ | ⟨hj,hu⟩
  ·exact ⟨List.getElem?_set_self (by rw [← r.tlen];exact hlt),hloc⟩
  ·obtain ⟨h1,h2⟩:=r.tok j u hu
   exact ⟨by grind,h2⟩
 ·rcases key j u hj with ⟨rfl,rfl⟩ | ⟨hne,hj2⟩ <;> rcases key j' u' hj' with ⟨rfl,rfl⟩ | ⟨hne',hj'⟩
  ·rfl
  ·rcases hd b x hx with ⟨z,hz⟩ | ⟨h1,_⟩
   ·exact r.tinj _ _ _ _ b z y hi hj' hz hy
   ·grind
  ·rcases hd b y hy with ⟨z,hz⟩ | ⟨h1,_⟩
   ·exact r.tinj _ _ _ _ b x z hj2 hi hx hz
   ·grind
  ·exact r.tinj _ _ _ _ b x y hj2 hj' hx hy
 ·rcases key j' u hu with ⟨rfl,rfl⟩ | ⟨hne,hu⟩
  ·rcases hd b x hx with ⟨z,hz⟩ | ⟨_,h2,_⟩
   ·exact r.sep j c _ t b z hc hi hz
   ·exact h2 j c hc
  ·exact r.sep j c j' u b x hc hu hx
 ·rcases bkey j b hk with ⟨rfl,rfl⟩ | ⟨hne,hk2⟩
  ·omega
  ·have hr:=r.row j b hj hk2
   cases b with
   | row i2 k2 e2 =>
    have hr:RowOk g w i2 k2 e2:=hr
    have hi2:i2 ≠ i:=by rintro rfl;exact hne (r.rinj _ _ _ _ _ _ _ hk2 hb)
    exact hr.mono hle (by simp only [Gh.setT];exact List.getElem?_set_ne (fun e=>hi2 e.symm)) (fun _ _ _ _ _ _=>⟨rfl,fun _=>rfl⟩)
   | dead=>trivial
   | _=>exact hr.elim
 ·rcases bkey j1 _ hj1 with ⟨rfl,he1⟩ | ⟨hne1,hk1⟩ <;> rcases bkey j2 _ hj2 with ⟨rfl,he2⟩ | ⟨hne2,hk2⟩
  ·rfl
  ·have:=hnb _ _ _ he1.symm;subst this
   exact r.rinj _ _ _ _ _ _ _ hb hk2
  ·have:=hnb _ _ _ he2.symm;subst this
   exact r.rinj _ _ _ _ _ _ _ hk1 hb
  ·exact r.rinj _ _ _ _ _ _ _ hk1 hk2

def AH.shr (h:AH) (id tk k n:Nat) (es:List (List AV)):AH:=({ h.put id .dead with toks:=h.toks.set tk (es.length+1)++[n] }:AH).new (.row h.toks.length k (es.take n))
theorem flat_takeN {k:Nat}:∀ (n:Nat) (es:List (List AV)),(∀ e ∈ es,e.length=k)→n≤es.length→(es.take n).flatten=es.flatten.take (n * k)
 | 0,_,_,_=>by simp
 | n+1,[],_,h=>by simp at h
 | n+1,e::r,hk,h=>by
  have h1:=hk e List.mem_cons_self
  simp only [List.take_succ_cons,List.flatten_cons]
  rw [flat_takeN n r (fun x hx=>hk x (List.mem_cons_of_mem _ hx)) (by simpa using h),List.take_append,h1]
  have h2:(n+1) * k - k=n * k:=by grind
  have h3:e.take ((n+1) * k)=e:=List.take_of_length_le (by grind)
  rw [h2,h3]
def locOf (a:Option Addr) (n c k:Nat):Option (Nat×Nat×Nat):=match a with
 | some ⟨b,o,none⟩=>if c=0 then none else some (b,o+n * k,o+c * k)
 | _=>none
theorem Rel.shrink (r:Rel B w0 g h w) {id tk k n c:Nat} {es:List (List AV)} (hb:h.blk id=some (.row tk k es)) (hn:n≤es.length) {a a':Option Addr} (ha:a'=a ∨ a'=a.map (·.add 0))
  (hV:V g (.rsl id tk k es.length) (.slice a es.length c)) :
  ∃ g',g.le g'∧Rel B w0 g' (h.shr id tk k n es) w∧V g' (.rsl h.blks.length h.toks.length k n) (.slice a' n c):=by
 obtain ⟨hq,t,ht,htr,htn,hlen,hpure,hrow⟩:=r.rowAt hb
 simp only [V] at hV
 obtain ⟨ad,cc,he,hnc,hcm,u,hu,hur,hun,hhd⟩:=hV
 simp only [Value.slice.injEq] at he
 obtain ⟨rfl,_,rfl⟩:=he
 rw [ht] at hu
 injection hu with hu
 subst hu
 have hbq:h.blks[id]?=some (.row tk k es):=hb
 let told:TI:=⟨es.length+1,none,true⟩
 have r1:=r.setRowG (t':=told) (nb:=.dead) ht (by grind) htr rfl hq hbq trivial (fun _ _ _ e=>by cases e) (fun _ _ _ e=>by cases e) (fun _ _ e=>by cases e)
 have hlt:tk < g.τ.length:=(List.getElem?_eq_some_iff.1 ht).1
 have hle1:g.le (g.setT tk told):=Gh.le_setT ht (by grind) htr.symm
 have hloc:t.loc=t.loc:=rfl
 -- where the new one lies
 let tnew:TI:=⟨n,locOf a n c k,true⟩
 have other:∀ (j:Nat) (v:TI),(g.setT tk told).τ[j]?=some v→(j=tk∧v=told) ∨ (j ≠ tk∧g.τ[j]?=some v):=by
  intro j v e
  simp only [Gh.setT] at e
  grind
 have L:∀ b l e,tnew.loc=some (b,l,e)→∃ o,a=some ⟨b,o,none⟩∧l=o+n * k∧e=o+c * k∧t.loc=some (b,o+es.length * k,o+c * k):=by
  intro b l e hl
  simp only [tnew,locOf] at hl
  grind
 have free:∀ b o,t.loc=some (b,o+es.length * k,o+c * k)→∀ j,o+n * k≤j→g.Φ b j=none:=by
  intro b o hl j hj
  rcases hrow with rfl | ⟨b2,o2,e2,cs,ty,k1,k2,k3,k4,k5⟩
  ·have:=(r.tok tk t ht).2 _ _ _ hl
   exact this.free j (by simp_all)
  ·grind
 have hlocN:∀ b l e,tnew.loc=some (b,l,e)→LocOk (g.setT tk told).Φ B w b l e:=by
  intro b l e hl
  obtain ⟨o,_,rfl,rfl,h4⟩:=L b l e hl
  have h5:=(r.tok tk t ht).2 _ _ _ h4
  exact ⟨h5.lo,h5.lt,h5.cells,fun j hj=>free b o h4 j hj⟩
 have hdN:∀ b x,tnew.loc=some (b,x)→(∀ (j:Nat) (u:TI) (y:Nat×Nat),(g.setT tk told).τ[j]?=some u→u.loc ≠ some (b,y))∧(∀ (j c:Nat),(g.setT tk told).σ[j]?=some (some c)→b ≠ c)∧(g.setT tk told).N b=none∧¬ (g.setT tk told).O b:=by
  rintro b ⟨l,e⟩ hl
  obtain ⟨o,_,_,_,h4⟩:=L b l e hl
  refine ⟨fun j v y hj hv=>?_,fun j c' hj=>r.sep j c' tk t b _ hj ht h4,r.ntok ht h4,r.otok ht h4⟩
  rcases other j v hj with ⟨rfl,rfl⟩ | ⟨hne,hj⟩
  ·cases hv
  ·exact hne (r.tinj _ _ _ _ b _ _ hj ht hv h4)
 have hlen':(g.setT tk told).τ.length=h.toks.length:=by simp [Gh.setT,r.tlen]
 have hgt:(((g.setT tk told).addT tnew).addS none).τ[h.toks.length]?=some tnew:=by
  simp only [Gh.addS,Gh.addT]
  simp_all
 have hcc:es ≠ []→c ≠ 0:=by
  grind
 have hrowN:RowOk (((g.setT tk told).addT tnew).addS none) w (g.setT tk told).τ.length k (es.take n):=by
  rw [hlen']
  refine ⟨tnew,hgt,rfl,by grind,fun e he=>hlen e (List.mem_of_mem_take he),?_,?_⟩
  ·grind
  ·by_cases hes:es=[]
   ·grind
   ·right
    rcases hrow with h0 | ⟨b2,o2,e2,cs,ty,k1,k2,k3,k4,k5⟩
    ·simp_all
    ·rcases hhd with ⟨h1,_⟩ | ⟨b,o,h2,h3⟩
     ·grind
     ·have h3:=h3 htn.symm
      rw [k1] at h3
      simp only [Option.some.injEq,Prod.mk.injEq] at h3
      obtain ⟨rfl,h5,rfl⟩:=h3
      have:o2=o:=by omega
      subst this
      have hnk:n * k≤es.length * k:=Nat.mul_le_mul_right k hn
      refine ⟨b2,o2,o2+c * k,cs,ty,?_,k2,?_,?_,fun j hj=>k5 j hj⟩
      ·simp only [tnew,locOf,h2,if_neg (hcc hes),List.length_take,Nat.min_eq_left hn]
      ·rw [flat_takeN n es hlen hn,List.length_take,Nat.min_eq_left hn]
       have:=VA.take (n * k) k3
       rw [List.take_take,Nat.min_eq_left hnk] at this
       exact VA.mono ((hle1.trans (Gh.le_addT _ _)).trans (Gh.le_addS _ _)) _ _ this
      ·grind
 have r2:=r1.newRowT tnew k (es.take n) hlocN hdN hrowN
 refine ⟨((g.setT tk told).addT tnew).addS none,(hle1.trans (Gh.le_addT _ _)).trans (Gh.le_addS _ _),?_,?_⟩
 ·have e1:h.shr id tk k n es=(({ ({ h.put id .dead with toks:=h.toks.set tk told.n }:AH) with toks:=(h.toks.set tk told.n)++[tnew.n] }:AH).new (.row (g.setT tk told).τ.length k (es.take n))):=by
   unfold AH.shr
   grind
  simp_all
 ·simp only [V]
  refine ⟨a',c,rfl,by omega,hcm,tnew,hgt,rfl,Nat.le_refl _,?_⟩
  rcases hhd with ⟨h1,h2⟩ | ⟨b,o,h2,h3⟩
  ·omega
  ·by_cases hc0:c=0
   ·omega
   ·right
    refine ⟨b,o,?_,fun _=>?_⟩
    ·rcases ha with rfl | rfl
     ·exact h2
     ·rw [h2];simp [Addr.add]
    ·simp only [tnew,locOf,h2,if_neg hc0]
end
end Go.Vv
namespace Go.Vv
open Go Go.RowKit Go.Lib
section
variable {P:Program} {w:World} {g:Gh} {h:AH} {B:Nat} {w0:World}
theorem row_write (r:Rel B w0 g h w) {id q k p:Nat} {es:List (List AV)} (hb:h.blk id=some (.row q k es)) (hes:es ≠ []) {t:TI} {b qo:Nat} (ht:g.τ[q]?=some t) (hpt:rowPt t b qo es.length k p) {us:List Value} {vs:List AV}
  (hus:VA g vs us) (hpu:vs.all AV.pure=true) (hfit:p+us.length≤es.flatten.length) :
  ∃ w',(storeCells ⟨b,qo,none⟩ us).run P w=.ok () w'∧Rel B w0 g (h.put id (.row q k (rows k es.length (xw es.flatten p vs)))) w':=by
 obtain ⟨hrd,hle,hpt⟩:=hpt
 obtain ⟨_,ti,hti,htr,htn,hlen,hpe,hrow⟩:=r.rowAt hb
 obtain rfl:ti=t:=by simp_all
 obtain ⟨o',e',rfl,hloc⟩:=hpt htn.symm
 have hfl:es.flatten.length=es.length * k:=yz hlen
 have hvl:vs.length=us.length:=hus.length
 obtain ⟨b2,o2,e2,cs,ty2,k1,k2,k3,k4,k5⟩:=hrow.resolve_left hes
 rw [hloc] at k1;injection k1 with k1;injection k1 with e1 k1;injection k1 with k1 _
 obtain rfl:o'=o2:=by omega
 subst e1
 have hst:=run_storeCells_at P b (o'+p) ty2 us 0 cs w k2 (by omega) hus.one'
 simp only [Nat.add_zero] at hst
 generalize hnew:(cs.toList.take (o'+p)++us++cs.toList.drop (o'+p+us.length)).toArray=new at hst
 have hspl:(xw es.flatten p vs).length=es.length * k:=by unfold xw;rw [List.length_append,List.length_append,List.length_take,List.length_drop,hfl];omega
 obtain ⟨f1,f2,f3⟩:=rows_flat (k:=k) es.length (xw es.flatten p vs) hspl
 have hcl:cs.toList.length=cs.size:=by simp
 refine ⟨w.setRow b new,hst,r.storeRow (e:=e') (cur:=cs) (ty:=ty2) (o:=o') hb hti hloc k2 (by grind) (fun j hj=>?_) f2 f3 ?_ ?_ hes⟩
 ·rw [← hnew,List.getElem?_toArray,List.append_assoc,List.getElem?_append_left (by simp;omega),List.getElem?_take,if_pos (by omega),Array.getElem?_toList]
 ·rw [f1];unfold xw
  grind
 ·rw [f1]
  have hcont:(new.toList.drop o').take (es.length * k)=((cs.toList.drop o').take (es.length * k)).take p++us++((cs.toList.drop o').take (es.length * k)).drop (p+us.length):=by
   rw [← hnew]
   apply List.ext_getElem?
   intro j
   by_cases h1:j < p
   ·rw [List.getElem?_take,if_pos (by omega),List.getElem?_drop,List.append_assoc,List.getElem?_append_left (by simp;omega),List.getElem?_take,if_pos (by omega)]
    rw [List.append_assoc,List.getElem?_append_left (by simp;omega),List.getElem?_take,if_pos h1,List.getElem?_take,if_pos (by omega),List.getElem?_drop]
   ·by_cases h2:j < p+us.length
    ·rw [List.getElem?_take,if_pos (by omega),List.getElem?_drop,List.append_assoc,List.getElem?_append_right (by simp;omega),List.getElem?_append_left (by simp;omega)]
     rw [List.append_assoc,List.getElem?_append_right (by simp;omega),List.getElem?_append_left (by simp;omega)]
     grind
    ·by_cases h3:j < es.length * k
     ·rw [List.getElem?_take,if_pos h3,List.getElem?_drop,List.getElem?_append_right (by simp;omega),List.getElem?_drop]
      rw [List.getElem?_append_right (by simp;omega),List.getElem?_drop,List.getElem?_take,if_pos (by simp;omega),List.getElem?_drop]
      grind
     ·rw [List.getElem?_take,if_neg h3,List.getElem?_eq_none]
      grind
  rw [hcont]
  exact splice_VA (off:=p) k3 hus
def zsuf (z:List AV) (n i:Nat):List AV:=(List.replicate (n - i) z).flatten
def AH.clr (h:AH) (id tk k i:Nat) (es:List (List AV)) (z:List AV):AH:=h.put id (.row tk k (rows k es.length (xw es.flatten (i * k) (zsuf z es.length i))))
theorem put_same {h:AH} {id:Nat} {b:Blk} (hb:h.blk id=some b):h.put id b=h:=by
 cases h with
 | mk B T =>
  simp only [AH.put,AH.mk.injEq,and_true]
  refine List.ext_getElem? fun j=>?_
  by_cases hj:j=id
  ·subst hj;rw [List.getElem?_set_self (List.getElem?_eq_some_iff.1 hb).1];exact hb.symm
  ·grind
theorem clear_sound (r:Rel B w0 g h w) {t e ty:TypeId} {id tk k n i:Nat} {es:List (List AV)} {z z':List AV} {x:Value} (ht:P.underlying t=some (.slice e)) (hz:xO P e=some z) (hc:xJ z=some z') (hzl:z.length=k) (hkp:0 < k) (hb:h.blk id=some (.row tk k es)) (hn:es.length=n)
  (hx:V g (.rsuf id tk k n i) x):∃ w',(Builtin.clear_ #[t] ty #[x]).run P w=.ok (.tuple #[]) w'∧Rel B w0 g (h.clr id tk k i es z') w':=by
 subst hn
 simp only [V] at hx
 obtain ⟨a,c,rfl,hin,t2,ht2,h3⟩:=hx
 obtain ⟨_,ti,hti,htr,htn,hlen,hpe,hrow⟩:=r.rowAt hb
 have hfl:es.flatten.length=es.length * k:=yz hlen
 rcases h3 with h0 | ⟨b,q,rfl,hpt⟩
 ·have hi:i=es.length:=by omega
  subst hi
  have e1:h.clr id tk k es.length es z'=h:=by
   unfold AH.clr zsuf
   have:xw es.flatten (es.length * k) (List.replicate (es.length - es.length) z').flatten=es.flatten:=by
    simp [xw,← hfl]
   rw [this]
   have e2:rows k es.length es.flatten=es:=by
    have:∀ (l:List (List AV)),(∀ e ∈ l,e.length=k)→rows k l.length l.flatten=l:=by
     intro l
     induction l with
     | nil=>intro _;rfl
     | cons x r ih =>
      intro hl
      simp only [List.length_cons,rows,List.flatten_cons]
      rw [List.take_left' (hl x List.mem_cons_self),List.drop_left' (hl x List.mem_cons_self),ih fun e he=>hl e (List.mem_cons_of_mem _ he)]
    exact this es hlen
   rw [e2];exact put_same hb
  rw [e1]
  refine ⟨w,?_,r⟩
  rw [h0]
  cases a <;> simp [Builtin.clear_,run_underlying ht]
 ·by_cases h0:es.length - i=0
  ·-- a5 above
   have hi:i=es.length:=by omega
   subst hi
   have e1:h.clr id tk k es.length es z'=h:=by
    unfold AH.clr zsuf
    have:xw es.flatten (es.length * k) (List.replicate (es.length - es.length) z').flatten=es.flatten:=by
     simp [xw,← hfl]
    rw [this]
    have e2:rows k es.length es.flatten=es:=by
     have:∀ (l:List (List AV)),(∀ e ∈ l,e.length=k)→rows k l.length l.flatten=l:=by
      intro l
      induction l with
      | nil=>intro _;rfl
      | cons x r ih =>
       intro hl
       simp only [List.length_cons,rows,List.flatten_cons]
       rw [List.take_left' (hl x List.mem_cons_self),List.drop_left' (hl x List.mem_cons_self),ih fun e he=>hl e (List.mem_cons_of_mem _ he)]
     exact this es hlen
    rw [e2];exact put_same hb
   rw [e1]
   refine ⟨w,?_,r⟩
   rw [h0]
   simp [Builtin.clear_,run_underlying ht]
  ·have hes:es ≠ []:=by rintro rfl;simp at h0
   obtain ⟨iz,zv,hiz,hzv,hva⟩:=wM (g:=g) hz
   have hva':VA g z' zv.cells.toList:=qM hva hc
   have hzs:zv.cells.size=k:=by rw [← hzl,hva.length];rfl
   have hrun:∀ w,(zeroValue e).run P w=.ok zv w:=fun w=>by simp [zeroValue,typeInfo,hiz,hzv]
   have hcells:(Builtin.zeroCells zv.cells (es.length - i)).toList=(List.replicate (es.length - i) zv.cells.toList).flatten:=by
    unfold Builtin.zeroCells
    rw [Array.toList_map,Array.toList_range]
    exact range_rep zv.cells (es.length - i)
   have hus:VA g (zsuf z' es.length i) (Builtin.zeroCells zv.cells (es.length - i)).toList:=by
    rw [hcells];exact VA.flatten hva' _
   have hul:(Builtin.zeroCells zv.cells (es.length - i)).toList.length=(es.length - i) * k:=by
    rw [hcells];simp [hzs]
   have hsum:i * k+(es.length - i) * k=es.length * k:=by rw [← Nat.add_mul];congr 1;omega
   obtain ⟨w',h1,h2⟩:=row_write (P:=P) r hb hes ht2 hpt hus (by
    unfold zsuf
    rw [List.all_eq_true]
    intro a ha
    obtain ⟨l,hl,ha⟩:=List.mem_flatten.1 ha
    rw [List.eq_of_mem_replicate hl] at ha
    have:=clean_pure hc
    rw [List.all_eq_true] at this
    exact this a ha) (by omega)
   refine ⟨w',?_,h2⟩
   have hne:∃ m,es.length - i=m+1:=⟨es.length - i - 1,by omega⟩
   obtain ⟨m,hm⟩:=hne
   rw [hm] at h1 ⊢
   simp only [Builtin.clear_]
   simp [run_underlying ht,hrun,h1]
end
end Go.Vv
namespace Go.Vv
open Go Go.RowKit Go.Lib

def nextAlts (h:AH) (it id n:Nat) (seen:List Nat) (es:List (AV×AV)):List (AV×AH) :=
 match es.zipIdx.filter fun p=>!seen.contains p.2 with
 | []=>[(.tup [.bool false],h)]
 | p::r=>(p::r).map fun p=>(.tup [.bool true,p.1.1,p.1.2],h.put it (.miter id n (seen++[p.2])))
def bytesX:List (List AV)→Option (List UInt8)
 | []=>some []
 | [.int .u8 n]::r=>if 0≤n∧n < 256 then (match bytesX r with
  | some l=>some (UInt8.ofNat n.toNat::l)
  | none=>none) else none
 | _=>none
def convX (P:Program) (s t:TypeId) (a:AV):Option (List UInt8) :=
 match P.underlying s,P.underlying t with
 | some (.slice e),some .string=>match P.underlying e,tyfix P s a with
  | some (.int .u8),.sl 1 es | some (.int .u8),.osl _ 1 es=>match bytesX es with
   | some l=>if l.length≤maxLen then some l else none
   | none=>none
  | _,_=>none
 | _,_=>none
def convBy (P:Program) (s t:TypeId) (a:AV):Option (List UInt8) :=
 match P.underlying s,P.underlying t,a with
 | some .string,some (.slice e),.str l=>match P.underlying e with
  | some (.int .u8)=>some l
  | _=>none
 | _,_,_=>none
def q6 (P:Program) (o:Oper) (env:List AV) (h:AH):Option (List (AV×AH)) :=
 match o.op with
 | .range t x=>if yo x then (match P.underlying t,ev env x with
  | some (.map _ _),.map id=>match h.blk id with
   | some (.mapo es 0)=>some [(.ptr h.blks.length 0,h.new (.miter id es.length []))]
   | _=>none
  | some (.map _ _),.nilm=>some [(.ptr h.blks.length 0,h.new .miter0)]
  | _,_=>none) else none
 | .next x false=>if yo x then (match ev env x with
  | .ptr it 0=>match h.blk it with
   | some .miter0=>some [(.tup [.bool false],h)]
   | some (.miter id n seen)=>match h.blk id with
    | some (.mapo es 0)=>if es.length=n then some (nextAlts h it id n seen es) else none
    | _=>none
   | _=>none
  | _=>none) else none
 | .entry x=>if yo x then (match ev env x with
  | .ptr it 0=>match h.blk it with
   | some (.miter id n seen)=>match h.blk id,seen.getLast? with
    | some (.mapo es 0),some i=>if es.length=n then (match es[i]? with
     | some e=>some [(.tup [e.1,e.2],h)]
     | none=>none) else none
    | _,_=>none
   | _=>none
  | _=>none) else none
 | .buildSlice t n parts=>if parts.all fun p=>yo p.2 then (match P.underlying t with
  | some (.slice e)=>match P.info? e,xO P e with
   | some i,some z=>if 0 < n∧0 < i.size∧n * i.size≤65536∧z.length=i.size then
     (match (vg (fun j=>some (j * i.size,i.size)) ((List.replicate n z).flatten) (y8 P (.slice e) env parts)) with
           | some cs=>match xJ cs with
             | some out=>some [(.rsl h.blks.length h.toks.length i.size n,({ h with toks:=h.toks++[n] }:AH).new (.row h.toks.length i.size (rows i.size n out)))]
             | none=>some [(.msl i.size h.blks.length 0 n,h.new (.cells cs))]
           | none=>none) else none
   | _,_=>none
  | _=>none) else none
 | .convert s t x=>if yo x then (match convX P s t (ev env x) with
  | some l=>some [(.str l,h)]
  | none=>match convBy P s t (ev env x) with
   | some l=>some [(.sl 1 (l.map fun b=>[AV.int .u8 (b.toNat:Int)]),h)]
   | none=>none) else none
 | .alloc t=>match xO P t with
  | some [.nilp,x]=>if x.one then some [(.ptr h.blks.length 0,h.new (.bld t x))] else none
  | _=>none
 | .call c=>match c.callee,c.argTypes.toList,c.args.toList with
  | .builtin .max,_,[x,y]=>if yo x&&yo y then (match ev env x,ev env y with
   | .int k a,.int k' b=>if k=k' then some [(.int k (if b > a then b else a),h)] else none
   | _,_=>none) else none
  | .builtin .min,_,[x,y]=>if yo x&&yo y then (match ev env x,ev env y with
   | .int k a,.int k' b=>if k=k' then some [(.int k (if b < a then b else a),h)] else none
   | _,_=>none) else none
  | .builtin .append,[t,u],[s,x]=>if yo s&&yo x then (match P.underlying t,P.underlying u with
   | some (.slice e),some (.slice _)=>match P.info? e,tyfix P t (ev env s),tyfix P u (ev env x) with
    | some _,.osl none k es,.sl _ [] | some _,.osl none k es,.osl _ _ []=>some [(.osl none k es,h)]
    | _,_,_=>none
   | _,_=>none) else none
  | .builtin .clear,[t],[x]=>if yo x then (match P.underlying t,ev env x with
   | some (.slice e),.rsuf id tk k n i=>match xO P e,h.blk id with
    | some z,some (.row t' k' es)=>if (t'=tk∧k'=k∧es.length=n)∧z.length=k∧0 < k then (match xJ z with
     | some z'=>some [(.tup [],h.clr id tk k i es z')]
     | none=>none) else none
    | _,_=>none
   | _,_=>none) else none
  | _,_,_=>none
 | .insert t m k x=>match zK P { o with op:=.mapUpdate t m k x } env h with
  | .ok v h'=>some [(v,h')]
  | _=>none
 | .makeInterface t x=>if yo x then (match P.underlying t with
  | some (.interface _)=>none
  | some _=>some [(.iface t (tyfix P t (ev env x)),h)]
  | none=>none) else none
 | .typeAssert x _ t ok=>if yo x then (match P.underlying t,ev env x with
  | some (.interface _),_=>none
  | some _,.iface u v=>if u=t then some [(if ok then .tup [v,.bool true] else v,h)] else if ok then (match aZero P t with
   | some z=>some [(.tup [z,.bool false],h)]
   | none=>none) else none
  | _,_=>none) else none
 | .slice t x none (some y) none=>if yo x&&yo y then (match P.underlying t,ev env x,ev env y with
  | some (.slice e),.rsl id tk k m,.int _ n=>match P.info? e,h.blk id with
   | some _,some (.row t' k' es)=>if (t'=tk∧k'=k∧es.length=m)∧0≤n∧n.toNat≤m then some [(.rsl h.blks.length h.toks.length k n.toNat,h.shr id tk k n.toNat es)] else none
   | _,_=>none
  | _,_,_=>none) else none
 | .slice t x (some y) none none=>if yo x&&yo y then (match P.underlying t,ev env x,ev env y with
  | some (.slice e),.rsl id tk k m,.int _ n=>match P.info? e with
   | some i=>if i.size=k∧0≤n∧n.toNat≤m then some [(.rsuf id tk k m n.toNat,h)] else none
   | none=>none
  | _,_,_=>none) else none
 | _=>none

def bdraw:Op→Bool
 | .buildSlice _ _ _ | .slice _ _ _ _ _=>false
 | _=>true

section
variable {P:Program} {w:World} {g:Gh} {h:AH} {B:Nat} {w0:World}
theorem Rel.drewO (r:Rel B w0 g h w) {w1:World} (hw:w1=w ∨ w1=w.drew):Rel B w0 g h w1:=by
 rcases hw with rfl | rfl
 ·exact r
 ·exact r.drew
theorem setBlock_eq {w:World} {b:Nat} {o:Obj}:ChangeMaps.setBlock w b o=w.putObj b o:=by
 rfl
theorem bytesX_eq:∀ {es:List (List AV)} {l:List UInt8},bytesX es=some l→es=l.map fun b=>[AV.int .u8 b.toNat]
 | [],l,h=>by simp only [bytesX,Option.some.injEq] at h;subst h;rfl
 | e::r,l,h=>by
  unfold bytesX at h
  split at h
  ·simp_all
  ·rename_i n r' h0
   injection h0 with h1 h2
   subst h1 h2
   split at h
   ·rename_i hn
    split at h
    ·rename_i l' hl
     simp only [Option.some.injEq] at h
     subst h
     rw [bytesX_eq hl]
     have:((UInt8.ofNat n.toNat).toNat:Int)=n:=by
      have h3:n.toNat < 256:=by omega
      simp [Nat.mod_eq_of_lt h3];omega
     simp_all
    ·cases h
   ·cases h
  ·cases h
theorem bytes_run (r:Rel B w0 g h w) {s t e:TypeId} (hs:P.underlying s=some (.slice e)) (ht:P.underlying t=some .string) (he:P.underlying e=some (.int .u8)) {es:List (List AV)} {l:List UInt8} (hl:bytesX es=some l) {a:Option Addr} {c:Nat}
  (hv:es=[] ∨ ∃ b o,a=some ⟨b,o,none⟩∧VE g b 1 o es):(convert s t (.slice a es.length c)).run P w=.ok (.string ⟨l.toArray⟩) w:=by
 have hes:=bytesX_eq hl
 have hlen:es.length=l.length:=by simp_all
 have key:∀ ad:Addr,(∀ j (hj:j < l.length),w.cell? (ad.add j)=some (.int .u8 (l[j].toNat:Int)))→(convert s t (.slice (some ad) es.length c)).run P w=.ok (.string ⟨l.toArray⟩) w:=fun ad hc=>by
  rw [hlen];exact run_convert_bytes_back w s t e ad c l hs he ht hc
 cases a with
 | none =>
  rcases hv with rfl | ⟨b,o,e1,_⟩
  ·simp only [bytesX,Option.some.injEq] at hl
   subst hl
   simp [convert,run_underlying hs,run_underlying ht,run_underlying he,Conv.bytesToString]
   rfl
  ·cases e1
 | some ad =>
  refine key ad fun j hj=>?_
  rcases hv with rfl | ⟨b,o,e1,hve⟩
  ·grind
  ·injection e1 with e1
   subst e1
   obtain ⟨_,hc⟩:=hve.get j [AV.int .u8 (l[j].toNat:Int)] (by simp_all)
   simp only [VC] at hc
   obtain ⟨⟨v,h1,_,h2⟩,_⟩:=hc
   simp only [V] at h2
   subst h2
   have:=r.phi _ _ _ h1
   rw [show (⟨b,o,none⟩:Addr).add j=⟨b,o+j,none⟩ by unfold Addr.add;split <;> simp_all]
   simp_all
theorem buildSliceM_sound (r:Rel B w0 g h w) {t e:TypeId} {n:Nat} {i:TypeInfo} {z cs:List AV} {env:List AV} {a:Act} (he:VL g env a.tmps.toList) {parts:Array (Nat×Operand)} (hok:(parts.all fun p=>yo p.2)=true)
  (hu:P.underlying t=some (.slice e)) (hi:P.info? e=some i) (hz:xO P e=some z) (hn:0 < n) (hpos:0 < i.size) (hsm:n * i.size≤65536) (hzl:z.length=i.size)
  (hf:vg (fun j=>some (j * i.size,i.size)) ((List.replicate n z).flatten) (y8 P (.slice e) env parts)=some cs) :
  ∃ u w' g',(Instr.buildSlice t n (parts.map fun (i,x)=>(i,a.eval x))).run P w=.ok u w'∧g.le g'∧Rel B w0 g' (h.new (.cells cs)) w'∧V g' (.msl i.size h.blks.length 0 n) u:=by
 obtain ⟨i',zv,hi',hzv,hva⟩:=wM (g:=g) hz
 rw [hi] at hi'
 injection hi' with hi'
 subst hi'
 have hzs:zv.cells.size=i.size:=by rw [← hzl,hva.length];rfl
 have hn0:¬ (n * i.size=0):=by
  have:=Nat.mul_pos hn hpos;omega
 obtain ⟨h1,h2⟩:=parts_rel (P:=P) (d:=.slice e) he hok
 have hva':=VA.flatten hva n
 obtain ⟨xs,hx1,hx2⟩:=qm (place':=fun j=>some (j * i.size,i.size)) (fun i x h=>h) (us:=(Array.range (n * i.size)).map (zv.cells[· % zv.cells.size]!))
  (by rw [← hzs,Array.toList_map,Array.toList_range,range_rep];exact hva') h1 h2 hf
 have hrun:=run_buildSlice w t e n _ xs i zv hu hi hzv (by omega) hn0 hx1
 refine ⟨_,_,_,hrun,g.le_addS _,r.newCells e hx2,?_⟩
 have hsl:=r.slen
 simp only [V,Gh.addS]
 exact ⟨w.heap.size,n,by grind,rfl,Nat.le_refl _,by simp only [maxLen];have:=Nat.le_mul_of_pos_right n hpos;omega⟩
theorem buildSliceR_sound (r:Rel B w0 g h w) {t e:TypeId} {n:Nat} {i:TypeInfo} {z cs out:List AV} {env:List AV} {a:Act} (he:VL g env a.tmps.toList) {parts:Array (Nat×Operand)} (hok:(parts.all fun p=>yo p.2)=true)
  (hu:P.underlying t=some (.slice e)) (hi:P.info? e=some i) (hz:xO P e=some z) (hn:0 < n) (hpos:0 < i.size) (hsm:n * i.size≤65536) (hzl:z.length=i.size)
  (hf:vg (fun j=>some (j * i.size,i.size)) ((List.replicate n z).flatten) (y8 P (.slice e) env parts)=some cs) (hc:xJ cs=some out) :
  ∃ u w' g',(Instr.buildSlice t n (parts.map fun (i,x)=>(i,a.eval x))).run P w=.ok u w'∧g.le g'∧Rel B w0 g' (({ h with toks:=h.toks++[n] }:AH).new (.row h.toks.length i.size (rows i.size n out))) w'∧V g' (.rsl h.blks.length h.toks.length i.size n) u:=by
 obtain ⟨i',zv,hi',hzv,hva⟩:=wM (g:=g) hz
 rw [hi] at hi'
 injection hi' with hi'
 subst hi'
 have hzs:zv.cells.size=i.size:=by rw [← hzl,hva.length];rfl
 have hn0:¬ (n * i.size=0):=by
  have:=Nat.mul_pos hn hpos;omega
 obtain ⟨h1,h2⟩:=parts_rel (P:=P) (d:=.slice e) he hok
 have hva':=VA.flatten hva n
 obtain ⟨xs,hx1,hx2⟩:=qm (place':=fun j=>some (j * i.size,i.size)) (fun i x h=>h) (us:=(Array.range (n * i.size)).map (zv.cells[· % zv.cells.size]!))
  (by rw [← hzs,Array.toList_map,Array.toList_range,range_rep];exact hva') h1 h2 hf
 have hout:=qM hx2 hc
 have hol:out.length=n * i.size:=by
  rw [clean_len hc,aFill_len hf]
  simp [hzl]
 have hxs:xs.size=n * i.size:=by rw [← hol,hout.length];rfl
 have hrun:=run_buildSlice w t e n _ xs i zv hu hi hzv (by omega) hn0 hx1
 obtain ⟨e1,e2,e3⟩:=rows_flat (k:=i.size) n out hol
 have r1:=r.alloc0 (.cells xs e)
 have hheap:(w.alloc (.cells xs e)).heap[w.heap.size]?=some (.cells xs e (0,0)):=heap_alloc_new w _
 have hΦn:∀ j,g.Φ w.heap.size j=none:=fun j=>by
  rcases he:g.Φ w.heap.size j with _ | v
  ·rfl
  ·exact absurd (r.phi_lt he) (Nat.lt_irrefl _)
 have hloc:LocOk g.Φ B (w.alloc (.cells xs e)) w.heap.size (n * i.size) (n * i.size) :=
  ⟨r.bsz,by simp,⟨xs,e,hheap,by omega⟩,fun j _=>hΦn j⟩
 have hsig:∀ (j cc:Nat),g.σ[j]?=some (some cc)→w.heap.size ≠ cc:=fun j cc hj e=>by
  have hi':j < h.blks.length:=by rw [← r.slen];exact (List.getElem?_eq_some_iff.1 hj).1
  have:=(r.blk j cc _ hj (List.getElem?_eq_getElem hi')).2.1
  omega
 have htau:∀ (j:Nat) (tt:TI) (y:Nat×Nat),g.τ[j]?=some tt→tt.loc ≠ some (w.heap.size,y):=fun j tt y hj e=>by
  have:=((r.tok j tt hj).2 _ _ _ e).lt
  omega
 let T:TI:=⟨n,some (w.heap.size,n * i.size,n * i.size),true⟩
 have hT:((g.addT T).addS none).τ[g.τ.length]?=some T:=by simp [Gh.addT,Gh.addS]
 have hle:g.le ((g.addT T).addS none):=(g.le_addT T).trans (Gh.le_addS _ none)
 have r2:=r1.newRowT T i.size (rows i.size n out)
  (fun b' l e' hl'=>by grind)
  (fun b' x hx=>by injection hx with hx;injection hx with e1 _;subst e1;exact ⟨htau,hsig,r.nnew (Nat.le_refl _),r.nold (Nat.le_refl _)⟩)
  ⟨T,hT,rfl,e2.symm,e3,by rw [e1];exact clean_pure hc,.inr ⟨w.heap.size,0,n * i.size,xs,e,by simp [T,e2],hheap,by
   rw [e1,e2,List.drop_zero,List.take_of_length_le (by simp [hxs])];exact hout.mono hle _ _,by grind,fun j _=>hΦn j⟩⟩
 have tl:=r.tlen
 have sl:=r.slen
 rw [tl] at r2
 refine ⟨_,_,_,hrun,hle,r2,?_⟩
 simp only [V]
 rw [← tl]
 exact ⟨some ⟨w.heap.size,0,none⟩,n,rfl,Nat.le_refl _,by simp only [maxLen];have:=Nat.le_mul_of_pos_right n hpos;omega,T,hT,rfl,Nat.le_refl _,.inr ⟨w.heap.size,0,rfl,fun _=>by simp [T]⟩⟩
theorem append0 {t u ty e e':TypeId} {i:TypeInfo} {a ad:Option Addr} {n c m:Nat} (ht:P.underlying t=some (.slice e)) (hu:P.underlying u=some (.slice e')) (hi:P.info? e=some i) (hc:n≤m) :
  (Builtin.append_ #[t,u] ty #[.slice a n m,.slice ad 0 c]).run P w=.ok (.slice a n m) w:=by
 cases a <;> cases ad <;> simp [Builtin.append_,run_underlying ht,run_underlying hu,sizeOf,typeInfo,hi,Builtin.lenOf,Builtin.firstCells,loadCells,loadCellsFrom,storeCells,hc]
theorem bytes_new (r:Rel B w0 g h w) {s t e:TypeId} {l:List UInt8} (hs:P.underlying s=some .string) (ht:P.underlying t=some (.slice e)) (he:P.underlying e=some (.int .u8)) (hm:l.length≤maxLen) :
  ∃ v w' g',(convert s t (.string ⟨l.toArray⟩)).run P w=.ok v w'∧g.le g'∧Rel B w0 g' h w'∧V g' (.sl 1 (l.map fun b=>[AV.int .u8 (b.toNat:Int)])) v:=by
 have hrun:=run_bytes_of_string (P:=P) w s t e ⟨l.toArray⟩ hs ht he
 rw [str_size] at hrun
 have hge:=grownCap_ge w l.length 0 e
 have hcm:=grownCap_le_maxLen w l.length 0 e hm
 generalize grownCap w l.length 0 e=C at hrun hge hcm
 generalize hrow:bytesRow ⟨l.toArray⟩ C=row at hrun
 generalize ho:Obj.cells row e (row.size,row.size+1)=ob at hrun
 have r1:Rel B w0 g h (w.drew.alloc ob):=r.drew.alloc0 ob
 have hsz:w.drew.heap.size=w.heap.size:=rfl
 have hat:∀ j v,(if j < l.length then row[j]? else none)=some v→(w.drew.alloc ob).cell? ⟨w.heap.size,j,none⟩=some v:=fun j v hv=>by
  split at hv
  ·have hb:(w.drew.alloc ob).heap[w.heap.size]?=some ob:=heap_alloc_new w.drew ob
   rw [cell_of_row _ w.heap.size j row e (row.size,row.size+1) (by rw [hb,ho])]
   exact hv
  ·cases hv
 have r2:=r1.vow (b:=w.heap.size) (f:=fun j=>if j < l.length then row[j]? else none) hat
  (fun i c hc _ e=>by
   have hi:i < h.blks.length:=by rw [← r.slen];exact (List.getElem?_eq_some_iff.1 hc).1
   have:=(r.blk i c _ hc (List.getElem?_eq_getElem hi)).2.1
   omega)
  (fun i t l e ht hl=>by
   have:=((r.tok i t ht).2 _ l e hl).lt
   omega) (r.nnew (Nat.le_refl _))
 refine ⟨_,_,_,hrun,Gh.le_vow g _ _,r2,?_⟩
 simp only [V]
 refine ⟨_,C,by rw [List.length_map],by rw [List.length_map];exact hge,hcm,?_⟩
 rcases Nat.eq_zero_or_pos l.length with h0 | h0
 ·left
  have:l=[]:=List.eq_nil_of_length_eq_zero h0
  rw [this];rfl
 ·refine .inr ⟨w.heap.size,0,rfl,VE_iff.2 ⟨fun x hx=>?_,?_⟩⟩
  ·obtain ⟨b,_,rfl⟩:=List.mem_map.1 hx;rfl
  ·rw [qr]
   refine VC.mk fun i a ha=>?_
   rw [List.getElem?_map] at ha
   obtain ⟨b,hb,rfl⟩:=Option.map_eq_some_iff.1 ha
   have hi:=(List.getElem?_eq_some_iff.1 hb).1
   refine ⟨.int .u8 (b.toNat:Int),?_,rfl,by simp only [V]⟩
   have h1:=bytesRow_at ⟨l.toArray⟩ C i (by simpa using hi)
   rw [hrow] at h1
   have h2:(Gh.vow g w.heap.size fun j=>if j < l.length then row[j]? else none).Φ w.heap.size (0+i)=row[i]?:=by
    have hn:g.Φ w.heap.size (0+i)=none:=by
     rcases hx:g.Φ w.heap.size (0+i) with _ | v
     ·rfl
     ·exact absurd (r.phi_lt hx) (Nat.lt_irrefl _)
    simp only [Gh.vow,if_true,hn]
    simp [hi]
   rw [h2,h1]
   have hb2:=(List.getElem?_eq_some_iff.1 hb).2
   simp [hb2]
theorem bfits (r:Rel B w0 g h w) {a:Act} {env:List AV} (he:VL g env a.tmps.toList) {o:Oper} {l:List (AV×AH)} (hl:q6 P o env h=some l):∃ p ∈ l,vp P B w0 g a o w p.1 p.2:=by
 unfold q6 at hl
 split at hl
 ·-- range
  rename_i t x ho
  split at hl
  ·rename_i hok
   have hV:=V.ev he hok
   split at hl
   ·rename_i kt et id ht hx
    split at hl
    ·rename_i es hb
     simp only [Option.some.injEq] at hl
     subst hl
     refine ⟨_,List.mem_singleton.2 rfl,?_⟩
     rw [hx] at hV
     simp only [V] at hV
     obtain ⟨c,hc,hx'⟩:=hV
     obtain ⟨hB,hlt,⟨ents,n,k1,k2,k3⟩,_⟩:=r.blk id c _ hc hb
     obtain ⟨rfl,k4⟩:=k3 rfl
     have hlen:ents.size=es.length:=by have:=k2.len;simpa using this
     refine ⟨.pointer (some ⟨w.heap.size,0,none⟩),w.alloc (.mapIter (some c) ents.size #[] ents.size),g.addS w.heap.size,.inl ?_,g.le_addS _,r.newBlk _ _ ?_,?_⟩
     ·simp [execOp,ho,hx',run_range_map w t kt et c ents _ ht k1]
     ·exact ⟨c,(g.le_addS _).sig _ _ hc,by rw [← hlen];exact heap_alloc_new w _⟩
     ·have hsl:=r.slen
      simp only [V,Gh.addS]
      simp_all
    ·cases hl
   ·rename_i kt et ht hx
    simp only [Option.some.injEq] at hl
    subst hl
    refine ⟨_,List.mem_singleton.2 rfl,?_⟩
    rw [hx] at hV
    simp only [V] at hV
    refine ⟨.pointer (some ⟨w.heap.size,0,none⟩),w.alloc (.mapIter none 0 #[] 0),g.addS w.heap.size,.inl ?_,g.le_addS _,r.newBlk _ _ (heap_alloc_new w _),?_⟩
    ·simp [execOp,ho,hV,run_range_nilMap w t kt et ht]
    ·have hsl:=r.slen
     simp only [V,Gh.addS]
     simp_all
   ·cases hl
  ·cases hl
 ·-- next
  rename_i x ho
  split at hl
  ·rename_i hok
   have hV:=V.ev he hok
   split at hl
   ·rename_i it hx
    rw [hx] at hV
    simp only [V] at hV
    obtain ⟨ci,hci,hx'⟩:=hV
    split at hl
    ·rename_i hb
     simp only [Option.some.injEq] at hl
     subst hl
     refine ⟨_,List.mem_singleton.2 rfl,?_⟩
     obtain ⟨_,_,k1,_⟩:=r.blk it ci _ hci hb
     have k1:w.heap[ci]?=some (.mapIter none 0 #[] 0):=k1
     refine ⟨.tuple #[.bool false],w,g,.inl ?_,Gh.le.refl g,r,by simp [V,VL]⟩
     simp [execOp,ho,hx',Instr.next,getObj,Sem.run,k1]
    ·rename_i id n seen hb
     split at hl
     ·rename_i es hbm
      split at hl
      ·rename_i hn
       simp only [Option.some.injEq] at hl
       obtain ⟨_,hltI,⟨cm,hcm,hit⟩,_⟩:=r.blk it ci _ hci hb
       obtain ⟨_,_,⟨ents,m,k1,k2,k3⟩,_⟩:=r.blk id cm _ hcm hbm
       obtain ⟨rfl,k4⟩:=k3 rfl
       have hlen:ents.size=es.length:=by have:=k2.len;simpa using this
       have hold:∀ x ∈ ents.toList,x.born < n:=fun x hx=>by
        obtain ⟨i,hi⟩:=List.mem_iff_getElem?.1 hx
        grind
       rcases run_next_at (P:=P) w o.type ci cm n n seen.toArray ents ents.size hit k1 hold (Nat.le_refl _) with ⟨h0,hrun⟩ | ⟨e,hmem,w1,hw1,hrun⟩
       ·have hnil:es.zipIdx.filter (fun p=>!seen.contains p.2)=[]:=by
         rw [List.filter_eq_nil_iff]
         rintro ⟨p,i⟩ hp
         simp only [Bool.not_eq_true,Bool.not_eq_false']
         have hp':=List.mem_zipIdx' hp
         obtain ⟨e,he1,_,_⟩:=k2.getE (j:=i) (p:=p) (by simp_all)
         rw [Array.getElem?_toList] at he1
         have hborn:=k4 i e he1
         have:¬ e ∈ leftOf ents seen.toArray:=by
          simp_all
         simp only [leftOf,Array.mem_filter,not_and,Bool.not_eq_true',Bool.not_eq_false] at this
         grind
        rw [nextAlts,hnil] at hl
        subst hl
        refine ⟨_,List.mem_singleton.2 rfl,.tuple #[.bool false],w,g,.inl ?_,Gh.le.refl g,r,by simp [V,VL]⟩
        simp [execOp,ho,hx',hrun]
       ·simp only [leftOf,Array.toList_filter,List.mem_filter] at hmem
        obtain ⟨i,hi⟩:=List.mem_iff_getElem?.1 hmem.1
        have hi':=hi
        rw [Array.getElem?_toList] at hi'
        have hborn:=k4 i e hi'
        have hil:i < es.length:=by grind
        have hes:es[i]?=some es[i]:=List.getElem?_eq_getElem hil
        obtain ⟨e2,he2,hk,hv⟩:=k2.getE (j:=i) hes
        rw [hi] at he2
        injection he2 with he2
        subst he2
        have hin:(es[i],i) ∈ es.zipIdx.filter (fun p=>!seen.contains p.2):=by
         grind
        have r1:=r.drewO hw1
        have hit1:w1.heap[ci]?=some (.mapIter (some cm) n seen.toArray n):=by rcases hw1 with rfl | rfl <;> exact hit
        have r2:Rel B w0 g (h.put it (.miter id n (seen++[i]))) (w1.putObj ci (.mapIter (some cm) n (seen.toArray.push e.born) n)) :=
         r1.putObj hci hb (by simp) rfl rfl rfl World.putObj_size (fun b hb'=>World.putObj_heap_other hb') ⟨cm,hcm,by
          rw [World.putObj_heap_same (by grind),hborn];simp⟩
        have hne:es.zipIdx.filter (fun p=>!seen.contains p.2) ≠ []:=List.ne_nil_of_mem hin
        have hal:((.tup [.bool true,es[i].1,es[i].2],h.put it (.miter id n (seen++[i]))):AV×AH) ∈ nextAlts h it id n seen es:=by
         unfold nextAlts
         grind
        subst hl
        refine ⟨_,hal,.tuple #[.bool true,e.key,e.val],_,g,.inl ?_,Gh.le.refl g,r2,?_⟩
        ·rw [← hlen] at hn
         simp only [execOp,ho,hx',Sem.run_bind,hrun,Result.andThen_ok,Sem.run_pure]
         rw [setBlock_eq,hn]
        ·simp only [V,VL]
         grind
      ·cases hl
     ·cases hl
    ·cases hl
   ·cases hl
  ·cases hl
 ·-- entry
  rename_i x ho
  split at hl
  ·rename_i hok
   have hV:=V.ev he hok
   split at hl
   ·rename_i it hx
    rw [hx] at hV
    simp only [V] at hV
    obtain ⟨ci,hci,hx'⟩:=hV
    split at hl
    ·rename_i id n seen hb
     split at hl
     ·rename_i es i hbm hlast
      split at hl
      ·rename_i hn
       split at hl
       case h_2=>cases hl
       rename_i p hp
       simp only [Option.some.injEq] at hl
       subst hl
       refine ⟨_,List.mem_singleton.2 rfl,?_⟩
       obtain ⟨_,hltI,⟨cm,hcm,hit⟩,_⟩:=r.blk it ci _ hci hb
       obtain ⟨_,_,⟨ents,m,k1,k2,k3⟩,_⟩:=r.blk id cm _ hcm hbm
       obtain ⟨rfl,k4⟩:=k3 rfl
       have hlen:ents.size=es.length:=by have:=k2.len;simpa using this
       obtain ⟨e,he1,hk,hv⟩:=k2.getE (j:=i) hp
       have he1':=he1
       rw [Array.getElem?_toList] at he1'
       have hborn:=k4 i e he1'
       have hseen:seen.toArray=seen.dropLast.toArray.push e.born:=by
        grind
       rw [hseen] at hit
       have hnd:(ents.toList.map (·.born)).Nodup:=by
        have:ents.toList.map (·.born)=List.range ents.size:=by
         apply List.ext_getElem?
         grind
        grind
       have hrun:=run_entry_at (P:=P) w ci cm n seen.dropLast.toArray ents ents.size e (by grind) k1 (Array.mem_toList_iff.2 (Array.mem_of_getElem? he1')) hnd
       refine ⟨.tuple #[e.key,e.val],w,g,.inl ?_,Gh.le.refl g,r,?_⟩
       ·simp [execOp,ho,hx',hrun]
       ·simp only [V,VL]
        grind
      ·cases hl
     ·cases hl
    ·cases hl
   ·cases hl
  ·cases hl
 ·-- buildSlice
  rename_i t n parts ho
  split at hl
  ·rename_i hok
   split at hl
   ·rename_i e hu
    split at hl
    ·rename_i i z hi hz
     split at hl
     ·rename_i hc
      split at hl
      ·rename_i cs hf
       split at hl
       ·rename_i out hcl
        simp only [Option.some.injEq] at hl
        subst hl
        obtain ⟨u,w',g',h1,h2,h3,h4⟩:=buildSliceR_sound r he hok hu hi hz hc.1 hc.2.1 hc.2.2.1 hc.2.2.2 hf hcl
        exact ⟨_,List.mem_singleton.2 rfl,u,w',g',.inl (by simp [execOp,ho,h1]),h2,h3,h4⟩
       ·simp only [Option.some.injEq] at hl
        subst hl
        obtain ⟨u,w',g',h1,h2,h3,h4⟩:=buildSliceM_sound r he hok hu hi hz hc.1 hc.2.1 hc.2.2.1 hc.2.2.2 hf
        exact ⟨_,List.mem_singleton.2 rfl,u,w',g',.inl (by simp [execOp,ho,h1]),h2,h3,h4⟩
      ·cases hl
     ·cases hl
    ·cases hl
   ·cases hl
  ·cases hl
 ·-- convert
  rename_i s t x ho
  split at hl
  ·rename_i hok
   have hV0:=V.ev he hok
   have hV:=(V.ev he hok).tyfix (P:=P) (t:=s)
   split at hl
   case h_2 =>
    split at hl
    ·rename_i l0 hl0
     simp only [Option.some.injEq] at hl
     subst hl
     unfold convBy at hl0
     split at hl0
     ·rename_i e l hs ht hx
      split at hl0
      ·rename_i hu
       simp only [Option.some.injEq] at hl0
       subst hl0
       rw [hx] at hV0
       simp only [V] at hV0
       obtain ⟨v,w',g',k1,k2,k3,k4⟩:=bytes_new (P:=P) r hs ht hu hV0.2
       exact ⟨_,List.mem_singleton.2 rfl,v,w',g',.inl (by simp [execOp,ho,hV0.1,k1]),k2,k3,k4⟩
      ·cases hl0
     ·cases hl0
    ·cases hl
   rename_i l0 hl0
   simp only [Option.some.injEq] at hl
   subst hl
   unfold convX at hl0
   split at hl0
   ·rename_i e hs ht
    have main:∀ es l,P.underlying e=some (.int .u8)→bytesX es=some l→l.length≤maxLen→(∃ ad c,a.eval x=.slice ad es.length c∧(es=[] ∨ ∃ b o,ad=some ⟨b,o,none⟩∧VE g b 1 o es))→vp P B w0 g a o w (.str l) h:=by
     rintro es l hu hb hm ⟨ad,c,hx,hve⟩
     refine ⟨.string ⟨l.toArray⟩,w,g,.inl ?_,Gh.le.refl g,r,by simp only [V];exact ⟨trivial,hm⟩⟩
     simp [execOp,ho,hx,bytes_run r hs ht hu hb hve]
    split at hl0
    ·rename_i es hu hx
     rw [hx] at hV
     simp only [V] at hV
     obtain ⟨ad,c,h1,_,_,h2⟩:=hV
     split at hl0
     ·rename_i l hb
      split at hl0
      ·rename_i hm
       simp only [Option.some.injEq] at hl0
       subst hl0
       exact ⟨_,List.mem_singleton.2 rfl,main _ _ hu hb hm ⟨ad,c,h1,h2⟩⟩
      ·cases hl0
     ·cases hl0
    ·rename_i es q hu hx
     rw [hx] at hV
     simp only [V] at hV
     obtain ⟨ad,c,h1,_,_,h2,_⟩:=hV
     split at hl0
     ·rename_i l hb
      split at hl0
      ·rename_i hm
       simp only [Option.some.injEq] at hl0
       subst hl0
       exact ⟨_,List.mem_singleton.2 rfl,main _ _ hu hb hm ⟨ad,c,h1,h2⟩⟩
      ·cases hl0
     ·cases hl0
    ·cases hl0
   ·cases hl0
  ·cases hl
 ·-- alloc
  rename_i t ho
  split at hl
  ·rename_i x hz
   split at hl
   ·rename_i hone
    simp only [Option.some.injEq] at hl
    subst hl
    obtain ⟨i,z,hi,hzz,hva⟩:=wM (g:=g) hz
    have hsl:=r.slen
    simp only [VA,V] at hva
    obtain ⟨v0,s0,hz0,⟨_,rfl⟩,v1,s1,rfl,⟨_,hV1⟩,rfl⟩:=hva
    have hzc:z.cells=#[.pointer none,v1]:=by
     apply Array.ext'
     rw [hz0]
    refine ⟨_,List.mem_singleton.2 rfl,.pointer (some ⟨w.heap.size,0,none⟩),w.alloc (.cells z.cells t),g.addS w.heap.size,.inl ?_,g.le_addS _,r.newBlk _ _ ⟨.pointer none,v1,by rw [← hzc];exact heap_alloc_new w _,.inl rfl,hone,V.mono (g.le_addS _) _ _ hV1⟩,?_⟩
    ·simp [execOp,ho,Instr.alloc,run_zero hi hzz,newVar,newRow]
    ·simp only [V,Gh.addS]
     simp_all
   ·cases hl
  ·cases hl
 ·-- append
  rename_i c ho
  split at hl
  ·rename_i ts x y hc has
   split at hl
   ·rename_i hok
    simp only [Bool.and_eq_true] at hok
    have hxa:c.args=#[x,y]:=by grind
    have hVx:=V.ev he hok.1
    have hVy:=V.ev he hok.2
    split at hl
    ·rename_i k1 a1 k2 b1 hx hy
     split at hl
     ·rename_i hk
      subst hk
      simp only [Option.some.injEq] at hl
      subst hl
      rw [hx] at hVx
      rw [hy] at hVy
      simp only [V] at hVx hVy
      refine ⟨_,List.mem_singleton.2 rfl,.int k1 (if b1 > a1 then b1 else a1),w,g,.inl ?_,Gh.le.refl g,r,by simp only [V]⟩
      simp only [execOp,ho,resolve,hc,Sem.run_bind,Sem.run_pure,Result.andThen_ok,invoke,hxa]
      simp [builtin,hVx,hVy,run_max_int2]
     ·cases hl
    ·cases hl
   ·cases hl
  ·rename_i ts x y hc has
   split at hl
   ·rename_i hok
    simp only [Bool.and_eq_true] at hok
    have hxa:c.args=#[x,y]:=by grind
    have hVx:=V.ev he hok.1
    have hVy:=V.ev he hok.2
    split at hl
    ·rename_i k1 a1 k2 b1 hx hy
     split at hl
     ·rename_i hk
      subst hk
      simp only [Option.some.injEq] at hl
      subst hl
      rw [hx] at hVx
      rw [hy] at hVy
      simp only [V] at hVx hVy
      refine ⟨_,List.mem_singleton.2 rfl,.int k1 (if b1 < a1 then b1 else a1),w,g,.inl ?_,Gh.le.refl g,r,by simp only [V]⟩
      simp only [execOp,ho,resolve,hc,Sem.run_bind,Sem.run_pure,Result.andThen_ok,invoke,hxa]
      simp [builtin,hVx,hVy,run_min_int2]
     ·cases hl
    ·cases hl
   ·cases hl
  ·rename_i t u s x hc hts has
   split at hl
   ·rename_i hok
    simp only [Bool.and_eq_true] at hok
    have hta:c.argTypes=#[t,u]:=by grind
    have hxa:c.args=#[s,x]:=by grind
    have hVs:=(V.ev he hok.1).tyfix (P:=P) (t:=t)
    have hVx:=(V.ev he hok.2).tyfix (P:=P) (t:=u)
    split at hl
    ·rename_i e e' ht hu
     have main:∀ i k es,P.info? e=some i→tyfix P t (ev env s)=.osl none k es→(∃ ad c,a.eval x=.slice ad 0 c)→vp P B w0 g a o w (.osl none k es) h:=by
      rintro i k es hi hs ⟨ad,c2,hx⟩
      rw [hs] at hVs
      have hV2:=hVs
      simp only [V] at hVs
      obtain ⟨a1,c1,hs1,h1,_⟩:=hVs
      refine ⟨a.eval s,w,g,.inl ?_,Gh.le.refl g,r,hV2⟩
      simp only [execOp,ho,resolve,hc,Sem.run_bind,Sem.run_pure,Result.andThen_ok,invoke,hta,hxa]
      simp only [builtin,Array.map,hs1]
      simp [append0 ht hu hi h1,hs1,hx]
     split at hl
     ·rename_i i k es q hi hs hx
      simp only [Option.some.injEq] at hl
      subst hl
      refine ⟨_,List.mem_singleton.2 rfl,main _ k es hi hs ?_⟩
      rw [hx] at hVx
      simp only [V] at hVx
      grind
     ·rename_i i k es q q2 hi hs hx
      simp only [Option.some.injEq] at hl
      subst hl
      refine ⟨_,List.mem_singleton.2 rfl,main _ k es hi hs ?_⟩
      rw [hx] at hVx
      simp only [V] at hVx
      grind
     ·cases hl
    ·cases hl
   ·cases hl
  ·rename_i t x hc hts has
   split at hl
   ·rename_i hok
    have hta:c.argTypes=#[t]:=by grind
    have hxa:c.args=#[x]:=by grind
    have hVx:=V.ev he hok
    split at hl
    ·rename_i e id tk k n i ht hx
     split at hl
     ·rename_i z t' k' es hz hb
      split at hl
      ·rename_i hcd
       obtain ⟨⟨rfl,rfl,rfl⟩,hzl,hk0⟩:=hcd
       split at hl
       ·rename_i z' hcl
        simp only [Option.some.injEq] at hl
        subst hl
        rw [hx] at hVx
        obtain ⟨w',h1,h2⟩:=clear_sound (P:=P) (ty:=o.type) r ht hz hcl hzl hk0 hb rfl hVx
        refine ⟨_,List.mem_singleton.2 rfl,.tuple #[],w',g,.inl ?_,Gh.le.refl g,h2,by simp [V,VL]⟩
        simp only [execOp,ho,resolve,hc,Sem.run_bind,Sem.run_pure,Result.andThen_ok,invoke,hta,hxa]
        simp [builtin,h1]
       ·cases hl
      ·cases hl
     ·cases hl
    ·cases hl
   ·cases hl
  ·cases hl
 ·-- insert
  rename_i t m k x ho
  split at hl
  ·rename_i v h' hs
   simp only [Option.some.injEq] at hl
   subst hl
   refine ⟨_,List.mem_singleton.2 rfl,?_⟩
   have:=astep_fits (P:=P) r he { o with op:=.mapUpdate t m k x }
   rw [hs] at this
   obtain ⟨u,w',g',h1,h2⟩:=this
   refine ⟨u,w',g',?_,h2⟩
   simpa only [execOp,ho] using h1
  ·cases hl
 ·-- makeInterface
  rename_i t x ho
  split at hl
  ·rename_i hok
   have hV:=(V.ev he hok).tyfix (P:=P) (t:=t)
   split at hl
   ·cases hl
   ·rename_i d hne hd
    simp only [Option.some.injEq] at hl
    subst hl
    refine ⟨_,List.mem_singleton.2 rfl,.iface t (a.eval x),w,g,.inl ?_,Gh.le.refl g,r,?_⟩
    ·have:(Instr.makeInterface t (a.eval x)).run P w=.ok (.iface t (a.eval x)) w:=by
      simp only [Instr.makeInterface,Sem.run_bind,run_underlying hd,Result.andThen_ok]
      simp
     simp [execOp,ho,this]
    ·simp only [V];exact ⟨_,rfl,hV⟩
   ·cases hl
  ·cases hl
 ·-- typeAssert
  rename_i x xt t ok ho
  split at hl
  ·rename_i hok
   have hV:=V.ev he hok
   split at hl
   ·cases hl
   ·rename_i d u v hne hd hx
    rw [hx] at hV
    simp only [V] at hV
    obtain ⟨y,hy,hv⟩:=hV
    split at hl
    ·rename_i hut
     subst hut
     simp only [Option.some.injEq] at hl
     subst hl
     refine ⟨_,List.mem_singleton.2 rfl,if ok then .tuple #[y,.bool true] else y,w,g,.inl ?_,Gh.le.refl g,r,?_⟩
     ·have:(Instr.typeAssert (.iface u y) xt u ok).run P w=.ok (if ok then .tuple #[y,.bool true] else y) w:=by
       simp only [Instr.typeAssert,Sem.run_bind,run_underlying hd,Result.andThen_ok]
       rfl
      simp [execOp,ho,hy,this]
     ·cases ok
      ·exact hv
      ·simp only [if_true,V,VL]
       simp_all
    ·rename_i hut
     split at hl
     ·rename_i hk
      subst hk
      split at hl
      ·rename_i z hz
       simp only [Option.some.injEq] at hl
       subst hl
       obtain ⟨zv,hz1,hz2⟩:=aZero_sound (P:=P) (w:=w) (g:=g) hz
       refine ⟨_,List.mem_singleton.2 rfl,.tuple #[zv,.bool false],w,g,.inl ?_,Gh.le.refl g,r,?_⟩
       ·have:(Instr.typeAssert (.iface u y) xt t true).run P w=.ok (.tuple #[zv,.bool false]) w:=by
         simp only [Instr.typeAssert,Sem.run_bind,run_underlying hd,Result.andThen_ok]
         simp_all
        simp [execOp,ho,hy,this]
       ·simp only [V,VL]
        simp_all
      ·cases hl
     ·cases hl
   ·cases hl
  ·cases hl
 ·-- a row is cut
  rename_i t x y ho
  split at hl
  ·rename_i hok
   simp only [Bool.and_eq_true] at hok
   have hVx:=V.ev he hok.1
   have hVy:=V.ev he hok.2
   split at hl
   ·rename_i e id tk k m kk n ht hx hy
    split at hl
    ·rename_i i t' k' es hi hb
     split at hl
     ·rename_i hc
      obtain ⟨⟨rfl,rfl,rfl⟩,hn0,hnm⟩:=hc
      simp only [Option.some.injEq] at hl
      subst hl
      rw [hx] at hVx
      rw [hy] at hVy
      have hVx2:=hVx
      simp only [V] at hVx hVy
      obtain ⟨ad,c,hev,hnc,hcm,_⟩:=hVx
      rw [hev] at hVx2
      obtain ⟨g',h1,h2,h3⟩:=r.shrink (n:=n.toNat) (a':=if c=0 then ad else ad.map (·.add (0 * i.size))) hb hnm (by grind) hVx2
      refine ⟨_,List.mem_singleton.2 rfl,_,w,g',.inl ?_,h1,h2,h3⟩
      have hbd:=slice_bounds (P:=P) (w:=w) (isS:=true) (len:=es.length) (cap:=c) (l:=0) (hh:=n.toNat) (m:=c) (d:=0) (lo:=none) (hi:=some (.int kk n)) (mx:=none) (.inl ⟨rfl,rfl⟩)
       (.inr ⟨kk,n,rfl,hn0,by omega⟩) (.inl ⟨rfl,rfl⟩) (Nat.zero_le _) (by omega) (Nat.le_refl _) rfl
      have:(Instr.sliceAt t (.slice ad es.length c) none (some (.int kk n)) none).run P w=.ok (.slice (if c=0 then ad else ad.map (·.add (0 * i.size))) n.toNat c) w:=by
       rw [sliceAt_of ht (by simp)]
       simp [Instr.slice,yp ht,hbd,xg hi]
      simp [execOp,ho,hev,hVy,this]
     ·cases hl
    ·cases hl
   ·cases hl
  ·cases hl
 ·-- a row's end
  rename_i t x y ho
  split at hl
  ·rename_i hok
   simp only [Bool.and_eq_true] at hok
   have hVx:=V.ev he hok.1
   have hVy:=V.ev he hok.2
   split at hl
   ·rename_i e id tk k m kk n ht hx hy
    split at hl
    ·rename_i i hi
     split at hl
     ·rename_i hc
      obtain ⟨rfl,hn0,hnm⟩:=hc
      simp only [Option.some.injEq] at hl
      subst hl
      rw [hx] at hVx
      rw [hy] at hVy
      simp only [V] at hVx hVy
      obtain ⟨ad,c,hev,hnc,hcm,tt,htt,hrd,hle,hhd⟩:=hVx
      refine ⟨_,List.mem_singleton.2 rfl,.slice (if c=n.toNat then ad else ad.map (·.add (n.toNat * i.size))) (m - n.toNat) (c - n.toNat),w,g,.inl ?_,Gh.le.refl g,r,?_⟩
      ·have hbd:=slice_bounds (P:=P) (w:=w) (isS:=true) (len:=m) (cap:=c) (l:=n.toNat) (hh:=m) (m:=c) (d:=0) (lo:=some (.int kk n)) (hi:=none) (mx:=none) (.inr ⟨kk,n,rfl,hn0,by omega⟩)
        (.inl ⟨rfl,rfl,rfl⟩) (.inl ⟨rfl,rfl⟩) hnm hnc (Nat.le_refl _) rfl
       have:(Instr.sliceAt t (.slice ad m c) (some (.int kk n)) none none).run P w=.ok (.slice (if c=n.toNat then ad else ad.map (·.add (n.toNat * i.size))) (m - n.toNat) (c - n.toNat)) w:=by
        rw [sliceAt_of ht (by simp)]
        simp [Instr.slice,yp ht,hbd,xg hi]
       simp [execOp,ho,hev,hVy,this]
      ·simp only [V]
       refine ⟨_,_,rfl,⟨hnm,by omega⟩,tt,htt,?_⟩
       by_cases h0:m - n.toNat=0
       ·omega
       ·right
        rcases hhd with ⟨h1,_⟩ | ⟨b,o2,h2,h3⟩
        ·omega
        ·have hcn:¬ c=n.toNat:=by omega
         refine ⟨b,o2+n.toNat * i.size,?_,hrd,hle,fun he'=>⟨o2,_,rfl,h3 he'⟩⟩
         rw [if_neg hcn,h2];simp [xz]
     ·cases hl
    ·cases hl
   ·cases hl
  ·cases hl
 ·cases hl
end
end Go.Vv
namespace Go.Vv
open Go Go.RowKit Go.Lib

def anew (P:Program) (o:Oper) (env:List AV):Option (Nat×List (List AV)) :=
 match o.op with
 | .call c=>match c.callee,c.argTypes.toList,c.args.toList with
  | .builtin .append,[t,u],[s,x]=>if yo s&&yo x then (match P.underlying t,P.underlying u with
   | some (.slice e),some (.slice _)=>match P.info? e with
    | some i=>if i.bytes≤65536∧0 < i.size∧(i.zero.map (·.cells.size))=some i.size then (match tyfix P t (ev env s),q7 i.size (tyfix P u (ev env x)) with
     | .osl none k [],some ys=>if k=i.size∧ys.length≤vQ then some (i.size,ys) else none
     | _,_=>none) else none
    | none=>none
   | _,_=>none) else none
  | _,_,_=>none
 | _=>none

section
variable {P:Program} {w:World} {g:Gh} {h:AH} {B:Nat} {w0:World}
theorem news_ex (r:Rel B w0 g h w) {k:Nat} (hpos:0 < k) {xx:AV} {xv:Value} (hV:V g xx xv) {ys:List (List AV)} (hys:q7 k xx=some ys) :
  ∃ news,(∀ e ∈ ys,e.length=k)∧VA g ys.flatten news∧ys.flatten.all AV.pure=true∧∀ W:World,(∀ a v,w.cell? a=some v→W.cell? a=some v)→News P k ys.length xv news W:=by
 have slc:∀ (es:List (List AV)) (ad:Option Addr) (c:Nat),xv=.slice ad es.length c→(es=[] ∨ ∃ b o,ad=some ⟨b,o,none⟩∧VE g b k o es)→ys=es →
   ∃ news,(∀ e ∈ ys,e.length=k)∧VA g ys.flatten news∧ys.flatten.all AV.pure=true∧∀ W:World,(∀ a v,w.cell? a=some v→W.cell? a=some v)→News P k ys.length xv news W:=by
  rintro es ad c hev hes rfl
  rcases hes with rfl | ⟨b,oo,rfl,hve⟩
  ·refine ⟨[],by simp,by simp [VA],rfl,fun W _=>⟨by rw [hev];rfl,?_⟩⟩
   rw [hev]
   cases ad with
   | none=>simp [Builtin.firstCells]
   | some ad=>simp [Builtin.firstCells,loadCells,loadCellsFrom]
  ·obtain ⟨h1,h2⟩:=VE_iff.1 hve
   obtain ⟨us,hus,hup,hΦ⟩:=h2.toVA
   refine ⟨us,h1,hus,hup,fun W hW=>?_⟩
   rw [hev]
   refine News.slice (by rw [← hus.length,yz h1]) fun j v hv=>?_
   rw [xz]
   exact hW _ _ (r.phi _ _ _ (hΦ j v hv))
 unfold q7 at hys
 split at hys
 ·split at hys
  ·rename_i hk
   cases hys
   subst hk
   simp only [V] at hV
   grind
  ·cases hys
 ·split at hys
  ·rename_i hk
   cases hys
   subst hk
   simp only [V] at hV
   grind
  ·cases hys
 ·split at hys
  ·rename_i hk
   cases hys
   subst hk
   simp only [V] at hV
   obtain ⟨ad,c,h1,h2,h3,h4⟩:=hV
   exact slc _ ad c h1 (h4.imp id fun ⟨b,o,e,hh,_⟩=>⟨b,o,e,hh⟩) rfl
  ·cases hys
 ·split at hys
  ·rename_i hk
   cases hys
   subst hk
   simp only [V] at hV
   obtain ⟨ad,c,h1,h2,h3,h4⟩:=hV
   exact slc _ ad c h1 (h4.imp id fun ⟨b,o,e,hh,_⟩=>⟨b,o,e,hh⟩) rfl
  ·cases hys
 ·rename_i s
  split at hys
  ·rename_i hk
   cases hys
   simp only [V] at hV
   obtain ⟨h1,h2⟩:=hV
   refine ⟨strCells ⟨s.toArray⟩,fun e he=>?_,?_,by rw [qr,List.all_map];exact List.all_eq_true.2 fun _ _=>rfl,fun W _=>?_⟩
   ·grind
   ·rw [qr];exact bytes_VA s
   ·rw [h1]
    have:=News.str (P:=P) (size:=k) (s:=⟨s.toArray⟩) (w:=W)
    rw [str_size] at this
    simp_all
  ·cases hys
 ·cases hys

theorem new_fits (r:Rel B w0 g h w) {a:Act} {env:List AV} (he:VL g env a.tmps.toList) {o:Oper} {k:Nat} {ys:List (List AV)} (hl:anew P o env=some (k,ys)):vp P B w0 g a o w (.nsl k ys) h:=by
 unfold anew at hl
 split at hl
 ·rename_i c ho
  split at hl
  ·rename_i t u so xo hcal hts has
   split at hl
   ·rename_i hok
    simp only [Bool.and_eq_true] at hok
    split at hl
    ·rename_i e e' ht hu
     split at hl
     ·rename_i i hi
      split at hl
      ·rename_i hc1
       obtain ⟨hby,hpos,hzz⟩:=hc1
       obtain ⟨z,hz,hzs⟩:∃ z,i.zero=some z∧z.cells.size=i.size:=by
        simp_all
       split at hl
       ·rename_i k' ys' hs hys
        split at hl
        ·rename_i hk
         obtain ⟨rfl,hlim⟩:=hk
         cases hl
         have hVs:=(V.ev he hok.1).tyfix (P:=P) (t:=t)
         rw [hs] at hVs
         obtain ⟨news,h1,h2,h3,h4⟩:=news_ex (P:=P) r hpos ((V.ev he hok.2).tyfix (P:=P) (t:=u)) hys
         obtain ⟨v,w',g',k1,k2,k3,k4⟩:=append_new (ty:=o.type) r ht hu (.inr ⟨_,rfl⟩) hi hz hzs hby hVs h1 h2 h3 h4 hlim
         refine ⟨v,w',g',.inl ?_,k2,k3,k4⟩
         have hta:c.argTypes=#[t,u]:=by grind
         have hxa:c.args=#[so,xo]:=by grind
         simp only [execOp,ho,resolve,hcal,Sem.run_bind,Sem.run_pure,Result.andThen_ok,invoke,hta,hxa]
         simp [builtin,k1]
        ·cases hl
       ·cases hl
      ·cases hl
     ·cases hl
    ·cases hl
   ·cases hl
  ·cases hl
 ·cases hl
end
end Go.Vv
namespace Go.Vv
open Go Go.RowKit
def laid (P : Program) (w : World) : Prop := Lib.TabIs P w "internal/strconv.uint64pow10" .u64 Lib.pow10Tab ∧ w.cell? ⟨5, 15, none⟩ = some (.int .u8 4)
theorem laid_below {P:Program} {B:Nat} {w0 w:World} (h:laid P w0) (hs:w0.heap.size≤B) (hb:Below B w0 w):laid P w :=
 ⟨Lib.tabBelow_of_tabIs h.1 w (hb.mono hs),(hb.cell (p:=⟨5,15,none⟩) (Nat.lt_of_lt_of_le (World.block_lt_of_cell? w0 ⟨5,15,none⟩ h.2) hs)).trans h.2⟩
end Go.Vv
