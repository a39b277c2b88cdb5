/- Mutable rows: how one begins, and how it is cut. -/
import Derived.Test.YtbaclapbinkedaaVvG
namespace Go.Vv
open Go Go.RowKit
section
variable {B:Nat} {w0 w:World} {g:Gh} {h:AH}
theorem Rel.adoptN (r:Rel B w0 g h w) (k:Blk) (hk:RowB (g.addS none) w k) (hn:∀ t k1 es,k=.row t k1 es→∀ (i k2:Nat) (es2:List (List AV)),h.blks[i]? ≠ some (.row t k2 es2)) :
  Rel B w0 (g.addS none) (h.new k) w:=by
 have key:∀ (i:Nat) (x:Blk),(h.blks++[k])[i]?=some x→(h.blks[i]?=some x∧i < h.blks.length) ∨ (i=h.blks.length∧x=k):=by
  intro i x hi
  rcases Nat.lt_or_ge i h.blks.length with hl | hl
  ·rw [List.getElem?_append_left hl] at hi;exact .inl ⟨hi,hl⟩
  ·rw [List.getElem?_append_right hl] at hi
   rcases Nat.eq_zero_or_pos (i - h.blks.length) with h0 | h0
   ·rw [h0] at hi;simp at hi;exact .inr ⟨by omega,hi.symm⟩
   ·rw [List.getElem?_eq_none (by simp;omega)] at hi;cases hi
 refine ⟨r.below,r.bsz,r.phi,by simp [Gh.addS,AH.new,r.slen],fun i c q hc hq=>?_,r.tlen,r.tok,fun i j c hi hj=>?_,r.tinj,fun i c j t b x hi hj hx=>?_,fun c hc=>⟨(r.dfr c hc).1,(r.dfr c hc).2.1,fun i hi=>?_⟩,
  fun i q hi hq=>?_,fun i j t k1 k2 es es' hi hj=>?_,fun b x hb=>(r.nb b x hb).mono fun _ _ ha=>⟨rfl,⟨fun i hi=>(addS_get hi).elim (fun hi=>ha.1 i hi) (fun he=>nomatch he.2),ha.2⟩,fun h=>h⟩,r.ob⟩
 ·rcases addS_get hc with hc | ⟨_,he⟩
  ·have hl:i < h.blks.length:=by rw [← r.slen];exact (List.getElem?_eq_some_iff.1 hc).1
   rcases key i q hq with ⟨hq,_⟩ | ⟨rfl,_⟩
   ·obtain ⟨h1,h2,h3,h4⟩:=r.blk i c q hc hq
    exact ⟨h1,h2,h3.mono (g.le_addS _) rfl,h4⟩
   ·omega
  ·cases he
 ·rcases addS_get hi with hi | ⟨_,he⟩
  ·rcases addS_get hj with hj | ⟨_,he⟩
   ·exact r.sinj i j c hi hj
   ·cases he
  ·cases he
 ·rcases addS_get hi with hi | ⟨_,he⟩
  ·exact r.sep i c j t b x hi hj hx
  ·cases he
 ·rcases addS_get hi with hi | ⟨_,he⟩
  ·exact (r.dfr c hc).2.2 i hi
  ·cases he
 ·rcases key i q hq with ⟨hq,hl⟩ | ⟨_,rfl⟩
  ·rcases addS_get hi with hi | ⟨e,_⟩
   ·exact (r.row i q hi hq).mono (g.le_addS _) (fun _ _ h _=>h) (fun _ _ _ _ _ _ _=>⟨rfl,fun _=>rfl⟩)
   ·rw [r.slen] at e;omega
  ·exact hk
 ·rcases key i _ hi with ⟨hi1,_⟩ | ⟨rfl,e1⟩ <;> rcases key j _ hj with ⟨hj1,_⟩ | ⟨rfl,e2⟩
  ·exact r.rinj _ _ _ _ _ _ _ hi1 hj1
  ·exact absurd hi1 (hn _ _ _ e2.symm _ _ _)
  ·exact absurd hj1 (hn _ _ _ e1.symm _ _ _)
  ·rfl
theorem Rel.row_lt (r:Rel B w0 g h w) {i t k:Nat} {es:List (List AV)} (hk:h.blks[i]?=some (.row t k es)):t < g.τ.length:=by
 obtain ⟨_,u,hu,_⟩:=r.rowAt hk
 exact (List.getElem?_eq_some_iff.1 hu).1
theorem Rel.newRowT (r:Rel B w0 g h w) (t:TI) (k:Nat) (es:List (List AV)) (hloc:∀ b l e,t.loc=some (b,l,e)→LocOk g.Φ B w b l e)
  (hd:∀ b x,t.loc=some (b,x)→(∀ (j:Nat) (u:TI) (y:Nat×Nat),g.τ[j]?=some u→u.loc ≠ some (b,y))∧(∀ (j c:Nat),g.σ[j]?=some (some c)→b ≠ c)∧g.N b=none)
  (hrow:RowOk ((g.addT t).addS none) w g.τ.length k es) :
  Rel B w0 ((g.addT t).addS none) (({ h with toks:=h.toks++[t.n] }:AH).new (.row g.τ.length k es)) w:=by
 refine (r.addTok t hloc hd).adoptN _ hrow fun t' k1 es1 e i k2 es2 hi=>?_
 injection e with e1 _ _
 subst e1
 exact Nat.lt_irrefl _ (r.row_lt hi)

theorem Rel.setRowG (r:Rel B w0 g h w) {i q k:Nat} {t t':TI} {es:List (List AV)} {nb:Blk} (hi:g.τ[i]?=some t) (hn:t.n < t'.n) (hf:t.row=true) (hf':t'.row=true)
  (hq:g.σ[q]?=some none) (hb:h.blks[q]?=some (.row i k es)) (hrow:RowB (g.setT i t') w nb) (hnb:∀ t k es,nb=.row t k es→t=i)
  (hloc:∀ b l e,t'.loc=some (b,l,e)→LocOk g.Φ B w b l e)
  (hd:∀ b x,t'.loc=some (b,x)→(∃ y,t.loc=some (b,y)) ∨ ((∀ (j:Nat) (u:TI) (y:Nat×Nat),g.τ[j]?=some u→u.loc ≠ some (b,y))∧(∀ (j c:Nat),g.σ[j]?=some (some c)→b ≠ c)∧g.N b=none)) :
  Rel B w0 (g.setT i t') { h.put q nb with toks:=h.toks.set i t'.n } w:=by
 have hlt:i < g.τ.length:=(List.getElem?_eq_some_iff.1 hi).1
 have hle:=Gh.le_setT hi hn (hf'.trans hf.symm)
 have key:∀ (j:Nat) (u:TI),(g.setT i t').τ[j]?=some u→(j=i∧u=t') ∨ (j ≠ i∧g.τ[j]?=some u):=by
  intro j u e
  simp only [Gh.setT] at e
  by_cases hj:j=i
  ·subst hj
   rw [List.getElem?_set_self hlt] at e
   injection e with e
   exact .inl ⟨rfl,e.symm⟩
  ·rw [List.getElem?_set_ne (fun e=>hj e.symm)] at e
   exact .inr ⟨hj,e⟩
 have hql:q < h.blks.length:=(List.getElem?_eq_some_iff.1 hb).1
 have bkey:∀ (j:Nat) (b:Blk),(h.blks.set q nb)[j]?=some b→(j=q∧b=nb) ∨ (j ≠ q∧h.blks[j]?=some b):=by
  intro j b e
  by_cases hj:j=q
  ·subst hj
   rw [List.getElem?_set_self hql] at e
   injection e with e
   exact .inl ⟨rfl,e.symm⟩
  ·rw [List.getElem?_set_ne (fun e=>hj e.symm)] at e
   exact .inr ⟨hj,e⟩
 refine ⟨r.below,r.bsz,r.phi,by simp [AH.put,Gh.setT,r.slen],fun i' c b hc hk=>?_,by simp [Gh.setT,r.tlen],fun j u hu=>?_,r.sinj,fun j j' u u' b x y hj hj' hx hy=>?_,fun j c j' u b x hc hu hx=>?_,r.dfr,
  fun j b hj hk=>?_,fun j1 j2 t1 k1 k2 e1 e2 hj1 hj2=>?_,fun b x hb=>?_,r.ob⟩
 rotate_right
 ·exact (r.nb b x hb).mono fun _ _ ha=>⟨rfl,⟨ha.1,ha.2.1,fun j u y hu hl=>by
    rcases key j u hu with ⟨rfl,rfl⟩ | ⟨_,hu⟩
    ·rcases hd b y hl with ⟨z,hz⟩ | ⟨_,_,h3⟩
     ·exact ha.2.2 _ _ z hi hz
     ·have hb:g.N b=some x:=hb
      rw [h3] at hb;cases hb
    ·exact ha.2.2 j u y hu hl⟩,fun h=>h⟩
 ·have hc:g.σ[i']?=some (some c):=hc
  rcases bkey i' b hk with ⟨rfl,rfl⟩ | ⟨hne,hk⟩
  ·rw [hq] at hc;cases hc
  ·obtain ⟨h1,h2,h3,h4⟩:=r.blk i' c b hc hk
   exact ⟨h1,h2,h3.mono hle rfl,h4⟩
 ·rcases key j u hu with ⟨rfl,rfl⟩ | ⟨hj,hu⟩
  ·exact ⟨List.getElem?_set_self (by rw [← r.tlen];exact hlt),hloc⟩
  ·obtain ⟨h1,h2⟩:=r.tok j u hu
   exact ⟨by simp only;rw [List.getElem?_set_ne (fun e=>hj e.symm)];exact h1,h2⟩
 ·rcases key j u hj with ⟨rfl,rfl⟩ | ⟨hne,hj2⟩ <;> rcases key j' u' hj' with ⟨rfl,rfl⟩ | ⟨hne',hj'⟩
  ·rfl
  ·rcases hd b x hx with ⟨z,hz⟩ | ⟨h1,_⟩
   ·exact r.tinj _ _ _ _ b z y hi hj' hz hy
   ·exact absurd hy (h1 _ _ _ hj')
  ·rcases hd b y hy with ⟨z,hz⟩ | ⟨h1,_⟩
   ·exact r.tinj _ _ _ _ b x z hj2 hi hx hz
   ·exact absurd hx (h1 _ _ _ hj2)
  ·exact r.tinj _ _ _ _ b x y hj2 hj' hx hy
 ·rcases key j' u hu with ⟨rfl,rfl⟩ | ⟨hne,hu⟩
  ·rcases hd b x hx with ⟨z,hz⟩ | ⟨_,h2,_⟩
   ·exact r.sep j c _ t b z hc hi hz
   ·exact h2 j c hc
  ·exact r.sep j c j' u b x hc hu hx
 ·rcases bkey j b hk with ⟨rfl,rfl⟩ | ⟨hne,hk2⟩
  ·exact hrow
  ·have hr:=r.row j b hj hk2
   cases b with
   | row i2 k2 e2 =>
    have hr:RowOk g w i2 k2 e2:=hr
    have hi2:i2 ≠ i:=by rintro rfl;exact hne (r.rinj _ _ _ _ _ _ _ hk2 hb)
    exact hr.mono hle (by simp only [Gh.setT];exact List.getElem?_set_ne (fun e=>hi2 e.symm)) (fun _ _ _ _ _ _=>⟨rfl,fun _=>rfl⟩)
   | dead=>trivial
   | _=>exact hr.elim
 ·rcases bkey j1 _ hj1 with ⟨rfl,he1⟩ | ⟨hne1,hk1⟩ <;> rcases bkey j2 _ hj2 with ⟨rfl,he2⟩ | ⟨hne2,hk2⟩
  ·rfl
  ·have:=hnb _ _ _ he1.symm;subst this
   exact r.rinj _ _ _ _ _ _ _ hb hk2
  ·have:=hnb _ _ _ he2.symm;subst this
   exact r.rinj _ _ _ _ _ _ _ hk1 hb
  ·exact r.rinj _ _ _ _ _ _ _ hk1 hk2

def AH.shr (h:AH) (id tk k n:Nat) (es:List (List AV)):AH:=({ h.put id .dead with toks:=h.toks.set tk (es.length+1)++[n] }:AH).new (.row h.toks.length k (es.take n))
theorem flat_takeN {k:Nat}:∀ (n:Nat) (es:List (List AV)),(∀ e ∈ es,e.length=k)→n≤es.length→(es.take n).flatten=es.flatten.take (n * k)
 | 0,_,_,_=>by simp
 | n+1,[],_,h=>by simp at h
 | n+1,e::r,hk,h=>by
  have h1:=hk e List.mem_cons_self
  simp only [List.take_succ_cons,List.flatten_cons]
  rw [flat_takeN n r (fun x hx=>hk x (List.mem_cons_of_mem _ hx)) (by simpa using h),List.take_append,h1]
  have h2:(n+1) * k - k=n * k:=by rw [Nat.succ_mul];omega
  have h3:e.take ((n+1) * k)=e:=List.take_of_length_le (by rw [h1,Nat.succ_mul];omega)
  rw [h2,h3]
def locOf (a:Option Addr) (n c k:Nat):Option (Nat×Nat×Nat):=match a with
 | some ⟨b,o,none⟩=>if c=0 then none else some (b,o+n * k,o+c * k)
 | _=>none
theorem Rel.shrink (r:Rel B w0 g h w) {id tk k n c:Nat} {es:List (List AV)} (hb:h.blk id=some (.row tk k es)) (hn:n≤es.length) {a a':Option Addr} (ha:a'=a ∨ a'=a.map (·.add 0))
  (hV:V g (.rsl id tk k es.length) (.slice a es.length c)) :
  ∃ g',g.le g'∧Rel B w0 g' (h.shr id tk k n es) w∧V g' (.rsl h.blks.length h.toks.length k n) (.slice a' n c):=by
 obtain ⟨hq,t,ht,htr,htn,hlen,hpure,hrow⟩:=r.rowAt hb
 simp only [V] at hV
 obtain ⟨ad,cc,he,hnc,hcm,u,hu,hur,hun,hhd⟩:=hV
 simp only [Value.slice.injEq] at he
 obtain ⟨rfl,_,rfl⟩:=he
 rw [ht] at hu
 injection hu with hu
 subst hu
 have hbq:h.blks[id]?=some (.row tk k es):=hb
 let told:TI:=⟨es.length+1,none,true⟩
 have r1:=r.setRowG (t':=told) (nb:=.dead) ht (by show t.n < es.length+1;omega) htr rfl hq hbq trivial (fun _ _ _ e=>by cases e) (fun _ _ _ e=>by cases e) (fun _ _ e=>by cases e)
 have hlt:tk < g.τ.length:=(List.getElem?_eq_some_iff.1 ht).1
 have hle1:g.le (g.setT tk told):=Gh.le_setT ht (by show t.n < es.length+1;omega) htr.symm
 have hloc:t.loc=t.loc:=rfl
 -- where the new one lies
 let tnew:TI:=⟨n,locOf a n c k,true⟩
 have other:∀ (j:Nat) (v:TI),(g.setT tk told).τ[j]?=some v→(j=tk∧v=told) ∨ (j ≠ tk∧g.τ[j]?=some v):=by
  intro j v e
  simp only [Gh.setT] at e
  by_cases hj:j=tk
  ·subst hj
   rw [List.getElem?_set_self hlt] at e
   injection e with e
   exact .inl ⟨rfl,e.symm⟩
  ·rw [List.getElem?_set_ne (fun e=>hj e.symm)] at e
   exact .inr ⟨hj,e⟩
 have L:∀ b l e,tnew.loc=some (b,l,e)→∃ o,a=some ⟨b,o,none⟩∧l=o+n * k∧e=o+c * k∧t.loc=some (b,o+es.length * k,o+c * k):=by
  intro b l e hl
  simp only [tnew,locOf] at hl
  split at hl
  ·rename_i b' o
   split at hl
   ·cases hl
   ·rename_i hc0
    simp only [Option.some.injEq,Prod.mk.injEq] at hl
    obtain ⟨rfl,rfl,rfl⟩:=hl
    rcases hhd with ⟨_,h2⟩ | ⟨b2,o2,h2,h3⟩
    ·exact absurd h2 hc0
    ·injection h2 with h2
     injection h2 with h4 h5
     subst h4 h5
     exact ⟨_,rfl,rfl,rfl,h3 htn.symm⟩
  ·cases hl
 have free:∀ b o,t.loc=some (b,o+es.length * k,o+c * k)→∀ j,o+n * k≤j→g.Φ b j=none:=by
  intro b o hl j hj
  rcases hrow with rfl | ⟨b2,o2,e2,cs,ty,k1,k2,k3,k4,k5⟩
  ·have:=(r.tok tk t ht).2 _ _ _ hl
   exact this.free j (by simp at hn;subst hn;simpa using hj)
  ·rw [hl] at k1
   simp only [Option.some.injEq,Prod.mk.injEq] at k1
   obtain ⟨rfl,h2,rfl⟩:=k1
   have:o=o2:=by omega
   subst this
   exact k5 j (by omega)
 have hlocN:∀ b l e,tnew.loc=some (b,l,e)→LocOk (g.setT tk told).Φ B w b l e:=by
  intro b l e hl
  obtain ⟨o,_,rfl,rfl,h4⟩:=L b l e hl
  have h5:=(r.tok tk t ht).2 _ _ _ h4
  exact ⟨h5.lo,h5.lt,h5.cells,fun j hj=>free b o h4 j hj⟩
 have hdN:∀ b x,tnew.loc=some (b,x)→(∀ (j:Nat) (u:TI) (y:Nat×Nat),(g.setT tk told).τ[j]?=some u→u.loc ≠ some (b,y))∧(∀ (j c:Nat),(g.setT tk told).σ[j]?=some (some c)→b ≠ c)∧(g.setT tk told).N b=none:=by
  rintro b ⟨l,e⟩ hl
  obtain ⟨o,_,_,_,h4⟩:=L b l e hl
  refine ⟨fun j v y hj hv=>?_,fun j c' hj=>r.sep j c' tk t b _ hj ht h4,r.ntok ht h4⟩
  rcases other j v hj with ⟨rfl,rfl⟩ | ⟨hne,hj⟩
  ·cases hv
  ·exact hne (r.tinj _ _ _ _ b _ _ hj ht hv h4)
 have hlen':(g.setT tk told).τ.length=h.toks.length:=by simp [Gh.setT,r.tlen]
 have hgt:(((g.setT tk told).addT tnew).addS none).τ[h.toks.length]?=some tnew:=by
  simp only [Gh.addS,Gh.addT]
  rw [List.getElem?_append_right (by rw [hlen'];exact Nat.le_refl _),hlen']
  simp
 have hcc:es ≠ []→c ≠ 0:=by
  intro h1 h2
  subst h2
  have:es.length=0:=by omega
  exact h1 (List.eq_nil_of_length_eq_zero this)
 have hrowN:RowOk (((g.setT tk told).addT tnew).addS none) w (g.setT tk told).τ.length k (es.take n):=by
  rw [hlen']
  refine ⟨tnew,hgt,rfl,by simp [tnew,Nat.min_eq_left hn],fun e he=>hlen e (List.mem_of_mem_take he),?_,?_⟩
  ·rw [flat_takeN n es hlen hn];exact all_take _ hpure
  ·by_cases hes:es=[]
   ·left;subst hes;simp
   ·right
    rcases hrow with h0 | ⟨b2,o2,e2,cs,ty,k1,k2,k3,k4,k5⟩
    ·exact absurd h0 hes
    ·rcases hhd with ⟨h1,_⟩ | ⟨b,o,h2,h3⟩
     ·exact absurd (List.eq_nil_of_length_eq_zero h1) hes
     ·have h3:=h3 htn.symm
      rw [k1] at h3
      simp only [Option.some.injEq,Prod.mk.injEq] at h3
      obtain ⟨rfl,h5,rfl⟩:=h3
      have:o2=o:=by omega
      subst this
      have hnk:n * k≤es.length * k:=Nat.mul_le_mul_right k hn
      refine ⟨b2,o2,o2+c * k,cs,ty,?_,k2,?_,?_,fun j hj=>k5 j hj⟩
      ·simp only [tnew,locOf,h2,if_neg (hcc hes),List.length_take,Nat.min_eq_left hn]
      ·rw [flat_takeN n es hlen hn,List.length_take,Nat.min_eq_left hn]
       have:=VA.take (n * k) k3
       rw [List.take_take,Nat.min_eq_left hnk] at this
       exact VA.mono ((hle1.trans (Gh.le_addT _ _)).trans (Gh.le_addS _ _)) _ _ this
      ·rw [List.length_take,Nat.min_eq_left hn];omega
 have r2:=r1.newRowT tnew k (es.take n) hlocN hdN hrowN
 refine ⟨((g.setT tk told).addT tnew).addS none,(hle1.trans (Gh.le_addT _ _)).trans (Gh.le_addS _ _),?_,?_⟩
 ·have e1:h.shr id tk k n es=(({ ({ h.put id .dead with toks:=h.toks.set tk told.n }:AH) with toks:=(h.toks.set tk told.n)++[tnew.n] }:AH).new (.row (g.setT tk told).τ.length k (es.take n))):=by
   unfold AH.shr
   rw [hlen']
  rw [e1]
  exact r2
 ·simp only [V]
  refine ⟨a',c,rfl,by omega,hcm,tnew,hgt,rfl,Nat.le_refl _,?_⟩
  rcases hhd with ⟨h1,h2⟩ | ⟨b,o,h2,h3⟩
  ·left;exact ⟨by omega,h2⟩
  ·by_cases hc0:c=0
   ·left;exact ⟨by omega,hc0⟩
   ·right
    refine ⟨b,o,?_,fun _=>?_⟩
    ·rcases ha with rfl | rfl
     ·exact h2
     ·rw [h2];simp [Addr.add]
    ·simp only [tnew,locOf,h2,if_neg hc0]
end
end Go.Vv
