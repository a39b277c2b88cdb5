/- Tokens: rows that the call's own code lengthens. -/
import Derived.Test.YtfdacjmlbokckaaGreatDoorVvA
import Derived.Lib.AppendStr
set_option linter.all false
namespace Go.Vv
open Go Go.RowKit
section
variable {B:Nat} {w0 w:World} {g:Gh} {h:AH}

def Gh.setT (g:Gh) (i:Nat) (t:TI):Gh:={ g with τ:=g.τ.set i t }
def Gh.addT (g:Gh) (t:TI):Gh:={ g with τ:=g.τ++[t] }
theorem Gh.le_setT {g:Gh} {i:Nat} {t t':TI} (hi:g.τ[i]?=some t) (hn:t.n < t'.n) (hw:t'.row=t.row):g.le (g.setT i t') :=
 ⟨fun _ _ _ e=>e,fun _ _ e=>e,fun j u e=>by
  simp only [Gh.setT]
  by_cases hj:j=i
  ·subst hj
   grind
  ·exact ⟨u,by grind,Nat.le_refl _,fun _=>rfl,rfl⟩,fun _ h=>h,fun _ _ h=>h,fun _ h=>h⟩
theorem Gh.le_addT (g:Gh) (t:TI):g.le (g.addT t) :=
 ⟨fun _ _ _ e=>e,fun _ _ e=>e,fun j u e=>by
  simp only [Gh.addT]
  exact ⟨u,by grind,Nat.le_refl _,fun _=>rfl,rfl⟩,fun _ h=>h,fun _ _ h=>h,fun _ h=>h⟩

theorem Rel.setTok (r:Rel B w0 g h w) {i:Nat} {t t':TI} (hi:g.τ[i]?=some t) (hn:t.n < t'.n) (hf:t.row=false) (hf':t'.row=false)
  (hloc:∀ b l e,t'.loc=some (b,l,e)→LocOk g.Φ B w b l e)
  (hd:∀ b x,t'.loc=some (b,x)→(∃ y,t.loc=some (b,y)) ∨ ((∀ (j:Nat) (u:TI) (y:Nat×Nat),g.τ[j]?=some u→u.loc ≠ some (b,y))∧(∀ (j c:Nat),g.σ[j]?=some (some c)→b ≠ c)∧g.N b=none∧¬ g.O b)) :
  Rel B w0 (g.setT i t') { h with toks:=h.toks.set i t'.n } w:=by
 have hlt:i < g.τ.length:=(List.getElem?_eq_some_iff.1 hi).1
 have key:∀ (j:Nat) (u:TI),(g.setT i t').τ[j]?=some u→(j=i∧u=t') ∨ (j ≠ i∧g.τ[j]?=some u):=by
  intro j u e
  simp only [Gh.setT] at e
  grind
 refine ⟨r.below,r.bsz,r.phi,r.slen,fun i' c k hc hk=>?_,by simp [Gh.setT,r.tlen],fun j u hu=>?_,r.sinj,fun j j' u u' b x y hj hj' hx hy=>?_,fun j c j' u b x hc hu hx=>?_,r.dfr,
  fun q k hq hk=>(r.row q k hq hk).mono (Gh.le_setT hi hn (hf'.trans hf.symm)) (fun j u hj hr=>by
   have hne:j ≠ i:=by grind
   simp only [Gh.setT];rw [List.getElem?_set_ne (fun e=>hne e.symm)];exact hj) (fun _ _ _ _ _ _ _=>⟨rfl,fun _=>rfl⟩),r.rinj,fun b x hb=>?_,r.ob,fun b hb=>?_⟩
 rotate_right
 rotate_right
 ·exact (r.nb b x hb).mono fun _ _ ha=>⟨rfl,⟨ha.1,ha.2.1,fun j u y hu hl=>by
    rcases key j u hu with ⟨rfl,rfl⟩ | ⟨_,hu⟩
    ·rcases hd b y hl with ⟨z,hz⟩ | ⟨_,_,h3,_⟩
     ·exact ha.2.2 _ _ z hi hz
     ·have hb:g.N b=some x:=hb
      simp_all
    ·exact ha.2.2 j u y hu hl⟩,fun h=>h⟩
 ·have ha:=r.oa b hb
  refine ⟨ha.1,ha.2.1,fun j u y hu hl=>?_⟩
  rcases key j u hu with ⟨rfl,rfl⟩ | ⟨_,hu⟩
  ·rcases hd b y hl with ⟨z,hz⟩ | ⟨_,_,_,h3⟩
   ·exact ha.2.2 _ _ z hi hz
   ·exact h3 hb
  ·exact ha.2.2 j u y hu hl
 ·obtain ⟨h1,h2,h3,h4⟩:=r.blk i' c k hc hk
  exact ⟨h1,h2,h3.mono (Gh.le_setT hi hn (hf'.trans hf.symm)) rfl,h4⟩
 ·rcases key j u hu with ⟨rfl,rfl⟩ | ⟨hj,hu⟩
  ·exact ⟨List.getElem?_set_self (by rw [← r.tlen];exact hlt),hloc⟩
  ·obtain ⟨h1,h2⟩:=r.tok j u hu
   exact ⟨by grind,h2⟩
 ·rcases key j u hj with ⟨rfl,rfl⟩ | ⟨hne,hj2⟩ <;> rcases key j' u' hj' with ⟨rfl,rfl⟩ | ⟨hne',hj'⟩
  ·rfl
  ·rcases hd b x hx with ⟨z,hz⟩ | ⟨h1,_⟩
   ·exact r.tinj _ _ _ _ b z y hi hj' hz hy
   ·grind
  ·rcases hd b y hy with ⟨z,hz⟩ | ⟨h1,_⟩
   ·exact r.tinj _ _ _ _ b x z hj2 hi hx hz
   ·grind
  ·exact r.tinj _ _ _ _ b x y hj2 hj' hx hy
 ·rcases key j' u hu with ⟨rfl,rfl⟩ | ⟨hne,hu⟩
  ·rcases hd b x hx with ⟨z,hz⟩ | ⟨_,h2,_⟩
   ·exact r.sep j c _ t b z hc hi hz
   ·exact h2 j c hc
  ·exact r.sep j c j' u b x hc hu hx

theorem Rel.addTok (r:Rel B w0 g h w) (t:TI) (hloc:∀ b l e,t.loc=some (b,l,e)→LocOk g.Φ B w b l e)
  (hd:∀ b x,t.loc=some (b,x)→(∀ (j:Nat) (u:TI) (y:Nat×Nat),g.τ[j]?=some u→u.loc ≠ some (b,y))∧(∀ (j c:Nat),g.σ[j]?=some (some c)→b ≠ c)∧g.N b=none∧¬ g.O b) :
  Rel B w0 (g.addT t) { h with toks:=h.toks++[t.n] } w:=by
 have key:∀ (j:Nat) (u:TI),(g.addT t).τ[j]?=some u→(j=g.τ.length∧u=t) ∨ (j < g.τ.length∧g.τ[j]?=some u):=by
  intro j u e
  simp only [Gh.addT] at e
  grind
 refine ⟨r.below,r.bsz,r.phi,r.slen,fun i' c k hc hk=>?_,by simp [Gh.addT,r.tlen],fun j u hu=>?_,r.sinj,fun j j' u u' b x y hj hj' hx hy=>?_,fun j c j' u b x hc hu hx=>?_,r.dfr,
  fun q k hq hk=>(r.row q k hq hk).mono (Gh.le_addT g t) (fun j u hj _=>by
   simp only [Gh.addT];rw [List.getElem?_append_left (List.getElem?_eq_some_iff.1 hj).1];exact hj) (fun _ _ _ _ _ _ _=>⟨rfl,fun _=>rfl⟩),r.rinj,fun b x hb=>?_,r.ob,fun b hb=>?_⟩
 rotate_right
 rotate_right
 ·exact (r.nb b x hb).mono fun _ _ ha=>⟨rfl,⟨ha.1,ha.2.1,fun j u y hu hl=>by
    rcases key j u hu with ⟨rfl,rfl⟩ | ⟨_,hu⟩
    ·have hb:g.N b=some x:=hb
     simp_all
    ·exact ha.2.2 j u y hu hl⟩,fun h=>h⟩
 ·have ha:=r.oa b hb
  refine ⟨ha.1,ha.2.1,fun j u y hu hl=>?_⟩
  rcases key j u hu with ⟨rfl,rfl⟩ | ⟨_,hu⟩
  ·exact (hd b y hl).2.2.2 hb
  ·exact ha.2.2 j u y hu hl
 ·obtain ⟨h1,h2,h3,h4⟩:=r.blk i' c k hc hk
  exact ⟨h1,h2,h3.mono (Gh.le_addT g t) rfl,h4⟩
 ·rcases key j u hu with ⟨rfl,rfl⟩ | ⟨hj,hu⟩
  ·refine ⟨?_,hloc⟩
   rw [r.tlen,List.getElem?_append_right (Nat.le_refl _)];simp
  ·obtain ⟨h1,h2⟩:=r.tok j u hu
   exact ⟨by grind,h2⟩
 ·rcases key j u hj with ⟨rfl,rfl⟩ | ⟨hne,hj2⟩ <;> rcases key j' u' hj' with ⟨rfl,rfl⟩ | ⟨hne',hj'⟩
  ·rfl
  ·grind
  ·grind
  ·exact r.tinj _ _ _ _ b x y hj2 hj' hx hy
 ·rcases key j' u hu with ⟨rfl,rfl⟩ | ⟨hne,hu⟩
  ·exact (hd b x hx).2.1 j c hc
  ·exact r.sep j c j' u b x hc hu hx

theorem Rel.setSpare (r:Rel B w0 g h w) {i:Nat} {t:TI} {b l e:Nat} (hi:g.τ[i]?=some t) (hl:t.loc=some (b,l,e)) {cur new:Array Value} {ty:TypeId}
  (hc:w.heap[b]?=some (.cells cur ty (0,0))) (hsz:new.size=cur.size) (hsame:∀ j,j < l→new[j]?=cur[j]?):Rel B w0 g h (w.setRow b new):=by
 have lo:=(r.tok i t hi).2 b l e hl
 have hnew:(w.setRow b new).heap[b]?=some (.cells new ty (0,0)):=setRow_heap w b cur new ty (0,0) hc
 refine ⟨⟨r.below.os,r.below.tape,r.below.output,by simp [r.below.size],fun k hk=>(setRow_other w b k new (by have:=lo.lo;omega)).trans (r.below.block k hk)⟩,by simp [r.bsz],fun b' j v e'=>?_,
  r.slen,fun i' c k hc' hk=>?_,r.tlen,fun i' t' ht'=>?_,r.sinj,r.tinj,r.sep,fun x hx=>⟨(r.dfr x hx).1,(setRow_other w b x new (by rintro rfl;have:=(r.dfr x hx).2.1;rw [hc] at this;cases this)).trans (r.dfr x hx).2.1,(r.dfr x hx).2.2⟩,fun q k hq hk=>?_,r.rinj,
  fun b' x hb=>(r.nb b' x hb).mono fun _ _ ha=>⟨setRow_other w b b' new (by rintro rfl;exact ha.2.2 i t _ hi hl),ha,fun h=>h⟩,fun b' hb=>⟨by simpa using (r.ob b' hb).1,(r.ob b' hb).2⟩,r.oa⟩
 ·by_cases hb:b'=b
  ·subst hb
   have hj:j < l:=by
    rcases Nat.lt_or_ge j l with hj | hj
    ·exact hj
    ·rw [lo.free j hj] at e';cases e'
   have:=r.phi b' j v e'
   rw [cell_of_row w b' j cur ty (0,0) hc] at this
   rw [cell_of_row _ b' j new ty (0,0) hnew,hsame j hj]
   omega
  ·exact (World.cell?_of_block (w:=w) (a:=⟨b',j,none⟩) (setRow_other w b b' new hb)).trans (r.phi b' j v e')
 ·obtain ⟨h1,h2,h3,h4⟩:=r.blk i' c k hc' hk
  exact ⟨h1,by simp_all,h3.mono (Gh.le.refl g) (setRow_other w b c new (r.sep i' c i t b (l,e) hc' hi hl).symm),h4⟩
 ·obtain ⟨h1,h2⟩:=r.tok i' t' ht'
  refine ⟨h1,fun b' l' e'' hl'=>?_⟩
  have lo':=h2 b' l' e'' hl'
  by_cases hb:b'=b
  ·subst hb
   obtain ⟨cs,ty',hcs,hle⟩:=lo'.cells
   rw [hc] at hcs
   injection hcs with hcs
   injection hcs with hcs _ _
   subst hcs
   exact ⟨lo'.lo,by grind,⟨new,ty,hnew,by omega⟩,lo'.free⟩
  ·exact lo'.mono (by simp) (setRow_other w b b' new hb) fun _ _=>rfl
 ·have hrow:=r.row q k hq hk
  cases k with
  | row i2 k es =>
   obtain ⟨t2,h1,h2,h3,h4,h5,h6⟩:=hrow
   refine ⟨t2,h1,h2,h3,h4,h5,h6.imp id ?_⟩
   rintro ⟨b2,o,e2,cs,ty2,k1,k2,k3,k4,k5⟩
   by_cases hb:b2=b
   ·subst hb
    have hii:=r.tinj _ _ _ _ b2 _ _ h1 hi k1 hl
    subst hii
    rw [hi] at h1;injection h1 with h1;subst h1
    rw [hl] at k1;injection k1 with k1;injection k1 with _ k1;injection k1 with k1 _
    rw [hc] at k2;injection k2 with k2;injection k2 with k2 k22 _;subst k2
    refine ⟨b2,o,e,new,ty,by rw [hl,k1],hnew,?_,by omega,k5⟩
    have:(new.toList.drop o).take (es.length * k)=(cur.toList.drop o).take (es.length * k):=by
     apply List.ext_getElem?
     grind
    simp_all
   ·exact ⟨b2,o,e2,cs,ty2,k1,(setRow_other w b b2 new hb).trans k2,k3,k4,k5⟩
  | dead=>trivial
  | _=>exact hrow.elim

theorem Rel.setRow (r:Rel B w0 g h w) {i q k:Nat} {t t':TI} {es es':List (List AV)} (hi:g.τ[i]?=some t) (hn:t.n < t'.n) (hf:t.row=true) (hf':t'.row=true)
  (hq:g.σ[q]?=some none) (hb:h.blks[q]?=some (.row i k es)) (hrow:RowOk (g.setT i t') w i k es')
  (hloc:∀ b l e,t'.loc=some (b,l,e)→LocOk g.Φ B w b l e)
  (hd:∀ b x,t'.loc=some (b,x)→(∃ y,t.loc=some (b,y)) ∨ ((∀ (j:Nat) (u:TI) (y:Nat×Nat),g.τ[j]?=some u→u.loc ≠ some (b,y))∧(∀ (j c:Nat),g.σ[j]?=some (some c)→b ≠ c)∧g.N b=none∧¬ g.O b)) :
  Rel B w0 (g.setT i t') { h.put q (.row i k es') with toks:=h.toks.set i t'.n } w:=by
 have hlt:i < g.τ.length:=(List.getElem?_eq_some_iff.1 hi).1
 have hle:=Gh.le_setT hi hn (hf'.trans hf.symm)
 have key:∀ (j:Nat) (u:TI),(g.setT i t').τ[j]?=some u→(j=i∧u=t') ∨ (j ≠ i∧g.τ[j]?=some u):=by
  intro j u e
  simp only [Gh.setT] at e
  grind
 have hql:q < h.blks.length:=(List.getElem?_eq_some_iff.1 hb).1
 have bkey:∀ (j:Nat) (b:Blk),(h.blks.set q (.row i k es'))[j]?=some b→(j=q∧b=.row i k es') ∨ (j ≠ q∧h.blks[j]?=some b):=by
  grind
 refine ⟨r.below,r.bsz,r.phi,by simp [AH.put,Gh.setT,r.slen],fun i' c b hc hk=>?_,by simp [Gh.setT,r.tlen],fun j u hu=>?_,r.sinj,fun j j' u u' b x y hj hj' hx hy=>?_,fun j c j' u b x hc hu hx=>?_,r.dfr,
  fun j b hj hk=>?_,fun j1 j2 t1 k1 k2 e1 e2 hj1 hj2=>?_,fun b x hb=>?_,r.ob,fun b hb=>?_⟩
 rotate_right
 rotate_right
 ·exact (r.nb b x hb).mono fun _ _ ha=>⟨rfl,⟨ha.1,ha.2.1,fun j u y hu hl=>by
    rcases key j u hu with ⟨rfl,rfl⟩ | ⟨_,hu⟩
    ·rcases hd b y hl with ⟨z,hz⟩ | ⟨_,_,h3,_⟩
     ·exact ha.2.2 _ _ z hi hz
     ·have hb:g.N b=some x:=hb
      simp_all
    ·exact ha.2.2 j u y hu hl⟩,fun h=>h⟩
 ·have ha:=r.oa b hb
  refine ⟨ha.1,ha.2.1,fun j u y hu hl=>?_⟩
  rcases key j u hu with ⟨rfl,rfl⟩ | ⟨_,hu⟩
  ·rcases hd b y hl with ⟨z,hz⟩ | ⟨_,_,_,h3⟩
   ·exact ha.2.2 _ _ z hi hz
   ·exact h3 hb
  ·exact ha.2.2 j u y hu hl
 ·have hc:g.σ[i']?=some (some c):=hc
  rcases bkey i' b hk with ⟨rfl,rfl⟩ | ⟨hne,hk⟩
  ·simp_all
  ·obtain ⟨h1,h2,h3,h4⟩:=r.blk i' c b hc hk
   exact ⟨h1,h2,h3.mono hle rfl,h4⟩
 ·rcases key j u hu with ⟨rfl,rfl⟩ | ⟨hj,hu⟩
  ·exact ⟨List.getElem?_set_self (by rw [← r.tlen];exact hlt),hloc⟩
  ·obtain ⟨h1,h2⟩:=r.tok j u hu
   exact ⟨by grind,h2⟩
 ·rcases key j u hj with ⟨rfl,rfl⟩ | ⟨hne,hj2⟩ <;> rcases key j' u' hj' with ⟨rfl,rfl⟩ | ⟨hne',hj'⟩
  ·rfl
  ·rcases hd b x hx with ⟨z,hz⟩ | ⟨h1,_⟩
   ·exact r.tinj _ _ _ _ b z y hi hj' hz hy
   ·grind
  ·rcases hd b y hy with ⟨z,hz⟩ | ⟨h1,_⟩
   ·exact r.tinj _ _ _ _ b x z hj2 hi hx hz
   ·grind
  ·exact r.tinj _ _ _ _ b x y hj2 hj' hx hy
 ·rcases key j' u hu with ⟨rfl,rfl⟩ | ⟨hne,hu⟩
  ·rcases hd b x hx with ⟨z,hz⟩ | ⟨_,h2,_⟩
   ·exact r.sep j c _ t b z hc hi hz
   ·exact h2 j c hc
  ·exact r.sep j c j' u b x hc hu hx
 ·rcases bkey j b hk with ⟨rfl,rfl⟩ | ⟨hne,hk2⟩
  ·exact hrow
  ·have hr:=r.row j b hj hk2
   cases b with
   | row i2 k2 e2 =>
    have hr:RowOk g w i2 k2 e2:=hr
    have hi2:i2 ≠ i:=by rintro rfl;exact hne (r.rinj _ _ _ _ _ _ _ hk2 hb)
    exact hr.mono hle (by simp only [Gh.setT];exact List.getElem?_set_ne (fun e=>hi2 e.symm)) (fun _ _ _ _ _ _=>⟨rfl,fun _=>rfl⟩)
   | dead=>trivial
   | _=>exact hr.elim
 ·rcases bkey j1 _ hj1 with ⟨rfl,he1⟩ | ⟨hne1,hk1⟩ <;> rcases bkey j2 _ hj2 with ⟨rfl,he2⟩ | ⟨hne2,hk2⟩
  ·rfl
  ·injection he1 with he1 _ _;subst he1
   exact r.rinj _ _ _ _ _ _ _ hb hk2
  ·injection he2 with he2 _ _;subst he2
   exact r.rinj _ _ _ _ _ _ _ hk1 hb
  ·exact r.rinj _ _ _ _ _ _ _ hk1 hk2

theorem Rel.rowAt (r:Rel B w0 g h w) {id q k:Nat} {es:List (List AV)} (hb:h.blk id=some (.row q k es)):g.σ[id]?=some none∧RowOk g w q k es:=by
 have hl:id < g.σ.length:=by rw [r.slen];exact (List.getElem?_eq_some_iff.1 hb).1
 rcases hc:g.σ[id] with _ | c
 ·have hc:g.σ[id]?=some none:=by rw [List.getElem?_eq_getElem hl,hc]
  exact ⟨hc,r.row _ _ hc hb⟩
 ·exact (r.blk id c _ (by simp_all) hb).2.2.1.elim

theorem Rel.storeRow (r:Rel B w0 g h w) {q i k:Nat} {es es':List (List AV)} (hb:h.blk q=some (.row i k es)) {t:TI} {b o e:Nat} {cur new:Array Value} {ty:TypeId} (hi:g.τ[i]?=some t)
  (hl:t.loc=some (b,o+es.length * k,e)) (hc:w.heap[b]?=some (.cells cur ty (0,0))) (hsz:new.size=cur.size) (hsame:∀ j,j < o→new[j]?=cur[j]?) (hlen:es'.length=es.length)
  (hk:∀ e ∈ es',e.length=k) (hp:es'.flatten.all AV.pure=true) (hva:VA g es'.flatten ((new.toList.drop o).take (es.length * k))) (hne:es ≠ []) :
  Rel B w0 g (h.put q (.row i k es')) (w.setRow b new):=by
 obtain ⟨hσ,t2,ht2,htr,htn,_,_,hrow⟩:=r.rowAt hb
 rw [hi] at ht2;injection ht2 with ht2;subst ht2
 obtain ⟨b2,o2,e2,cs,ty2,k1,k2,k3,k4,k5⟩:∃ b2 o2 e2 cs ty2,t.loc=some (b2,o2+es.length * k,e2)∧w.heap[b2]?=some (.cells cs ty2 (0,0))∧VA g es.flatten ((cs.toList.drop o2).take (es.length * k))∧o2+es.length * k≤cs.size∧∀ j,o2≤j→g.Φ b2 j=none:=by
  simp_all
 rw [hl] at k1;injection k1 with k1;injection k1 with e1 k1;injection k1 with k1 _
 obtain rfl:o=o2:=by omega
 subst e1
 rw [hc] at k2;injection k2 with k2;injection k2 with k2 _ _;subst k2
 have lo:=(r.tok i t hi).2 b _ e hl
 have hnew:(w.setRow b new).heap[b]?=some (.cells new ty (0,0)):=setRow_heap w b cur new ty (0,0) hc
 have hql:q < h.blks.length:=(List.getElem?_eq_some_iff.1 hb).1
 have bkey:∀ (j:Nat) (x:Blk),(h.blks.set q (.row i k es'))[j]?=some x→(j=q∧x=.row i k es') ∨ (j ≠ q∧h.blks[j]?=some x):=by
  grind
 have hsep:∀ (i' c:Nat),g.σ[i']?=some (some c)→c ≠ b:=fun i' c h'=>(r.sep i' c i t b _ h' hi hl).symm
 refine ⟨⟨r.below.os,r.below.tape,r.below.output,by simp [r.below.size],fun x hx=>(setRow_other w b x new (by have:=lo.lo;omega)).trans (r.below.block x hx)⟩,by simp [r.bsz],fun b' j v e'=>?_,
  by simp [AH.put,r.slen],fun i' c x hc' hk'=>?_,r.tlen,fun i' t' ht'=>?_,r.sinj,r.tinj,r.sep,fun x hx=>⟨(r.dfr x hx).1,(setRow_other w b x new (by rintro rfl;have:=(r.dfr x hx).2.1;rw [hc] at this;cases this)).trans (r.dfr x hx).2.1,(r.dfr x hx).2.2⟩,
  fun j x hj hx=>?_,fun j1 j2 t1 x1 x2 e1 e2 hj1 hj2=>?_,
  fun b' x hb=>(r.nb b' x hb).mono fun _ _ ha=>⟨setRow_other w b b' new (by rintro rfl;exact ha.2.2 i t _ hi hl),ha,fun h=>h⟩,fun b' hb=>⟨by simpa using (r.ob b' hb).1,(r.ob b' hb).2⟩,r.oa⟩
 ·by_cases hb':b'=b
  ·subst hb'
   have hj:j < o:=by
    grind
   have:=r.phi b' j v e'
   rw [cell_of_row w b' j cur ty (0,0) hc] at this
   rw [cell_of_row _ b' j new ty (0,0) hnew,hsame j hj]
   omega
  ·exact (World.cell?_of_block (w:=w) (a:=⟨b',j,none⟩) (setRow_other w b b' new hb')).trans (r.phi b' j v e')
 ·rcases bkey i' x hk' with ⟨rfl,rfl⟩ | ⟨_,hk'⟩
  ·simp_all
  ·obtain ⟨h1,h2,h3,h4⟩:=r.blk i' c x hc' hk'
   exact ⟨h1,by simp_all,h3.mono (Gh.le.refl g) (setRow_other w b c new (hsep i' c hc')),h4⟩
 ·obtain ⟨h1,h2⟩:=r.tok i' t' ht'
  refine ⟨h1,fun b' l' e'' hl'=>?_⟩
  have lo':=h2 b' l' e'' hl'
  by_cases hb':b'=b
  ·subst hb'
   obtain ⟨cs,ty',hcs,hle⟩:=lo'.cells
   rw [hc] at hcs
   injection hcs with hcs
   injection hcs with hcs _ _
   subst hcs
   exact ⟨lo'.lo,by grind,⟨new,ty,hnew,by omega⟩,lo'.free⟩
  ·exact lo'.mono (by simp) (setRow_other w b b' new hb') fun _ _=>rfl
 ·rcases bkey j x hx with ⟨rfl,rfl⟩ | ⟨hne',hx'⟩
  ·exact ⟨t,hi,htr,htn.trans hlen.symm,hk,hp,.inr ⟨b,o,e,new,ty,by simp_all,hnew,by simp_all,by simp_all,k5⟩⟩
  ·have hr:=r.row j x hj hx'
   cases x with
   | row i2 k2 e2 =>
    have hr:RowOk g w i2 k2 e2:=hr
    refine hr.mono (Gh.le.refl g) rfl fun t2 b2 x2 ht2 _ hl2=>⟨setRow_other w b b2 new ?_,fun _=>rfl⟩
    rintro rfl
    have:=r.tinj _ _ _ _ b2 _ _ ht2 hi hl2 hl
    subst this
    exact hne' (r.rinj _ _ _ _ _ _ _ hx' hb)
   | dead=>trivial
   | _=>exact hr.elim
 ·rcases bkey j1 _ hj1 with ⟨rfl,he1⟩ | ⟨hne1,hk1⟩ <;> rcases bkey j2 _ hj2 with ⟨rfl,he2⟩ | ⟨hne2,hk2⟩
  ·rfl
  ·injection he1 with he1 _ _;subst he1
   exact r.rinj _ _ _ _ _ _ _ hb hk2
  ·injection he2 with he2 _ _;subst he2
   exact r.rinj _ _ _ _ _ _ _ hk1 hb
  ·exact r.rinj _ _ _ _ _ _ _ hk1 hk2
theorem Rel.scribble (r:Rel B w0 g h w) {b s:Nat} (hn:g.N b=some (.gar s)) {cur new:Array Value} {ty:TypeId}
  (hc:w.heap[b]?=some (.cells cur ty (0,0))) (hsz:new.size=cur.size):Rel B w0 g h (w.setRow b new):=by
 obtain ⟨hB,⟨ha1,had,ha2⟩,⟨cs0,ty0,hc0,hs0⟩,hΦ⟩:=r.nb b _ hn
 have hnew:(w.setRow b new).heap[b]?=some (.cells new ty (0,0)):=setRow_heap w b cur new ty (0,0) hc
 refine ⟨⟨r.below.os,r.below.tape,r.below.output,by simp [r.below.size],fun k hk=>(setRow_other w b k new (by omega)).trans (r.below.block k hk)⟩,by simp [r.bsz],fun b' j v e'=>?_,
  r.slen,fun i' c k hc' hk=>?_,r.tlen,fun i' t' ht'=>?_,r.sinj,r.tinj,r.sep,fun x hx=>⟨(r.dfr x hx).1,(setRow_other w b x new (by grind)).trans (r.dfr x hx).2.1,(r.dfr x hx).2.2⟩,fun q k hq hk=>?_,r.rinj,fun b' x hb=>?_,fun b' hb=>⟨by simpa using (r.ob b' hb).1,(r.ob b' hb).2⟩,r.oa⟩
 ·have hne:b' ≠ b:=by rintro rfl;rw [hΦ] at e';cases e'
  exact (World.cell?_of_block (w:=w) (a:=⟨b',j,none⟩) (setRow_other w b b' new hne)).trans (r.phi b' j v e')
 ·obtain ⟨h1,h2,h3,h4⟩:=r.blk i' c k hc' hk
  exact ⟨h1,by simp_all,h3.mono (Gh.le.refl g) (setRow_other w b c new (by grind)),h4⟩
 ·obtain ⟨h1,h2⟩:=r.tok i' t' ht'
  exact ⟨h1,fun b' l' e'' hl'=>(h2 b' l' e'' hl').mono (by simp) (setRow_other w b b' new (by grind)) fun _ _=>rfl⟩
 ·exact (r.row q k hq hk).mono (Gh.le.refl g) (fun _ _ h _=>h) (fun i2 t b2 x ht _ hl=>⟨setRow_other w b b2 new (by grind),fun _=>rfl⟩)
 ·by_cases hbb:b'=b
  ·subst hbb
   rw [hn] at hb
   injection hb with hb
   subst hb
   rw [hc0] at hc
   injection hc with hc
   injection hc with hc _ _
   subst hc
   exact ⟨hB,⟨ha1,had,ha2⟩,⟨new,ty,hnew,by omega⟩,hΦ⟩
  ·exact (r.nb b' x hb).mono fun _ _ ha=>⟨setRow_other w b b' new hbb,ha,fun h=>h⟩
def Gh.addN (g:Gh) (b:Nat) (x:BK):Gh:={ g with N:=fun c=>if c=b then some x else g.N c }
theorem Gh.le_addN {g:Gh} {b:Nat} (x:BK) (h:g.N b=none):g.le (g.addN b x) :=
 ⟨fun _ _ _ e=>e,fun _ _ e=>e,fun _ t e=>⟨t,e,Nat.le_refl _,fun _=>rfl,rfl⟩,fun _ h=>h,fun c y e=>by
  simp only [Gh.addN]
  by_cases hc:c=b
  ·subst hc;rw [h] at e;cases e
  ·simp [hc,e],fun _ h=>h⟩
theorem Rel.mark (r:Rel B w0 g h w) {b:Nat} {cs:Array Value} {ty:TypeId} (hN:g.N b=none) (hB:B≤b) (hc:w.heap[b]?=some (.cells cs ty (0,0))) (ha:Apart g b) (hO:¬ g.O b):Rel B w0 (g.addN b (.new cs.size)) h w :=
 ⟨r.below,r.bsz,r.phi,r.slen,fun i c k hc hk=>by obtain ⟨h1,h2,h3,h4⟩:=r.blk i c k hc hk;exact ⟨h1,h2,h3.mono (Gh.le_addN _ hN) rfl,h4⟩,r.tlen,r.tok,r.sinj,r.tinj,r.sep,r.dfr,
   fun i k hi hk=>(r.row i k hi hk).mono (Gh.le_addN _ hN) (fun _ _ h _=>h) (fun _ _ _ _ _ _ _=>⟨rfl,fun _=>rfl⟩),r.rinj,fun b' x hb=>by
     simp only [Gh.addN] at hb
     by_cases hbb:b'=b
     · subst hbb
       simp only [if_true,Option.some.injEq] at hb
       subst hb
       exact ⟨hB,ha,cs,ty,hc,rfl⟩
     · simp only [hbb,if_false] at hb
       exact (r.nb b' x hb).mono fun _ _ ha=>⟨rfl,ha,fun h=>h⟩,fun b' hb=>by
     have hne:b' ≠ b:=by rintro rfl;exact hO hb
     have:=r.ob b' hb
     simp only [Gh.addN,hne,if_false];exact this,r.oa⟩
end
end Go.Vv
namespace Go.Vv
open Go Go.RowKit Go.Lib
section
variable {g:Gh}
theorem VC.toVA {b:Nat}:∀ {o:Nat} {a5:List AV},VC g b o a5→∃ vs:List Value,VA g a5 vs∧a5.all AV.pure=true∧∀ j u,vs[j]?=some u→g.Φ b (o+j)=some u
 | _,[],_=>⟨[],by rfl,rfl,by simp⟩
 | o,a::r,h=>by
  simp only [VC] at h
  obtain ⟨⟨v,h0,h1,h2⟩,h3⟩:=h
  obtain ⟨vs,k1,kp,k2⟩:=VC.toVA h3
  refine ⟨v::vs,by simp only [VA];exact ⟨v,vs,rfl,⟨AV.one_of_pure h1,h2⟩,k1⟩,by simp [h1,kp],fun j u hu=>?_⟩
  grind
theorem VC.ofVA {b:Nat}:∀ {o:Nat} {a5:List AV} {vs:List Value},VA g a5 vs→a5.all AV.pure=true→(∀ j u,vs[j]?=some u→g.Φ b (o+j)=some u)→VC g b o a5
 | _,[],_,_,_,_=>by simp only [VC]
 | o,a::r,vs,h,hp,k=>by
  simp only [VA] at h
  obtain ⟨v,s,rfl,⟨h0,h1⟩,h2⟩:=h
  simp only [List.all_cons,Bool.and_eq_true] at hp
  simp only [VC]
  refine ⟨⟨v,by simpa using k 0 v rfl,hp.1,h1⟩,VC.ofVA (o:=o+1) h2 hp.2 fun j u hu=>?_⟩
  rw [show o+1+j=o+(j+1) by omega]
  simp_all
theorem VE_iff {b k:Nat}:∀ {o:Nat} {es:List (List AV)},VE g b k o es ↔ (∀ e ∈ es,e.length=k)∧VC g b o es.flatten
 | o,[]=>by simp [VE,VC]
 | o,e::r=>by
  simp only [VE,VE_iff (es:=r),List.flatten_cons,List.mem_cons,forall_eq_or_imp]
  constructor
  ·rintro ⟨⟨h1,h2⟩,h3,h4⟩
   exact ⟨⟨h1,h3⟩,VC.append h2 (by simp_all)⟩
  ·rintro ⟨⟨h1,h3⟩,h4⟩
   refine ⟨⟨h1,?_⟩,h3,?_⟩
   ·have:=VC.take e.length h4;rwa [List.take_left] at this
   ·have:=VC.drop e.length h4;rwa [List.drop_left,h1] at this
theorem VA.one':∀ {a5:List AV} {vs:List Value},VA g a5 vs→∀ u ∈ vs,u.oneCell'=true
 | [],_,h,u,hu=>by simp only [VA] at h;subst h;cases hu
 | a::r,_,h,u,hu=>by
  simp only [VA] at h
  obtain ⟨v,s,rfl,⟨h0,h1⟩,h2⟩:=h
  rcases List.mem_cons.1 hu with rfl | hu
  ·cases a <;> simp only [V] at h1 <;> first
    | exact h1
    | (subst h1;rfl)
    | (obtain ⟨rfl,_⟩:=h1;rfl)
    | (obtain ⟨_,_,rfl⟩:=h1;rfl)
    | (obtain ⟨_,_,rfl,_⟩:=h1;rfl)
    | (obtain ⟨_,_,_,rfl,_⟩:=h1;rfl)
    | (obtain ⟨_,rfl,_⟩:=h1;rfl)
    | (obtain ⟨_,_,_,rfl,_⟩:=h1;rfl)
    | (simp [AV.one] at h0;done)
  ·exact VA.one' h2 u hu
theorem VA.length {a5:List AV} {vs:List Value} (h:VA g a5 vs):a5.length=vs.length:=h.toVL.length
theorem yz {k:Nat}:∀ {es:List (List AV)},(∀ e ∈ es,e.length=k)→es.flatten.length=es.length * k
 | [],_=>by simp
 | e::r,h=>by
  simp only [List.flatten_cons,List.length_append,List.length_cons]
  rw [yz (es:=r) (fun x hx=>h x (by simp [hx])),h e (by simp),Nat.succ_mul];omega
end
section
variable {P:Program} {w:World}
structure News (P:Program) (size m:Nat) (x:Value) (news:List Value) (w:World):Prop where
 len:(Builtin.lenOf x).run P w=.ok m w
 cells:(Builtin.firstCells size m x).run P w=.ok news.toArray w

theorem News.slice {size m c:Nat} {b:Addr} {news:List Value} (hl:news.length=m * size) (h:∀ j v,news[j]?=some v→w.cell? (b.add j)=some v):News P size m (.slice (some b) m c) news w :=
 ⟨rfl,run_firstCells_some w size m b m c news hl h⟩
theorem News.str {size:Nat} {s:ByteArray}:News P size s.size (.string s) (strCells s) w:=⟨rfl,run_firstCells_string w size s⟩

def NotInt (d:TypeDesc):Prop:=d=.string ∨ ∃ e,d=.slice e

theorem qs {t u ty e:TypeId} {du:TypeDesc} {i:TypeInfo} (ht:P.underlying t=some (.slice e)) (hu:P.underlying u=some du) (hdu:NotInt du) (hi:P.info? e=some i)
  {b o n m c:Nat} {x:Value} {news:List Value} (hn:News P i.size m x news w) (h1:∀ u ∈ news,u.oneCell'=true) {cur:Array Value} {e':TypeId} (hc:w.heap[b]?=some (.cells cur e' (0,0)))
  (hroom:n+m≤c) (hfit:o+n * i.size+news.length≤cur.size) :
  (Builtin.append_ #[t,u] ty #[.slice (some ⟨b,o,none⟩) n c,x]).run P w =
   .ok (.slice (some ⟨b,o,none⟩) (n+m) c) (w.setRow b (cur.toList.take (o+n * i.size)++news++cur.toList.drop (o+n * i.size+news.length)).toArray):=by
 have hst:=run_storeCells_at P b (o+n * i.size) e' news 0 cur w hc (by omega) h1
 simp only [Nat.add_zero] at hst
 have hadd:(⟨b,o,none⟩:Addr).add (n * i.size)=⟨b,o+n * i.size,none⟩:=by unfold Addr.add;split <;> simp_all
 rcases hdu with rfl | ⟨_,rfl⟩ <;> simp [Builtin.append_,run_underlying ht,run_underlying hu,sizeOf,typeInfo,hi,hn.len,hroom,hn.cells,hadd,hst]

theorem vT {t u ty e:TypeId} {du:TypeDesc} {i:TypeInfo} {z:Value} (ht:P.underlying t=some (.slice e)) (hu:P.underlying u=some du) (hdu:NotInt du) (hi:P.info? e=some i) (hz:i.zero=some z)
  {n m c:Nat} {a:Option Addr} {x:Value} {olds news:List Value} (hn:News P i.size m x news w) (hn':News P i.size m x news w.drew) (ho:(Builtin.firstCells i.size n (.slice a n c)).run P w.drew=.ok olds.toArray w.drew)
  (hroom:c < n+m) (h63:n+m≤maxLen) (hfit:Builtin.nextslicecap (n+m) c * i.bytes≤281474976710656) :
  (Builtin.append_ #[t,u] ty #[.slice a n c,x]).run P w =
   .ok (.slice (some ⟨w.heap.size,0,none⟩) (n+m) (grownCap w (n+m) c e))
    (w.drew.alloc (.cells (olds.toArray++news.toArray++Builtin.zeroCells z.cells (grownCap w (n+m) c e - (n+m))) e)):=by
 have h1:¬ (n+m≤c):=by omega
 have h2:¬ (9223372036854775807 < ((n:Int)+(m:Int))):=by simp only [maxLen] at h63;omega
 have h3:¬ (281474976710656 < Builtin.nextslicecap (n+m) c * i.bytes):=by omega
 rcases hdu with rfl | ⟨_,rfl⟩ <;> simp [Builtin.append_,run_underlying ht,run_underlying hu,sizeOf,typeInfo,zeroValue,hi,hz,hn.len,h1,h2,h3,ho,hn'.cells,newRow,grownCap,Question.forced] <;> (congr 2;apply Array.ext';simp [List.append_assoc])
end
section
variable {P:Program} {w:World} {g:Gh} {h:AH} {B:Nat} {w0:World}

theorem append_row (r:Rel B w0 g h w) {t u ty e:TypeId} {du:TypeDesc} {i:TypeInfo} {z:Value} (ht:P.underlying t=some (.slice e)) (hu:P.underlying u=some du) (hdu:NotInt du) (hi:P.info? e=some i) (hz:i.zero=some z)
  (hzs:z.cells.size=i.size) (hby:i.bytes≤65536) {id q n:Nat} {es:List (List AV)} {sv x:Value} (hs:V g (.rsl id q i.size n) sv) {ys:List (List AV)} {news:List Value} (hl:∀ e ∈ ys,e.length=i.size) (hva:VA g ys.flatten news) (hpu:ys.flatten.all AV.pure=true)
  (hn:∀ W:World,(∀ a v,w.cell? a=some v→W.cell? a=some v)→News P i.size ys.length x news W) (hb:h.blk id=some (.row q i.size es)) (hesn:es.length=n) (htok:h.toks[q]?=some n) (hlim:n+ys.length≤vQ) (hy:ys.length ≠ 0) :
  ∃ v w' g',(Builtin.append_ #[t,u] ty #[sv,x]).run P w=.ok v w'∧g.le g'∧Rel B w0 g' { h.put id (.row q i.size (es++ys)) with toks:=h.toks.set q (n+ys.length) } w'∧V g' (.rsl id q i.size (n+ys.length)) v:=by
 have hn0:=hn w fun _ _ h=>h
 subst hesn
 unfold vQ at hlim
 obtain ⟨hσ,ti,hti,htr,htn,hlen,hpe,hrow⟩:=r.rowAt hb
 simp only [V] at hs
 obtain ⟨a,c,rfl,hc1,hc2,t2,ht2,hrd,hle,hcap⟩:=hs
 obtain rfl:ti=t2:=by simp_all
 have hcap:(es.length=0∧c=0) ∨ ∃ b o,a=some ⟨b,o,none⟩∧ti.loc=some (b,o+es.length * i.size,o+c * i.size):=hcap.imp (fun h=>h) fun ⟨b,o,h1,h2⟩=>⟨b,o,h1,h2 htn.symm⟩
 have hnl:news.length=ys.length * i.size:=by rw [← hva.length,yz hl]
 have hfl:es.flatten.length=es.length * i.size:=yz hlen
 -- the row's cells
 obtain ⟨olds,hov,hold⟩:∃ olds:List Value,VA g es.flatten olds∧(Builtin.firstCells i.size es.length (.slice a es.length c)).run P w.drew=.ok olds.toArray w.drew:=by
  rcases hrow with rfl | ⟨b,o,e2,cs,ty2,k1,k2,k3,k4,k5⟩
  ·refine ⟨[],by rfl,?_⟩
   cases a with
   | none=>simp [Builtin.firstCells]
   | some ad=>simp [Builtin.firstCells,loadCells,loadCellsFrom]
  ·rcases hcap with ⟨h0,_⟩ | ⟨b',o',rfl,hl'⟩
   ·have:es=[]:=List.eq_nil_of_length_eq_zero h0
    subst this
    refine ⟨[],by rfl,?_⟩
    cases a with
    | none=>simp [Builtin.firstCells]
    | some ad=>simp [Builtin.firstCells,loadCells,loadCellsFrom]
   ·rw [k1] at hl'
    injection hl' with hl';injection hl' with e1 e2';injection e2' with e2' e3
    obtain rfl:o=o':=by omega
    subst e1
    refine ⟨_,k3,run_firstCells_some w.drew i.size es.length ⟨b,o,none⟩ es.length c _ (by grind) fun j v hv=>?_⟩
    rw [World.cell?_drew]
    have hadd:(⟨b,o,none⟩:Addr).add j=⟨b,o+j,none⟩:=by unfold Addr.add;split <;> simp_all
    rw [hadd,cell_of_row w b (o+j) cs ty2 (0,0) k2]
    grind
 have hol:olds.length=es.length * i.size:=by rw [← hov.length,hfl]
 by_cases hroom:es.length+ys.length≤c
 ·-- in place
  rcases hcap with ⟨h0,h1⟩ | ⟨b,o,rfl,hlb⟩
  ·omega
  ·obtain ⟨_,hloc⟩:=r.tok _ _ hti
   have lo:=hloc b _ _ hlb
   obtain ⟨cur,ty',hcur,hce⟩:=lo.cells
   have hmul:es.length * i.size+news.length≤c * i.size:=by rw [hnl,← Nat.add_mul];exact Nat.mul_le_mul_right _ hroom
   have hrun:=qs (ty:=ty) ht hu hdu hi hn0 hva.one' hcur hroom (o:=o) (by omega)
   have hold2:VA g es.flatten ((cur.toList.drop o).take (es.length * i.size))∧∀ j,o≤j→g.Φ b j=none:=by
    rcases hrow with rfl | ⟨b2,o2,e2,cs,ty2,k1,k2,k3,k4,k5⟩
    ·exact ⟨by simp [VA],fun j hj=>lo.free j (by simp_all)⟩
    ·simp_all
   generalize hnew:(cur.toList.take (o+es.length * i.size)++news++cur.toList.drop (o+es.length * i.size+news.length)).toArray=new at hrun
   have hfit:o+es.length * i.size+news.length≤cur.size:=by omega
   have hnsz:new.size=cur.size:=by grind
   have hlow:∀ j,j < o+es.length * i.size→new[j]?=cur[j]?:=fun j hj=>by
    grind
   have r1:=r.setSpare hti hlb hcur hnsz hlow
   have hheap:=setRow_heap w b cur new ty' (0,0) hcur
   have hcont:(new.toList.drop o).take ((es.length+ys.length) * i.size)=(cur.toList.drop o).take (es.length * i.size)++news:=by
    rw [← hnew]
    simp only [List.append_assoc]
    rw [List.drop_append_of_le_length (by simp;omega),List.drop_take,Nat.add_sub_cancel_left,Nat.add_mul,← hnl]
    rw [List.take_append,List.take_of_length_le (by simp;omega)]
    congr 1
    rw [List.take_append_of_le_length (by simp;omega),List.take_of_length_le (by simp;omega)]
   let T:TI:=⟨es.length+ys.length,some (b,o+(es.length+ys.length) * i.size,o+c * i.size),true⟩
   have hle2:g.le (g.setT q T):=Gh.le_setT (t':=T) hti (by grind) htr.symm
   have hT:(g.setT q T).τ[q]?=some T:=List.getElem?_set_self (List.getElem?_eq_some_iff.1 hti).1
   have r2:=r1.setRow (t':=T) (q:=id) hti (by grind) htr rfl hσ hb (es':=es++ys)
    ⟨T,hT,rfl,by simp [T],fun e he=>(List.mem_append.1 he).elim (hlen e) (hl e),by grind,
     .inr ⟨b,o,o+c * i.size,new,ty',by simp [T],hheap,by rw [List.length_append,hcont,List.flatten_append];exact (hold2.1.append hva).mono hle2,by rw [List.length_append,Nat.add_mul];omega,hold2.2⟩⟩
    (fun b' l e hl'=>by
     injection hl' with hl';injection hl' with e1 e2;injection e2 with e2 e3;subst e1 e2 e3
     exact ⟨lo.lo,by grind,⟨new,ty',hheap,by omega⟩,fun j hj=>lo.free j (by grind)⟩)
    (fun b' x hx=>by grind)
   refine ⟨_,_,_,hrun,hle2,r2,?_⟩
   simp only [V]
   exact ⟨some ⟨b,o,none⟩,c,rfl,hroom,hc2,T,hT,rfl,Nat.le_refl _,.inr ⟨b,o,rfl,fun _=>rfl⟩⟩
 ·-- a new row
  have hroom':c < es.length+ys.length:=by omega
  have hrun:=vT (ty:=ty) ht hu hdu hi hz hn0 (hn w.drew fun _ _ h=>h) hold hroom' (by simp only [maxLen];omega)
   (growslice_fits hroom' (by have:=Nat.mul_le_mul hlim hby;omega))
  have hge:=grownCap_ge w (es.length+ys.length) c e
  have hcm:grownCap w (es.length+ys.length) c e≤maxLen:=grownCap_le_maxLen w _ c e (by simp only [maxLen];omega)
  generalize hC:grownCap w (es.length+ys.length) c e=C at hrun hge hcm
  generalize hrow':olds.toArray++news.toArray++Builtin.zeroCells z.cells (C - (es.length+ys.length))=row at hrun
  have hrsz:row.size=C * i.size:=by
   rw [← hrow']
   simp only [Array.size_append,List.size_toArray,size_zeroCells,hzs,hol,hnl,← Nat.add_mul]
   simp_all
  have hcont:(row.toList.drop 0).take ((es.length+ys.length) * i.size)=olds++news:=by
   rw [← hrow',List.drop_zero,Array.toList_append,Array.toList_append]
   rw [List.take_append_of_le_length (by grind)]
   rw [List.take_of_length_le (by grind)]
  have hΦn:∀ j,g.Φ w.heap.size j=none:=fun j=>by
   rcases he:g.Φ w.heap.size j with _ | v
   ·rfl
   ·exact absurd (r.phi_lt he) (Nat.lt_irrefl _)
  have r1:=(r.drew).alloc0 (.cells row e)
  have hheap:(w.drew.alloc (.cells row e)).heap[w.heap.size]?=some (.cells row e (0,0)):=heap_alloc_new w.drew _
  have hloc:LocOk g.Φ B (w.drew.alloc (.cells row e)) w.heap.size ((es.length+ys.length) * i.size) (C * i.size) :=
   ⟨r.bsz,by simp,⟨row,e,hheap,by omega⟩,fun j _=>hΦn j⟩
  have hsig:∀ (j cc:Nat),g.σ[j]?=some (some cc)→w.heap.size ≠ cc:=fun j cc hj e=>by
   have hi':j < h.blks.length:=by rw [← r.slen];exact (List.getElem?_eq_some_iff.1 hj).1
   have:=(r.blk j cc _ hj (List.getElem?_eq_getElem hi')).2.1
   omega
  have htau:∀ (j:Nat) (tt:TI) (y:Nat×Nat),g.τ[j]?=some tt→tt.loc ≠ some (w.heap.size,y):=fun j tt y hj e=>by
   have:=((r.tok j tt hj).2 _ _ _ e).lt
   omega
  let T:TI:=⟨es.length+ys.length,some (w.heap.size,(es.length+ys.length) * i.size,C * i.size),true⟩
  have hle2:g.le (g.setT q T):=Gh.le_setT (t':=T) hti (by grind) htr.symm
  have hT:(g.setT q T).τ[q]?=some T:=List.getElem?_set_self (List.getElem?_eq_some_iff.1 hti).1
  have r2:=r1.setRow (t':=T) (q:=id) hti (by grind) htr rfl hσ hb (es':=es++ys)
   ⟨T,hT,rfl,by simp [T],fun e he=>(List.mem_append.1 he).elim (hlen e) (hl e),by grind,
    .inr ⟨w.heap.size,0,C * i.size,row,e,by simp [T],hheap,by rw [List.length_append,hcont,List.flatten_append];exact (hov.append hva).mono hle2,by rw [List.length_append,hrsz];simpa using Nat.mul_le_mul_right i.size hge,fun j _=>hΦn j⟩⟩
   (fun b' l e' hl'=>by grind)
   (fun b' x hx=>by injection hx with hx;injection hx with e1 _;subst e1;exact .inr ⟨htau,hsig,r.nnew (Nat.le_refl _),r.nold (Nat.le_refl _)⟩)
  refine ⟨_,_,_,hrun,hle2,r2,?_⟩
  simp only [V]
  exact ⟨some ⟨w.heap.size,0,none⟩,C,rfl,hge,hcm,T,hT,rfl,Nat.le_refl _,.inr ⟨w.heap.size,0,rfl,fun _=>by simp [T]⟩⟩

theorem append_sound (r:Rel B w0 g h w) {t u ty e:TypeId} {du:TypeDesc} {i:TypeInfo} {z:Value} (ht:P.underlying t=some (.slice e)) (hu:P.underlying u=some du) (hdu:NotInt du) (hi:P.info? e=some i) (hz:i.zero=some z)
  (hzs:z.cells.size=i.size) (hby:i.bytes≤65536) {s s':AV} {sv x:Value} (hs:V g s sv) {ys:List (List AV)} {news:List Value} (hl:∀ e ∈ ys,e.length=i.size) (hva:VA g ys.flatten news) (hpu:ys.flatten.all AV.pure=true)
  (hn:∀ W:World,(∀ a v,w.cell? a=some v→W.cell? a=some v)→News P i.size ys.length x news W) {h':AH} (ha:aAppend h i.size s ys=some (s',h')) :
  ∃ v w' g',(Builtin.append_ #[t,u] ty #[sv,x]).run P w=.ok v w'∧g.le g'∧Rel B w0 g' h' w'∧V g' s' v:=by
 have hn0:=hn w fun _ _ h=>h
 unfold aAppend at ha
 split at ha
 ·rename_i q k' es
  simp only [V] at hs
  obtain ⟨a,c,rfl,hc1,hc2,hes,hq⟩:=hs
  have hnl:news.length=ys.length * i.size:=by rw [← hva.length,yz hl]
  split at ha
  ·-- nothing to append
   rename_i hy0
   have hne:news=[]:=List.eq_nil_of_length_eq_zero (by rw [hnl,hy0];simp)
   subst hne
   have hlen:=hn0.len
   have hcel:=hn0.cells
   rw [hy0] at hlen hcel
   have hrun:(Builtin.append_ #[t,u] ty #[.slice a es.length c,x]).run P w=.ok (.slice a es.length c) w:=by
    cases a with
    | none=>rcases hdu with rfl | ⟨_,rfl⟩ <;> simp [Builtin.append_,run_underlying ht,run_underlying hu,sizeOf,typeInfo,hi,hlen,hcel] <;> omega
    | some ad=>rcases hdu with rfl | ⟨_,rfl⟩ <;> simp [Builtin.append_,run_underlying ht,run_underlying hu,sizeOf,typeInfo,hi,hlen,hcel,storeCells] <;> omega
   cases q with
   | none =>
    injection ha with ha
    injection ha with e1 e2
    subst e1 e2
    simp only at hq
    refine ⟨.slice a es.length c,w,g.addT ⟨es.length,none,false⟩,hrun,g.le_addT _,r.addTok ⟨es.length,none,false⟩ (fun _ _ _ h=>by cases h) (fun _ _ h=>by cases h),?_⟩
    simp only [V]
    refine ⟨a,c,rfl,hc1,hc2,hes.imp id fun ⟨b,o,e,hh⟩=>⟨b,o,e,hh.mono (g.le_addT _) _ _ _ _⟩,⟨es.length,none,false⟩,?_,rfl,Nat.le_refl _,fun _=>.inl hq⟩
    simp only [Gh.addT];rw [← r.tlen,List.getElem?_append_right (Nat.le_refl _)];simp
   | some id =>
    injection ha with ha
    injection ha with e1 e2
    subst e1 e2
    exact ⟨.slice a es.length c,w,g,hrun,Gh.le.refl g,r,by simp only [V];exact ⟨a,c,rfl,hc1,hc2,hes,hq⟩⟩
  ·rename_i hy0
   split at ha
   ·rename_i hk
    obtain ⟨rfl,hlim⟩:=hk
    unfold vQ at hlim
    split at ha
    ·rename_i id h2 hgrow
     injection ha with ha
     injection ha with e1 e2
     subst e1 e2
     -- the two ways
     by_cases hroom:es.length+ys.length≤c
     ·-- in place: there is a token
      unfold AH.grow at hgrow
      split at hgrow
      ·simp only at hq;omega
      ·rename_i id'
       split at hgrow
       ·rename_i htok
        injection hgrow with hgrow
        injection hgrow with e1 e2
        subst e1 e2
        simp only at hq
        obtain ⟨ti,hti,hrf,hle,hcap⟩:=hq
        obtain ⟨htn,hloc⟩:=r.tok _ _ hti
        have hnn:es.length=ti.n:=by rw [htok] at htn;injection htn
        rcases hcap hnn with hcc | ⟨b,o,rfl,hlb⟩
        ·omega
        ·have lo:=hloc b _ _ hlb
         obtain ⟨cur,ty',hcur,hce⟩:=lo.cells
         have hmul:es.length * i.size+news.length≤c * i.size:=by rw [hnl,← Nat.add_mul];exact Nat.mul_le_mul_right _ hroom
         have hrun:=qs (ty:=ty) ht hu hdu hi hn0 hva.one' hcur hroom (o:=o) (by omega)
         have hve:VE g b i.size o es:=by
          rcases hes with rfl | ⟨b',o',e1,hh⟩
          ·simp only [VE]
          ·injection e1 with e1;injection e1 with e1 e2;subst e1 e2;exact hh
         generalize hnew:(cur.toList.take (o+es.length * i.size)++news++cur.toList.drop (o+es.length * i.size+news.length)).toArray=new at hrun
         have hfit:o+es.length * i.size+news.length≤cur.size:=by omega
         have hnsz:new.size=cur.size:=by rw [← hnew];simp;omega
         have hlow:∀ j,j < o+es.length * i.size→new[j]?=cur[j]?:=fun j hj=>by
          rw [← hnew,List.getElem?_toArray,List.append_assoc,List.getElem?_append_left (by simp;omega),List.getElem?_take,if_pos hj,Array.getElem?_toList]
         have hmid:∀ j v,news[j]?=some v→new[o+es.length * i.size+j]?=some v:=fun j v hv=>by
          have hj:j < news.length:=(List.getElem?_eq_some_iff.1 hv).1
          rw [← hnew,List.getElem?_toArray,List.append_assoc,List.getElem?_append_right (by simp;omega),List.getElem?_append_left (by simp;omega)]
          rw [← hv];congr 1;simp;omega
         have r1:=r.setSpare hti hlb hcur hnsz hlow
         have hheap:=setRow_heap w b cur new ty' (0,0) hcur
         -- the token
         have r2:=r1.setTok (t':=⟨es.length+ys.length,some (b,o+(es.length+ys.length) * i.size,o+c * i.size),false⟩) hti (by show ti.n < es.length+ys.length;omega) hrf rfl
          (fun b' l e hl'=>by
           injection hl' with hl';injection hl' with e1 e2;injection e2 with e2 e3;subst e1 e2 e3
           exact ⟨lo.lo,by simpa using lo.lt,⟨new,ty',hheap,by omega⟩,fun j hj=>lo.free j (by rw [Nat.add_mul] at hj;omega)⟩)
          (fun b' x hx=>by injection hx with hx;injection hx with e1 _;subst e1;exact .inl ⟨_,hlb⟩)
         -- the promise
         have r3:=r2.vow (b:=b) (f:=fun j=>if o+es.length * i.size≤j∧j < o+(es.length+ys.length) * i.size then new[j]? else none)
          (fun j v hv=>by
           split at hv
           ·rw [cell_of_row _ b j new ty' (0,0) hheap];exact hv
           ·cases hv)
          (fun j cc hcj _=>(r.sep j cc _ ti b _ hcj hti hlb).symm)
          (fun j tt l e hj hlj=>by
           by_cases hjid:j=id'
           ·subst hjid
            simp only [Gh.setT] at hj
            rw [List.getElem?_set_self (List.getElem?_eq_some_iff.1 hti).1] at hj
            injection hj with hj;subst hj
            injection hlj with hlj;injection hlj with e1 e2;injection e2 with e2 e3;subst e2 e3
            exact ⟨rfl,fun jj hjj=>by grind⟩
           ·simp only [Gh.setT] at hj
            rw [List.getElem?_set_ne (fun e=>hjid e.symm)] at hj
            exact absurd (r.tinj _ _ _ _ b _ _ hj hti hlj hlb) hjid)
          (r.ntok hti hlb)
         have hle2:=Gh.le_setT (t':=⟨es.length+ys.length,some (b,o+(es.length+ys.length) * i.size,o+c * i.size),false⟩) hti (by show ti.n < es.length+ys.length;omega) hrf.symm
         have hle3:=hle2.trans (Gh.le_vow (g.setT id' ⟨es.length+ys.length,some (b,o+(es.length+ys.length) * i.size,o+c * i.size),false⟩) b
          (fun j=>if o+es.length * i.size≤j∧j < o+(es.length+ys.length) * i.size then new[j]? else none))
         refine ⟨_,_,_,hrun,hle3,r3,?_⟩
         simp only [V]
         refine ⟨some ⟨b,o,none⟩,c,by simp,by simpa using hroom,hc2,.inr ⟨b,o,rfl,?_⟩,_,List.getElem?_set_self (List.getElem?_eq_some_iff.1 hti).1,rfl,by simp,fun _=>.inr ⟨b,o,rfl,by simp⟩⟩
         refine VE.append (hve.mono hle3 _ _ _ _) (VE_iff.2 ⟨hl,VC.ofVA (hva.mono hle3 _ _) hpu fun j v hv=>?_⟩)
         have hj:j < news.length:=(List.getElem?_eq_some_iff.1 hv).1
         simp only [Gh.vow,Gh.setT,if_true]
         rw [lo.free _ (by omega),if_pos ⟨by omega,by rw [Nat.add_mul];omega⟩]
         exact hmid j v hv
       ·cases hgrow
     ·-- a new row
      have hroom':c < es.length+ys.length:=by omega
      have hfl:es.flatten.length=es.length * i.size:=by
       rcases hes with rfl | ⟨b,o,_,hve⟩
       ·simp
       ·exact yz (VE_iff.1 hve).1
      obtain ⟨olds,⟨hov,hopu⟩,hold⟩:∃ olds:List Value,(VA g es.flatten olds∧es.flatten.all AV.pure=true)∧(Builtin.firstCells i.size es.length (.slice a es.length c)).run P w.drew=.ok olds.toArray w.drew:=by
       rcases hes with rfl | ⟨b,o,rfl,hve⟩
       ·refine ⟨[],⟨by simp only [List.flatten_nil,VA],rfl⟩,?_⟩
        cases a with
        | none=>simp [Builtin.firstCells]
        | some ad=>simp [Builtin.firstCells,loadCells,loadCellsFrom]
       ·obtain ⟨us,hus,hup,hΦ⟩:=VC.toVA (VE_iff.1 hve).2
        refine ⟨us,⟨hus,hup⟩,run_firstCells_some w.drew i.size es.length ⟨b,o,none⟩ es.length c us (by rw [← hus.length,hfl]) fun j v hv=>?_⟩
        rw [World.cell?_drew]
        have hadd:(⟨b,o,none⟩:Addr).add j=⟨b,o+j,none⟩:=by unfold Addr.add;split <;> simp_all
        rw [hadd];exact r.phi _ _ _ (hΦ j v hv)
      have hol:olds.length=es.length * i.size:=by rw [← hov.length,hfl]
      have hrun:=vT (ty:=ty) ht hu hdu hi hz hn0 (hn w.drew fun _ _ h=>h) hold hroom' (by simp only [maxLen];omega)
       (growslice_fits hroom' (by have:=Nat.mul_le_mul hlim hby;omega))
      have hge:=grownCap_ge w (es.length+ys.length) c e
      have hcm:grownCap w (es.length+ys.length) c e≤maxLen:=grownCap_le_maxLen w _ c e (by simp only [maxLen];omega)
      generalize hC:grownCap w (es.length+ys.length) c e=C at hrun hge hcm
      generalize hrow:olds.toArray++news.toArray++Builtin.zeroCells z.cells (C - (es.length+ys.length))=row at hrun
      have hrsz:row.size=C * i.size:=by
       rw [← hrow]
       simp only [Array.size_append,List.size_toArray,size_zeroCells,hzs,hol,hnl,← Nat.add_mul]
       congr 1;omega
      have hrl:∀ j v,(olds++news)[j]?=some v→row[j]?=some v:=fun j v hv=>by
       rw [← hrow,← Array.getElem?_toList]
       simp only [Array.toList_append]
       rw [List.getElem?_append_left (by simpa using (List.getElem?_eq_some_iff.1 hv).1)]
       exact hv
      have hbl:∀ j v,g.Φ w.heap.size j=some v→False:=fun j v hv=>absurd (r.phi_lt hv) (Nat.lt_irrefl _)
      have hΦn:∀ j,g.Φ w.heap.size j=none:=fun j=>by
       rcases he:g.Φ w.heap.size j with _ | v
       ·rfl
       ·exact (hbl j v he).elim
      have r1:=(r.drew).alloc0 (.cells row e)
      have hheap:(w.drew.alloc (.cells row e)).heap[w.heap.size]?=some (.cells row e (0,0)):=heap_alloc_new w.drew _
      have hloc:LocOk g.Φ B (w.drew.alloc (.cells row e)) w.heap.size ((es.length+ys.length) * i.size) (C * i.size) :=
       ⟨r.bsz,by simp,⟨row,e,hheap,by omega⟩,fun j _=>hΦn j⟩
      have hsig:∀ (j cc:Nat),g.σ[j]?=some (some cc)→w.heap.size ≠ cc:=fun j cc hj e=>by
       have hi':j < h.blks.length:=by rw [← r.slen];exact (List.getElem?_eq_some_iff.1 hj).1
       have:=(r.blk j cc _ hj (List.getElem?_eq_getElem hi')).2.1
       omega
      have htau:∀ (j:Nat) (tt:TI) (y:Nat×Nat),g.τ[j]?=some tt→tt.loc ≠ some (w.heap.size,y):=fun j tt y hj e=>by
       have:=((r.tok j tt hj).2 _ _ _ e).lt
       omega
      let T:TI:=⟨es.length+ys.length,some (w.heap.size,(es.length+ys.length) * i.size,C * i.size),false⟩
      have htok:∃ g2,g.le g2∧Rel B w0 g2 h2 (w.drew.alloc (.cells row e))∧g2.τ[id]?=some T∧g2.Φ=g.Φ∧(∀ (j:Nat) (tt:TI) (l e':Nat),g2.τ[j]?=some tt→tt.loc=some (w.heap.size,l,e')→tt=T)∧g2.σ=g.σ:=by
       unfold AH.grow at hgrow
       split at hgrow
       ·injection hgrow with hgrow
        injection hgrow with e1 e2
        subst e1 e2
        refine ⟨g.addT T,g.le_addT T,r1.addTok T (fun b l e' hl'=>?_) (fun b x hx=>?_),?_,rfl,fun j tt l e' hj hl'=>?_,rfl⟩
        ·injection hl' with hl';injection hl' with e1 e2;injection e2 with e2 e3;subst e1 e2 e3;exact hloc
        ·injection hx with hx;injection hx with e1 _;subst e1;exact ⟨htau,hsig,r.nnew (Nat.le_refl _),r.nold (Nat.le_refl _)⟩
        ·simp only [Gh.addT];rw [← r.tlen,List.getElem?_append_right (Nat.le_refl _)];simp
        ·simp only [Gh.addT] at hj
         rcases Nat.lt_or_ge j g.τ.length with hjl | hjl
         ·rw [List.getElem?_append_left hjl] at hj;exact absurd hl' (htau _ _ _ hj)
         ·rw [List.getElem?_append_right hjl] at hj
          have:=List.mem_of_getElem? hj
          simpa using this
       ·rename_i id'
        split at hgrow
        ·rename_i htok
         injection hgrow with hgrow
         injection hgrow with e1 e2
         subst e1 e2
         simp only at hq
         obtain ⟨ti,hti,hrf,hle,_⟩:=hq
         have hti':=hti
         obtain ⟨htn,_⟩:=r.tok _ _ hti
         have hnn:es.length=ti.n:=by rw [htok] at htn;injection htn
         refine ⟨g.setT id' T,Gh.le_setT (t':=T) hti (by show ti.n < es.length+ys.length;omega) hrf.symm,r1.setTok hti (by show ti.n < es.length+ys.length;omega) hrf rfl (fun b l e' hl'=>?_) (fun b x hx=>?_),?_,rfl,fun j tt l e' hj hl'=>?_,rfl⟩
         ·injection hl' with hl';injection hl' with e1 e2;injection e2 with e2 e3;subst e1 e2 e3;exact hloc
         ·injection hx with hx;injection hx with e1 _;subst e1;exact .inr ⟨htau,hsig,r.nnew (Nat.le_refl _),r.nold (Nat.le_refl _)⟩
         ·exact List.getElem?_set_self (List.getElem?_eq_some_iff.1 hti).1
         ·simp only [Gh.setT] at hj
          by_cases hjid:j=id'
          ·subst hjid
           rw [List.getElem?_set_self (List.getElem?_eq_some_iff.1 hti).1] at hj
           injection hj with hj;exact hj.symm
          ·rw [List.getElem?_set_ne (fun e=>hjid e.symm)] at hj
           exact absurd hl' (htau _ _ _ hj)
        ·cases hgrow
      obtain ⟨g2,hg2,r2,hT,hΦ2,hT2,hσ2⟩:=htok
      have r3:=r2.vow (b:=w.heap.size) (f:=fun j=>if j < (es.length+ys.length) * i.size then row[j]? else none)
       (fun j v hv=>by
        split at hv
        ·rw [cell_of_row _ _ j row e (0,0) hheap];exact hv
        ·cases hv)
       (fun j cc hcj _ e=>hsig j cc (by rw [← hσ2];exact hcj) e.symm)
       (fun j tt l e' hj hlj=>by
        have:=hT2 j tt l e' hj hlj
        subst this
        injection hlj with hlj;injection hlj with _ e2;injection e2 with e2 _;subst e2
        exact ⟨rfl,fun jj hjj=>by grind⟩)
       (r2.ntok hT rfl)
      have hle3:=hg2.trans (g2.le_vow w.heap.size fun j=>if j < (es.length+ys.length) * i.size then row[j]? else none)
      refine ⟨_,_,_,hrun,hle3,r3,?_⟩
      simp only [V]
      refine ⟨some ⟨w.heap.size,0,none⟩,C,by simp,by simpa using hge,hcm,.inr ⟨w.heap.size,0,rfl,?_⟩,T,hT,rfl,by simp [T],fun _=>.inr ⟨w.heap.size,0,rfl,by simp [T]⟩⟩
      refine VE_iff.2 ⟨?_,?_⟩
      ·intro e he
       rcases List.mem_append.1 he with he | he
       ·rcases hes with rfl | ⟨b,o,_,hve⟩
        ·cases he
        ·exact (VE_iff.1 hve).1 e he
       ·exact hl e he
      ·rw [List.flatten_append]
       refine VC.ofVA (VA.mono hle3 _ _ (hov.append hva)) (by rw [List.all_append,hopu,hpu];rfl) fun j v hv=>?_
       have hj:j < (olds++news).length:=(List.getElem?_eq_some_iff.1 hv).1
       simp only [Gh.vow,if_true,hΦ2,hΦn,Nat.zero_add]
       rw [if_pos (by rw [Nat.add_mul];simp at hj;omega)]
       exact hrl j v hv
    ·cases ha
   ·cases ha
 ·rename_i id q k' n
  split at ha
  ·rename_i hy0
   injection ha with ha
   injection ha with e1 e2
   subst e1 e2
   have hs':=hs
   simp only [V] at hs
   obtain ⟨a,c,rfl,hc1,hc2,hq⟩:=hs
   have hnl:news.length=ys.length * i.size:=by rw [← hva.length,yz hl]
   have hne:news=[]:=List.eq_nil_of_length_eq_zero (by rw [hnl,hy0];simp)
   subst hne
   have hlen:=hn0.len
   have hcel:=hn0.cells
   rw [hy0] at hlen hcel
   have hrun:(Builtin.append_ #[t,u] ty #[.slice a n c,x]).run P w=.ok (.slice a n c) w:=by
    cases a with
    | none=>rcases hdu with rfl | ⟨_,rfl⟩ <;> simp [Builtin.append_,run_underlying ht,run_underlying hu,sizeOf,typeInfo,hi,hlen,hcel] <;> omega
    | some ad=>rcases hdu with rfl | ⟨_,rfl⟩ <;> simp [Builtin.append_,run_underlying ht,run_underlying hu,sizeOf,typeInfo,hi,hlen,hcel,storeCells] <;> omega
   exact ⟨_,w,g,hrun,Gh.le.refl g,r,hs'⟩
  ·rename_i hy0
   split at ha
   ·rename_i t' k'' es hb
    split at ha
    ·rename_i hc
     obtain ⟨⟨rfl,rfl,rfl⟩,h1,h2,h3⟩:=hc
     injection ha with ha
     injection ha with e1 e2
     subst e1 e2
     exact append_row r ht hu hdu hi hz hzs hby hs hl hva hpu hn hb h1 h2 h3 hy0
    ·cases ha
   ·cases ha
 ·cases ha
theorem append_new (r:Rel B w0 g h w) {t u ty e:TypeId} {du:TypeDesc} {i:TypeInfo} {z:Value} (ht:P.underlying t=some (.slice e)) (hu:P.underlying u=some du) (hdu:NotInt du) (hi:P.info? e=some i) (hz:i.zero=some z)
  (hzs:z.cells.size=i.size) (hby:i.bytes≤65536) {sv x:Value} (hs:V g (.osl none i.size []) sv) {ys:List (List AV)} {news:List Value} (hl:∀ e ∈ ys,e.length=i.size) (hva:VA g ys.flatten news) (hpu:ys.flatten.all AV.pure=true)
  (hn:∀ W:World,(∀ a v,w.cell? a=some v→W.cell? a=some v)→News P i.size ys.length x news W) (hlim:ys.length≤vQ) :
  ∃ v w' g',(Builtin.append_ #[t,u] ty #[sv,x]).run P w=.ok v w'∧g.le g'∧Rel B w0 g' h w'∧V g' (.nsl i.size ys) v:=by
 have hn0:=hn w fun _ _ h=>h
 simp only [V] at hs
 obtain ⟨a,c,rfl,hc1,hc2,_,hc0⟩:=hs
 simp only [List.length_nil] at hc0
 subst hc0
 have hnl:news.length=ys.length * i.size:=by rw [← hva.length,yz hl]
 by_cases hy0:ys.length=0
 ·have hne:news=[]:=List.eq_nil_of_length_eq_zero (by simp_all)
  have hye:ys=[]:=List.eq_nil_of_length_eq_zero hy0
  subst hne
  have hlen:=hn0.len
  have hcel:=hn0.cells
  rw [hy0] at hlen hcel
  have hrun:(Builtin.append_ #[t,u] ty #[.slice a ([]:List (List AV)).length 0,x]).run P w=.ok (.slice a 0 0) w:=by
   cases a with
   | none=>rcases hdu with rfl | ⟨_,rfl⟩ <;> simp [Builtin.append_,run_underlying ht,run_underlying hu,sizeOf,typeInfo,hi,hlen,hcel]
   | some ad=>rcases hdu with rfl | ⟨_,rfl⟩ <;> simp [Builtin.append_,run_underlying ht,run_underlying hu,sizeOf,typeInfo,hi,hlen,hcel,storeCells]
  refine ⟨_,w,g,hrun,Gh.le.refl g,r,?_⟩
  subst hye
  simp only [V]
  grind
 ·have hroom':0 < ([]:List (List AV)).length+ys.length:=by simp;omega
  have hold:(Builtin.firstCells i.size ([]:List (List AV)).length (.slice a ([]:List (List AV)).length 0)).run P w.drew=.ok ([]:List Value).toArray w.drew:=by
   cases a with
   | none=>simp [Builtin.firstCells]
   | some ad=>simp [Builtin.firstCells,loadCells,loadCellsFrom]
  unfold vQ at hlim
  have hrun:=vT (ty:=ty) ht hu hdu hi hz hn0 (hn w.drew fun _ _ h=>h) hold hroom' (by simp only [maxLen,List.length_nil];omega)
   (growslice_fits hroom' (by have:=Nat.mul_le_mul hlim hby;simp only [List.length_nil,Nat.zero_add];omega))
  have hge:=grownCap_ge w (([]:List (List AV)).length+ys.length) 0 e
  have hcm:grownCap w (([]:List (List AV)).length+ys.length) 0 e≤maxLen:=grownCap_le_maxLen w _ 0 e (by simp only [maxLen,List.length_nil];omega)
  generalize hC:grownCap w (([]:List (List AV)).length+ys.length) 0 e=C at hrun hge hcm
  simp only [List.length_nil,Nat.zero_add] at hge hcm hrun
  generalize hrow:([]:List Value).toArray++news.toArray++Builtin.zeroCells z.cells (C - ys.length)=row at hrun
  have hrsz:row.size=C * i.size:=by
   rw [← hrow]
   simp only [Array.size_append,List.size_toArray,size_zeroCells,hzs,hnl,List.length_nil,Nat.zero_add,← Nat.add_mul]
   simp_all
  have hrl:∀ j v,news[j]?=some v→row[j]?=some v:=fun j v hv=>by
   rw [← hrow,← Array.getElem?_toList]
   simp only [Array.toList_append,List.nil_append]
   rw [List.getElem?_append_left (by simpa using (List.getElem?_eq_some_iff.1 hv).1)]
   exact hv
  have hΦn:∀ j,g.Φ w.heap.size j=none:=fun j=>by
   rcases he:g.Φ w.heap.size j with _ | v
   ·rfl
   ·exact absurd (r.phi_lt he) (Nat.lt_irrefl _)
  have r1:=(r.drew).alloc0 (.cells row e)
  have hheap:(w.drew.alloc (.cells row e)).heap[w.heap.size]?=some (.cells row e (0,0)):=heap_alloc_new w.drew _
  have hN:g.N w.heap.size=none:=r.nnew (Nat.le_refl _)
  have hsig:∀ (j cc:Nat),g.σ[j]?=some (some cc)→w.heap.size ≠ cc:=fun j cc hj e=>by
   have hi':j < h.blks.length:=by rw [← r.slen];exact (List.getElem?_eq_some_iff.1 hj).1
   have:=(r.blk j cc _ hj (List.getElem?_eq_getElem hi')).2.1
   omega
  have htau:∀ (j:Nat) (tt:TI) (y:Nat×Nat),g.τ[j]?=some tt→tt.loc ≠ some (w.heap.size,y):=fun j tt y hj e=>by
   have:=((r.tok j tt hj).2 _ _ _ e).lt
   omega
  have r3:=r1.vow (b:=w.heap.size) (f:=fun j=>if j < ys.length * i.size then row[j]? else none)
   (fun j v hv=>by
    split at hv
    ·rw [cell_of_row _ _ j row e (0,0) hheap];exact hv
    ·cases hv)
   (fun j cc hcj _ e=>hsig j cc hcj e.symm)
   (fun j tt l e' hj hlj=>absurd hlj (htau _ _ _ hj)) hN
  have r4:=r3.mark (b:=w.heap.size) (r.nnew (Nat.le_refl _)) r.bsz hheap ⟨fun j hj=>hsig j _ hj rfl,fun hc=>Nat.lt_irrefl _ (r.dfr_lt hc),fun j tt y hj hl=>htau j tt y hj hl⟩ (r.nold (Nat.le_refl _))
  have hle4:=(g.le_vow w.heap.size fun j=>if j < ys.length * i.size then row[j]? else none).trans (Gh.le_addN (.new row.size) (r.nnew (Nat.le_refl _)))
  refine ⟨_,_,_,hrun,hle4,r4,?_⟩
  simp only [V]
  refine ⟨some ⟨w.heap.size,0,none⟩,C,rfl,hge,hcm,.inr ⟨w.heap.size,0,rfl,VE_iff.2 ⟨hl,?_⟩,row.size,by simp [Gh.addN]⟩⟩
  refine VC.ofVA (VA.mono hle4 _ _ hva) hpu fun j v hv=>?_
  have hj:j < news.length:=(List.getElem?_eq_some_iff.1 hv).1
  simp only [Gh.addN,Gh.vow,if_true,hΦn,Nat.zero_add]
  simp_all
end
end Go.Vv
