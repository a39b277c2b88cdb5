/- Tokens: rows that the call's own code lengthens. -/
import Derived.Test.YtbaclapbinkedaaVvC
namespace Go.Vv
open Go Go.RowKit
section
variable {B:Nat} {w0 w:World} {g:Gh} {h:AH}

def Gh.setT (g:Gh) (i:Nat) (t:TI):Gh:={ g with τ:=g.τ.set i t }
def Gh.addT (g:Gh) (t:TI):Gh:={ g with τ:=g.τ++[t] }
theorem Gh.le_setT {g:Gh} {i:Nat} {t t':TI} (hi:g.τ[i]?=some t) (hn:t.n < t'.n) (hw:t'.row=t.row):g.le (g.setT i t') :=
 ⟨fun _ _ _ e=>e,fun _ _ e=>e,fun j u e=>by
  simp only [Gh.setT]
  by_cases hj:j=i
  ·subst hj
   rw [hi] at e;injection e with e;subst e
   exact ⟨t',List.getElem?_set_self (List.getElem?_eq_some_iff.1 hi).1,by omega,fun q=>by omega,hw⟩
  ·exact ⟨u,by rw [List.getElem?_set_ne (fun e=>hj e.symm)];exact e,Nat.le_refl _,fun _=>rfl,rfl⟩,fun _ h=>h,fun _ _ h=>h,fun _ h=>h⟩
theorem Gh.le_addT (g:Gh) (t:TI):g.le (g.addT t) :=
 ⟨fun _ _ _ e=>e,fun _ _ e=>e,fun j u e=>by
  simp only [Gh.addT]
  exact ⟨u,by rw [List.getElem?_append_left (List.getElem?_eq_some_iff.1 e).1];exact e,Nat.le_refl _,fun _=>rfl,rfl⟩,fun _ h=>h,fun _ _ h=>h,fun _ h=>h⟩

theorem Rel.setTok (r:Rel B w0 g h w) {i:Nat} {t t':TI} (hi:g.τ[i]?=some t) (hn:t.n < t'.n) (hf:t.row=false) (hf':t'.row=false)
  (hloc:∀ b l e,t'.loc=some (b,l,e)→LocOk g.Φ B w b l e)
  (hd:∀ b x,t'.loc=some (b,x)→(∃ y,t.loc=some (b,y)) ∨ ((∀ (j:Nat) (u:TI) (y:Nat×Nat),g.τ[j]?=some u→u.loc ≠ some (b,y))∧(∀ (j c:Nat),g.σ[j]?=some (some c)→b ≠ c)∧g.N b=none)) :
  Rel B w0 (g.setT i t') { h with toks:=h.toks.set i t'.n } w:=by
 have hlt:i < g.τ.length:=(List.getElem?_eq_some_iff.1 hi).1
 have key:∀ (j:Nat) (u:TI),(g.setT i t').τ[j]?=some u→(j=i∧u=t') ∨ (j ≠ i∧g.τ[j]?=some u):=by
  intro j u e
  simp only [Gh.setT] at e
  by_cases hj:j=i
  ·subst hj
   rw [List.getElem?_set_self hlt] at e
   injection e with e
   exact .inl ⟨rfl,e.symm⟩
  ·rw [List.getElem?_set_ne (fun e=>hj e.symm)] at e
   exact .inr ⟨hj,e⟩
 refine ⟨r.below,r.bsz,r.phi,r.slen,fun i' c k hc hk=>?_,by simp [Gh.setT,r.tlen],fun j u hu=>?_,r.sinj,fun j j' u u' b x y hj hj' hx hy=>?_,fun j c j' u b x hc hu hx=>?_,r.dfr,
  fun q k hq hk=>(r.row q k hq hk).mono (Gh.le_setT hi hn (hf'.trans hf.symm)) (fun j u hj hr=>by
   have hne:j ≠ i:=by rintro rfl;rw [hi] at hj;injection hj with e;rw [← e,hf] at hr;cases hr
   simp only [Gh.setT];rw [List.getElem?_set_ne (fun e=>hne e.symm)];exact hj) (fun _ _ _ _ _ _ _=>⟨rfl,fun _=>rfl⟩),r.rinj,fun b x hb=>?_,r.ob⟩
 rotate_right
 ·exact (r.nb b x hb).mono fun _ _ ha=>⟨rfl,⟨ha.1,ha.2.1,fun j u y hu hl=>by
    rcases key j u hu with ⟨rfl,rfl⟩ | ⟨_,hu⟩
    ·rcases hd b y hl with ⟨z,hz⟩ | ⟨_,_,h3⟩
     ·exact ha.2.2 _ _ z hi hz
     ·have hb:g.N b=some x:=hb
      rw [h3] at hb;cases hb
    ·exact ha.2.2 j u y hu hl⟩,fun h=>h⟩
 ·obtain ⟨h1,h2,h3,h4⟩:=r.blk i' c k hc hk
  exact ⟨h1,h2,h3.mono (Gh.le_setT hi hn (hf'.trans hf.symm)) rfl,h4⟩
 ·rcases key j u hu with ⟨rfl,rfl⟩ | ⟨hj,hu⟩
  ·exact ⟨List.getElem?_set_self (by rw [← r.tlen];exact hlt),hloc⟩
  ·obtain ⟨h1,h2⟩:=r.tok j u hu
   exact ⟨by rw [List.getElem?_set_ne (fun e=>hj e.symm)];exact h1,h2⟩
 ·rcases key j u hj with ⟨rfl,rfl⟩ | ⟨hne,hj2⟩ <;> rcases key j' u' hj' with ⟨rfl,rfl⟩ | ⟨hne',hj'⟩
  ·rfl
  ·rcases hd b x hx with ⟨z,hz⟩ | ⟨h1,_⟩
   ·exact r.tinj _ _ _ _ b z y hi hj' hz hy
   ·exact absurd hy (h1 _ _ _ hj')
  ·rcases hd b y hy with ⟨z,hz⟩ | ⟨h1,_⟩
   ·exact r.tinj _ _ _ _ b x z hj2 hi hx hz
   ·exact absurd hx (h1 _ _ _ hj2)
  ·exact r.tinj _ _ _ _ b x y hj2 hj' hx hy
 ·rcases key j' u hu with ⟨rfl,rfl⟩ | ⟨hne,hu⟩
  ·rcases hd b x hx with ⟨z,hz⟩ | ⟨_,h2,_⟩
   ·exact r.sep j c _ t b z hc hi hz
   ·exact h2 j c hc
  ·exact r.sep j c j' u b x hc hu hx

theorem Rel.addTok (r:Rel B w0 g h w) (t:TI) (hloc:∀ b l e,t.loc=some (b,l,e)→LocOk g.Φ B w b l e)
  (hd:∀ b x,t.loc=some (b,x)→(∀ (j:Nat) (u:TI) (y:Nat×Nat),g.τ[j]?=some u→u.loc ≠ some (b,y))∧(∀ (j c:Nat),g.σ[j]?=some (some c)→b ≠ c)∧g.N b=none) :
  Rel B w0 (g.addT t) { h with toks:=h.toks++[t.n] } w:=by
 have key:∀ (j:Nat) (u:TI),(g.addT t).τ[j]?=some u→(j=g.τ.length∧u=t) ∨ (j < g.τ.length∧g.τ[j]?=some u):=by
  intro j u e
  simp only [Gh.addT] at e
  rcases Nat.lt_or_ge j g.τ.length with hl | hl
  ·rw [List.getElem?_append_left hl] at e
   exact .inr ⟨hl,e⟩
  ·rw [List.getElem?_append_right hl] at e
   rcases Nat.eq_zero_or_pos (j - g.τ.length) with h0 | h0
   ·rw [h0] at e;simp at e;exact .inl ⟨by omega,e.symm⟩
   ·rw [List.getElem?_eq_none (by simp;omega)] at e;cases e
 refine ⟨r.below,r.bsz,r.phi,r.slen,fun i' c k hc hk=>?_,by simp [Gh.addT,r.tlen],fun j u hu=>?_,r.sinj,fun j j' u u' b x y hj hj' hx hy=>?_,fun j c j' u b x hc hu hx=>?_,r.dfr,
  fun q k hq hk=>(r.row q k hq hk).mono (Gh.le_addT g t) (fun j u hj _=>by
   simp only [Gh.addT];rw [List.getElem?_append_left (List.getElem?_eq_some_iff.1 hj).1];exact hj) (fun _ _ _ _ _ _ _=>⟨rfl,fun _=>rfl⟩),r.rinj,fun b x hb=>?_,r.ob⟩
 rotate_right
 ·exact (r.nb b x hb).mono fun _ _ ha=>⟨rfl,⟨ha.1,ha.2.1,fun j u y hu hl=>by
    rcases key j u hu with ⟨rfl,rfl⟩ | ⟨_,hu⟩
    ·have hb:g.N b=some x:=hb
     rw [(hd b y hl).2.2] at hb;cases hb
    ·exact ha.2.2 j u y hu hl⟩,fun h=>h⟩
 ·obtain ⟨h1,h2,h3,h4⟩:=r.blk i' c k hc hk
  exact ⟨h1,h2,h3.mono (Gh.le_addT g t) rfl,h4⟩
 ·rcases key j u hu with ⟨rfl,rfl⟩ | ⟨hj,hu⟩
  ·refine ⟨?_,hloc⟩
   rw [r.tlen,List.getElem?_append_right (Nat.le_refl _)];simp
  ·obtain ⟨h1,h2⟩:=r.tok j u hu
   exact ⟨by rw [List.getElem?_append_left (by rw [← r.tlen];exact hj)];exact h1,h2⟩
 ·rcases key j u hj with ⟨rfl,rfl⟩ | ⟨hne,hj2⟩ <;> rcases key j' u' hj' with ⟨rfl,rfl⟩ | ⟨hne',hj'⟩
  ·rfl
  ·exact absurd hy ((hd b x hx).1 _ _ _ hj')
  ·exact absurd hx ((hd b y hy).1 _ _ _ hj2)
  ·exact r.tinj _ _ _ _ b x y hj2 hj' hx hy
 ·rcases key j' u hu with ⟨rfl,rfl⟩ | ⟨hne,hu⟩
  ·exact (hd b x hx).2.1 j c hc
  ·exact r.sep j c j' u b x hc hu hx

theorem Rel.setSpare (r:Rel B w0 g h w) {i:Nat} {t:TI} {b l e:Nat} (hi:g.τ[i]?=some t) (hl:t.loc=some (b,l,e)) {cur new:Array Value} {ty:TypeId}
  (hc:w.heap[b]?=some (.cells cur ty (0,0))) (hsz:new.size=cur.size) (hsame:∀ j,j < l→new[j]?=cur[j]?):Rel B w0 g h (w.setRow b new):=by
 have lo:=(r.tok i t hi).2 b l e hl
 have hnew:(w.setRow b new).heap[b]?=some (.cells new ty (0,0)):=setRow_heap w b cur new ty (0,0) hc
 refine ⟨⟨r.below.os,r.below.tape,r.below.output,by simp [r.below.size],fun k hk=>(setRow_other w b k new (by have:=lo.lo;omega)).trans (r.below.block k hk)⟩,by simp [r.bsz],fun b' j v e'=>?_,
  r.slen,fun i' c k hc' hk=>?_,r.tlen,fun i' t' ht'=>?_,r.sinj,r.tinj,r.sep,fun x hx=>⟨(r.dfr x hx).1,(setRow_other w b x new (by rintro rfl;have:=(r.dfr x hx).2.1;rw [hc] at this;cases this)).trans (r.dfr x hx).2.1,(r.dfr x hx).2.2⟩,fun q k hq hk=>?_,r.rinj,
  fun b' x hb=>(r.nb b' x hb).mono fun _ _ ha=>⟨setRow_other w b b' new (by rintro rfl;exact ha.2.2 i t _ hi hl),ha,fun h=>h⟩,fun b' hb=>⟨by simpa using (r.ob b' hb).1,(r.ob b' hb).2⟩⟩
 ·by_cases hb:b'=b
  ·subst hb
   have hj:j < l:=by
    rcases Nat.lt_or_ge j l with hj | hj
    ·exact hj
    ·rw [lo.free j hj] at e';cases e'
   have:=r.phi b' j v e'
   rw [cell_of_row w b' j cur ty (0,0) hc] at this
   rw [cell_of_row _ b' j new ty (0,0) hnew,hsame j hj]
   exact this
  ·exact (World.cell?_of_block (w:=w) (a:=⟨b',j,none⟩) (setRow_other w b b' new hb)).trans (r.phi b' j v e')
 ·obtain ⟨h1,h2,h3,h4⟩:=r.blk i' c k hc' hk
  exact ⟨h1,by simpa using h2,h3.mono (Gh.le.refl g) (setRow_other w b c new (r.sep i' c i t b (l,e) hc' hi hl).symm),h4⟩
 ·obtain ⟨h1,h2⟩:=r.tok i' t' ht'
  refine ⟨h1,fun b' l' e'' hl'=>?_⟩
  have lo':=h2 b' l' e'' hl'
  by_cases hb:b'=b
  ·subst hb
   obtain ⟨cs,ty',hcs,hle⟩:=lo'.cells
   rw [hc] at hcs
   injection hcs with hcs
   injection hcs with hcs _ _
   subst hcs
   exact ⟨lo'.lo,by simpa using lo'.lt,⟨new,ty,hnew,by omega⟩,lo'.free⟩
  ·exact lo'.mono (by simp) (setRow_other w b b' new hb) fun _ _=>rfl
 ·have hrow:=r.row q k hq hk
  cases k with
  | row i2 k es =>
   obtain ⟨t2,h1,h2,h3,h4,h5,h6⟩:=hrow
   refine ⟨t2,h1,h2,h3,h4,h5,h6.imp id ?_⟩
   rintro ⟨b2,o,e2,cs,ty2,k1,k2,k3,k4,k5⟩
   by_cases hb:b2=b
   ·subst hb
    have hii:=r.tinj _ _ _ _ b2 _ _ h1 hi k1 hl
    subst hii
    rw [hi] at h1;injection h1 with h1;subst h1
    rw [hl] at k1;injection k1 with k1;injection k1 with _ k1;injection k1 with k1 _
    rw [hc] at k2;injection k2 with k2;injection k2 with k2 k22 _;subst k2
    refine ⟨b2,o,e,new,ty,by rw [hl,k1],hnew,?_,by omega,k5⟩
    have:(new.toList.drop o).take (es.length * k)=(cur.toList.drop o).take (es.length * k):=by
     apply List.ext_getElem?
     intro j
     rw [List.getElem?_take,List.getElem?_take]
     split
     ·rw [List.getElem?_drop,List.getElem?_drop,Array.getElem?_toList,Array.getElem?_toList,hsame _ (by omega)]
     ·rfl
    rw [this];exact k3
   ·exact ⟨b2,o,e2,cs,ty2,k1,(setRow_other w b b2 new hb).trans k2,k3,k4,k5⟩
  | dead=>trivial
  | _=>exact hrow.elim

theorem Rel.setRow (r:Rel B w0 g h w) {i q k:Nat} {t t':TI} {es es':List (List AV)} (hi:g.τ[i]?=some t) (hn:t.n < t'.n) (hf:t.row=true) (hf':t'.row=true)
  (hq:g.σ[q]?=some none) (hb:h.blks[q]?=some (.row i k es)) (hrow:RowOk (g.setT i t') w i k es')
  (hloc:∀ b l e,t'.loc=some (b,l,e)→LocOk g.Φ B w b l e)
  (hd:∀ b x,t'.loc=some (b,x)→(∃ y,t.loc=some (b,y)) ∨ ((∀ (j:Nat) (u:TI) (y:Nat×Nat),g.τ[j]?=some u→u.loc ≠ some (b,y))∧(∀ (j c:Nat),g.σ[j]?=some (some c)→b ≠ c)∧g.N b=none)) :
  Rel B w0 (g.setT i t') { h.put q (.row i k es') with toks:=h.toks.set i t'.n } w:=by
 have hlt:i < g.τ.length:=(List.getElem?_eq_some_iff.1 hi).1
 have hle:=Gh.le_setT hi hn (hf'.trans hf.symm)
 have key:∀ (j:Nat) (u:TI),(g.setT i t').τ[j]?=some u→(j=i∧u=t') ∨ (j ≠ i∧g.τ[j]?=some u):=by
  intro j u e
  simp only [Gh.setT] at e
  by_cases hj:j=i
  ·subst hj
   rw [List.getElem?_set_self hlt] at e
   injection e with e
   exact .inl ⟨rfl,e.symm⟩
  ·rw [List.getElem?_set_ne (fun e=>hj e.symm)] at e
   exact .inr ⟨hj,e⟩
 have hql:q < h.blks.length:=(List.getElem?_eq_some_iff.1 hb).1
 have bkey:∀ (j:Nat) (b:Blk),(h.blks.set q (.row i k es'))[j]?=some b→(j=q∧b=.row i k es') ∨ (j ≠ q∧h.blks[j]?=some b):=by
  intro j b e
  by_cases hj:j=q
  ·subst hj
   rw [List.getElem?_set_self hql] at e
   injection e with e
   exact .inl ⟨rfl,e.symm⟩
  ·rw [List.getElem?_set_ne (fun e=>hj e.symm)] at e
   exact .inr ⟨hj,e⟩
 refine ⟨r.below,r.bsz,r.phi,by simp [AH.put,Gh.setT,r.slen],fun i' c b hc hk=>?_,by simp [Gh.setT,r.tlen],fun j u hu=>?_,r.sinj,fun j j' u u' b x y hj hj' hx hy=>?_,fun j c j' u b x hc hu hx=>?_,r.dfr,
  fun j b hj hk=>?_,fun j1 j2 t1 k1 k2 e1 e2 hj1 hj2=>?_,fun b x hb=>?_,r.ob⟩
 rotate_right
 ·exact (r.nb b x hb).mono fun _ _ ha=>⟨rfl,⟨ha.1,ha.2.1,fun j u y hu hl=>by
    rcases key j u hu with ⟨rfl,rfl⟩ | ⟨_,hu⟩
    ·rcases hd b y hl with ⟨z,hz⟩ | ⟨_,_,h3⟩
     ·exact ha.2.2 _ _ z hi hz
     ·have hb:g.N b=some x:=hb
      rw [h3] at hb;cases hb
    ·exact ha.2.2 j u y hu hl⟩,fun h=>h⟩
 ·have hc:g.σ[i']?=some (some c):=hc
  rcases bkey i' b hk with ⟨rfl,rfl⟩ | ⟨hne,hk⟩
  ·rw [hq] at hc;cases hc
  ·obtain ⟨h1,h2,h3,h4⟩:=r.blk i' c b hc hk
   exact ⟨h1,h2,h3.mono hle rfl,h4⟩
 ·rcases key j u hu with ⟨rfl,rfl⟩ | ⟨hj,hu⟩
  ·exact ⟨List.getElem?_set_self (by rw [← r.tlen];exact hlt),hloc⟩
  ·obtain ⟨h1,h2⟩:=r.tok j u hu
   exact ⟨by simp only;rw [List.getElem?_set_ne (fun e=>hj e.symm)];exact h1,h2⟩
 ·rcases key j u hj with ⟨rfl,rfl⟩ | ⟨hne,hj2⟩ <;> rcases key j' u' hj' with ⟨rfl,rfl⟩ | ⟨hne',hj'⟩
  ·rfl
  ·rcases hd b x hx with ⟨z,hz⟩ | ⟨h1,_⟩
   ·exact r.tinj _ _ _ _ b z y hi hj' hz hy
   ·exact absurd hy (h1 _ _ _ hj')
  ·rcases hd b y hy with ⟨z,hz⟩ | ⟨h1,_⟩
   ·exact r.tinj _ _ _ _ b x z hj2 hi hx hz
   ·exact absurd hx (h1 _ _ _ hj2)
  ·exact r.tinj _ _ _ _ b x y hj2 hj' hx hy
 ·rcases key j' u hu with ⟨rfl,rfl⟩ | ⟨hne,hu⟩
  ·rcases hd b x hx with ⟨z,hz⟩ | ⟨_,h2,_⟩
   ·exact r.sep j c _ t b z hc hi hz
   ·exact h2 j c hc
  ·exact r.sep j c j' u b x hc hu hx
 ·rcases bkey j b hk with ⟨rfl,rfl⟩ | ⟨hne,hk2⟩
  ·exact hrow
  ·have hr:=r.row j b hj hk2
   cases b with
   | row i2 k2 e2 =>
    have hr:RowOk g w i2 k2 e2:=hr
    have hi2:i2 ≠ i:=by rintro rfl;exact hne (r.rinj _ _ _ _ _ _ _ hk2 hb)
    exact hr.mono hle (by simp only [Gh.setT];exact List.getElem?_set_ne (fun e=>hi2 e.symm)) (fun _ _ _ _ _ _=>⟨rfl,fun _=>rfl⟩)
   | dead=>trivial
   | _=>exact hr.elim
 ·rcases bkey j1 _ hj1 with ⟨rfl,he1⟩ | ⟨hne1,hk1⟩ <;> rcases bkey j2 _ hj2 with ⟨rfl,he2⟩ | ⟨hne2,hk2⟩
  ·rfl
  ·injection he1 with he1 _ _;subst he1
   exact r.rinj _ _ _ _ _ _ _ hb hk2
  ·injection he2 with he2 _ _;subst he2
   exact r.rinj _ _ _ _ _ _ _ hk1 hb
  ·exact r.rinj _ _ _ _ _ _ _ hk1 hk2

theorem Rel.rowAt (r:Rel B w0 g h w) {id q k:Nat} {es:List (List AV)} (hb:h.blk id=some (.row q k es)):g.σ[id]?=some none∧RowOk g w q k es:=by
 have hl:id < g.σ.length:=by rw [r.slen];exact (List.getElem?_eq_some_iff.1 hb).1
 rcases hc:g.σ[id] with _ | c
 ·have hc:g.σ[id]?=some none:=by rw [List.getElem?_eq_getElem hl,hc]
  exact ⟨hc,r.row _ _ hc hb⟩
 ·exact (r.blk id c _ (by rw [List.getElem?_eq_getElem hl,hc]) hb).2.2.1.elim

theorem Rel.storeRow (r:Rel B w0 g h w) {q i k:Nat} {es es':List (List AV)} (hb:h.blk q=some (.row i k es)) {t:TI} {b o e:Nat} {cur new:Array Value} {ty:TypeId} (hi:g.τ[i]?=some t)
  (hl:t.loc=some (b,o+es.length * k,e)) (hc:w.heap[b]?=some (.cells cur ty (0,0))) (hsz:new.size=cur.size) (hsame:∀ j,j < o→new[j]?=cur[j]?) (hlen:es'.length=es.length)
  (hk:∀ e ∈ es',e.length=k) (hp:es'.flatten.all AV.pure=true) (hva:VA g es'.flatten ((new.toList.drop o).take (es.length * k))) (hne:es ≠ []) :
  Rel B w0 g (h.put q (.row i k es')) (w.setRow b new):=by
 obtain ⟨hσ,t2,ht2,htr,htn,_,_,hrow⟩:=r.rowAt hb
 rw [hi] at ht2;injection ht2 with ht2;subst ht2
 obtain ⟨b2,o2,e2,cs,ty2,k1,k2,k3,k4,k5⟩:∃ b2 o2 e2 cs ty2,t.loc=some (b2,o2+es.length * k,e2)∧w.heap[b2]?=some (.cells cs ty2 (0,0))∧VA g es.flatten ((cs.toList.drop o2).take (es.length * k))∧o2+es.length * k≤cs.size∧∀ j,o2≤j→g.Φ b2 j=none:=by
  rcases hrow with rfl | hrow
  ·exact absurd rfl hne
  ·exact hrow
 rw [hl] at k1;injection k1 with k1;injection k1 with e1 k1;injection k1 with k1 _
 obtain rfl:o=o2:=by omega
 subst e1
 rw [hc] at k2;injection k2 with k2;injection k2 with k2 _ _;subst k2
 have lo:=(r.tok i t hi).2 b _ e hl
 have hnew:(w.setRow b new).heap[b]?=some (.cells new ty (0,0)):=setRow_heap w b cur new ty (0,0) hc
 have hql:q < h.blks.length:=(List.getElem?_eq_some_iff.1 hb).1
 have bkey:∀ (j:Nat) (x:Blk),(h.blks.set q (.row i k es'))[j]?=some x→(j=q∧x=.row i k es') ∨ (j ≠ q∧h.blks[j]?=some x):=by
  intro j x e
  by_cases hj:j=q
  ·subst hj
   rw [List.getElem?_set_self hql] at e
   injection e with e
   exact .inl ⟨rfl,e.symm⟩
  ·rw [List.getElem?_set_ne (fun e=>hj e.symm)] at e
   exact .inr ⟨hj,e⟩
 have hsep:∀ (i' c:Nat),g.σ[i']?=some (some c)→c ≠ b:=fun i' c h'=>(r.sep i' c i t b _ h' hi hl).symm
 refine ⟨⟨r.below.os,r.below.tape,r.below.output,by simp [r.below.size],fun x hx=>(setRow_other w b x new (by have:=lo.lo;omega)).trans (r.below.block x hx)⟩,by simp [r.bsz],fun b' j v e'=>?_,
  by simp [AH.put,r.slen],fun i' c x hc' hk'=>?_,r.tlen,fun i' t' ht'=>?_,r.sinj,r.tinj,r.sep,fun x hx=>⟨(r.dfr x hx).1,(setRow_other w b x new (by rintro rfl;have:=(r.dfr x hx).2.1;rw [hc] at this;cases this)).trans (r.dfr x hx).2.1,(r.dfr x hx).2.2⟩,
  fun j x hj hx=>?_,fun j1 j2 t1 x1 x2 e1 e2 hj1 hj2=>?_,
  fun b' x hb=>(r.nb b' x hb).mono fun _ _ ha=>⟨setRow_other w b b' new (by rintro rfl;exact ha.2.2 i t _ hi hl),ha,fun h=>h⟩,fun b' hb=>⟨by simpa using (r.ob b' hb).1,(r.ob b' hb).2⟩⟩
 ·by_cases hb':b'=b
  ·subst hb'
   have hj:j < o:=by
    rcases Nat.lt_or_ge j o with hj | hj
    ·exact hj
    ·rw [k5 j hj] at e';cases e'
   have:=r.phi b' j v e'
   rw [cell_of_row w b' j cur ty (0,0) hc] at this
   rw [cell_of_row _ b' j new ty (0,0) hnew,hsame j hj]
   exact this
  ·exact (World.cell?_of_block (w:=w) (a:=⟨b',j,none⟩) (setRow_other w b b' new hb')).trans (r.phi b' j v e')
 ·rcases bkey i' x hk' with ⟨rfl,rfl⟩ | ⟨_,hk'⟩
  ·rw [hσ] at hc';cases hc'
  ·obtain ⟨h1,h2,h3,h4⟩:=r.blk i' c x hc' hk'
   exact ⟨h1,by simpa using h2,h3.mono (Gh.le.refl g) (setRow_other w b c new (hsep i' c hc')),h4⟩
 ·obtain ⟨h1,h2⟩:=r.tok i' t' ht'
  refine ⟨h1,fun b' l' e'' hl'=>?_⟩
  have lo':=h2 b' l' e'' hl'
  by_cases hb':b'=b
  ·subst hb'
   obtain ⟨cs,ty',hcs,hle⟩:=lo'.cells
   rw [hc] at hcs
   injection hcs with hcs
   injection hcs with hcs _ _
   subst hcs
   exact ⟨lo'.lo,by simpa using lo'.lt,⟨new,ty,hnew,by omega⟩,lo'.free⟩
  ·exact lo'.mono (by simp) (setRow_other w b b' new hb') fun _ _=>rfl
 ·rcases bkey j x hx with ⟨rfl,rfl⟩ | ⟨hne',hx'⟩
  ·exact ⟨t,hi,htr,htn.trans hlen.symm,hk,hp,.inr ⟨b,o,e,new,ty,by rw [hlen];exact hl,hnew,by rw [hlen];exact hva,by rw [hlen];omega,k5⟩⟩
  ·have hr:=r.row j x hj hx'
   cases x with
   | row i2 k2 e2 =>
    have hr:RowOk g w i2 k2 e2:=hr
    refine hr.mono (Gh.le.refl g) rfl fun t2 b2 x2 ht2 _ hl2=>⟨setRow_other w b b2 new ?_,fun _=>rfl⟩
    rintro rfl
    have:=r.tinj _ _ _ _ b2 _ _ ht2 hi hl2 hl
    subst this
    exact hne' (r.rinj _ _ _ _ _ _ _ hx' hb)
   | dead=>trivial
   | _=>exact hr.elim
 ·rcases bkey j1 _ hj1 with ⟨rfl,he1⟩ | ⟨hne1,hk1⟩ <;> rcases bkey j2 _ hj2 with ⟨rfl,he2⟩ | ⟨hne2,hk2⟩
  ·rfl
  ·injection he1 with he1 _ _;subst he1
   exact r.rinj _ _ _ _ _ _ _ hb hk2
  ·injection he2 with he2 _ _;subst he2
   exact r.rinj _ _ _ _ _ _ _ hk1 hb
  ·exact r.rinj _ _ _ _ _ _ _ hk1 hk2
theorem Rel.scribble (r:Rel B w0 g h w) {b s:Nat} (hn:g.N b=some (.gar s)) {cur new:Array Value} {ty:TypeId}
  (hc:w.heap[b]?=some (.cells cur ty (0,0))) (hsz:new.size=cur.size):Rel B w0 g h (w.setRow b new):=by
 obtain ⟨hB,⟨ha1,had,ha2⟩,⟨cs0,ty0,hc0,hs0⟩,hΦ⟩:=r.nb b _ hn
 have hnew:(w.setRow b new).heap[b]?=some (.cells new ty (0,0)):=setRow_heap w b cur new ty (0,0) hc
 refine ⟨⟨r.below.os,r.below.tape,r.below.output,by simp [r.below.size],fun k hk=>(setRow_other w b k new (by omega)).trans (r.below.block k hk)⟩,by simp [r.bsz],fun b' j v e'=>?_,
  r.slen,fun i' c k hc' hk=>?_,r.tlen,fun i' t' ht'=>?_,r.sinj,r.tinj,r.sep,fun x hx=>⟨(r.dfr x hx).1,(setRow_other w b x new (by rintro rfl;have:=(r.dfr x hx).2.1;rw [hc] at this;cases this)).trans (r.dfr x hx).2.1,(r.dfr x hx).2.2⟩,fun q k hq hk=>?_,r.rinj,fun b' x hb=>?_,fun b' hb=>⟨by simpa using (r.ob b' hb).1,(r.ob b' hb).2⟩⟩
 ·have hne:b' ≠ b:=by rintro rfl;rw [hΦ] at e';cases e'
  exact (World.cell?_of_block (w:=w) (a:=⟨b',j,none⟩) (setRow_other w b b' new hne)).trans (r.phi b' j v e')
 ·obtain ⟨h1,h2,h3,h4⟩:=r.blk i' c k hc' hk
  exact ⟨h1,by simpa using h2,h3.mono (Gh.le.refl g) (setRow_other w b c new (by rintro rfl;exact ha1 _ hc')),h4⟩
 ·obtain ⟨h1,h2⟩:=r.tok i' t' ht'
  exact ⟨h1,fun b' l' e'' hl'=>(h2 b' l' e'' hl').mono (by simp) (setRow_other w b b' new (by rintro rfl;exact ha2 _ _ _ ht' hl')) fun _ _=>rfl⟩
 ·exact (r.row q k hq hk).mono (Gh.le.refl g) (fun _ _ h _=>h) (fun i2 t b2 x ht _ hl=>⟨setRow_other w b b2 new (by rintro rfl;exact ha2 _ _ _ ht hl),fun _=>rfl⟩)
 ·by_cases hbb:b'=b
  ·subst hbb
   rw [hn] at hb
   injection hb with hb
   subst hb
   rw [hc0] at hc
   injection hc with hc
   injection hc with hc _ _
   subst hc
   exact ⟨hB,⟨ha1,had,ha2⟩,⟨new,ty,hnew,by omega⟩,hΦ⟩
  ·exact (r.nb b' x hb).mono fun _ _ ha=>⟨setRow_other w b b' new hbb,ha,fun h=>h⟩
def Gh.addN (g:Gh) (b:Nat) (x:BK):Gh:={ g with N:=fun c=>if c=b then some x else g.N c }
theorem Gh.le_addN {g:Gh} {b:Nat} (x:BK) (h:g.N b=none):g.le (g.addN b x) :=
 ⟨fun _ _ _ e=>e,fun _ _ e=>e,fun _ t e=>⟨t,e,Nat.le_refl _,fun _=>rfl,rfl⟩,fun _ h=>h,fun c y e=>by
  simp only [Gh.addN]
  by_cases hc:c=b
  ·subst hc;rw [h] at e;cases e
  ·simp [hc,e],fun _ h=>h⟩
theorem Rel.mark (r:Rel B w0 g h w) {b:Nat} {cs:Array Value} {ty:TypeId} (hN:g.N b=none) (hB:B≤b) (hc:w.heap[b]?=some (.cells cs ty (0,0))) (ha:Apart g b) (hO:¬ g.O b):Rel B w0 (g.addN b (.new cs.size)) h w :=
 ⟨r.below,r.bsz,r.phi,r.slen,fun i c k hc hk=>by obtain ⟨h1,h2,h3,h4⟩:=r.blk i c k hc hk;exact ⟨h1,h2,h3.mono (Gh.le_addN _ hN) rfl,h4⟩,r.tlen,r.tok,r.sinj,r.tinj,r.sep,r.dfr,
   fun i k hi hk=>(r.row i k hi hk).mono (Gh.le_addN _ hN) (fun _ _ h _=>h) (fun _ _ _ _ _ _ _=>⟨rfl,fun _=>rfl⟩),r.rinj,fun b' x hb=>by
     simp only [Gh.addN] at hb
     by_cases hbb:b'=b
     · subst hbb
       simp only [if_true,Option.some.injEq] at hb
       subst hb
       exact ⟨hB,ha,cs,ty,hc,rfl⟩
     · simp only [hbb,if_false] at hb
       exact (r.nb b' x hb).mono fun _ _ ha=>⟨rfl,ha,fun h=>h⟩,fun b' hb=>by
     have hne:b' ≠ b:=by rintro rfl;exact hO hb
     have:=r.ob b' hb
     simp only [Gh.addN,hne,if_false];exact this⟩
end
end Go.Vv
