/- A row handed back within a value: one row; all else is let go. -/
import Derived.Test.YtcociipjgndnaaaGreatVvPt
namespace Go.Vv
open Go

theorem rows1 {B0:Nat} {w0 w w1:World} {g1 g:Gh} {h:AH} {B:List Blk} {T:List Nat} {k:Nat} {es:List (List AV)} {a:AV} {x:Value} (r1:Rel B0 w0 g1 h w1) (hg:g1.le g) (r:Rel B0 w0 g (h.ext B T) w) (h1:HdS h B k es a) (hV1:V g a x) :
  ∃g',g1.le g'/\Rel B0 w0 g' (h.ext [.row h.toks.length k es] [es.length]) w/\V g' (.rsl h.blks.length h.toks.length k es.length) x/\(∀b v,b.low h.blks.length h.toks.length=true->V g b v->V g' b v)/\∀c,c ∈ g.δ->c ∈ g'.δ:=by
 obtain ⟨t1,⟨x1,c1,rfl,a1,b1,e1⟩,tr1,tn1,hl1,hp1,hrow1,ho1⟩:=HdS.tok r h1 hV1;have hcut:(h.ext B T).cut h.blks.length h.toks.length=h:=by
  simp [AH.cut,AH.ext]
 have rc:=r.cut h.blks.length h.toks.length (λi k hi hk=>by
  have hi':i < h.blks.length:=hi;have hk':h.blks[i]?=some k:=by simp only [AH.ext] at hk;rwa [uj hi'] at hk
  have:=r1.isLow hk';rw [r1.slen,r1.tlen] at this;exact this)
 rw [hcut] at rc;have hlec:g1.le (g.cut h.blks.length h.toks.length):=by
  have:=Gh.le_cut hg;rw [r1.slen,r1.tlen] at this;exact this
 have hlow:∀b v,b.low h.blks.length h.toks.length=true->V g b v->V (g.cut h.blks.length h.toks.length) b v:=λb v hb hv=>by
  have:=VL.cut (n:=h.blks.length) (m:=h.toks.length) [b] [v] (by simp [zB,hb]) (by simp only [VL];exact ⟨v,[],rfl,hv,rfl⟩);simp only [VL] at this;obtain ⟨v',s,e,h2,_⟩:=this;injection e with e _;subst e;exact h2
 generalize hgc:g.cut h.blks.length h.toks.length=gc at rc hlec hlow;have hgcτ:gc.τ=g.τ.take h.toks.length:=by rw [<- hgc];rfl
 have hgcσ:gc.σ=g.σ.take h.blks.length:=by rw [<- hgc];rfl
 have hgcΦ:gc.Φ=g.Φ:=by rw [<- hgc];rfl
 have tget:∀(i:Nat) (t:TI),gc.τ[i]?=some t->g.τ[i]?=some t/\i < h.toks.length:=λi t ht=>by
  rw [hgcτ,uw] at ht;split at ht
  ·rename_i hi;exact ⟨ht,hi⟩
  ·cases ht
 have sget:∀(i:Nat) (c:Option Nat),gc.σ[i]?=some c->g.σ[i]?=some c:=λi c hc=>by
  rw [hgcσ,uw] at hc;split at hc
  ·exact hc
  ·cases hc
 have loc:(∀b l e,t1.loc=some (b,l,e)->LocOk gc.Φ B0 w b l e)/\∀b x,t1.loc=some (b,x)->(∀(j:Nat) (u:TI) (y:Nat×Nat),gc.τ[j]?=some u->u.loc ≠ some (b,y))/\(∀(j c:Nat),gc.σ[j]?=some (some c)->b ≠ c)/\gc.N b=none:=by
  rcases ho1 with rfl | ⟨j,i,_,ht⟩
  ·exact ⟨λ_ _ _ e=>(by cases e),λ_ _ e=>(by cases e)⟩
  ·refine ⟨λb l e hl=>by rw [hgcΦ];exact (r.tok _ _ ht).2 b l e hl,λb x hx=>⟨λj' u y hu hy=>?_,λj' c hc=>r.sep _ _ _ _ _ _ (sget _ _ hc) ht hx,(by rw [<- hgc];exact r.ntok ht hx)⟩⟩;obtain ⟨hu',hlt⟩:=tget _ _ hu;have:=r.tinj _ _ _ _ _ _ _ hu' ht hy hx;omega
 have tl:gc.τ.length=h.toks.length:=rc.tlen;have sl:gc.σ.length=h.blks.length:=rc.slen;have hleA:gc.le ((gc.addT t1).addS none):=(gc.le_addT t1).trans (Gh.le_addS _ none);have rowok:RowOk ((gc.addT t1).addS none) w gc.τ.length k es:=by
  refine ⟨t1,by simp [Gh.addT,Gh.addS],tr1,tn1,hl1,hp1,hrow1.imp (λh=>h) ?_⟩
  rintro ⟨b,o,e,cs,ty,q1,q2,q3,q4,q5⟩
  exact ⟨b,o,e,cs,ty,q1,q2,(by have:=VA.cut (n:=h.blks.length) (m:=h.toks.length) _ _ (lowL_of_pure hp1) q3;rw [hgc] at this;exact this.mono hleA),q4,λj hj=>by show gc.Φ b j=none;rw [hgcΦ];exact q5 j hj⟩
 have rA:=rc.newRowT t1 k es loc.1 loc.2 rowok;refine ⟨_,hlec.trans hleA,?_,?_,λb v hb hv=>(hlow b v hb hv).mono hleA,λc hc=>hleA.del c (by rw [<- hgc];exact hc)⟩
 ·have eh:(({ h with toks:=h.toks++[t1.n] }:AH).new (.row gc.τ.length k es))=h.ext [.row h.toks.length k es] [es.length]:=by
   rw [tl,tn1];simp [AH.new,AH.ext]
  rw [eh] at rA;exact rA
 ·simp only [V];refine ⟨x1,c1,rfl,a1,b1,t1,?_,e1⟩;simp only [Gh.addT,Gh.addS];rw [ui (by omega),tl,rC];rfl
theorem fin_row1 {h:AH} {K:AV->AH->Prop} {j:AV} {B:List Blk} {T:List Nat} {e:Nat} {a:List (List AV)} (o:HdS h B e a j) (m:K (.rsl h.blks.length h.toks.length e a.length) (h.ext [.row h.toks.length e a] [a.length])):finK h K j (h.ext B T):=by
 refine vz (λB0 w0 w q p g vs l n r i=>?_) m;simp only [VL] at i;obtain ⟨v,_,rfl,k,rfl⟩:=i;obtain ⟨g',d,b,f,_,c⟩:=rows1 l n r o k;exact ⟨g',d,b,by simp only [VL];exact ⟨v,[],rfl,f,rfl⟩,c⟩
end Go.Vv
