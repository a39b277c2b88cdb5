/- Functions of Go's library whose contracts the shelf has: as contracts over abstract values. -/
import Derived.Test.YtoebhbekbkkkeaaVvZ
import Derived.Shelf.Strings.OnBuilder
import Derived.Shelf.Strings.SplitShaped
namespace Go.Vv
open Go Go.RowKit Go.Proofs Go.Shelf

def strJoin (xs:List (List UInt8)) (sep:List UInt8):Option (List UInt8):=if xs.length≤140737488355328∧(Lib.join xs sep).length≤140737488355328 then some (Lib.join xs sep) else none

theorem spec_join {P:Program} {ρ:Ren} (L:Lays.n156 P ρ) (X:Builder.Extra P ρ) {xs:List (List UInt8)} {sep res:List UInt8} {h:AH} (hF:strJoin xs sep=some res) :
  Spec P (ρ.f 156) [.sl 1 (xs.map fun x=>[.str x]),.str sep] h (fun rr hh=>rr=.str res∧hh=h):=by
 unfold strJoin at hF
 split at hF
 case isFalse=>cases hF
 rename_i hc
 obtain ⟨hN,hlen⟩:=hc
 injection hF with hF
 subst hF
 have hb:(Body.n156 ρ).body=some ((Body.n156 ρ).body.get rfl):=rfl
 refine ⟨fun vs w=>by simp [callFunc,L.f156,Body.n156],fun B w0 _ g w vs r hv=>?_⟩
 obtain ⟨us,rfl⟩:∃ us:List Value,vs=us.toArray:=⟨vs.toList,by simp⟩
 simp only [VL,V] at hv
 obtain ⟨v1,s1,e1,⟨a,c,rfl,hcap,hm,hp⟩,v2,s2,rfl,⟨rfl,hs⟩,rfl⟩:=hv
 simp only [List.length_map] at hcap hm
 simp at e1
 subst e1
 have fin:∀ e w',e=Ending.returned (.string ⟨(Lib.join xs sep).toArray⟩)→Below w.heap.size w w'→∃ v r h' g',e=.returned v∧(r=.str (Lib.join xs sep)∧h'=h)∧g.le g'∧Rel B w0 g' h' w'∧V g' r v:=by
  rintro e w' rfl hw
  refine ⟨_,_,h,g,rfl,⟨rfl,rfl⟩,Gh.le.refl g,r.beyond hw,?_⟩
  simp only [V]
  have hm2:(140737488355328:Nat)≤maxLen:=by decide
  exact ⟨trivial,Nat.le_trans hlen hm2⟩
 rcases hp with hp | ⟨b,o,rfl,he⟩
 ·have:xs=[]:=by simpa using hp
  subst this
  refine (Any.strings_Join_none L X a c ⟨sep.toArray⟩ w).mono fun e w' ⟨h1,h2⟩=>fin e w' ?_ (h2 ▸ Below.refl _ _)
  rw [h1];rfl
 ·have key:(xs.map fun x=>(⟨x.toArray⟩:ByteArray)).map (·.data.toList)=xs:=by simp [Function.comp_def]
  have hcells:∀ (j:Nat) x,(xs.map fun x=>(⟨x.toArray⟩:ByteArray))[j]?=some x→w.cell? ⟨b,o+j,none⟩=some (.string x):=by
   intro j x hj
   rw [List.getElem?_map] at hj
   rcases hx:xs[j]? with _ | y
   ·simp [hx] at hj
   ·simp [hx] at hj
    subst hj
    obtain ⟨_,h2⟩:=he.get j [.str y] (by rw [List.getElem?_map,hx];rfl)
    simp only [VC,V,Nat.mul_one] at h2
    obtain ⟨⟨v,h3,_,rfl,_⟩,_⟩:=h2
    exact r.phi _ _ _ h3
  by_cases hx:xs=[]
  ·subst hx
   refine (Any.strings_Join_none L X _ c ⟨sep.toArray⟩ w).mono fun e w' ⟨h1,h2⟩=>fin e w' ?_ (h2 ▸ Below.refl _ _)
   rw [h1];rfl
  ·have hbk:b < w.heap.size:=by
    obtain ⟨y,ys,rfl⟩:=List.exists_cons_of_ne_nil hx
    have:=hcells 0 ⟨y.toArray⟩ (by simp)
    exact World.block_lt_of_cell? w ⟨b,o+0,none⟩ this
   have:=Any.strings_Join L X b o c (xs.map fun x=>(⟨x.toArray⟩:ByteArray)) ⟨sep.toArray⟩ w hcells hbk (by simpa using hN) (by simpa using hcap) (by rw [key];simpa using hlen)
   rw [key] at this
   simp only [List.length_map] at this ⊢
   exact this.mono fun e w' ⟨h1,h2⟩=>fin e w' (by simpa using h1) h2

def strSplit (s sep:List UInt8):Option (List (List UInt8)):=if s.length < 4294967281∧1≤sep.length then some (Lib.split s sep) else none

end Go.Vv
