/- Functions that append to a slice that they are handed: its token lies last. -/
import Derived.Test.YtbaclapbinkedaaVvPt
namespace Go.Vv
open Go

theorem Spec.swk {P:Program} {f:FuncId} {as bs:List AV} {h h':AH} {K:AV→AH→Prop} (k:swk as h bs h') (s:Spec P f bs h' K):Spec P f as h K :=
 ⟨s.1,fun B w0 _ g w vs r hv=>by
  obtain ⟨g',hle,r',hv'⟩:=k B w0 w g vs.toList r hv
  exact (s.2 B w0 g' w vs r' hv').mono fun _ _ ⟨v,x,h',g2,h1,h2,h3,h4⟩=>⟨v,x,h',g2,h1,h2,hle.trans h3,h4⟩⟩
theorem swk_tokA {α:Type} {row:α→List AV} {L:List α} {h:AH} {as:List AV} {B:List Blk} {T:List Nat} {k m:Nat} (hm:T.length=m):swk (.osl none k (L.map row)::as) (h.ext B T) (.osl (some (h.toks.length+m)) k (L.map row)::as) (h.ext B (T++[L.length])):=fun _ _ w g vs r hv=>by
 subst hm
 have hlen:h.toks.length+T.length=g.τ.length:=by rw [r.tlen];simp [AH.ext]
 simp only [VL] at hv
 obtain ⟨v,s,rfl,hV,hs⟩:=hv
 refine ⟨g.addT ⟨L.length,none,false⟩,g.le_addT _,?_,VL.cons ?_ (hs.mono (g.le_addT _))⟩
 ·have:=r.addTok ⟨L.length,none,false⟩ (fun _ _ _ h=>by cases h) (fun _ _ h=>by cases h)
  have e:(h.ext B (T++[L.length]))={ (h.ext B T) with toks:=(h.ext B T).toks++[L.length] }:=by simp [AH.ext,List.append_assoc]
  rw [e];exact this
 ·rw [hlen];exact hV.tok (by simp)
theorem xw {P:Program} {f:FuncId} {as:List AV} {h:AH} {B:List Blk} {T1 T T':List Nat} {n m:Nat} {v:AV} (s:Spec P f as ((h.ext B T1).ext [] [n]) (fun rr hh=>rr=v∧hh=(h.ext B T1).ext [] [m])) (hT:T1++[n]=T) (hT':T1++[m]=T') :
  Spec P f as (h.ext B T) (fun rr hh=>rr=v∧hh=h.ext B T'):=by
 subst hT hT'
 rw [yj,yj,List.append_nil] at s
 exact s
theorem tok_call0 {α:Type} {row:α→List AV} {L:List α} {P:Program} {f:FuncId} {as:List AV} {h:AH} {B:List Blk} {T T':List Nat} {k n m:Nat} {v:AV}
  (s:Spec P f (.osl (some (h.toks.length+m)) k (L.map row)::as) ((h.ext B T).ext [] [L.length]) (fun rr hh=>rr=v∧hh=(h.ext B T).ext [] [n])) (hm:T.length=m) (hT:T++[n]=T') :
  Spec P f (.osl none k (L.map row)::as) (h.ext B T) (fun rr hh=>rr=v∧hh=h.ext B T'):=by
 subst hT
 rw [yj,yj,List.append_nil] at s
 exact Spec.swk (swk_tokA hm) s
theorem fin_tok {h:AH} {B:List Blk} {T:List Nat} {K:AV→AH→Prop} {k n m:Nat} {R:List (List AV)} (hk:K (.osl (some (h.toks.length+0)) k R) (h.ext [] [m])):finK (h.ext [] [n]) K (.osl (some (h.toks.length+0)) k R) (h.ext B (m::T)) :=
 fin_wk (wD (L0:=[]) (L1:=[]) (M0:=[n]) (M1:=[m]) (by simp [z9,AV.low]) rfl rfl rfl) hk
end Go.Vv
