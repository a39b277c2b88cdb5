/- Functions that append to a slice that they are handed: its token lies last. -/
import Derived.Test.YtcociipjgndnaaaGreatVvPt
namespace Go.Vv
open Go

theorem Spec.swk {P:Program} {f:FuncId} {as bs:List AV} {h h':AH} {K:AV->AH->Prop} (k:swk as h bs h') (s:Spec P f bs h' K):Spec P f as h K :=
 ⟨s.1,λB w0 _ g w vs r hv=>by
  obtain ⟨g',hle,r',hv'⟩:=k B w0 w g vs.toList r hv;exact (s.2 B w0 g' w vs r' hv').mono λ_ _ ⟨v,x,h',g2,h1,h2,h3,h4⟩=>⟨v,x,h',g2,h1,h2,hle.trans h3,h4⟩⟩
theorem swk_tokA {α:Type} {row:α->List AV} {L:List α} {h:AH} {c:List AV} {B:List Blk} {T:List Nat} {k m:Nat} (d:T.length=m):swk (.osl none k (L.map row)::c) (h.ext B T) (.osl (some (h.toks.length+m)) k (L.map row)::c) (h.ext B (T++[L.length])):=λ_ _ w g vs r b=>by
 subst d;have a:h.toks.length+T.length=g.τ.length:=by rw [r.tlen];simp [AH.ext]
 simp only [VL] at b;obtain ⟨v,s,rfl,f,hs⟩:=b;refine ⟨g.addT ⟨L.length,none,false⟩,g.le_addT _,?_,VL.cons ?_ (hs.mono (g.le_addT _))⟩
 ·have:=r.addTok ⟨L.length,none,false⟩ (λ_ _ _ h=>by cases h) (λ_ _ h=>by cases h);have e:(h.ext B (T++[L.length]))={ (h.ext B T) with toks:=(h.ext B T).toks++[L.length] }:=by simp [AH.ext,uy]
  rw [e];exact this
 ·rw [a];exact f.tok (by simp)
theorem xh {P:Program} {f:FuncId} {c:List AV} {h:AH} {B:List Blk} {T1 T T':List Nat} {n m:Nat} {v:AV} (s:Spec P f c ((h.ext B T1).ext [] [n]) (λb hh=>b=v/\hh=(h.ext B T1).ext [] [m])) (d:T1++[n]=T) (a:T1++[m]=T') :
  Spec P f c (h.ext B T) (λb hh=>b=v/\hh=h.ext B T'):=by
 subst d a;rw [zQ,zQ,tA] at s;exact s
theorem tok_call0 {α:Type} {row:α->List AV} {L:List α} {P:Program} {f:FuncId} {b:List AV} {h:AH} {B:List Blk} {T T':List Nat} {k n m:Nat} {v:AV}
  (s:Spec P f (.osl (some (h.toks.length+m)) k (L.map row)::b) ((h.ext B T).ext [] [L.length]) (λa hh=>a=v/\hh=(h.ext B T).ext [] [n])) (d:T.length=m) (c:T++[n]=T') :
  Spec P f (.osl none k (L.map row)::b) (h.ext B T) (λa hh=>a=v/\hh=h.ext B T'):=by
 subst c;rw [zQ,zQ,tA] at s;exact Spec.swk (swk_tokA d) s
theorem fin_tok {h:AH} {B:List Blk} {T:List Nat} {K:AV->AH->Prop} {k n m:Nat} {R:List (List AV)} (a:K (.osl (some (h.toks.length+0)) k R) (h.ext [] [m])):finK (h.ext [] [n]) K (.osl (some (h.toks.length+0)) k R) (h.ext B (m::T)) :=
 vz (yl (L0:=[]) (L1:=[]) (M0:=[n]) (M1:=[m]) (by simp [zB,AV.low]) rfl rfl rfl) a
end Go.Vv
