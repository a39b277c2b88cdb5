/- strings.Compare, by the shelf's contract; parameters that are handed back. -/
import Derived.Test.YtbaclapbinkedaaVvLb
import Derived.Shelf.Small.Strs
namespace Go.Vv
open Go Go.RowKit Go.Lib Go.Shelf
theorem spec_scompare {P:Program} {ρ:Ren} (L:Go.Proofs.Lays.n106 P ρ) {a b:List UInt8} {h:AH}:Spec P (ρ.f 106) [.str a,.str b] h fun rr hh=>rr=.int .i64 (Lib.compareBytes a b)∧hh=h:=by
 refine ⟨fun vs w=>Go.Proofs.enters_of L.f106 (by kernel_rfl) rfl vs w,fun B w0 _ g w vs r hv=>?_⟩
 obtain ⟨us,rfl⟩:∃ us:List Value,vs=us.toArray:=⟨vs.toList,by simp⟩
 simp only [VL,V] at hv
 obtain ⟨v1,s1,e1,⟨rfl,_⟩,v2,s2,rfl,⟨rfl,_⟩,rfl⟩:=hv
 subst e1
 refine (Go.Proofs.Any.strings_Compare L _ _ w).mono ?_
 rintro e w' ⟨rfl,rfl⟩
 exact ⟨_,_,h,g,rfl,⟨rfl,rfl⟩,Gh.le.refl g,r,by simp only [V]⟩
end Go.Vv
