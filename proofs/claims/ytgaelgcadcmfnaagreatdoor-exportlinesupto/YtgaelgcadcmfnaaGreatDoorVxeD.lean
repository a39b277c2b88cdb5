/- Numbers and hex: as contracts over abstract values. -/
import Derived.Test.YtgaelgcadcmfnaaGreatDoorVxeC
import Derived.Test.YtgaelgcadcmfnaaGreatDoorVvU
set_option linter.all false
namespace Go.Vv
open Go Go.RowKit Go.Proofs Go.Shelf
variable {base:Int}
section
variable {P:Program} {f:FuncId} {res:List UInt8} {h:AH}
theorem spec_text {args:List AV} {vals:List Value} (hv:∀(g:Gh) (vs:List Value),VL g args vs->vs=vals) (he:∀vs w,(callFunc f vs).run P w=.ok (.enter f vs) w) (hl:res.length<=maxLen)
  (hc:∀w,laid P w->Calls P f vals.toArray w λe w'=>e=.returned (.string ⟨res.toArray⟩)/\Below w.heap.size w w'):Spec P f args h (λrr hh=>rr=.str res/\hh=h):=by
 refine ⟨he,λB w0 G g w vs r hvs=>?_⟩;have e:=hv g _ hvs;have e2:vs=vals.toArray:=by rw [<- e]
 subst e2;refine (hc w (laid_below G.lay G.sz r.below)).mono ?_
 rintro e w' ⟨rfl,hw⟩
 refine ⟨_,_,h,g,rfl,⟨rfl,rfl⟩,Gh.le.refl g,r.beyond hw,?_⟩;simp only [V];exact ⟨trivial,hl⟩
theorem VL_ints {k k':IntKind} {a b:Int} (g:Gh) (vs:List Value) (h:VL g [.int k a,.int k' b] vs):vs=[.int k a,.int k' b]:=by
 simp only [VL,V] at h;obtain ⟨_,_,rfl,rfl,_,_,rfl,rfl,rfl⟩:=h;rfl
theorem VL_str {s:List UInt8} (g:Gh) (vs:List Value) (h:VL g [.str s] vs):vs=[.string ⟨s.toArray⟩]:=by
 simp only [VL,V] at h;obtain ⟨_,_,rfl,⟨rfl,_⟩,rfl⟩:=h;rfl
end
theorem s_idxAgg {P:Program} {o:Oper} {env:List AV} {h:AH} {t e:TypeId} {n k k':Nat} {d:TypeDesc} {x i:Operand} {q:IntKind} {m:Int} {α:Type} {L:List α} {row:α->List AV} {y:α} {cs:List AV} (hy:wh L m=some y)
  (ho:o.op=.index t x i) (ht:Ty P t (.array n e) k) (he:Ty P e d k') (ha:zU d=true) (hx:yg env x=some (.agg cs)) (hi:yg env i=some (.int q m)) (hc:cs=(L.map row).flatten) (hk:∀z,z ∈ L->(row z).length=k') (hL:L.length=n) :
  zn P o env h=.ok (.agg (row y)) h:=by
 obtain ⟨h0,hy⟩:=idxF hy;have hl:m.toNat < L.length:=(List.getElem?_eq_some_iff.1 hy).1;have key:∀(L:List α) (j:Nat),(∀z,z ∈ L->(row z).length=k')->L[j]?=some y->(((L.map row).flatten).drop (j * k')).take k'=row y:=by
  intro L
  induction L with
  | nil=>intro j _ h;simp at h
  | cons z r ih =>
   intro j hz hj;have hz1:=hz z (by simp);cases j with
   | zero =>
    simp at hj;subst hj;simp only [List.map_cons,List.flatten_cons,Nat.zero_mul,List.drop_zero];rw [List.take_append_of_le_length (by omega),List.take_of_length_le (by omega)]
   | succ j =>
    simp only [List.map_cons,List.flatten_cons];have e1:(j+1) * k'=(row z).length+j * k':=by rw [hz1,Nat.succ_mul];omega
    rw [e1,List.drop_append,List.drop_of_length_le (by omega),Nat.add_sub_cancel_left,List.nil_append];exact ih j (λz hz'=>hz z (by simp [hz'])) (by simpa using hj)
 refine s_indexAgg ho ht he hx hi (v:=.agg (row y)) ?_ (zb rfl);simp only [aIndexAgg];rw [if_pos ⟨h0,by omega⟩,ha];simp only [aPart,if_true];rw [hc,key L _ hk hy]
def fmtU (n base:Int):Option (List UInt8):=if 0<=n/\n < 18446744073709551616/\base=10 then some (Lib.decDigits n.toNat) else none
theorem x9 (n:Nat) (h:n < 18446744073709551616):(Lib.decDigits n).length<=20:=by
 rw [Lib.decDigits_length];by_cases h1:1<=n
 ·have:=Lib.numDigits_eq n h1 h;split at this <;> omega
 ·obtain rfl:n=0:=by omega
  rw [Lib.nDigits_small (by omega)];omega
theorem decDigits_le (n:Nat) (h:n < 18446744073709551616):(Lib.decDigits n).length<=maxLen:=by
 have:=x9 n h;simp only [maxLen];omega
theorem spec_fmtU {n:Int} {res:List UInt8} {h:AH} (hF:fmtU n base=some res):Spec Tryz.prog 158 [.int .u64 n,.int .i64 base] h (λrr hh=>rr=.str res/\hh=h):=by
 unfold fmtU at hF;split at hF
 case isFalse=>cases hF
 rename_i hc;obtain ⟨h0,h1,rfl⟩:=hc;injection hF with hF;subst hF;obtain ⟨u,rfl⟩:∃u:Nat,n=u:=⟨n.toNat,by omega⟩
 refine spec_text VL_ints (enters_of Tryz.func158 (by kernel_rfl) rfl) (by rw [Int.toNat_natCast];exact decDigits_le u (by omega)) λw hl=>(fmt10 u (by omega) w hl.1).mono ?_
 rintro e w' ⟨rfl,k,os,rfl⟩
 have hg:=x6 w k os none;exact ⟨rfl,hg.os,hg.tape,hg.output,hg.size,λq hq=>hg.block q hq (by simp)⟩
def fmtI (n base:Int):Option (List UInt8):=if -9223372036854775808<=n/\n<=9223372036854775807/\base=10 then some (Lib.itoa n) else none
theorem itoa_le (n:Int) (h0:-9223372036854775808<=n) (h1:n<=9223372036854775807):(Lib.itoa n).length<=maxLen:=by
 unfold Lib.itoa;split
 ·have:=x9 n.natAbs (by omega);simp only [List.length_cons,maxLen];omega
 ·exact decDigits_le _ (by omega)
theorem spec_fmtI {n:Int} {res:List UInt8} {h:AH} (hF:fmtI n base=some res):Spec Tryz.prog 58 [.int .i64 n,.int .i64 base] h (λrr hh=>rr=.str res/\hh=h):=by
 unfold fmtI at hF;split at hF
 case isFalse=>cases hF
 rename_i hc;obtain ⟨h0,h1,rfl⟩:=hc;injection hF with hF;subst hF;refine spec_text VL_ints (enters_of Tryz.func58 (by kernel_rfl) rfl) (itoa_le n h0 h1) λw hl=>(Any.strconv_FormatInt_10 (P:=Tryz.prog) (ρ:=qI) itoaTryzLays n h0 h1 w hl.1).mono ?_
 rintro e w' ⟨rfl,k,os,rfl⟩
 have hg:=x6 w k os none;exact ⟨rfl,hg.os,hg.tape,hg.output,hg.size,λq hq=>hg.block q hq (by simp)⟩
def hexT (s:List UInt8):Option (List UInt8):=if s=[] then some [45] else if 2 * s.length<=140737488355328 then some (hexs s) else none
theorem spec_hex {s res:List UInt8} {h:AH} (hF:hexT s=some res):Spec Tryz.prog 107 [.str s] h (λrr hh=>rr=.str res/\hh=h):=by
 unfold hexT at hF;split at hF
 ·rename_i h0;subst h0;injection hF with hF;subst hF;refine spec_text VL_str (enters_of Tryz.func107 (by kernel_rfl) rfl) (by simp [maxLen]) λw hl=>hexX0 w
 ·split at hF
  case isFalse=>cases hF
  rename_i h0 h1;injection hF with hF;subst hF;exact spec_text VL_str (enters_of Tryz.func107 (by kernel_rfl) rfl) (by rw [hexs_len];simp only [maxLen];omega) λw hl=>hexX s h0 h1 w hl.2.1
end Go.Vv
