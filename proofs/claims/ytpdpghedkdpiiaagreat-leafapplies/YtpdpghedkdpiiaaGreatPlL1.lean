/- Items: what is deleted, and where one is to stand. -/
import Derived.Test.YtpdpghedkdpiiaaGreatPlL0
namespace Go.Vv
set_option linter.unusedVariables false
set_option linter.unusedSimpArgs false
open Go
theorem loopW_inv {σ ρ:Type} {f:σ→Option (Out ρ σ)} (inv post:σ→Prop) (μ:σ→Nat) (h:∀ s,inv s→(∃ s',f s=some (.brk s')∧post s') ∨ ∃ s',f s=some (.nxt s')∧inv s'∧μ s' < μ s):∀ (k:Nat) (s:σ),μ s=k→inv s→∃ s',wP f s=some (.inr s')∧post s':=by
 intro k
 induction k using Nat.strongRecOn with
 | _ k ih =>
  intro s hk hi
  rw [loopW_eq]
  rcases h s hi with ⟨s',e,hp⟩ | ⟨s',e,h1,h2⟩
  ·exact ⟨s',by rw [e],hp⟩
  ·rw [e];exact ih (μ s') (by omega) s' rfl h1
theorem idxI_is {q:GItem→Bool} {del:GItem→Option Bool}:∀ (L:List GItem) (n:Nat),(∀ x ∈ L,del x=some (q x)) →
  (yu (fun (n1:Nat) (x1:GItem) (_:Unit)=>(((del x1).bind fun v7=>(if v7=true then some (.ret (n1:Int)) else some (.nxt ()))):Option (Out Int Unit))) L n ()=some (.inr ())∧∀ x ∈ L,q x=false) ∨
  ∃ A x B,L=A++x::B∧q x=true∧(∀ y ∈ A,q y=false)∧yu (fun (n1:Nat) (x1:GItem) (_:Unit)=>(((del x1).bind fun v7=>(if v7=true then some (.ret (n1:Int)) else some (.nxt ()))):Option (Out Int Unit))) L n ()=some (.inl ((n+A.length:Nat):Int))
 | [],n,_=>.inl ⟨rfl,by simp⟩
 | x::r,n,h=>by
  have hx:=h x (by simp)
  cases hq:q x with
  | true=>exact .inr ⟨[],x,r,rfl,hq,by simp,by simp [yu,hx,hq]⟩
  | false =>
   rcases idxI_is r (n+1) (fun y hy=>h y (by simp [hy])) with ⟨e,h2⟩ | ⟨A,y,B,rfl,h1,h2,e⟩
   ·refine .inl ⟨by simp only [yu,hx,hq,Option.bind_some];exact e,?_⟩
    intro y hy;rcases List.mem_cons.1 hy with rfl | hy
    ·exact hq
    ·exact h2 y hy
   ·refine .inr ⟨x::A,y,B,rfl,h1,?_,?_⟩
    ·intro z hz;rcases List.mem_cons.1 hz with rfl | hz
     ·exact hq
     ·exact h2 z hz
    ·simp only [yu,hx,hq,Option.bind_some]
     rw [show n+(x::A).length=n+1+A.length by simp only [List.length_cons];omega];exact e
theorem wrap_a1 {a:Nat} (h:a≤16777216):IntKind.wrap .i64 ((a:Int)+1)=((a+1:Nat):Int):=wrap_add1 (Nat.le_trans (Nat.succ_le_succ h) (by decide))
noncomputable def delI (del:GItem→Option Bool) (n:Nat):Int×Int×(List GItem)→Option (Out (List GItem) (Int×Int×(List GItem))):=fun s1=>((qC ((s1.2.2).length=n) ((if (decide (s1.2.1 < ((n:Nat):Int)))=true then ((vT s1.2.2 s1.2.1).bind fun y14=>((del y14).bind fun v15=>(if (!v15)=true then ((vT s1.2.2 s1.1).bind fun y17=>some (.nxt ((IntKind.wrap .i64 (s1.1+(1:Int))),(IntKind.wrap .i64 (s1.2.1+(1:Int))),(s1.2.2.set s1.1.toNat y14)))) else some (.nxt (s1.1,(IntKind.wrap .i64 (s1.2.1+(1:Int))),s1.2.2))))) else some (.brk (s1.1,s1.2.1,s1.2.2))))))
theorem delRI_eq (s0:List GItem) (del1:GItem→Option Bool):x8 s0 del1=((xb s0 del1).bind fun v1=>(if (v1==(-1:Int))=true then some s0 else (lp (wP (delI del1 s0.length) (v1,(IntKind.wrap .i64 (v1+(1:Int))),s0)) fun (s1:Int×Int×(List GItem))=>(qC (0≤s1.1∧s1.1≤((s0.length:Nat):Int)) (((slc (s1.2.2.take s1.1.toNat++List.replicate (s0.length - s1.1.toNat) (GItem.mk (0:Int) (GDot.mk (GActor.mk (0:Int) (0:Int)) (0:Int)) ([]:yn))) (0:Int) s1.1).bind fun m19=>some m19)))))):=rfl
theorem delI_run {q:GItem→Bool} {del:GItem→Option Bool} {L0:List GItem} (hl:L0.length≤16777216) (h:∀ x ∈ L0,del x=some (q x)) {a0 b0:Nat} (h1:a0 < b0) (h2:b0≤L0.length) (h3:L0.take a0=(L0.take b0).filter fun x=>!q x) :
  ∃ s',wP (delI del L0.length) ((a0:Int),(b0:Int),L0)=some (.inr s')∧∃ a:Nat,s'.1=(a:Int)∧a < L0.length∧s'.2.2.length=L0.length∧s'.2.2.take a=L0.filter fun x=>!q x:=by
 refine loopW_inv (f:=delI del L0.length) (fun s=>∃ a b:Nat,s.1=(a:Int)∧s.2.1=(b:Int)∧a < b∧b≤L0.length∧s.2.2.length=L0.length∧s.2.2.take a=(L0.take b).filter (fun x=>!q x)∧s.2.2.drop b=L0.drop b)
  _ (fun s=>L0.length - s.2.1.toNat) ?_ _ _ rfl ⟨a0,b0,rfl,rfl,h1,h2,rfl,h3,rfl⟩
 rintro ⟨i,j,M⟩ ⟨a,b,q1,q2,q3,q4,q5,q6,q7⟩
 simp only at q1 q2 q5 q6 q7
 subst q1 q2
 simp only [delI,qC,q5,if_true]
 by_cases hb:b < L0.length
 ·right
  have hy:M[b]?=L0[b]?:=by
   have:=congrArg (fun l=>l[0]?) q7
   simpa [List.getElem?_drop] using this
  have hyy:L0[b]?=some L0[b]:=List.getElem?_eq_getElem hb
  have hd:=h L0[b] (List.getElem_mem hb)
  have hidx:vT M (b:Int)=some L0[b]:=by simp [vT,hy]
  have hidxa:vT M (a:Int)=some (M[a]'(by omega)):=by simp [vT]
  rw [if_pos (by simp;omega),hidx,Option.bind_some,hd,Option.bind_some]
  have htk:L0.take (b+1)=L0.take b++[L0[b]]:=by rw [List.take_add_one,hyy];rfl
  cases hq:q L0[b] with
  | true =>
   refine ⟨((a:Int),((b+1:Nat):Int),M),by simp [wrap_a1 (Nat.le_trans q4 hl)],⟨a,b+1,rfl,rfl,by omega,by omega,q5,?_,?_⟩,by simp;omega⟩
   ·rw [q6,htk,List.filter_append];simp [hq]
   ·have:=congrArg (fun l=>l.drop 1) q7;simpa [List.drop_drop] using this
  | false =>
   refine ⟨(((a+1:Nat):Int),((b+1:Nat):Int),M.set a L0[b]),by simp [hidxa,wrap_a1 (Nat.le_trans q4 hl),wrap_a1 (show a≤16777216 by omega)],⟨a+1,b+1,rfl,rfl,by omega,by omega,by simpa using q5,?_,?_⟩,by simp;omega⟩
   ·rw [List.take_add_one,List.take_set_of_le (Nat.le_refl _),q6,htk,List.filter_append,List.getElem?_set_self (by omega)];simp [hq]
   ·have:=congrArg (fun l=>l.drop 1) q7
    rw [List.drop_set_of_lt (by omega)];simpa [List.drop_drop] using this
 ·left
  have hb':b=L0.length:=by omega
  rw [if_neg (by simp;omega)]
  exact ⟨_,rfl,a,rfl,by omega,q5,by rw [q6,hb',List.take_length]⟩
theorem deleteI_is {q:GItem→Bool} {del:GItem→Option Bool} {L0:List GItem} (hl:L0.length≤16777216) (h:∀ x ∈ L0,del x=some (q x)):x8 L0 del=some (L0.filter fun x=>!q x):=by
 rw [delRI_eq]
 unfold xb
 rcases idxI_is L0 0 h with ⟨e,h2⟩ | ⟨A,x,B,hL,h1,h2,e⟩
 ·rw [e]
  simp only [lp,Option.bind_some,beq_self_eq_true,if_true]
  rw [List.filter_eq_self.2 (fun x hx=>by rw [h2 x hx];rfl)]
 ·rw [e]
  have hlen:L0.length=A.length+1+B.length:=by rw [hL];simp;omega
  simp only [lp,Option.bind_some,Nat.zero_add]
  rw [if_neg (by simp <;> omega),wrap_a1 (by omega)]
  obtain ⟨s',e1,a,r1,r2,r3,r4⟩:=delI_run hl h (a0:=A.length) (b0:=A.length+1) (by omega) (by omega) (by
   rw [hL,List.take_left,List.take_append,List.take_of_length_le (by omega),show A.length+1 - A.length=1 by omega,List.filter_append]
   simp only [List.take_succ_cons,List.take_zero,List.filter_cons,h1,List.filter_nil]
   rw [List.filter_eq_self.2 (fun y hy=>by rw [h2 y hy];rfl)];simp)
  rw [e1]
  simp only [qC]
  rw [if_pos (by rw [r1];omega),r1]
  have hs:slc (s'.2.2.take ((a:Int)).toNat++List.replicate (L0.length - ((a:Int)).toNat) (GItem.mk (0:Int) (GDot.mk (GActor.mk (0:Int) (0:Int)) (0:Int)) ([]:yn))) (0:Int) (a:Int)=some (s'.2.2.take a):=by
   unfold slc
   rw [if_pos (by simp;omega)]
   simp only [Int.toNat_natCast,Int.toNat_zero,List.drop_zero]
   rw [List.take_append_of_le_length (by simp;omega),List.take_take,Nat.min_self]
  rw [hs,Option.bind_some,r4]
theorem half_mid {lo hi:Nat} (h:lo < hi) (hl:hi≤4611686018427387904):IntKind.wrap .i64 (Int.fdiv (IntKind.wrap .u64 (IntKind.wrap .i64 ((lo:Int)+(hi:Int)))) (2 ^ (min (1:Int).toNat (IntKind.bits .u64))))=(((lo+hi) / 2:Nat):Int):=by
 have e1:IntKind.wrap .i64 ((lo:Int)+(hi:Int))=((lo+hi:Nat):Int):=by rw [w64n (by omega)];omega
 have e2:IntKind.wrap .u64 (((lo+hi:Nat):Int))=((lo+hi:Nat):Int):=by rw [IntKind.wrap_u64];omega
 have e3:(2:Int) ^ (min (1:Int).toNat (IntKind.bits .u64))=2:=by decide
 rw [e1,e2,e3,Int.fdiv_eq_ediv_of_nonneg _ (by decide)]
 have e4:((lo+hi:Nat):Int) / 2=(((lo+hi) / 2:Nat):Int):=by omega
 rw [e4,w64n (by omega)]
theorem bsI_loop {cmp:GItem→GItem→Option Int} {x:List GItem} {s:GItem} {c:Nat} (hx:x.length≤1048576) (h1:∀ i n,x[i]?=some n→∃ v,cmp n s=some v∧(i < c→v < 0)∧(c≤i→0≤v)) :
  ∀ (k lo hi:Nat),hi - lo≤k→lo≤c→c≤hi→hi≤x.length→wP (ρ:=Int×Bool) (fun (s1:Int×Int)=>((if (decide (s1.1 < s1.2))=true then ((vT x (IntKind.wrap .i64 ((Int.fdiv (IntKind.wrap .u64 ((IntKind.wrap .i64 (s1.1+s1.2)))) (2 ^ (min (1:Int).toNat (IntKind.bits .u64))))))).bind fun y9=>((cmp y9 s).bind fun v10=>(if (decide (v10 < (0:Int)))=true then some (.nxt ((IntKind.wrap .i64 ((IntKind.wrap .i64 ((Int.fdiv (IntKind.wrap .u64 ((IntKind.wrap .i64 (s1.1+s1.2)))) (2 ^ (min (1:Int).toNat (IntKind.bits .u64))))))+(1:Int))),s1.2)) else some (.nxt (s1.1,(IntKind.wrap .i64 ((Int.fdiv (IntKind.wrap .u64 ((IntKind.wrap .i64 (s1.1+s1.2)))) (2 ^ (min (1:Int).toNat (IntKind.bits .u64))))))))))) else some (.brk (s1.1,s1.2))):Option (Out _ (Int×Int)))) ((lo:Int),(hi:Int))=some (.inr ((c:Int),(c:Int))):=by
 intro k
 induction k with
 | zero =>
  intro lo hi hk hl hc hh
  obtain rfl:lo=hi:=by omega
  obtain rfl:lo=c:=by omega
  rw [loopW_eq]
  simp
 | succ k ih =>
  intro lo hi hk hl hc hh
  rw [loopW_eq]
  by_cases hlt:lo < hi
  ·have hd:decide ((lo:Int) < (hi:Int))=true:=decide_eq_true (by omega)
   simp only [hd,if_true,half_mid hlt (by omega)]
   have hm:(lo+hi) / 2 < x.length:=by omega
   rw [idx_at hm,Option.bind_some]
   obtain ⟨v,hv,h2,h3⟩:=h1 ((lo+hi) / 2) _ (List.getElem?_eq_getElem hm)
   rw [hv,Option.bind_some]
   by_cases hcm:(lo+hi) / 2 < c
   ·rw [decide_eq_true (h2 hcm),if_pos rfl]
    simp only
    have e:IntKind.wrap .i64 ((((lo+hi) / 2:Nat):Int)+1)=(((lo+hi) / 2+1:Nat):Int):=by rw [w64n (by omega)];omega
    rw [e]
    exact ih _ _ (by omega) (by omega) hc hh
   ·rw [decide_eq_false (by have:=h3 (by omega);omega)]
    simp only [Bool.false_eq_true,if_false]
    exact ih _ _ (by omega) hl (by omega) (by omega)
  ·obtain rfl:lo=hi:=by omega
   obtain rfl:lo=c:=by omega
   simp
theorem bsI_is {cmp:GItem→GItem→Option Int} {x:List GItem} {s:GItem} {c:Nat} (hx:x.length≤1048576) (hc:c≤x.length) (h1:∀ i n,x[i]?=some n→∃ v,cmp n s=some v∧(i < c→v < 0)∧(c≤i→0≤v)) :
  yg x s cmp=(if c < x.length then cmp (x.getD c default) s else some 1).bind fun v=>some ((c:Int),(decide (c < x.length)&&(v==0))):=by
 unfold yg
 have:=bsI_loop hx h1 x.length 0 x.length (by omega) (Nat.zero_le _) hc (Nat.le_refl _)
 simp only [Int.natCast_zero] at this
 rw [show ((0:Int),(x.length:Int))=(((0:Nat):Int),(x.length:Int)) from rfl] at *
 rw [this]
 simp only [lp]
 by_cases h:c < x.length
 ·have hd:decide ((c:Int) < (x.length:Int))=true:=decide_eq_true (by omega)
  simp only [hd,h,if_true,Int.toNat_natCast,beq_self_eq_true,decide_true,Bool.true_and]
  rw [yH (by intro _;omega)]
 ·have hd:decide ((c:Int) < (x.length:Int))=false:=decide_eq_false (by omega)
  simp only [hd,h,if_false,decide_false,Bool.false_and,Option.bind_some]
  rw [yH (by intro hh;cases hh)]
  simp
end Go.Vv
