/- Plain laws, joined. -/
import Derived.Test.YtdodjocbjapaeaaGreatPlS1
namespace Go.Vv
set_option linter.unusedVariables false
set_option linter.unusedSimpArgs false
open Go
theorem idxI_is {q:GItem→Bool} {del:GItem→Option Bool}:∀ (L:List GItem) (n:Nat),(∀ x ∈ L,del x=some (q x)) →
  (yl (fun (n1:Nat) (x1:GItem) (_:Unit)=>(((del x1).bind fun v7=>(if v7=true then some (.ret (n1:Int)) else some (.nxt ()))):Option (Out Int Unit))) L n ()=some (.inr ())∧∀ x ∈ L,q x=false) ∨
  ∃ A x B,L=A++x::B∧q x=true∧(∀ y ∈ A,q y=false)∧yl (fun (n1:Nat) (x1:GItem) (_:Unit)=>(((del x1).bind fun v7=>(if v7=true then some (.ret (n1:Int)) else some (.nxt ()))):Option (Out Int Unit))) L n ()=some (.inl ((n+A.length:Nat):Int))
 | [],n,_=>.inl ⟨rfl,by simp⟩
 | x::r,n,h=>by
  have hx:=h x (by simp);cases hq:q x with
  | true=>exact .inr ⟨[],x,r,rfl,hq,by simp,by simp [yl,hx,hq]⟩
  | false =>
   rcases idxI_is r (n+1) (fun y hy=>h y (by simp [hy])) with ⟨e,h2⟩ | ⟨A,y,B,rfl,h1,h2,e⟩
   ·refine .inl ⟨by simp only [yl,hx,hq,Option.bind_some];exact e,?_⟩;intro y hy;rcases List.mem_cons.1 hy with rfl | hy
    ·exact hq
    ·exact h2 y hy
   ·refine .inr ⟨x::A,y,B,rfl,h1,?_,?_⟩
    ·intro z hz;rcases List.mem_cons.1 hz with rfl | hz
     ·exact hq
     ·exact h2 z hz
    ·simp only [yl,hx,hq,Option.bind_some];rw [show n+(x::A).length=n+1+A.length by simp only [List.length_cons];omega];exact e
noncomputable def delI (del:GItem→Option Bool) (n:Nat):Int×Int×(List GItem)→Option (Out (List GItem) (Int×Int×(List GItem))):=fun s1=>((wR ((s1.2.2).length=n) ((if (decide (s1.2.1 < ((n:Nat):Int)))=true then ((wK s1.2.2 s1.2.1).bind fun y14=>((del y14).bind fun v15=>(if (!v15)=true then ((wK s1.2.2 s1.1).bind fun y17=>some (.nxt ((IntKind.wrap .i64 (s1.1+(1:Int))),(IntKind.wrap .i64 (s1.2.1+(1:Int))),(s1.2.2.set s1.1.toNat y14)))) else some (.nxt (s1.1,(IntKind.wrap .i64 (s1.2.1+(1:Int))),s1.2.2))))) else some (.brk (s1.1,s1.2.1,s1.2.2))))))
theorem delRI_eq (s0:List GItem) (del1:GItem→Option Bool):vP s0 del1=((we s0 del1).bind fun v1=>(if (v1==(-1:Int))=true then some s0 else (lp (wJ (delI del1 s0.length) (v1,(IntKind.wrap .i64 (v1+(1:Int))),s0)) fun (s1:Int×Int×(List GItem))=>(wR (0≤s1.1∧s1.1≤((s0.length:Nat):Int)) (((slc (s1.2.2.take s1.1.toNat++List.replicate (s0.length - s1.1.toNat) (GItem.mk (0:Int) (GDot.mk (GActor.mk (0:Int) (0:Int)) (0:Int)) ([]:zY))) (0:Int) s1.1).bind fun m19=>some m19)))))):=rfl
theorem delI_run {q:GItem→Bool} {del:GItem→Option Bool} {L0:List GItem} (hl:L0.length≤16777216) (h:∀ x ∈ L0,del x=some (q x)) {a0 b0:Nat} (h1:a0 < b0) (h2:b0≤L0.length) (h3:L0.take a0=(L0.take b0).filter fun x=>!q x) :
  ∃ s',wJ (delI del L0.length) ((a0:Int),(b0:Int),L0)=some (.inr s')∧∃ a:Nat,s'.1=(a:Int)∧a < L0.length∧s'.2.2.length=L0.length∧s'.2.2.take a=L0.filter fun x=>!q x:=by
 refine loopW_inv (f:=delI del L0.length) (fun s=>∃ a b:Nat,s.1=(a:Int)∧s.2.1=(b:Int)∧a < b∧b≤L0.length∧s.2.2.length=L0.length∧s.2.2.take a=(L0.take b).filter (fun x=>!q x)∧s.2.2.drop b=L0.drop b)
  _ (fun s=>L0.length - s.2.1.toNat) ?_ _ _ rfl ⟨a0,b0,rfl,rfl,h1,h2,rfl,h3,rfl⟩
 rintro ⟨i,j,M⟩ ⟨a,b,q1,q2,q3,q4,q5,q6,q7⟩
 simp only at q1 q2 q5 q6 q7;subst q1 q2;simp only [delI,wR,q5,if_true];by_cases hb:b < L0.length
 ·right;have hy:M[b]?=L0[b]?:=by
   have:=congrArg (fun l=>l[0]?) q7;simpa [List.getElem?_drop] using this
  have hyy:L0[b]?=some L0[b]:=List.getElem?_eq_getElem hb;have hd:=h L0[b] (List.getElem_mem hb);have hidx:wK M (b:Int)=some L0[b]:=by simp [wK,hy]
  have hidxa:wK M (a:Int)=some (M[a]'(by omega)):=by simp [wK]
  rw [if_pos (by simp;omega),hidx,Option.bind_some,hd,Option.bind_some];have htk:L0.take (b+1)=L0.take b++[L0[b]]:=by rw [List.take_add_one,hyy];rfl
  cases hq:q L0[b] with
  | true =>
   refine ⟨((a:Int),((b+1:Nat):Int),M),by simp [wrap_a1 (Nat.le_trans q4 hl)],⟨a,b+1,rfl,rfl,by omega,by omega,q5,?_,?_⟩,by simp;omega⟩
   ·rw [q6,htk,List.filter_append];simp [hq]
   ·have:=congrArg (fun l=>l.drop 1) q7;simpa [List.drop_drop] using this
  | false =>
   refine ⟨(((a+1:Nat):Int),((b+1:Nat):Int),M.set a L0[b]),by simp [hidxa,wrap_a1 (Nat.le_trans q4 hl),wrap_a1 (show a≤16777216 by omega)],⟨a+1,b+1,rfl,rfl,by omega,by omega,by simpa using q5,?_,?_⟩,by simp;omega⟩
   ·rw [List.take_add_one,List.take_set_of_le (Nat.le_refl _),q6,htk,List.filter_append,List.getElem?_set_self (by omega)];simp [hq]
   ·have:=congrArg (fun l=>l.drop 1) q7;rw [List.drop_set_of_lt (by omega)];simpa [List.drop_drop] using this
 ·left;have hb':b=L0.length:=by omega
  rw [if_neg (by simp;omega)];exact ⟨_,rfl,a,rfl,by omega,q5,by rw [q6,hb',List.take_length]⟩
theorem deleteI_is {q:GItem→Bool} {del:GItem→Option Bool} {L0:List GItem} (hl:L0.length≤16777216) (h:∀ x ∈ L0,del x=some (q x)):vP L0 del=some (L0.filter fun x=>!q x):=by
 rw [delRI_eq];unfold we;rcases idxI_is L0 0 h with ⟨e,h2⟩ | ⟨A,x,B,hL,h1,h2,e⟩
 ·rw [e];simp only [lp,Option.bind_some,beq_self_eq_true,if_true];rw [List.filter_eq_self.2 (fun x hx=>by rw [h2 x hx];rfl)]
 ·rw [e];have hlen:L0.length=A.length+1+B.length:=by rw [hL];simp;omega
  simp only [lp,Option.bind_some,Nat.zero_add];rw [if_neg (by simp <;> omega),wrap_a1 (by omega)];obtain ⟨s',e1,a,r1,r2,r3,r4⟩:=delI_run hl h (a0:=A.length) (b0:=A.length+1) (by omega) (by omega) (by
   rw [hL,List.take_left,List.take_append,List.take_of_length_le (by omega),show A.length+1 - A.length=1 by omega,List.filter_append];simp only [List.take_succ_cons,List.take_zero,List.filter_cons,h1,List.filter_nil];rw [List.filter_eq_self.2 (fun y hy=>by rw [h2 y hy];rfl)];simp)
  rw [e1];simp only [wR];rw [if_pos (by rw [r1];omega),r1];have hs:slc (s'.2.2.take ((a:Int)).toNat++List.replicate (L0.length - ((a:Int)).toNat) (GItem.mk (0:Int) (GDot.mk (GActor.mk (0:Int) (0:Int)) (0:Int)) ([]:zY))) (0:Int) (a:Int)=some (s'.2.2.take a):=by
   unfold slc;rw [if_pos (by simp;omega)];simp only [Int.toNat_natCast,Int.toNat_zero,List.drop_zero];rw [List.take_append_of_le_length (by simp;omega),List.take_take,Nat.min_self]
  rw [hs,Option.bind_some,r4]
theorem bsI_loop {cmp:GItem→GItem→Option Int} {x:List GItem} {s:GItem} {c:Nat} (hx:x.length≤1048576) (h1:∀ i n,x[i]?=some n→∃ v,cmp n s=some v∧(i < c→v < 0)∧(c≤i→0≤v)) :
  ∀ (k lo hi:Nat),hi - lo≤k→lo≤c→c≤hi→hi≤x.length→wJ (ρ:=Int×Bool) (fun (s1:Int×Int)=>((if (decide (s1.1 < s1.2))=true then ((wK x (IntKind.wrap .i64 ((Int.fdiv (IntKind.wrap .u64 ((IntKind.wrap .i64 (s1.1+s1.2)))) (2 ^ (min (1:Int).toNat (IntKind.bits .u64))))))).bind fun y9=>((cmp y9 s).bind fun v10=>(if (decide (v10 < (0:Int)))=true then some (.nxt ((IntKind.wrap .i64 ((IntKind.wrap .i64 ((Int.fdiv (IntKind.wrap .u64 ((IntKind.wrap .i64 (s1.1+s1.2)))) (2 ^ (min (1:Int).toNat (IntKind.bits .u64))))))+(1:Int))),s1.2)) else some (.nxt (s1.1,(IntKind.wrap .i64 ((Int.fdiv (IntKind.wrap .u64 ((IntKind.wrap .i64 (s1.1+s1.2)))) (2 ^ (min (1:Int).toNat (IntKind.bits .u64))))))))))) else some (.brk (s1.1,s1.2))):Option (Out _ (Int×Int)))) ((lo:Int),(hi:Int))=some (.inr ((c:Int),(c:Int))):=by
 intro k
 induction k with
 | zero =>
  intro lo hi hk hl hc hh;obtain rfl:lo=hi:=by omega
  obtain rfl:lo=c:=by omega
  rw [vH];simp
 | succ k ih =>
  intro lo hi hk hl hc hh;rw [vH];by_cases hlt:lo < hi
  ·have hd:decide ((lo:Int) < (hi:Int))=true:=decide_eq_true (by omega);simp only [hd,if_true,half_mid hlt (by omega)];have hm:(lo+hi) / 2 < x.length:=by omega
   rw [idx_at hm,Option.bind_some];obtain ⟨v,hv,h2,h3⟩:=h1 ((lo+hi) / 2) _ (List.getElem?_eq_getElem hm);rw [hv,Option.bind_some];by_cases hcm:(lo+hi) / 2 < c
   ·rw [decide_eq_true (h2 hcm),if_pos rfl];simp only;have e:IntKind.wrap .i64 ((((lo+hi) / 2:Nat):Int)+1)=(((lo+hi) / 2+1:Nat):Int):=by rw [w64n (by omega)];omega
    rw [e];exact ih _ _ (by omega) (by omega) hc hh
   ·rw [decide_eq_false (by have:=h3 (by omega);omega)];simp only [Bool.false_eq_true,if_false];exact ih _ _ (by omega) hl (by omega) (by omega)
  ·obtain rfl:lo=hi:=by omega
   obtain rfl:lo=c:=by omega
   simp
theorem bsI_is {cmp:GItem→GItem→Option Int} {x:List GItem} {s:GItem} {c:Nat} (hx:x.length≤1048576) (hc:c≤x.length) (h1:∀ i n,x[i]?=some n→∃ v,cmp n s=some v∧(i < c→v < 0)∧(c≤i→0≤v)) :
  xf x s cmp=(if c < x.length then cmp (x.getD c default) s else some 1).bind fun v=>some ((c:Int),(decide (c < x.length)&&(v==0))):=by
 unfold xf;have:=bsI_loop hx h1 x.length 0 x.length (by omega) (Nat.zero_le _) hc (Nat.le_refl _);simp only [Int.natCast_zero] at this;rw [show ((0:Int),(x.length:Int))=(((0:Nat):Int),(x.length:Int)) from rfl] at *;rw [this];simp only [lp];by_cases h:c < x.length
 ·have hd:decide ((c:Int) < (x.length:Int))=true:=decide_eq_true (by omega);simp only [hd,h,if_true,Int.toNat_natCast,beq_self_eq_true,decide_true,Bool.true_and];rw [yc (by intro _;omega)]
 ·have hd:decide ((c:Int) < (x.length:Int))=false:=decide_eq_false (by omega);simp only [hd,h,if_false,decide_false,Bool.false_and,Option.bind_some];rw [yc (by intro hh;cases hh)];simp

def dd:List GDot→List GDot
 | []=>[]
 | [x]=>[x]
 | x::y::r=>if x=y then dd (y::r) else x::dd (y::r)
theorem dd_snoc:∀ (A:List GDot) (x y:GDot),dd (A++[x,y])=if x=y then dd (A++[x]) else dd (A++[x])++[y]
 | [],x,y=>by by_cases h:x=y <;> simp [dd,h]
 | [a],x,y=>by
  by_cases h:x=y
  ·subst h;by_cases h2:a=x <;> simp [dd,h2]
  ·by_cases h2:a=x <;> simp [dd,h2,h]
 | a::b::A,x,y=>by
  have ih:=dd_snoc (b::A) x y;simp only [List.cons_append] at ih ⊢;simp only [dd];rw [ih];by_cases h:a=b <;> by_cases h2:x=y <;> simp [h,h2]
theorem dd_mem:∀ (L:List GDot) (d:GDot),d ∈ dd L ↔ d ∈ L
 | [],_=>by simp [dd]
 | [x],_=>by simp [dd]
 | x::y::r,d=>by
  simp only [dd];split
  ·rename_i h;subst h;rw [dd_mem (x::r) d];simp
  ·rw [List.mem_cons,dd_mem (y::r) d];simp
theorem dd_strict {lt:GDot→GDot→Prop} (tot:∀ a b,¬ lt b a→a=b ∨ lt a b) (tr:∀ a b c,lt a b→lt b c→lt a c):∀ (L:List GDot),L.Pairwise (fun a b=>¬ lt b a)→(dd L).Pairwise lt
 | [],_=>by simp [dd]
 | [x],_=>by simp [dd]
 | x::y::r,h=>by
  have h2:=(List.pairwise_cons.1 h).2;have ih:=dd_strict tot tr (y::r) h2;simp only [dd];split
  ·exact ih
  ·rename_i hne;refine List.pairwise_cons.2 ⟨fun z hz=>?_,ih⟩;rw [dd_mem] at hz;have hxy:lt x y:=(tot x y ((List.pairwise_cons.1 h).1 y (by simp))).resolve_left hne;rcases List.mem_cons.1 hz with rfl | hz
   ·exact hxy
   ·rcases tot y z ((List.pairwise_cons.1 h2).1 z hz) with rfl | h3
    ·exact hxy
    ·exact tr _ _ _ hxy h3
def nn (L:List GDot):Prop:=∀ i a b,L[i]?=some a→L[i+1]?=some b→a ≠ b
theorem take_snoc2 {L:List GDot} {n:Nat} {a b:GDot} (ha:L[n]?=some a) (hb:L[n+1]?=some b):L.take (n+2)=L.take n++[a,b]:=by
 rw [List.take_add_one,List.take_add_one,ha,hb];simp
theorem dd_step {L:List GDot} {n:Nat} {a b:GDot} (ha:L[n]?=some a) (hb:L[n+1]?=some b):dd (L.take (n+2))=if a=b then dd (L.take (n+1)) else dd (L.take (n+1))++[b]:=by
 rw [take_snoc2 ha hb,dd_snoc,List.take_add_one,ha];rfl
noncomputable def cmpIn (n:Nat) (s1:Int):Int×Int×(List GDot)→Option (Out (Out (List GDot) Int) (Int×Int×(List GDot))):=fun (s2:Int×Int×(List GDot))=>((wR ((s2.2.2).length=n) ((if (decide (s2.2.1 < ((n - s1.toNat:Nat):Int)))=true then ((wK (s2.2.2.drop s1.toNat) s2.2.1).bind fun y51=>((wK (s2.2.2.drop s1.toNat) (IntKind.wrap .i64 (s2.2.1 - (1:Int)))).bind fun y52=>(if (!(y51.actor.rep==y52.actor.rep&&(y51.actor.inc==y52.actor.inc&&(y51.seq==y52.seq&&true))))=true then ((wK (s2.2.2.drop s1.toNat) s2.2.1).bind fun y54=>((wK s2.2.2 s2.1).bind fun y55=>some (.nxt ((IntKind.wrap .i64 (s2.1+(1:Int))),(IntKind.wrap .i64 (s2.2.1+(1:Int))),(s2.2.2.set s2.1.toNat y54))))) else some (.nxt (s2.1,(IntKind.wrap .i64 (s2.2.1+(1:Int))),s2.2.2))))) else some (.brk (s2.1,s2.2.1,s2.2.2))))))
theorem wrap_p1 {i:Nat} (h0:0 < i) (hl:i≤9223372036854775807):(IntKind.wrap .i64 ((i:Int) - 1))=((i - 1:Nat):Int):=wrap_pred h0 hl
theorem cmpIn_run {L:List GDot} (hl:L.length≤16777216) {k0:Nat} (hk0:0 < k0) (hk:k0 < L.length) {a:GDot} (h1:L[k0 - 1]?=some a) (h2:L[k0]?=some a) (h3:dd (L.take k0)=L.take k0) :
  ∃ s',wJ (cmpIn L.length (k0:Int)) ((k0:Int),1,L)=some (.inr s')∧∃ m:Nat,s'.1=(m:Int)∧m≤L.length∧s'.2.2.length=L.length∧s'.2.2.take m=dd L:=by
 refine loopW_inv (f:=cmpIn L.length (k0:Int)) (fun s=>∃ m b:Nat,s.1=(m:Int)∧s.2.1=(b:Int)∧1≤b∧k0+b≤L.length∧m+1≤k0+b∧s.2.2.length=L.length∧s.2.2.take m=dd (L.take (k0+b))∧s.2.2.drop (k0+b - 1)=L.drop (k0+b - 1))
  _ (fun s=>L.length - s.2.1.toNat) ?_ _ _ rfl ⟨k0,1,rfl,rfl,Nat.le_refl _,by omega,by omega,rfl,?_,by simp⟩
 ·rintro ⟨i,j,M⟩ ⟨m,b,q1,q2,q3,q4,q5,q6,q7,q8⟩
  simp only at q1 q2 q6 q7 q8;subst q1 q2;simp only [cmpIn,wR,q6,if_true,Int.toNat_natCast];by_cases hb:k0+b < L.length
  ·right;have at1:∀ t,k0+b - 1≤t→M[t]?=L[t]?:=fun t ht=>by
    have:=congrArg (fun l=>l[t - (k0+b - 1)]?) q8;simp only [List.getElem?_drop] at this
    rwa [show k0+b - 1+(t - (k0+b - 1))=t by omega] at this
   have e1:L[k0+b]?=some L[k0+b]:=List.getElem?_eq_getElem hb;have hb1:k0+b - 1 < L.length:=by omega
   have e2:L[k0+b - 1]?=some (L[k0+b - 1]'hb1):=List.getElem?_eq_getElem hb1;have i1:wK (M.drop k0) (b:Int)=some L[k0+b]:=by simp only [wK,Int.toNat_natCast,List.getElem?_drop];rw [if_pos (by omega),at1 _ (by omega),e1]
   have i2:wK (M.drop k0) (IntKind.wrap .i64 ((b:Int) - 1))=some (L[k0+b - 1]'hb1):=by
    rw [wrap_p1 (by omega) (by omega)];simp only [wK,Int.toNat_natCast,List.getElem?_drop];rw [if_pos (by omega),show k0+(b - 1)=k0+b - 1 by omega,at1 _ (by omega),e2]
   have i3:wK M (m:Int)=some (M[m]'(by omega)):=by simp [wK]
   have hst:=dd_step (L:=L) (n:=k0+b - 1) e2 (by rw [show k0+b - 1+1=k0+b by omega];exact e1);rw [show k0+b - 1+2=k0+(b+1) by omega,show k0+b - 1+1=k0+b by omega] at hst;have hd1:M.drop (k0+(b+1) - 1)=L.drop (k0+(b+1) - 1):=by
    have:=congrArg (fun l=>l.drop 1) q8;simp only [List.drop_drop] at this
    rwa [show k0+b - 1+1=k0+(b+1) - 1 by omega] at this
   rw [if_pos (by simp;omega),i1,Option.bind_some,i2,Option.bind_some];rw [dotEq];by_cases he:L[k0+b]=L[k0+b - 1]'hb1
   ·refine ⟨((m:Int),((b+1:Nat):Int),M),by simp [he,wrap_a1 (show b≤16777216 by omega)],⟨m,b+1,rfl,rfl,by omega,by omega,by omega,q6,?_,hd1⟩,by simp;omega⟩;rw [hst,if_pos he.symm];exact q7
   ·refine ⟨(((m+1:Nat):Int),((b+1:Nat):Int),M.set m L[k0+b]),?_,⟨m+1,b+1,rfl,rfl,by omega,by omega,by omega,by simpa using q6,?_,?_⟩,by simp;omega⟩
    ·simp [he,i1,i3,wrap_a1 (show b≤16777216 by omega),wrap_a1 (show m≤16777216 by omega)]
    ·rw [hst,if_neg (fun e=>he e.symm),← q7,List.take_add_one,List.take_set_of_le (Nat.le_refl _),List.getElem?_set_self (by omega)];rfl
    ·rw [List.drop_set_of_lt (by omega)];exact hd1
  ·left;have hb':k0+b=L.length:=by omega
   rw [if_neg (by simp;omega)];exact ⟨_,rfl,m,rfl,by omega,q6,by rw [q7,hb',List.take_length]⟩
 ·have:=dd_step (L:=L) (n:=k0 - 1) h1 (by rw [show k0 - 1+1=k0 by omega];exact h2);rw [show k0 - 1+2=k0+1 by omega,show k0 - 1+1=k0 by omega,if_pos rfl] at this;rw [this,h3]
noncomputable def cmpOut (s0:List GDot):Int→Option (Out (List GDot) Int):=fun (s1:Int)=>((if (decide (s1 < ((s0).length:Int)))=true then ((wK s0 s1).bind fun y35=>((wK s0 (IntKind.wrap .i64 (s1 - (1:Int)))).bind fun y36=>(if (y35.actor.rep==y36.actor.rep&&(y35.actor.inc==y36.actor.inc&&(y35.seq==y36.seq&&true)))=true then (wR (0≤s1∧s1≤((s0.length:Nat):Int)) ((lp (wJ (cmpIn s0.length s1) (s1,(1:Int),s0)) fun (s2:Int×Int×(List GDot))=>(wR (0≤s2.1∧s2.1≤((s0.length:Nat):Int)) (((slc (s2.2.2.take s2.1.toNat++List.replicate (s0.length - s2.1.toNat) (GDot.mk (GActor.mk (0:Int) (0:Int)) (0:Int))) (0:Int) s2.1).bind fun m57=>some (.ret m57))))))) else some (.nxt (IntKind.wrap .i64 (s1+(1:Int))))))) else some (.brk s1)))
theorem compact_eq (s0:List GDot):qH s0=(if (decide (((s0).length:Int) < (2:Int)))=true then some s0 else (lp (wJ (cmpOut s0) (1:Int)) fun (_:Int)=>some s0)):=rfl
theorem cmpOut_run {L:List GDot} (hl:L.length≤16777216):∀ (n k:Nat),L.length - k=n→0 < k→k≤L.length→dd (L.take k)=L.take k→lp (wJ (cmpOut L) (k:Int)) (fun (_:Int)=>some L)=some (dd L):=by
 intro n
 induction n with
 | zero =>
  intro k hn h0 hk hd;have:k=L.length:=by omega
  subst this;rw [vH];simp only [cmpOut];rw [if_neg (by simp)];simp only [lp];rw [List.take_length] at hd;rw [hd]
 | succ n ih =>
  intro k hn h0 hk hd;have hlt:k < L.length:=by omega
  have e1:L[k]?=some L[k]:=List.getElem?_eq_getElem hlt;have hk1:k - 1 < L.length:=by omega
  have e2:L[k - 1]?=some (L[k - 1]'hk1):=List.getElem?_eq_getElem hk1;rw [vH];have i1:wK L (k:Int)=some L[k]:=by simp [wK]
  have i2:wK L (IntKind.wrap .i64 ((k:Int) - 1))=some (L[k - 1]'hk1):=by
   rw [wrap_p1 h0 (by omega)];simp only [wK,Int.toNat_natCast];rw [if_pos (by omega),e2]
  have hst:=dd_step (L:=L) (n:=k - 1) e2 (by rw [show k - 1+1=k by omega];exact e1);rw [show k - 1+2=k+1 by omega,show k - 1+1=k by omega] at hst;by_cases he:L[k]=L[k - 1]'hk1
  ·obtain ⟨s',r1,m,r2,r3,r4,r5⟩:=cmpIn_run hl h0 hlt (a:=L[k]) (by rw [he];exact e2) e1 hd;have hs:slc (s'.2.2.take ((m:Int)).toNat++List.replicate (L.length - ((m:Int)).toNat) (GDot.mk (GActor.mk (0:Int) (0:Int)) (0:Int))) (0:Int) (m:Int)=some (s'.2.2.take m):=by
    unfold slc;rw [if_pos (by simp;omega)];simp only [Int.toNat_natCast,Int.toNat_zero,List.drop_zero];rw [List.take_append_of_le_length (by simp;omega),List.take_take,Nat.min_self]
   have:cmpOut L (k:Int)=some (.ret (dd L)):=by
    simp only [cmpOut];rw [if_pos (by simp;omega),i1,Option.bind_some,i2,Option.bind_some,dotEq,if_pos (by simp [he])];rw [yc (by omega),r1];simp only [lp];rw [yc (by rw [r2];omega),r2,hs,Option.bind_some,r5]
   rw [this];rfl
  ·have:cmpOut L (k:Int)=some (.nxt ((k+1:Nat):Int)):=by
    simp only [cmpOut];rw [if_pos (by simp;omega),i1,Option.bind_some,i2,Option.bind_some,dotEq,if_neg (by simp [he]),wrap_a1 (by omega)]
   rw [this];refine ih (k+1) (by omega) (by omega) (by omega) ?_;rw [hst,if_neg (fun e=>he e.symm),hd,List.take_add_one,e1];rfl
theorem compact_is {L:List GDot} (hl:L.length≤16777216):qH L=some (dd L):=by
 rw [compact_eq];by_cases h:L.length < 2
 ·rw [if_pos (by simp;omega)]
  match L,h with
  | [],_=>rfl
  | [x],_=>rfl
  | _::_::_,h=>simp at h;omega
 ·rw [if_neg (by simp;omega)];have:=cmpOut_run hl (L.length - 1) 1 rfl (by omega) (by omega) (by
   match L,h with
   | x::y::r,_=>rfl
   | [],h=>simp at h
   | [x],h=>simp at h)
  exact this

theorem dlt_irr (a:GDot):dotLt a a=false:=by simp [dotLt]
theorem dlt_tr {a b c:GDot} (h1:dotLt a b=true) (h2:dotLt b c=true):dotLt a c=true:=by
 unfold dotLt at *;grind
theorem dlt_tot (a b:GDot):a=b ∨ dotLt a b=true ∨ dotLt b a=true:=by
 rcases a with ⟨⟨a1,a2⟩,a3⟩;rcases b with ⟨⟨b1,b2⟩,b3⟩
 simp only [dotLt,GDot.mk.injEq,GActor.mk.injEq];grind
theorem ilt_tr {a b c:GItem} (h1:aheadI a b=true) (h2:aheadI b c=true):aheadI a c=true:=by
 unfold aheadI dotLt at *;grind
theorem ahead_pre {α:Type} {lt:α→α→Bool} (tr:∀ a b c,lt a b=true→lt b c=true→lt a c=true) (x:α):∀ (L:List α),L.Pairwise (fun a b=>lt a b=true)→∀ (i:Nat) (y:α),L[i]?=some y→(lt y x=true ↔ i < (L.takeWhile fun y=>lt y x).length)
 | [],_,i,y,h=>by simp at h
 | z::r,hs,i,y,h=>by
  obtain ⟨h1,h2⟩:=List.pairwise_cons.1 hs;cases i with
  | zero =>
   simp only [List.getElem?_cons_zero,Option.some.injEq] at h;subst h;cases hz:lt z x <;> simp [List.takeWhile_cons,hz]
  | succ i =>
   simp only [List.getElem?_cons_succ] at h;have ih:=ahead_pre tr x r h2 i y h;cases hz:lt z x with
   | true=>simp [List.takeWhile_cons,hz,ih]
   | false =>
    simp only [List.takeWhile_cons,hz,Bool.false_eq_true,if_false,List.length_nil,Nat.not_lt_zero,iff_false];intro hy;have:=tr _ _ _ (h1 y (List.mem_of_getElem? h)) hy;rw [hz] at this;cases this
theorem take_tw {α:Type} (p:α→Bool):∀ L:List α,L.take (L.takeWhile p).length=L.takeWhile p
 | []=>rfl
 | x::r=>by cases h:p x <;> simp [List.takeWhile_cons,h,take_tw p r]
theorem drop_tw {α:Type} (p:α→Bool):∀ L:List α,L.drop (L.takeWhile p).length=L.dropWhile p
 | []=>rfl
 | x::r=>by cases h:p x <;> simp [List.takeWhile_cons,List.dropWhile_cons,h,drop_tw p r]
theorem tw_le {α:Type} (p:α→Bool):∀ L:List α,(L.takeWhile p).length≤L.length
 | []=>by simp
 | x::r=>by have:=tw_le p r;cases h:p x <;> simp [List.takeWhile_cons,h] <;> omega
theorem tw_add {α:Type} (p:α→Bool) (L:List α):(L.takeWhile p).length+(L.dropWhile p).length=L.length:=by
 rw [← List.length_append,List.takeWhile_append_dropWhile]
theorem tw_all {α:Type} (p:α→Bool):∀ (L:List α),∀ y ∈ L.takeWhile p,p y=true
 | [],y,h=>by simp at h
 | x::r,y,h=>by
  cases hx:p x with
  | true =>
   rw [List.takeWhile_cons,if_pos hx] at h;rcases List.mem_cons.1 h with rfl | h
   ·exact hx
   ·exact tw_all p r y h
  | false=>rw [List.takeWhile_cons,if_neg (by simp [hx])] at h;simp at h
theorem pw_of_next {α:Type} {lt:α→α→Prop} (tr:∀ a b c,lt a b→lt b c→lt a c):∀ (L:List α),(∀ i a b,L[i]?=some a→L[i+1]?=some b→lt a b)→L.Pairwise lt
 | [],_=>.nil
 | [x],_=>by simp
 | x::y::r,h=>by
  have ih:=pw_of_next tr (y::r) fun i a b h1 h2=>h (i+1) a b (by simpa using h1) (by simpa using h2);have h0:=h 0 x y rfl rfl;refine List.pairwise_cons.2 ⟨fun z hz=>?_,ih⟩;rcases List.mem_cons.1 hz with rfl | hz
  ·exact h0
  ·exact tr _ _ _ h0 ((List.pairwise_cons.1 ih).1 z hz)
theorem rise_pw {L:List GItem} (h:riseB L=true):L.Pairwise fun a b=>aheadI a b=true:=by
 refine pw_of_next (lt:=fun a b=>aheadI a b=true) (fun _ _ _=>ilt_tr) L fun i a b h1 h2=>?_;have:=allI_iff.1 h (i+1) b h2;simp only [Nat.succ_ne_zero,decide_false,Bool.false_or,prevI,Nat.add_sub_cancel,List.getD_eq_getElem?_getD,h1,Option.getD_some] at this;exact this
theorem rising_pw {L:List GDot} (h:rising L=true):L.Pairwise fun a b=>dotLt a b=true:=by
 rw [rising_allI] at h;refine pw_of_next (lt:=fun a b=>dotLt a b=true) (fun _ _ _=>dlt_tr) L fun i a b h1 h2=>?_;have:=allI_iff.1 h (i+1) b h2;simp only [vN,Nat.succ_ne_zero,decide_false,Bool.false_or,Nat.add_sub_cancel,List.getD_eq_getElem?_getD,h1,Option.getD_some] at this;exact this
theorem strict_ext {α:Type} {lt:α→α→Prop} (irr:∀ a,¬ lt a a) (tr:∀ a b c,lt a b→lt b c→lt a c):∀ (A B:List α),A.Pairwise lt→B.Pairwise lt→(∀ x,x ∈ A ↔ x ∈ B)→A=B
 | [],[],_,_,_=>rfl
 | [],b::B,_,_,h=>by have:=(h b).2 (by simp);simp at this
 | a::A,[],_,_,h=>by have:=(h a).1 (by simp);simp at this
 | a::A,b::B,hA,hB,h=>by
  obtain ⟨a1,a2⟩:=List.pairwise_cons.1 hA;obtain ⟨b1,b2⟩:=List.pairwise_cons.1 hB;have hab:a=b:=by
   rcases List.mem_cons.1 ((h a).1 (by simp)) with e | h1
   ·exact e
   ·rcases List.mem_cons.1 ((h b).2 (by simp)) with e | h2
    ·exact e.symm
    ·exact (irr _ (tr _ _ _ (a1 b h2) (b1 a h1))).elim
  subst hab;rw [strict_ext irr tr A B a2 b2 fun x=>?_];have hx:=h x;simp only [List.mem_cons] at hx;constructor
  ·intro h1;rcases hx.1 (.inr h1) with rfl | h2
   ·exact (irr _ (a1 _ h1)).elim
   ·exact h2
  ·intro h1;rcases hx.2 (.inr h1) with rfl | h2
   ·exact (irr _ (b1 _ h1)).elim
   ·exact h2
def layP (L:List GItem) (x:GItem):List GItem:=if (L.any fun y=>decide (y.dot=x.dot))=true then L else L.takeWhile (fun y=>aheadI y x)++([x]++L.dropWhile fun y=>aheadI y x)
def burP (L:List GDot) (d:GDot):List GDot:=if (L.any fun y=>decide (y=d))=true then L else L.takeWhile (fun y=>dotLt y d)++([d]++L.dropWhile fun y=>dotLt y d)
theorem firstI_pos {α:Type} (p:α→Bool) (L:List α):decide (firstI p L ≥ 0)=L.any p:=firstI_any p L
theorem slcT {α:Type} (L:List α) (n:Nat) (h:n≤L.length):slc L (n:Int) (L.length:Int)=some (L.drop n):=by
 unfold slc;rw [if_pos (by omega)];simp
theorem tw_loop {α:Type} {L:List α} (p:α→Bool) {f:List α×Int→Option (Out (List α) (List α×Int))} (h1:∀ (A:List α) (i:Nat) (y:α),A.length=i→L[i]?=some y→f (A,(i:Int))=if p y=true then some (.nxt (A++[y],((i+1:Nat):Int))) else some (.brk (A,(i:Int))))
  (h2:∀ A:List α,f (A,(L.length:Int))=some (.brk (A,(L.length:Int)))):∀ (n i:Nat),L.length - i=n→i≤(L.takeWhile p).length →
  wJ f (L.take i,(i:Int))=some (.inr (L.takeWhile p,((L.takeWhile p).length:Int))):=by
 intro n
 induction n with
 | zero =>
  intro i hn hi;have h2':=tw_le p L;have hi':i=L.length:=by omega
  subst hi';rw [vH,h2];have h3:(L.takeWhile p).length=L.length:=by omega
  have h4:=take_tw p L;rw [h3] at h4 ⊢;rw [h4]
 | succ n ih =>
  intro i hn hi;have hlt:i < L.length:=by omega
  have hg:L[i]?=some L[i]:=List.getElem?_eq_getElem hlt;have htk:L.takeWhile p=L.take i++(L.drop i).takeWhile p:=by
   have h1:L.take i=(L.takeWhile p).take i:=by
    conv=>lhs;rw [← List.takeWhile_append_dropWhile (p:=p) (l:=L)]
    rw [List.take_append_of_le_length hi]
   have h2:∀ y ∈ L.take i,p y=true:=by
    rw [h1];intro y hy;exact tw_all _ _ _ (List.mem_of_mem_take hy)
   conv=>lhs;rw [← List.take_append_drop i L]
   rw [List.takeWhile_append_of_pos h2]
  have hdi:L.drop i=L[i]::L.drop (i+1):=(List.getElem_cons_drop hlt).symm;have hlen:(L.take i).length=i:=by simp;omega
  rw [vH,h1 _ _ _ hlen hg];cases ha:p L[i] with
  | true =>
   simp only [if_true];have e:L.take i++[L[i]]=L.take (i+1):=by rw [List.take_add_one,hg];rfl
   rw [e];refine ih (i+1) (by omega) ?_;rw [htk,hdi,List.takeWhile_cons,if_pos ha];simp;omega
  | false =>
   simp only [Bool.false_eq_true,if_false];have e:L.takeWhile p=L.take i:=by rw [htk,hdi,List.takeWhile_cons,if_neg (by simp [ha])];simp
   rw [e,hlen]
noncomputable def layF (L:List GItem) (x:GItem):(List GItem)×Int→Option (Out (List GItem) ((List GItem)×Int)):=(fun (s1:(List GItem)×Int)=>((wR (((decide (s1.2 < ((L).length:Int)))==true)=true→0≤s1.2∧s1.2 < ((L).length:Int)) ((wR (((decide (s1.2 < ((L).length:Int)))==true)=true→0≤s1.2∧s1.2 < ((L).length:Int)) (((if ((decide (s1.2 < ((L).length:Int)))==true)=true then ref05Ahead (((L).getD s1.2.toNat default).time) (((L).getD s1.2.toNat default).dot) x.time x.dot else some default).bind fun v21=>(if ((decide (s1.2 < ((L).length:Int)))&&v21)=true then ((wK L s1.2).bind fun y23=>(wR ((s1.1).length+(([y23]:List GItem)).length≤vz) (some (.nxt ((s1.1++([y23]:List GItem)),(IntKind.wrap .i64 (s1.2+(1:Int)))))))) else some (.brk (s1.1,s1.2)))))))):Option (Out _ ((List GItem)×Int))))
theorem lay_loop {L:List GItem} (hl:L.length≤16777216) (x:GItem):wJ (layF L x) ([],0)=some (.inr (L.takeWhile (fun y=>aheadI y x),((L.takeWhile fun y=>aheadI y x).length:Int))):=by
 refine tw_loop (fun y=>aheadI y x) (f:=layF L x) (fun A i y hA hg=>?_) (fun A=>?_) L.length 0 (by omega) (Nat.zero_le _)
 ·have hlt:i < L.length:=(List.getElem?_eq_some_iff.1 hg).1;have hd:decide ((i:Int) < (L.length:Int))=true:=decide_eq_true (by omega);have hgd:L.getD i default=y:=by simp [List.getD_eq_getElem?_getD,hg]
  have hix:wK L (i:Int)=some y:=by simp [wK,hg]
  simp only [layF,hd];rw [yc (by intro _;omega),yc (by intro _;omega)];simp only [beq_self_eq_true,if_true,Int.toNat_natCast,hgd,ref05Ahead_is,Option.bind_some,Bool.true_and];have hal:(if y.time ≠ x.time then decide (y.time < x.time) else dotLt y.dot x.dot)=aheadI y x:=rfl;rw [hal];cases ha:aheadI y x with
  | true=>simp only [if_true];rw [hix,Option.bind_some,yc (by simp [vz];omega),wrap_a1 (by omega)]
  | false=>rfl
 ·have hd:decide ((L.length:Int) < (L.length:Int))=false:=decide_eq_false (by omega);simp only [layF,hd];rw [yc (by simp),yc (by simp)];simp
theorem refLay_is {L:List GItem} (hl:L.length≤16777215) (x:GItem):ref05Lay L x=some (layP L x):=by
 unfold ref05Lay;rw [ref05Item_is,Option.bind_some,firstI_pos];unfold layP;cases h:L.any fun y=>decide (y.dot=x.dot) with
 | true=>simp only [if_true];rw [yc (by simp [vz];omega)];rfl
 | false =>
  simp only [Bool.false_eq_true,if_false];have h1:=lay_loop (L:=L) (by omega) x;unfold layF at h1;have h2:=tw_le (fun y=>aheadI y x) L;have h3:=tw_add (fun y=>aheadI y x) L;rw [h1];simp only [lp];rw [yc (by simp [vz];omega),slcT _ _ h2,Option.bind_some,drop_tw,yc (by simp [vz];omega)];simp
noncomputable def burF (L:List GDot) (x:GDot):(List GDot)×Int→Option (Out (List GDot) ((List GDot)×Int)):=(fun (s1:(List GDot)×Int)=>((wR (((decide (s1.2 < ((L).length:Int)))==true)=true→0≤s1.2∧s1.2 < ((L).length:Int)) (((if ((decide (s1.2 < ((L).length:Int)))==true)=true then ref03Less ((L).getD s1.2.toNat default) x else some default).bind fun v16=>(if ((decide (s1.2 < ((L).length:Int)))&&v16)=true then ((wK L s1.2).bind fun y18=>(wR ((s1.1).length+(([y18]:List GDot)).length≤vz) (some (.nxt ((s1.1++([y18]:List GDot)),(IntKind.wrap .i64 (s1.2+(1:Int)))))))) else some (.brk (s1.1,s1.2)))))):Option (Out _ ((List GDot)×Int))))
theorem bury_loop {L:List GDot} (hl:L.length≤16777216) (x:GDot):wJ (burF L x) ([],0)=some (.inr (L.takeWhile (fun y=>dotLt y x),((L.takeWhile fun y=>dotLt y x).length:Int))):=by
 refine tw_loop (fun y=>dotLt y x) (f:=burF L x) (fun A i y hA hg=>?_) (fun A=>?_) L.length 0 (by omega) (Nat.zero_le _)
 ·have hlt:i < L.length:=(List.getElem?_eq_some_iff.1 hg).1;have hd:decide ((i:Int) < (L.length:Int))=true:=decide_eq_true (by omega);have hgd:L.getD i default=y:=by simp [List.getD_eq_getElem?_getD,hg]
  have hix:wK L (i:Int)=some y:=by simp [wK,hg]
  simp only [burF,hd];rw [yc (by intro _;omega)];simp only [beq_self_eq_true,if_true,Int.toNat_natCast,hgd,ref03Less_is,Option.bind_some,Bool.true_and];cases ha:dotLt y x with
  | true=>simp only [if_true];rw [hix,Option.bind_some,yc (by simp [vz];omega),wrap_a1 (by omega)]
  | false=>rfl
 ·have hd:decide ((L.length:Int) < (L.length:Int))=false:=decide_eq_false (by omega);simp only [burF,hd];rw [yc (by simp)];simp
theorem refBury_is {L:List GDot} (hl:L.length≤16777215) (x:GDot):ref05Bury L x=some (burP L x):=by
 unfold ref05Bury;rw [ref05Tomb_is,Option.bind_some];unfold burP;cases h:L.any fun y=>decide (y=x) with
 | true=>simp only [if_true]
 | false =>
  simp only [Bool.false_eq_true,if_false];have h1:=bury_loop (L:=L) (by omega) x;unfold burF at h1;have h2:=tw_le (fun y=>dotLt y x) L;have h3:=tw_add (fun y=>dotLt y x) L;rw [h1];simp only [lp];rw [yc (by simp [vz];omega),slcT _ _ h2,Option.bind_some,drop_tw,yc (by simp [vz];omega)];simp

theorem sortO_le {α:Type} {c:α→α→Option Int} {cf:α→α→Int} {lt:α→α→Prop} {L R:List α} (hc:∀ x ∈ L,∀ y ∈ L,c x y=some (cf x y)) (hlt:∀ x y,cf x y < 0 ↔ lt x y) (irr:∀ x,¬ lt x x) (tr:∀ x y z,lt x y→lt y z→lt x z)
  (tot:∀ x ∈ L,∀ y ∈ L,x=y ∨ lt x y ∨ lt y x) (hp:R.Perm L) (hs:R.Pairwise fun a b=>¬ lt b a) (hl:L.length≤vz):sortO c L=some R:=by
 unfold sortO;rw [if_pos (fun x hx y hy=>by rw [hc x hx y hy];rfl)];have hd:∀ x ∈ L,∀ y ∈ L,(c x y).getD 0 < 0 ↔ lt x y:=fun x hx y hy=>by rw [hc x hx y hy];exact hlt x y
 have hasym:∀ x y,lt x y→¬ lt y x:=fun x y h1 h2=>irr x (tr _ _ _ h1 h2);have hR:R.Pairwise fun a b=>¬ (c b a).getD 0 < 0:=by
  have:R.Pairwise fun a b=>a ∈ L∧b ∈ L∧¬ lt b a:=by
   refine List.Pairwise.imp_of_mem ?_ hs;intro a b ha hb h;exact ⟨hp.subset ha,hp.subset hb,h⟩
  refine this.imp ?_
  rintro a b ⟨ha,hb,h⟩ h2
  exact h ((hd b hb a ha).1 h2)
 refine sortF_of ⟨fun x hx h=>irr x ((hd x hx x hx).1 h),fun x y z hx hy hz h1 h2=>(hd x hx z hz).2 (tr _ _ _ ((hd x hx y hy).1 h1) ((hd y hy z hz).1 h2)),fun x y z hx hy hz h1 h2 h3=>?_⟩ hl ⟨hp,hR⟩ ?_
 ·have h3:=(hd x hx z hz).1 h3;rcases tot x hx y hy with rfl | h | h
  ·exact h2 ((hd _ hy z hz).2 h3)
  ·exact h1 ((hd x hx y hy).2 h)
  ·exact h2 ((hd y hy z hz).2 (tr _ _ _ h h3))
 ·rintro M ⟨hm,hM⟩
  refine sorted_one (hm.trans hp.symm) hM hR fun x y hx hy h1 h2=>?_;have hx:=hm.subset hx;have hy:=hm.subset hy;rcases tot x hx y hy with e | h | h
  ·exact e
  ·exact (h1 ((hd x hx y hy).2 h)).elim
  ·exact (h2 ((hd y hy x hx).2 h)).elim
theorem dotCmp_iff (a b:GDot):dotCmp a b < 0 ↔ dotLt a b=true:=by rw [← dotCmp_neg];simp
def srt (L:List GDot):List GDot:=L.mergeSort fun a b=>!dotLt b a
theorem srt_pw (L:List GDot):(srt L).Pairwise fun a b=>¬ dotLt b a=true:=by
 have:=List.pairwise_mergeSort (le:=fun a b=>!dotLt b a) (fun a b c h1 h2=>by
  simp only [Bool.not_eq_true'] at *;cases h:dotLt c a with
  | false=>rfl
  | true =>
   rcases dlt_tot a b with rfl | h3 | h3
   ·rw [h2] at h;cases h
   ·rw [dlt_tr h h3] at h2;cases h2
   ·rw [h1] at h3;cases h3) (fun a b=>by
  cases h:dotLt b a with
  | false=>rfl
  | true =>
   cases h2:dotLt a b with
   | false=>rfl
   | true=>have:=dlt_tr h h2;rw [dlt_irr] at this;cases this) L
 refine this.imp fun {a b} h=>?_;simpa using h
theorem srt_perm (L:List GDot):(srt L).Perm L:=List.mergeSort_perm ..
theorem sortDots_is {L:List GDot} (hl:L.length≤vz):sortO (fun x y=>dotCompare x y) L=some (srt L) :=
 sortO_le (cf:=dotCmp) (lt:=fun a b=>dotLt a b=true) (fun x _ y _=>dotCompare_is x y) dotCmp_iff (fun x=>by simp [dlt_irr]) (fun _ _ _=>dlt_tr) (fun x _ y _=>dlt_tot x y) (srt_perm L) (srt_pw L) hl
theorem bur_mem (L:List GDot) (d x:GDot):x ∈ burP L d ↔ x=d ∨ x ∈ L:=by
 unfold burP;split
 ·rename_i h;rw [List.any_eq_true] at h;obtain ⟨y,hy,e⟩:=h;have e:=of_decide_eq_true e;subst e;constructor
  ·exact .inr
  ·rintro (rfl | h)
   ·exact hy
   ·exact h
 ·have h:x ∈ L ↔ x ∈ L.takeWhile (fun y=>dotLt y d) ∨ x ∈ L.dropWhile (fun y=>dotLt y d):=by
   rw [← List.mem_append,List.takeWhile_append_dropWhile]
  rw [h];simp only [List.mem_append,List.mem_singleton];constructor
  ·rintro (h | h | h)
   ·exact .inr (.inl h)
   ·exact .inl h
   ·exact .inr (.inr h)
  ·rintro (h | h | h)
   ·exact .inr (.inl h)
   ·exact .inl h
   ·exact .inr (.inr h)
theorem dw_not {α:Type} {lt:α→α→Bool} (tr:∀ a b c,lt a b=true→lt b c=true→lt a c=true) (x:α) {L:List α} (hs:L.Pairwise (fun a b=>lt a b=true)):∀ y ∈ L.dropWhile (fun y=>lt y x),lt y x=false:=by
 intro y hy;rw [← drop_tw] at hy;obtain ⟨j,hj⟩:=List.mem_iff_getElem?.1 hy;rw [List.getElem?_drop] at hj;have:=ahead_pre tr x L hs _ y hj;cases h:lt y x with
 | false=>rfl
 | true=>have:=this.1 h;omega
theorem ins_pw {α:Type} {lt:α→α→Bool} (tr:∀ a b c,lt a b=true→lt b c=true→lt a c=true) {x:α} {L:List α} (hs:L.Pairwise (fun a b=>lt a b=true)) (hx:∀ y ∈ L,lt y x=true ∨ lt x y=true):(L.takeWhile (fun y=>lt y x)++([x]++L.dropWhile fun y=>lt y x)).Pairwise fun a b=>lt a b=true:=by
 have hsp:=hs;rw [← List.takeWhile_append_dropWhile (p:=fun y=>lt y x) (l:=L)] at hsp;obtain ⟨p1,p2,p3⟩:=List.pairwise_append.1 hsp;have hd:∀ y ∈ L.dropWhile (fun y=>lt y x),lt x y=true:=fun y hy=>by
  rcases hx y (List.dropWhile_sublist _ |>.subset hy) with h | h
  ·rw [dw_not tr x hs y hy] at h;cases h
  ·exact h
 refine List.pairwise_append.2 ⟨p1,List.pairwise_append.2 ⟨by simp,p2,fun a ha b hb=>?_⟩,fun a ha b hb=>?_⟩
 ·rw [List.mem_singleton] at ha;subst ha;exact hd b hb
 ·rcases List.mem_append.1 hb with hb | hb
  ·rw [List.mem_singleton] at hb;subst hb;exact tw_all (fun y=>lt y b) _ _ ha
  ·exact p3 a ha b hb
theorem bur_pw {L:List GDot} (d:GDot) (h:L.Pairwise fun a b=>dotLt a b=true):(burP L d).Pairwise fun a b=>dotLt a b=true:=by
 unfold burP;split
 ·exact h
 ·rename_i hn;refine ins_pw (lt:=dotLt) (fun _ _ _=>dlt_tr) h fun y hy=>?_;rcases dlt_tot y d with rfl | h1 | h1
  ·exfalso;apply hn;rw [List.any_eq_true];exact ⟨y,hy,by simp⟩
  ·exact .inl h1
  ·exact .inr h1
theorem bur_len (L:List GDot) (d:GDot):(burP L d).length≤L.length+1:=by
 unfold burP;split
 ·omega
 ·have:=tw_add (fun y=>dotLt y d) L;simp;omega
def burs (L ds:List GDot):List GDot:=ds.foldl burP L
theorem burs_mem:∀ (ds L:List GDot) (x:GDot),x ∈ burs L ds ↔ x ∈ ds ∨ x ∈ L
 | [],L,x=>by simp [burs]
 | d::ds,L,x=>by
  have:=burs_mem ds (burP L d) x;simp only [burs,List.foldl_cons] at this ⊢;rw [this,bur_mem];simp only [List.mem_cons];constructor
  ·rintro (h | h | h)
   ·exact .inl (.inr h)
   ·exact .inl (.inl h)
   ·exact .inr h
  ·rintro ((h | h) | h)
   ·exact .inr (.inl h)
   ·exact .inl h
   ·exact .inr (.inr h)
theorem burs_pw:∀ (ds:List GDot) {L:List GDot},L.Pairwise (fun a b=>dotLt a b=true)→(burs L ds).Pairwise fun a b=>dotLt a b=true
 | [],_,h=>h
 | d::ds,_,h=>burs_pw ds (bur_pw d h)
theorem burs_len:∀ (ds L:List GDot),(burs L ds).length≤L.length+ds.length
 | [],L=>by simp [burs]
 | d::ds,L=>by
  have h1:=burs_len ds (burP L d);have h2:=bur_len L d;simp only [burs,List.foldl_cons,List.length_cons] at h1 ⊢;omega
theorem burs_eq {L ds:List GDot} (h:L.Pairwise fun a b=>dotLt a b=true):dd (srt (L++ds))=burs L ds:=by
 refine strict_ext (lt:=fun a b=>dotLt a b=true) (fun a=>by simp [dlt_irr]) (fun _ _ _=>dlt_tr) _ _ (dd_strict (lt:=fun a b=>dotLt a b=true) (fun a b hn=>?_) (fun _ _ _=>dlt_tr) _ (srt_pw _)) (burs_pw ds h) fun x=>?_
 ·rcases dlt_tot a b with e | e | e
  ·exact .inl e
  ·exact .inr e
  ·exact (hn e).elim
 ·rw [dd_mem,(srt_perm _).mem_iff,burs_mem,List.mem_append];exact Or.comm
theorem layC_is (a b:GItem):∃ v,wU a b=some v∧(v < 0 ↔ aheadI a b=true):=by
 have h:=leafAhead_is a.time a.dot b.time b.dot;unfold leafAhead at h;unfold wU;cases hc:leafXcompare a.time a.dot b.time b.dot with
 | none=>rw [hc] at h;cases h
 | some v =>
  rw [hc] at h;simp only [Option.bind_some,Option.some.injEq] at h;refine ⟨v,rfl,?_⟩;have:aheadI a b=decide (v < 0):=h.symm;rw [this];simp
theorem searchI {L:List GItem} (hl:L.length≤1048576) (hs:L.Pairwise fun a b=>aheadI a b=true) (x:GItem):∃ b,xf L x (fun x0 x1=>wU x0 x1)=some (((L.takeWhile fun y=>aheadI y x).length:Int),b):=by
 have hc:=tw_le (fun y=>aheadI y x) L;have h1:∀ i n,L[i]?=some n→∃ v,wU n x=some v∧(i < (L.takeWhile fun y=>aheadI y x).length→v < 0)∧((L.takeWhile fun y=>aheadI y x).length≤i→0≤v):=fun i n hi=>by
  obtain ⟨v,e,hv⟩:=layC_is n x;have hp:=ahead_pre (lt:=aheadI) (fun _ _ _=>ilt_tr) x L hs i n hi;refine ⟨v,e,fun h=>hv.2 (hp.2 h),fun h=>?_⟩;rcases Int.lt_or_le v 0 with h2 | h2
  ·have:=hp.1 (hv.1 h2);omega
  ·exact h2
 rw [bsI_is hl hc h1];by_cases h:(L.takeWhile fun y=>aheadI y x).length < L.length
 ·rw [if_pos h];obtain ⟨v,e,_⟩:=layC_is (L.getD (L.takeWhile fun y=>aheadI y x).length default) x;rw [e];exact ⟨_,rfl⟩
 ·rw [if_neg h];exact ⟨_,rfl⟩
theorem insO_is {L:List GItem} (hl:L.length≤1048576) (x:GItem) {n:Nat} (hn:n≤L.length):insO L (n:Int) [x]=some (L.take n++([x]++L.drop n)):=by
 unfold insO;rw [if_pos ⟨⟨by omega,by omega⟩,by simp,by simp [vz];omega⟩,Int.toNat_natCast]
theorem progLay_is {L:List GItem} (hl:L.length≤1048576) (hs:L.Pairwise fun a b=>aheadI a b=true) (x:GItem) :
  ((leafXhas L x.dot).bind fun v36=>(if v36=true then some L else ((xf L x (fun x0 x1=>wU x0 x1)).bind fun v38=>((insO L v38.1 ([x]:List GItem)).bind fun v39=>some v39))))=some (layP L x):=by
 rw [leafXhas_is,Option.bind_some];unfold layP;cases h:L.any fun y=>decide (y.dot=x.dot) with
 | true=>rfl
 | false =>
  simp only [Bool.false_eq_true,if_false];obtain ⟨b,e⟩:=searchI hl hs x;rw [e,Option.bind_some,insO_is hl x (tw_le _ _),Option.bind_some,take_tw,drop_tw]
theorem containsDot_is (L:List GDot) (d:GDot):qb L d=some (L.any fun y=>decide (y=d)):=by
 unfold qb slicesIndexDot;have:=first_loop (α:=GDot) (f:=fun x=>some (decide (x=d))) (q:=fun x=>decide (x=d)) L (fun _ _=>rfl);have e:∀ (n1:Nat) (x1:GDot),(if (d.actor.rep==x1.actor.rep&&(d.actor.inc==x1.actor.inc&&(d.seq==x1.seq&&true)))=true then some (.ret (n1:Int)) else some (.nxt ()):Option (Out Int Unit))=((some (decide (x1=d)):Option Bool).bind fun v=>if v=true then some (.ret (n1:Int)) else some (.nxt ())):=fun n1 x1=>by
  rw [dotEq,Option.bind_some];have:decide (d=x1)=decide (x1=d):=decide_eq_decide.2 eq_comm;rw [this]
 simp only [e];rw [this,Option.bind_some,firstI_pos]
theorem dropC_is (x:GItem) (e:GEvent):qv x e=some (e.op.dots.any fun y=>decide (y=x.dot)):=by
 unfold qv;rw [containsDot_is];rfl

def vj (l:GLeaf) (e:GEvent):GLeaf :=
 if e.op.kind=1 then { l with n:=IntKind.wrap .i64 (l.n+e.op.n) }
 else if e.op.kind=2 then (if (decide (l.time=0) || (if l.time ≠ e.time then decide (l.time < e.time) else dotLt l.dot e.dot))=true then { l with time:=e.time,dot:=e.dot,text:=e.op.text } else l)
 else if e.op.kind=3 then (if (l.tombs.any fun y=>decide (y=e.dot))=true then l else { l with items:=layP l.items ⟨0,e.dot,e.op.text⟩ })
 else if e.op.kind=4 then { l with items:=l.items.filter (fun x=>!(e.op.dots.any fun y=>decide (y=x.dot))),tombs:=burs l.tombs e.op.dots }
 else { l with items:=layP l.items ⟨e.time,e.dot,e.op.text⟩ }
def zeroLf:GLeaf:=GLeaf.mk (0:Int) (0:Int) (0:Int) (GDot.mk (GActor.mk (0:Int) (0:Int)) (0:Int)) ([]:zY) ([]:List GItem) ([]:List GDot)
def applyW (l:GLeaf) (e:GEvent):GLeaf×Int:=if (!leafB l || !qR e)=true then (zeroLf,2) else if qT e.op.kind ≠ l.typ then (zeroLf,15) else (vj l e,0)
theorem riseB_of {l:GLeaf} (h:leafB l=true):l.items.Pairwise fun a b=>aheadI a b=true:=by
 unfold leafB at h;split at h
 ·simp only [Bool.and_eq_true,decide_eq_true_eq] at h;rw [h.1.2];exact .nil
 ·split at h
  ·simp only [Bool.and_eq_true,decide_eq_true_eq] at h;rw [h.1.1.2];exact .nil
  ·split at h
   ·simp only [Bool.and_eq_true] at h;exact rise_pw h.1.2.1.2
   ·split at h
    ·simp only [Bool.and_eq_true] at h;exact rise_pw h.2.1.2
    ·cases h
theorem tombs_of {l:GLeaf} (h:leafB l=true):l.tombs.Pairwise fun a b=>dotLt a b=true:=by
 unfold leafB at h;split at h
 ·simp only [Bool.and_eq_true,decide_eq_true_eq] at h;rw [h.2];exact .nil
 ·split at h
  ·simp only [Bool.and_eq_true,decide_eq_true_eq] at h;rw [h.1.2];exact .nil
  ·split at h
   ·simp only [Bool.and_eq_true,tombsB] at h;exact rising_pw h.2.1.2
   ·split at h
    ·simp only [Bool.and_eq_true,decide_eq_true_eq] at h;rw [h.1.2];exact .nil
    ·cases h
theorem apart_of_leaf {l:GLeaf} (h:leafB l=true):∀ x ∈ l.items,∀ d ∈ l.tombs,d ≠ x.dot:=by
 intro x hx d hd;unfold leafB at h;split at h
 ·simp only [Bool.and_eq_true,decide_eq_true_eq] at h;rw [h.2] at hd;simp at hd
 ·split at h
  ·simp only [Bool.and_eq_true,decide_eq_true_eq] at h;rw [h.1.2] at hd;simp at hd
  ·split at h
   ·simp only [Bool.and_eq_true,tombsB] at h;have:=List.all_eq_true.1 h.2.2 d hd
    rintro rfl
    simp only [Bool.not_eq_true',List.any_eq_false,decide_eq_true_eq] at this;exact this x hx rfl
   ·split at h
    ·simp only [Bool.and_eq_true,decide_eq_true_eq] at h;rw [h.1.2] at hd;simp at hd
    ·cases h
theorem kind_of {e:GEvent} (h:qR e=true):1≤e.op.kind∧e.op.kind≤5:=by
 simp only [qR,opB,Bool.and_eq_true,decide_eq_true_eq] at h;exact ⟨h.2.1.1.1.1.1,h.2.1.1.1.1.2⟩
theorem dots_of {e:GEvent} (h:qR e=true):e.op.dots.length≤64:=by
 simp only [qR,opB,Bool.and_eq_true,decide_eq_true_eq] at h;exact h.2.1.2
theorem leafApply_is {l:GLeaf} (e:GEvent) (hi:l.items.length≤1048576) (ht:l.tombs.length≤1048576):leafApply l e=some (applyW l e):=by
 unfold leafApply applyW;rw [leafMay_is (by unfold maxLen;omega) (by unfold maxLen;omega),Option.bind_some];cases hl:leafB l with
 | false=>simp [zeroLf]
 | true =>
  simp only [Bool.not_true,Bool.false_or,beq_self_eq_true,if_true,opMayEvent_is,Option.bind_some];cases he:qR e with
  | false=>simp [zeroLf]
  | true =>
   simp only [Bool.not_true,Bool.false_eq_true,if_false,opType_is,Option.bind_some];by_cases hk:qT e.op.kind=l.typ
   ·rw [if_neg (show ¬ (qT e.op.kind != l.typ)=true by simp [hk]),if_neg (show ¬ qT e.op.kind ≠ l.typ by simp [hk])];rw [cloneItem_is (by unfold vz;omega),Option.bind_some,cloneDot_is (by unfold vz;omega),Option.bind_some];unfold vj;by_cases h1:e.op.kind=1
    ·simp only [h1,if_true,Option.bind_some]
    simp only [h1,if_false];by_cases h2:e.op.kind=2
    ·simp only [h2,if_true,leafAhead_is,Option.bind_some];have e0:(l.time==(0:Int))=decide (l.time=0):=by rw [Bool.eq_iff_iff];simp
     rw [e0];cases h0:decide (l.time=0) with
     | true=>simp
     | false =>
      simp only [beq_self_eq_true,if_true,Option.bind_some,Bool.false_or];generalize (if l.time ≠ e.time then decide (l.time < e.time) else dotLt l.dot e.dot)=b;cases b <;> rfl
    simp only [h2,if_false];by_cases h3:e.op.kind=3
    ·simp only [h3,if_true,containsDot_is,Option.bind_some];have:=progLay_is hi (riseB_of hl) ⟨0,e.dot,e.op.text⟩;simp only at this;rw [this];cases l.tombs.any (fun y=>decide (y=e.dot)) <;> rfl
    simp only [h3,if_false];have hd:=dots_of he;by_cases h4:e.op.kind=4
    ·simp only [h4,if_true];rw [yc (by unfold vz;omega),sortDots_is (by simp [vz];omega),Option.bind_some,compact_is (by rw [(srt_perm _).length_eq];simp;omega),Option.bind_some,
      deleteI_is (q:=fun x=>e.op.dots.any fun y=>decide (y=x.dot)) (by omega) (fun x _=>dropC_is x e),Option.bind_some,burs_eq (tombs_of hl)]
     rfl
    simp only [h4,if_false];have h5:e.op.kind=5:=by have:=kind_of he;omega
    simp only [h5,if_true];have:=progLay_is hi (riseB_of hl) ⟨e.time,e.dot,e.op.text⟩;simp only at this;rw [this];rfl
   ·have hne:(qT e.op.kind != l.typ)=true:=by simp [hk]
    simp only [hne,if_true,hk,ne_eq,not_false_eq_true,Bool.false_eq_true,if_false,zeroLf]
theorem refTombs_fold:∀ (ds L:List GDot) (n:Nat),L.length+ds.length≤16777215→yl (fun (n1:Nat) (x1:GDot) (s1:(List GDot))=>(((ref05Bury s1 x1).bind fun v49=>some (.nxt v49)):Option (Out (GLeaf×Int) (List GDot)))) ds n L=some (.inr (burs L ds))
 | [],L,n,_=>rfl
 | d::ds,L,n,h=>by
  simp only [List.length_cons] at h;have h2:=bur_len L d;simp only [yl];rw [refBury_is (by omega),Option.bind_some];exact refTombs_fold ds (burP L d) (n+1) (by omega)
theorem refLeft_is (L:List GItem) (T:List GDot) (hl:L.length≤16777215):ref05Left L T=some (L.filter fun x=>!(T.any fun y=>decide (y=x.dot))):=by
 unfold ref05Left;have:∀ (L s:List GItem) (n:Nat),s.length+L.length≤16777215→yl (fun (n1:Nat) (x1:GItem) (s1:(List GItem))=>(((ref05Tomb T x1.dot).bind fun v12=>(if (!v12)=true then (wR ((s1).length+(([x1]:List GItem)).length≤vz) (some (.nxt (s1++([x1]:List GItem))))) else some (.nxt s1))):Option (Out (List GItem) (List GItem)))) L n s=some (.inr (s++L.filter fun x=>!(T.any fun y=>decide (y=x.dot)))):=by
  intro L
  induction L with
  | nil=>intro s n _;simp [yl]
  | cons x r ih =>
   intro s n h;simp only [List.length_cons] at h;simp only [yl,ref05Tomb_is,Option.bind_some];cases hx:T.any fun y=>decide (y=x.dot) with
   | true =>
    simp only [Bool.not_true,Bool.false_eq_true,if_false];rw [List.filter_cons,if_neg (by simp [hx])];have:=ih s (n+1) (by omega);simp only [ref05Tomb_is,Option.bind_some] at this;exact this
   | false =>
    simp only [Bool.not_false,if_true];rw [yc (by simp [vz];omega),List.filter_cons,if_pos (by simp [hx])];have:=ih (s++[x]) (n+1) (by simp;omega);simp only [ref05Tomb_is,Option.bind_some,List.append_assoc,List.singleton_append] at this;exact this
 rw [this L [] 0 (by simpa using hl)];rfl
theorem refApply_is {l:GLeaf} (e:GEvent) (hi:l.items.length≤1048576) (ht:l.tombs.length≤1048576) (h0:0≤l.time):ref05Apply l e=some (applyW l e):=by
 unfold ref05Apply applyW;rw [ref05May_is (by unfold maxLen;omega) (by unfold maxLen;omega) h0,Option.bind_some];cases hl:leafB l with
 | false=>simp [zeroLf]
 | true =>
  simp only [Bool.not_true,Bool.false_or,beq_self_eq_true,if_true,ref04MayEvent_is,Option.bind_some];cases he:qR e with
  | false=>simp [zeroLf]
  | true =>
   simp only [Bool.not_true,Bool.false_eq_true,if_false,ref04Type_is,Option.bind_some];by_cases hk:qT e.op.kind=l.typ
   ·rw [if_neg (show ¬ (qT e.op.kind != l.typ)=true by simp [hk]),if_neg (show ¬ qT e.op.kind ≠ l.typ by simp [hk])];unfold vj;by_cases h1:e.op.kind=1
    ·simp only [h1,beq_self_eq_true,if_true]
    have n1:(e.op.kind==(1:Int))=false:=by simp [h1]
    simp only [h1,n1,Bool.false_eq_true,if_false];by_cases h2:e.op.kind=2
    ·simp only [h2,beq_self_eq_true,if_true,ref05Ahead_is,Option.bind_some];have e0:(l.time==(0:Int))=decide (l.time=0):=by rw [Bool.eq_iff_iff];simp
     rw [e0];cases h0:decide (l.time=0) with
     | true=>simp
     | false =>
      simp only [beq_self_eq_true,if_true,Option.bind_some,Bool.false_or];generalize (if l.time ≠ e.time then decide (l.time < e.time) else dotLt l.dot e.dot)=b;cases b <;> rfl
    have n2:(e.op.kind==(2:Int))=false:=by simp [h2]
    simp only [h2,n2,Bool.false_eq_true,if_false];by_cases h3:e.op.kind=3
    ·simp only [h3,beq_self_eq_true,if_true,ref05Tomb_is,Option.bind_some];cases l.tombs.any (fun y=>decide (y=e.dot)) with
     | true=>rfl
     | false=>simp only [Bool.not_false,if_true,Bool.false_eq_true,if_false];rw [refLay_is (by omega)];rfl
    have n3:(e.op.kind==(3:Int))=false:=by simp [h3]
    simp only [h3,n3,Bool.false_eq_true,if_false];have hd:=dots_of he;by_cases h4:e.op.kind=4
    ·simp only [h4,beq_self_eq_true,if_true];rw [refTombs_fold _ _ _ (by omega)];simp only [lp];rw [refLeft_is _ _ (by omega),Option.bind_some];congr 3;refine List.filter_congr fun x hx=>?_;congr 1;rw [Bool.eq_iff_iff,List.any_eq_true,List.any_eq_true];constructor
     ·rintro ⟨d,hd,h⟩
      have h:=of_decide_eq_true h;rcases (burs_mem _ _ _).1 hd with h3 | h3
      ·exact ⟨d,h3,by simp [h]⟩
      ·exact (apart_of_leaf hl x hx d h3 h).elim
     ·rintro ⟨d,hd,h⟩
      exact ⟨d,(burs_mem _ _ _).2 (.inl hd),h⟩
    have n4:(e.op.kind==(4:Int))=false:=by simp [h4]
    simp only [h4,n4,Bool.false_eq_true,if_false];have h5:e.op.kind=5:=by have:=kind_of he;omega
    simp only [h5,beq_self_eq_true,if_true];rw [refLay_is (by omega)];rfl
   ·have hne:(qT e.op.kind != l.typ)=true:=by simp [hk]
    simp only [hne,if_true,hk,ne_eq,not_false_eq_true,Bool.false_eq_true,if_false,zeroLf]

end Go.Vv
