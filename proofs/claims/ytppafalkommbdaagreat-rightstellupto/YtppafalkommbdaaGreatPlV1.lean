/- Layer 31's lay: one leaf more, behind all others. -/
import Derived.Test.YtppafalkommbdaaGreatPlV0
namespace Go.Vv
set_option linter.unusedVariables false
set_option linter.unusedSimpArgs false
open Go
theorem half_mid {lo hi:Nat} (h:lo < hi) (hl:hi≤4611686018427387904):IntKind.wrap .i64 (Int.fdiv (IntKind.wrap .u64 (IntKind.wrap .i64 ((lo:Int)+(hi:Int)))) (2 ^ (min (1:Int).toNat (IntKind.bits .u64))))=(((lo+hi) / 2:Nat):Int):=by
 have e1:IntKind.wrap .i64 ((lo:Int)+(hi:Int))=((lo+hi:Nat):Int):=by rw [w64n (by omega)];omega
 have e2:IntKind.wrap .u64 (((lo+hi:Nat):Int))=((lo+hi:Nat):Int):=by rw [IntKind.wrap_u64];omega
 have e3:(2:Int) ^ (min (1:Int).toNat (IntKind.bits .u64))=2:=by decide
 rw [e1,e2,e3,Int.fdiv_eq_ediv_of_nonneg _ (by decide)]
 have e4:((lo+hi:Nat):Int) / 2=(((lo+hi) / 2:Nat):Int):=by omega
 rw [e4,w64n (by omega)]
theorem bs_loop {cmp:GNode→zR→Option Int} {x:List GNode} {s:zR} {c:Nat} (hx:x.length≤1048576) (h1:∀ i n,x[i]?=some n→∃ v,cmp n s=some v∧(i < c→v < 0)∧(c≤i→0≤v)) :
  ∀ (k lo hi:Nat),hi - lo≤k→lo≤c→c≤hi→hi≤x.length→wE (ρ:=Int×Bool) (fun (s1:Int×Int)=>((if (decide (s1.1 < s1.2))=true then ((vH x (IntKind.wrap .i64 ((Int.fdiv (IntKind.wrap .u64 ((IntKind.wrap .i64 (s1.1+s1.2)))) (2 ^ (min (1:Int).toNat (IntKind.bits .u64))))))).bind fun y9=>((cmp y9 s).bind fun v10=>(if (decide (v10 < (0:Int)))=true then some (.nxt ((IntKind.wrap .i64 ((IntKind.wrap .i64 ((Int.fdiv (IntKind.wrap .u64 ((IntKind.wrap .i64 (s1.1+s1.2)))) (2 ^ (min (1:Int).toNat (IntKind.bits .u64))))))+(1:Int))),s1.2)) else some (.nxt (s1.1,(IntKind.wrap .i64 ((Int.fdiv (IntKind.wrap .u64 ((IntKind.wrap .i64 (s1.1+s1.2)))) (2 ^ (min (1:Int).toNat (IntKind.bits .u64))))))))))) else some (.brk (s1.1,s1.2))):Option (Out _ (Int×Int)))) ((lo:Int),(hi:Int))=some (.inr ((c:Int),(c:Int))):=by
 intro k
 induction k with
 | zero =>
  intro lo hi hk hl hc hh
  obtain rfl:lo=hi:=by omega
  obtain rfl:lo=c:=by omega
  rw [va]
  simp
 | succ k ih =>
  intro lo hi hk hl hc hh
  rw [va]
  by_cases hlt:lo < hi
  ·have hd:decide ((lo:Int) < (hi:Int))=true:=decide_eq_true (by omega)
   simp only [hd,if_true,half_mid hlt (by omega)]
   have hm:(lo+hi) / 2 < x.length:=by omega
   rw [idx_at hm,Option.bind_some]
   obtain ⟨v,hv,h2,h3⟩:=h1 ((lo+hi) / 2) _ (List.getElem?_eq_getElem hm)
   rw [hv,Option.bind_some]
   by_cases hcm:(lo+hi) / 2 < c
   ·rw [decide_eq_true (h2 hcm),if_pos rfl]
    simp only
    have e:IntKind.wrap .i64 ((((lo+hi) / 2:Nat):Int)+1)=(((lo+hi) / 2+1:Nat):Int):=by rw [w64n (by omega)];omega
    rw [e]
    exact ih _ _ (by omega) (by omega) hc hh
   ·rw [decide_eq_false (by have:=h3 (by omega);omega)]
    simp only [Bool.false_eq_true,if_false]
    exact ih _ _ (by omega) hl (by omega) (by omega)
  ·obtain rfl:lo=hi:=by omega
   obtain rfl:lo=c:=by omega
   simp
theorem bs_is {cmp:GNode→zR→Option Int} {x:List GNode} {s:zR} {c:Nat} (hx:x.length≤1048576) (hc:c≤x.length) (h1:∀ i n,x[i]?=some n→∃ v,cmp n s=some v∧(i < c→v < 0)∧(c≤i→0≤v)) :
  yx x s cmp=(if c < x.length then cmp (x.getD c default) s else some 1).bind fun v=>some ((c:Int),(decide (c < x.length)&&(v==0))):=by
 unfold yx
 have:=bs_loop hx h1 x.length 0 x.length (by omega) (Nat.zero_le _) hc (Nat.le_refl _)
 simp only [Int.natCast_zero] at this
 rw [show ((0:Int),(x.length:Int))=(((0:Nat):Int),(x.length:Int)) from rfl] at *
 rw [this]
 simp only [lp]
 by_cases h:c < x.length
 ·have hd:decide ((c:Int) < (x.length:Int))=true:=decide_eq_true (by omega)
  simp only [hd,h,if_true,Int.toNat_natCast,beq_self_eq_true,decide_true,Bool.true_and]
  rw [zW (by intro _;omega)]
 ·have hd:decide ((c:Int) < (x.length:Int))=false:=decide_eq_false (by omega)
  simp only [hd,h,if_false,decide_false,Bool.false_and,Option.bind_some]
  rw [zW (by intro hh;cases hh)]
  simp
theorem cmp_less {a b:List UInt8}:Lib.compareBytes a b < 0 ↔ Op.bytesLess a b=true:=by
 induction a generalizing b with
 | nil=>cases b <;> simp [Lib.compareBytes,Op.bytesLess]
 | cons x a ih =>
  cases b with
  | nil=>simp [Lib.compareBytes,Op.bytesLess]
  | cons y b =>
   simp only [Lib.compareBytes,Op.bytesLess]
   by_cases h1:x < y
   ·simp [h1]
   ·by_cases h2:y < x
    ·have:¬ x=y:=by rintro rfl;exact h1 h2
     simp [h1,h2,this]
    ·have:x=y:=UInt8.le_antisymm (UInt8.not_lt.1 h2) (UInt8.not_lt.1 h1)
     simp [h1,h2,this,ih]
theorem cmp_self (a:List UInt8):Lib.compareBytes a a=0:=by
 induction a with
 | nil=>rfl
 | cons x a ih=>simp [Lib.compareBytes,ih]
theorem layC1_is (n:GNode) (s:zR):diffXlayC1 n s=some (Lib.compareBytes n.name s):=rfl
theorem bs_new {x:List GNode} {s:zR} (hx:x.length≤1048576) (h:∀ y ∈ x,Op.bytesLess y.name s=true):yx x s (fun x0 x1=>diffXlayC1 x0 x1)=some ((x.length:Int),false):=by
 rw [bs_is (c:=x.length) hx (Nat.le_refl _) fun i n hi=>⟨_,layC1_is n s,fun _=>cmp_less.2 (h n (List.mem_of_getElem? hi)),fun hc=>by have:=(List.getElem?_eq_some_iff.1 hi).1;omega⟩]
 simp
theorem bs_old {x:List GNode} {n:GNode} (hx:(x++[n]).length≤1048576) (h:∀ y ∈ x,Op.bytesLess y.name n.name=true):yx (x++[n]) n.name (fun x0 x1=>diffXlayC1 x0 x1)=some ((x.length:Int),true):=by
 rw [bs_is (c:=x.length) hx (by simp) fun i m hi=>⟨_,layC1_is m n.name,fun hc=>by
   rw [List.getElem?_append_left hc] at hi
   exact cmp_less.2 (h m (List.mem_of_getElem? hi)),fun hc=>by
   have hl:=(List.getElem?_eq_some_iff.1 hi).1
   simp only [List.length_append,List.length_cons,List.length_nil] at hl
   obtain rfl:i=x.length:=by omega
   simp at hi
   subst hi
   rw [cmp_self];exact Int.le_refl _⟩]
 have e:(x++[n]).getD x.length default=n:=by simp
 rw [if_pos (by simp),e,layC1_is,cmp_self]
 simp
theorem lay_bits {n:Nat} (h:n≤12):∃ v,mathXbitsLen (IntKind.wrap .u64 (n:Int))=some v:=by
 have:n=0 ∨ n=1 ∨ n=2 ∨ n=3 ∨ n=4 ∨ n=5 ∨ n=6 ∨ n=7 ∨ n=8 ∨ n=9 ∨ n=10 ∨ n=11 ∨ n=12:=by omega
 rcases this with rfl | rfl | rfl | rfl | rfl | rfl | rfl | rfl | rfl | rfl | rfl | rfl | rfl <;> exact ⟨_,rfl⟩
theorem ins_is {L:List GLeaf} {cmp:GLeaf→GLeaf→Option Int} (hl:L.length≤12) (h:∀ i,0 < i→i < L.length→∃ v,cmp (L.getD i default) (L.getD (i - 1) default)=some v∧0≤v) :
  xL L 0 (L.length:Int) cmp=some ():=by
 unfold xL
 have key:∀ (k i:Nat),L.length - i≤k→1≤i→wE (ρ:=Unit) (fun (s1:Int)=>((if (decide (s1 < (L.length:Int)))=true then (lp (wE (fun (s2:Unit)=>((x5 (((decide (s1 > (0:Int)))==true)=true→0≤s1∧s1 < ((L).length:Int)) ((x5 (((decide (s1 > (0:Int)))==true)=true→0≤(IntKind.wrap .i64 (s1 - (1:Int)))∧(IntKind.wrap .i64 (s1 - (1:Int))) < ((L).length:Int)) (((if ((decide (s1 > (0:Int)))==true)=true then cmp ((L).getD s1.toNat default) ((L).getD (IntKind.wrap .i64 (s1 - (1:Int))).toNat default) else some default).bind fun v30=>(if ((decide (s1 > (0:Int)))&&(decide (v30 < (0:Int))))=true then none else some (.brk ()))))))):Option (Out _ Unit))) ()) fun (s2:Unit)=>some (.nxt (IntKind.wrap .i64 (s1+(1:Int))))) else some (.brk s1)):Option (Out _ Int))) (i:Int)=some (.inr ((max i L.length:Nat):Int)):=by
  intro k
  induction k with
  | zero =>
   intro i hk hi
   rw [va]
   rw [decide_eq_false (by omega)]
   simp only [Bool.false_eq_true,if_false]
   congr 3;omega
  | succ k ih =>
   intro i hk hi
   rw [va]
   by_cases hlt:i < L.length
   ·rw [decide_eq_true (by omega:(i:Int) < (L.length:Int))]
    simp only [if_true]
    rw [va]
    have e1:decide ((i:Int) > 0)=true:=decide_eq_true (by omega)
    have e2:IntKind.wrap .i64 ((i:Int) - 1)=((i - 1:Nat):Int):=by rw [w64n (by omega)];omega
    obtain ⟨v,hv,h0⟩:=h i (by omega) hlt
    simp only [e1,e2,Int.toNat_natCast,beq_self_eq_true,if_true,hv,Option.bind_some,Bool.true_and]
    rw [zW (by intro _;omega),zW (by intro _;omega),decide_eq_false (by omega:¬ v < 0)]
    simp only [Bool.false_eq_true,if_false,wc]
    have e3:IntKind.wrap .i64 ((i:Int)+1)=((i+1:Nat):Int):=by rw [w64n (by omega)];omega
    rw [e3,ih (i+1) (by omega) (by omega)]
    congr 3;omega
   ·rw [decide_eq_false (by omega)]
    simp only [Bool.false_eq_true,if_false]
    congr 3;omega
 have e0:IntKind.wrap .i64 ((0:Int)+1)=((1:Nat):Int):=by rw [w64n (by omega)];rfl
 rw [e0,key L.length 1 (by omega) (Nat.le_refl _)]
 rfl
theorem pdq_is {L:List GLeaf} {cmp:GLeaf→GLeaf→Option Int} (hl:L.length≤12) (v:Int) (h:∀ i,0 < i→i < L.length→∃ v,cmp (L.getD i default) (L.getD (i - 1) default)=some v∧0≤v) :
  w9 L 0 (L.length:Int) v cmp=some ():=by
 unfold w9
 refine anyN_of 1 fun n hn=>?_
 obtain ⟨m,rfl⟩:∃ m,n=m+1:=⟨n - 1,by omega⟩
 simp only [wb]
 rw [va]
 have e:IntKind.wrap .i64 ((L.length:Int) - 0)=(L.length:Int):=by rw [w64n (by omega)];omega
 rw [e,decide_eq_true (by omega),if_pos rfl,ins_is hl h]
 rfl
theorem sort_is {L:List GLeaf} {cmp:GLeaf→GLeaf→Option Int} (hl:L.length≤12) (h:∀ i,0 < i→i < L.length→∃ v,cmp (L.getD i default) (L.getD (i - 1) default)=some v∧0≤v):vd L cmp=some ():=by
 unfold vd
 obtain ⟨v,hv⟩:=lay_bits hl
 rw [hv,Option.bind_some,pdq_is hl v h]
 rfl
theorem cmpU8 (a b:Int):wt a b=some (if a < b then -1 else if b < a then 1 else 0):=by
 unfold wt qg
 simp only [Option.bind_some,bne_self_eq_false,Bool.not_eq_true,Bool.false_eq_true,if_false,decide_eq_true_eq]
 by_cases h1:a < b <;> by_cases h2:b < a <;> simp [h1,h2] <;> omega
end Go.Vv
