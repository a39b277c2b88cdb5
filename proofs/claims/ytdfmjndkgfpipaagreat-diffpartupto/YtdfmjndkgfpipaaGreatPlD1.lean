/- Layer 31: what is deleted, sorted, laid. -/
import Derived.Test.YtdfmjndkgfpipaaGreatPlD0
namespace Go.Vv
set_option linter.unusedVariables false
set_option linter.unusedSimpArgs false
open Go
theorem loopW_inv {σ ρ:Type} {f:σ→Option (Out ρ σ)} (inv post:σ→Prop) (μ:σ→Nat) (h:∀ s,inv s→(∃ s',f s=some (.brk s')∧post s') ∨ ∃ s',f s=some (.nxt s')∧inv s'∧μ s' < μ s):∀ (k:Nat) (s:σ),μ s=k→inv s→∃ s',qA f s=some (.inr s')∧post s':=by
 intro k
 induction k using Nat.strongRecOn with
 | _ k ih =>
  intro s hk hi
  rw [loopW_eq]
  rcases h s hi with ⟨s',e,hp⟩ | ⟨s',e,h1,h2⟩
  ·exact ⟨s',by rw [e],hp⟩
  ·rw [e];exact ih (μ s') (by omega) s' rfl h1
theorem idxF_is {q:GLeaf→Bool} {del:GLeaf→Option Bool}:∀ (L:List GLeaf) (n:Nat),(∀ x ∈ L,del x=some (q x)) →
  (zY (fun (n1:Nat) (x1:GLeaf) (_:Unit)=>(((del x1).bind fun v7=>(if v7=true then some (.ret (n1:Int)) else some (.nxt ()))):Option (Out Int Unit))) L n ()=some (.inr ())∧∀ x ∈ L,q x=false) ∨
  ∃ A x B,L=A++x::B∧q x=true∧(∀ y ∈ A,q y=false)∧zY (fun (n1:Nat) (x1:GLeaf) (_:Unit)=>(((del x1).bind fun v7=>(if v7=true then some (.ret (n1:Int)) else some (.nxt ()))):Option (Out Int Unit))) L n ()=some (.inl ((n+A.length:Nat):Int))
 | [],n,_=>.inl ⟨rfl,by simp⟩
 | x::r,n,h=>by
  have hx:=h x (by simp)
  cases hq:q x with
  | true=>exact .inr ⟨[],x,r,rfl,hq,by simp,by simp [zY,hx,hq]⟩
  | false =>
   rcases idxF_is r (n+1) (fun y hy=>h y (by simp [hy])) with ⟨e,h2⟩ | ⟨A,y,B,rfl,h1,h2,e⟩
   ·refine .inl ⟨by simp only [zY,hx,hq,Option.bind_some];exact e,?_⟩
    intro y hy;rcases List.mem_cons.1 hy with rfl | hy
    ·exact hq
    ·exact h2 y hy
   ·refine .inr ⟨x::A,y,B,rfl,h1,?_,?_⟩
    ·intro z hz;rcases List.mem_cons.1 hz with rfl | hz
     ·exact hq
     ·exact h2 z hz
    ·simp only [zY,hx,hq,Option.bind_some]
     rw [show n+(x::A).length=n+1+A.length by simp only [List.length_cons];omega];exact e
theorem wrap_a1 {a:Nat} (h:a≤16777216):IntKind.wrap .i64 ((a:Int)+1)=((a+1:Nat):Int):=wrap_add1 (Nat.le_trans (Nat.succ_le_succ h) (by decide))
noncomputable def delF (del:GLeaf→Option Bool) (n:Nat):Int×Int×(List GLeaf)→Option (Out (List GLeaf) (Int×Int×(List GLeaf))):=fun s1=>((vq ((s1.2.2).length=n) ((if (decide (s1.2.1 < ((n:Nat):Int)))=true then ((idx s1.2.2 s1.2.1).bind fun y14=>((del y14).bind fun v15=>(if (!v15)=true then ((idx s1.2.2 s1.1).bind fun y17=>some (.nxt ((IntKind.wrap .i64 (s1.1+(1:Int))),(IntKind.wrap .i64 (s1.2.1+(1:Int))),(s1.2.2.set s1.1.toNat y14)))) else some (.nxt (s1.1,(IntKind.wrap .i64 (s1.2.1+(1:Int))),s1.2.2))))) else some (.brk (s1.1,s1.2.1,s1.2.2))))))
theorem delR_eq (s0:List GLeaf) (del1:GLeaf→Option Bool):xH s0 del1=((yI s0 del1).bind fun v1=>(if (v1==(-1:Int))=true then some s0 else (lp (qA (delF del1 s0.length) (v1,(IntKind.wrap .i64 (v1+(1:Int))),s0)) fun (s1:Int×Int×(List GLeaf))=>(vq (0≤s1.1∧s1.1≤((s0.length:Nat):Int)) (((slc (s1.2.2.take s1.1.toNat++List.replicate (s0.length - s1.1.toNat) yw) (0:Int) s1.1).bind fun m19=>some m19)))))):=rfl
theorem delF_run {q:GLeaf→Bool} {del:GLeaf→Option Bool} {L0:List GLeaf} (hl:L0.length≤16777216) (h:∀ x ∈ L0,del x=some (q x)) {a0 b0:Nat} (h1:a0 < b0) (h2:b0≤L0.length) (h3:L0.take a0=(L0.take b0).filter fun x=>!q x) :
  ∃ s',qA (delF del L0.length) ((a0:Int),(b0:Int),L0)=some (.inr s')∧∃ a:Nat,s'.1=(a:Int)∧a < L0.length∧s'.2.2.length=L0.length∧s'.2.2.take a=L0.filter fun x=>!q x:=by
 refine loopW_inv (f:=delF del L0.length) (fun s=>∃ a b:Nat,s.1=(a:Int)∧s.2.1=(b:Int)∧a < b∧b≤L0.length∧s.2.2.length=L0.length∧s.2.2.take a=(L0.take b).filter (fun x=>!q x)∧s.2.2.drop b=L0.drop b)
  _ (fun s=>L0.length - s.2.1.toNat) ?_ _ _ rfl ⟨a0,b0,rfl,rfl,h1,h2,rfl,h3,rfl⟩
 rintro ⟨i,j,M⟩ ⟨a,b,q1,q2,q3,q4,q5,q6,q7⟩
 simp only at q1 q2 q5 q6 q7
 subst q1 q2
 simp only [delF,vq,q5,if_true]
 by_cases hb:b < L0.length
 ·right
  have hy:M[b]?=L0[b]?:=by
   have:=congrArg (fun l=>l[0]?) q7
   simpa [List.getElem?_drop] using this
  have hyy:L0[b]?=some L0[b]:=List.getElem?_eq_getElem hb
  have hd:=h L0[b] (List.getElem_mem hb)
  have hidx:idx M (b:Int)=some L0[b]:=by simp [idx,hy]
  have hidxa:idx M (a:Int)=some (M[a]'(by omega)):=by simp [idx]
  rw [if_pos (by simp;omega),hidx,Option.bind_some,hd,Option.bind_some]
  have htk:L0.take (b+1)=L0.take b++[L0[b]]:=by rw [List.take_add_one,hyy];rfl
  cases hq:q L0[b] with
  | true =>
   refine ⟨((a:Int),((b+1:Nat):Int),M),by simp [wrap_a1 (Nat.le_trans q4 hl)],⟨a,b+1,rfl,rfl,by omega,by omega,q5,?_,?_⟩,by simp;omega⟩
   ·rw [q6,htk,List.filter_append];simp [hq]
   ·have:=congrArg (fun l=>l.drop 1) q7;simpa [List.drop_drop] using this
  | false =>
   refine ⟨(((a+1:Nat):Int),((b+1:Nat):Int),M.set a L0[b]),by simp [hidxa,wrap_a1 (Nat.le_trans q4 hl),wrap_a1 (show a≤16777216 by omega)],⟨a+1,b+1,rfl,rfl,by omega,by omega,by simpa using q5,?_,?_⟩,by simp;omega⟩
   ·rw [List.take_add_one,List.take_set_of_le (Nat.le_refl _),q6,htk,List.filter_append,List.getElem?_set_self (by omega)];simp [hq]
   ·have:=congrArg (fun l=>l.drop 1) q7
    rw [List.drop_set_of_lt (by omega)];simpa [List.drop_drop] using this
 ·left
  have hb':b=L0.length:=by omega
  rw [if_neg (by simp;omega)]
  exact ⟨_,rfl,a,rfl,by omega,q5,by rw [q6,hb',List.take_length]⟩
theorem deleteR_is {q:GLeaf→Bool} {del:GLeaf→Option Bool} {L0:List GLeaf} (hl:L0.length≤16777216) (h:∀ x ∈ L0,del x=some (q x)):xH L0 del=some (L0.filter fun x=>!q x):=by
 rw [delR_eq]
 unfold yI
 rcases idxF_is L0 0 h with ⟨e,h2⟩ | ⟨A,x,B,hL,h1,h2,e⟩
 ·rw [e]
  simp only [lp,Option.bind_some,beq_self_eq_true,if_true]
  rw [List.filter_eq_self.2 (fun x hx=>by rw [h2 x hx];rfl)]
 ·rw [e]
  have hlen:L0.length=A.length+1+B.length:=by rw [hL];simp;omega
  simp only [lp,Option.bind_some,Nat.zero_add]
  rw [if_neg (by simp <;> omega),wrap_a1 (by omega)]
  obtain ⟨s',e1,a,r1,r2,r3,r4⟩:=delF_run hl h (a0:=A.length) (b0:=A.length+1) (by omega) (by omega) (by
   rw [hL,List.take_left,List.take_append,List.take_of_length_le (by omega),show A.length+1 - A.length=1 by omega,List.filter_append]
   simp only [List.take_succ_cons,List.take_zero,List.filter_cons,h1,List.filter_nil]
   rw [List.filter_eq_self.2 (fun y hy=>by rw [h2 y hy];rfl)];simp)
  rw [e1]
  simp only [vq]
  rw [if_pos (by rw [r1];omega),r1]
  have hs:slc (s'.2.2.take ((a:Int)).toNat++List.replicate (L0.length - ((a:Int)).toNat) yw) (0:Int) (a:Int)=some (s'.2.2.take a):=by
   unfold slc
   rw [if_pos (by simp;omega)]
   simp only [Int.toNat_natCast,Int.toNat_zero,List.drop_zero]
   rw [List.take_append_of_le_length (by simp;omega),List.take_take,Nat.min_self]
  rw [hs,Option.bind_some,r4]
end Go.Vv
namespace Go.Vv
open Go
theorem less_tot:∀ (a b:List UInt8),a=b ∨ Op.bytesLess a b=true ∨ Op.bytesLess b a=true
 | [],[]=>.inl rfl
 | [],_::_=>.inr (.inl rfl)
 | _::_,[]=>.inr (.inr rfl)
 | x::a,y::b=>by
  by_cases h:x=y
  ·subst h
   rcases less_tot a b with rfl | h | h
   ·exact .inl rfl
   ·exact .inr (.inl (by simp [Op.bytesLess,h]))
   ·exact .inr (.inr (by simp [Op.bytesLess,h]))
  ·have h':x.toNat ≠ y.toNat:=fun e=>h (UInt8.toNat_inj.1 e)
   rcases Nat.lt_or_gt_of_ne h' with h | h
   ·exact .inr (.inl (by simp [Op.bytesLess,UInt8.lt_iff_toNat_lt,h]))
   ·exact .inr (.inr (by simp [Op.bytesLess,UInt8.lt_iff_toNat_lt,h]))
def pltB:List zJ→List zJ→Bool
 | _,[]=>false
 | [],_::_=>true
 | x::a,y::b=>Op.bytesLess x y || (decide (x=y)&&pltB a b)
theorem plt_irr:∀ a,pltB a a=false
 | []=>rfl
 | x::a=>by simp [pltB,less_irr,plt_irr a]
theorem plt_trans:∀ {a b c:List zJ},pltB a b=true→pltB b c=true→pltB a c=true
 | _,[],_,h,_=>by cases ‹List zJ› <;> simp [pltB] at h
 | _,_::_,[],_,h=>by simp [pltB] at h
 | [],_::_,_::_,_,_=>rfl
 | x::a,y::b,z::c,h1,h2=>by
  simp only [pltB,Bool.or_eq_true,Bool.and_eq_true,decide_eq_true_eq] at *
  rcases h1 with h1 | ⟨rfl,h1⟩
  ·rcases h2 with h2 | ⟨rfl,h2⟩
   ·exact .inl (less_trans h1 h2)
   ·exact .inl h1
  ·rcases h2 with h2 | ⟨rfl,h2⟩
   ·exact .inl h2
   ·exact .inr ⟨rfl,plt_trans h1 h2⟩
theorem plt_tot:∀ (a b:List zJ),a=b ∨ pltB a b=true ∨ pltB b a=true
 | [],[]=>.inl rfl
 | [],_::_=>.inr (.inl rfl)
 | _::_,[]=>.inr (.inr rfl)
 | x::a,y::b=>by
  rcases less_tot x y with rfl | h | h
  ·rcases plt_tot a b with rfl | h | h
   ·exact .inl rfl
   ·exact .inr (.inl (by simp [pltB,h]))
   ·exact .inr (.inr (by simp [pltB,h]))
  ·exact .inr (.inl (by simp [pltB,h]))
  ·exact .inr (.inr (by simp [pltB,h]))
theorem plt_path:∀ {a b:List zJ},pltB a b=true→pathLt a b
 | _,[],h=>by cases ‹List zJ› <;> simp [pltB] at h
 | [],y::b,_=>.inl ⟨y,b,rfl⟩
 | x::a,y::b,h=>by
  simp only [pltB,Bool.or_eq_true,Bool.and_eq_true,decide_eq_true_eq] at h
  rcases h with h | ⟨rfl,h⟩
  ·exact .inr ⟨[],x,y,a,b,rfl,rfl,h⟩
  ·rcases plt_path h with ⟨z,q,rfl⟩ | ⟨p,u,v,a',b',rfl,rfl,h3⟩
   ·exact .inl ⟨z,q,rfl⟩
   ·exact .inr ⟨x::p,u,v,a',b',rfl,rfl,h3⟩
theorem path_plt {a b:List zJ} (h:pathLt a b):pltB a b=true:=by
 rcases h with ⟨y,q,rfl⟩ | ⟨p,x,y,a',b',rfl,rfl,h⟩
 ·induction a with
  | nil=>rfl
  | cons x a ih=>simp [pltB,ih]
 ·induction p with
  | nil=>simp [pltB,h]
  | cons x a ih=>simp [pltB,ih]
theorem cmpS_gt {x y:zJ} (h:Op.bytesLess y x=true):xn x y=some 1:=by
 have h2:Op.bytesLess x y=false:=by
  cases e:Op.bytesLess x y
  ·rfl
  ·have:=less_trans h e;rw [less_irr] at this;cases this
 unfold xn ww
 have h3:¬ x=y:=fun e=>less_ne h e.symm
 simp [h,h2,h3]
theorem cmpP_gt {a b:List zJ} (h:pathLt b a):xG a b=some 1:=by
 rw [cmpP_eq]
 rcases h with ⟨y,q,rfl⟩ | ⟨p,x,y,a',b',rfl,rfl,h⟩
 ·have:=cmp_pre (s2:=b) b (y::q) [] [] (by simp)
  rw [List.length_nil] at this
  rw [this]
  have e:cmpF b (0+b.length) y ()=some (.ret 1):=by
   unfold cmpF
   rw [if_pos (decide_eq_true (by omega))]
  simp only [zY,e,lp_inl]
 ·have:=cmp_pre (s2:=p++x::a') p (y::b') [] (x::a') rfl
  rw [List.length_nil] at this
  rw [this]
  have hx:idx (p++x::a') ((0+p.length:Nat):Int)=some x:=yO (by simp)
  have e:cmpF (p++x::a') (0+p.length) y ()=some (.ret 1):=by
   unfold cmpF
   rw [decide_eq_false (by simp only [List.length_append,List.length_cons];omega)]
   simp only [Bool.false_eq_true,if_false,hx,Option.bind_some,cmpS_gt h]
   rfl
  simp only [zY,e,lp_inl]
def Key:=List zJ×Int
def kltB (a b:Key):Bool:=pltB a.1 b.1 || (decide (a.1=b.1)&&decide (a.2 < b.2))
theorem klt_irr (a:Key):kltB a a=false:=by simp [kltB,plt_irr]
theorem klt_trans {a b c:Key} (h1:kltB a b=true) (h2:kltB b c=true):kltB a c=true:=by
 simp only [kltB,Bool.or_eq_true,Bool.and_eq_true,decide_eq_true_eq] at *
 rcases h1 with h1 | ⟨e1,h1⟩
 ·rcases h2 with h2 | ⟨e2,h2⟩
  ·exact .inl (plt_trans h1 h2)
  ·rw [e2] at h1;exact .inl h1
 ·rcases h2 with h2 | ⟨e2,h2⟩
  ·rw [← e1] at h2;exact .inl h2
  ·exact .inr ⟨e1.trans e2,by omega⟩
theorem klt_tot (a b:Key):a=b ∨ kltB a b=true ∨ kltB b a=true:=by
 obtain ⟨p,k⟩:=a;obtain ⟨q,j⟩:=b
 rcases plt_tot p q with rfl | h | h
 ·rcases Int.lt_trichotomy k j with h | rfl | h
  ·exact .inr (.inl (by simp [kltB,h]))
  ·exact .inl rfl
  ·exact .inr (.inr (by simp [kltB,h]))
 ·exact .inr (.inl (by simp [kltB,h]))
 ·exact .inr (.inr (by simp [kltB,h]))
def xS (e:GEdit):Key:=(e.path,e.typ)
def rkey (r:GRow):Key:=(r.path,r.leaf.typ)
def ordI (a b:GEdit):Int:=if kltB (xS a) (xS b)=true then -1 else if kltB (xS b) (xS a)=true then 1 else 0
theorem plt_asym {a b:List zJ} (h:pltB a b=true):pltB b a=false:=by
 cases e:pltB b a
 ·rfl
 ·have:=plt_trans h e;rw [plt_irr] at this;cases this
theorem order_is (a b:GEdit):ql a b=some (ordI a b):=by
 unfold ql ordI kltB xS
 rcases plt_tot a.path b.path with h | h | h
 ·simp only [h,cmpP_self,cmpU8is,Option.bind_some,cmpOr2_is,plt_irr,Bool.false_or,decide_true,Bool.true_and,decide_eq_true_eq,or2,cmpI]
  simp
 ·have h2:a.path ≠ b.path:=fun e=>by rw [e,plt_irr] at h;cases h
  simp only [cmpP_lt (plt_path h),cmpU8is,Option.bind_some,cmpOr2_is,h,or2]
  simp
 ·have h2:a.path ≠ b.path:=fun e=>by rw [e,plt_irr] at h;cases h
  simp only [cmpP_gt (plt_path h),cmpU8is,Option.bind_some,cmpOr2_is,h,plt_asym h,or2]
  simp [h2]
theorem ordI_lt {a b:GEdit}:ordI a b < 0 ↔ kltB (xS a) (xS b)=true:=by
 unfold ordI
 split
 ·rename_i h;simp [h]
 ·rename_i h
  split
  ·simp [h]
  ·simp [h]
theorem sortO_lt {α:Type} {c:α→α→Option Int} {cf:α→α→Int} {lt:α→α→Prop} {L R:List α} (hc:∀ x ∈ L,∀ y ∈ L,c x y=some (cf x y)) (hlt:∀ x y,cf x y < 0 ↔ lt x y) (irr:∀ x,¬ lt x x) (tr:∀ x y z,lt x y→lt y z→lt x z)
  (tot:∀ x ∈ L,∀ y ∈ L,x=y ∨ lt x y ∨ lt y x) (hp:R.Perm L) (hs:R.Pairwise lt) (hl:L.length≤qB):sortO c L=some R:=by
 unfold sortO
 rw [if_pos (fun x hx y hy=>by rw [hc x hx y hy];rfl)]
 have hd:∀ x ∈ L,∀ y ∈ L,(c x y).getD 0 < 0 ↔ lt x y:=fun x hx y hy=>by rw [hc x hx y hy];exact hlt x y
 have hasym:∀ x y,lt x y→¬ lt y x:=fun x y h1 h2=>irr x (tr _ _ _ h1 h2)
 have hR:R.Pairwise fun a b=>¬ (c b a).getD 0 < 0:=by
  have:R.Pairwise fun a b=>a ∈ L∧b ∈ L∧lt a b:=by
   refine List.Pairwise.imp_of_mem ?_ hs
   intro a b ha hb h;exact ⟨hp.subset ha,hp.subset hb,h⟩
  refine this.imp ?_
  rintro a b ⟨ha,hb,h⟩ h2
  exact hasym _ _ h ((hd b hb a ha).1 h2)
 refine sortF_of ⟨fun x hx h=>irr x ((hd x hx x hx).1 h),fun x y z hx hy hz h1 h2=>(hd x hx z hz).2 (tr _ _ _ ((hd x hx y hy).1 h1) ((hd y hy z hz).1 h2)),fun x y z hx hy hz h1 h2 h3=>?_⟩ hl ⟨hp,hR⟩ ?_
 ·have h3:=(hd x hx z hz).1 h3
  rcases tot x hx y hy with rfl | h | h
  ·exact h2 ((hd _ hy z hz).2 h3)
  ·exact h1 ((hd x hx y hy).2 h)
  ·exact h2 ((hd y hy z hz).2 (tr _ _ _ h h3))
 ·rintro M ⟨hm,hM⟩
  refine sorted_one (hm.trans hp.symm) hM hR fun x y hx hy h1 h2=>?_
  have hx:=hm.subset hx;have hy:=hm.subset hy
  rcases tot x hx y hy with e | h | h
  ·exact e
  ·exact (h1 ((hd x hx y hy).2 h)).elim
  ·exact (h2 ((hd y hy x hx).2 h)).elim
theorem exists_sorted {α:Type} {lt:α→α→Prop} (tr:∀ x y z,lt x y→lt y z→lt x z):∀ (L:List α),L.Pairwise (fun x y=>lt x y ∨ lt y x)→∃ R:List α,R.Perm L∧R.Pairwise lt
 | [],_=>⟨[],.refl _,.nil⟩
 | x::L,h=>by
  obtain ⟨h1,h2⟩:=List.pairwise_cons.1 h
  obtain ⟨R,hp,hs⟩:=exists_sorted tr L h2
  have ins:∀ (R:List α),R.Pairwise lt→(∀ y ∈ R,lt x y ∨ lt y x)→∃ Q:List α,Q.Perm (x::R)∧Q.Pairwise lt:=by
   intro R
   induction R with
   | nil=>exact fun _ _=>⟨[x],.refl _,by simp⟩
   | cons y R ih =>
    intro hs hx
    obtain ⟨s1,s2⟩:=List.pairwise_cons.1 hs
    rcases hx y (by simp) with h | h
    ·refine ⟨x::y::R,.refl _,List.pairwise_cons.2 ⟨fun z hz=>?_,hs⟩⟩
     rcases List.mem_cons.1 hz with rfl | hz
     ·exact h
     ·exact tr _ _ _ h (s1 z hz)
    ·obtain ⟨Q,q1,q2⟩:=ih s2 fun z hz=>hx z (by simp [hz])
     refine ⟨y::Q,((List.perm_cons y).2 q1).trans (.swap _ _ _),List.pairwise_cons.2 ⟨fun z hz=>?_,q2⟩⟩
     rcases List.mem_cons.1 (q1.subset hz) with rfl | hz
     ·exact h
     ·exact s1 z hz
  obtain ⟨Q,q1,q2⟩:=ins R hs fun y hy=>h1 y (hp.subset hy)
  exact ⟨Q,q1.trans ((List.perm_cons x).2 hp),q2⟩
end Go.Vv
namespace Go.Vv
open Go
theorem cmp_pos:∀ {a b:List UInt8},Op.bytesLess b a=true→0 < Lib.compareBytes a b
 | [],b,h=>by cases b <;> simp [Op.bytesLess] at h
 | _::_,[],_=>by simp [Lib.compareBytes]
 | x::a,y::b,h=>by
  simp only [Op.bytesLess,Bool.or_eq_true,Bool.and_eq_true,decide_eq_true_eq,beq_iff_eq] at h
  rcases h with h | ⟨rfl,h⟩
  ·have h':y.toNat < x.toNat:=UInt8.lt_iff_toNat_lt.1 h
   have h1:¬ x < y:=fun e=>by have:=UInt8.lt_iff_toNat_lt.1 e;omega
   simp [Lib.compareBytes,h,h1]
  ·have:=cmp_pos h
   simp [Lib.compareBytes,this]
def NLt (s:zJ) (A:List GNode):Prop:=∀ y ∈ A,Op.bytesLess y.name s=true
def NGt (s:zJ) (B:List GNode):Prop:=∀ y ∈ B,Op.bytesLess s y.name=true
theorem split_up {t:List GNode} (s:zJ) (h:upB t=true):(∃ A B,t=A++B∧NLt s A∧NGt s B) ∨ ∃ A x B,t=A++x::B∧x.name=s∧NLt s A∧NGt s B:=by
 rw [upB_iff] at h
 induction t with
 | nil=>exact .inl ⟨[],[],rfl,fun _ h=>by simp at h,fun _ h=>by simp at h⟩
 | cons x t ih =>
  obtain ⟨h1,h2⟩:=List.pairwise_cons.1 h
  rcases less_tot x.name s with e | e | e
  ·exact .inr ⟨[],x,t,rfl,e,fun _ h=>by simp at h,fun y hy=>by rw [← e];exact h1 y hy⟩
  ·rcases ih h2 with ⟨A,B,rfl,ha,hb⟩ | ⟨A,z,B,rfl,hz,ha,hb⟩
   ·refine .inl ⟨x::A,B,rfl,fun y hy=>?_,hb⟩
    rcases List.mem_cons.1 hy with rfl | hy
    ·exact e
    ·exact ha y hy
   ·refine .inr ⟨x::A,z,B,rfl,hz,fun y hy=>?_,hb⟩
    rcases List.mem_cons.1 hy with rfl | hy
    ·exact e
    ·exact ha y hy
  ·refine .inl ⟨[],x::t,rfl,fun _ h=>by simp at h,fun y hy=>?_⟩
   rcases List.mem_cons.1 hy with rfl | hy
   ·exact e
   ·exact less_trans e (h1 y hy)
theorem bs_none {A B:List GNode} {s:zJ} (hx:(A++B).length≤16777216) (ha:NLt s A) (hb:NGt s B):yc (A++B) s (fun x0 x1=>qm x0 x1)=some ((A.length:Int),false):=by
 rw [bs_is (c:=A.length) hx (by simp) fun i m hi=>⟨_,layC1_is m s,fun hc=>by
   rw [List.getElem?_append_left hc] at hi
   exact cmp_less.2 (ha m (List.mem_of_getElem? hi)),fun hc=>by
   rw [List.getElem?_append_right hc] at hi
   exact Int.le_of_lt (cmp_pos (hb m (List.mem_of_getElem? hi)))⟩]
 cases B with
 | nil=>simp
 | cons y B =>
  have e:(A++y::B).getD A.length default=y:=by simp
  have:=cmp_pos (hb y (by simp))
  rw [if_pos (by simp),e,layC1_is]
  have e2:(Lib.compareBytes y.name s==0)=false:=by simp;omega
  simp [e2]
theorem bs_some {A B:List GNode} {x:GNode} {s:zJ} (hx:(A++x::B).length≤16777216) (hs:x.name=s) (ha:NLt s A) (hb:NGt s B):yc (A++x::B) s (fun x0 x1=>qm x0 x1)=some ((A.length:Int),true):=by
 subst hs
 rw [bs_is (c:=A.length) hx (by simp) fun i m hi=>⟨_,layC1_is m x.name,fun hc=>by
   rw [List.getElem?_append_left hc] at hi
   exact cmp_less.2 (ha m (List.mem_of_getElem? hi)),fun hc=>by
   rw [List.getElem?_append_right hc] at hi
   rcases List.mem_cons.1 (List.mem_of_getElem? hi) with rfl | hm
   ·rw [cmp_self];exact Int.le_refl _
   ·exact Int.le_of_lt (cmp_pos (hb m hm))⟩]
 have e:(A++x::B).getD A.length default=x:=by simp
 rw [if_pos (by simp),e,layC1_is,cmp_self]
 simp
noncomputable def layIn (n:Nat) (path1:List zJ) (kind2:Int) (l3:GLeaf) (there4:Bool) (s1:zJ×(List GLeaf)×(List GNode)):Option (List GNode ⊕ ((List GLeaf)×(List GNode))):=((if (decide (((path1).length:Int) > (1:Int)))=true then ((slc path1 (1:Int) ((path1).length:Int)).bind fun m20=>((qx n s1.2.2 m20 kind2 l3 there4).bind fun v21=>some (.inr (s1.2.1,v21)))) else ((wu s1.2.1).bind fun v22=>((xH v22 (fun x0=>diffXlayC2 x0 kind2)).bind fun v23=>(if there4=true then ((diffXown l3).bind fun v25=>(vq ((v23).length+(([v25]:List GLeaf)).length≤qB) (((sortO (fun x y=>diffXlayC3 x y) (v23++([v25]:List GLeaf))).bind fun v27=>some (.inr (v27,s1.2.2)))))) else some (.inr (v23,s1.2.2)))))):Option (_ ⊕ ((List GLeaf)×(List GNode))))
noncomputable def layRest (t0:List GNode) (i:Int) (f:Bool) (nm:zJ) (s2:(List GLeaf)×(List GNode)):Option (List GNode):=((slc t0 (0:Int) i).bind fun m28=>((wA m28).bind fun v29=>(if (decide ((IntKind.wrap .i64 (((s2.1).length:Int)+((s2.2).length:Int))) > (0:Int)))=true then (vq ((v29).length+(([(GNode.mk nm s2.1 s2.2)]:List GNode)).length≤qB) ((if f=true then ((slc t0 (IntKind.wrap .i64 (i+(1:Int))) ((t0).length:Int)).bind fun m35=>(vq (((v29++([(GNode.mk nm s2.1 s2.2)]:List GNode))).length+(m35).length≤qB) (some ((v29++([(GNode.mk nm s2.1 s2.2)]:List GNode))++m35)))) else ((slc t0 i ((t0).length:Int)).bind fun m37=>(vq (((v29++([(GNode.mk nm s2.1 s2.2)]:List GNode))).length+(m37).length≤qB) (some ((v29++([(GNode.mk nm s2.1 s2.2)]:List GNode))++m37))))))) else (if f=true then ((slc t0 (IntKind.wrap .i64 (i+(1:Int))) ((t0).length:Int)).bind fun m40=>(vq ((v29).length+(m40).length≤qB) (some (v29++m40)))) else ((slc t0 i ((t0).length:Int)).bind fun m42=>(vq ((v29).length+(m42).length≤qB) (some (v29++m42))))))))
theorem layN_eq (n:Nat) (t0:List GNode) (path1:List zJ) (kind2:Int) (l3:GLeaf) (there4:Bool):qx (n+1) t0 path1 kind2 l3 there4=((idx path1 (0:Int)).bind fun y1=>((yc t0 y1 (fun x0 x1=>qm x0 x1)).bind fun v2=>((idx path1 (0:Int)).bind fun y3=>(lp ((if v2.2=true then ((idx t0 v2.1).bind fun y7=>some (.inr (y7.name,y7.leaves,y7.subs))) else some (.inr (y3,([]:List GLeaf),([]:List GNode)))):Option (_ ⊕ (zJ×(List GLeaf)×(List GNode)))) fun (s1:zJ×(List GLeaf)×(List GNode))=>(lp (layIn n path1 kind2 l3 there4 s1) fun (s2:(List GLeaf)×(List GNode))=>layRest t0 v2.1 v2.2 s1.1 s2))))):=rfl
def layLs (k:Int) (l:GLeaf) (there:Bool) (ls:List GLeaf):List GLeaf:=if there=true then ls.filter (fun x=>decide (x.typ < k))++[l]++ls.filter (fun x=>decide (k < x.typ)) else ls.filter (fun x=>!decide (x.typ=k))
theorem ups_inj {ls:List GLeaf} (h:ls.Pairwise fun x y=>x.typ < y.typ) {x y:GLeaf} (hx:x ∈ ls) (hy:y ∈ ls) (e:x.typ=y.typ):x=y:=by
 induction ls with
 | nil=>simp at hx
 | cons z r ih =>
  obtain ⟨h1,h2⟩:=List.pairwise_cons.1 h
  rcases List.mem_cons.1 hx with ex | hx' <;> rcases List.mem_cons.1 hy with ey | hy'
  ·rw [ex,ey]
  ·have:=h1 y hy';rw [← ex] at this;omega
  ·have:=h1 x hx';rw [← ey] at this;omega
  ·exact ih h2 hx' hy'
theorem layLs_up {k:Int} {l:GLeaf} {there:Bool} {ls:List GLeaf} (hk:there=true→l.typ=k) (h:ls.Pairwise fun x y=>x.typ < y.typ):(layLs k l there ls).Pairwise fun x y=>x.typ < y.typ:=by
 unfold layLs
 split
 ·rename_i ht
  have hk:=hk ht
  rw [List.pairwise_append,List.pairwise_append]
  refine ⟨⟨h.filter _,by simp,fun x hx y hy=>?_⟩,h.filter _,fun x hx y hy=>?_⟩
  ·have hx:=(List.mem_filter.1 hx).2;simp at hx hy;subst hy;omega
  ·have hy:=(List.mem_filter.1 hy).2;simp at hy
   rcases List.mem_append.1 hx with hx | hx
   ·have hx:=(List.mem_filter.1 hx).2;simp at hx;omega
   ·simp at hx;subst hx;omega
 ·exact h.filter _
theorem sortLs_is {k:Int} {l:GLeaf} {ls:List GLeaf} (hk:l.typ=k) (hl:ls.length≤16777216) (h:ls.Pairwise fun x y=>x.typ < y.typ):sortO (fun x y=>diffXlayC3 x y) (ls.filter (fun x=>!decide (x.typ=k))++[l])=some (layLs k l true ls):=by
 have hf:=List.length_filter_le (fun x:GLeaf=>!decide (x.typ=k)) ls
 refine sortO_lt (α:=GLeaf) (cf:=fun x y=>cmpI x.typ y.typ) (lt:=fun x y=>x.typ < y.typ) (fun x _ y _=>by unfold diffXlayC3;rw [cmpU8is];rfl) (fun x y=>by unfold cmpI;split <;> (try split) <;> omega) (fun x h=>by omega) (fun x y z h1 h2=>by omega) ?_ ?_ (layLs_up (fun _=>hk) h) (qk (by simp;omega))
 ·intro x hx y hy
  rcases Int.lt_trichotomy x.typ y.typ with e | e | e
  ·exact .inr (.inl e)
  ·left
   rcases List.mem_append.1 hx with hx | hx <;> rcases List.mem_append.1 hy with hy | hy
   ·exact ups_inj h (List.mem_filter.1 hx).1 (List.mem_filter.1 hy).1 e
   ·have hx:=(List.mem_filter.1 hx).2;simp at hx hy;subst hy;omega
   ·have hy:=(List.mem_filter.1 hy).2;simp at hx hy;subst hx;omega
   ·simp at hx hy;rw [hx,hy]
  ·exact .inr (.inr e)
 ·unfold layLs
  rw [if_pos rfl]
  have h1:(ls.filter (fun x=>decide (x.typ < k))++ls.filter (fun x=>decide (k < x.typ))).Perm (ls.filter fun x=>!decide (x.typ=k)):=by
   have:=List.filter_append_perm (fun x:GLeaf=>decide (x.typ < k)) (ls.filter fun x=>!decide (x.typ=k))
   rw [List.filter_filter,List.filter_filter] at this
   refine List.Perm.trans (.of_eq ?_) this
   congr 1 <;> refine List.filter_congr fun x _=>?_ <;> rw [Bool.eq_iff_iff] <;> simp <;> omega
  rw [List.append_assoc]
  refine List.Perm.trans (List.Perm.append_left _ List.perm_append_comm) ?_
  rw [← List.append_assoc]
  exact h1.append_right _
theorem layIn_leaf {n:Nat} {s:zJ} {k:Int} {l:GLeaf} {there:Bool} {nm:zJ} {ls:List GLeaf} {sb:List GNode} (hk:there=true→l.typ=k∧LeafOk l) (hl:ls.length≤16777216) (h:ls.Pairwise fun x y=>x.typ < y.typ) :
  layIn n [s] k l there (nm,ls,sb)=some (.inr (layLs k l there ls,sb)):=by
 unfold layIn
 have e1:decide (((([s]:List zJ).length:Int)) > 1)=false:=rfl
 have hf:=List.length_filter_le (fun x:GLeaf=>!decide (x.typ=k)) ls
 simp only [e1,Bool.false_eq_true,if_false]
 rw [cloneLeaf_is (qk (by omega)),Option.bind_some,deleteR_is (q:=fun x=>decide (x.typ=k)) hl (fun x _=>by unfold diffXlayC2;rfl),Option.bind_some]
 cases there with
 | false=>simp [layLs]
 | true =>
  obtain ⟨h1,h2⟩:=hk rfl
  simp only [if_true]
  rw [own_is h2,Option.bind_some,yB (qk (by simp;omega)),sortLs_is h1 hl h,Option.bind_some]
theorem layIn_sub {n:Nat} {s a:zJ} {r:List zJ} {k:Int} {l:GLeaf} {there:Bool} {nm:zJ} {ls:List GLeaf} {sb sb':List GNode} (hr:(s::a::r).length≤16777216) (h:qx n sb (a::r) k l there=some sb'):layIn n (s::a::r) k l there (nm,ls,sb)=some (.inr (ls,sb')):=by
 unfold layIn
 have e1:decide ((((s::a::r).length:Int)) > 1)=true:=decide_eq_true (by simp only [List.length_cons];omega)
 simp only [e1,if_true]
 rw [slc_at ⟨by omega,by simp only [List.length_cons];omega,Int.le_refl _⟩,Option.bind_some]
 have e2:((s::a::r).take (((s::a::r).length:Int)).toNat).drop (1:Int).toNat=a::r:=by rw [Int.toNat_natCast,List.take_length];rfl
 rw [e2,h,Option.bind_some]
def fitN (nm:zJ) (ls:List GLeaf) (sb:List GNode):List GNode:=if ls.length+sb.length=0 then [] else [⟨nm,ls,sb⟩]
theorem layRest_is {A B:List GNode} {m:List GNode} {nm:zJ} {ls:List GLeaf} {sb:List GNode} {f:Bool} (hm:m.length=if f=true then 1 else 0) (ht:(A++m++B).length≤16777216) (h1:ls.length≤16777216) (h2:sb.length≤16777217) :
  layRest (A++m++B) (A.length:Int) f nm (ls,sb)=some (A++fitN nm ls sb++B):=by
 simp only [List.length_append] at ht
 unfold layRest
 rw [slc_at ⟨Int.le_refl _,by omega,by simp;omega⟩,Option.bind_some]
 have e1:((A++m++B).take ((A.length:Int)).toNat).drop (0:Int).toNat=A:=by simp
 rw [e1,cloneNode_is (qk (by omega)),Option.bind_some]
 have e3:∀ (c:List GNode),c.length≤A.length+1→((if f=true then ((slc (A++m++B) (IntKind.wrap .i64 ((A.length:Int)+(1:Int))) ((A++m++B).length:Int)).bind fun m35=>(vq (c.length+(m35).length≤qB) (some (c++m35)))) else ((slc (A++m++B) (A.length:Int) ((A++m++B).length:Int)).bind fun m37=>(vq (c.length+(m37).length≤qB) (some (c++m37))))):Option (List GNode))=some (c++B):=by
  intro c hc
  cases f with
  | true =>
   simp only [if_true] at hm ⊢
   rw [w64n (by omega),slc_at ⟨by omega,by simp;omega,Int.le_refl _⟩,Option.bind_some]
   have e:((A++m++B).take (((A++m++B).length:Int)).toNat).drop ((A.length:Int)+1).toNat=B:=by
    rw [Int.toNat_natCast,List.take_length,show ((A.length:Int)+1).toNat=(A++m).length by simp;omega,List.drop_left]
   rw [e,yB (qk (by omega))]
  | false =>
   simp only [Bool.false_eq_true,if_false] at hm ⊢
   obtain rfl:=List.eq_nil_of_length_eq_zero hm
   rw [slc_at ⟨by omega,by simp;omega,Int.le_refl _⟩,Option.bind_some]
   have e:((A++[]++B).take (((A++[]++B).length:Int)).toNat).drop ((A.length:Int)).toNat=B:=by
    simp only [Int.toNat_natCast]
    rw [List.take_length,List.append_nil,List.drop_left]
   rw [e,yB (qk (by omega))]
 unfold fitN
 have e5:IntKind.wrap .i64 ((ls.length:Int)+(sb.length:Int))=(ls.length:Int)+(sb.length:Int):=w64n (by omega)
 simp only [e5]
 by_cases h0:ls.length+sb.length=0
 ·rw [if_pos h0,if_neg (by simp;omega),List.append_nil]
  exact e3 A (by omega)
 ·rw [if_neg h0,if_pos (by simp;omega),yB (qk (by simp;omega))]
  exact e3 (A++[⟨nm,ls,sb⟩]) (by simp)
end Go.Vv
namespace Go.Vv
open Go
theorem leaves_of {ls:List GLeaf} (h:ls.Pairwise fun x y=>x.typ < y.typ) (hb:∀ l ∈ ls,leafB l=true):leavesB ls=true:=by
 unfold leavesB
 rw [allI_iff]
 intro i x hx
 have h1:=hb x (List.mem_of_getElem? hx)
 simp only [h1,Bool.true_and]
 rcases i with _ | i
 ·rfl
 ·obtain ⟨hi,rfl⟩:=List.getElem?_eq_some_iff.1 hx
  have:=List.pairwise_iff_getElem.1 h i (i+1) (by omega) hi (by omega)
  simp only [Nat.add_sub_cancel,Bool.or_eq_true,decide_eq_true_eq]
  right
  rw [List.getD_eq_getElem?_getD,List.getElem?_eq_getElem (by omega:i < ls.length)];exact this
theorem qS (a:List zJ) (A B:List GNode):zO a (A++B)=zO a A++zO a B:=by rw [xz,xz,xz,List.flatMap_append]
theorem rowsN_mem {a:List zJ} {x:GNode} {r:GRow}:r ∈ rowsN a x ↔ (∃ l ∈ x.leaves,r=⟨a++[x.name],l⟩) ∨ r ∈ zO (a++[x.name]) x.subs:=by
 rw [xI,List.mem_append,List.mem_map]
 constructor
 ·rintro (⟨l,h1,rfl⟩ | h)
  ·exact .inl ⟨l,h1,rfl⟩
  ·exact .inr h
 ·rintro (⟨l,h1,rfl⟩ | h)
  ·exact .inl ⟨l,h1,rfl⟩
  ·exact .inr h
theorem rows_one {a:List zJ} {x:GNode}:zO a [x]=rowsN a x:=by simp [zO]
theorem fit_mem {a:List zJ} {nm:zJ} {ls:List GLeaf} {sb:List GNode} {r:GRow}:r ∈ zO a (fitN nm ls sb) ↔ (∃ l ∈ ls,r=⟨a++[nm],l⟩) ∨ r ∈ zO (a++[nm]) sb:=by
 unfold fitN
 split
 ·rename_i h
  have h1:ls=[]:=List.eq_nil_of_length_eq_zero (by omega)
  have h2:sb=[]:=List.eq_nil_of_length_eq_zero (by omega)
  subst h1 h2;simp [zO]
 ·rw [rows_one,rowsN_mem]
theorem len_rows (t:List GNode) (a b:List zJ):(zO a t).length=(zO b t).length:=by
 have h1:=rows_pre t a []
 have h2:=rows_pre t b []
 rw [List.append_nil] at h1 h2
 rw [h1,h2,List.length_map,List.length_map]
theorem node_row:∀ (t:List GNode) (d:Nat),wN d t=true→t.length≤(zO [] t).length:=by
 refine wW (fun _ _=>Nat.zero_le _) ?_
 intro x r hx hr d hn
 simp only [wN,Bool.and_eq_true] at hn
 have h1:=hr d hn.2
 have h2:=hn.1
 rw [nodeB_eq] at h2
 simp only [Bool.and_eq_true,treeB,Bool.not_eq_true',Bool.and_eq_false_iff] at h2
 have h3:=hx (d+1) h2.1.2.2
 rw [show x::r=[x]++r from rfl,qS,rows_one,xI]
 simp only [List.length_append,List.length_map,List.length_cons,List.length_nil]
 rw [len_rows x.subs ([]++[x.name]) []]
 rcases h2.1.1.2 with h | h
 ·cases hl:x.leaves with
  | nil=>rw [hl] at h;cases h
  | cons l ls=>simp only [List.length_cons];omega
 ·cases hl:x.subs with
  | nil=>rw [hl] at h;cases h
  | cons l ls=>rw [hl] at h3;simp only [List.length_cons] at h3;omega
theorem mem_rows_len {t:List GNode} {x:GNode} (hx:x ∈ t):x.leaves.length+(zO [] x.subs).length≤(zO [] t).length:=by
 obtain ⟨A,B,rfl⟩:=List.append_of_mem hx
 rw [qS,show x::B=[x]++B from rfl,qS,rows_one,xI]
 simp only [List.length_append,List.length_map]
 rw [len_rows x.subs ([]++[x.name]) []]
 omega
theorem yT {d:Nat} {t:List GNode} (h:treeB d t=true):upB t=true∧∀ x ∈ t,nodeB d x=true:=by
 simp only [treeB,Bool.and_eq_true,vP,List.all_eq_true] at h
 exact ⟨h.1.2,h.2⟩
theorem treeB_of {d:Nat} {t:List GNode} (hd:d < 3) (h1:upB t=true) (h2:∀ x ∈ t,nodeB d x=true):treeB d t=true:=by
 simp only [treeB,Bool.and_eq_true,vP,List.all_eq_true,h1,hd,decide_true,Bool.or_true,true_and]
 exact h2
theorem qW {d:Nat} {x:GNode} (h:nodeB d x=true):nameB x.name=true∧treeB (d+1) x.subs=true∧leavesB x.leaves=true:=by
 rw [nodeB_eq] at h
 simp only [Bool.and_eq_true] at h
 exact ⟨h.1.1.1,h.1.2,h.2⟩
theorem find_node {d:Nat} {t:List GNode} (s:zJ) (h:treeB d t=true) (hw:(zO [] t).length≤16777215):∃ A m B f ls sb,t=A++m++B∧NLt s A∧NGt s B∧m.length=(if f=true then 1 else 0)∧yc t s (fun x0 x1=>qm x0 x1)=some ((A.length:Int),f) ∧
  ((if f=true then ((idx t (A.length:Int)).bind fun y7=>some (.inr (y7.name,y7.leaves,y7.subs))) else some (.inr (s,([]:List GLeaf),([]:List GNode)))):Option (List GNode ⊕ (zJ×(List GLeaf)×(List GNode))))=some (.inr (s,ls,sb))∧treeB (d+1) sb=true∧leavesB ls=true ∧
  ls.length+(zO [] sb).length≤(zO [] t).length∧∀ a r,r ∈ zO a m ↔ (∃ l ∈ ls,r=⟨a++[s],l⟩) ∨ r ∈ zO (a++[s]) sb:=by
 obtain ⟨h1,h2⟩:=yT h
 have hl:t.length≤16777215:=Nat.le_trans (node_row t d (by rw [vP];exact List.all_eq_true.2 h2)) hw
 rcases split_up s h1 with ⟨A,B,rfl,ha,hb⟩ | ⟨A,x,B,rfl,hx,ha,hb⟩
 ·refine ⟨A,[],B,false,[],[],by simp,ha,hb,rfl,bs_none (by omega) ha hb,rfl,tree_nil _,rfl,by simp [zO],fun a r=>by simp [zO]⟩
 ·obtain ⟨n1,n2,n3⟩:=qW (h2 x (by simp))
  refine ⟨A,[x],B,true,x.leaves,x.subs,by simp,ha,hb,rfl,bs_some (by omega) hx ha hb,?_,n2,n3,mem_rows_len (by simp),fun a r=>?_⟩
  ·rw [if_pos rfl,yO (x:=x) (by simp),Option.bind_some,hx]
  ·rw [rows_one,rowsN_mem,hx]
theorem rows_off {s:zJ} {A:List GNode} (h:∀ y ∈ A,y.name ≠ s) {a q:List zJ} {r:GRow} (hr:r ∈ zO a A):r.path ≠ a++s::q:=by
 obtain ⟨x,hx,w,e⟩:=rows_head hr
 rw [e]
 intro e2
 have:=List.append_cancel_left e2
 injection this with e3 _
 exact h x hx e3
theorem NLt.ne {s:zJ} {A:List GNode} (h:NLt s A):∀ y ∈ A,y.name ≠ s:=fun y hy=>less_ne (h y hy)
theorem NGt.ne {s:zJ} {A:List GNode} (h:NGt s A):∀ y ∈ A,y.name ≠ s:=fun y hy=>(less_ne (h y hy)).symm
theorem lay_fin {d:Nat} {A m B:List GNode} {s:zJ} {ls:List GLeaf} {sb:List GNode} (hd:d < 3) (h:treeB d (A++m++B)=true) (ha:NLt s A) (hb:NGt s B) (hs:nameB s=true) (h1:leavesB ls=true) (h2:treeB (d+1) sb=true):treeB d (A++fitN s ls sb++B)=true:=by
 obtain ⟨u,n⟩:=yT h
 rw [upB_iff,List.pairwise_append,List.pairwise_append] at u
 have hAB:∀ x ∈ A,∀ y ∈ B,Op.bytesLess x.name y.name=true:=fun x hx y hy=>less_trans (ha x hx) (hb y hy)
 have hf:∀ x ∈ fitN s ls sb,x=⟨s,ls,sb⟩∧¬ ls.length+sb.length=0:=fun x hx=>by
  unfold fitN at hx
  split at hx
  ·simp at hx
  ·rename_i h0;simp at hx;exact ⟨hx,h0⟩
 refine treeB_of hd ?_ ?_
 ·rw [upB_iff,List.pairwise_append,List.pairwise_append]
  refine ⟨⟨u.1.1,?_,fun x hx y hy=>by rw [(hf y hy).1];exact ha x hx⟩,u.2.1,fun x hx y hy=>?_⟩
  ·unfold fitN;split <;> simp
  ·rcases List.mem_append.1 hx with hx | hx
   ·exact hAB x hx y hy
   ·rw [(hf x hx).1];exact hb y hy
 ·intro x hx
  rcases List.mem_append.1 hx with hx | hx
  ·rcases List.mem_append.1 hx with hx | hx
   ·exact n x (by simp [hx])
   ·obtain ⟨rfl,h0⟩:=hf x hx
    rw [nodeB_eq]
    simp only [hs,h1,h2,Bool.and_true,Bool.true_and,Bool.not_eq_true',Bool.and_eq_false_iff]
    cases ls with
    | cons _ _=>exact .inl rfl
    | nil=>cases sb with
     | cons _ _=>exact .inr rfl
     | nil=>simp at h0
  ·exact n x (by simp [hx])
theorem fit_len (s:zJ) (ls:List GLeaf) (sb:List GNode):(fitN s ls sb).length≤1:=by unfold fitN;split <;> simp
theorem layLs_mem {k:Int} {l:GLeaf} {there:Bool} {ls:List GLeaf} {x:GLeaf}:x ∈ layLs k l there ls ↔ (x ∈ ls∧x.typ ≠ k) ∨ (there=true∧x=l):=by
 unfold layLs
 cases there with
 | false=>simp
 | true =>
  simp only [if_true,List.mem_append,List.mem_filter,List.mem_singleton,decide_eq_true_eq,true_and]
  constructor
  ·rintro ((⟨h,h2⟩ | h) | ⟨h,h2⟩)
   ·exact .inl ⟨h,by omega⟩
   ·exact .inr h
   ·exact .inl ⟨h,by omega⟩
  ·rintro (⟨h,h2⟩ | h)
   ·rcases Int.lt_or_gt_of_ne h2 with h3 | h3
    ·exact .inl (.inl ⟨h,h3⟩)
    ·exact .inr ⟨h,h3⟩
   ·exact .inl (.inr h)
theorem lay_is {k:Int} {l:GLeaf} {there:Bool} (hk:there=true→l.typ=k∧leafB l=true∧LeafOk l):∀ (p:List zJ) (t:List GNode) (d n:Nat),p ≠ []→p.all nameB=true→d+p.length≤3→treeB d t=true→(zO [] t).length≤16777215→p.length < n →
  ∃ t',qx n t p k l there=some t'∧treeB d t'=true∧t'.length≤t.length+1∧∀ a r,r ∈ zO a t' ↔ (r ∈ zO a t∧rkey r ≠ (a++p,k)) ∨ (there=true∧r=⟨a++p,l⟩)
 | [],_,_,_,h,_,_,_,_,_=>absurd rfl h
 | _::_,_,_,0,_,_,_,_,_,h=>by omega
 | s::q,t,d,n+1,_,hp,hd,ht,hw,hn=>by
  simp only [List.all_cons,Bool.and_eq_true,List.length_cons] at hp hd hn
  obtain ⟨A,m,B,f,ls,sb,rfl,ha,hb,hm,hbs,hst,hsb,hls,hlen,hrow⟩:=find_node s ht hw
  have hix:idx (s::q) (0:Int)=some s:=rfl
  obtain ⟨hup,hlb⟩:=leaves_up hls
  have hl3:(A++m++B).length≤16777215:=Nat.le_trans (node_row _ d (by rw [vP];exact List.all_eq_true.2 (yT ht).2)) hw
  have hfl:=fun ls' sb'=>fit_len s ls' sb'
  have hlen2:∀ ls' sb',(A++fitN s ls' sb'++B).length≤(A++m++B).length+1:=fun ls' sb'=>by
   have:=fit_len s ls' sb'
   simp only [List.length_append];omega
  rw [layN_eq,hix,Option.bind_some,hbs,Option.bind_some,Option.bind_some]
  simp only []
  rw [hst,qN]
  cases q with
  | nil =>
   rw [layIn_leaf (fun h=>⟨(hk h).1,(hk h).2.2⟩) (by omega) hup,qN,layRest_is hm (by omega) (by
    have:(layLs k l there ls).length≤ls.length+1:=by
     unfold layLs
     split
     ·have h1:=List.filter_append_perm (fun x:GLeaf=>decide (x.typ < k)) ls
      have h2:=h1.length_eq
      have h3:(ls.filter fun x=>decide (k < x.typ)).length≤(ls.filter fun x=>!decide (x.typ < k)).length:=by
       have:(ls.filter fun x=>decide (k < x.typ))=(ls.filter fun x=>!decide (x.typ < k)).filter (fun x=>decide (k < x.typ)):=by
        rw [List.filter_filter];refine List.filter_congr fun x _=>?_;rw [Bool.eq_iff_iff];simp;omega
       rw [this];exact List.length_filter_le _ _
      simp only [List.length_append,List.length_cons,List.length_nil] at h2 ⊢
      omega
     ·exact Nat.le_succ_of_le (List.length_filter_le _ _)
    omega) (by have:=node_row sb (d+1) (by rw [vP];exact List.all_eq_true.2 (yT hsb).2);omega)]
   refine ⟨_,rfl,lay_fin (by omega) ht ha hb hp.1 (leaves_of (layLs_up (fun h=>(hk h).1) hup) fun x hx=>?_) hsb,hlen2 _ _,fun a r=>?_⟩
   ·rcases layLs_mem.1 hx with h | ⟨h,rfl⟩
    ·exact hlb x h.1
    ·exact (hk h).2.1
   ·simp only [qS,List.mem_append,fit_mem,hrow]
    have oA:r ∈ zO a A→rkey r ≠ (a++[s],k):=fun h e=>rows_off ha.ne h (congrArg Prod.fst e)
    have oB:r ∈ zO a B→rkey r ≠ (a++[s],k):=fun h e=>rows_off hb.ne h (congrArg Prod.fst e)
    have oS:r ∈ zO (a++[s]) sb→rkey r ≠ (a++[s],k):=fun h e=>by
     have:=(rows_path sb _ r h).1
     rw [show r.path=a++[s] from congrArg Prod.fst e] at this
     omega
    constructor
    ·rintro ((h | ⟨x,hx,rfl⟩ | h) | h)
     ·exact .inl ⟨.inl (.inl h),oA h⟩
     ·rcases layLs_mem.1 hx with ⟨h1,h2⟩ | ⟨h1,rfl⟩
      ·exact .inl ⟨.inl (.inr (.inl ⟨x,h1,rfl⟩)),fun e=>h2 (congrArg Prod.snd e)⟩
      ·exact .inr ⟨h1,rfl⟩
     ·exact .inl ⟨.inl (.inr (.inr h)),oS h⟩
     ·exact .inl ⟨.inr h,oB h⟩
    ·rintro (⟨(h | ⟨x,hx,rfl⟩ | h) | h,h2⟩ | ⟨h1,rfl⟩)
     ·exact .inl (.inl h)
     ·exact .inl (.inr (.inl ⟨x,layLs_mem.2 (.inl ⟨hx,fun e=>h2 (by rw [← e];rfl)⟩),rfl⟩))
     ·exact .inl (.inr (.inr h))
     ·exact .inr h
     ·exact .inl (.inr (.inl ⟨l,layLs_mem.2 (.inr ⟨h1,rfl⟩),rfl⟩))
  | cons c q =>
   obtain ⟨sb',e1,e2,e3,e4⟩:=lay_is hk (c::q) sb (d+1) n (by simp) hp.2 (by simp only [List.length_cons] at hd ⊢;omega) hsb (by omega) (by omega)
   have hsl:=node_row sb (d+1) (by rw [vP];exact List.all_eq_true.2 (yT hsb).2)
   rw [layIn_sub (by simp only [List.length_cons] at hd ⊢;omega) e1,qN,layRest_is hm (by omega) (by omega) (by omega)]
   refine ⟨_,rfl,lay_fin (by omega) ht ha hb hp.1 hls e2,hlen2 _ _,fun a r=>?_⟩
   simp only [qS,List.mem_append,fit_mem,hrow,e4]
   have ea:a++[s]++c::q=a++s::c::q:=by simp
   rw [ea]
   have oA:r ∈ zO a A→rkey r ≠ (a++s::c::q,k):=fun h e=>rows_off ha.ne h (congrArg Prod.fst e)
   have oB:r ∈ zO a B→rkey r ≠ (a++s::c::q,k):=fun h e=>rows_off hb.ne h (congrArg Prod.fst e)
   have oS:∀ x,r=⟨a++[s],x⟩→rkey r ≠ (a++s::c::q,k):=fun x h e=>by
    rw [h] at e
    have:=congrArg List.length (congrArg Prod.fst e)
    simp [rkey] at this
   constructor
   ·rintro ((h | ⟨x,hx,h⟩ | (h | h)) | h)
    ·exact .inl ⟨.inl (.inl h),oA h⟩
    ·exact .inl ⟨.inl (.inr (.inl ⟨x,hx,h⟩)),oS x h⟩
    ·exact .inl ⟨.inl (.inr (.inr h.1)),h.2⟩
    ·exact .inr h
    ·exact .inl ⟨.inr h,oB h⟩
   ·rintro (⟨(h | ⟨x,hx,h⟩ | h) | h,h2⟩ | h)
    ·exact .inl (.inl h)
    ·exact .inl (.inr (.inl ⟨x,hx,h⟩))
    ·exact .inl (.inr (.inr (.inl ⟨h,h2⟩)))
    ·exact .inr h
    ·exact .inl (.inr (.inr (.inr h)))
end Go.Vv
namespace Go.Vv
open Go
theorem rowLt_iff {r q:GRow}:rowLt r q ↔ kltB (rkey r) (rkey q)=true:=by
 unfold rowLt kltB rkey
 simp only [Bool.or_eq_true,Bool.and_eq_true,decide_eq_true_eq]
 constructor
 ·rintro (h | h)
  ·exact .inl (path_plt h)
  ·exact .inr h
 ·rintro (h | h)
  ·exact .inl (plt_path h)
  ·exact .inr h
theorem sorted_ext {α:Type} {lt:α→α→Prop} (irr:∀ x,¬ lt x x) (tr:∀ x y z,lt x y→lt y z→lt x z):∀ {L M:List α},L.Pairwise lt→M.Pairwise lt→(∀ x,x ∈ L ↔ x ∈ M)→L=M
 | [],[],_,_,_=>rfl
 | [],y::M,_,_,h=>by have:=(h y).2 (by simp);simp at this
 | x::L,[],_,_,h=>by have:=(h x).1 (by simp);simp at this
 | x::L,y::M,h1,h2,h=>by
  obtain ⟨a1,a2⟩:=List.pairwise_cons.1 h1
  obtain ⟨b1,b2⟩:=List.pairwise_cons.1 h2
  have e:x=y:=by
   rcases List.mem_cons.1 ((h x).1 (by simp)) with e | hx
   ·exact e
   ·rcases List.mem_cons.1 ((h y).2 (by simp)) with e | hy
    ·exact e.symm
    ·exact (irr x (tr _ _ _ (a1 y hy) (b1 x hx))).elim
  subst e
  rw [sorted_ext irr tr a2 b2 fun z=>?_]
  constructor
  ·intro hz
   rcases List.mem_cons.1 ((h z).1 (by simp [hz])) with e | hz2
   ·subst e;exact (irr _ (a1 _ hz)).elim
   ·exact hz2
  ·intro hz
   rcases List.mem_cons.1 ((h z).2 (by simp [hz])) with e | hz2
   ·subst e;exact (irr _ (b1 _ hz)).elim
   ·exact hz2
theorem filter_app_left {α:Type} {P:α→Bool} {A B:List α} (h1:∀ x ∈ A,P x=true) (h2:∀ x ∈ B,P x=false):(A++B).filter P=A∧(A++B).filter (fun x=>!P x)=B:=by
 rw [List.filter_append,List.filter_append,List.filter_eq_self.2 h1,List.filter_eq_nil_iff.2 (fun x hx=>by simp [h2 x hx]),List.filter_eq_nil_iff.2 (fun x hx=>by simp [h1 x hx]),List.filter_eq_self.2 (fun x hx=>by simp [h2 x hx])]
 simp
theorem app_split {α:Type} {P:α→Bool} {A B C D:List α} (h:A++B=C++D) (h1:∀ x ∈ A,P x=true) (h2:∀ x ∈ B,P x=false) (h3:∀ x ∈ C,P x=true) (h4:∀ x ∈ D,P x=false):A=C∧B=D:=by
 obtain ⟨a,b⟩:=filter_app_left h1 h2
 obtain ⟨c,d⟩:=filter_app_left h3 h4
 exact ⟨by rw [← a,← c,h],by rw [← b,← d,h]⟩
theorem rowsN_head {a:List zJ} {x:GNode} {r:GRow} (h:r ∈ rowsN a x):∃ w,r.path=a++x.name::w:=by
 rw [← rows_one] at h
 obtain ⟨y,hy,w,e⟩:=rows_head h
 simp only [List.mem_singleton] at hy;subst hy
 exact ⟨w,e⟩
theorem rowsN_ne {d:Nat} {x:GNode} (h:nodeB d x=true) (a:List zJ):∃ r L,rowsN a x=r::L:=by
 have h1:=node_row [x] d (by simp [wN,h])
 rw [len_rows [x] [] a,rows_one] at h1
 cases e:rowsN a x with
 | nil=>rw [e] at h1;simp at h1
 | cons r L=>exact ⟨r,L,rfl⟩
def hasN (n:Nat) (s:zJ) (r:GRow):Bool:=decide ((r.path.drop n).head?=some s)
theorem hasN_is (a w:List zJ) (s nm:zJ) {r:GRow} (h:r.path=a++nm::w):hasN a.length s r=decide (nm=s):=by
 unfold hasN;rw [h,List.drop_left];simp
theorem rows_inj:∀ (t:List GNode) (d:Nat) (a:List zJ) (t':List GNode),treeB d t=true→treeB d t'=true→zO a t=zO a t'→t=t':=by
 have key:∀ (t:List GNode) (d:Nat) (a:List zJ) (t':List GNode),(∀ x ∈ t,nodeB d x=true)→upB t=true→(∀ x ∈ t',nodeB d x=true)→upB t'=true→zO a t=zO a t'→t=t':=by
  refine wW ?_ ?_
  ·intro d a t' _ _ h _ e
   cases t' with
   | nil=>rfl
   | cons y r =>
    obtain ⟨q,L,e2⟩:=rowsN_ne (h y (by simp)) a
    rw [zO,zO,e2] at e;simp at e
  ·intro x r hx hr d a t' n1 u1 n2 u2 e
   cases t' with
   | nil =>
    obtain ⟨q,L,e2⟩:=rowsN_ne (n1 x (by simp)) a
    rw [zO,zO,e2] at e;simp at e
   | cons y s =>
    rw [upB_iff,List.pairwise_cons] at u1 u2
    have e:rowsN a x++zO a r=rowsN a y++zO a s:=e
    have hxy:x.name=y.name:=by
     obtain ⟨q,L,e2⟩:=rowsN_ne (n1 x (by simp)) a
     obtain ⟨q',L',e3⟩:=rowsN_ne (n2 y (by simp)) a
     have e4:=e
     rw [e2,e3] at e4
     injection e4 with e5 _
     subst e5
     obtain ⟨w,h1⟩:=rowsN_head (a:=a) (x:=x) (r:=q) (by rw [e2];simp)
     obtain ⟨w',h2⟩:=rowsN_head (a:=a) (x:=y) (r:=q) (by rw [e3];simp)
     rw [h1] at h2
     have:=List.append_cancel_left h2
     injection this
    obtain ⟨e6,e7⟩:=app_split (P:=hasN a.length x.name) e
     (fun q hq=>by obtain ⟨w,h⟩:=rowsN_head hq;rw [hasN_is a w _ _ h];simp)
     (fun q hq=>by
      obtain ⟨z,hz,w,h⟩:=rows_head hq
      rw [hasN_is a w _ _ h];exact decide_eq_false (less_ne (u1.1 z hz)).symm)
     (fun q hq=>by obtain ⟨w,h⟩:=rowsN_head hq;rw [hasN_is a w _ _ h,hxy];simp)
     (fun q hq=>by
      obtain ⟨z,hz,w,h⟩:=rows_head hq
      rw [hasN_is a w _ _ h,hxy];exact decide_eq_false (less_ne (u2.1 z hz)).symm)
    have e8:=hr d a s (fun z hz=>n1 z (by simp [hz])) ((upB_iff r).2 u1.2) (fun z hz=>n2 z (by simp [hz])) ((upB_iff s).2 u2.2) e7
    rw [xI,xI,← hxy] at e6
    obtain ⟨e9,e10⟩:=app_split (P:=fun q=>decide (q.path.length=a.length+1)) e6
     (fun q hq=>by obtain ⟨l,_,rfl⟩:=List.mem_map.1 hq;simp)
     (fun q hq=>by have:=(rows_path _ _ q hq).1;simp at this;exact decide_eq_false (by omega))
     (fun q hq=>by obtain ⟨l,_,rfl⟩:=List.mem_map.1 hq;simp)
     (fun q hq=>by have:=(rows_path _ _ q hq).1;simp at this;exact decide_eq_false (by omega))
    have e11:x.leaves=y.leaves:=by
     have:=congrArg (List.map (·.leaf)) e9
     simpa [List.map_map,Function.comp_def] using this
    obtain ⟨_,p2,_⟩:=qW (n1 x (by simp))
    obtain ⟨_,q2,_⟩:=qW (n2 y (by simp))
    have e12:=hx (d+1) (a++[x.name]) y.subs (yT p2).2 (yT p2).1 (yT q2).2 (yT q2).1 e10
    cases x;cases y
    simp only at hxy e11 e12
    rw [hxy,e11,e12,e8]
 intro t d a t' h1 h2 e
 exact key t d a t' (yT h1).2 (yT h1).1 (yT h2).2 (yT h2).1 e
theorem wF {d:Nat} {t:List GNode} (h:treeB d t=true) (a:List zJ):(zO a t).Pairwise fun r q=>kltB (rkey r) (rkey q)=true:=by
 have:=rows_lt t d a (yT h).1 (by rw [vP];exact List.all_eq_true.2 (yT h).2)
 exact this.imp fun h=>rowLt_iff.1 h
theorem rows_ext {t t':List GNode} (h1:treeB 0 t=true) (h2:treeB 0 t'=true) (h:∀ r,r ∈ zO [] t ↔ r ∈ zO [] t'):t=t' :=
 rows_inj t 0 [] t' h1 h2 (sorted_ext (lt:=fun r q=>kltB (rkey r) (rkey q)=true) (fun x h=>by rw [klt_irr] at h;cases h) (fun _ _ _=>klt_trans) (wF h1 []) (wF h2 []) h)
theorem sorted_key {α:Type} {key:α→Key} {L:List α} (h:L.Pairwise fun r q=>kltB (key r) (key q)=true) {x y:α} (hx:x ∈ L) (hy:y ∈ L) (e:key x=key y):x=y:=by
 induction L with
 | nil=>simp at hx
 | cons z r ih =>
  obtain ⟨h1,h2⟩:=List.pairwise_cons.1 h
  rcases List.mem_cons.1 hx with ex | hx' <;> rcases List.mem_cons.1 hy with ey | hy'
  ·rw [ex,ey]
  ·have:=h1 y hy';rw [← ex,e,klt_irr] at this;cases this
  ·have:=h1 x hx';rw [← ey,e,klt_irr] at this;cases this
  ·exact ih h2 hx' hy'
end Go.Vv
namespace Go.Vv
open Go
theorem first_is {α:Type} {q:α→Bool} {del:α→Option Bool}:∀ (L:List α) (n:Nat),(∀ x ∈ L,del x=some (q x)) →
  (zY (fun (n1:Nat) (x1:α) (_:Unit)=>(((del x1).bind fun v7=>(if v7=true then some (.ret (n1:Int)) else some (.nxt ()))):Option (Out Int Unit))) L n ()=some (.inr ())∧∀ x ∈ L,q x=false) ∨
  ∃ A x B,L=A++x::B∧q x=true∧(∀ y ∈ A,q y=false)∧zY (fun (n1:Nat) (x1:α) (_:Unit)=>(((del x1).bind fun v7=>(if v7=true then some (.ret (n1:Int)) else some (.nxt ()))):Option (Out Int Unit))) L n ()=some (.inl ((n+A.length:Nat):Int))
 | [],n,_=>.inl ⟨rfl,by simp⟩
 | x::r,n,h=>by
  have hx:=h x (by simp)
  cases hq:q x with
  | true=>exact .inr ⟨[],x,r,rfl,hq,by simp,by simp [zY,hx,hq]⟩
  | false =>
   rcases first_is r (n+1) (fun y hy=>h y (by simp [hy])) with ⟨e,h2⟩ | ⟨A,y,B,rfl,h1,h2,e⟩
   ·refine .inl ⟨by simp only [zY,hx,hq,Option.bind_some];exact e,?_⟩
    intro y hy;rcases List.mem_cons.1 hy with rfl | hy
    ·exact hq
    ·exact h2 y hy
   ·refine .inr ⟨x::A,y,B,rfl,h1,?_,?_⟩
    ·intro z hz;rcases List.mem_cons.1 hz with rfl | hz
     ·exact hq
     ·exact h2 z hz
    ·simp only [zY,hx,hq,Option.bind_some]
     rw [show n+(x::A).length=n+1+A.length by simp only [List.length_cons];omega];exact e
def node0:GNode:=GNode.mk ([]:zJ) ([]:List GLeaf) ([]:List GNode)
def nodeOf (t:List GNode) (s:zJ):Option GNode:=t.find? fun x=>x.name==s
theorem linear_is (t:List GNode) (s:zJ):qR t s=some (match nodeOf t s with | some x=>(x,true) | none=>(node0,false)):=by
 unfold qR wq
 rcases first_is (q:=fun x:GNode=>x.name==s) (del:=fun x0=>treeXlinearC1 x0 s) t 0 (fun x _=>rfl) with ⟨e,h⟩ | ⟨A,x,B,rfl,h1,h2,e⟩
 ·rw [e]
  have:nodeOf t s=none:=List.find?_eq_none.2 fun x hx=>by rw [h x hx];simp
  rw [this];rfl
 ·rw [e]
  have:nodeOf (A++x::B) s=some x:=by
   unfold nodeOf
   rw [List.find?_append,List.find?_eq_none.2 (fun y hy=>by rw [h2 y hy];simp),List.find?_cons,h1];rfl
  rw [this]
  simp only [lp,Option.bind_some,Nat.zero_add]
  rw [if_neg (by simp),yO (x:=x) (by simp)];rfl
def nodeAt:List GNode→List zJ→Option GNode
 | _,[]=>none
 | t,[s]=>nodeOf t s
 | t,s::c::q=>(nodeOf t s).bind fun x=>nodeAt x.subs (c::q)
noncomputable def tlF:Nat→zJ→(List GNode)×Bool×zJ×(List GLeaf)×(List GNode)→Option (Out ((GLeaf×Bool) ⊕ (Bool×zJ×(List GLeaf)×(List GNode))) ((List GNode)×Bool×zJ×(List GLeaf)×(List GNode))):=(fun (_:Nat) (x2:zJ) (s2:(List GNode)×Bool×zJ×(List GLeaf)×(List GNode))=>(((qR s2.1 x2).bind fun v47=>(if (!v47.2)=true then some (.brk (s2.1,v47.2,v47.1.name,v47.1.leaves,v47.1.subs)) else some (.nxt (v47.1.subs,v47.2,v47.1.name,v47.1.leaves,v47.1.subs))))))
noncomputable def tlR (kind2:Int) (s1:Bool×zJ×(List GLeaf)×(List GNode)):Option (GLeaf×Bool):=((yI s1.2.2.1 (fun x0=>treeLeafC1 x0 kind2)).bind fun v49=>((if (((!s1.1) || (decide (v49 < (0:Int))))==false)=true then leafNew kind2 else some default).bind fun v50=>(if (((!s1.1) || (decide (v49 < (0:Int)))) || (v50.typ==(0:Int)))=true then ((leafNew kind2).bind fun v52=>some (v52,false)) else ((idx s1.2.2.1 v49).bind fun y53=>((wv y53.items).bind fun v54=>((wL y53.tombs).bind fun v55=>some ((GLeaf.mk y53.typ y53.n y53.time y53.dot y53.text v54 v55),true)))))))
theorem tl_eq (t0:List GNode) (path1:List zJ) (kind2:Int):treeLeaf t0 path1 kind2=(lp ((lp (zY tlF path1 0 (t0,(decide (((path1).length:Int) > (0:Int))),([]:zJ),([]:List GLeaf),([]:List GNode))) fun (s2:(List GNode)×Bool×zJ×(List GLeaf)×(List GNode))=>some (.inr (s2.2.1,s2.2.2.1,s2.2.2.2.1,s2.2.2.2.2))):Option ((GLeaf×Bool) ⊕ (Bool×zJ×(List GLeaf)×(List GNode)))) (tlR kind2)):=rfl
theorem tl_walk:∀ (p:List zJ) (n:Nat) (t:List GNode) (z:Bool×zJ×(List GLeaf)×(List GNode)),p ≠ [] →
  match nodeAt t p with
  | some x=>zY tlF p n (t,z)=some (.inr (x.subs,true,x.name,x.leaves,x.subs))
  | none=>∃ u,zY tlF p n (t,z)=some (.inr (u,false,([]:zJ),([]:List GLeaf),([]:List GNode)))
 | [],_,_,_,h=>absurd rfl h
 | [s],n,t,z,_=>by
  simp only [nodeAt,zY,tlF,linear_is,Option.bind_some]
  cases nodeOf t s with
  | none=>exact ⟨t,rfl⟩
  | some x=>rfl
 | s::c::q,n,t,z,_=>by
  have ih:=fun u z=>tl_walk (c::q) (n+1) u z (by simp)
  simp only [nodeAt]
  cases e:nodeOf t s with
  | none=>exact ⟨t,by rw [zY];simp only [tlF,linear_is,e,Option.bind_some];rfl⟩
  | some x =>
   have e2:tlF n s (t,z)=some (.nxt (x.subs,true,x.name,x.leaves,x.subs)):=by simp only [tlF,linear_is,e,Option.bind_some];rfl
   have:=ih x.subs (true,x.name,x.leaves,x.subs)
   rw [zY,e2,Option.bind_some]
   exact this
theorem nodeOf_split {t:List GNode} (s:zJ) (h:upB t=true):(nodeOf t s=none∧∀ y ∈ t,y.name ≠ s) ∨ ∃ A x B,t=A++x::B∧nodeOf t s=some x∧x.name=s∧(∀ y ∈ A,y.name ≠ s)∧∀ y ∈ B,y.name ≠ s:=by
 rcases split_up s h with ⟨A,B,rfl,ha,hb⟩ | ⟨A,x,B,rfl,hx,ha,hb⟩
 ·left
  have:∀ y ∈ A++B,y.name ≠ s:=fun y hy=>by
   rcases List.mem_append.1 hy with hy | hy
   ·exact ha.ne y hy
   ·exact hb.ne y hy
  exact ⟨List.find?_eq_none.2 fun y hy=>by simp [this y hy],this⟩
 ·refine .inr ⟨A,x,B,rfl,?_,hx,ha.ne,hb.ne⟩
  unfold nodeOf
  rw [List.find?_append,List.find?_eq_none.2 (fun y hy=>by simp [ha.ne y hy]),List.find?_cons]
  simp [hx]
theorem row_at:∀ (p:List zJ) (t:List GNode) (d:Nat) (a:List zJ) (l:GLeaf),p ≠ []→treeB d t=true→(GRow.mk (a++p) l ∈ zO a t ↔ ∃ x,nodeAt t p=some x∧l ∈ x.leaves)
 | [],_,_,_,_,h,_=>absurd rfl h
 | s::q,t,d,a,l,_,h=>by
  obtain ⟨hu,hn⟩:=yT h
  rcases nodeOf_split s hu with ⟨e,h1⟩ | ⟨A,x,B,rfl,e,hx,ha,hb⟩
  ·have e2:nodeAt t (s::q)=none:=by cases q <;> simp [nodeAt,e]
   rw [e2]
   constructor
   ·intro hr;exact (rows_off h1 hr rfl).elim
   ·rintro ⟨x,h,_⟩;cases h
  ·rw [qS,show x::B=[x]++B from rfl,qS,rows_one,List.mem_append,List.mem_append,rowsN_mem,hx]
   have oA:¬ GRow.mk (a++s::q) l ∈ zO a A:=fun hr=>rows_off ha hr rfl
   have oB:¬ GRow.mk (a++s::q) l ∈ zO a B:=fun hr=>rows_off hb hr rfl
   have hsub:=(qW (hn x (by simp))).2.1
   cases q with
   | nil =>
    have oS:¬ GRow.mk (a++[s]) l ∈ zO (a++[s]) x.subs:=fun hr=>by
     have:=(rows_path _ _ _ hr).1;simp at this
    have e2:nodeAt (A++x::B) [s]=some x:=e
    have e3:nodeAt (A++([x]++B)) [s]=some x:=e
    rw [e3]
    constructor
    ·rintro (h | (⟨y,hy,h⟩ | h) | h)
     ·exact (oA h).elim
     ·injection h with _ h;subst h;exact ⟨x,rfl,hy⟩
     ·exact (oS h).elim
     ·exact (oB h).elim
    ·rintro ⟨y,h,hl⟩
     injection h with h;subst h
     exact .inr (.inl (.inl ⟨l,hl,rfl⟩))
   | cons c q =>
    have ih:=row_at (c::q) x.subs (d+1) (a++[s]) l (by simp) hsub
    have ea:a++[s]++c::q=a++s::c::q:=by simp
    rw [ea] at ih
    have e3:nodeAt (A++([x]++B)) (s::c::q)=nodeAt x.subs (c::q):=by
     show (nodeOf (A++x::B) s).bind _=_
     rw [e];rfl
    rw [e3,ih]
    constructor
    ·rintro (h | (⟨y,hy,h⟩ | h) | h)
     ·exact (oA h).elim
     ·injection h with h _
      have:=congrArg List.length h;simp at this
     ·exact h
     ·exact (oB h).elim
    ·intro h;exact .inr (.inl (.inr h))
theorem row_mk {r:GRow} {p:List zJ} {k:Int} (h:rkey r=(p,k)):r=GRow.mk ([]++p) r.leaf:=by
 have e:r.path=p:=congrArg Prod.fst h
 cases r;simp only at e;rw [e];rfl
theorem leafNew_typ {k:Int} (h:1≤k∧k≤4):∃ v,leafNew k=some v∧v.typ=k:=by
 unfold leafNew
 rw [if_neg (by simp;omega)]
 exact ⟨_,rfl,rfl⟩
theorem tlR_none {k:Int} (s:zJ):∃ v,tlR k (false,s,([]:List GLeaf),([]:List GNode))=some (v,false):=by
 obtain ⟨v,e⟩:=leafNew_tot k
 refine ⟨v,?_⟩
 unfold tlR yI
 simp [zY,lp,e]
theorem treeLeaf_is {t:List GNode} (h:treeB 0 t=true) (hok:∀ r ∈ zO [] t,LeafOk r.leaf) {p:List zJ} (hp:p ≠ []) {k:Int} (hk:1≤k∧k≤4) :
  (∃ l,GRow.mk p l ∈ zO [] t∧l.typ=k∧treeLeaf t p k=some (l,true)) ∨ ((∀ r ∈ zO [] t,rkey r ≠ (p,k))∧∃ v,treeLeaf t p k=some (v,false)):=by
 have hw:=tl_walk p 0 t (decide ((p.length:Int) > 0),([]:zJ),([]:List GLeaf),([]:List GNode)) hp
 have hr:=fun l=>row_at p t 0 [] l hp h
 rw [tl_eq]
 cases e:nodeAt t p with
 | none =>
  rw [e] at hw
  obtain ⟨u,hw⟩:=hw
  right
  refine ⟨fun r hr2 e2=>?_,?_⟩
  ·have:=row_mk e2
   rw [this] at hr2
   obtain ⟨x,h1,_⟩:=(hr _).1 hr2
   rw [e] at h1;cases h1
  ·rw [hw];exact tlR_none []
 | some x =>
  rw [e] at hw
  simp only at hw
  rw [hw]
  simp only [qN]
  obtain ⟨v0,n1,n2⟩:=leafNew_typ hk
  unfold tlR yI
  rcases first_is (q:=fun y:GLeaf=>y.typ==k) (del:=fun x0=>treeLeafC1 x0 k) x.leaves 0 (fun x _=>rfl) with ⟨e1,h1⟩ | ⟨A,y,B,hxl,h1,h2,e1⟩
  ·right
   refine ⟨fun r hr2 e2=>?_,v0,?_⟩
   ·have:=row_mk e2
    rw [this] at hr2
    obtain ⟨x',h3,h4⟩:=(hr _).1 hr2
    rw [e] at h3;injection h3 with h3;subst h3
    have:=h1 _ h4
    simp only [beq_eq_false_iff_ne] at this
    exact this (congrArg Prod.snd e2)
   ·simp only []
    rw [e1]
    simp [lp,n1]
  ·left
   have hy:y ∈ x.leaves:=by rw [hxl];simp
   have hmem:GRow.mk ([]++p) y ∈ zO [] t:=(hr y).2 ⟨x,e,hy⟩
   have hyk:y.typ=k:=by simpa using h1
   have ho:=hok _ hmem
   refine ⟨y,hmem,hyk,?_⟩
   simp only []
   rw [e1]
   simp only [lp,Option.bind_some,Nat.zero_add]
   have c1:((!true) || (decide (((A.length:Nat):Int) < (0:Int))))=false:=by simp
   rw [c1]
   simp only [beq_self_eq_true,if_true,n1,Option.bind_some,Bool.false_or,n2]
   rw [if_neg (by simp;omega),hxl,yO (x:=y) (by simp),Option.bind_some,cloneItem_is (qk (Nat.le_succ_of_le ho.items)),Option.bind_some,cloneDot_is (qk (Nat.le_succ_of_le ho.tombs)),Option.bind_some]
end Go.Vv
namespace Go.Vv
open Go
structure EOk (e:GEdit):Prop where
 path:qz e.path=true
 typ:1≤e.typ∧e.typ≤4
 any:e.had=true ∨ e.has=true
 ne:e.had=true→e.has=true→e.was ≠ e.is
 was1:e.had=true→leafB e.was=true∧LeafOk e.was∧e.was.typ=e.typ
 was0:e.had=false→e.was=leaf0
 is1:e.has=true→leafB e.is=true∧LeafOk e.is∧e.is.typ=e.typ
 is0:e.has=false→e.is=leaf0
def eLt (a b:GEdit):Prop:=kltB (xS a) (xS b)=true
theorem side_is {there:Bool} {l:GLeaf} {k:Int} (h1:there=true→leafB l=true∧LeafOk l∧l.typ=k) (h0:there=false→l=leaf0):vF there l k=some true:=by
 cases there with
 | false=>rw [h0 rfl];exact side0 k
 | true=>obtain ⟨a,b,rfl⟩:=h1 rfl;exact side1 a b
theorem diffMay_is {es:List GEdit} (hlen:es.length≤16777216) (hok:∀ e ∈ es,EOk e) (hlt:es.Pairwise eLt):diffMay es=some true:=by
 unfold diffMay
 rw [lp_all (r:=false) (fun _ _=>true) (fun i x hx=>?_)]
 ·have:allI (fun _ _=>true) es=true:=allI_iff.2 fun _ _ _=>rfl
  rw [if_pos this]
 ·have hi:=(List.getElem?_eq_some_iff.1 hx).1
  have ho:=hok x (List.mem_of_getElem? hx)
  have e1:decide (x.typ ≥ 1)=true:=decide_eq_true ho.typ.1
  have e2:decide (x.typ≤4)=true:=decide_eq_true ho.typ.2
  have e3:opMayPath x.path=some true:=by rw [opMayPath_is,ho.path]
  have eo:∃ v,(if ((decide ((i:Int) > (0:Int)))==true)=true then ql (es.getD (IntKind.wrap .i64 ((i:Int) - (1:Int))).toNat default) x else some default)=some v∧((decide ((i:Int) > 0))&&(decide (v ≥ 0)))=false:=by
   by_cases h0:0 < i
   ·have ew:IntKind.wrap .i64 ((i:Int) - 1)=((i - 1:Nat):Int):=by rw [w64n (by omega)];omega
    have hp:es[i - 1]?=some es[i - 1]:=List.getElem?_eq_getElem (by omega)
    have h2:ordI es[i - 1] x < 0:=ordI_lt.2 (by
     have:=List.pairwise_iff_getElem.1 hlt (i - 1) i (by omega) hi (by omega)
     rwa [(List.getElem?_eq_some_iff.1 hx).2] at this)
    have eg:es.getD (i - 1) default=es[i - 1]:=by
     rw [List.getD_eq_getElem?_getD,hp];rfl
    rw [decide_eq_true (by omega:(i:Int) > 0),ew,Int.toNat_natCast,eg,order_is]
    exact ⟨_,rfl,by rw [decide_eq_false (by omega)];rfl⟩
   ·rw [decide_eq_false (by omega:¬ (i:Int) > 0)]
    exact ⟨default,rfl,rfl⟩
  obtain ⟨v,ev1,ev2⟩:=eo
  have ec:((decide ((i:Int) > (0:Int)))==true)=true→0≤(IntKind.wrap .i64 ((i:Int) - (1:Int)))∧(IntKind.wrap .i64 ((i:Int) - (1:Int))) < ((es).length:Int):=by
   intro h
   simp only [beq_iff_eq,decide_eq_true_eq] at h
   rw [w64n (by omega)];omega
  obtain ⟨z,ez,ez2⟩:∃ z,(if ((x.had&&x.has)==true)=true then wB x.was x.is else some default)=some z∧((x.had&&x.has)&&z)=false:=by
   cases h1:x.had with
   | false=>exact ⟨default,rfl,rfl⟩
   | true =>
    cases h2:x.has with
    | false=>exact ⟨default,rfl,rfl⟩
    | true=>exact ⟨false,by rw [if_pos (by rfl),leafSame_is,decide_eq_false (ho.ne h1 h2)],rfl⟩
  have s1:vF x.had x.was x.typ=some true:=side_is ho.was1 ho.was0
  have s2:vF x.has x.is x.typ=some true:=side_is ho.is1 ho.is0
  have ea:((!x.had)&&(!x.has))=false:=by
   rcases ho.any with h | h <;> simp [h]
  rw [ez,Option.bind_some,e3,Option.bind_some,e1,e2]
  have q1:((((!true) || (!(true&&true))) || ((!x.had)&&(!x.has))) || ((x.had&&x.has)&&z))=false:=by rw [ea,ez2];rfl
  rw [q1,if_pos (by rfl),s1,Option.bind_some]
  have q2:((false || (!true))==false)=true:=rfl
  rw [if_pos q2,s2,Option.bind_some]
  have q3:((false || (!true)) || (!true))=false:=rfl
  rw [q3,if_neg (by decide),yB ec,ev1,Option.bind_some,ev2]
  simp
noncomputable def patF (t0:List GNode):Nat→GEdit→List GNode→Option (Out (List GNode×Int) (List GNode)):=(fun (n1:Nat) (x1:GEdit) (s1:(List GNode))=>(((treeLeaf t0 x1.path x1.typ).bind fun v14=>((if (((!(v14.2==x1.had))==false)&&(v14.2==true))=true then wB v14.1 x1.was else some default).bind fun v15=>(if ((!(v14.2==x1.had)) || (v14.2&&(!v15)))=true then some (.ret (([]:List GNode),(16:Int))) else ((diffXlay s1 x1.path x1.typ x1.is x1.has).bind fun v17=>some (.nxt v17))))):Option (Out _ (List GNode))))
theorem patch_eq (t0:List GNode) (l1:List GEdit):vZ t0 l1=((qr t0).bind fun v1=>((if ((!v1)==false)=true then diffMay l1 else some default).bind fun v2=>(if ((!v1) || (!v2))=true then some (([]:List GNode),(2:Int)) else ((w6 t0 ([([42,42]:zJ)]:List zJ)).bind fun v4=>(lp (zY (patF t0) l1 0 v4.1) fun (s1:(List GNode))=>some (s1,(0:Int))))))):=rfl
theorem sub_len {α:Type} {lt:α→α→Prop} (irr:∀ x,¬ lt x x):∀ (L M:List α),L.Pairwise lt→(∀ x ∈ L,x ∈ M)→L.length≤M.length
 | [],_,_,_=>Nat.zero_le _
 | x::L,M,h,hs=>by
  obtain ⟨h1,h2⟩:=List.pairwise_cons.1 h
  obtain ⟨A,B,rfl⟩:=List.append_of_mem (hs x (by simp))
  have:=sub_len irr L (A++B) h2 fun y hy=>by
   have hy2:=hs y (by simp [hy])
   have hne:y ≠ x:=fun e=>irr x (by have:=h1 y hy;rwa [e] at this)
   simp only [List.mem_append,List.mem_cons] at hy2 ⊢
   rcases hy2 with h | h | h
   ·exact .inl h
   ·exact (hne h).elim
   ·exact .inr h
  simp only [List.length_append,List.length_cons] at this ⊢
  omega
theorem vL {p:List zJ} (h:qz p=true):p ≠ []∧p.length≤3∧p.all nameB=true:=by
 refine ⟨pathB_ne h,?_⟩
 simp only [qz,Bool.and_eq_true,decide_eq_true_eq] at h
 exact ⟨h.1.2,h.2⟩
theorem lay_all {k:Int} {l:GLeaf} {there:Bool} {p:List zJ} {t:List GNode} (hk:there=true→l.typ=k∧leafB l=true∧LeafOk l) (hp:qz p=true) (ht:treeB 0 t=true) (hw:(zO [] t).length≤16777215) :
  ∃ t',diffXlay t p k l there=some t'∧treeB 0 t'=true∧(zO [] t').length≤(zO [] t).length+1∧∀ r,r ∈ zO [] t' ↔ (r ∈ zO [] t∧rkey r ≠ (p,k)) ∨ (there=true∧r=⟨p,l⟩):=by
 obtain ⟨p1,p2,p3⟩:=vL hp
 obtain ⟨t',e1,e2,_,e4⟩:=lay_is hk p t 0 (p.length+1) p1 p3 (by omega) ht hw (by omega)
 have e4:=e4 []
 simp only [List.nil_append] at e4
 refine ⟨t',anyN_of (p.length+1) fun n hn=>?_,e2,?_,e4⟩
 ·obtain ⟨u,f1,f2,_,f4⟩:=lay_is hk p t 0 n p1 p3 (by omega) ht hw (by omega)
  have f4:=f4 []
  simp only [List.nil_append] at f4
  rw [f1,rows_ext f2 e2 fun r=>by rw [f4,e4]]
 ·have:=sub_len (lt:=fun r q=>kltB (rkey r) (rkey q)=true) (fun x h=>by rw [klt_irr] at h;cases h) (zO [] t') (zO [] t++[⟨p,l⟩]) (wF e2 []) fun r hr=>by
   rcases (e4 r).1 hr with h | h
   ·simp [h.1]
   ·simp [h.2]
  simpa using this
structure EFits (t:List GNode) (e:GEdit):Prop where
 had:e.had=true→GRow.mk e.path e.was ∈ zO [] t
 new:e.had=false→∀ r ∈ zO [] t,rkey r ≠ xS e
theorem patF_is {t s:List GNode} {e:GEdit} (ht:treeB 0 t=true) (hok:∀ r ∈ zO [] t,LeafOk r.leaf) (he:EOk e) (hf:EFits t e) (hs:treeB 0 s=true) (hw:(zO [] s).length≤16777215) (n:Nat) :
  ∃ u,patF t n e s=some (.nxt u)∧treeB 0 u=true∧(zO [] u).length≤(zO [] s).length+1∧∀ r,r ∈ zO [] u ↔ (r ∈ zO [] s∧rkey r ≠ xS e) ∨ (e.has=true∧r=⟨e.path,e.is⟩):=by
 obtain ⟨u,u1,u2,u3,u4⟩:=lay_all (k:=e.typ) (l:=e.is) (there:=e.has) (fun h=>⟨(he.is1 h).2.2,(he.is1 h).1,(he.is1 h).2.1⟩) he.path hs hw
 refine ⟨u,?_,u2,u3,u4⟩
 unfold patF
 rcases treeLeaf_is ht hok (vL he.path).1 he.typ with ⟨l,h1,h2,h3⟩ | ⟨h1,v,h3⟩
 ·have hh:e.had=true:=by
   cases h:e.had with
   | true=>rfl
   | false=>exact (hf.new h _ h1 (by unfold rkey xS;rw [h2])).elim
  have:(GRow.mk e.path l)=GRow.mk e.path e.was:=sorted_key (wF ht []) h1 (hf.had hh) (by unfold rkey;rw [h2,(he.was1 hh).2.2])
  injection this with _ hl
  rw [h3,hh,hl]
  simp only [Option.bind_some,leafSame_is,u1]
  simp
 ·have hh:e.had=false:=by
   cases h:e.had with
   | false=>rfl
   | true=>exact (h1 _ (hf.had h) (by unfold rkey;rw [(he.was1 h).2.2])).elim
  rw [h3,hh]
  simp only [Option.bind_some,u1]
  simp
theorem pat_loop {t:List GNode} (ht:treeB 0 t=true) (hok:∀ r ∈ zO [] t,LeafOk r.leaf):∀ (es:List GEdit) (n:Nat) (s:List GNode),(∀ e ∈ es,EOk e∧EFits t e)→es.Pairwise eLt→treeB 0 s=true→(zO [] s).length+es.length≤16777215 →
  ∃ u,zY (patF t) es n s=some (.inr u)∧treeB 0 u=true∧∀ r,r ∈ zO [] u ↔ (r ∈ zO [] s∧∀ e ∈ es,rkey r ≠ xS e) ∨ ∃ e ∈ es,e.has=true∧r=⟨e.path,e.is⟩
 | [],n,s,_,_,hs,_=>⟨s,rfl,hs,fun r=>by simp⟩
 | e::es,n,s,h,hp,hs,hw=>by
  obtain ⟨p1,p2⟩:=List.pairwise_cons.1 hp
  simp only [List.length_cons] at hw
  obtain ⟨ho,hf⟩:=h e (by simp)
  obtain ⟨u1,a1,a2,a3,a4⟩:=patF_is ht hok ho hf hs (by omega) n
  obtain ⟨u,b1,b2,b3⟩:=pat_loop ht hok es (n+1) u1 (fun x hx=>h x (by simp [hx])) p2 a2 (by omega)
  refine ⟨u,by rw [zY,a1];exact b1,b2,fun r=>?_⟩
  rw [b3,a4]
  have hkey:e.has=true→∀ x ∈ es,rkey ⟨e.path,e.is⟩ ≠ xS x:=fun hh x hx e2=>by
   have:=p1 x hx
   unfold eLt at this
   rw [← e2] at this
   have e3:rkey ⟨e.path,e.is⟩=xS e:=by unfold rkey xS;rw [(ho.is1 hh).2.2]
   rw [e3,klt_irr] at this;cases this
  constructor
  ·rintro (⟨h1 | h1,h2⟩ | ⟨x,hx,h1⟩)
   ·refine .inl ⟨h1.1,fun x hx=>?_⟩
    rcases List.mem_cons.1 hx with rfl | hx
    ·exact h1.2
    ·exact h2 x hx
   ·exact .inr ⟨e,by simp,h1⟩
   ·exact .inr ⟨x,by simp [hx],h1⟩
  ·rintro (⟨h1,h2⟩ | ⟨x,hx,h1⟩)
   ·exact .inl ⟨.inl ⟨h1,h2 e (by simp)⟩,fun x hx=>h2 x (by simp [hx])⟩
   ·rcases List.mem_cons.1 hx with rfl | hx
    ·exact .inl ⟨.inr h1,fun y hy=>by rw [h1.2];exact hkey h1.1 y hy⟩
    ·exact .inr ⟨x,hx,h1⟩
theorem select_all {t:List GNode} (hs:Small t) (ht:treeB 0 t=true):w6 t [[42,42]]=some (t,0):=by
 have hp:patB [[42,42]]=true:=by decide
 rw [pathsSelect_is hs (by simp [maxLen]),ht,hp]
 have:wC (matchB [[42,42]]) [] t=t:=by
  refine rows_ext (keep_may _ t 0 [] ht) ht fun r=>?_
  rw [keep_rows,List.mem_filter]
  refine ⟨fun h=>h.1,fun h=>⟨h,?_⟩⟩
  have hb:=(rows_ok t 0 [] hs ht rfl rfl r h).path
  unfold matchB
  rw [hb,hp]
  simp [wR,endsB,agreeB]
 simp [this]
theorem patch_is {t:List GNode} (hs:Small t) (ht:treeB 0 t=true) {es:List GEdit} (hw:(zO [] t).length+es.length≤16777215) (h:∀ e ∈ es,EOk e∧EFits t e) (hp:es.Pairwise eLt) :
  ∃ u,vZ t es=some (u,0)∧treeB 0 u=true∧∀ r,r ∈ zO [] u ↔ (r ∈ zO [] t∧∀ e ∈ es,rkey r ≠ xS e) ∨ ∃ e ∈ es,e.has=true∧r=⟨e.path,e.is⟩:=by
 have hok:=fun r hr=>(rows_ok t 0 [] hs ht rfl rfl r hr).ok
 obtain ⟨u,a1,a2,a3⟩:=pat_loop ht hok es 0 t h hp ht hw
 refine ⟨u,?_,a2,a3⟩
 rw [patch_eq,treeMay_is hs,ht,Option.bind_some,if_pos (show ((!true)==false)=true from rfl),diffMay_is (by omega) (fun e he=>(h e he).1) hp,Option.bind_some,if_neg (by decide),select_all hs ht,Option.bind_some,a1,qN]
end Go.Vv
namespace Go.Vv
open Go
def qd (p:List zJ) (k:Int):zJ:=p.flatMap (fun s=>s++[0])++[UInt8.ofNat k.toNat]
theorem inter_flat:∀ (p:List zJ),p ≠ []→([0]:List UInt8).intercalate p++[0]=p.flatMap (fun s=>s++[0])
 | [],h=>absurd rfl h
 | [s],_=>by simp [List.intercalate]
 | s::c::q,_=>by
  have ih:=inter_flat (c::q) (by simp)
  simp only [List.intercalate,List.intersperse] at ih ⊢
  rw [List.flatMap_cons,← ih]
  simp [List.append_assoc]
theorem name_len {s:zJ} (h:nameB s=true):s.length≤12∧∀ b ∈ s,b ≠ 0:=by
 simp only [nameB,Bool.and_eq_true,decide_eq_true_eq,List.all_eq_true] at h
 refine ⟨h.1.2,fun b hb e=>?_⟩
 have:=h.2 b hb
 rw [e] at this;revert this;decide
theorem flatS_len:∀ (p:List zJ),p.all nameB=true→(p.flatMap (fun s=>s++[0])).length≤13 * p.length
 | [],_=>by simp
 | s::p,h=>by
  simp only [List.all_cons,Bool.and_eq_true] at h
  have:=flatS_len p h.2
  have:=(name_len h.1).1
  simp only [List.flatMap_cons,List.length_append,List.length_cons,List.length_nil]
  omega
theorem key_is {p:List zJ} {k:Int} (hp:qz p=true) (hk:1≤k∧k≤4):vW p k=some (qd p k):=by
 obtain ⟨p1,p2,p3⟩:=vL hp
 have h1:=inter_flat p p1
 have h2:=flatS_len p p3
 have h3:(([0]:List UInt8).intercalate p).length≤40:=by
  have:=congrArg List.length h1
  simp only [List.length_append,List.length_cons,List.length_nil] at this
  omega
 unfold vW stringsJoin strJoin Lib.join
 rw [if_pos ⟨by omega,by omega⟩,Option.bind_some,yB (by simp [maxLen];omega),yB (by omega),yB (by simp [maxLen]),yB (by simp [maxLen];omega),h1]
 rfl
theorem flat_inj:∀ (p q:List zJ),p.all nameB=true→q.all nameB=true→p.flatMap (fun s=>s++[(0:UInt8)])=q.flatMap (fun s=>s++[0])→p=q
 | [],[],_,_,_=>rfl
 | [],s::q,_,_,h=>by simp at h
 | s::p,[],_,_,h=>by simp at h
 | s::p,c::q,h1,h2,h=>by
  simp only [List.all_cons,Bool.and_eq_true] at h1 h2
  simp only [List.flatMap_cons,List.append_assoc,List.singleton_append] at h
  have a1:=(name_len h1.1).2
  have a2:=(name_len h2.1).2
  have tw:∀ (s:zJ) (r:List UInt8),(∀ b ∈ s,b ≠ 0)→(s++0::r).takeWhile (fun b=>decide (b ≠ 0))=s:=fun s r hs=>by
   rw [List.takeWhile_append_of_pos (fun b hb=>by simp [hs b hb])];simp
  have e:s=c:=by rw [← tw s _ a1,← tw c _ a2,h]
  subst e
  have h:=List.append_cancel_left h
  injection h with _ h
  rw [flat_inj p q h1.2 h2.2 h]
theorem key_inj {p q:List zJ} {k j:Int} (hp:qz p=true) (hq:qz q=true) (hk:1≤k∧k≤4) (hj:1≤j∧j≤4) (h:qd p k=qd q j):p=q∧k=j:=by
 unfold qd at h
 have h1:=List.append_inj_left' h rfl
 have h2:=List.append_inj_right' h rfl
 refine ⟨flat_inj p q (vL hp).2.2 (vL hq).2.2 h1,?_⟩
 injection h2 with h2 _
 have:=congrArg UInt8.toNat h2
 simp at this
 omega
section
variable {W:Type}
def mnd (m:List (zJ×W)):Prop:=m.Pairwise fun x y=>x.1 ≠ y.1
def sEq:zJ→zJ→Bool:=fun a b=>a==b
theorem sEq_iff {a b:zJ}:sEq a b=true ↔ a=b:=by unfold sEq;simp
theorem mem_put {k:zJ} {v:W}:∀ {m:List (zJ×W)},mnd m→∀ y,y ∈ wd sEq m k v ↔ (y ∈ m∧y.1 ≠ k) ∨ y=(k,v)
 | [],_,y=>by simp [wd]
 | e::r,h,y=>by
  obtain ⟨h1,h2⟩:=List.pairwise_cons.1 h
  simp only [wd]
  by_cases hk:k=e.1
  ·subst hk
   rw [if_pos (sEq_iff.2 rfl)]
   simp only [List.mem_cons]
   constructor
   ·rintro (h | h)
    ·exact .inr h
    ·exact .inl ⟨.inr h,fun e2=>h1 y h e2.symm⟩
   ·rintro (⟨h | h,h3⟩ | h)
    ·exact (h3 (by rw [h])).elim
    ·exact .inr h
    ·exact .inl h
  ·have ih:=mem_put (k:=k) (v:=v) h2 y
   rw [if_neg (fun e=>hk (sEq_iff.1 e)),List.mem_cons,ih,List.mem_cons]
   constructor
   ·rintro (h | h | h)
    ·exact .inl ⟨.inl h,by rw [h];exact fun e=>hk e.symm⟩
    ·exact .inl ⟨.inr h.1,h.2⟩
    ·exact .inr h
   ·rintro (⟨h | h,h3⟩ | h)
    ·exact .inl h
    ·exact .inr (.inl ⟨h,h3⟩)
    ·exact .inr (.inr h)
theorem mnd_put {k:zJ} {v:W}:∀ {m:List (zJ×W)},mnd m→mnd (wd sEq m k v)
 | [],_=>by simp [wd,mnd]
 | e::r,h=>by
  obtain ⟨h1,h2⟩:=List.pairwise_cons.1 h
  simp only [wd]
  by_cases hk:k=e.1
  ·subst hk
   rw [if_pos (sEq_iff.2 rfl)]
   exact List.pairwise_cons.2 ⟨h1,h2⟩
  ·rw [if_neg (fun e=>hk (sEq_iff.1 e))]
   refine List.pairwise_cons.2 ⟨fun y hy=>?_,mnd_put h2⟩
   rcases (mem_put h2 y).1 hy with ⟨h3,_⟩ | h3
   ·exact h1 y h3
   ·rw [h3];exact fun e=>hk e.symm
theorem get_mem {d:W} {x:zJ×W}:∀ {m:List (zJ×W)},mnd m→x ∈ m→zT sEq d m x.1=x.2
 | [],_,h=>by simp at h
 | e::r,h,hx=>by
  obtain ⟨h1,h2⟩:=List.pairwise_cons.1 h
  simp only [zT]
  rcases List.mem_cons.1 hx with rfl | hx
  ·rw [if_pos (sEq_iff.2 rfl)]
  ·rw [if_neg (fun e2=>h1 x hx (sEq_iff.1 e2).symm)]
   exact get_mem h2 hx
theorem get_not {d:W} {k:zJ}:∀ {m:List (zJ×W)},(∀ x ∈ m,x.1 ≠ k)→zT sEq d m k=d
 | [],_=>rfl
 | e::r,h=>by
  simp only [zT]
  rw [if_neg (fun e2=>h e (by simp) (sEq_iff.1 e2).symm)]
  exact get_not fun x hx=>h x (by simp [hx])
end
structure Side (rs:List GRow) (p:List zJ) (k:Int) (there:Bool) (l:GLeaf):Prop where
 on:there=true→GRow.mk p l ∈ rs∧l.typ=k
 off:there=false→l=leaf0∧∀ r ∈ rs,rkey r ≠ (p,k)
structure EdOf (ra rb:List GRow) (e:GEdit):Prop where
 any:e.had=true ∨ e.has=true
 a:Side ra e.path e.typ e.had e.was
 b:Side rb e.path e.typ e.has e.is
theorem Side.one {rs:List GRow} (h:rs.Pairwise fun r q=>kltB (rkey r) (rkey q)=true) {p:List zJ} {k:Int} {x y:Bool} {l m:GLeaf} (s1:Side rs p k x l) (s2:Side rs p k y m):x=y∧l=m:=by
 cases x with
 | true =>
  obtain ⟨a1,a2⟩:=s1.on rfl
  cases y with
  | true =>
   obtain ⟨b1,b2⟩:=s2.on rfl
   have:=sorted_key h a1 b1 (by unfold rkey;rw [a2,b2])
   injection this with _ e
   exact ⟨rfl,e⟩
  | false=>exact ((s2.off rfl).2 _ a1 (by unfold rkey;rw [a2])).elim
 | false =>
  cases y with
  | true =>
   obtain ⟨b1,b2⟩:=s2.on rfl
   exact ((s1.off rfl).2 _ b1 (by unfold rkey;rw [b2])).elim
  | false=>exact ⟨rfl,(s1.off rfl).1.trans (s2.off rfl).1.symm⟩
theorem EdOf.one {ra rb:List GRow} (ha:ra.Pairwise fun r q=>kltB (rkey r) (rkey q)=true) (hb:rb.Pairwise fun r q=>kltB (rkey r) (rkey q)=true) {e f:GEdit} (h1:EdOf ra rb e) (h2:EdOf ra rb f) (h:xS e=xS f):e=f:=by
 have hp:e.path=f.path:=congrArg Prod.fst h
 have ht:e.typ=f.typ:=congrArg Prod.snd h
 obtain ⟨a1,a2⟩:=h1.a.one ha (by rw [hp,ht];exact h2.a)
 obtain ⟨b1,b2⟩:=h1.b.one hb (by rw [hp,ht];exact h2.b)
 cases e;cases f
 simp only at hp ht a1 a2 b1 b2
 subst hp ht a1 a2 b1 b2;rfl
theorem Side.more {rs:List GRow} {p:List zJ} {k:Int} {there:Bool} {l:GLeaf} (h:Side rs p k there l) {r:GRow} (hr:rkey r ≠ (p,k)):Side (rs++[r]) p k there l :=
 ⟨fun h1=>⟨by simp [(h.on h1).1],(h.on h1).2⟩,fun h1=>⟨(h.off h1).1,fun q hq=>by
  rcases List.mem_append.1 hq with hq | hq
  ·exact (h.off h1).2 q hq
  ·simp only [List.mem_singleton] at hq;rw [hq];exact hr⟩⟩
def RKey (r:GRow):Prop:=qz r.path=true∧1≤r.leaf.typ∧r.leaf.typ≤4
structure MInv (ra rb:List GRow) (m:List (zJ×GEdit)):Prop where
 nd:mnd m
 ed:∀ x ∈ m,EdOf ra rb x.2∧x.1=qd x.2.path x.2.typ∧qz x.2.path=true∧1≤x.2.typ∧x.2.typ≤4
 ca:∀ r ∈ ra,∃ x ∈ m,xS x.2=rkey r
 cb:∀ r ∈ rb,∃ x ∈ m,xS x.2=rkey r
theorem MInv.nil:MInv [] [] []:=⟨List.Pairwise.nil,by simp,by simp,by simp⟩
theorem MInv.key {ra rb:List GRow} {m:List (zJ×GEdit)} (h:MInv ra rb m) {r:GRow} (hr:RKey r) {x:zJ×GEdit} (hx:x ∈ m):x.1=qd r.path r.leaf.typ ↔ xS x.2=rkey r:=by
 obtain ⟨_,h1,h2,h3⟩:=h.ed x hx
 constructor
 ·intro e
  rw [h1] at e
  obtain ⟨e1,e2⟩:=key_inj h2 hr.1 h3 hr.2 e
  unfold xS rkey;rw [e1,e2]
 ·intro e
  have e1:x.2.path=r.path:=congrArg Prod.fst e
  have e2:x.2.typ=r.leaf.typ:=congrArg Prod.snd e
  rw [h1,e1,e2]
def edA (r:GRow):GEdit:=GEdit.mk r.path r.leaf.typ true false r.leaf leaf0
theorem MInv.stepA {ra:List GRow} {m:List (zJ×GEdit)} (h:MInv ra [] m) {r:GRow} (hr:RKey r) (hn:∀ q ∈ ra,rkey q ≠ rkey r):MInv (ra++[r]) [] (wd sEq m (qd r.path r.leaf.typ) (edA r)):=by
 have hm:=mem_put (k:=qd r.path r.leaf.typ) (v:=edA r) h.nd
 have hself:(qd r.path r.leaf.typ,edA r) ∈ wd sEq m (qd r.path r.leaf.typ) (edA r):=(hm _).2 (.inr rfl)
 refine ⟨mnd_put h.nd,fun x hx=>?_,fun q hq=>?_,by simp⟩
 ·rcases (hm x).1 hx with ⟨h1,h2⟩ | rfl
  ·obtain ⟨e1,e2⟩:=h.ed x h1
   have hk:rkey r ≠ (x.2.path,x.2.typ):=fun e=>h2 ((h.key hr h1).2 e.symm)
   exact ⟨⟨e1.any,e1.a.more hk,e1.b⟩,e2⟩
  ·refine ⟨⟨.inl rfl,⟨fun _=>⟨by simp [edA],rfl⟩,fun h=>(by cases h)⟩,⟨fun h=>(by cases h),fun _=>⟨rfl,by simp⟩⟩⟩,rfl,hr.1,hr.2⟩
 ·rcases List.mem_append.1 hq with hq | hq
  ·obtain ⟨x,hx,e⟩:=h.ca q hq
   exact ⟨x,(hm x).2 (.inl ⟨hx,fun e2=>hn q hq (by rw [← e];exact (h.key hr hx).1 e2)⟩),e⟩
  ·simp only [List.mem_singleton] at hq;subst hq
   exact ⟨_,hself,rfl⟩
def ed0:GEdit:=GEdit.mk ([]:List zJ) (0:Int) false false leaf0 leaf0
def edB (g:GEdit) (r:GRow):GEdit:=GEdit.mk r.path r.leaf.typ g.had true g.was r.leaf
theorem MInv.stepB {ra rb:List GRow} {m:List (zJ×GEdit)} (h:MInv ra rb m) {r:GRow} (hr:RKey r) (hn:∀ q ∈ rb,rkey q ≠ rkey r):MInv ra (rb++[r]) (wd sEq m (qd r.path r.leaf.typ) (edB (zT sEq ed0 m (qd r.path r.leaf.typ)) r)):=by
 have hg:∃ g,zT sEq ed0 m (qd r.path r.leaf.typ)=g∧Side ra r.path r.leaf.typ g.had g.was:=by
  by_cases hx:∃ x ∈ m,x.1=qd r.path r.leaf.typ
  ·obtain ⟨x,hx,e⟩:=hx
   refine ⟨x.2,by rw [← e];exact get_mem h.nd hx,?_⟩
   have e2:=(h.key hr hx).1 e
   have e3:x.2.path=r.path:=congrArg Prod.fst e2
   have e4:x.2.typ=r.leaf.typ:=congrArg Prod.snd e2
   rw [← e3,← e4];exact (h.ed x hx).1.a
  ·refine ⟨ed0,get_not fun x hx2 e=>hx ⟨x,hx2,e⟩,⟨fun h=>(by cases h),fun _=>⟨rfl,fun q hq e=>?_⟩⟩⟩
   obtain ⟨x,hx2,e2⟩:=h.ca q hq
   exact hx ⟨x,hx2,(h.key hr hx2).2 (by rw [e2,e];rfl)⟩
 obtain ⟨g,hg,hs⟩:=hg
 rw [hg]
 have hm:=mem_put (k:=qd r.path r.leaf.typ) (v:=edB g r) h.nd
 have hself:(qd r.path r.leaf.typ,edB g r) ∈ wd sEq m (qd r.path r.leaf.typ) (edB g r):=(hm _).2 (.inr rfl)
 have keep:∀ (q:GRow) (x:zJ×GEdit),x ∈ m→xS x.2=rkey q→∃ x ∈ wd sEq m (qd r.path r.leaf.typ) (edB g r),xS x.2=rkey q:=fun q x hx e=>by
  by_cases hk:x.1=qd r.path r.leaf.typ
  ·exact ⟨_,hself,by rw [← e,(h.key hr hx).1 hk];rfl⟩
  ·exact ⟨x,(hm x).2 (.inl ⟨hx,hk⟩),e⟩
 refine ⟨mnd_put h.nd,fun x hx=>?_,fun q hq=>?_,fun q hq=>?_⟩
 ·rcases (hm x).1 hx with ⟨h1,h2⟩ | rfl
  ·obtain ⟨e1,e2⟩:=h.ed x h1
   have hk:rkey r ≠ (x.2.path,x.2.typ):=fun e=>h2 ((h.key hr h1).2 e.symm)
   exact ⟨⟨e1.any,e1.a,e1.b.more hk⟩,e2⟩
  ·exact ⟨⟨.inr rfl,hs,⟨fun _=>⟨by simp [edB],rfl⟩,fun h=>(by cases h)⟩⟩,rfl,hr.1,hr.2⟩
 ·obtain ⟨x,hx,e⟩:=h.ca q hq
  exact keep q x hx e
 ·rcases List.mem_append.1 hq with hq | hq
  ·obtain ⟨x,hx,e⟩:=h.cb q hq
   exact keep q x hx e
  ·simp only [List.mem_singleton] at hq;subst hq
   exact ⟨_,hself,rfl⟩
end Go.Vv
namespace Go.Vv
open Go
theorem put_len {W:Type} {k:zJ} {v:W}:∀ (m:List (zJ×W)),(wd sEq m k v).length≤m.length+1
 | []=>by simp [wd]
 | e::r=>by
  have:=put_len (k:=k) (v:=v) r
  simp only [wd]
  split <;> simp only [List.length_cons] <;> omega
def kSorted (rs:List GRow):Prop:=rs.Pairwise fun r q=>kltB (rkey r) (rkey q)=true
theorem kSorted.ne {done rs:List GRow} {r:GRow} (h:kSorted (done++r::rs)):∀ q ∈ done,rkey q ≠ rkey r:=fun q hq e=>by
 have:=(List.pairwise_append.1 h).2.2 q hq r (by simp)
 rw [e,klt_irr] at this;cases this
theorem loopA {f:Nat→GRow→List (zJ×GEdit)→Option (Out (List GEdit×Int) (List (zJ×GEdit)))} (hf:∀ i x s,RKey x→f i x s=some (.nxt (wd sEq s (qd x.path x.leaf.typ) (edA x)))):∀ (rs done:List GRow) (n:Nat) (m:List (zJ×GEdit)),kSorted (done++rs)→(∀ r ∈ rs,RKey r)→MInv done [] m →
  ∃ m',zY f rs n m=some (.inr m')∧MInv (done++rs) [] m'∧m'.length≤m.length+rs.length
 | [],done,n,m,_,_,h=>⟨m,rfl,by simpa using h,Nat.le_refl _⟩
 | r::rs,done,n,m,hs,hr,h=>by
  have h1:=h.stepA (hr r (by simp)) hs.ne
  obtain ⟨m',e1,e2,e3⟩:=loopA hf rs (done++[r]) (n+1) _ (by simpa using hs) (fun q hq=>hr q (by simp [hq])) h1
  refine ⟨m',by rw [zY,hf _ _ _ (hr r (by simp))];exact e1,by simpa using e2,?_⟩
  have:=put_len (k:=qd r.path r.leaf.typ) (v:=edA r) m
  simp only [List.length_cons];omega
theorem loopB {ra:List GRow} {f:Nat→GRow→List (zJ×GEdit)→Option (Out (List GEdit×Int) (List (zJ×GEdit)))} (hf:∀ i x s,RKey x→f i x s=some (.nxt (wd sEq s (qd x.path x.leaf.typ) (edB (zT sEq ed0 s (qd x.path x.leaf.typ)) x)))):∀ (rs done:List GRow) (n:Nat) (m:List (zJ×GEdit)),kSorted (done++rs)→(∀ r ∈ rs,RKey r)→MInv ra done m →
  ∃ m',zY f rs n m=some (.inr m')∧MInv ra (done++rs) m'∧m'.length≤m.length+rs.length
 | [],done,n,m,_,_,h=>⟨m,rfl,by simpa using h,Nat.le_refl _⟩
 | r::rs,done,n,m,hs,hr,h=>by
  have h1:=h.stepB (hr r (by simp)) hs.ne
  obtain ⟨m',e1,e2,e3⟩:=loopB hf rs (done++[r]) (n+1) _ (by simpa using hs) (fun q hq=>hr q (by simp [hq])) h1
  refine ⟨m',by rw [zY,hf _ _ _ (hr r (by simp))];exact e1,by simpa using e2,?_⟩
  have:=put_len (k:=qd r.path r.leaf.typ) (v:=edB (zT sEq ed0 m (qd r.path r.leaf.typ)) r) m
  simp only [List.length_cons];omega
def chgB (e:GEdit):Bool:=!((e.had==e.has)&&decide (e.was=e.is))
structure CopyOk (e:GEdit):Prop where
 path:e.path.length≤16777216
 was:LeafOk e.was
 is:LeafOk e.is
theorem copied_is {e:GEdit} (h:CopyOk e):qn e=some e:=by
 unfold qn
 rw [cloneString_is (qk (Nat.le_succ_of_le h.path)),Option.bind_some,own_is h.was,Option.bind_some,own_is h.is];rfl
noncomputable def sortedF:Nat→(zJ×GEdit)→List GEdit→Option (Out (List GEdit) (List GEdit)):=(fun (_:Nat) (x1:(zJ×GEdit)) (s1:(List GEdit))=>(((if ((x1.2.had==x1.2.has)==true)=true then wB x1.2.was x1.2.is else some default).bind fun v7=>(if (!((x1.2.had==x1.2.has)&&v7))=true then ((qn x1.2).bind fun v9=>(vq ((s1).length+(([v9]:List GEdit)).length≤qB) (some (.nxt (s1++([v9]:List GEdit)))))) else some (.nxt s1)))))
theorem sorted_eq (m:List (zJ×GEdit)):q8 m=(allP m fun p1=>lp (zY sortedF p1 0 ([]:List GEdit)) fun (s1:(List GEdit))=>((sortO (fun x y=>ql x y) s1).bind fun v11=>some v11)):=rfl
theorem sortedF_is {x:zJ×GEdit} (h:CopyOk x.2) {s:List GEdit} (hs:s.length≤16777216) (n:Nat):sortedF n x s=some (.nxt (if chgB x.2=true then s++[x.2] else s)):=by
 unfold sortedF chgB
 rw [leafSame_is,copied_is h]
 cases e:(x.2.had==x.2.has) with
 | false =>
  simp only [Bool.false_and,Bool.not_false,if_true]
  have:((false==true)=true)=False:=by simp
  simp only [this,if_false,Option.bind_some]
  rw [yB (qk (by simp;omega))]
 | true =>
  simp only [beq_self_eq_true,if_true,Option.bind_some,Bool.true_and]
  cases e2:decide (x.2.was=x.2.is) with
  | false =>
   simp only [Bool.not_false,if_true]
   rw [yB (qk (by simp;omega))]
  | true=>simp
theorem sorted_loop:∀ (p:List (zJ×GEdit)) (n:Nat) (s:List GEdit),(∀ x ∈ p,CopyOk x.2)→s.length+p.length≤16777216→zY sortedF p n s=some (.inr (s++(p.map (·.2)).filter chgB))
 | [],n,s,_,_=>by simp [zY]
 | x::p,n,s,h,hl=>by
  simp only [List.length_cons] at hl
  rw [zY,sortedF_is (h x (by simp)) (by omega)]
  simp only []
  rw [List.map_cons,List.filter_cons]
  split
  ·rw [sorted_loop p (n+1) (s++[x.2]) (fun y hy=>h y (by simp [hy])) (by simp;omega),List.append_assoc];rfl
  ·rw [sorted_loop p (n+1) s (fun y hy=>h y (by simp [hy])) (by omega)]
theorem leaf0_ok:LeafOk leaf0:=⟨by simp [leaf0],by simp [leaf0],by simp [leaf0]⟩
theorem sorted_is {m:List (zJ×GEdit)} (hl:m.length≤16777216) (hc:∀ x ∈ m,CopyOk x.2) (hk:m.Pairwise fun x y=>xS x.2 ≠ xS y.2):∃ R,q8 m=some R∧R.Pairwise eLt∧R.length≤m.length∧∀ e,e ∈ R ↔ (∃ x ∈ m,x.2=e)∧chgB e=true:=by
 have tr:∀ x y z,eLt x y→eLt y z→eLt x z:=fun _ _ _=>klt_trans
 have hmk:((m.map (·.2)).filter chgB).Pairwise fun x y=>eLt x y ∨ eLt y x:=by
  refine List.Pairwise.filter _ (List.pairwise_map.2 (hk.imp fun h=>?_))
  rcases klt_tot _ _ with e | e | e
  ·exact (h e).elim
  ·exact .inl e
  ·exact .inr e
 obtain ⟨R,hp,hs⟩:=exists_sorted tr _ hmk
 have hmem:∀ e,e ∈ R ↔ (∃ x ∈ m,x.2=e)∧chgB e=true:=fun e=>by
  rw [hp.mem_iff,List.mem_filter,List.mem_map]
 refine ⟨R,?_,hs,?_,hmem⟩
 ·rw [sorted_eq]
  refine allP_of fun p hpm=>?_
  rw [sorted_loop p 0 [] (fun x hx=>hc x (hpm.mem_iff.1 hx)) (by rw [hpm.length_eq];simpa using hl),qN,List.nil_append]
  have hpp:((p.map (·.2)).filter chgB).Perm ((m.map (·.2)).filter chgB):=(hpm.map _).filter _
  have hlen:((p.map (·.2)).filter chgB).length≤m.length:=by
   rw [hpp.length_eq];exact Nat.le_trans (List.length_filter_le _ _) (by simp)
  rw [sortO_lt (α:=GEdit) (cf:=ordI) (lt:=eLt) (R:=R) (fun x _ y _=>order_is x y) (fun x y=>ordI_lt) (fun x h=>by unfold eLt at h;rw [klt_irr] at h;cases h) tr (fun x hx y hy=>?_) (hp.trans hpp.symm) hs (qk (by omega))]
  ·rfl
  ·have hx:=hpp.mem_iff.1 hx
   have hy:=hpp.mem_iff.1 hy
   rcases klt_tot (xS x) (xS y) with e | e | e
   ·left
    have hx:=hp.mem_iff.2 hx
    have hy:=hp.mem_iff.2 hy
    exact sorted_key (key:=xS) hs hx hy e
   ·exact .inr (.inl e)
   ·exact .inr (.inr e)
 ·rw [hp.length_eq];exact Nat.le_trans (List.length_filter_le _ _) (by simp)
noncomputable def dA:Nat→GRow→List (zJ×GEdit)→Option (Out (List GEdit×Int) (List (zJ×GEdit))):=(fun (n1:Nat) (x1:GRow) (s1:List (zJ×GEdit))=>(((vW x1.path x1.leaf.typ).bind fun v11=>some (.nxt (wd (fun a b=>a==b) s1 v11 (GEdit.mk x1.path x1.leaf.typ true false x1.leaf yw))))))
noncomputable def dB:Nat→GRow→List (zJ×GEdit)→Option (Out (List GEdit×Int) (List (zJ×GEdit))):=(fun (n2:Nat) (x2:GRow) (s2:List (zJ×GEdit))=>(((vW x2.path x2.leaf.typ).bind fun v20=>((vW x2.path x2.leaf.typ).bind fun v21=>some (.nxt (wd (fun a b=>a==b) s2 v21 (GEdit.mk x2.path x2.leaf.typ ((zT (fun a b=>a==b) (GEdit.mk ([]:List zJ) (0:Int) false false yw yw) s2 v20).had) true ((zT (fun a b=>a==b) (GEdit.mk ([]:List zJ) (0:Int) false false yw yw) s2 v20).was) x2.leaf)))))))
theorem diff_eq (a0 b1:List GNode):diffDiff a0 b1=((qr a0).bind fun v1=>((if ((!v1)==false)=true then qr b1 else some default).bind fun v2=>(if ((!v1) || (!v2))=true then some (([]:List GEdit),(2:Int)) else ((qV a0).bind fun v4=>(lp (zY dA v4 0 ([]:List (zJ×GEdit))) fun (s1:List (zJ×GEdit))=>((qV b1).bind fun v12=>(lp (zY dB v12 0 s1) fun (s2:List (zJ×GEdit))=>((q8 s2).bind fun v22=>some (v22,(0:Int)))))))))):=rfl
theorem rows_key {t:List GNode} (hs:Small t) (ht:treeB 0 t=true):∀ r ∈ zO [] t,RKey r:=fun r hr=>by
 have:=rows_ok t 0 [] hs ht rfl rfl r hr
 exact ⟨this.path,leaf_typ this.leaf⟩
theorem dA_is (i:Nat) (x:GRow) (s:List (zJ×GEdit)) (h:RKey x):dA i x s=some (.nxt (wd sEq s (qd x.path x.leaf.typ) (edA x))):=by
 unfold dA;rw [key_is h.1 h.2];rfl
theorem dB_is (i:Nat) (x:GRow) (s:List (zJ×GEdit)) (h:RKey x):dB i x s=some (.nxt (wd sEq s (qd x.path x.leaf.typ) (edB (zT sEq ed0 s (qd x.path x.leaf.typ)) x))):=by
 unfold dB;rw [key_is h.1 h.2];rfl
theorem side_ok {t:List GNode} (hs:Small t) (ht:treeB 0 t=true) {p:List zJ} {k:Int} {there:Bool} {l:GLeaf} (h:Side (zO [] t) p k there l):LeafOk l:=by
 cases there with
 | true=>exact (rows_ok t 0 [] hs ht rfl rfl _ (h.on rfl).1).ok
 | false=>rw [(h.off rfl).1];exact leaf0_ok
theorem rows_small {t:List GNode} (hs:Small t):(zO [] t).length≤GNode.bks t:=rows_len _ t [] (Nat.le_refl _)
theorem diff_is {a b:List GNode} (ha:Small a) (hb:Small b) (ta:treeB 0 a=true) (tb:treeB 0 b=true) (hl:GNode.bks a+GNode.bks b≤16777216) :
  ∃ R,diffDiff a b=some (R,0)∧R.Pairwise eLt∧R.length≤(zO [] a).length+(zO [] b).length∧∀ e,e ∈ R ↔ EdOf (zO [] a) (zO [] b) e∧chgB e=true:=by
 have sa:=wF ta []
 have sb:=wF tb []
 obtain ⟨m1,a1,a2,a3⟩:=loopA dA_is (zO [] a) [] 0 [] sa (rows_key ha ta) MInv.nil
 obtain ⟨m2,b1,b2,b3⟩:=loopB dB_is (zO [] b) [] 0 m1 sb (rows_key hb tb) a2
 simp only [List.nil_append,List.length_nil,Nat.zero_add] at a2 a3 b2
 have l1:=rows_small ha
 have l2:=rows_small hb
 have hkk:m2.Pairwise fun x y=>xS x.2 ≠ xS y.2:=by
  refine List.Pairwise.imp_of_mem ?_ b2.nd
  intro x y hx hy h e
  apply h
  rw [(b2.ed x hx).2.1,(b2.ed y hy).2.1]
  have e1:x.2.path=y.2.path:=congrArg Prod.fst e
  have e2:x.2.typ=y.2.typ:=congrArg Prod.snd e
  rw [e1,e2]
 obtain ⟨R,r1,r2,r3,r4⟩:=sorted_is (m:=m2) (by omega) (fun x hx=>by
  obtain ⟨e1,_,e3,_⟩:=b2.ed x hx
  exact ⟨by have:=(vL e3).2.1;omega,side_ok ha ta e1.a,side_ok hb tb e1.b⟩) hkk
 refine ⟨R,?_,r2,by omega,fun e=>?_⟩
 ·rw [diff_eq,treeMay_is ha,ta,Option.bind_some,if_pos (show ((!true)==false)=true from rfl),treeMay_is hb,tb,Option.bind_some,if_neg (by decide),pathsRows_is ha,ta,if_pos rfl,Option.bind_some,a1,qN,pathsRows_is hb,tb,if_pos rfl,Option.bind_some,b1,qN,r1];rfl
 ·rw [r4]
  constructor
  ·rintro ⟨⟨x,hx,rfl⟩,h⟩
   exact ⟨(b2.ed x hx).1,h⟩
  ·rintro ⟨h,hc⟩
   refine ⟨?_,hc⟩
   have:∃ x ∈ m2,xS x.2=xS e:=by
    rcases h.any with h1 | h1
    ·obtain ⟨c1,c2⟩:=h.a.on h1
     obtain ⟨x,hx,e2⟩:=b2.ca _ c1
     exact ⟨x,hx,by rw [e2];unfold rkey xS;rw [c2]⟩
    ·obtain ⟨c1,c2⟩:=h.b.on h1
     obtain ⟨x,hx,e2⟩:=b2.cb _ c1
     exact ⟨x,hx,by rw [e2];unfold rkey xS;rw [c2]⟩
   obtain ⟨x,hx,e2⟩:=this
   exact ⟨x,hx,(b2.ed x hx).1.one sa sb h e2⟩
end Go.Vv
namespace Go.Vv
open Go
noncomputable def s7F (n:Nat) (t u:List GNode):Nat→GNode→Unit→Option (Out Bool Unit):=(fun (n1:Nat) (x1:GNode) (s1:Unit)=>(((idx u (n1:Int)).bind fun y41=>(vq (((!(x1.name==y41.name))==false)=true→0≤(n1:Int)∧(n1:Int) < ((t).length:Int)) ((vq (((!(x1.name==y41.name))==false)=true→0≤(n1:Int)∧(n1:Int) < ((u).length:Int)) ((vq ((((!(x1.name==y41.name)) || (((((t).getD (n1:Int).toNat default).leaves).length:Int) != ((((u).getD (n1:Int).toNat default).leaves).length:Int)))==false)=true→0≤(n1:Int)∧(n1:Int) < ((t).length:Int)) ((vq ((((!(x1.name==y41.name)) || (((((t).getD (n1:Int).toNat default).leaves).length:Int) != ((((u).getD (n1:Int).toNat default).leaves).length:Int)))==false)=true→0≤(n1:Int)∧(n1:Int) < ((u).length:Int)) (((if (((!(x1.name==y41.name)) || (((((t).getD (n1:Int).toNat default).leaves).length:Int) != ((((u).getD (n1:Int).toNat default).leaves).length:Int)))==false)=true then qh n (((t).getD (n1:Int).toNat default).subs) (((u).getD (n1:Int).toNat default).subs) else some default).bind fun v48=>(if (((!(x1.name==y41.name)) || (((((t).getD (n1:Int).toNat default).leaves).length:Int) != ((((u).getD (n1:Int).toNat default).leaves).length:Int))) || (!v48))=true then some (.ret false) else (lp (zY (fun (n2:Nat) (x2:GLeaf) (s2:Unit)=>(((idx u (n1:Int)).bind fun y60=>((idx y60.leaves (n2:Int)).bind fun y61=>((ref05Same x2 y61).bind fun v62=>(if (!v62)=true then some (.ret (.ret false)) else some (.nxt ()))))):Option (Out (Out Bool Unit) Unit))) x1.leaves 0 ()) fun (s2:Unit)=>some (.nxt ()))))))))))))):Option (Out Bool Unit)))
end Go.Vv
namespace Go.Vv
open Go
theorem great31_nil:ref31Great []=some false:=by unfold ref31Great;simp [zY,lp]
theorem great_is {a b c:List GNode} (ha:Small a) (hb:Small b) (hc:Small c):∃ v,qY a b c [] []=some v:=by
 obtain ⟨v1,e1⟩:=ref07Great_tot ha
 obtain ⟨v2,e2⟩:=ref07Great_tot hb
 obtain ⟨v3,e3⟩:=ref07Great_tot hc
 unfold qY
 rw [e1,e2,e3,great31_nil]
 cases v1 <;> cases v2 <;> cases v3 <;> exact ⟨_,rfl⟩
theorem Side.ok {t:List GNode} (hs:Small t) (ht:treeB 0 t=true) {p:List zJ} {k:Int} {there:Bool} {l:GLeaf} (h:Side (zO [] t) p k there l):there=true→leafB l=true∧LeafOk l∧l.typ=k:=fun h1=>by
 obtain ⟨a1,a2⟩:=h.on h1
 have:=rows_ok t 0 [] hs ht rfl rfl _ a1
 exact ⟨this.leaf,this.ok,a2⟩
theorem Side.rkey {t:List GNode} (hs:Small t) (ht:treeB 0 t=true) {p:List zJ} {k:Int} {l:GLeaf} (h:Side (zO [] t) p k true l):qz p=true∧1≤k∧k≤4:=by
 obtain ⟨a1,a2⟩:=h.on rfl
 have:=rows_key hs ht _ a1
 unfold RKey at this
 rw [a2] at this;exact this
theorem chg_ne {e:GEdit} (h:chgB e=true) (h1:e.had=true) (h2:e.has=true):e.was ≠ e.is:=fun h3=>by
 unfold chgB at h
 rw [h1,h2,h3] at h;simp at h
theorem EdOf.eok {a b:List GNode} (ha:Small a) (hb:Small b) (ta:treeB 0 a=true) (tb:treeB 0 b=true) {e:GEdit} (h:EdOf (zO [] a) (zO [] b) e) (hc:chgB e=true):EOk e:=by
 have hk:qz e.path=true∧1≤e.typ∧e.typ≤4:=by
  rcases h.any with h1 | h1
  ·have:=h.a;rw [h1] at this;exact this.rkey ha ta
  ·have:=h.b;rw [h1] at this;exact this.rkey hb tb
 exact ⟨hk.1,hk.2,h.any,chg_ne hc,h.a.ok ha ta,fun h0=>(h.a.off h0).1,h.b.ok hb tb,fun h0=>(h.b.off h0).1⟩
theorem EdOf.fits {a b:List GNode} {e:GEdit} (h:EdOf (zO [] a) (zO [] b) e):EFits a e:=⟨fun h1=>(h.a.on h1).1,fun h1=>(h.a.off h1).2⟩
def turnE (e:GEdit):GEdit:=GEdit.mk e.path e.typ e.has e.had e.is e.was
theorem EdOf.turn {ra rb:List GRow} {e:GEdit} (h:EdOf ra rb e):EdOf rb ra (turnE e):=⟨h.any.symm,h.b,h.a⟩
theorem chg_turn (e:GEdit):chgB (turnE e)=chgB e:=by
 unfold chgB turnE
 simp only []
 rw [Bool.beq_comm,decide_eq_decide.2 (eq_comm (a:=e.is) (b:=e.was))]
theorem EdOf.copy {a b:List GNode} (ha:Small a) (hb:Small b) (ta:treeB 0 a=true) (tb:treeB 0 b=true) {e:GEdit} (h:EdOf (zO [] a) (zO [] b) e) (hc:chgB e=true):CopyOk e :=
 ⟨by have:=(vL (h.eok ha hb ta tb hc).path).2.1;omega,side_ok ha ta h.a,side_ok hb tb h.b⟩
theorem turn_loop {f:Nat→GEdit→List GEdit→Option (Out (List GEdit) (List GEdit))} (hf:∀ i x s,CopyOk x→s.length≤16777216→f i x s=some (.nxt (s++[turnE x]))):∀ (L:List GEdit) (n:Nat) (s:List GEdit),(∀ x ∈ L,CopyOk x)→s.length+L.length≤16777216→zY f L n s=some (.inr (s++L.map turnE))
 | [],n,s,_,_=>by simp [zY]
 | x::L,n,s,h,hl=>by
  simp only [List.length_cons] at hl
  rw [zY,hf n x s (h x (by simp)) (by omega)]
  simp only []
  rw [turn_loop hf L (n+1) (s++[turnE x]) (fun y hy=>h y (by simp [hy])) (by simp;omega)]
  simp
theorem turn_is {L:List GEdit} (hl:L.length≤16777216) (h:∀ x ∈ L,CopyOk x):diffTurn L=some (L.map turnE):=by
 unfold diffTurn
 rw [turn_loop (fun i x s hc hs=>by rw [copied_is hc,Option.bind_some,yB (qk (by simp;omega))];rfl) L 0 [] h (by simpa using hl)]
 simp
theorem patched_row {a b:List GNode} (ta:treeB 0 a=true) (tb:treeB 0 b=true) {R:List GEdit} (hR:∀ e,e ∈ R ↔ EdOf (zO [] a) (zO [] b) e∧chgB e=true) (r:GRow) :
  ((r ∈ zO [] a∧∀ e ∈ R,rkey r ≠ xS e) ∨ ∃ e ∈ R,e.has=true∧r=⟨e.path,e.is⟩) ↔ r ∈ zO [] b:=by
 have sa:=wF ta []
 have sb:=wF tb []
 constructor
 ·rintro (⟨h1,h2⟩ | ⟨e,he,h1,rfl⟩)
  ·apply Classical.byContradiction
   intro hn
   by_cases hx:∃ q ∈ zO [] b,rkey q=rkey r
   ·obtain ⟨q,hq,e⟩:=hx
    have ep:q.path=r.path:=congrArg Prod.fst e
    have et:q.leaf.typ=r.leaf.typ:=congrArg Prod.snd e
    have hne:r.leaf ≠ q.leaf:=fun e2=>hn (by
     have:r=q:=by cases r;cases q;simp only at ep e2;rw [ep,e2]
     rw [this];exact hq)
    refine h2 (GEdit.mk r.path r.leaf.typ true true r.leaf q.leaf) ((hR _).2 ⟨⟨.inl rfl,⟨fun _=>⟨h1,rfl⟩,fun h=>(by cases h)⟩,⟨fun _=>⟨?_,et⟩,fun h=>(by cases h)⟩⟩,?_⟩) rfl
    ·show GRow.mk r.path q.leaf ∈ _
     rw [← ep];exact hq
    ·unfold chgB;simp [hne]
   ·refine h2 (GEdit.mk r.path r.leaf.typ true false r.leaf leaf0) ((hR _).2 ⟨⟨.inl rfl,⟨fun _=>⟨h1,rfl⟩,fun h=>(by cases h)⟩,⟨fun h=>(by cases h),fun _=>⟨rfl,fun q hq e=>hx ⟨q,hq,e⟩⟩⟩⟩,rfl⟩) rfl
  ·exact ((hR e).1 he).1.b.on h1 |>.1
 ·intro h
  by_cases hx:∃ q ∈ zO [] a,rkey q=rkey r
  ·obtain ⟨q,hq,e⟩:=hx
   have ep:q.path=r.path:=congrArg Prod.fst e
   have et:q.leaf.typ=r.leaf.typ:=congrArg Prod.snd e
   by_cases hl:q.leaf=r.leaf
   ·left
    have hqr:q=r:=by cases r;cases q;simp only at ep hl;rw [ep,hl]
    subst hqr
    refine ⟨hq,fun f hf e2=>?_⟩
    obtain ⟨hf1,hf2⟩:=(hR f).1 hf
    have fp:q.path=f.path:=congrArg Prod.fst e2
    have ft:q.leaf.typ=f.typ:=congrArg Prod.snd e2
    obtain ⟨x1,x2⟩:=hf1.a.one sa (y:=true) (m:=q.leaf) ⟨fun _=>⟨by rw [← fp];exact hq,ft⟩,fun h=>(by cases h)⟩
    obtain ⟨y1,y2⟩:=hf1.b.one sb (y:=true) (m:=q.leaf) ⟨fun _=>⟨by rw [← fp];exact h,ft⟩,fun h=>(by cases h)⟩
    exact chg_ne hf2 x1 y1 (x2.trans y2.symm)
   ·right
    refine ⟨GEdit.mk r.path r.leaf.typ true true q.leaf r.leaf,(hR _).2 ⟨⟨.inl rfl,⟨fun _=>⟨?_,et⟩,fun h=>(by cases h)⟩,⟨fun _=>⟨h,rfl⟩,fun h=>(by cases h)⟩⟩,?_⟩,rfl,rfl⟩
    ·show GRow.mk r.path q.leaf ∈ _
     rw [← ep];exact hq
    ·unfold chgB;simp [hl]
  ·right
   exact ⟨GEdit.mk r.path r.leaf.typ false true leaf0 r.leaf,(hR _).2 ⟨⟨.inr rfl,⟨fun h=>(by cases h),fun _=>⟨rfl,fun q hq e=>hx ⟨q,hq,e⟩⟩⟩,⟨fun _=>⟨h,rfl⟩,fun h=>(by cases h)⟩⟩,rfl⟩,rfl,rfl⟩
theorem patched {a b u:List GNode} (ta:treeB 0 a=true) (tb:treeB 0 b=true) (tu:treeB 0 u=true) {R:List GEdit} (hR:∀ e,e ∈ R ↔ EdOf (zO [] a) (zO [] b) e∧chgB e=true)
  (hu:∀ r,r ∈ zO [] u ↔ (r ∈ zO [] a∧∀ e ∈ R,rkey r ≠ xS e) ∨ ∃ e ∈ R,e.has=true∧r=⟨e.path,e.is⟩):u=b:=rows_ext tu tb fun r=>by rw [hu,patched_row ta tb hR]
theorem leaf_bk (l:GLeaf):4≤GLeaf.bk l:=by unfold GLeaf.bk;omega
theorem leaves_bk:∀ ls:List GLeaf,4 * ls.length≤(ls.map GLeaf.bk).sum
 | []=>by simp
 | l::ls=>by
  have:=leaves_bk ls
  have:=leaf_bk l
  simp only [List.length_cons,List.map_cons,List.sum_cons];omega
theorem rows4:∀ (t:List GNode),4 * (zO [] t).length≤GNode.bks t:=by
 refine wW (by simp [zO]) ?_
 intro x r hx hr
 have h1:=leaves_bk x.leaves
 have h2:=bk_node x
 rw [show x::r=[x]++r from rfl,qS,rows_one,xI]
 simp only [List.length_append,List.length_map]
 rw [len_rows x.subs ([]++[x.name]) []]
 show _≤x.bk+GNode.bks r
 omega
theorem back_is {a b:List GNode} (ha:Small a) (hb:Small b) (ta:treeB 0 a=true) (tb:treeB 0 b=true) (hl:GNode.bks a+GNode.bks b≤16777216) :
  ∃ R,diffDiff a b=some (R,0)∧vZ a R=some (b,0)∧diffTurn R=some (R.map turnE)∧vZ b (R.map turnE)=some (a,0)∧diffMay R=some true∧(R=[] ↔ a=b)∧R.Pairwise eLt∧∀ e,e ∈ R ↔ EdOf (zO [] a) (zO [] b) e∧chgB e=true:=by
 obtain ⟨R,r1,r2,r3,r4⟩:=diff_is ha hb ta tb hl
 have q1:=rows4 a
 have q2:=rows4 b
 have hok:∀ e ∈ R,EOk e∧EFits a e:=fun e he=>by
  obtain ⟨h1,h2⟩:=(r4 e).1 he
  exact ⟨h1.eok ha hb ta tb h2,h1.fits⟩
 obtain ⟨u,u1,u2,u3⟩:=patch_is ha ta (es:=R) (by omega) hok r2
 obtain rfl:=patched ta tb u2 r4 u3
 have r4':∀ e,e ∈ R.map turnE ↔ EdOf (zO [] u) (zO [] a) e∧chgB e=true:=fun e=>by
  rw [List.mem_map]
  constructor
  ·rintro ⟨f,hf,rfl⟩
   obtain ⟨h1,h2⟩:=(r4 f).1 hf
   exact ⟨h1.turn,by rw [chg_turn];exact h2⟩
  ·rintro ⟨h1,h2⟩
   exact ⟨turnE e,(r4 _).2 ⟨h1.turn,by rw [chg_turn];exact h2⟩,rfl⟩
 have r2':(R.map turnE).Pairwise eLt:=List.pairwise_map.2 (r2.imp fun h=>h)
 have hok':∀ e ∈ R.map turnE,EOk e∧EFits u e:=fun e he=>by
  obtain ⟨h1,h2⟩:=(r4' e).1 he
  exact ⟨h1.eok hb ha tb ta h2,h1.fits⟩
 obtain ⟨w,w1,w2,w3⟩:=patch_is hb tb (es:=R.map turnE) (by rw [List.length_map];omega) hok' r2'
 obtain rfl:=patched tb ta w2 r4' w3
 refine ⟨R,r1,u1,turn_is (by omega) (fun e he=>((r4 e).1 he).1.copy ha hb ta tb ((r4 e).1 he).2),w1,diffMay_is (by omega) (fun e he=>(hok e he).1) r2,⟨fun h=>?_,fun h=>?_⟩,r2,r4⟩
 ·subst h
  exact rows_ext ta tb fun r=>by rw [u3];simp
 ·subst h
  refine List.eq_nil_iff_forall_not_mem.2 fun e he=>?_
  obtain ⟨h1,h2⟩:=(r4 e).1 he
  obtain ⟨x1,x2⟩:=h1.a.one (wF ta []) h1.b
  unfold chgB at h2
  rw [x1,x2] at h2;simp at h2
end Go.Vv
namespace Go.Vv
open Go
def leaf5:GLeaf:=GLeaf.mk (1:Int) (5:Int) (0:Int) (GDot.mk (GActor.mk (0:Int) (0:Int)) (0:Int)) ([]:zJ) ([]:List GItem) ([]:List GDot)
def tree5:List GNode:=[(GNode.mk ([97]:zJ) [leaf5] ([]:List GNode))]
theorem small5:Small tree5:=⟨by simp [tree5,leaf5,GNode.wfs,GNode.wf,GLeaf.wf,GDot.wf,GActor.wf,maxLen,InK];decide,by simp [tree5,leaf5,GNode.bks,GNode.bk,GLeaf.bk,GDot.bk,GActor.bk]⟩
theorem may5:treeB 0 tree5=true:=by
 simp [treeB,tree5,wN,nodeB,upB,leavesB,allI,leaf5]
 decide
theorem known31:w7=some true:=by
 have hb:GNode.bks tree5≤100:=by simp [tree5,leaf5,GNode.bks,GNode.bk,GLeaf.bk,GDot.bk,GActor.bk]
 have h0:GNode.bks []=0:=by simp [GNode.bks]
 obtain ⟨R,r1,_,_,_,_,r2,r3,r4⟩:=back_is small_nil small5 (tree_nil 0) may5 (by omega)
 obtain ⟨Q,q1,_,_,_,_,q2,_⟩:=back_is small5 small5 may5 may5 (by omega)
 obtain rfl:=q2.2 rfl
 have hrows:zO [] tree5=[⟨[[97]],leaf5⟩]:=by simp [tree5,zO,rowsN]
 rw [hrows] at r4
 have hR:R=[GEdit.mk [[97]] 1 false true leaf0 leaf5]:=by
  have hall:∀ e ∈ R,e=GEdit.mk [[97]] 1 false true leaf0 leaf5:=fun e he=>by
   obtain ⟨h,_⟩:=(r4 e).1 he
   have h1:e.had=false:=by
    cases hh:e.had with
    | false=>rfl
    | true=>have:=(h.a.on hh).1;simp [zO] at this
   have h2:e.has=true:=by
    rcases h.any with h | h
    ·rw [h1] at h;cases h
    ·exact h
   obtain ⟨h3,h4⟩:=h.b.on h2
   have h5:=(h.a.off h1).1
   simp only [List.mem_singleton] at h3
   injection h3 with h6 h7
   cases e
   simp only at h1 h2 h4 h5 h6 h7
   subst h1 h2 h5 h6 h7
   rw [← h4];rfl
  cases R with
  | nil=>have:=r2.1 rfl;unfold tree5 at this;cases this
  | cons e R =>
   cases R with
   | nil=>rw [hall e (by simp)]
   | cons f R =>
    have:=(List.pairwise_cons.1 r3).1 f (by simp)
    rw [hall e (by simp),hall f (by simp)] at this
    unfold eLt at this;rw [klt_irr] at this;cases this
 subst hR
 unfold w7
 unfold tree5 leaf5 at r1 q1
 rw [r1,q1]
 rfl
end Go.Vv
namespace Go.Vv
open Go
theorem ekey_eq {e:GEdit} {p:List zJ} {k:Int} (h:xS e=(p,k)):e.path=p∧e.typ=k:=⟨congrArg Prod.fst h,congrArg Prod.snd h⟩
structure KOk (x:zJ×GEdit):Prop where
 key:x.1=qd x.2.path x.2.typ
 path:qz x.2.path=true
 typ:1≤x.2.typ∧x.2.typ≤4
theorem KOk.iff {x:zJ×GEdit} (h:KOk x) {e:GEdit} (hp:qz e.path=true) (ht:1≤e.typ∧e.typ≤4):x.1=qd e.path e.typ ↔ xS x.2=xS e:=by
 constructor
 ·intro e1
  rw [h.key] at e1
  obtain ⟨a,b⟩:=key_inj h.path hp h.typ ht e1
  unfold xS;rw [a,b]
 ·intro e1
  obtain ⟨a,b⟩:=ekey_eq e1
  rw [h.key,a,b]
structure CInv (ra:List GRow) (R P:List GEdit) (m:List (zJ×GEdit)):Prop where
 nd:mnd m
 ok:∀ x ∈ m,KOk x
 ed:∀ x ∈ m,Side ra x.2.path x.2.typ x.2.had x.2.was∧((∃ e ∈ P,xS e=xS x.2∧e.has=x.2.has∧e.is=x.2.is) ∨ ((∀ e ∈ P,xS e ≠ xS x.2)∧x.2 ∈ R))
 cr:∀ e ∈ R,∃ x ∈ m,xS x.2=xS e
 cp:∀ e ∈ P,∃ x ∈ m,xS x.2=xS e
theorem CInv.put {ra:List GRow} {R P:List GEdit} {m:List (zJ×GEdit)} (h:CInv ra R P m) {e g:GEdit} (hp:qz e.path=true) (ht:1≤e.typ∧e.typ≤4) (hn:∀ f ∈ P,xS f ≠ xS e) (hg1:g.path=e.path) (hg2:g.typ=e.typ) (hg3:g.has=e.has) (hg4:g.is=e.is) (hs:Side ra e.path e.typ g.had g.was) :
  CInv ra R (P++[e]) (wd sEq m (qd e.path e.typ) g):=by
 have hm:=mem_put (k:=qd e.path e.typ) (v:=g) h.nd
 have hge:xS g=xS e:=by unfold xS;rw [hg1,hg2]
 have hself:(qd e.path e.typ,g) ∈ wd sEq m (qd e.path e.typ) g:=(hm _).2 (.inr rfl)
 have keep:∀ (f:GEdit) (x:zJ×GEdit),x ∈ m→xS x.2=xS f→∃ x ∈ wd sEq m (qd e.path e.typ) g,xS x.2=xS f:=fun f x hx e1=>by
  by_cases hk:x.1=qd e.path e.typ
  ·exact ⟨_,hself,by rw [← e1,((h.ok x hx).iff hp ht).1 hk];exact hge⟩
  ·exact ⟨x,(hm x).2 (.inl ⟨hx,hk⟩),e1⟩
 refine ⟨mnd_put h.nd,fun x hx=>?_,fun x hx=>?_,fun f hf=>?_,fun f hf=>?_⟩
 ·rcases (hm x).1 hx with ⟨h1,_⟩ | rfl
  ·exact h.ok x h1
  ·exact ⟨by rw [hg1,hg2],by rw [hg1];exact hp,by rw [hg2];exact ht⟩
 ·rcases (hm x).1 hx with ⟨h1,h2⟩ | rfl
  ·obtain ⟨s1,s2⟩:=h.ed x h1
   have hne:xS e ≠ xS x.2:=fun e1=>h2 (((h.ok x h1).iff hp ht).2 e1.symm)
   refine ⟨s1,?_⟩
   rcases s2 with ⟨f,hf,s2⟩ | ⟨s2,s3⟩
   ·exact .inl ⟨f,by simp [hf],s2⟩
   ·refine .inr ⟨fun f hf=>?_,s3⟩
    rcases List.mem_append.1 hf with hf | hf
    ·exact s2 f hf
    ·simp only [List.mem_singleton] at hf;subst hf;exact hne
  ·exact ⟨by rw [hg1,hg2];exact hs,.inl ⟨e,by simp,hge.symm,hg3.symm,hg4.symm⟩⟩
 ·obtain ⟨x,hx,e1⟩:=h.cr f hf
  exact keep f x hx e1
 ·rcases List.mem_append.1 hf with hf | hf
  ·obtain ⟨x,hx,e1⟩:=h.cp f hf
   exact keep f x hx e1
  ·simp only [List.mem_singleton] at hf;subst hf
   exact ⟨_,hself,hge⟩
noncomputable def cA:Nat→GEdit→List (zJ×GEdit)→Option (Out (List GEdit×Int) (List (zJ×GEdit))):=(fun (_:Nat) (x1:GEdit) (s1:List (zJ×GEdit))=>(((vW x1.path x1.typ).bind fun v10=>some (.nxt (wd (fun a b=>a==b) s1 v10 x1)))))
noncomputable def cG (s2:List (zJ×GEdit)) (v20:zJ):GEdit:=(zT (fun a b=>a==b) (GEdit.mk ([]:List zJ) (0:Int) false false yw yw) s2 v20)
noncomputable def cB:Nat→GEdit→List (zJ×GEdit)→Option (Out (List GEdit×Int) (List (zJ×GEdit))):=(fun (_:Nat) (x2:GEdit) (s2:List (zJ×GEdit))=>(((vW x2.path x2.typ).bind fun v20=>(if (mhas (fun a b=>a==b) s2 v20)=true then ((if ((!((cG s2 v20).has==x2.had))==false)=true then wB ((cG s2 v20).is) x2.was else some default).bind fun v22=>(if ((!((cG s2 v20).has==x2.had)) || (!v22))=true then some (.ret (([]:List GEdit),(16:Int))) else some (.nxt (wd (fun a b=>a==b) s2 v20 (GEdit.mk x2.path x2.typ ((cG s2 v20).had) x2.has ((cG s2 v20).was) x2.is))))) else some (.nxt (wd (fun a b=>a==b) s2 v20 x2))))))
end Go.Vv
namespace Go.Vv
open Go
end Go.Vv
namespace Go.Vv
open Go
def wS (n:Nat):List GRow→Nat
 | []=>0
 | r::L=>r.leaf.bk+17 * (r.path.length - n)+wS n L
theorem wS_app (n:Nat):∀ A B:List GRow,wS n (A++B)=wS n A+wS n B
 | [],B=>by simp [wS]
 | r::A,B=>by simp only [List.cons_append,wS,wS_app n A B];omega
theorem wS_leaves (a:List zJ) (s:zJ):∀ ls:List GLeaf,wS a.length (ls.map fun l=>GRow.mk (a++[s]) l)=(ls.map GLeaf.bk).sum+17 * ls.length
 | []=>rfl
 | l::ls=>by
  simp only [List.map_cons,wS,wS_leaves a s ls,List.sum_cons,List.length_cons,List.length_append,List.length_nil]
  omega
theorem wS_up (n:Nat):∀ L:List GRow,(∀ r ∈ L,n+1≤r.path.length)→wS n L=wS (n+1) L+17 * L.length
 | [],_=>rfl
 | r::L,h=>by
  have h1:=h r (by simp)
  simp only [wS,wS_up n L (fun q hq=>h q (by simp [hq])),List.length_cons]
  omega
theorem bk_is (x:GNode):x.bk=(x.name.length+1)+(((x.leaves.map GLeaf.bk).sum+1)+((GNode.bks x.subs+1)+0))+1:=by cases x;simp only [GNode.bk]
theorem bks_rows:∀ (t:List GNode) (d:Nat) (a:List zJ),(∀ x ∈ t,nodeB d x=true)→GNode.bks t≤wS a.length (zO a t):=by
 refine wW (fun _ _ _=>by simp [GNode.bks]) ?_
 intro x r hx hr d a hn
 have h1:=hr d a fun y hy=>hn y (by simp [hy])
 have h2:=hn x (by simp)
 obtain ⟨n1,n2,_⟩:=qW h2
 have h3:=hx (d+1) (a++[x.name]) (yT n2).2
 have h4:=(name_len n1).1
 have h5:=node_row [x] d (by simp [wN,h2])
 rw [rows_one,xI] at h5
 simp only [List.length_append,List.length_map,List.length_cons,List.length_nil,Nat.zero_add] at h3 h5
 rw [len_rows x.subs ([]++[x.name]) (a++[x.name])] at h5
 show x.bk+GNode.bks r≤wS a.length (rowsN a x++zO a r)
 rw [wS_app,xI,wS_app,wS_leaves,wS_up a.length _ fun q hq=>by
  have:=(rows_path _ _ q hq).1;simp at this;omega]
 have h6:=bk_is x
 omega
theorem wS_sub {lt:GRow→GRow→Prop} (irr:∀ x,¬ lt x x) (n:Nat):∀ (L M:List GRow),L.Pairwise lt→(∀ x ∈ L,x ∈ M)→wS n L≤wS n M
 | [],_,_,_=>Nat.zero_le _
 | x::L,M,h,hs=>by
  obtain ⟨h1,h2⟩:=List.pairwise_cons.1 h
  obtain ⟨A,B,rfl⟩:=List.append_of_mem (hs x (by simp))
  have:=wS_sub irr n L (A++B) h2 fun y hy=>by
   have hy2:=hs y (by simp [hy])
   have hne:y ≠ x:=fun e=>irr x (by have:=h1 y hy;rwa [e] at this)
   simp only [List.mem_append,List.mem_cons] at hy2 ⊢
   rcases hy2 with h | h | h
   ·exact .inl h
   ·exact (hne h).elim
   ·exact .inr h
  rw [wS_app] at this
  rw [wS_app]
  simp only [wS]
  omega
def lS:List GRow→Nat
 | []=>0
 | r::L=>r.leaf.bk+lS L
theorem lS_app:∀ A B:List GRow,lS (A++B)=lS A+lS B
 | [],B=>by simp [lS]
 | r::A,B=>by simp only [List.cons_append,lS,lS_app A B];omega
theorem lS_leaves (p:List zJ):∀ ls:List GLeaf,lS (ls.map fun l=>GRow.mk p l)=(ls.map GLeaf.bk).sum
 | []=>rfl
 | l::ls=>by simp only [List.map_cons,lS,lS_leaves p ls,List.sum_cons]
theorem wS_le:∀ L:List GRow,(∀ r ∈ L,r.path.length≤3)→wS 0 L≤lS L+51 * L.length
 | [],_=>Nat.le_refl _
 | r::L,h=>by
  have h1:=h r (by simp)
  have h2:=wS_le L fun q hq=>h q (by simp [hq])
  simp only [wS,lS,List.length_cons]
  omega
theorem lS_le:∀ (t:List GNode) (a:List zJ),lS (zO a t)≤GNode.bks t:=by
 refine wW (fun _=>Nat.zero_le _) ?_
 intro x r hx hr a
 have h1:=hr a
 have h2:=hx (a++[x.name])
 have h3:=bk_is x
 show lS (rowsN a x++zO a r)≤x.bk+GNode.bks r
 rw [lS_app,xI,lS_app,lS_leaves]
 omega
theorem rows_wf:∀ (t:List GNode) (a:List zJ),GNode.wfs t→∀ r ∈ zO a t,GLeaf.wf r.leaf:=by
 refine wW (fun _ _ _ h=>by simp [zO] at h) ?_
 intro x r hx hr a h q hq
 simp only [GNode.wfs] at h
 have hq:q ∈ rowsN a x++zO a r:=hq
 rcases List.mem_append.1 hq with hq | hq
 ·have hw:x.name.length≤maxLen∧(x.leaves.length≤maxLen∧∀ y ∈ x.leaves,GLeaf.wf y)∧GNode.wfs x.subs:=by
   have:=h.1
   cases x;simpa only [GNode.wf] using this
  rcases rowsN_mem.1 hq with ⟨l,hl,rfl⟩ | hq
  ·exact hw.2.1.2 l hl
  ·exact hx _ hw.2.2 q hq
 ·exact hr a h.2 q hq
theorem wf_rows:∀ (t:List GNode) (d:Nat) (a:List zJ),(∀ x ∈ t,nodeB d x=true)→(zO a t).length≤maxLen→(∀ r ∈ zO a t,GLeaf.wf r.leaf)→GNode.wfs t:=by
 refine wW (fun _ _ _ _ _=>by simp [GNode.wfs]) ?_
 intro x r hx hr d a hn hl hw
 have hl:(rowsN a x++zO a r).length≤maxLen:=hl
 have hw:∀ q ∈ rowsN a x++zO a r,GLeaf.wf q.leaf:=hw
 rw [xI] at hl
 simp only [List.length_append,List.length_map] at hl
 obtain ⟨n1,n2,_⟩:=qW (hn x (by simp))
 have h1:=hr d a (fun y hy=>hn y (by simp [hy])) (by omega) (fun q hq=>hw q (by simp [hq]))
 have h2:=hx (d+1) (a++[x.name]) (yT n2).2 (by omega) (fun q hq=>hw q (List.mem_append.2 (.inl (rowsN_mem.2 (.inr hq)))))
 have h3:=(name_len n1).1
 have hnl:x.name.length≤maxLen:=Nat.le_trans h3 (by decide)
 have h4:∀ y ∈ x.leaves,GLeaf.wf y:=fun y hy=>hw ⟨a++[x.name],y⟩ (List.mem_append.2 (.inl (rowsN_mem.2 (.inl ⟨y,hy,rfl⟩))))
 have h5:x.leaves.length≤maxLen:=by omega
 simp only [GNode.wfs]
 refine ⟨?_,h1⟩
 revert hnl h4 h5 h2
 cases x
 intro h2 hnl h4 h5
 simp only [GNode.wf]
 exact ⟨hnl,⟨h5,h4⟩,h2⟩
theorem small_rows {a b u:List GNode} (ha:Small a) (hb:Small b) (ta:treeB 0 a=true) (tb:treeB 0 b=true) (tu:treeB 0 u=true) (hl:GNode.bks a+GNode.bks b≤1048576) (h:∀ r ∈ zO [] u,r ∈ zO [] a ∨ r ∈ zO [] b):Small u:=by
 have irr:∀ x:GRow,¬ kltB (rkey x) (rkey x)=true:=fun x h=>by rw [klt_irr] at h;cases h
 have hs:=wF tu []
 have hm:∀ x ∈ zO [] u,x ∈ zO [] a++zO [] b:=fun x hx=>List.mem_append.2 (h x hx)
 have h1:=bks_rows u 0 [] (yT tu).2
 have h2:=wS_sub irr 0 _ _ hs hm
 have h3:=sub_len irr _ _ hs hm
 have p3:∀ (t:List GNode),Small t→treeB 0 t=true→∀ r ∈ zO [] t,r.path.length≤3:=fun t hs ht r hr=>(vL (rows_key hs ht r hr).1).2.1
 have h4:=wS_le _ (p3 a ha ta)
 have h5:=wS_le _ (p3 b hb tb)
 have h6:=lS_le a []
 have h7:=lS_le b []
 have h8:=rows4 a
 have h9:=rows4 b
 rw [wS_app] at h2
 rw [List.length_append] at h3
 simp only [List.length_nil] at h1
 refine ⟨wf_rows u 0 [] (yT tu).2 (Nat.le_trans (show _≤1048576 by omega) (by decide)) fun r hr=>?_,by omega⟩
 rcases h r hr with h | h
 ·exact rows_wf a [] ha.1 r h
 ·exact rows_wf b [] hb.1 r h
theorem pathsWithout_is {t:List GNode} (h:Small t) {p:List zJ} (hp:p.length≤maxLen):qv t p=some (if (treeB 0 t&&patB p)=true then (wC (fun q=>!matchB p q) [] t,0) else ([],2)):=by
 unfold qv
 rw [treeMay_is h,wM hp,keptAll_is (fun q=>!matchB p q) _ (fun q=>by unfold pathsWithoutC1;rw [pathsMatch_is hp];rfl) h]
 cases treeB 0 t <;> cases patB p <;> rfl
theorem some_loop {p:List zJ} {f:Nat→GEdit→List GEdit→Option (Out Bool (List GEdit))} (hf:∀ i x s,s.length≤1048576→f i x s=some (.nxt (if matchB p x.path=true then s++[x] else s))):∀ (L:List GEdit) (n:Nat) (s:List GEdit),s.length+L.length≤1048576→zY f L n s=some (.inr (s++L.filter fun e=>matchB p e.path))
 | [],n,s,_=>by simp [zY]
 | x::L,n,s,hl=>by
  simp only [List.length_cons] at hl
  rw [zY,hf n x s (by omega)]
  simp only []
  rw [List.filter_cons]
  split
  ·rw [some_loop hf L (n+1) (s++[x]) (by simp;omega),List.append_assoc];rfl
  ·rw [some_loop hf L (n+1) s (by omega)]
theorem part_is {a b:List GNode} (ha:Small a) (hb:Small b) (ta:treeB 0 a=true) (tb:treeB 0 b=true) (hl:GNode.bks a+GNode.bks b≤1048576) {R:List GEdit} (r2:R.Pairwise eLt) (r3:R.length≤(zO [] a).length+(zO [] b).length) (r4:∀ e,e ∈ R ↔ EdOf (zO [] a) (zO [] b) e∧chgB e=true) (is:List zJ→Bool) :
  ∃ u,vZ a (R.filter fun e=>is e.path)=some (u,0)∧Small u∧treeB 0 u=true∧wC is [] u=wC is [] b∧wC (fun q=>!is q) [] u=wC (fun q=>!is q) [] a:=by
 have q1:=rows4 a
 have q2:=rows4 b
 have hfl:=List.length_filter_le (fun e:GEdit=>is e.path) R
 obtain ⟨u,u1,u2,u3⟩:=patch_is ha ta (es:=R.filter fun e=>is e.path) (by omega) (fun e he=>by
  obtain ⟨h1,h2⟩:=(r4 e).1 (List.mem_filter.1 he).1
  exact ⟨h1.eok ha hb ta tb h2,h1.fits⟩) (r2.filter _)
 have hin:∀ r,is r.path=true→(r ∈ zO [] u ↔ r ∈ zO [] b):=fun r hr=>by
  rw [u3,← patched_row ta tb r4 r]
  constructor
  ·rintro (⟨h1,h2⟩ | ⟨e,he,h1,h2⟩)
   ·refine .inl ⟨h1,fun e he e1=>h2 e (List.mem_filter.2 ⟨he,?_⟩) e1⟩
    rw [← show r.path=e.path from congrArg Prod.fst e1];exact hr
   ·exact .inr ⟨e,(List.mem_filter.1 he).1,h1,h2⟩
  ·rintro (⟨h1,h2⟩ | ⟨e,he,h1,h2⟩)
   ·exact .inl ⟨h1,fun e he=>h2 e (List.mem_filter.1 he).1⟩
   ·refine .inr ⟨e,List.mem_filter.2 ⟨he,?_⟩,h1,h2⟩
    rw [h2] at hr;exact hr
 have hout:∀ r,is r.path=false→(r ∈ zO [] u ↔ r ∈ zO [] a):=fun r hr=>by
  rw [u3]
  constructor
  ·rintro (⟨h1,_⟩ | ⟨e,he,_,h2⟩)
   ·exact h1
   ·have:=(List.mem_filter.1 he).2
    rw [h2] at hr;rw [hr] at this;cases this
  ·intro h1
   refine .inl ⟨h1,fun e he e1=>?_⟩
   have:=(List.mem_filter.1 he).2
   rw [← show r.path=e.path from congrArg Prod.fst e1,hr] at this;cases this
 refine ⟨u,u1,small_rows ha hb ta tb u2 hl (fun r hr=>?_),u2,?_,?_⟩
 ·cases e:is r.path with
  | true=>exact .inr ((hin r e).1 hr)
  | false=>exact .inl ((hout r e).1 hr)
 ·refine rows_ext (keep_may _ u 0 [] u2) (keep_may _ b 0 [] tb) fun r=>?_
  rw [keep_rows,keep_rows,List.mem_filter,List.mem_filter]
  constructor
  ·rintro ⟨h1,h2⟩;exact ⟨(hin r h2).1 h1,h2⟩
  ·rintro ⟨h1,h2⟩;exact ⟨(hin r h2).2 h1,h2⟩
 ·refine rows_ext (keep_may _ u 0 [] u2) (keep_may _ a 0 [] ta) fun r=>?_
  rw [keep_rows,keep_rows,List.mem_filter,List.mem_filter]
  simp only [Bool.not_eq_true']
  constructor
  ·rintro ⟨h1,h2⟩;exact ⟨(hout r h2).1 h1,h2⟩
  ·rintro ⟨h1,h2⟩;exact ⟨(hout r h2).2 h1,h2⟩
theorem law31DiffPart_is {a b:List GNode} {p:List zJ} (hp:p.length≤maxLen) (ha:Small a) (hb:Small b) (hl:GNode.bks a+GNode.bks b≤1048576):qG a b p=some true:=by
 obtain ⟨g,hg⟩:=great_is ha hb small_nil
 unfold qG
 rw [hg,Option.bind_some]
 cases g with
 | true=>simp [known31]
 | false =>
  cases ea:treeB 0 a with
  | false=>simp [w5 ha,ea,known31]
  | true =>
   cases eb:treeB 0 b with
   | false=>simp [w5 ha,w5 hb,ea,eb,known31]
   | true =>
    by_cases h5:((p.length:Int) > 5)
    ·simp [w5 ha,w5 hb,ea,eb,known31,h5]
    ·cases ep:patB p with
     | false=>simp [w5 ha,w5 hb,ea,eb,known31,h5,wM hp,ep]
     | true =>
      have q1:=rows4 a
      have q2:=rows4 b
      obtain ⟨R,r1,r2,r3,r4⟩:=diff_is ha hb ea eb (by omega)
      obtain ⟨u,u1,u2,u3,u4,u5⟩:=part_is ha hb ea eb hl r2 r3 r4 (matchB p)
      have d5:decide ((p.length:Int) > 5)=false:=decide_eq_false h5
      simp only [w5 ha,w5 hb,ea,eb,d5,wM hp,ep,r1,Option.bind_some,Bool.not_true,Bool.or_false,Bool.false_eq_true,if_false,beq_self_eq_true,if_true]
      rw [some_loop (p:=p) (fun i x s hs=>by
       rw [pathsMatch_is hp,Option.bind_some]
       split
       ·rw [yB (qk (by simp;omega))]
       ·rfl) R 0 [] (by simp;omega)]
      simp only [qN,List.nil_append,u1,Option.bind_some,pathsSelect_is u2 hp,pathsSelect_is hb hp,pathsWithout_is u2 hp,pathsWithout_is ha hp,u3,ea,eb,ep,u4,u5,ref07Same_refl,known31]
      simp
theorem law31DiffPart_top (a:List GNode) (b:List GNode) (p:List zJ) (h1:a.length≤maxLen∧∀ y ∈ a,GNode.wf y) (h2:b.length≤maxLen∧∀ y ∈ b,GNode.wf y) (h3:p.length≤maxLen∧∀ y ∈ p,y.length≤maxLen) (hb:((a.map GNode.bk).sum+1)+((b.map GNode.bk).sum+1)+((p.map (fun s=>s.length+1)).sum+1)≤1048576):qG a b p=some true:=by
 refine law31DiffPart_is h3.1 (small_of h1 (by omega)) (small_of h2 (by omega)) ?_
 rw [GNode.bks_eq,GNode.bks_eq];omega
end Go.Vv
