/- Plain laws, joined. -/
import Derived.Test.YtdodjocbjapaeaaGreatPlS0
namespace Go.Vv
set_option linter.unusedVariables false
set_option linter.unusedSimpArgs false
open Go
theorem loopW_inv {σ ρ:Type} {f:σ→Option (Out ρ σ)} (inv post:σ→Prop) (μ:σ→Nat) (h:∀ s,inv s→(∃ s',f s=some (.brk s')∧post s') ∨ ∃ s',f s=some (.nxt s')∧inv s'∧μ s' < μ s):∀ (k:Nat) (s:σ),μ s=k→inv s→∃ s',wJ f s=some (.inr s')∧post s':=by
 intro k
 induction k using Nat.strongRecOn with
 | _ k ih =>
  intro s hk hi;rw [vH];rcases h s hi with ⟨s',e,hp⟩ | ⟨s',e,h1,h2⟩
  ·exact ⟨s',by rw [e],hp⟩
  ·rw [e];exact ih (μ s') (by omega) s' rfl h1
theorem idxF_is {q:GLeaf→Bool} {del:GLeaf→Option Bool}:∀ (L:List GLeaf) (n:Nat),(∀ x ∈ L,del x=some (q x)) →
  (yl (fun (n1:Nat) (x1:GLeaf) (_:Unit)=>(((del x1).bind fun v7=>(if v7=true then some (.ret (n1:Int)) else some (.nxt ()))):Option (Out Int Unit))) L n ()=some (.inr ())∧∀ x ∈ L,q x=false) ∨
  ∃ A x B,L=A++x::B∧q x=true∧(∀ y ∈ A,q y=false)∧yl (fun (n1:Nat) (x1:GLeaf) (_:Unit)=>(((del x1).bind fun v7=>(if v7=true then some (.ret (n1:Int)) else some (.nxt ()))):Option (Out Int Unit))) L n ()=some (.inl ((n+A.length:Nat):Int))
 | [],n,_=>.inl ⟨rfl,by simp⟩
 | x::r,n,h=>by
  have hx:=h x (by simp);cases hq:q x with
  | true=>exact .inr ⟨[],x,r,rfl,hq,by simp,by simp [yl,hx,hq]⟩
  | false =>
   rcases idxF_is r (n+1) (fun y hy=>h y (by simp [hy])) with ⟨e,h2⟩ | ⟨A,y,B,rfl,h1,h2,e⟩
   ·refine .inl ⟨by simp only [yl,hx,hq,Option.bind_some];exact e,?_⟩;intro y hy;rcases List.mem_cons.1 hy with rfl | hy
    ·exact hq
    ·exact h2 y hy
   ·refine .inr ⟨x::A,y,B,rfl,h1,?_,?_⟩
    ·intro z hz;rcases List.mem_cons.1 hz with rfl | hz
     ·exact hq
     ·exact h2 z hz
    ·simp only [yl,hx,hq,Option.bind_some];rw [show n+(x::A).length=n+1+A.length by simp only [List.length_cons];omega];exact e
theorem wrap_a1 {a:Nat} (h:a≤16777216):IntKind.wrap .i64 ((a:Int)+1)=((a+1:Nat):Int):=wrap_add1 (Nat.le_trans (Nat.succ_le_succ h) (by decide))
noncomputable def delF (del:GLeaf→Option Bool) (n:Nat):Int×Int×(List GLeaf)→Option (Out (List GLeaf) (Int×Int×(List GLeaf))):=fun s1=>((wR ((s1.2.2).length=n) ((if (decide (s1.2.1 < ((n:Nat):Int)))=true then ((wK s1.2.2 s1.2.1).bind fun y14=>((del y14).bind fun v15=>(if (!v15)=true then ((wK s1.2.2 s1.1).bind fun y17=>some (.nxt ((IntKind.wrap .i64 (s1.1+(1:Int))),(IntKind.wrap .i64 (s1.2.1+(1:Int))),(s1.2.2.set s1.1.toNat y14)))) else some (.nxt (s1.1,(IntKind.wrap .i64 (s1.2.1+(1:Int))),s1.2.2))))) else some (.brk (s1.1,s1.2.1,s1.2.2))))))
theorem delR_eq (s0:List GLeaf) (del1:GLeaf→Option Bool):vu s0 del1=((xI s0 del1).bind fun v1=>(if (v1==(-1:Int))=true then some s0 else (lp (wJ (delF del1 s0.length) (v1,(IntKind.wrap .i64 (v1+(1:Int))),s0)) fun (s1:Int×Int×(List GLeaf))=>(wR (0≤s1.1∧s1.1≤((s0.length:Nat):Int)) (((slc (s1.2.2.take s1.1.toNat++List.replicate (s0.length - s1.1.toNat) zLf) (0:Int) s1.1).bind fun m19=>some m19)))))):=rfl
theorem delF_run {q:GLeaf→Bool} {del:GLeaf→Option Bool} {L0:List GLeaf} (hl:L0.length≤16777216) (h:∀ x ∈ L0,del x=some (q x)) {a0 b0:Nat} (h1:a0 < b0) (h2:b0≤L0.length) (h3:L0.take a0=(L0.take b0).filter fun x=>!q x) :
  ∃ s',wJ (delF del L0.length) ((a0:Int),(b0:Int),L0)=some (.inr s')∧∃ a:Nat,s'.1=(a:Int)∧a < L0.length∧s'.2.2.length=L0.length∧s'.2.2.take a=L0.filter fun x=>!q x:=by
 refine loopW_inv (f:=delF del L0.length) (fun s=>∃ a b:Nat,s.1=(a:Int)∧s.2.1=(b:Int)∧a < b∧b≤L0.length∧s.2.2.length=L0.length∧s.2.2.take a=(L0.take b).filter (fun x=>!q x)∧s.2.2.drop b=L0.drop b)
  _ (fun s=>L0.length - s.2.1.toNat) ?_ _ _ rfl ⟨a0,b0,rfl,rfl,h1,h2,rfl,h3,rfl⟩
 rintro ⟨i,j,M⟩ ⟨a,b,q1,q2,q3,q4,q5,q6,q7⟩
 simp only at q1 q2 q5 q6 q7;subst q1 q2;simp only [delF,wR,q5,if_true];by_cases hb:b < L0.length
 ·right;have hy:M[b]?=L0[b]?:=by
   have:=congrArg (fun l=>l[0]?) q7;simpa [List.getElem?_drop] using this
  have hyy:L0[b]?=some L0[b]:=List.getElem?_eq_getElem hb;have hd:=h L0[b] (List.getElem_mem hb);have hidx:wK M (b:Int)=some L0[b]:=by simp [wK,hy]
  have hidxa:wK M (a:Int)=some (M[a]'(by omega)):=by simp [wK]
  rw [if_pos (by simp;omega),hidx,Option.bind_some,hd,Option.bind_some];have htk:L0.take (b+1)=L0.take b++[L0[b]]:=by rw [List.take_add_one,hyy];rfl
  cases hq:q L0[b] with
  | true =>
   refine ⟨((a:Int),((b+1:Nat):Int),M),by simp [wrap_a1 (Nat.le_trans q4 hl)],⟨a,b+1,rfl,rfl,by omega,by omega,q5,?_,?_⟩,by simp;omega⟩
   ·rw [q6,htk,List.filter_append];simp [hq]
   ·have:=congrArg (fun l=>l.drop 1) q7;simpa [List.drop_drop] using this
  | false =>
   refine ⟨(((a+1:Nat):Int),((b+1:Nat):Int),M.set a L0[b]),by simp [hidxa,wrap_a1 (Nat.le_trans q4 hl),wrap_a1 (show a≤16777216 by omega)],⟨a+1,b+1,rfl,rfl,by omega,by omega,by simpa using q5,?_,?_⟩,by simp;omega⟩
   ·rw [List.take_add_one,List.take_set_of_le (Nat.le_refl _),q6,htk,List.filter_append,List.getElem?_set_self (by omega)];simp [hq]
   ·have:=congrArg (fun l=>l.drop 1) q7;rw [List.drop_set_of_lt (by omega)];simpa [List.drop_drop] using this
 ·left;have hb':b=L0.length:=by omega
  rw [if_neg (by simp;omega)];exact ⟨_,rfl,a,rfl,by omega,q5,by rw [q6,hb',List.take_length]⟩
theorem deleteR_is {q:GLeaf→Bool} {del:GLeaf→Option Bool} {L0:List GLeaf} (hl:L0.length≤16777216) (h:∀ x ∈ L0,del x=some (q x)):vu L0 del=some (L0.filter fun x=>!q x):=by
 rw [delR_eq];unfold xI;rcases idxF_is L0 0 h with ⟨e,h2⟩ | ⟨A,x,B,hL,h1,h2,e⟩
 ·rw [e];simp only [lp,Option.bind_some,beq_self_eq_true,if_true];rw [List.filter_eq_self.2 (fun x hx=>by rw [h2 x hx];rfl)]
 ·rw [e];have hlen:L0.length=A.length+1+B.length:=by rw [hL];simp;omega
  simp only [lp,Option.bind_some,Nat.zero_add];rw [if_neg (by simp <;> omega),wrap_a1 (by omega)];obtain ⟨s',e1,a,r1,r2,r3,r4⟩:=delF_run hl h (a0:=A.length) (b0:=A.length+1) (by omega) (by omega) (by
   rw [hL,List.take_left,List.take_append,List.take_of_length_le (by omega),show A.length+1 - A.length=1 by omega,List.filter_append];simp only [List.take_succ_cons,List.take_zero,List.filter_cons,h1,List.filter_nil];rw [List.filter_eq_self.2 (fun y hy=>by rw [h2 y hy];rfl)];simp)
  rw [e1];simp only [wR];rw [if_pos (by rw [r1];omega),r1];have hs:slc (s'.2.2.take ((a:Int)).toNat++List.replicate (L0.length - ((a:Int)).toNat) zLf) (0:Int) (a:Int)=some (s'.2.2.take a):=by
   unfold slc;rw [if_pos (by simp;omega)];simp only [Int.toNat_natCast,Int.toNat_zero,List.drop_zero];rw [List.take_append_of_le_length (by simp;omega),List.take_take,Nat.min_self]
  rw [hs,Option.bind_some,r4]

theorem less_tot:∀ (a b:List UInt8),a=b ∨ Op.bytesLess a b=true ∨ Op.bytesLess b a=true
 | [],[]=>.inl rfl
 | [],_::_=>.inr (.inl rfl)
 | _::_,[]=>.inr (.inr rfl)
 | x::a,y::b=>by
  by_cases h:x=y
  ·subst h;rcases less_tot a b with rfl | h | h
   ·exact .inl rfl
   ·exact .inr (.inl (by simp [Op.bytesLess,h]))
   ·exact .inr (.inr (by simp [Op.bytesLess,h]))
  ·have h':x.toNat ≠ y.toNat:=fun e=>h (UInt8.toNat_inj.1 e);rcases Nat.lt_or_gt_of_ne h' with h | h
   ·exact .inr (.inl (by simp [Op.bytesLess,UInt8.lt_iff_toNat_lt,h]))
   ·exact .inr (.inr (by simp [Op.bytesLess,UInt8.lt_iff_toNat_lt,h]))
def pltB:List zY→List zY→Bool
 | _,[]=>false
 | [],_::_=>true
 | x::a,y::b=>Op.bytesLess x y || (decide (x=y)&&pltB a b)
theorem plt_irr:∀ a,pltB a a=false
 | []=>rfl
 | x::a=>by simp [pltB,less_irr,plt_irr a]
theorem plt_trans:∀ {a b c:List zY},pltB a b=true→pltB b c=true→pltB a c=true
 | _,[],_,h,_=>by cases ‹List zY› <;> simp [pltB] at h
 | _,_::_,[],_,h=>by simp [pltB] at h
 | [],_::_,_::_,_,_=>rfl
 | x::a,y::b,z::c,h1,h2=>by
  simp only [pltB,Bool.or_eq_true,Bool.and_eq_true,decide_eq_true_eq] at *;rcases h1 with h1 | ⟨rfl,h1⟩
  ·rcases h2 with h2 | ⟨rfl,h2⟩
   ·exact .inl (less_trans h1 h2)
   ·exact .inl h1
  ·rcases h2 with h2 | ⟨rfl,h2⟩
   ·exact .inl h2
   ·exact .inr ⟨rfl,plt_trans h1 h2⟩
theorem plt_tot:∀ (a b:List zY),a=b ∨ pltB a b=true ∨ pltB b a=true
 | [],[]=>.inl rfl
 | [],_::_=>.inr (.inl rfl)
 | _::_,[]=>.inr (.inr rfl)
 | x::a,y::b=>by
  rcases less_tot x y with rfl | h | h
  ·rcases plt_tot a b with rfl | h | h
   ·exact .inl rfl
   ·exact .inr (.inl (by simp [pltB,h]))
   ·exact .inr (.inr (by simp [pltB,h]))
  ·exact .inr (.inl (by simp [pltB,h]))
  ·exact .inr (.inr (by simp [pltB,h]))
theorem plt_path:∀ {a b:List zY},pltB a b=true→pathLt a b
 | _,[],h=>by cases ‹List zY› <;> simp [pltB] at h
 | [],y::b,_=>.inl ⟨y,b,rfl⟩
 | x::a,y::b,h=>by
  simp only [pltB,Bool.or_eq_true,Bool.and_eq_true,decide_eq_true_eq] at h;rcases h with h | ⟨rfl,h⟩
  ·exact .inr ⟨[],x,y,a,b,rfl,rfl,h⟩
  ·rcases plt_path h with ⟨z,q,rfl⟩ | ⟨p,u,v,a',b',rfl,rfl,h3⟩
   ·exact .inl ⟨z,q,rfl⟩
   ·exact .inr ⟨x::p,u,v,a',b',rfl,rfl,h3⟩
theorem path_plt {a b:List zY} (h:pathLt a b):pltB a b=true:=by
 rcases h with ⟨y,q,rfl⟩ | ⟨p,x,y,a',b',rfl,rfl,h⟩
 ·induction a with
  | nil=>rfl
  | cons x a ih=>simp [pltB,ih]
 ·induction p with
  | nil=>simp [pltB,h]
  | cons x a ih=>simp [pltB,ih]
theorem cmpS_gt {x y:zY} (h:Op.bytesLess y x=true):wI x y=some 1:=by
 have h2:Op.bytesLess x y=false:=by
  cases e:Op.bytesLess x y
  ·rfl
  ·have:=less_trans h e;rw [less_irr] at this;cases this
 unfold wI qe;have h3:¬ x=y:=fun e=>less_ne h e.symm;simp [h,h2,h3]
theorem cmpP_gt {a b:List zY} (h:pathLt b a):vn a b=some 1:=by
 rw [cmpP_eq];rcases h with ⟨y,q,rfl⟩ | ⟨p,x,y,a',b',rfl,rfl,h⟩
 ·have:=cmp_pre (s2:=b) b (y::q) [] [] (by simp);rw [List.length_nil] at this;rw [this];have e:cmpF b (0+b.length) y ()=some (.ret 1):=by
   unfold cmpF;rw [if_pos (decide_eq_true (by omega))]
  simp only [yl,e,lp_inl]
 ·have:=cmp_pre (s2:=p++x::a') p (y::b') [] (x::a') rfl;rw [List.length_nil] at this;rw [this];have hx:wK (p++x::a') ((0+p.length:Nat):Int)=some x:=yI (by simp);have e:cmpF (p++x::a') (0+p.length) y ()=some (.ret 1):=by
   unfold cmpF;rw [decide_eq_false (by simp only [List.length_append,List.length_cons];omega)];simp only [Bool.false_eq_true,if_false,hx,Option.bind_some,cmpS_gt h];rfl
  simp only [yl,e,lp_inl]
def Key:=List zY×Int
def kltB (a b:Key):Bool:=pltB a.1 b.1 || (decide (a.1=b.1)&&decide (a.2 < b.2))
theorem klt_irr (a:Key):kltB a a=false:=by simp [kltB,plt_irr]
theorem klt_trans {a b c:Key} (h1:kltB a b=true) (h2:kltB b c=true):kltB a c=true:=by
 simp only [kltB,Bool.or_eq_true,Bool.and_eq_true,decide_eq_true_eq] at *;rcases h1 with h1 | ⟨e1,h1⟩
 ·rcases h2 with h2 | ⟨e2,h2⟩
  ·exact .inl (plt_trans h1 h2)
  ·rw [e2] at h1;exact .inl h1
 ·rcases h2 with h2 | ⟨e2,h2⟩
  ·rw [← e1] at h2;exact .inl h2
  ·exact .inr ⟨e1.trans e2,by omega⟩
def ekey (e:GEdit):Key:=(e.path,e.typ)
def qz (r:GRow):Key:=(r.path,r.leaf.typ)
def ordI (a b:GEdit):Int:=if kltB (ekey a) (ekey b)=true then -1 else if kltB (ekey b) (ekey a)=true then 1 else 0
theorem plt_asym {a b:List zY} (h:pltB a b=true):pltB b a=false:=by
 cases e:pltB b a
 ·rfl
 ·have:=plt_trans h e;rw [plt_irr] at this;cases this
theorem order_is (a b:GEdit):diffXorder a b=some (ordI a b):=by
 unfold diffXorder ordI kltB ekey;rcases plt_tot a.path b.path with h | h | h
 ·simp only [h,cmpP_self,cmpU8is,Option.bind_some,cmpOr2_is,plt_irr,Bool.false_or,decide_true,Bool.true_and,decide_eq_true_eq,or2,cmpI];simp
 ·have h2:a.path ≠ b.path:=fun e=>by rw [e,plt_irr] at h;cases h
  simp only [cmpP_lt (plt_path h),cmpU8is,Option.bind_some,cmpOr2_is,h,or2];simp
 ·have h2:a.path ≠ b.path:=fun e=>by rw [e,plt_irr] at h;cases h
  simp only [cmpP_gt (plt_path h),cmpU8is,Option.bind_some,cmpOr2_is,h,plt_asym h,or2];simp [h2]
theorem ordI_lt {a b:GEdit}:ordI a b < 0 ↔ kltB (ekey a) (ekey b)=true:=by
 unfold ordI;split
 ·rename_i h;simp [h]
 ·rename_i h;split
  ·simp [h]
  ·simp [h]
theorem sortO_lt {α:Type} {c:α→α→Option Int} {cf:α→α→Int} {lt:α→α→Prop} {L R:List α} (hc:∀ x ∈ L,∀ y ∈ L,c x y=some (cf x y)) (hlt:∀ x y,cf x y < 0 ↔ lt x y) (irr:∀ x,¬ lt x x) (tr:∀ x y z,lt x y→lt y z→lt x z)
  (tot:∀ x ∈ L,∀ y ∈ L,x=y ∨ lt x y ∨ lt y x) (hp:R.Perm L) (hs:R.Pairwise lt) (hl:L.length≤vz):sortO c L=some R:=by
 unfold sortO;rw [if_pos (fun x hx y hy=>by rw [hc x hx y hy];rfl)];have hd:∀ x ∈ L,∀ y ∈ L,(c x y).getD 0 < 0 ↔ lt x y:=fun x hx y hy=>by rw [hc x hx y hy];exact hlt x y
 have hasym:∀ x y,lt x y→¬ lt y x:=fun x y h1 h2=>irr x (tr _ _ _ h1 h2);have hR:R.Pairwise fun a b=>¬ (c b a).getD 0 < 0:=by
  have:R.Pairwise fun a b=>a ∈ L∧b ∈ L∧lt a b:=by
   refine List.Pairwise.imp_of_mem ?_ hs;intro a b ha hb h;exact ⟨hp.subset ha,hp.subset hb,h⟩
  refine this.imp ?_
  rintro a b ⟨ha,hb,h⟩ h2
  exact hasym _ _ h ((hd b hb a ha).1 h2)
 refine sortF_of ⟨fun x hx h=>irr x ((hd x hx x hx).1 h),fun x y z hx hy hz h1 h2=>(hd x hx z hz).2 (tr _ _ _ ((hd x hx y hy).1 h1) ((hd y hy z hz).1 h2)),fun x y z hx hy hz h1 h2 h3=>?_⟩ hl ⟨hp,hR⟩ ?_
 ·have h3:=(hd x hx z hz).1 h3;rcases tot x hx y hy with rfl | h | h
  ·exact h2 ((hd _ hy z hz).2 h3)
  ·exact h1 ((hd x hx y hy).2 h)
  ·exact h2 ((hd y hy z hz).2 (tr _ _ _ h h3))
 ·rintro M ⟨hm,hM⟩
  refine sorted_one (hm.trans hp.symm) hM hR fun x y hx hy h1 h2=>?_;have hx:=hm.subset hx;have hy:=hm.subset hy;rcases tot x hx y hy with e | h | h
  ·exact e
  ·exact (h1 ((hd x hx y hy).2 h)).elim
  ·exact (h2 ((hd y hy x hx).2 h)).elim
theorem cmp_pos:∀ {a b:List UInt8},Op.bytesLess b a=true→0 < Lib.compareBytes a b
 | [],b,h=>by cases b <;> simp [Op.bytesLess] at h
 | _::_,[],_=>by simp [Lib.compareBytes]
 | x::a,y::b,h=>by
  simp only [Op.bytesLess,Bool.or_eq_true,Bool.and_eq_true,decide_eq_true_eq,beq_iff_eq] at h;rcases h with h | ⟨rfl,h⟩
  ·have h':y.toNat < x.toNat:=UInt8.lt_iff_toNat_lt.1 h;have h1:¬ x < y:=fun e=>by have:=UInt8.lt_iff_toNat_lt.1 e;omega
   simp [Lib.compareBytes,h,h1]
  ·have:=cmp_pos h;simp [Lib.compareBytes,this]
def NLt (s:zY) (A:List GNode):Prop:=∀ y ∈ A,Op.bytesLess y.name s=true
def NGt (s:zY) (B:List GNode):Prop:=∀ y ∈ B,Op.bytesLess s y.name=true
theorem split_up {t:List GNode} (s:zY) (h:upB t=true):(∃ A B,t=A++B∧NLt s A∧NGt s B) ∨ ∃ A x B,t=A++x::B∧x.name=s∧NLt s A∧NGt s B:=by
 rw [upB_iff] at h
 induction t with
 | nil=>exact .inl ⟨[],[],rfl,fun _ h=>by simp at h,fun _ h=>by simp at h⟩
 | cons x t ih =>
  obtain ⟨h1,h2⟩:=List.pairwise_cons.1 h;rcases less_tot x.name s with e | e | e
  ·exact .inr ⟨[],x,t,rfl,e,fun _ h=>by simp at h,fun y hy=>by rw [← e];exact h1 y hy⟩
  ·rcases ih h2 with ⟨A,B,rfl,ha,hb⟩ | ⟨A,z,B,rfl,hz,ha,hb⟩
   ·refine .inl ⟨x::A,B,rfl,fun y hy=>?_,hb⟩;rcases List.mem_cons.1 hy with rfl | hy
    ·exact e
    ·exact ha y hy
   ·refine .inr ⟨x::A,z,B,rfl,hz,fun y hy=>?_,hb⟩;rcases List.mem_cons.1 hy with rfl | hy
    ·exact e
    ·exact ha y hy
  ·refine .inl ⟨[],x::t,rfl,fun _ h=>by simp at h,fun y hy=>?_⟩;rcases List.mem_cons.1 hy with rfl | hy
   ·exact e
   ·exact less_trans e (h1 y hy)
theorem bs_none {A B:List GNode} {s:zY} (hx:(A++B).length≤16777216) (ha:NLt s A) (hb:NGt s B):zV (A++B) s (fun x0 x1=>vD x0 x1)=some ((A.length:Int),false):=by
 rw [bs_is (c:=A.length) hx (by simp) fun i m hi=>⟨_,layC1_is m s,fun hc=>by
   rw [List.getElem?_append_left hc] at hi;exact cmp_less.2 (ha m (List.mem_of_getElem? hi)),fun hc=>by
   rw [List.getElem?_append_right hc] at hi;exact Int.le_of_lt (cmp_pos (hb m (List.mem_of_getElem? hi)))⟩]
 cases B with
 | nil=>simp
 | cons y B =>
  have e:(A++y::B).getD A.length default=y:=by simp
  have:=cmp_pos (hb y (by simp));rw [if_pos (by simp),e,layC1_is];have e2:(Lib.compareBytes y.name s==0)=false:=by simp;omega
  simp [e2]
theorem bs_some {A B:List GNode} {x:GNode} {s:zY} (hx:(A++x::B).length≤16777216) (hs:x.name=s) (ha:NLt s A) (hb:NGt s B):zV (A++x::B) s (fun x0 x1=>vD x0 x1)=some ((A.length:Int),true):=by
 subst hs;rw [bs_is (c:=A.length) hx (by simp) fun i m hi=>⟨_,layC1_is m x.name,fun hc=>by
   rw [List.getElem?_append_left hc] at hi;exact cmp_less.2 (ha m (List.mem_of_getElem? hi)),fun hc=>by
   rw [List.getElem?_append_right hc] at hi;rcases List.mem_cons.1 (List.mem_of_getElem? hi) with rfl | hm
   ·rw [cmp_self];exact Int.le_refl _
   ·exact Int.le_of_lt (cmp_pos (hb m hm))⟩]
 have e:(A++x::B).getD A.length default=x:=by simp
 rw [if_pos (by simp),e,layC1_is,cmp_self];simp
noncomputable def layIn (n:Nat) (path1:List zY) (kind2:Int) (l3:GLeaf) (there4:Bool) (s1:zY×(List GLeaf)×(List GNode)):Option (List GNode ⊕ ((List GLeaf)×(List GNode))):=((if (decide (((path1).length:Int) > (1:Int)))=true then ((slc path1 (1:Int) ((path1).length:Int)).bind fun m20=>((vF n s1.2.2 m20 kind2 l3 there4).bind fun v21=>some (.inr (s1.2.1,v21)))) else ((vJ s1.2.1).bind fun v22=>((vu v22 (fun x0=>diffXlayC2 x0 kind2)).bind fun v23=>(if there4=true then ((diffXown l3).bind fun v25=>(wR ((v23).length+(([v25]:List GLeaf)).length≤vz) (((sortO (fun x y=>diffXlayC3 x y) (v23++([v25]:List GLeaf))).bind fun v27=>some (.inr (v27,s1.2.2)))))) else some (.inr (v23,s1.2.2)))))):Option (_ ⊕ ((List GLeaf)×(List GNode))))
noncomputable def layRest (t0:List GNode) (i:Int) (f:Bool) (nm:zY) (s2:(List GLeaf)×(List GNode)):Option (List GNode):=((slc t0 (0:Int) i).bind fun m28=>((wg m28).bind fun v29=>(if (decide ((IntKind.wrap .i64 (((s2.1).length:Int)+((s2.2).length:Int))) > (0:Int)))=true then (wR ((v29).length+(([(GNode.mk nm s2.1 s2.2)]:List GNode)).length≤vz) ((if f=true then ((slc t0 (IntKind.wrap .i64 (i+(1:Int))) ((t0).length:Int)).bind fun m35=>(wR (((v29++([(GNode.mk nm s2.1 s2.2)]:List GNode))).length+(m35).length≤vz) (some ((v29++([(GNode.mk nm s2.1 s2.2)]:List GNode))++m35)))) else ((slc t0 i ((t0).length:Int)).bind fun m37=>(wR (((v29++([(GNode.mk nm s2.1 s2.2)]:List GNode))).length+(m37).length≤vz) (some ((v29++([(GNode.mk nm s2.1 s2.2)]:List GNode))++m37))))))) else (if f=true then ((slc t0 (IntKind.wrap .i64 (i+(1:Int))) ((t0).length:Int)).bind fun m40=>(wR ((v29).length+(m40).length≤vz) (some (v29++m40)))) else ((slc t0 i ((t0).length:Int)).bind fun m42=>(wR ((v29).length+(m42).length≤vz) (some (v29++m42))))))))
theorem layN_eq (n:Nat) (t0:List GNode) (path1:List zY) (kind2:Int) (l3:GLeaf) (there4:Bool):vF (n+1) t0 path1 kind2 l3 there4=((wK path1 (0:Int)).bind fun y1=>((zV t0 y1 (fun x0 x1=>vD x0 x1)).bind fun v2=>((wK path1 (0:Int)).bind fun y3=>(lp ((if v2.2=true then ((wK t0 v2.1).bind fun y7=>some (.inr (y7.name,y7.leaves,y7.subs))) else some (.inr (y3,([]:List GLeaf),([]:List GNode)))):Option (_ ⊕ (zY×(List GLeaf)×(List GNode)))) fun (s1:zY×(List GLeaf)×(List GNode))=>(lp (layIn n path1 kind2 l3 there4 s1) fun (s2:(List GLeaf)×(List GNode))=>layRest t0 v2.1 v2.2 s1.1 s2))))):=rfl
def layLs (k:Int) (l:GLeaf) (there:Bool) (ls:List GLeaf):List GLeaf:=if there=true then ls.filter (fun x=>decide (x.typ < k))++[l]++ls.filter (fun x=>decide (k < x.typ)) else ls.filter (fun x=>!decide (x.typ=k))
theorem ups_inj {ls:List GLeaf} (h:ls.Pairwise fun x y=>x.typ < y.typ) {x y:GLeaf} (hx:x ∈ ls) (hy:y ∈ ls) (e:x.typ=y.typ):x=y:=by
 induction ls with
 | nil=>simp at hx
 | cons z r ih =>
  obtain ⟨h1,h2⟩:=List.pairwise_cons.1 h;rcases List.mem_cons.1 hx with ex | hx' <;> rcases List.mem_cons.1 hy with ey | hy'
  ·rw [ex,ey]
  ·have:=h1 y hy';rw [← ex] at this;omega
  ·have:=h1 x hx';rw [← ey] at this;omega
  ·exact ih h2 hx' hy'
theorem layLs_up {k:Int} {l:GLeaf} {there:Bool} {ls:List GLeaf} (hk:there=true→l.typ=k) (h:ls.Pairwise fun x y=>x.typ < y.typ):(layLs k l there ls).Pairwise fun x y=>x.typ < y.typ:=by
 unfold layLs;split
 ·rename_i ht;have hk:=hk ht;rw [List.pairwise_append,List.pairwise_append];refine ⟨⟨h.filter _,by simp,fun x hx y hy=>?_⟩,h.filter _,fun x hx y hy=>?_⟩
  ·have hx:=(List.mem_filter.1 hx).2;simp at hx hy;subst hy;omega
  ·have hy:=(List.mem_filter.1 hy).2;simp at hy;rcases List.mem_append.1 hx with hx | hx
   ·have hx:=(List.mem_filter.1 hx).2;simp at hx;omega
   ·simp at hx;subst hx;omega
 ·exact h.filter _
theorem sortLs_is {k:Int} {l:GLeaf} {ls:List GLeaf} (hk:l.typ=k) (hl:ls.length≤16777216) (h:ls.Pairwise fun x y=>x.typ < y.typ):sortO (fun x y=>diffXlayC3 x y) (ls.filter (fun x=>!decide (x.typ=k))++[l])=some (layLs k l true ls):=by
 have hf:=List.length_filter_le (fun x:GLeaf=>!decide (x.typ=k)) ls;refine sortO_lt (α:=GLeaf) (cf:=fun x y=>cmpI x.typ y.typ) (lt:=fun x y=>x.typ < y.typ) (fun x _ y _=>by unfold diffXlayC3;rw [cmpU8is];rfl) (fun x y=>by unfold cmpI;split <;> (try split) <;> omega) (fun x h=>by omega) (fun x y z h1 h2=>by omega) ?_ ?_ (layLs_up (fun _=>hk) h) (vp (by simp;omega))
 ·intro x hx y hy;rcases Int.lt_trichotomy x.typ y.typ with e | e | e
  ·exact .inr (.inl e)
  ·left;rcases List.mem_append.1 hx with hx | hx <;> rcases List.mem_append.1 hy with hy | hy
   ·exact ups_inj h (List.mem_filter.1 hx).1 (List.mem_filter.1 hy).1 e
   ·have hx:=(List.mem_filter.1 hx).2;simp at hx hy;subst hy;omega
   ·have hy:=(List.mem_filter.1 hy).2;simp at hx hy;subst hx;omega
   ·simp at hx hy;rw [hx,hy]
  ·exact .inr (.inr e)
 ·unfold layLs;rw [if_pos rfl];have h1:(ls.filter (fun x=>decide (x.typ < k))++ls.filter (fun x=>decide (k < x.typ))).Perm (ls.filter fun x=>!decide (x.typ=k)):=by
   have:=List.filter_append_perm (fun x:GLeaf=>decide (x.typ < k)) (ls.filter fun x=>!decide (x.typ=k));rw [List.filter_filter,List.filter_filter] at this;refine List.Perm.trans (.of_eq ?_) this;congr 1 <;> refine List.filter_congr fun x _=>?_ <;> rw [Bool.eq_iff_iff] <;> simp <;> omega
  rw [List.append_assoc];refine List.Perm.trans (List.Perm.append_left _ List.perm_append_comm) ?_;rw [← List.append_assoc];exact h1.append_right _
theorem layIn_leaf {n:Nat} {s:zY} {k:Int} {l:GLeaf} {there:Bool} {nm:zY} {ls:List GLeaf} {sb:List GNode} (hk:there=true→l.typ=k∧LeafOk l) (hl:ls.length≤16777216) (h:ls.Pairwise fun x y=>x.typ < y.typ) :
  layIn n [s] k l there (nm,ls,sb)=some (.inr (layLs k l there ls,sb)):=by
 unfold layIn;have e1:decide (((([s]:List zY).length:Int)) > 1)=false:=rfl;have hf:=List.length_filter_le (fun x:GLeaf=>!decide (x.typ=k)) ls;simp only [e1,Bool.false_eq_true,if_false];rw [cloneLeaf_is (vp (by omega)),Option.bind_some,deleteR_is (q:=fun x=>decide (x.typ=k)) hl (fun x _=>by unfold diffXlayC2;rfl),Option.bind_some];cases there with
 | false=>simp [layLs]
 | true =>
  obtain ⟨h1,h2⟩:=hk rfl;simp only [if_true];rw [own_is h2,Option.bind_some,yc (vp (by simp;omega)),sortLs_is h1 hl h,Option.bind_some]
theorem layIn_sub {n:Nat} {s a:zY} {r:List zY} {k:Int} {l:GLeaf} {there:Bool} {nm:zY} {ls:List GLeaf} {sb sb':List GNode} (hr:(s::a::r).length≤16777216) (h:vF n sb (a::r) k l there=some sb'):layIn n (s::a::r) k l there (nm,ls,sb)=some (.inr (ls,sb')):=by
 unfold layIn;have e1:decide ((((s::a::r).length:Int)) > 1)=true:=decide_eq_true (by simp only [List.length_cons];omega);simp only [e1,if_true];rw [slc_at ⟨by omega,by simp only [List.length_cons];omega,Int.le_refl _⟩,Option.bind_some];have e2:((s::a::r).take (((s::a::r).length:Int)).toNat).drop (1:Int).toNat=a::r:=by rw [Int.toNat_natCast,List.take_length];rfl
 rw [e2,h,Option.bind_some]
def fitN (nm:zY) (ls:List GLeaf) (sb:List GNode):List GNode:=if ls.length+sb.length=0 then [] else [⟨nm,ls,sb⟩]
theorem layRest_is {A B:List GNode} {m:List GNode} {nm:zY} {ls:List GLeaf} {sb:List GNode} {f:Bool} (hm:m.length=if f=true then 1 else 0) (ht:(A++m++B).length≤16777216) (h1:ls.length≤16777216) (h2:sb.length≤16777217) :
  layRest (A++m++B) (A.length:Int) f nm (ls,sb)=some (A++fitN nm ls sb++B):=by
 simp only [List.length_append] at ht;unfold layRest;rw [slc_at ⟨Int.le_refl _,by omega,by simp;omega⟩,Option.bind_some];have e1:((A++m++B).take ((A.length:Int)).toNat).drop (0:Int).toNat=A:=by simp
 rw [e1,cloneNode_is (vp (by omega)),Option.bind_some];have e3:∀ (c:List GNode),c.length≤A.length+1→((if f=true then ((slc (A++m++B) (IntKind.wrap .i64 ((A.length:Int)+(1:Int))) ((A++m++B).length:Int)).bind fun m35=>(wR (c.length+(m35).length≤vz) (some (c++m35)))) else ((slc (A++m++B) (A.length:Int) ((A++m++B).length:Int)).bind fun m37=>(wR (c.length+(m37).length≤vz) (some (c++m37))))):Option (List GNode))=some (c++B):=by
  intro c hc;cases f with
  | true =>
   simp only [if_true] at hm ⊢;rw [w64n (by omega),slc_at ⟨by omega,by simp;omega,Int.le_refl _⟩,Option.bind_some];have e:((A++m++B).take (((A++m++B).length:Int)).toNat).drop ((A.length:Int)+1).toNat=B:=by
    rw [Int.toNat_natCast,List.take_length,show ((A.length:Int)+1).toNat=(A++m).length by simp;omega,List.drop_left]
   rw [e,yc (vp (by omega))]
  | false =>
   simp only [Bool.false_eq_true,if_false] at hm ⊢;obtain rfl:=List.eq_nil_of_length_eq_zero hm;rw [slc_at ⟨by omega,by simp;omega,Int.le_refl _⟩,Option.bind_some];have e:((A++[]++B).take (((A++[]++B).length:Int)).toNat).drop ((A.length:Int)).toNat=B:=by
    simp only [Int.toNat_natCast];rw [List.take_length,List.append_nil,List.drop_left]
   rw [e,yc (vp (by omega))]
 unfold fitN;have e5:IntKind.wrap .i64 ((ls.length:Int)+(sb.length:Int))=(ls.length:Int)+(sb.length:Int):=w64n (by omega);simp only [e5];by_cases h0:ls.length+sb.length=0
 ·rw [if_pos h0,if_neg (by simp;omega),List.append_nil];exact e3 A (by omega)
 ·rw [if_neg h0,if_pos (by simp;omega),yc (vp (by simp;omega))];exact e3 (A++[⟨nm,ls,sb⟩]) (by simp)

theorem leaves_of {ls:List GLeaf} (h:ls.Pairwise fun x y=>x.typ < y.typ) (hb:∀ l ∈ ls,leafB l=true):leavesB ls=true:=by
 unfold leavesB;rw [allI_iff];intro i x hx;have h1:=hb x (List.mem_of_getElem? hx);simp only [h1,Bool.true_and];rcases i with _ | i
 ·rfl
 ·obtain ⟨hi,rfl⟩:=List.getElem?_eq_some_iff.1 hx;have:=List.pairwise_iff_getElem.1 h i (i+1) (by omega) hi (by omega);simp only [Nat.add_sub_cancel,Bool.or_eq_true,decide_eq_true_eq];right;rw [List.getD_eq_getElem?_getD,List.getElem?_eq_getElem (by omega:i < ls.length)];exact this
theorem rowsL_app (a:List zY) (A B:List GNode):ya a (A++B)=ya a A++ya a B:=by rw [w9,w9,w9,List.flatMap_append]
theorem rowsN_mem {a:List zY} {x:GNode} {r:GRow}:r ∈ rowsN a x ↔ (∃ l ∈ x.leaves,r=⟨a++[x.name],l⟩) ∨ r ∈ ya (a++[x.name]) x.subs:=by
 rw [vw,List.mem_append,List.mem_map];constructor
 ·rintro (⟨l,h1,rfl⟩ | h)
  ·exact .inl ⟨l,h1,rfl⟩
  ·exact .inr h
 ·rintro (⟨l,h1,rfl⟩ | h)
  ·exact .inl ⟨l,h1,rfl⟩
  ·exact .inr h
theorem rows_one {a:List zY} {x:GNode}:ya a [x]=rowsN a x:=by simp [ya]
theorem fit_mem {a:List zY} {nm:zY} {ls:List GLeaf} {sb:List GNode} {r:GRow}:r ∈ ya a (fitN nm ls sb) ↔ (∃ l ∈ ls,r=⟨a++[nm],l⟩) ∨ r ∈ ya (a++[nm]) sb:=by
 unfold fitN;split
 ·rename_i h;have h1:ls=[]:=List.eq_nil_of_length_eq_zero (by omega);have h2:sb=[]:=List.eq_nil_of_length_eq_zero (by omega);subst h1 h2;simp [ya]
 ·rw [rows_one,rowsN_mem]
theorem len_rows (t:List GNode) (a b:List zY):(ya a t).length=(ya b t).length:=by
 have h1:=rows_pre t a [];have h2:=rows_pre t b [];rw [List.append_nil] at h1 h2;rw [h1,h2,List.length_map,List.length_map]
theorem node_row:∀ (t:List GNode) (d:Nat),qu d t=true→t.length≤(ya [] t).length:=by
 refine qG (fun _ _=>Nat.zero_le _) ?_;intro x r hx hr d hn;simp only [qu,Bool.and_eq_true] at hn;have h1:=hr d hn.2;have h2:=hn.1;rw [nodeB_eq] at h2;simp only [Bool.and_eq_true,treeB,Bool.not_eq_true',Bool.and_eq_false_iff] at h2;have h3:=hx (d+1) h2.1.2.2;rw [show x::r=[x]++r from rfl,rowsL_app,rows_one,vw];simp only [List.length_append,List.length_map,List.length_cons,List.length_nil];rw [len_rows x.subs ([]++[x.name]) []];rcases h2.1.1.2 with h | h
 ·cases hl:x.leaves with
  | nil=>rw [hl] at h;cases h
  | cons l ls=>simp only [List.length_cons];omega
 ·cases hl:x.subs with
  | nil=>rw [hl] at h;cases h
  | cons l ls=>rw [hl] at h3;simp only [List.length_cons] at h3;omega
theorem mem_rows_len {t:List GNode} {x:GNode} (hx:x ∈ t):x.leaves.length+(ya [] x.subs).length≤(ya [] t).length:=by
 obtain ⟨A,B,rfl⟩:=List.append_of_mem hx;rw [rowsL_app,show x::B=[x]++B from rfl,rowsL_app,rows_one,vw];simp only [List.length_append,List.length_map];rw [len_rows x.subs ([]++[x.name]) []];omega
theorem xe {d:Nat} {t:List GNode} (h:treeB d t=true):upB t=true∧∀ x ∈ t,nodeB d x=true:=by
 simp only [treeB,Bool.and_eq_true,vC,List.all_eq_true] at h;exact ⟨h.1.2,h.2⟩
theorem treeB_of {d:Nat} {t:List GNode} (hd:d < 3) (h1:upB t=true) (h2:∀ x ∈ t,nodeB d x=true):treeB d t=true:=by
 simp only [treeB,Bool.and_eq_true,vC,List.all_eq_true,h1,hd,decide_true,Bool.or_true,true_and];exact h2
theorem qL {d:Nat} {x:GNode} (h:nodeB d x=true):nameB x.name=true∧treeB (d+1) x.subs=true∧leavesB x.leaves=true:=by
 rw [nodeB_eq] at h;simp only [Bool.and_eq_true] at h;exact ⟨h.1.1.1,h.1.2,h.2⟩
theorem find_node {d:Nat} {t:List GNode} (s:zY) (h:treeB d t=true) (hw:(ya [] t).length≤16777215):∃ A m B f ls sb,t=A++m++B∧NLt s A∧NGt s B∧m.length=(if f=true then 1 else 0)∧zV t s (fun x0 x1=>vD x0 x1)=some ((A.length:Int),f) ∧
  ((if f=true then ((wK t (A.length:Int)).bind fun y7=>some (.inr (y7.name,y7.leaves,y7.subs))) else some (.inr (s,([]:List GLeaf),([]:List GNode)))):Option (List GNode ⊕ (zY×(List GLeaf)×(List GNode))))=some (.inr (s,ls,sb))∧treeB (d+1) sb=true∧leavesB ls=true ∧
  ls.length+(ya [] sb).length≤(ya [] t).length∧∀ a r,r ∈ ya a m ↔ (∃ l ∈ ls,r=⟨a++[s],l⟩) ∨ r ∈ ya (a++[s]) sb:=by
 obtain ⟨h1,h2⟩:=xe h;have hl:t.length≤16777215:=Nat.le_trans (node_row t d (by rw [vC];exact List.all_eq_true.2 h2)) hw;rcases split_up s h1 with ⟨A,B,rfl,ha,hb⟩ | ⟨A,x,B,rfl,hx,ha,hb⟩
 ·refine ⟨A,[],B,false,[],[],by simp,ha,hb,rfl,bs_none (by omega) ha hb,rfl,tree_nil _,rfl,by simp [ya],fun a r=>by simp [ya]⟩
 ·obtain ⟨n1,n2,n3⟩:=qL (h2 x (by simp));refine ⟨A,[x],B,true,x.leaves,x.subs,by simp,ha,hb,rfl,bs_some (by omega) hx ha hb,?_,n2,n3,mem_rows_len (by simp),fun a r=>?_⟩
  ·rw [if_pos rfl,yI (x:=x) (by simp),Option.bind_some,hx]
  ·rw [rows_one,rowsN_mem,hx]
theorem rows_off {s:zY} {A:List GNode} (h:∀ y ∈ A,y.name ≠ s) {a q:List zY} {r:GRow} (hr:r ∈ ya a A):r.path ≠ a++s::q:=by
 obtain ⟨x,hx,w,e⟩:=rows_head hr;rw [e];intro e2;have:=List.append_cancel_left e2;injection this with e3 _;exact h x hx e3
theorem NLt.ne {s:zY} {A:List GNode} (h:NLt s A):∀ y ∈ A,y.name ≠ s:=fun y hy=>less_ne (h y hy)
theorem NGt.ne {s:zY} {A:List GNode} (h:NGt s A):∀ y ∈ A,y.name ≠ s:=fun y hy=>(less_ne (h y hy)).symm
theorem lay_fin {d:Nat} {A m B:List GNode} {s:zY} {ls:List GLeaf} {sb:List GNode} (hd:d < 3) (h:treeB d (A++m++B)=true) (ha:NLt s A) (hb:NGt s B) (hs:nameB s=true) (h1:leavesB ls=true) (h2:treeB (d+1) sb=true):treeB d (A++fitN s ls sb++B)=true:=by
 obtain ⟨u,n⟩:=xe h;rw [upB_iff,List.pairwise_append,List.pairwise_append] at u;have hAB:∀ x ∈ A,∀ y ∈ B,Op.bytesLess x.name y.name=true:=fun x hx y hy=>less_trans (ha x hx) (hb y hy);have hf:∀ x ∈ fitN s ls sb,x=⟨s,ls,sb⟩∧¬ ls.length+sb.length=0:=fun x hx=>by
  unfold fitN at hx;split at hx
  ·simp at hx
  ·rename_i h0;simp at hx;exact ⟨hx,h0⟩
 refine treeB_of hd ?_ ?_
 ·rw [upB_iff,List.pairwise_append,List.pairwise_append];refine ⟨⟨u.1.1,?_,fun x hx y hy=>by rw [(hf y hy).1];exact ha x hx⟩,u.2.1,fun x hx y hy=>?_⟩
  ·unfold fitN;split <;> simp
  ·rcases List.mem_append.1 hx with hx | hx
   ·exact hAB x hx y hy
   ·rw [(hf x hx).1];exact hb y hy
 ·intro x hx;rcases List.mem_append.1 hx with hx | hx
  ·rcases List.mem_append.1 hx with hx | hx
   ·exact n x (by simp [hx])
   ·obtain ⟨rfl,h0⟩:=hf x hx;rw [nodeB_eq];simp only [hs,h1,h2,Bool.and_true,Bool.true_and,Bool.not_eq_true',Bool.and_eq_false_iff];cases ls with
    | cons _ _=>exact .inl rfl
    | nil=>cases sb with
     | cons _ _=>exact .inr rfl
     | nil=>simp at h0
  ·exact n x (by simp [hx])
theorem fit_len (s:zY) (ls:List GLeaf) (sb:List GNode):(fitN s ls sb).length≤1:=by unfold fitN;split <;> simp
theorem layLs_mem {k:Int} {l:GLeaf} {there:Bool} {ls:List GLeaf} {x:GLeaf}:x ∈ layLs k l there ls ↔ (x ∈ ls∧x.typ ≠ k) ∨ (there=true∧x=l):=by
 unfold layLs;cases there with
 | false=>simp
 | true =>
  simp only [if_true,List.mem_append,List.mem_filter,List.mem_singleton,decide_eq_true_eq,true_and];constructor
  ·rintro ((⟨h,h2⟩ | h) | ⟨h,h2⟩)
   ·exact .inl ⟨h,by omega⟩
   ·exact .inr h
   ·exact .inl ⟨h,by omega⟩
  ·rintro (⟨h,h2⟩ | h)
   ·rcases Int.lt_or_gt_of_ne h2 with h3 | h3
    ·exact .inl (.inl ⟨h,h3⟩)
    ·exact .inr ⟨h,h3⟩
   ·exact .inl (.inr h)
theorem lay_is {k:Int} {l:GLeaf} {there:Bool} (hk:there=true→l.typ=k∧leafB l=true∧LeafOk l):∀ (p:List zY) (t:List GNode) (d n:Nat),p ≠ []→p.all nameB=true→d+p.length≤3→treeB d t=true→(ya [] t).length≤16777215→p.length < n →
  ∃ t',vF n t p k l there=some t'∧treeB d t'=true∧t'.length≤t.length+1∧∀ a r,r ∈ ya a t' ↔ (r ∈ ya a t∧qz r ≠ (a++p,k)) ∨ (there=true∧r=⟨a++p,l⟩)
 | [],_,_,_,h,_,_,_,_,_=>absurd rfl h
 | _::_,_,_,0,_,_,_,_,_,h=>by omega
 | s::q,t,d,n+1,_,hp,hd,ht,hw,hn=>by
  simp only [List.all_cons,Bool.and_eq_true,List.length_cons] at hp hd hn;obtain ⟨A,m,B,f,ls,sb,rfl,ha,hb,hm,hbs,hst,hsb,hls,hlen,hrow⟩:=find_node s ht hw;have hix:wK (s::q) (0:Int)=some s:=rfl;obtain ⟨hup,hlb⟩:=leaves_up hls;have hl3:(A++m++B).length≤16777215:=Nat.le_trans (node_row _ d (by rw [vC];exact List.all_eq_true.2 (xe ht).2)) hw;have hfl:=fun ls' sb'=>fit_len s ls' sb';have hlen2:∀ ls' sb',(A++fitN s ls' sb'++B).length≤(A++m++B).length+1:=fun ls' sb'=>by
   have:=fit_len s ls' sb';simp only [List.length_append];omega
  rw [layN_eq,hix,Option.bind_some,hbs,Option.bind_some,Option.bind_some];simp only [];rw [hst,vX];cases q with
  | nil =>
   rw [layIn_leaf (fun h=>⟨(hk h).1,(hk h).2.2⟩) (by omega) hup,vX,layRest_is hm (by omega) (by
    have:(layLs k l there ls).length≤ls.length+1:=by
     unfold layLs;split
     ·have h1:=List.filter_append_perm (fun x:GLeaf=>decide (x.typ < k)) ls;have h2:=h1.length_eq;have h3:(ls.filter fun x=>decide (k < x.typ)).length≤(ls.filter fun x=>!decide (x.typ < k)).length:=by
       have:(ls.filter fun x=>decide (k < x.typ))=(ls.filter fun x=>!decide (x.typ < k)).filter (fun x=>decide (k < x.typ)):=by
        rw [List.filter_filter];refine List.filter_congr fun x _=>?_;rw [Bool.eq_iff_iff];simp;omega
       rw [this];exact List.length_filter_le _ _
      simp only [List.length_append,List.length_cons,List.length_nil] at h2 ⊢;omega
     ·exact Nat.le_succ_of_le (List.length_filter_le _ _)
    omega) (by have:=node_row sb (d+1) (by rw [vC];exact List.all_eq_true.2 (xe hsb).2);omega)]
   refine ⟨_,rfl,lay_fin (by omega) ht ha hb hp.1 (leaves_of (layLs_up (fun h=>(hk h).1) hup) fun x hx=>?_) hsb,hlen2 _ _,fun a r=>?_⟩
   ·rcases layLs_mem.1 hx with h | ⟨h,rfl⟩
    ·exact hlb x h.1
    ·exact (hk h).2.1
   ·simp only [rowsL_app,List.mem_append,fit_mem,hrow];have oA:r ∈ ya a A→qz r ≠ (a++[s],k):=fun h e=>rows_off ha.ne h (congrArg Prod.fst e);have oB:r ∈ ya a B→qz r ≠ (a++[s],k):=fun h e=>rows_off hb.ne h (congrArg Prod.fst e);have oS:r ∈ ya (a++[s]) sb→qz r ≠ (a++[s],k):=fun h e=>by
     have:=(rows_path sb _ r h).1;rw [show r.path=a++[s] from congrArg Prod.fst e] at this;omega
    constructor
    ·rintro ((h | ⟨x,hx,rfl⟩ | h) | h)
     ·exact .inl ⟨.inl (.inl h),oA h⟩
     ·rcases layLs_mem.1 hx with ⟨h1,h2⟩ | ⟨h1,rfl⟩
      ·exact .inl ⟨.inl (.inr (.inl ⟨x,h1,rfl⟩)),fun e=>h2 (congrArg Prod.snd e)⟩
      ·exact .inr ⟨h1,rfl⟩
     ·exact .inl ⟨.inl (.inr (.inr h)),oS h⟩
     ·exact .inl ⟨.inr h,oB h⟩
    ·rintro (⟨(h | ⟨x,hx,rfl⟩ | h) | h,h2⟩ | ⟨h1,rfl⟩)
     ·exact .inl (.inl h)
     ·exact .inl (.inr (.inl ⟨x,layLs_mem.2 (.inl ⟨hx,fun e=>h2 (by rw [← e];rfl)⟩),rfl⟩))
     ·exact .inl (.inr (.inr h))
     ·exact .inr h
     ·exact .inl (.inr (.inl ⟨l,layLs_mem.2 (.inr ⟨h1,rfl⟩),rfl⟩))
  | cons c q =>
   obtain ⟨sb',e1,e2,e3,e4⟩:=lay_is hk (c::q) sb (d+1) n (by simp) hp.2 (by simp only [List.length_cons] at hd ⊢;omega) hsb (by omega) (by omega);have hsl:=node_row sb (d+1) (by rw [vC];exact List.all_eq_true.2 (xe hsb).2);rw [layIn_sub (by simp only [List.length_cons] at hd ⊢;omega) e1,vX,layRest_is hm (by omega) (by omega) (by omega)];refine ⟨_,rfl,lay_fin (by omega) ht ha hb hp.1 hls e2,hlen2 _ _,fun a r=>?_⟩;simp only [rowsL_app,List.mem_append,fit_mem,hrow,e4];have ea:a++[s]++c::q=a++s::c::q:=by simp
   rw [ea];have oA:r ∈ ya a A→qz r ≠ (a++s::c::q,k):=fun h e=>rows_off ha.ne h (congrArg Prod.fst e);have oB:r ∈ ya a B→qz r ≠ (a++s::c::q,k):=fun h e=>rows_off hb.ne h (congrArg Prod.fst e);have oS:∀ x,r=⟨a++[s],x⟩→qz r ≠ (a++s::c::q,k):=fun x h e=>by
    rw [h] at e;have:=congrArg List.length (congrArg Prod.fst e);simp [qz] at this
   constructor
   ·rintro ((h | ⟨x,hx,h⟩ | (h | h)) | h)
    ·exact .inl ⟨.inl (.inl h),oA h⟩
    ·exact .inl ⟨.inl (.inr (.inl ⟨x,hx,h⟩)),oS x h⟩
    ·exact .inl ⟨.inl (.inr (.inr h.1)),h.2⟩
    ·exact .inr h
    ·exact .inl ⟨.inr h,oB h⟩
   ·rintro (⟨(h | ⟨x,hx,h⟩ | h) | h,h2⟩ | h)
    ·exact .inl (.inl h)
    ·exact .inl (.inr (.inl ⟨x,hx,h⟩))
    ·exact .inl (.inr (.inr (.inl ⟨h,h2⟩)))
    ·exact .inr h
    ·exact .inl (.inr (.inr (.inr h)))

theorem rowLt_iff {r q:GRow}:rowLt r q ↔ kltB (qz r) (qz q)=true:=by
 unfold rowLt kltB qz;simp only [Bool.or_eq_true,Bool.and_eq_true,decide_eq_true_eq];constructor
 ·rintro (h | h)
  ·exact .inl (path_plt h)
  ·exact .inr h
 ·rintro (h | h)
  ·exact .inl (plt_path h)
  ·exact .inr h
theorem sorted_ext {α:Type} {lt:α→α→Prop} (irr:∀ x,¬ lt x x) (tr:∀ x y z,lt x y→lt y z→lt x z):∀ {L M:List α},L.Pairwise lt→M.Pairwise lt→(∀ x,x ∈ L ↔ x ∈ M)→L=M
 | [],[],_,_,_=>rfl
 | [],y::M,_,_,h=>by have:=(h y).2 (by simp);simp at this
 | x::L,[],_,_,h=>by have:=(h x).1 (by simp);simp at this
 | x::L,y::M,h1,h2,h=>by
  obtain ⟨a1,a2⟩:=List.pairwise_cons.1 h1;obtain ⟨b1,b2⟩:=List.pairwise_cons.1 h2;have e:x=y:=by
   rcases List.mem_cons.1 ((h x).1 (by simp)) with e | hx
   ·exact e
   ·rcases List.mem_cons.1 ((h y).2 (by simp)) with e | hy
    ·exact e.symm
    ·exact (irr x (tr _ _ _ (a1 y hy) (b1 x hx))).elim
  subst e;rw [sorted_ext irr tr a2 b2 fun z=>?_];constructor
  ·intro hz;rcases List.mem_cons.1 ((h z).1 (by simp [hz])) with e | hz2
   ·subst e;exact (irr _ (a1 _ hz)).elim
   ·exact hz2
  ·intro hz;rcases List.mem_cons.1 ((h z).2 (by simp [hz])) with e | hz2
   ·subst e;exact (irr _ (b1 _ hz)).elim
   ·exact hz2
theorem filter_app_left {α:Type} {P:α→Bool} {A B:List α} (h1:∀ x ∈ A,P x=true) (h2:∀ x ∈ B,P x=false):(A++B).filter P=A∧(A++B).filter (fun x=>!P x)=B:=by
 rw [List.filter_append,List.filter_append,List.filter_eq_self.2 h1,List.filter_eq_nil_iff.2 (fun x hx=>by simp [h2 x hx]),List.filter_eq_nil_iff.2 (fun x hx=>by simp [h1 x hx]),List.filter_eq_self.2 (fun x hx=>by simp [h2 x hx])];simp
theorem app_split {α:Type} {P:α→Bool} {A B C D:List α} (h:A++B=C++D) (h1:∀ x ∈ A,P x=true) (h2:∀ x ∈ B,P x=false) (h3:∀ x ∈ C,P x=true) (h4:∀ x ∈ D,P x=false):A=C∧B=D:=by
 obtain ⟨a,b⟩:=filter_app_left h1 h2;obtain ⟨c,d⟩:=filter_app_left h3 h4;exact ⟨by rw [← a,← c,h],by rw [← b,← d,h]⟩
theorem rowsN_head {a:List zY} {x:GNode} {r:GRow} (h:r ∈ rowsN a x):∃ w,r.path=a++x.name::w:=by
 rw [← rows_one] at h;obtain ⟨y,hy,w,e⟩:=rows_head h;simp only [List.mem_singleton] at hy;subst hy;exact ⟨w,e⟩
theorem rowsN_ne {d:Nat} {x:GNode} (h:nodeB d x=true) (a:List zY):∃ r L,rowsN a x=r::L:=by
 have h1:=node_row [x] d (by simp [qu,h]);rw [len_rows [x] [] a,rows_one] at h1;cases e:rowsN a x with
 | nil=>rw [e] at h1;simp at h1
 | cons r L=>exact ⟨r,L,rfl⟩
def hasN (n:Nat) (s:zY) (r:GRow):Bool:=decide ((r.path.drop n).head?=some s)
theorem hasN_is (a w:List zY) (s nm:zY) {r:GRow} (h:r.path=a++nm::w):hasN a.length s r=decide (nm=s):=by
 unfold hasN;rw [h,List.drop_left];simp
theorem rows_inj:∀ (t:List GNode) (d:Nat) (a:List zY) (t':List GNode),treeB d t=true→treeB d t'=true→ya a t=ya a t'→t=t':=by
 have key:∀ (t:List GNode) (d:Nat) (a:List zY) (t':List GNode),(∀ x ∈ t,nodeB d x=true)→upB t=true→(∀ x ∈ t',nodeB d x=true)→upB t'=true→ya a t=ya a t'→t=t':=by
  refine qG ?_ ?_
  ·intro d a t' _ _ h _ e;cases t' with
   | nil=>rfl
   | cons y r =>
    obtain ⟨q,L,e2⟩:=rowsN_ne (h y (by simp)) a;rw [ya,ya,e2] at e;simp at e
  ·intro x r hx hr d a t' n1 u1 n2 u2 e;cases t' with
   | nil =>
    obtain ⟨q,L,e2⟩:=rowsN_ne (n1 x (by simp)) a;rw [ya,ya,e2] at e;simp at e
   | cons y s =>
    rw [upB_iff,List.pairwise_cons] at u1 u2;have e:rowsN a x++ya a r=rowsN a y++ya a s:=e;have hxy:x.name=y.name:=by
     obtain ⟨q,L,e2⟩:=rowsN_ne (n1 x (by simp)) a;obtain ⟨q',L',e3⟩:=rowsN_ne (n2 y (by simp)) a;have e4:=e;rw [e2,e3] at e4;injection e4 with e5 _;subst e5;obtain ⟨w,h1⟩:=rowsN_head (a:=a) (x:=x) (r:=q) (by rw [e2];simp);obtain ⟨w',h2⟩:=rowsN_head (a:=a) (x:=y) (r:=q) (by rw [e3];simp);rw [h1] at h2;have:=List.append_cancel_left h2;injection this
    obtain ⟨e6,e7⟩:=app_split (P:=hasN a.length x.name) e
     (fun q hq=>by obtain ⟨w,h⟩:=rowsN_head hq;rw [hasN_is a w _ _ h];simp)
     (fun q hq=>by
      obtain ⟨z,hz,w,h⟩:=rows_head hq;rw [hasN_is a w _ _ h];exact decide_eq_false (less_ne (u1.1 z hz)).symm)
     (fun q hq=>by obtain ⟨w,h⟩:=rowsN_head hq;rw [hasN_is a w _ _ h,hxy];simp)
     (fun q hq=>by
      obtain ⟨z,hz,w,h⟩:=rows_head hq;rw [hasN_is a w _ _ h,hxy];exact decide_eq_false (less_ne (u2.1 z hz)).symm)
    have e8:=hr d a s (fun z hz=>n1 z (by simp [hz])) ((upB_iff r).2 u1.2) (fun z hz=>n2 z (by simp [hz])) ((upB_iff s).2 u2.2) e7;rw [vw,vw,← hxy] at e6;obtain ⟨e9,e10⟩:=app_split (P:=fun q=>decide (q.path.length=a.length+1)) e6
     (fun q hq=>by obtain ⟨l,_,rfl⟩:=List.mem_map.1 hq;simp)
     (fun q hq=>by have:=(rows_path _ _ q hq).1;simp at this;exact decide_eq_false (by omega))
     (fun q hq=>by obtain ⟨l,_,rfl⟩:=List.mem_map.1 hq;simp)
     (fun q hq=>by have:=(rows_path _ _ q hq).1;simp at this;exact decide_eq_false (by omega))
    have e11:x.leaves=y.leaves:=by
     have:=congrArg (List.map (·.leaf)) e9;simpa [List.map_map,Function.comp_def] using this
    obtain ⟨_,p2,_⟩:=qL (n1 x (by simp));obtain ⟨_,q2,_⟩:=qL (n2 y (by simp));have e12:=hx (d+1) (a++[x.name]) y.subs (xe p2).2 (xe p2).1 (xe q2).2 (xe q2).1 e10;cases x;cases y;simp only at hxy e11 e12;rw [hxy,e11,e12,e8]
 intro t d a t' h1 h2 e;exact key t d a t' (xe h1).2 (xe h1).1 (xe h2).2 (xe h2).1 e
theorem rows_sorted {d:Nat} {t:List GNode} (h:treeB d t=true) (a:List zY):(ya a t).Pairwise fun r q=>kltB (qz r) (qz q)=true:=by
 have:=rows_lt t d a (xe h).1 (by rw [vC];exact List.all_eq_true.2 (xe h).2);exact this.imp fun h=>rowLt_iff.1 h
theorem rows_ext {t t':List GNode} (h1:treeB 0 t=true) (h2:treeB 0 t'=true) (h:∀ r,r ∈ ya [] t ↔ r ∈ ya [] t'):t=t' :=
 rows_inj t 0 [] t' h1 h2 (sorted_ext (lt:=fun r q=>kltB (qz r) (qz q)=true) (fun x h=>by rw [klt_irr] at h;cases h) (fun _ _ _=>klt_trans) (rows_sorted h1 []) (rows_sorted h2 []) h)
theorem sorted_key {α:Type} {key:α→Key} {L:List α} (h:L.Pairwise fun r q=>kltB (key r) (key q)=true) {x y:α} (hx:x ∈ L) (hy:y ∈ L) (e:key x=key y):x=y:=by
 induction L with
 | nil=>simp at hx
 | cons z r ih =>
  obtain ⟨h1,h2⟩:=List.pairwise_cons.1 h;rcases List.mem_cons.1 hx with ex | hx' <;> rcases List.mem_cons.1 hy with ey | hy'
  ·rw [ex,ey]
  ·have:=h1 y hy';rw [← ex,e,klt_irr] at this;cases this
  ·have:=h1 x hx';rw [← ey,e,klt_irr] at this;cases this
  ·exact ih h2 hx' hy'

theorem first_is {α:Type} {q:α→Bool} {del:α→Option Bool}:∀ (L:List α) (n:Nat),(∀ x ∈ L,del x=some (q x)) →
  (yl (fun (n1:Nat) (x1:α) (_:Unit)=>(((del x1).bind fun v7=>(if v7=true then some (.ret (n1:Int)) else some (.nxt ()))):Option (Out Int Unit))) L n ()=some (.inr ())∧∀ x ∈ L,q x=false) ∨
  ∃ A x B,L=A++x::B∧q x=true∧(∀ y ∈ A,q y=false)∧yl (fun (n1:Nat) (x1:α) (_:Unit)=>(((del x1).bind fun v7=>(if v7=true then some (.ret (n1:Int)) else some (.nxt ()))):Option (Out Int Unit))) L n ()=some (.inl ((n+A.length:Nat):Int))
 | [],n,_=>.inl ⟨rfl,by simp⟩
 | x::r,n,h=>by
  have hx:=h x (by simp);cases hq:q x with
  | true=>exact .inr ⟨[],x,r,rfl,hq,by simp,by simp [yl,hx,hq]⟩
  | false =>
   rcases first_is r (n+1) (fun y hy=>h y (by simp [hy])) with ⟨e,h2⟩ | ⟨A,y,B,rfl,h1,h2,e⟩
   ·refine .inl ⟨by simp only [yl,hx,hq,Option.bind_some];exact e,?_⟩;intro y hy;rcases List.mem_cons.1 hy with rfl | hy
    ·exact hq
    ·exact h2 y hy
   ·refine .inr ⟨x::A,y,B,rfl,h1,?_,?_⟩
    ·intro z hz;rcases List.mem_cons.1 hz with rfl | hz
     ·exact hq
     ·exact h2 z hz
    ·simp only [yl,hx,hq,Option.bind_some];rw [show n+(x::A).length=n+1+A.length by simp only [List.length_cons];omega];exact e
def node0:GNode:=GNode.mk ([]:zY) ([]:List GLeaf) ([]:List GNode)
def nodeOf (t:List GNode) (s:zY):Option GNode:=t.find? fun x=>x.name==s
theorem linear_is (t:List GNode) (s:zY):treeXlinear t s=some (match nodeOf t s with | some x=>(x,true) | none=>(node0,false)):=by
 unfold treeXlinear qa;rcases first_is (q:=fun x:GNode=>x.name==s) (del:=fun x0=>treeXlinearC1 x0 s) t 0 (fun x _=>rfl) with ⟨e,h⟩ | ⟨A,x,B,rfl,h1,h2,e⟩
 ·rw [e];have:nodeOf t s=none:=List.find?_eq_none.2 fun x hx=>by rw [h x hx];simp
  rw [this];rfl
 ·rw [e];have:nodeOf (A++x::B) s=some x:=by
   unfold nodeOf;rw [List.find?_append,List.find?_eq_none.2 (fun y hy=>by rw [h2 y hy];simp),List.find?_cons,h1];rfl
  rw [this];simp only [lp,Option.bind_some,Nat.zero_add];rw [if_neg (by simp),yI (x:=x) (by simp)];rfl
def nodeAt:List GNode→List zY→Option GNode
 | _,[]=>none
 | t,[s]=>nodeOf t s
 | t,s::c::q=>(nodeOf t s).bind fun x=>nodeAt x.subs (c::q)
noncomputable def tlF:Nat→zY→(List GNode)×Bool×zY×(List GLeaf)×(List GNode)→Option (Out ((GLeaf×Bool) ⊕ (Bool×zY×(List GLeaf)×(List GNode))) ((List GNode)×Bool×zY×(List GLeaf)×(List GNode))):=(fun (_:Nat) (x2:zY) (s2:(List GNode)×Bool×zY×(List GLeaf)×(List GNode))=>(((treeXlinear s2.1 x2).bind fun v47=>(if (!v47.2)=true then some (.brk (s2.1,v47.2,v47.1.name,v47.1.leaves,v47.1.subs)) else some (.nxt (v47.1.subs,v47.2,v47.1.name,v47.1.leaves,v47.1.subs))))))
noncomputable def tlR (kind2:Int) (s1:Bool×zY×(List GLeaf)×(List GNode)):Option (GLeaf×Bool):=((xI s1.2.2.1 (fun x0=>treeLeafC1 x0 kind2)).bind fun v49=>((if (((!s1.1) || (decide (v49 < (0:Int))))==false)=true then leafNew kind2 else some default).bind fun v50=>(if (((!s1.1) || (decide (v49 < (0:Int)))) || (v50.typ==(0:Int)))=true then ((leafNew kind2).bind fun v52=>some (v52,false)) else ((wK s1.2.2.1 v49).bind fun y53=>((ww y53.items).bind fun v54=>((w8 y53.tombs).bind fun v55=>some ((GLeaf.mk y53.typ y53.n y53.time y53.dot y53.text v54 v55),true)))))))
theorem tl_eq (t0:List GNode) (path1:List zY) (kind2:Int):qq t0 path1 kind2=(lp ((lp (yl tlF path1 0 (t0,(decide (((path1).length:Int) > (0:Int))),([]:zY),([]:List GLeaf),([]:List GNode))) fun (s2:(List GNode)×Bool×zY×(List GLeaf)×(List GNode))=>some (.inr (s2.2.1,s2.2.2.1,s2.2.2.2.1,s2.2.2.2.2))):Option ((GLeaf×Bool) ⊕ (Bool×zY×(List GLeaf)×(List GNode)))) (tlR kind2)):=rfl
theorem tl_walk:∀ (p:List zY) (n:Nat) (t:List GNode) (z:Bool×zY×(List GLeaf)×(List GNode)),p ≠ [] →
  match nodeAt t p with
  | some x=>yl tlF p n (t,z)=some (.inr (x.subs,true,x.name,x.leaves,x.subs))
  | none=>∃ u,yl tlF p n (t,z)=some (.inr (u,false,([]:zY),([]:List GLeaf),([]:List GNode)))
 | [],_,_,_,h=>absurd rfl h
 | [s],n,t,z,_=>by
  simp only [nodeAt,yl,tlF,linear_is,Option.bind_some];cases nodeOf t s with
  | none=>exact ⟨t,rfl⟩
  | some x=>rfl
 | s::c::q,n,t,z,_=>by
  have ih:=fun u z=>tl_walk (c::q) (n+1) u z (by simp);simp only [nodeAt];cases e:nodeOf t s with
  | none=>exact ⟨t,by rw [yl];simp only [tlF,linear_is,e,Option.bind_some];rfl⟩
  | some x =>
   have e2:tlF n s (t,z)=some (.nxt (x.subs,true,x.name,x.leaves,x.subs)):=by simp only [tlF,linear_is,e,Option.bind_some];rfl
   have:=ih x.subs (true,x.name,x.leaves,x.subs);rw [yl,e2,Option.bind_some];exact this
theorem nodeOf_split {t:List GNode} (s:zY) (h:upB t=true):(nodeOf t s=none∧∀ y ∈ t,y.name ≠ s) ∨ ∃ A x B,t=A++x::B∧nodeOf t s=some x∧x.name=s∧(∀ y ∈ A,y.name ≠ s)∧∀ y ∈ B,y.name ≠ s:=by
 rcases split_up s h with ⟨A,B,rfl,ha,hb⟩ | ⟨A,x,B,rfl,hx,ha,hb⟩
 ·left;have:∀ y ∈ A++B,y.name ≠ s:=fun y hy=>by
   rcases List.mem_append.1 hy with hy | hy
   ·exact ha.ne y hy
   ·exact hb.ne y hy
  exact ⟨List.find?_eq_none.2 fun y hy=>by simp [this y hy],this⟩
 ·refine .inr ⟨A,x,B,rfl,?_,hx,ha.ne,hb.ne⟩;unfold nodeOf;rw [List.find?_append,List.find?_eq_none.2 (fun y hy=>by simp [ha.ne y hy]),List.find?_cons];simp [hx]
theorem row_at:∀ (p:List zY) (t:List GNode) (d:Nat) (a:List zY) (l:GLeaf),p ≠ []→treeB d t=true→(GRow.mk (a++p) l ∈ ya a t ↔ ∃ x,nodeAt t p=some x∧l ∈ x.leaves)
 | [],_,_,_,_,h,_=>absurd rfl h
 | s::q,t,d,a,l,_,h=>by
  obtain ⟨hu,hn⟩:=xe h;rcases nodeOf_split s hu with ⟨e,h1⟩ | ⟨A,x,B,rfl,e,hx,ha,hb⟩
  ·have e2:nodeAt t (s::q)=none:=by cases q <;> simp [nodeAt,e]
   rw [e2];constructor
   ·intro hr;exact (rows_off h1 hr rfl).elim
   ·rintro ⟨x,h,_⟩;cases h
  ·rw [rowsL_app,show x::B=[x]++B from rfl,rowsL_app,rows_one,List.mem_append,List.mem_append,rowsN_mem,hx];have oA:¬ GRow.mk (a++s::q) l ∈ ya a A:=fun hr=>rows_off ha hr rfl;have oB:¬ GRow.mk (a++s::q) l ∈ ya a B:=fun hr=>rows_off hb hr rfl;have hsub:=(qL (hn x (by simp))).2.1;cases q with
   | nil =>
    have oS:¬ GRow.mk (a++[s]) l ∈ ya (a++[s]) x.subs:=fun hr=>by
     have:=(rows_path _ _ _ hr).1;simp at this
    have e2:nodeAt (A++x::B) [s]=some x:=e;have e3:nodeAt (A++([x]++B)) [s]=some x:=e;rw [e3];constructor
    ·rintro (h | (⟨y,hy,h⟩ | h) | h)
     ·exact (oA h).elim
     ·injection h with _ h;subst h;exact ⟨x,rfl,hy⟩
     ·exact (oS h).elim
     ·exact (oB h).elim
    ·rintro ⟨y,h,hl⟩
     injection h with h;subst h;exact .inr (.inl (.inl ⟨l,hl,rfl⟩))
   | cons c q =>
    have ih:=row_at (c::q) x.subs (d+1) (a++[s]) l (by simp) hsub;have ea:a++[s]++c::q=a++s::c::q:=by simp
    rw [ea] at ih;have e3:nodeAt (A++([x]++B)) (s::c::q)=nodeAt x.subs (c::q):=by
     show (nodeOf (A++x::B) s).bind _=_;rw [e];rfl
    rw [e3,ih];constructor
    ·rintro (h | (⟨y,hy,h⟩ | h) | h)
     ·exact (oA h).elim
     ·injection h with h _;have:=congrArg List.length h;simp at this
     ·exact h
     ·exact (oB h).elim
    ·intro h;exact .inr (.inl (.inr h))
theorem row_mk {r:GRow} {p:List zY} {k:Int} (h:qz r=(p,k)):r=GRow.mk ([]++p) r.leaf:=by
 have e:r.path=p:=congrArg Prod.fst h;cases r;simp only at e;rw [e];rfl
theorem leafNew_typ {k:Int} (h:1≤k∧k≤4):∃ v,leafNew k=some v∧v.typ=k:=by
 unfold leafNew;rw [if_neg (by simp;omega)];exact ⟨_,rfl,rfl⟩
theorem tlR_none {k:Int} (s:zY):∃ v,tlR k (false,s,([]:List GLeaf),([]:List GNode))=some (v,false):=by
 obtain ⟨v,e⟩:=leafNew_tot k;refine ⟨v,?_⟩;unfold tlR xI;simp [yl,lp,e]
theorem treeLeaf_is {t:List GNode} (h:treeB 0 t=true) (hok:∀ r ∈ ya [] t,LeafOk r.leaf) {p:List zY} (hp:p ≠ []) {k:Int} (hk:1≤k∧k≤4) :
  (∃ l,GRow.mk p l ∈ ya [] t∧l.typ=k∧qq t p k=some (l,true)) ∨ ((∀ r ∈ ya [] t,qz r ≠ (p,k))∧∃ v,qq t p k=some (v,false)):=by
 have hw:=tl_walk p 0 t (decide ((p.length:Int) > 0),([]:zY),([]:List GLeaf),([]:List GNode)) hp;have hr:=fun l=>row_at p t 0 [] l hp h;rw [tl_eq];cases e:nodeAt t p with
 | none =>
  rw [e] at hw;obtain ⟨u,hw⟩:=hw;right;refine ⟨fun r hr2 e2=>?_,?_⟩
  ·have:=row_mk e2;rw [this] at hr2;obtain ⟨x,h1,_⟩:=(hr _).1 hr2;rw [e] at h1;cases h1
  ·rw [hw];exact tlR_none []
 | some x =>
  rw [e] at hw;simp only at hw;rw [hw];simp only [vX];obtain ⟨v0,n1,n2⟩:=leafNew_typ hk;unfold tlR xI;rcases first_is (q:=fun y:GLeaf=>y.typ==k) (del:=fun x0=>treeLeafC1 x0 k) x.leaves 0 (fun x _=>rfl) with ⟨e1,h1⟩ | ⟨A,y,B,hxl,h1,h2,e1⟩
  ·right;refine ⟨fun r hr2 e2=>?_,v0,?_⟩
   ·have:=row_mk e2;rw [this] at hr2;obtain ⟨x',h3,h4⟩:=(hr _).1 hr2;rw [e] at h3;injection h3 with h3;subst h3;have:=h1 _ h4;simp only [beq_eq_false_iff_ne] at this;exact this (congrArg Prod.snd e2)
   ·simp only [];rw [e1];simp [lp,n1]
  ·left;have hy:y ∈ x.leaves:=by rw [hxl];simp
   have hmem:GRow.mk ([]++p) y ∈ ya [] t:=(hr y).2 ⟨x,e,hy⟩;have hyk:y.typ=k:=by simpa using h1
   have ho:=hok _ hmem;refine ⟨y,hmem,hyk,?_⟩;simp only [];rw [e1];simp only [lp,Option.bind_some,Nat.zero_add];have c1:((!true) || (decide (((A.length:Nat):Int) < (0:Int))))=false:=by simp
   rw [c1];simp only [beq_self_eq_true,if_true,n1,Option.bind_some,Bool.false_or,n2];rw [if_neg (by simp;omega),hxl,yI (x:=y) (by simp),Option.bind_some,cloneItem_is (vp (Nat.le_succ_of_le ho.items)),Option.bind_some,cloneDot_is (vp (Nat.le_succ_of_le ho.tombs)),Option.bind_some]

structure EOk (e:GEdit):Prop where
 path:pathB e.path=true
 typ:1≤e.typ∧e.typ≤4
 any:e.had=true ∨ e.has=true
 ne:e.had=true→e.has=true→e.was ≠ e.is
 was1:e.had=true→leafB e.was=true∧LeafOk e.was∧e.was.typ=e.typ
 was0:e.had=false→e.was=leaf0
 is1:e.has=true→leafB e.is=true∧LeafOk e.is∧e.is.typ=e.typ
 is0:e.has=false→e.is=leaf0
def eLt (a b:GEdit):Prop:=kltB (ekey a) (ekey b)=true
theorem side_is {there:Bool} {l:GLeaf} {k:Int} (h1:there=true→leafB l=true∧LeafOk l∧l.typ=k) (h0:there=false→l=leaf0):diffXside there l k=some true:=by
 cases there with
 | false=>rw [h0 rfl];exact side0 k
 | true=>obtain ⟨a,b,rfl⟩:=h1 rfl;exact side1 a b
theorem diffMay_is {es:List GEdit} (hlen:es.length≤16777216) (hok:∀ e ∈ es,EOk e) (hlt:es.Pairwise eLt):diffMay es=some true:=by
 unfold diffMay;rw [lp_all (r:=false) (fun _ _=>true) (fun i x hx=>?_)]
 ·have:allI (fun _ _=>true) es=true:=allI_iff.2 fun _ _ _=>rfl;rw [if_pos this]
 ·have hi:=(List.getElem?_eq_some_iff.1 hx).1;have ho:=hok x (List.mem_of_getElem? hx);have e1:decide (x.typ ≥ 1)=true:=decide_eq_true ho.typ.1;have e2:decide (x.typ≤4)=true:=decide_eq_true ho.typ.2;have e3:opMayPath x.path=some true:=by rw [opMayPath_is,ho.path]
  have eo:∃ v,(if ((decide ((i:Int) > (0:Int)))==true)=true then diffXorder (es.getD (IntKind.wrap .i64 ((i:Int) - (1:Int))).toNat default) x else some default)=some v∧((decide ((i:Int) > 0))&&(decide (v ≥ 0)))=false:=by
   by_cases h0:0 < i
   ·have ew:IntKind.wrap .i64 ((i:Int) - 1)=((i - 1:Nat):Int):=by rw [w64n (by omega)];omega
    have hp:es[i - 1]?=some es[i - 1]:=List.getElem?_eq_getElem (by omega);have h2:ordI es[i - 1] x < 0:=ordI_lt.2 (by
     have:=List.pairwise_iff_getElem.1 hlt (i - 1) i (by omega) hi (by omega)
     rwa [(List.getElem?_eq_some_iff.1 hx).2] at this)
    have eg:es.getD (i - 1) default=es[i - 1]:=by
     rw [List.getD_eq_getElem?_getD,hp];rfl
    rw [decide_eq_true (by omega:(i:Int) > 0),ew,Int.toNat_natCast,eg,order_is];exact ⟨_,rfl,by rw [decide_eq_false (by omega)];rfl⟩
   ·rw [decide_eq_false (by omega:¬ (i:Int) > 0)];exact ⟨default,rfl,rfl⟩
  obtain ⟨v,ev1,ev2⟩:=eo;have ec:((decide ((i:Int) > (0:Int)))==true)=true→0≤(IntKind.wrap .i64 ((i:Int) - (1:Int)))∧(IntKind.wrap .i64 ((i:Int) - (1:Int))) < ((es).length:Int):=by
   intro h;simp only [beq_iff_eq,decide_eq_true_eq] at h;rw [w64n (by omega)];omega
  obtain ⟨z,ez,ez2⟩:∃ z,(if ((x.had&&x.has)==true)=true then leafSame x.was x.is else some default)=some z∧((x.had&&x.has)&&z)=false:=by
   cases h1:x.had with
   | false=>exact ⟨default,rfl,rfl⟩
   | true =>
    cases h2:x.has with
    | false=>exact ⟨default,rfl,rfl⟩
    | true=>exact ⟨false,by rw [if_pos (by rfl),leafSame_is,decide_eq_false (ho.ne h1 h2)],rfl⟩
  have s1:diffXside x.had x.was x.typ=some true:=side_is ho.was1 ho.was0;have s2:diffXside x.has x.is x.typ=some true:=side_is ho.is1 ho.is0;have ea:((!x.had)&&(!x.has))=false:=by
   rcases ho.any with h | h <;> simp [h]
  rw [ez,Option.bind_some,e3,Option.bind_some,e1,e2];have q1:((((!true) || (!(true&&true))) || ((!x.had)&&(!x.has))) || ((x.had&&x.has)&&z))=false:=by rw [ea,ez2];rfl
  rw [q1,if_pos (by rfl),s1,Option.bind_some];have q2:((false || (!true))==false)=true:=rfl;rw [if_pos q2,s2,Option.bind_some];have q3:((false || (!true)) || (!true))=false:=rfl;rw [q3,if_neg (by decide),yc ec,ev1,Option.bind_some,ev2];simp
noncomputable def patF (t0:List GNode):Nat→GEdit→List GNode→Option (Out (List GNode×Int) (List GNode)):=(fun (n1:Nat) (x1:GEdit) (s1:(List GNode))=>(((qq t0 x1.path x1.typ).bind fun v14=>((if (((!(v14.2==x1.had))==false)&&(v14.2==true))=true then leafSame v14.1 x1.was else some default).bind fun v15=>(if ((!(v14.2==x1.had)) || (v14.2&&(!v15)))=true then some (.ret (([]:List GNode),(16:Int))) else ((diffXlay s1 x1.path x1.typ x1.is x1.has).bind fun v17=>some (.nxt v17))))):Option (Out _ (List GNode))))
theorem patch_eq (t0:List GNode) (l1:List GEdit):diffPatch t0 l1=((treeMay t0).bind fun v1=>((if ((!v1)==false)=true then diffMay l1 else some default).bind fun v2=>(if ((!v1) || (!v2))=true then some (([]:List GNode),(2:Int)) else ((pathsSelect t0 ([([42,42]:zY)]:List zY)).bind fun v4=>(lp (yl (patF t0) l1 0 v4.1) fun (s1:(List GNode))=>some (s1,(0:Int))))))):=rfl
theorem sub_len {α:Type} {lt:α→α→Prop} (irr:∀ x,¬ lt x x):∀ (L M:List α),L.Pairwise lt→(∀ x ∈ L,x ∈ M)→L.length≤M.length
 | [],_,_,_=>Nat.zero_le _
 | x::L,M,h,hs=>by
  obtain ⟨h1,h2⟩:=List.pairwise_cons.1 h;obtain ⟨A,B,rfl⟩:=List.append_of_mem (hs x (by simp));have:=sub_len irr L (A++B) h2 fun y hy=>by
   have hy2:=hs y (by simp [hy]);have hne:y ≠ x:=fun e=>irr x (by have:=h1 y hy;rwa [e] at this);simp only [List.mem_append,List.mem_cons] at hy2 ⊢;rcases hy2 with h | h | h
   ·exact .inl h
   ·exact (hne h).elim
   ·exact .inr h
  simp only [List.length_append,List.length_cons] at this ⊢;omega
theorem pathB_parts {p:List zY} (h:pathB p=true):p ≠ []∧p.length≤3∧p.all nameB=true:=by
 refine ⟨pathB_ne h,?_⟩;simp only [pathB,Bool.and_eq_true,decide_eq_true_eq] at h;exact ⟨h.1.2,h.2⟩
theorem lay_all {k:Int} {l:GLeaf} {there:Bool} {p:List zY} {t:List GNode} (hk:there=true→l.typ=k∧leafB l=true∧LeafOk l) (hp:pathB p=true) (ht:treeB 0 t=true) (hw:(ya [] t).length≤16777215) :
  ∃ t',diffXlay t p k l there=some t'∧treeB 0 t'=true∧(ya [] t').length≤(ya [] t).length+1∧∀ r,r ∈ ya [] t' ↔ (r ∈ ya [] t∧qz r ≠ (p,k)) ∨ (there=true∧r=⟨p,l⟩):=by
 obtain ⟨p1,p2,p3⟩:=pathB_parts hp;obtain ⟨t',e1,e2,_,e4⟩:=lay_is hk p t 0 (p.length+1) p1 p3 (by omega) ht hw (by omega);have e4:=e4 [];simp only [List.nil_append] at e4;refine ⟨t',anyN_of (p.length+1) fun n hn=>?_,e2,?_,e4⟩
 ·obtain ⟨u,f1,f2,_,f4⟩:=lay_is hk p t 0 n p1 p3 (by omega) ht hw (by omega);have f4:=f4 [];simp only [List.nil_append] at f4;rw [f1,rows_ext f2 e2 fun r=>by rw [f4,e4]]
 ·have:=sub_len (lt:=fun r q=>kltB (qz r) (qz q)=true) (fun x h=>by rw [klt_irr] at h;cases h) (ya [] t') (ya [] t++[⟨p,l⟩]) (rows_sorted e2 []) fun r hr=>by
   rcases (e4 r).1 hr with h | h
   ·simp [h.1]
   ·simp [h.2]
  simpa using this
structure EFits (t:List GNode) (e:GEdit):Prop where
 had:e.had=true→GRow.mk e.path e.was ∈ ya [] t
 new:e.had=false→∀ r ∈ ya [] t,qz r ≠ ekey e
theorem patF_is {t s:List GNode} {e:GEdit} (ht:treeB 0 t=true) (hok:∀ r ∈ ya [] t,LeafOk r.leaf) (he:EOk e) (hf:EFits t e) (hs:treeB 0 s=true) (hw:(ya [] s).length≤16777215) (n:Nat) :
  ∃ u,patF t n e s=some (.nxt u)∧treeB 0 u=true∧(ya [] u).length≤(ya [] s).length+1∧∀ r,r ∈ ya [] u ↔ (r ∈ ya [] s∧qz r ≠ ekey e) ∨ (e.has=true∧r=⟨e.path,e.is⟩):=by
 obtain ⟨u,u1,u2,u3,u4⟩:=lay_all (k:=e.typ) (l:=e.is) (there:=e.has) (fun h=>⟨(he.is1 h).2.2,(he.is1 h).1,(he.is1 h).2.1⟩) he.path hs hw;refine ⟨u,?_,u2,u3,u4⟩;unfold patF;rcases treeLeaf_is ht hok (pathB_parts he.path).1 he.typ with ⟨l,h1,h2,h3⟩ | ⟨h1,v,h3⟩
 ·have hh:e.had=true:=by
   cases h:e.had with
   | true=>rfl
   | false=>exact (hf.new h _ h1 (by unfold qz ekey;rw [h2])).elim
  have:(GRow.mk e.path l)=GRow.mk e.path e.was:=sorted_key (rows_sorted ht []) h1 (hf.had hh) (by unfold qz;rw [h2,(he.was1 hh).2.2]);injection this with _ hl;rw [h3,hh,hl];simp only [Option.bind_some,leafSame_is,u1];simp
 ·have hh:e.had=false:=by
   cases h:e.had with
   | false=>rfl
   | true=>exact (h1 _ (hf.had h) (by unfold qz;rw [(he.was1 h).2.2])).elim
  rw [h3,hh];simp only [Option.bind_some,u1];simp
theorem pat_loop {t:List GNode} (ht:treeB 0 t=true) (hok:∀ r ∈ ya [] t,LeafOk r.leaf):∀ (es:List GEdit) (n:Nat) (s:List GNode),(∀ e ∈ es,EOk e∧EFits t e)→es.Pairwise eLt→treeB 0 s=true→(ya [] s).length+es.length≤16777215 →
  ∃ u,yl (patF t) es n s=some (.inr u)∧treeB 0 u=true∧∀ r,r ∈ ya [] u ↔ (r ∈ ya [] s∧∀ e ∈ es,qz r ≠ ekey e) ∨ ∃ e ∈ es,e.has=true∧r=⟨e.path,e.is⟩
 | [],n,s,_,_,hs,_=>⟨s,rfl,hs,fun r=>by simp⟩
 | e::es,n,s,h,hp,hs,hw=>by
  obtain ⟨p1,p2⟩:=List.pairwise_cons.1 hp;simp only [List.length_cons] at hw;obtain ⟨ho,hf⟩:=h e (by simp);obtain ⟨u1,a1,a2,a3,a4⟩:=patF_is ht hok ho hf hs (by omega) n;obtain ⟨u,b1,b2,b3⟩:=pat_loop ht hok es (n+1) u1 (fun x hx=>h x (by simp [hx])) p2 a2 (by omega);refine ⟨u,by rw [yl,a1];exact b1,b2,fun r=>?_⟩;rw [b3,a4];have hkey:e.has=true→∀ x ∈ es,qz ⟨e.path,e.is⟩ ≠ ekey x:=fun hh x hx e2=>by
   have:=p1 x hx;unfold eLt at this;rw [← e2] at this;have e3:qz ⟨e.path,e.is⟩=ekey e:=by unfold qz ekey;rw [(ho.is1 hh).2.2]
   rw [e3,klt_irr] at this;cases this
  constructor
  ·rintro (⟨h1 | h1,h2⟩ | ⟨x,hx,h1⟩)
   ·refine .inl ⟨h1.1,fun x hx=>?_⟩;rcases List.mem_cons.1 hx with rfl | hx
    ·exact h1.2
    ·exact h2 x hx
   ·exact .inr ⟨e,by simp,h1⟩
   ·exact .inr ⟨x,by simp [hx],h1⟩
  ·rintro (⟨h1,h2⟩ | ⟨x,hx,h1⟩)
   ·exact .inl ⟨.inl ⟨h1,h2 e (by simp)⟩,fun x hx=>h2 x (by simp [hx])⟩
   ·rcases List.mem_cons.1 hx with rfl | hx
    ·exact .inl ⟨.inr h1,fun y hy=>by rw [h1.2];exact hkey h1.1 y hy⟩
    ·exact .inr ⟨x,hx,h1⟩
theorem select_all {t:List GNode} (hs:Small t) (ht:treeB 0 t=true):pathsSelect t [[42,42]]=some (t,0):=by
 have hp:patB [[42,42]]=true:=by decide
 rw [pathsSelect_is hs (by simp [maxLen]),ht,hp];have:qW (matchB [[42,42]]) [] t=t:=by
  refine rows_ext (keep_may _ t 0 [] ht) ht fun r=>?_;rw [keep_rows,List.mem_filter];refine ⟨fun h=>h.1,fun h=>⟨h,?_⟩⟩;have hb:=(rows_ok t 0 [] hs ht rfl rfl r h).path;unfold matchB;rw [hb,hp];simp [qA,endsB,agreeB]
 simp [this]
theorem patch_is {t:List GNode} (hs:Small t) (ht:treeB 0 t=true) {es:List GEdit} (hw:(ya [] t).length+es.length≤16777215) (h:∀ e ∈ es,EOk e∧EFits t e) (hp:es.Pairwise eLt) :
  ∃ u,diffPatch t es=some (u,0)∧treeB 0 u=true∧∀ r,r ∈ ya [] u ↔ (r ∈ ya [] t∧∀ e ∈ es,qz r ≠ ekey e) ∨ ∃ e ∈ es,e.has=true∧r=⟨e.path,e.is⟩:=by
 have hok:=fun r hr=>(rows_ok t 0 [] hs ht rfl rfl r hr).ok;obtain ⟨u,a1,a2,a3⟩:=pat_loop ht hok es 0 t h hp ht hw;refine ⟨u,?_,a2,a3⟩;rw [patch_eq,treeMay_is hs,ht,Option.bind_some,if_pos (show ((!true)==false)=true from rfl),diffMay_is (by omega) (fun e he=>(h e he).1) hp,Option.bind_some,if_neg (by decide),select_all hs ht,Option.bind_some,a1,vX]

end Go.Vv
