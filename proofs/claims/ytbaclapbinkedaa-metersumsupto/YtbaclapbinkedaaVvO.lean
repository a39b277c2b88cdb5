/- A region that draws its order, proved. -/
import Derived.Test.YtbaclapbinkedaaVvN
namespace Go.Vv
open Go Go.RowKit Go.Lib

def dstAt (ops:Array Oper) (k:Nat):Option Tmp:=(ops[k]?).bind (·.dst)
def wt (ops:Array Oper) (Ns:List Nat) (k:Nat):Bool:=match ops[k]? with | some o=>effN Ns k o.op | none=>false
def fE (ops:Array Oper) (vs:Nat→AV) (S:Nat→Bool) (env:List AV):Nat→List AV
 | 0=>env
 | k+1=>if S k then setd (fE ops vs S env k) (dstAt ops k) (vs k) else fE ops vs S env k
def fH (ops:Array Oper) (Ns:List Nat) (hs:Nat→AH) (S:Nat→Bool):Nat→AH
 | 0=>hs 0
 | k+1=>if S k&&wt ops Ns k then hs (k+1) else fH ops Ns hs S k

section
variable {ops:Array Oper} {Ns:List Nat} {vs:Nat→AV} {hs:Nat→AH} {env:List AV}

theorem setd_len (env:List AV) (d:Option Tmp) (v:AV):(setd env d v).length=env.length:=by cases d <;> simp [setd]
theorem fE_len (S:Nat→Bool):∀ k,(fE ops vs S env k).length=env.length
 | 0=>rfl
 | k+1=>by
  simp only [fE]
  split
  ·rw [setd_len,fE_len S k]
  ·exact fE_len S k
theorem setd_get_ne {env:List AV} {d:Option Tmp} {v:AV} {t:Nat} (h:d ≠ some t):(setd env d v)[t]?=env[t]?:=by
 cases d with
 | none=>rfl
 | some d=>simp only [setd];exact List.getElem?_set_ne (fun e=>h (by rw [e]))
theorem fE_at {S T:Nat→Bool} {t:Nat}:∀ k,(∀ w,w < k→dstAt ops w=some t→S w=T w)→(fE ops vs S env k)[t]?=(fE ops vs T env k)[t]?
 | 0,_=>rfl
 | k+1,h=>by
  have ih:=fE_at (S:=S) (T:=T) k fun w hw hd=>h w (by omega) hd
  simp only [fE]
  by_cases hd:dstAt ops k=some t
  ·have hST:=h k (by omega) hd
   rw [hST,hd]
   cases T k
   ·simpa using ih
   ·simp only [if_true,setd,List.getElem?_set,fE_len]
  ·have h1:(if S k then setd (fE ops vs S env k) (dstAt ops k) (vs k) else fE ops vs S env k)[t]?=(fE ops vs S env k)[t]?:=by
    split
    ·exact setd_get_ne hd
    ·rfl
   have h2:(if T k then setd (fE ops vs T env k) (dstAt ops k) (vs k) else fE ops vs T env k)[t]?=(fE ops vs T env k)[t]?:=by
    split
    ·exact setd_get_ne hd
    ·rfl
   rw [h1,h2,ih]
theorem fE_eq {S T:Nat→Bool}:∀ k,(∀ w,w < k→S w=T w)→fE ops vs S env k=fE ops vs T env k
 | 0,_=>rfl
 | k+1,h=>by simp only [fE,h k (by omega),fE_eq k fun w hw=>h w (by omega)]
theorem fE_stop {S:Nat→Bool} {i:Nat} (h:∀ w,i≤w→S w=false):∀ m,fE ops vs S env (i+m)=fE ops vs S env i
 | 0=>rfl
 | m+1=>by rw [← Nat.add_assoc];simp only [fE,h (i+m) (by omega),Bool.false_eq_true,if_false];exact fE_stop h m
theorem fE_last {S:Nat→Bool} {i t n:Nat} (hi:S i=true) (hd:dstAt ops i=some t) (ht:t < env.length) (hlt:i < n) (h:∀ w,i < w→w < n→dstAt ops w=some t→S w=false) :
  (fE ops vs S env n)[t]?=some (vs i):=by
 obtain ⟨m,rfl⟩:∃ m,n=i+1+m:=⟨n - (i+1),by omega⟩
 induction m with
 | zero =>
  simp only [fE,hi,if_true,hd,setd]
  rw [List.getElem?_set_self (by rw [fE_len];exact ht)]
 | succ m ih =>
  rw [← Nat.add_assoc]
  simp only [fE]
  have ih':=ih (by omega) fun w h1 h2=>h w h1 (by omega)
  split
  ·rename_i hS
   by_cases hd':dstAt ops (i+1+m)=some t
   ·rw [h (i+1+m) (by omega) (by omega) hd'] at hS;cases hS
   ·rw [setd_get_ne hd'];exact ih'
  ·exact ih'
theorem fH_eq {S T:Nat→Bool}:∀ k,(∀ e,e < k→wt ops Ns e=true→S e=T e)→fH ops Ns hs S k=fH ops Ns hs T k
 | 0,_=>rfl
 | k+1,h=>by
  simp only [fH,fH_eq k fun e he=>h e (by omega)]
  cases he:wt ops Ns k with
  | true=>rw [h k (by omega) he]
  | false=>simp
theorem fH_all {S:Nat→Bool} (hn:∀ k,wt ops Ns k=false→hs (k+1)=hs k):∀ k,(∀ e,e < k→wt ops Ns e=true→S e=true)→fH ops Ns hs S k=hs k
 | 0,_=>rfl
 | k+1,h=>by
  simp only [fH]
  cases he:wt ops Ns k with
  | true=>simp [h k (by omega) he]
  | false=>simp only [Bool.and_false,Bool.false_eq_true,if_false,fH_all hn k fun e he=>h e (by omega)];exact (hn k he).symm
theorem fH_stop {S:Nat→Bool} {i:Nat} (h:∀ w,i≤w→wt ops Ns w=true→S w=false):∀ m,fH ops Ns hs S (i+m)=fH ops Ns hs S i
 | 0=>rfl
 | m+1=>by
  rw [← Nat.add_assoc];simp only [fH]
  rw [if_neg]
  ·exact fH_stop h m
  ·intro hh
   simp only [Bool.and_eq_true] at hh
   rw [h (i+m) (by omega) hh.2] at hh;cases hh.1
theorem fH_blks {S T:Nat→Bool} (hn:∀ k,wt ops Ns k=false→hs (k+1)=hs k):∀ k,
  (∀ e,e < k→wt ops Ns e=true→S e ≠ T e→(hs (e+1)).blks=(hs e).blks) →
  (∀ e e',e < e'→e' < k→wt ops Ns e=true→wt ops Ns e'=true→S e'=true→S e=true)→(∀ e e',e < e'→e' < k→wt ops Ns e=true→wt ops Ns e'=true→T e'=true→T e=true) →
  (fH ops Ns hs S k).blks=(fH ops Ns hs T k).blks
 | 0,_,_,_=>rfl
 | k+1,h,pS,pT=>by
  have ih:=fH_blks (S:=S) (T:=T) hn k (fun e he=>h e (by omega)) (fun e e' h1 h2=>pS e e' h1 (by omega)) (fun e e' h1 h2=>pT e e' h1 (by omega))
  simp only [fH]
  cases he:wt ops Ns k with
  | false=>simpa using ih
  | true =>
   simp only [Bool.and_true]
   cases hS:S k <;> cases hT:T k
   ·simpa using ih
   ·simp only [Bool.false_eq_true,if_false,if_true]
    rw [h k (by omega) he (by rw [hS,hT];simp),ih]
    rw [fH_all hn k fun e he' hh=>pT e k he' (by omega) hh he hT]
   ·simp only [Bool.false_eq_true,if_false,if_true]
    rw [h k (by omega) he (by rw [hS,hT];simp),← ih]
    rw [fH_all hn k fun e he' hh=>pS e k he' (by omega) hh he hS]
   ·simp

theorem count_lt {p q:Nat→Bool}:∀ (l:List Nat),(∀ x ∈ l,p x=true→q x=true)→(∃ x ∈ l,q x=true∧p x=false)→l.countP p < l.countP q
 | [],_,⟨x,hx,_⟩=>by cases hx
 | y::r,h,⟨x,hx,hq,hp⟩=>by
  have hmono:r.countP p≤r.countP q:=List.countP_mono_left fun z hz=>h z (by simp [hz])
  simp only [List.countP_cons]
  rcases List.mem_cons.1 hx with rfl | hx
  ·simp only [hq,hp,if_true];simp;omega
  ·have ih:=count_lt r (fun z hz=>h z (by simp [hz])) ⟨x,hx,hq,hp⟩
   have:(if p y=true then 1 else 0)≤(if q y=true then 1 else 0):=by
    by_cases hpy:p y=true
    ·simp [hpy,h y (by simp) hpy]
    ·simp [hpy]
   omega
end
section
variable {P:Program} {B:Nat} {w0:World} {g0:Gh} {D:List Deferred} {ro:Option Nat} {n:Nat} {ops:Array Oper} {Ns:List Nat} {F:Nat→AH→Prop} [GOk P B w0]

theorem drawOk_edge (h:drawOk ops Ns=true) {i:Nat} {o:Oper} (hi:ops[i]?=some o):∀ e ∈ o.after,Region.binds .any e=true→e.on < i:=by
 unfold drawOk at h
 simp only [List.all_eq_true] at h
 have hm:(o,i) ∈ ops.toList.zipIdx:=by rw [List.mem_zipIdx_iff_getElem?];simpa using hi
 have:=h (o,i) hm
 simp only [Bool.and_eq_true] at this
 intro e he hb
 have h1:=Array.all_eq_true_iff_forall_mem.1 this.1 e he
 simpa [hb] using h1
theorem before_lt (h:drawOk ops Ns=true):∀ (i w:Nat),((Region.before ops).getD i 0).testBit w=true→w < i:=by
 intro i
 induction i using Nat.strongRecOn with
 | _ i ih =>
  intro w hw
  rcases hi:ops[i]? with _ | o
  ·have:(Region.before ops).getD i 0=0:=by
    rw [before_eq,Array.getD_eq_getD_getElem?,Array.getElem?_eq_none]
    ·rfl
    rw [bef_size];simp at hi ⊢;exact hi
   rw [this] at hw;simp at hw
  ·obtain ⟨e,he,hb,hh⟩:=before_spec hi hw
   have h1:=drawOk_edge h hi e he hb
   rcases hh with rfl | ⟨_,h2⟩
   ·exact h1
   ·exact Nat.lt_trans (ih e.on h1 w h2) h1
theorem drawOk_pair (h:drawOk ops Ns=true) {i j:Nat} {o o':Oper} (hi:ops[i]?=some o) (hj:ops[j]?=some o') (hne:i ≠ j) (hc:cmpb (Region.before ops) i j=false) :
  (∀ d,o.dst=some d→d ∉ o'.looksAt ops∧o'.dst ≠ some d)∧(effN Ns i o.op=true→effN Ns j o'.op=false):=by
 unfold drawOk at h
 simp only [List.all_eq_true] at h
 have hm:(o,i) ∈ ops.toList.zipIdx:=by rw [List.mem_zipIdx_iff_getElem?];simpa using hi
 have hm':(o',j) ∈ ops.toList.zipIdx:=by rw [List.mem_zipIdx_iff_getElem?];simpa using hj
 have h1:=h (o,i) hm
 simp only [Bool.and_eq_true,List.all_eq_true] at h1
 have h2:=h1.2 (o',j) hm'
 simp only [hc,Bool.or_false,Bool.or_eq_true,beq_iff_eq,hne,false_or,Bool.and_eq_true,Bool.not_eq_true',Bool.and_eq_false_iff] at h2
 refine ⟨fun d hd=>?_,fun he=>?_⟩
 ·have h3:=h2.1
  rw [hd] at h3
  simp at h3
  exact ⟨h3.1,h3.2⟩
 ·rcases h2.2 with h3 | h3
  ·rw [he] at h3;cases h3
  ·exact h3

theorem fE_none {vs:Nat→AV} {env:List AV} {S:Nat→Bool}:∀ k,(∀ w,w < k→S w=false)→fE ops vs S env k=env
 | 0,_=>rfl
 | k+1,h=>by simp only [fE,h k (by omega),Bool.false_eq_true,if_false];exact fE_none k fun w hw=>h w (by omega)

theorem AR.still {o:Oper} {env:List AV} {h h':AH} {v:AV} (hne:isEff o.op=false) (hr:AR P ops o env h v h'):h'=h:=by
 unfold AR at hr
 split at hr
 ·rcases astep_still (P:=P) (env:=env) (h:=h) hne with ⟨x,hx⟩ | ⟨n,u,hx⟩ | hx
  ·rw [hx h fun _=>rfl] at hr
   cases x with
   | none=>exact hr.elim
   | some v'=>exact hr.2
  ·rw [hx h] at hr;exact hr.2
  ·rcases hx h with ⟨S,hS⟩ | hS <;> (rw [hS] at hr;exact hr.elim)
 ·exact hr.2
 ·exact hr.elim

theorem ARN.still {i:Nat} {o:Oper} {env:List AV} {h h':AH} {v:AV} (hne:effN Ns i o.op=false) (hr:ARN P ops Ns F i o env h v h'):h'=h:=by
 rcases hr with ⟨h1,h2⟩ | ⟨_,_,h2,_⟩ | ⟨h1,hbd,_,h2⟩
 ·refine AR.still ?_ h2
  simp only [effN,h1,Bool.not_false,Bool.and_true] at hne
  exact hne
 ·exact h2
 ·simp only [effN,h1,Bool.not_false,Bool.and_true] at hne
  exact (bstep_still hne hbd h2).1
theorem draw_seq {QA:List AV→AH→Prop}:∀ (rest:List Oper) (k:Nat) (env:List AV) (h:AH),ops.toList.drop k=rest→k≤ops.size→yV P ops Ns F QA k rest env h →
  ∃ (vs:Nat→AV) (hs:Nat→AH),hs k=h∧(∀ i o,k≤i→ops[i]?=some o→ARN P ops Ns F i o (fE ops vs (fun w=>decide (k≤w)) env i) (hs i) (vs i) (hs (i+1))∧(anch ops Ns i=true ∨ (hs (i+1)).blks=(hs i).blks)∧(hs (i+1)=hs i ∨ FOk ((Region.before ops).getD i 0) Ns F (hs (i+1)))) ∧
   QA (fE ops vs (fun w=>decide (k≤w)) env ops.size) (hs ops.size)
 | [],k,env,h,hd,hkn,hw=>by
  have hk:k=ops.size:=by
   have:=congrArg List.length hd
   simp at this;omega
  subst hk
  refine ⟨fun _=>za,fun _=>h,rfl,fun i o hi ho=>?_,?_⟩
  ·have:=(Array.getElem?_eq_some_iff.1 ho).1;omega
  ·rw [fE_none _ fun w hw=>by simp;omega];exact hw
 | o::rest,k,env,h,hd,hkn,hw=>by
  have ho:ops[k]?=some o:=by
   rw [← Array.getElem?_toList]
   have:=congrArg (·[0]?) hd
   simpa using this
  have hkl:k < ops.size:=(Array.getElem?_eq_some_iff.1 ho).1
  have hd':ops.toList.drop (k+1)=rest:=by
   rw [← List.drop_drop,hd];rfl
  obtain ⟨v,h',har,hanch,hF',hrest⟩:=hw
  obtain ⟨vs,hs,h0,h1,h2⟩:=draw_seq rest (k+1) _ h' hd' (by omega) hrest
  have hdst:dstAt ops k=o.dst:=by simp [dstAt,ho]
  let vs':Nat→AV:=fun w=>if w=k then v else vs w
  let hs':Nat→AH:=fun w=>if w≤k then h else hs w
  have key:∀ m,fE ops vs' (fun w=>decide (k≤w)) env (k+1+m)=fE ops vs (fun w=>decide (k+1≤w)) (setd env o.dst v) (k+1+m):=by
   intro m
   induction m with
   | zero =>
    simp only [Nat.add_zero]
    rw [fE_none (S:=fun w=>decide (k+1≤w)) (k+1) fun w hw=>by simp;omega]
    simp only [fE,Nat.le_refl,decide_true,if_true,hdst]
    rw [fE_none (S:=fun w=>decide (k≤w)) k fun w hw=>by simp;omega]
    simp [vs']
   | succ m ih =>
    rw [← Nat.add_assoc]
    simp only [fE,ih]
    have e1:decide (k≤k+1+m)=true:=by simp;omega
    have e2:decide (k+1≤k+1+m)=true:=by simp
    have e3:vs' (k+1+m)=vs (k+1+m):=by simp only [vs'];rw [if_neg (by omega)]
    simp only [e1,e2,e3]
  refine ⟨vs',hs',by simp [hs'],fun i o' hi ho'=>?_,?_⟩
  ·rcases Nat.eq_or_lt_of_le hi with rfl | hi
   ·rw [ho] at ho';injection ho' with ho';subst ho'
    rw [fE_none (S:=fun w=>decide (k≤w)) k fun w hw=>by simp;omega]
    have e1:hs' k=h:=by simp [hs']
    have e2:hs' (k+1)=h':=by simp only [hs'];rw [if_neg (by omega),h0]
    have e3:vs' k=v:=by simp [vs']
    rw [e1,e2,e3]
    exact ⟨har,hanch,hF'⟩
   ·obtain ⟨m,rfl⟩:∃ m,i=k+1+m:=⟨i - (k+1),by omega⟩
    rw [key m]
    have e1:hs' (k+1+m)=hs (k+1+m):=by simp only [hs'];rw [if_neg (by omega)]
    have e2:hs' (k+1+m+1)=hs (k+1+m+1):=by simp only [hs'];rw [if_neg (by omega)]
    have e3:vs' (k+1+m)=vs (k+1+m):=by simp only [vs'];rw [if_neg (by omega)]
    rw [e1,e2,e3]
    exact h1 _ _ (by omega) ho'
  ·obtain ⟨m,hm⟩:∃ m,ops.size=k+1+m:=⟨ops.size - (k+1),by omega⟩
   rw [hm,key m,← hm]
   have e1:hs' ops.size=hs ops.size:=by simp only [hs'];rw [if_neg (by omega)]
   rw [e1];exact h2

theorem draw_sound (hok:drawOk ops Ns=true) {Q:Exit→Act→World→Prop} {vs:Nat→AV} {hs:Nat→AH} {env:List AV}
  (hFs:∀ n,F n (hs 0)) (hc:∀ i o,ops[i]?=some o→ARN P ops Ns F i o (fE ops vs (fun _=>true) env i) (hs i) (vs i) (hs (i+1))∧(anch ops Ns i=true ∨ (hs (i+1)).blks=(hs i).blks)∧(hs (i+1)=hs i ∨ FOk ((Region.before ops).getD i 0) Ns F (hs (i+1))))
  (hQ:∀ a w,St B w0 g0 D (fE ops vs (fun _=>true) env ops.size) (hs ops.size) a w→Q .normal a w) :
  ∀ (fuel:Nat) (listed:Array Bool) (a:Act) (w:World),listed.size=ops.size→(List.range ops.size).countP (fun i=>!listed.getD i false)≤fuel →
   (∀ i j,listed.getD i false=true→((Region.before ops).getD i 0).testBit j=true→listed.getD j false=true) →
   St B w0 g0 D (fE ops vs (fun i=>listed.getD i false) env ops.size) (fH ops Ns hs (fun i=>listed.getD i false) ops.size) a w →
   wpAnyIn (WF ro) n P .any ops Q fuel listed a w:=by
 have hn:∀ k,wt ops Ns k=false→k < ops.size→hs (k+1)=hs k:=fun k he hk=>by
  have ho:ops[k]?=some ops[k]:=Array.getElem?_eq_getElem hk
  exact ARN.still (by simpa [wt,ho] using he) (hc k _ ho).1
 -- beyond the region nothing is asked
 let hs2:Nat→AH:=fun k=>if k≤ops.size then hs k else hs ops.size
 have hs2e:∀ k,k≤ops.size→hs2 k=hs k:=fun k hk=>by simp only [hs2];rw [if_pos hk]
 have hn2:∀ k,wt ops Ns k=false→hs2 (k+1)=hs2 k:=fun k he=>by
  simp only [hs2]
  rcases Nat.lt_or_ge k ops.size with hk | hk
  ·rw [if_pos (by omega),if_pos (by omega)];exact hn k he hk
  ·rw [if_neg (by omega)]
   split
   ·rw [show k=ops.size by omega]
   ·rfl
 have fH2:∀ (S:Nat→Bool) k,k≤ops.size→fH ops Ns hs S k=fH ops Ns hs2 S k:=fun S k=>by
  induction k with
  | zero=>intro _;simp only [fH];exact (hs2e 0 (by omega)).symm
  | succ k ih=>intro hk;simp only [fH,ih (by omega),hs2e (k+1) hk]
 -- all has come
 have fin:∀ (listed:Array Bool) (a:Act) (w:World),listed.size=ops.size→Region.ready .any ops listed=[] →
   St B w0 g0 D (fE ops vs (fun i=>listed.getD i false) env ops.size) (fH ops Ns hs (fun i=>listed.getD i false) ops.size) a w→Q .normal a w:=by
  intro listed a w hsz hr hst
  have hall:∀ i,i < ops.size→listed.getD i false=true:=by
   intro i
   induction i using Nat.strongRecOn with
   | _ i ih =>
    intro hi
    rcases hb:listed.getD i false with _ | _
    ·exfalso
     have:i ∈ Region.ready .any ops listed:=by
      unfold Region.ready
      rw [List.mem_filter]
      refine ⟨by simpa using hi,?_⟩
      have h1:listed.getD i true=false:=by
       have hi':i < listed.size:=by omega
       simp [Array.getD_eq_getD_getElem?,Array.getElem?_eq_getElem hi'] at hb ⊢;exact hb
      have ho:ops[i]?=some ops[i]:=Array.getElem?_eq_getElem hi
      simp only [h1,Bool.not_false,ho,Option.map_some,Option.getD_some,Bool.true_and]
      rw [Array.all_eq_true_iff_forall_mem]
      intro e he
      cases hbe:Region.binds .any e with
      | false=>rfl
      | true =>
       have hlt:=drawOk_edge hok ho e he hbe
       simp [ih e.on hlt (by omega)]
     rw [hr] at this;cases this
    ·rfl
  refine hQ a w ?_
  rw [fE_eq (T:=fun _=>true) ops.size fun w hw=>hall w hw] at hst
  rw [fH2 _ _ (Nat.le_refl _),fH_all hn2 ops.size fun e he _=>hall e he,hs2e _ (Nat.le_refl _)] at hst
  exact hst
 intro fuel
 induction fuel with
 | zero =>
  intro listed a w hsz hcnt hcl hst
  have hr:Region.ready .any ops listed=[]:=by
   rcases hrr:Region.ready .any ops listed with _ | ⟨i,r⟩
   ·rfl
   ·exfalso
    have hi:i ∈ Region.ready .any ops listed:=by rw [hrr];simp
    unfold Region.ready at hi
    rw [List.mem_filter] at hi
    have h1:listed.getD i true=false:=by
     have:=hi.2;simp only [Bool.and_eq_true,Bool.not_eq_true'] at this;exact this.1
    have hlt:i < ops.size:=by simpa using hi.1
    have h2:listed.getD i false=false:=by
     have hi':i < listed.size:=by omega
     simp [Array.getD_eq_getD_getElem?,Array.getElem?_eq_getElem hi'] at h1 ⊢;exact h1
    have:0 < (List.range ops.size).countP (fun i=>!listed.getD i false):=List.countP_pos_iff.2 ⟨i,by simpa using hlt,by simp [h2]⟩
    omega
  exact ⟨hr,fin listed a w hsz hr hst⟩
 | succ fuel ih =>
  intro listed a w hsz hcnt hcl hst
  refine ⟨fun hr=>fin listed a w hsz hr hst,fun i hi=>?_⟩
  unfold Region.ready at hi
  rw [List.mem_filter] at hi
  have hlt:i < ops.size:=by simpa using hi.1
  have ho:ops[i]?=some ops[i]:=Array.getElem?_eq_getElem hlt
  generalize hoo:ops[i]=o at ho
  have hi2:=hi.2
  simp only [ho,Option.map_some,Option.getD_some,Bool.and_eq_true,Bool.not_eq_true'] at hi2
  have hil:i < listed.size:=by omega
  have hSi:listed.getD i false=false:=by
   have h1:=hi2.1
   simp [Array.getD_eq_getD_getElem?,Array.getElem?_eq_getElem hil] at h1 ⊢;exact h1
  have hedge:∀ e ∈ o.after,Region.binds .any e=true→listed.getD e.on false=true:=fun e he hb=>by
   have:=Array.all_eq_true_iff_forall_mem.1 hi2.2 e he
   simpa [hb] using this
  have hanc:∀ w,((Region.before ops).getD i 0).testBit w=true→listed.getD w false=true:=fun w hw=>by
   obtain ⟨e,he,hb,hh⟩:=before_spec ho hw
   rcases hh with rfl | ⟨_,h2⟩
   ·exact hedge e he hb
   ·exact hcl e.on w (hedge e he hb) h2
  generalize hS:(fun w=>listed.getD w false)=S at hst
  have hSd:∀ w,S w=listed.getD w false:=fun w=>by rw [← hS]
  have hSi':S i=false:=by rw [hSd];exact hSi
  let T:Nat→Bool:=fun w=>decide (w < i)
  have hcmp:∀ w,w ≠ i→cmpb (Region.before ops) w i=true→S w=T w:=fun w _ hc'=>by
   simp only [cmpb,Bool.or_eq_true] at hc'
   rcases hc' with h1 | h1
   ·have:=before_lt hok i w h1
    rw [hSd,hanc w h1];simp [T,this]
   ·have h2:=before_lt hok w i h1
    have:S w=false:=by
     rcases hw:S w with _ | _
     ·rfl
     ·rw [hSd] at hw;have:=hcl w i hw h1;rw [hSi] at this;cases this
    rw [this];simp [T];omega
  -- what it looks at is as it was in the text's order
  have hTn:fE ops vs T env ops.size=fE ops vs (fun _=>true) env i:=by
   obtain ⟨m,hm⟩:∃ m,ops.size=i+m:=⟨ops.size - i,by omega⟩
   rw [hm,fE_stop (S:=T) (fun w hw=>by simp [T];omega) m]
   exact fE_eq i fun w hw=>by simp [T,hw]
  have hEnv:∀ t ∈ o.looksAt ops,(fE ops vs S env ops.size)[t]?=(fE ops vs (fun _=>true) env i)[t]?:=fun t ht=>by
   rw [← hTn]
   refine fE_at ops.size fun w hw hd=>?_
   by_cases hwi:w=i
   ·subst hwi;rw [hSi'];simp [T]
   ·cases hcb:cmpb (Region.before ops) w i with
    | true=>exact hcmp w hwi hcb
    | false =>
     have how:ops[w]?=some ops[w]:=Array.getElem?_eq_getElem hw
     have:=(drawOk_pair hok how ho hwi hcb).1 t (by simpa [dstAt,how] using hd)
     exact absurd ht this.1
  obtain ⟨hAR,hblk,_⟩:=hc i o ho
  have hgE:aG ops o (fE ops vs S env ops.size)=aG ops o (fE ops vs (fun _=>true) env i):=aG_congr hEnv
  have hsE:∀ h',zN P o (fE ops vs S env ops.size) h'=zN P o (fE ops vs (fun _=>true) env i) h':=fun h'=>astep_congr fun x hx=>ev_congr fun t ht=>hEnv t (looks_op (ht ▸ hx))
  have hsB:∀ h',bstep P o (fE ops vs S env ops.size) h'=bstep P o (fE ops vs (fun _=>true) env i) h':=fun h'=>bstep_congr fun x hx=>ev_congr fun t ht=>hEnv t (looks_op (ht ▸ hx))
  have hAR2:ARN P ops Ns F i o (fE ops vs S env ops.size) (hs i) (vs i) (hs (i+1)):=by
   rcases hAR with ⟨h1,h2⟩ | ⟨h1,h2,h3,h4⟩ | ⟨h1,hbd,h2,h3⟩
   ·refine .inl ⟨h1,?_⟩
    unfold AR at h2 ⊢
    rw [hgE,hsE];exact h2
   ·exact .inr (.inl ⟨h1,by rw [hgE];exact h2,h3,h4.imp (fun ⟨f,args,h5,h6⟩=>⟨f,args,fun h2=>by rw [hsE];exact h5 h2,h6⟩) (fun h5 h2 hf=>by rw [hsE];exact h5 h2 hf)⟩)
   ·exact .inr (.inr ⟨h1,hbd,by rw [hgE];exact h2,by rw [hsB];exact h3⟩)
  have heff:wt ops Ns i=effN Ns i o.op:=by simp [wt,ho]
  -- effects are in a row
  have pS:∀ e e',e < e'→e' < ops.size→wt ops Ns e=true→wt ops Ns e'=true→S e'=true→S e=true:=fun e e' h1 h2 h3 h4 h5=>by
   have oe:ops[e]?=some ops[e]:=Array.getElem?_eq_getElem (by omega)
   have oe':ops[e']?=some ops[e']:=Array.getElem?_eq_getElem h2
   cases hcb:cmpb (Region.before ops) e e' with
   | true =>
    simp only [cmpb,Bool.or_eq_true] at hcb
    rcases hcb with h6 | h6
    ·rw [hSd] at h5 ⊢;exact hcl e' e h5 h6
    ·have:=before_lt hok e e' h6;omega
   | false =>
    have h7:=(drawOk_pair hok oe oe' (by omega) hcb).2 (by simpa [wt,oe] using h3)
    simp [wt,oe',h7] at h4
  have pT:∀ e e',e < e'→e' < ops.size→wt ops Ns e=true→wt ops Ns e'=true→T e'=true→T e=true:=fun e e' h1 _ _ _ h5=>by
   simp [T] at h5 ⊢;omega
  have effS:effN Ns i o.op=true→∀ e,e < ops.size→wt ops Ns e=true→S e=T e:=fun hE e he1 he2=>by
   by_cases hei:e=i
   ·subst hei;rw [hSi'];simp [T]
   ·have oe:ops[e]?=some ops[e]:=Array.getElem?_eq_getElem he1
    cases hcb:cmpb (Region.before ops) e i with
    | true=>exact hcmp e hei hcb
    | false =>
     have h7:=(drawOk_pair hok oe ho hei hcb).2 (by simpa [wt,oe] using he2)
     rw [h7] at hE;cases hE
  have hTH:fH ops Ns hs2 T ops.size=hs i:=by
   obtain ⟨m,hm⟩:∃ m,ops.size=i+m:=⟨ops.size - i,by omega⟩
   rw [hm,fH_stop (S:=T) (fun w hw _=>by simp [T];omega) m,fH_all hn2 i fun e he _=>by simp [T,he]]
   exact hs2e i (by omega)
  -- the new list
  have hS':∀ w,(listed.setIfInBounds i true).getD w false=(w==i || S w):=fun w=>by
   rw [hSd]
   by_cases hw:w=i
   ·subst hw;simp [Array.getD_eq_getD_getElem?,hil]
   ·have h1:(w==i)=false:=by simpa using hw
    simp [Array.getD_eq_getD_getElem?,h1,Array.getElem?_setIfInBounds_ne (fun e=>hw e.symm)]
  have hfS':(fun w=>(listed.setIfInBounds i true).getD w false)=fun w=>(w==i || S w):=funext hS'
  -- the frame behind it
  have hE':fE ops vs (fun w=>(w==i || S w)) env ops.size=setd (fE ops vs S env ops.size) o.dst (vs i):=by
   apply List.ext_getElem?
   intro t
   by_cases hdt:o.dst=some t
   ·rw [hdt]
    simp only [setd]
    rcases Nat.lt_or_ge t env.length with htl | htl
    ·rw [List.getElem?_set_self (by rw [fE_len];exact htl)]
     refine fE_last (i:=i) (by simp) (by simp [dstAt,ho,hdt]) htl hlt fun w hw1 hw2 hw3=>?_
     have h1:(w==i)=false:=by simp;omega
     simp only [h1,Bool.false_or]
     have how:ops[w]?=some ops[w]:=Array.getElem?_eq_getElem hw2
     cases hcb:cmpb (Region.before ops) w i with
     | true=>rw [hcmp w (by omega) hcb];simp [T];omega
     | false =>
      have:=(drawOk_pair hok how ho (by omega) hcb).1 t (by simpa [dstAt,how] using hw3)
      exact absurd hdt this.2
    ·rw [List.getElem?_eq_none (by rw [fE_len];exact htl),List.getElem?_eq_none (by rw [List.length_set,fE_len];exact htl)]
   ·rw [setd_get_ne hdt]
    refine fE_at ops.size fun w hw hd=>?_
    by_cases hwi:w=i
    ·subst hwi;simp [dstAt,ho] at hd;exact absurd hd hdt
    ·have h1:(w==i)=false:=by simpa using hwi
     simp [h1]
  -- the heap behind it
  have hst2:=hst
  generalize hX:fH ops Ns hs S ops.size=hx at hst
  have hFx:Ns.contains i=true→F i hx:=fun hNi=>by
   -- an effect that has come is none that waits for this one
   have hA:∀ k,k≤ops.size→(∀ e,e < k→wt ops Ns e=true→S e=true)→F i (hs k):=fun k=>by
    induction k with
    | zero=>intro _ _;exact hFs i
    | succ k ih =>
     intro hk he
     have ihk:=ih (by omega) fun e h1 h2=>he e (by omega) h2
     have ok:ops[k]?=some ops[k]:=Array.getElem?_eq_getElem (by omega)
     rcases (hc k _ ok).2.2 with h1 | h1
     ·rw [h1];exact ihk
     ·cases hE:wt ops Ns k with
      | false=>rw [hn k hE (by omega)];exact ihk
      | true =>
       refine h1 i hNi ?_
       rcases hb:((Region.before ops).getD k 0).testBit i with _ | _
       ·rfl
       ·have h2:=he k (by omega) hE
        rw [hSd] at h2
        have:=hcl k i h2 hb
        rw [hSi] at this;cases this
   rw [← hX]
   have:∀ k,k≤ops.size→F i (fH ops Ns hs S k):=fun k=>by
    induction k with
    | zero=>intro _;exact hFs i
    | succ k ih =>
     intro hk
     simp only [fH]
     split
     ·rename_i hh
      simp only [Bool.and_eq_true] at hh
      refine hA (k+1) hk fun e h1 h2=>?_
      rcases Nat.lt_or_eq_of_le (Nat.lt_succ_iff.1 h1) with h3 | rfl
      ·exact pS e k h3 (by omega) h2 hh.2 hh.1
      ·exact hh.1
     ·exact ih (by omega)
   exact this _ (Nat.le_refl _)
  have hAR3:∃ h',ARN P ops Ns F i o (fE ops vs S env ops.size) hx (vs i) h'∧fH ops Ns hs (fun w=>(w==i || S w)) ops.size=h':=by
   cases hE:effN Ns i o.op with
   | true =>
    have h1:hx=hs i:=by rw [← hX,fH2 _ _ (Nat.le_refl _),fH_eq ops.size (effS hE),hTH]
    refine ⟨hs (i+1),by rw [h1];exact hAR2,?_⟩
    rw [fH2 _ _ (Nat.le_refl _)]
    obtain ⟨m,hm⟩:∃ m,ops.size=i+1+m:=⟨ops.size - (i+1),by omega⟩
    rw [hm,fH_stop (fun w hw hwe=>?_) m]
    ·simp only [fH]
     have:((i==i || S i)&&wt ops Ns i)=true:=by simp [heff,hE]
     rw [this];simp only [if_true];exact hs2e (i+1) (by omega)
    ·have h2:(w==i)=false:=by simp;omega
     simp only [h2,Bool.false_or]
     rcases Nat.lt_or_ge w ops.size with hwl | hwl
     ·rw [effS hE w hwl hwe];simp [T];omega
     ·have:wt ops Ns w=false:=by simp [wt,Array.getElem?_eq_none hwl]
      rw [this] at hwe;cases hwe
   | false =>
    have h1:fH ops Ns hs (fun w=>(w==i || S w)) ops.size=hx:=by
     rw [← hX]
     refine fH_eq ops.size fun e _ hee=>?_
     have:e ≠ i:=by rintro rfl;rw [heff,hE] at hee;cases hee
     have h2:(e==i)=false:=by simpa using this
     simp [h2]
    refine ⟨hx,?_,h1⟩
    have hb:Ns.contains i=false→isRd o.op=true→hx.blks=(hs i).blks:=fun hNi hrd=>by
     rw [← hX,fH2 _ _ (Nat.le_refl _),← hTH]
     refine fH_blks hn2 ops.size (fun e he1 he2 hne=>?_) pS pT
     rw [hs2e _ (by omega),hs2e _ (by omega)]
     have oe:ops[e]?=some ops[e]:=Array.getElem?_eq_getElem he1
     rcases (hc e _ oe).2.1 with han | hbb
     ·exfalso
      unfold anch at han
      simp only [List.all_eq_true] at han
      have hm:(o,i) ∈ ops.toList.zipIdx:=by rw [List.mem_zipIdx_iff_getElem?];simpa using ho
      have h3:=han (o,i) hm
      have hei:e ≠ i:=by rintro rfl;rw [heff,hE] at he2;cases he2
      have hei':(e==i)=false:=by simpa using hei
      simp only [hei',hrd,hNi,Bool.not_true,Bool.or_false,Bool.false_or] at h3
      exact hne (hcmp e hei h3)
     ·exact hbb
    rcases hAR2 with ⟨hN,hAR2⟩ | ⟨hN,q1,q2,q3⟩ | ⟨hN,hbd,q1,q2⟩
    rotate_left
    ·exact .inr (.inl ⟨hN,q1,rfl,q3⟩)
    ·simp only [effN,hN,Bool.not_false,Bool.and_true] at hE
     exact .inr (.inr ⟨hN,hbd,q1,(bstep_still hE hbd q2).2 hx⟩)
    have hb:=hb hN
    have hE:isEff o.op=false:=by simp only [effN,hN,Bool.not_false,Bool.and_true] at hE;exact hE
    have h0:hs (i+1)=hs i:=AR.still hE hAR2
    refine .inl ⟨hN,?_⟩
    unfold AR at hAR2 ⊢
    split at hAR2
    ·rcases astep_still (P:=P) (env:=fE ops vs S env ops.size) (h:=hs i) hE with ⟨x,hx'⟩ | ⟨m,u,hx'⟩ | hx'
     ·rw [hx' (hs i) fun _=>rfl] at hAR2
      rw [hx' hx hb]
      cases x with
      | none=>exact hAR2.elim
      | some v'=>exact ⟨hAR2.1,rfl⟩
     ·rw [hx' (hs i)] at hAR2
      rw [hx' hx]
      exact ⟨hAR2.1,rfl⟩
     ·rcases hx' (hs i) with ⟨S,hS⟩ | hS <;> (rw [hS] at hAR2;exact hAR2.elim)
    ·exact ⟨hAR2.1,rfl⟩
    ·exact hAR2.elim
  obtain ⟨h',hAR4,hH'⟩:=hAR3
  have cnt:(List.range ops.size).countP (fun j=>!(listed.setIfInBounds i true).getD j false)≤fuel:=by
   have:=count_lt (p:=fun j=>!(listed.setIfInBounds i true).getD j false) (q:=fun j=>!listed.getD j false) (List.range ops.size)
    (fun x _ hx=>by simp only [hS',Bool.not_eq_true',Bool.or_eq_false_iff] at hx ⊢;rw [← hSd];exact hx.2)
    ⟨i,by simpa using hlt,by simp [hSi],by simp [hS']⟩
   omega
  have cl':∀ x y,(listed.setIfInBounds i true).getD x false=true→((Region.before ops).getD x 0).testBit y=true→(listed.setIfInBounds i true).getD y false=true:=fun x y h1 h2=>by
   rw [hS'] at h1 ⊢
   simp only [Bool.or_eq_true,beq_iff_eq] at h1 ⊢
   right
   rcases h1 with rfl | h1
   ·rw [hSd];exact hanc y h2
   ·rw [hSd] at h1 ⊢;exact hcl x y h1 h2
  have go:∀ (a':Act) (w':World),St B w0 g0 D (setd (fE ops vs S env ops.size) o.dst (vs i)) h' a' w'→wpAnyIn (WF ro) n P .any ops Q fuel (listed.setIfInBounds i true) a' w':=fun a' w' hs' =>
   ih _ a' w' (by simp [hsz]) cnt cl' (by rw [hfS',hE',hH'];exact hs')
  unfold wpOpIn
  simp only [ho]
  have hst':=hst
  obtain ⟨g,hg,r,he,hD⟩:=hst'
  rcases hAR4 with ⟨_,hAR4⟩ | ⟨hNi,q1,q2,q3⟩ | ⟨_,_,q1,q2⟩
  rotate_left
  ·rw [qH he q1]
   simp only [if_true]
   refine step_sound (K:=fun v h1=>v=vs i∧h1=h') hst ?_ ?_
   ·rcases q3 with ⟨f,args,q3,q4⟩ | q4
    ·rw [q3 hx,q2];exact q4 hx (hFx hNi)
    ·rw [q4 hx (hFx hNi)];exact ⟨rfl,q2.symm⟩
   ·rintro v h1 u w' ⟨rfl,rfl⟩ ⟨g',k1,k2,k3,k4⟩
    exact go _ w' ⟨g',k1,k2,k3.setd o.dst k4,by rw [vY];exact hD⟩
  ·rw [qH he q1]
   simp only [if_true]
   refine bstep_sound (K:=fun v h1=>v=vs i∧h1=h') hst (.inl ⟨_,q2,fun p hp=>?_⟩) ?_
   ·simp only [List.mem_singleton] at hp;subst hp;exact ⟨rfl,rfl⟩
   ·rintro v h1 u w' ⟨rfl,rfl⟩ ⟨g',k1,k2,k3,k4⟩
    exact go _ w' ⟨g',k1,k2,k3.setd o.dst k4,by rw [vY];exact hD⟩
  unfold AR at hAR4
  split at hAR4
  ·rename_i hgd
   rw [qH he hgd]
   simp only [if_true]
   refine step_sound (K:=fun v h1=>v=vs i∧h1=h') hst ?_ ?_
   ·cases hst3:zN P o (fE ops vs S env ops.size) hx with
    | ok v1 h1=>rw [hst3] at hAR4;exact ⟨hAR4.1.symm,hAR4.2.symm⟩
    | len m v1 h1=>rw [hst3] at hAR4;exact fun _=>⟨hAR4.1.symm,hAR4.2.symm⟩
    | call f args=>rw [hst3] at hAR4;exact hAR4
    | round id args=>rw [hst3] at hAR4;exact hAR4
    | any S=>rw [hst3] at hAR4;exact hAR4.elim
    | fail=>rw [hst3] at hAR4;exact hAR4
   ·rintro v h1 u w' ⟨rfl,rfl⟩ ⟨g',k1,k2,k3,k4⟩
    exact go _ w' ⟨g',k1,k2,k3.setd o.dst k4,by rw [vY];exact hD⟩
  ·rename_i hgd
   rw [qH he hgd]
   simp only [Bool.false_eq_true,if_false]
   refine ⟨fun _ _=>trivial,go _ w ⟨g,hg,by rw [hAR4.2];exact r,?_,by rw [vY];exact hD⟩⟩
   rw [hAR4.1];exact he.setd o.dst V.ofUndef
  ·exact hAR4.elim
end
end Go.Vv
